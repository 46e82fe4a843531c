/- Walks of the reference of the polygon files: digits, value. Walks of the reference of the polygon files: numbers. -/
import Derived.Test.YtojdgdeefhndiaaGreatDoorM9
namespace Go.Proofs.YtojdgdeefhndiaaGreatDoor
open Go Go.RowKit Sp
set_option maxRecDepth 100000
namespace Sp
def digitsS (w : Bytes) : Nat := if isNum w then (unminus w).length else 0
theorem unminus_snoc {l : Bytes} {c : UInt8} (h : ¬ (c = 45 ∧ l = [])) : unminus (l ++ [c]) = unminus l ++ [c] := by
  cases l with
  | nil =>
    have hc : c ≠ 45 := fun e => h ⟨e, rfl⟩
    simp [unminus, hc]
  | cons d r =>
    rw [List.cons_append]
    by_cases e : d = 45
    · simp [unminus, e]
    · simp [unminus, e]
theorem unminus_minus : unminus [45] = [] := by simp [unminus]
theorem unminus_take {l : Bytes} {k : Nat} (hk : k < l.length) (h : ¬ (l[k] = 45 ∧ k = 0)) : unminus (l.take (k + 1)) = unminus (l.take k) ++ [l[k]] := by
  rw [List.take_succ_eq_append_getElem hk]
  refine unminus_snoc (fun ⟨a, b⟩ => h ⟨a, ?_⟩)
  have := congrArg List.length b
  rw [List.length_take, List.length_nil] at this
  omega
theorem unminus_mem {l : Bytes} {k : Nat} (hk : k < l.length) (h : ¬ (l[k] = 45 ∧ k = 0)) : l[k] ∈ unminus l := by
  have h1 := unminus_take hk h
  have : ∀ (a b : Bytes), a ≠ [] → ∀ x, x ∈ unminus a → x ∈ unminus (a ++ b) := by
    intro a b ha x hx
    cases a with
    | nil => exact absurd rfl ha
    | cons d r =>
      rw [List.cons_append]
      by_cases e : d = 45
      · simp only [unminus, e, if_true] at hx ⊢; exact List.mem_append_left _ hx
      · simp only [unminus, e, if_false] at hx ⊢
        rw [← List.cons_append]; exact List.mem_append_left _ hx
  have h2 := this (l.take (k + 1)) (l.drop (k + 1)) (fun e => by have := congrArg List.length e; rw [List.length_take, List.length_nil] at this; omega) l[k] (by rw [h1]; simp)
  rwa [List.take_append_drop] at h2
theorem isDig_no {c : UInt8} (h : isDig c = false) : c.toNat < 48 ∨ 57 < c.toNat := by
  unfold isDig at h; simp at h; omega
theorem isNum_bad {l : Bytes} {c : UInt8} (h : c ∈ unminus l) (hc : isDig c = false) : isNum l = false := by
  unfold isNum
  rw [Bool.and_eq_false_iff]
  right
  rw [List.all_eq_false]
  exact ⟨c, h, by simp [hc]⟩
end Sp
set_option maxHeartbeats 1000000 in
theorem digits_any (l : Bytes) (hl : l.length ≤ 4294967296) (w : World) : Calls Tryz.prog 90 #[.string (bs l)] w fun en w' => en = .returned (.int .i64 (digitsS l)) ∧ w = w' := by
  have hb : (bs l).size = l.length := bs_size l
  go_enter Tryz.func90, Tryz.ntmps90
  go_wp2_with fail
  go_loop [2, 3, 4] (fun _ n i => ∃ k : Nat, i = .int .i64 k ∧ k ≤ l.length ∧ n = .int .i64 ((unminus (l.take k)).length : Nat) ∧ (unminus (l.take k)).all isDig = true) (fun _ _ i => l.length - (intOf i).toNat)
  case atStart => exact ⟨0, rfl, Nat.zero_le _, rfl, rfl⟩
  case round =>
    obtain ⟨k, rfl, hk, rfl, hd⟩ := hrel
    have HD := Lib.hid hd
    clear hd
    by_cases hlt : k < l.length
    · have hlt' : ((k : Nat) : Int) < ((l.length : Nat) : Int) := by omega
      have hget : (bs l)[k]'(by rw [hb]; exact hlt) = l[k] := bs_get l k hlt
      have hub : (((unminus (l.take k)).length : Nat) : Int) ≤ 4294967296 := by have := unminus_le (l.take k); have := List.length_take_le k l; omega
      by_cases hm : l[k] = 45 ∧ k = 0
      · obtain ⟨hm1, rfl⟩ := hm
        have e1 : ((((bs l)[0]'(by rw [hb]; exact hlt)).toNat : Int) == 45) = true := by rw [hget, hm1]; rfl
        have ht : Hid ((unminus (l.take 1)) = []) := by
          show _ = _
          rw [List.take_succ_eq_append_getElem hlt, hm1]; rfl
        clear hget hm1
        go_wp2_with fail
        refine ⟨⟨1, rfl, by omega, by rw [ht.out]; rfl, by rw [ht.out]; rfl⟩, by simp [intOf]; omega⟩
      · have ht := Lib.hid (unminus_take hlt hm)
        have hmem := Lib.hid (unminus_mem hlt hm)
        generalize hc : l[k] = c at *
        clear hc
        by_cases h45 : c = 45
        · have hk0 : ¬ k = 0 := fun e => hm ⟨h45, e⟩
          have e1 : (((c.toNat : Nat) : Int) == 45) = true := by rw [h45]; rfl
          have e2 : (((k : Nat) : Int) == 0) = false := by rw [beq_eq_false_iff_ne]; omega
          have e3 : ((c.toNat : Nat) : Int) < 48 := by rw [h45]; decide
          have hr : Hid (digitsS l = 0) := by
            show _ = _; unfold digitsS; rw [isNum_bad hmem.out (by rw [h45]; decide)]; rfl
          clear hm h45 hk0
          go_wp2_with fail
          go_ret
          exact ⟨by rw [hr.out]; rfl, rfl⟩
        · have e1 : (((c.toNat : Nat) : Int) == 45) = false := by
            rw [beq_eq_false_iff_ne]; intro e; exact h45 (by rw [← UInt8.toNat_inj]; exact_mod_cast e)
          clear hm h45
          rcases hdg : isDig c with _ | _
          · have hr : Hid (digitsS l = 0) := by
              show _ = _; unfold digitsS; rw [isNum_bad hmem.out hdg]; rfl
            rcases isDig_no hdg with h | h
            · have e3 : ((c.toNat : Nat) : Int) < 48 := by omega
              clear h hdg
              go_wp2_with fail
              go_ret
              exact ⟨by rw [hr.out]; rfl, rfl⟩
            · have e3 : ¬ ((c.toNat : Nat) : Int) < 48 := by omega
              have e4 : (57 : Int) < ((c.toNat : Nat) : Int) := by omega
              clear h hdg
              go_wp2_with fail
              go_ret
              exact ⟨by rw [hr.out]; rfl, rfl⟩
          · have hd2 : 48 ≤ c.toNat ∧ c.toNat ≤ 57 := by simpa [isDig] using hdg
            have e3 : ¬ ((c.toNat : Nat) : Int) < 48 := by omega
            have e4 : ¬ (57 : Int) < ((c.toNat : Nat) : Int) := by omega
            have hn : Hid ((unminus (l.take (k + 1))).length = (unminus (l.take k)).length + 1) := by show _ = _; rw [ht.out]; simp
            have hall : Hid ((unminus (l.take (k + 1))).all isDig = true) := by show _ = _; rw [ht.out, List.all_append, HD.out]; simp [hdg]
            clear hd2 hdg
            generalize (unminus (l.take k)).length = n at *
            go_wp2_with fail
            refine ⟨⟨k + 1, by go_num, hlt, by rw [hn.out]; go_num, hall.out⟩, by simp [intOf]; omega⟩
    · obtain rfl : k = l.length := by omega
      have hr : Hid (digitsS l = (unminus (l.take l.length)).length) := by
        show _ = _
        have := HD.out
        rw [List.take_length] at this ⊢
        unfold digitsS isNum
        rw [this]
        cases hu : unminus l <;> simp
      generalize (unminus (l.take l.length)).length = n at *
      go_wp2_with fail
      go_ret
      exact ⟨by rw [hr.out]; rfl, rfl⟩
namespace Sp
theorem natOf_snoc (a : Bytes) (c : UInt8) : natOf (a ++ [c]) = 10 * natOf a + (c.toNat - 48) := by unfold natOf; simp
theorem unminus_take_len {l : Bytes} {k : Nat} (hk : k ≤ l.length) : (unminus (l.take k)).length ≤ (unminus l).length := by
  cases l with
  | nil => simp
  | cons d r =>
    cases k with
    | zero => simp [unminus]
    | succ k =>
      by_cases e : d = 45
      · simp [unminus, e]; omega
      · simp [unminus, e]; omega
theorem isNum_dig {l : Bytes} {c : UInt8} (h : isNum l = true) (hm : c ∈ unminus l) : isDig c = true := by
  unfold isNum at h
  rw [Bool.and_eq_true, List.all_eq_true] at h
  exact h.2 c hm
theorem isNum_ne {l : Bytes} (h : isNum l = true) : 0 < l.length := by
  cases l with
  | nil => simp [isNum, unminus] at h
  | cons c r => simp
theorem valOf_get {l : Bytes} (h : 0 < l.length) : Sp.valOf l = if l[0] = 45 then - (natOf (unminus l) : Int) else (natOf (unminus l) : Int) := by
  cases l with
  | nil => simp at h
  | cons c r => unfold Sp.valOf; simp
end Sp
set_option maxHeartbeats 1000000 in
theorem value_any (l : Bytes) (hl : l.length ≤ 4294967296) (h1 : isNum l = true) (h2 : Sp.long l = false) (w : World) : Calls Tryz.prog 91 #[.string (bs l)] w fun en w' => en = .returned (.int .i64 (Sp.valOf l)) ∧ w = w' := by
  have hb : (bs l).size = l.length := bs_size l
  have H1 := Lib.hid h1
  have h15 : (unminus l).length ≤ 15 := by unfold Sp.long at h2; simpa using h2
  have H15 := Lib.hid h15
  have hpos := isNum_ne h1
  have hv := Lib.hid (valOf_get hpos)
  clear h1 h2 h15
  go_enter Tryz.func91, Tryz.ntmps91
  go_wp2_with fail
  go_loop [3, 4] (fun n i => ∃ k : Nat, i = .int .i64 k ∧ k ≤ l.length ∧ n = .int .i64 (natOf (unminus (l.take k)) : Nat)) (fun _ i => l.length - (intOf i).toNat)
  case atStart => exact ⟨0, rfl, Nat.zero_le _, rfl⟩
  case round =>
    obtain ⟨k, rfl, hk, rfl⟩ := hrel
    have hbd : ((natOf (unminus (l.take k)) : Nat) : Int) ≤ 1000000000000000 := by
      have a1 : (unminus (l.take k)).all isDig = true := by
        rw [List.all_eq_true]
        intro x hx
        refine isNum_dig H1.out ?_
        have : ∀ (a b : Bytes), ∀ y, y ∈ unminus a → y ∈ unminus (a ++ b) := by
          intro a b y hy
          cases a with
          | nil => simp [unminus] at hy
          | cons d r =>
            rw [List.cons_append]
            by_cases e : d = 45
            · simp only [unminus, e, if_true] at hy ⊢; exact List.mem_append_left _ hy
            · simp only [unminus, e, if_false] at hy ⊢
              rw [← List.cons_append]; exact List.mem_append_left _ hy
        have h2 := this (l.take k) (l.drop k) x hx
        rwa [List.take_append_drop] at h2
      have a2 := natOf_lt (unminus (l.take k)) 0 a1
      have a3 : 10 ^ (unminus (l.take k)).length ≤ 10 ^ 15 := Nat.pow_le_pow_right (by decide) (Nat.le_trans (unminus_take_len hk) H15.out)
      have e : (10 : Nat) ^ 15 = 1000000000000000 := by decide
      unfold natOf
      generalize (unminus (l.take k)).foldl (fun a c => 10 * a + (c.toNat - 48)) 0 = n at *
      generalize 10 ^ (unminus (l.take k)).length = m at *
      omega
    by_cases hlt : k < l.length
    · have hlt' : ((k : Nat) : Int) < ((l.length : Nat) : Int) := by omega
      have hget : (bs l)[k]'(by rw [hb]; exact hlt) = l[k] := bs_get l k hlt
      by_cases hm : l[k] = 45 ∧ k = 0
      · obtain ⟨hm1, rfl⟩ := hm
        have e1 : ((((bs l)[0]'(by rw [hb]; exact hlt)).toNat : Int) != 45) = false := by rw [hget, hm1]; rfl
        have ht : Hid ((unminus (l.take 1)) = []) := by
          show _ = _
          rw [List.take_succ_eq_append_getElem hlt, hm1]; rfl
        clear hget hm1
        go_wp2_with fail
        refine ⟨⟨1, rfl, by omega, by rw [ht.out]; rfl⟩, by simp [intOf]; omega⟩
      · have ht := Lib.hid (unminus_take hlt hm)
        have hdg := isNum_dig H1.out (unminus_mem hlt hm)
        generalize hc : l[k] = c at *
        clear hc hm
        have hd2 : 48 ≤ c.toNat ∧ c.toNat ≤ 57 := by simpa [isDig] using hdg
        have e1 : (((c.toNat : Nat) : Int) != 45) = true := by rw [bne_iff_ne]; omega
        have e3 : (48 : Int) ≤ ((c.toNat : Nat) : Int) := by omega
        have e4 : ((c.toNat : Nat) : Int) ≤ 57 := by omega
        have hn : Hid (natOf (unminus (l.take (k + 1))) = 10 * natOf (unminus (l.take k)) + (c.toNat - 48)) := by show _ = _; rw [ht.out, natOf_snoc]
        clear hd2 hdg
        generalize natOf (unminus (l.take k)) = n at *
        go_wp2_with fail
        refine ⟨⟨k + 1, by go_num, hlt, congrArg (Value.int .i64) ?_⟩, by simp [intOf]; omega⟩
        rw [hn.out]
        omega
    · obtain rfl : k = l.length := by omega
      rw [List.take_length] at hbd ⊢
      have hget : (bs l)[0]'(by rw [hb]; exact hpos) = l[0] := bs_get l 0 hpos
      have hsz : 0 < (bs l).size := by omega
      by_cases hm : l[0] = 45
      · have e1 : ((((bs l)[0]'(by rw [hb]; exact hpos)).toNat : Int) == 45) = true := by rw [hget]; rw [show l[0] = (45 : UInt8) from hm]; rfl
        have hr : Hid (Sp.valOf l = - (natOf (unminus l) : Int)) := hv.out.trans (if_pos hm)
        clear hget hm
        generalize natOf (unminus l) = n at *
        go_wp2_with fail
        go_ret
        exact ⟨by rw [hr.out]; rfl, rfl⟩
      · have e1 : ((((bs l)[0]'(by rw [hb]; exact hpos)).toNat : Int) == 45) = false := by
          rw [hget, beq_eq_false_iff_ne]; intro e; exact hm (by rw [← UInt8.toNat_inj]; exact_mod_cast e)
        have hr : Hid (Sp.valOf l = (natOf (unminus l) : Int)) := hv.out.trans (if_neg hm)
        clear hget hm
        generalize natOf (unminus l) = n at *
        go_wp2_with fail
        go_ret
        exact ⟨by rw [hr.out]; rfl, rfl⟩
end Go.Proofs.YtojdgdeefhndiaaGreatDoor
namespace Go.Proofs.YtojdgdeefhndiaaGreatDoor
open Go Go.RowKit Sp
set_option maxRecDepth 100000

/-- What the reference's numbers comes to. -/
def numsR (r : R (List Int)) (w : World) (en : Ending) (w' : World) : Prop :=
  match r with
  | .ok zs => ∃ v, en = .returned (.tuple #[v, .int .i64 0]) ∧ w'.ownsRow w.heap.size 3 1 v zs.length (zs.map (Value.int .i64)) ∧ Upd noBlk w w'
  | .bad e => en = .returned (.tuple #[.slice none 0 0, .int .i64 e]) ∧ Upd noBlk w w'
theorem digits_no {x : Bytes} (h : isNum x = false) : digitsS x = 0 := by unfold digitsS; rw [h]; rfl
theorem digits_yes {x : Bytes} (h : isNum x = true) : digitsS x = (unminus x).length ∧ 0 < (unminus x).length := by
  unfold digitsS; rw [h]
  refine ⟨rfl, ?_⟩
  unfold isNum at h
  cases hu : unminus x with
  | nil => rw [hu] at h; simp at h
  | cons c r => simp
theorem numbersS_syn {ws : List Bytes} {x : Bytes} (hx : x ∈ ws) (h : isNum x = false) : numbersS ws = .bad 10 := by
  unfold numbersS
  rw [if_pos]
  rw [Bool.not_eq_true', List.all_eq_false]
  exact ⟨x, hx, by simp [h]⟩
theorem numbersS_long {ws : List Bytes} (ha : ∀ x, x ∈ ws → isNum x = true) (h : ∃ x, x ∈ ws ∧ Sp.long x = true) : numbersS ws = .bad 11 := by
  unfold numbersS
  rw [if_neg (by simpa using ha), if_pos]
  rw [List.any_eq_true]
  exact h
theorem numbersS_ok {ws : List Bytes} (ha : ∀ x, x ∈ ws → isNum x = true) (h : ∀ x, x ∈ ws → Sp.long x = false) : numbersS ws = .ok (ws.map Sp.valOf) := by
  unfold numbersS
  rw [if_neg (by simpa using ha), if_neg]
  rw [Bool.not_eq_true, List.any_eq_false]
  intro x hx; rw [h x hx]; simp
set_option maxHeartbeats 1000000 in
theorem qnumbers_any (A : Option Addr) (cap : Nat) (ws : List Bytes) (hl : ws.length ≤ 4294967296) (hs : short ws) (w : World) (h : RdW w A ws) :
    Calls Tryz.prog 92 #[.slice A ws.length cap] w fun en w' => numsR (numbersS ws) w en w' := by
  have H := Lib.hid h
  have HS := Lib.hid hs
  clear h hs
  go_enter Tryz.func92, Tryz.ntmps92
  go_wp2_with fail
  go_loop [2, 3, 4, 5, 6] (fun _ _ ev i _ => ∃ (k e : Nat), i = .int .i64 k ∧ k ≤ ws.length ∧ ev = .int .i64 e ∧ (∀ x, x ∈ ws.take k → isNum x = true) ∧ ((e = 0 ∧ ∀ x, x ∈ ws.take k → Sp.long x = false) ∨ (e = 11 ∧ ∃ x, x ∈ ws.take k ∧ Sp.long x = true))) (fun _ _ _ i _ => ws.length - (intOf i).toNat)
  case atStart => exact ⟨0, 0, rfl, Nat.zero_le _, rfl, by simp, .inl ⟨rfl, by simp⟩⟩
  case round =>
    obtain ⟨k, e, rfl, hk, rfl, hx, he⟩ := hrel
    have HX := Lib.hid hx
    have HE := Lib.hid he
    clear hx he
    by_cases hlt : k < ws.length
    · obtain ⟨b, off, rfl, ea⟩ := H.out (by omega)
      have c0 : w.cell? ⟨b, off + k, none⟩ = some (.string (bs ws[k])) := ea k hlt
      have hlt' : ((k : Nat) : Int) < ((ws.length : Nat) : Int) := by omega
      have hmem : ws[k] ∈ ws := List.getElem_mem hlt
      have hk1 : Hid (ws.take (k + 1) = ws.take k ++ [ws[k]]) := List.take_succ_eq_append_getElem hlt
      have hdg := digits_any ws[k] (HS.out _ hmem)
      generalize hwk : ws[k] = x at *
      clear ea hwk
      have hub : ((unminus x).length : Int) ≤ 4294967296 := by have := unminus_le x; have := HS.out _ hmem; omega
      rcases hn : isNum x with _ | _
      · have hr := Lib.hid (numbersS_syn hmem hn)
        rw [digits_no hn] at hdg
        have HD := Lib.hid hdg
        clear hdg hn hmem
        go_wp2_with fail
        refine (HD.out _).mono ?_
        rintro e1 w1 ⟨rfl, rfl⟩
        go_wp2_with fail
        go_ret2
        show numsR (numbersS ws) w _ _
        rw [hr.out]
        exact ⟨rfl, Upd.refl _ _⟩
      · obtain ⟨hd1, hd2⟩ := digits_yes hn
        rw [hd1] at hdg
        have HD := Lib.hid hdg
        have hne : ((((unminus x).length : Nat) : Int) == 0) = false := by rw [beq_eq_false_iff_ne]; omega
        have hx1 : Hid (∀ y, y ∈ ws.take (k + 1) → isNum y = true) := fun y hy => by
          rw [hk1.out, List.mem_append, List.mem_singleton] at hy
          rcases hy with hy | rfl
          · exact HX.out y hy
          · exact hn
        by_cases hlong : 15 < (unminus x).length
        · have hl1 : (15 : Int) < (((unminus x).length : Nat) : Int) := by omega
          have hlx : Hid (Sp.long x = true) := by show _ = _; unfold Sp.long; simpa using hlong
          clear hdg hn hmem hd1 hd2 hlong
          go_wp2_with fail
          refine (HD.out _).mono ?_
          rintro e1 w1 ⟨rfl, rfl⟩
          go_wp2_with fail
          refine ⟨⟨k + 1, 11, by go_num, hlt, rfl, hx1.out, .inr ⟨rfl, x, by rw [hk1.out]; simp, hlx.out⟩⟩, by simp [intOf]; omega⟩
        · have hl1 : ¬ (15 : Int) < (((unminus x).length : Nat) : Int) := by omega
          have hlx : Hid (Sp.long x = false) := by show _ = _; unfold Sp.long; simpa using hlong
          clear hdg hn hmem hd1 hd2 hlong
          go_wp2_with fail
          refine (HD.out _).mono ?_
          rintro e1 w1 ⟨rfl, rfl⟩
          go_wp2_with fail
          refine ⟨⟨k + 1, e, by go_num, hlt, rfl, hx1.out, ?_⟩, by simp [intOf]; omega⟩
          rcases HE.out with ⟨h0, ha⟩ | ⟨h0, y, hy, hy2⟩
          · refine .inl ⟨h0, fun y hy => ?_⟩
            rw [hk1.out, List.mem_append, List.mem_singleton] at hy
            rcases hy with hy | rfl
            · exact ha y hy
            · exact hlx.out
          · exact .inr ⟨h0, y, by rw [hk1.out]; simp [hy], hy2⟩
    · have hw : ws.take k = ws := List.take_of_length_le (by omega)
      have hlt' : ¬ ((k : Nat) : Int) < ((ws.length : Nat) : Int) := by omega
      have hx := HX.out
      have he := HE.out
      rw [hw] at hx he
      clear HX HE hw
      have HX := Lib.hid hx
      rcases he with ⟨rfl, ha⟩ | ⟨rfl, hy⟩
      · have HA := Lib.hid ha
        have hr := Lib.hid (numbersS_ok hx ha)
        clear hx ha
        go_wp2_with fail
        obtain ⟨w, rfl⟩ : ∃ x : World, x = w := ⟨_, rfl⟩
        go_loopw [7, 8] (fun v i wr => ∃ k : Nat, i = .int .i64 k ∧ k ≤ ws.length ∧ wr.ownsRow w.heap.size 3 1 v k ((ws.take k).map (fun x => Value.int .i64 (Sp.valOf x))) ∧ Upd noBlk w wr) (fun _ i _ => ws.length - (intOf i).toNat)
        case atStart => exact ⟨0, rfl, Nat.zero_le _, World.ownsRow_nil _ _ _ _, Upd.refl _ _⟩
        case round =>
          obtain ⟨j, rfl, hj, ho, hu⟩ := hrel
          have HO := Lib.hid ho
          have HU := Lib.hid hu
          clear ho hu
          by_cases hjl : j < ws.length
          · obtain ⟨b, off, rfl, ea⟩ := H.out (by omega)
            have c0 : wr.cell? ⟨b, off + j, none⟩ = some (.string (bs ws[j])) := HU.out.cell (ea j hjl) id
            have hmem : ws[j] ∈ ws := List.getElem_mem hjl
            have hk1 : Hid (ws.take (j + 1) = ws.take j ++ [ws[j]]) := List.take_succ_eq_append_getElem hjl
            have hva := value_any ws[j] (HS.out _ hmem) (HX.out _ hmem) (HA.out _ hmem)
            have HV := Lib.hid hva
            have hlt2 : ((j : Nat) : Int) < ((ws.length : Nat) : Int) := by omega
            clear ea hva
            obtain ⟨i0, hi0, hz0, hz1, hz2⟩ := info_parts info_i
            have m2 : Hid (j + 1 ≤ maxLen) := by show _ ≤ _; unfold maxLen; omega
            have b1 : Hid ((j + 1) * 8 ≤ 140737488355328) := by show _ ≤ _; omega
            obtain ⟨gg, cp, w5, r5, o5, hup5, _, _, _⟩ := append_item (w0 := w) (w := wr) 86 86 3 i0 _ 1 8 Tryz.underlying86 hi0 hz0 hz1 hz2 rfl (by omega) HU.out HO.out [.int .i64 (Sp.valOf ws[j])] rfl (by simp [Value.oneCell']) m2.out b1.out
            have hup := Lib.hid hup5
            have O5 : Hid (w5.ownsRow w.heap.size 3 1 (.slice (some ⟨gg, 0, none⟩) (j + 1) cp) (j + 1) ((ws.take (j + 1)).map (fun x => Value.int .i64 (Sp.valOf x)))) := by
              show World.ownsRow _ _ _ _ _ _ _; rw [hk1.out, List.map_append]; exact o5
            have R5 := Lib.hid r5
            clear r5 o5 hup5 hmem
            go_wp2_with fail
            refine (HV.out _).mono ?_
            rintro e1 w1 ⟨rfl, rfl⟩
            go_wp2_with (at_builtin; refine wpList_append_run rfl _ _ _ rfl rfl rfl R5.out ?_)
            refine ⟨⟨j + 1, by go_num, hjl, O5.out, hup.out⟩, by simp [intOf]; omega⟩
          · have hjj : j = ws.length := by omega
            have hw : ws.take j = ws := List.take_of_length_le (by omega)
            have O6 : Hid (wr.ownsRow w.heap.size 3 1 u7 (ws.map Sp.valOf).length ((ws.map Sp.valOf).map (Value.int .i64))) := by
              have := HO.out; rw [hw, hjj] at this; show World.ownsRow _ _ _ _ _ _ _; rw [List.length_map, List.map_map]; exact this
            have hlt2 : ¬ ((j : Nat) : Int) < ((ws.length : Nat) : Int) := by omega
            clear hw hjj
            go_wp2_with fail
            go_ret2
            show numsR (numbersS ws) w _ _
            rw [hr.out]
            exact ⟨_, rfl, O6.out, HU.out⟩
      · have hr := Lib.hid (numbersS_long hx hy)
        clear hx hy
        go_wp2_with fail
        go_ret2
        show numsR (numbersS ws) w _ _
        rw [hr.out]
        exact ⟨rfl, Upd.refl _ _⟩
end Go.Proofs.YtojdgdeefhndiaaGreatDoor
