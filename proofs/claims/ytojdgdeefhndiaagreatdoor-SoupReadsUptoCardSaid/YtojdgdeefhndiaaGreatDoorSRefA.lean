/- Walks of the reference of the polygon files: digits, value. -/
import Derived.Test.YtojdgdeefhndiaaGreatDoorSPickP
import Derived.Test.YtojdgdeefhndiaaGreatDoorSBin2
namespace Go.Proofs.YtojdgdeefhndiaaGreatDoor
open Go Go.RowKit Sp
set_option maxRecDepth 100000
namespace Sp
def digitsS (w : Bytes) : Nat := if isNum w then (unminus w).length else 0
theorem unminus_snoc {l : Bytes} {c : UInt8} (h : ¬ (c = 45 ∧ l = [])) : unminus (l ++ [c]) = unminus l ++ [c] := by
  cases l with
  | nil =>
    have hc : c ≠ 45 := fun e => h ⟨e, rfl⟩
    simp [unminus, hc]
  | cons d r =>
    rw [List.cons_append]
    by_cases e : d = 45
    · simp [unminus, e]
    · simp [unminus, e]
theorem unminus_minus : unminus [45] = [] := by simp [unminus]
theorem unminus_take {l : Bytes} {k : Nat} (hk : k < l.length) (h : ¬ (l[k] = 45 ∧ k = 0)) : unminus (l.take (k + 1)) = unminus (l.take k) ++ [l[k]] := by
  rw [List.take_succ_eq_append_getElem hk]
  refine unminus_snoc (fun ⟨a, b⟩ => h ⟨a, ?_⟩)
  have := congrArg List.length b
  rw [List.length_take, List.length_nil] at this
  omega
theorem unminus_mem {l : Bytes} {k : Nat} (hk : k < l.length) (h : ¬ (l[k] = 45 ∧ k = 0)) : l[k] ∈ unminus l := by
  have h1 := unminus_take hk h
  have : ∀ (a b : Bytes), a ≠ [] → ∀ x, x ∈ unminus a → x ∈ unminus (a ++ b) := by
    intro a b ha x hx
    cases a with
    | nil => exact absurd rfl ha
    | cons d r =>
      rw [List.cons_append]
      by_cases e : d = 45
      · simp only [unminus, e, if_true] at hx ⊢; exact List.mem_append_left _ hx
      · simp only [unminus, e, if_false] at hx ⊢
        rw [← List.cons_append]; exact List.mem_append_left _ hx
  have h2 := this (l.take (k + 1)) (l.drop (k + 1)) (fun e => by have := congrArg List.length e; rw [List.length_take, List.length_nil] at this; omega) l[k] (by rw [h1]; simp)
  rwa [List.take_append_drop] at h2
theorem isDig_no {c : UInt8} (h : isDig c = false) : c.toNat < 48 ∨ 57 < c.toNat := by
  unfold isDig at h; simp at h; omega
theorem isNum_bad {l : Bytes} {c : UInt8} (h : c ∈ unminus l) (hc : isDig c = false) : isNum l = false := by
  unfold isNum
  rw [Bool.and_eq_false_iff]
  right
  rw [List.all_eq_false]
  exact ⟨c, h, by simp [hc]⟩
end Sp
set_option maxHeartbeats 1000000 in
theorem digits_any (l : Bytes) (hl : l.length ≤ 4294967296) (w : World) : Calls Tryz.prog 90 #[.string (bs l)] w fun en w' => en = .returned (.int .i64 (digitsS l)) ∧ w = w' := by
  have hb : (bs l).size = l.length := bs_size l
  go_enter Tryz.func90, Tryz.ntmps90
  go_wp2_with fail
  go_loop [2, 3, 4] (fun _ n i => ∃ k : Nat, i = .int .i64 k ∧ k ≤ l.length ∧ n = .int .i64 ((unminus (l.take k)).length : Nat) ∧ (unminus (l.take k)).all isDig = true) (fun _ _ i => l.length - (intOf i).toNat)
  case atStart => exact ⟨0, rfl, Nat.zero_le _, rfl, rfl⟩
  case round =>
    obtain ⟨k, rfl, hk, rfl, hd⟩ := hrel
    have HD := Lib.hid hd
    clear hd
    by_cases hlt : k < l.length
    · have hlt' : ((k : Nat) : Int) < ((l.length : Nat) : Int) := by omega
      have hget : (bs l)[k]'(by rw [hb]; exact hlt) = l[k] := bs_get l k hlt
      have hub : (((unminus (l.take k)).length : Nat) : Int) ≤ 4294967296 := by have := unminus_le (l.take k); have := List.length_take_le k l; omega
      by_cases hm : l[k] = 45 ∧ k = 0
      · obtain ⟨hm1, rfl⟩ := hm
        have e1 : ((((bs l)[0]'(by rw [hb]; exact hlt)).toNat : Int) == 45) = true := by rw [hget, hm1]; rfl
        have ht : Hid ((unminus (l.take 1)) = []) := by
          show _ = _
          rw [List.take_succ_eq_append_getElem hlt, hm1]; rfl
        clear hget hm1
        go_wp2_with fail
        refine ⟨⟨1, rfl, by omega, by rw [ht.out]; rfl, by rw [ht.out]; rfl⟩, by simp [intOf]; omega⟩
      · have ht := Lib.hid (unminus_take hlt hm)
        have hmem := Lib.hid (unminus_mem hlt hm)
        generalize hc : l[k] = c at *
        clear hc
        by_cases h45 : c = 45
        · have hk0 : ¬ k = 0 := fun e => hm ⟨h45, e⟩
          have e1 : (((c.toNat : Nat) : Int) == 45) = true := by rw [h45]; rfl
          have e2 : (((k : Nat) : Int) == 0) = false := by rw [beq_eq_false_iff_ne]; omega
          have e3 : ((c.toNat : Nat) : Int) < 48 := by rw [h45]; decide
          have hr : Hid (digitsS l = 0) := by
            show _ = _; unfold digitsS; rw [isNum_bad hmem.out (by rw [h45]; decide)]; rfl
          clear hm h45 hk0
          go_wp2_with fail
          go_ret
          exact ⟨by rw [hr.out]; rfl, rfl⟩
        · have e1 : (((c.toNat : Nat) : Int) == 45) = false := by
            rw [beq_eq_false_iff_ne]; intro e; exact h45 (by rw [← UInt8.toNat_inj]; exact_mod_cast e)
          clear hm h45
          rcases hdg : isDig c with _ | _
          · have hr : Hid (digitsS l = 0) := by
              show _ = _; unfold digitsS; rw [isNum_bad hmem.out hdg]; rfl
            rcases isDig_no hdg with h | h
            · have e3 : ((c.toNat : Nat) : Int) < 48 := by omega
              clear h hdg
              go_wp2_with fail
              go_ret
              exact ⟨by rw [hr.out]; rfl, rfl⟩
            · have e3 : ¬ ((c.toNat : Nat) : Int) < 48 := by omega
              have e4 : (57 : Int) < ((c.toNat : Nat) : Int) := by omega
              clear h hdg
              go_wp2_with fail
              go_ret
              exact ⟨by rw [hr.out]; rfl, rfl⟩
          · have hd2 : 48 ≤ c.toNat ∧ c.toNat ≤ 57 := by simpa [isDig] using hdg
            have e3 : ¬ ((c.toNat : Nat) : Int) < 48 := by omega
            have e4 : ¬ (57 : Int) < ((c.toNat : Nat) : Int) := by omega
            have hn : Hid ((unminus (l.take (k + 1))).length = (unminus (l.take k)).length + 1) := by show _ = _; rw [ht.out]; simp
            have hall : Hid ((unminus (l.take (k + 1))).all isDig = true) := by show _ = _; rw [ht.out, List.all_append, HD.out]; simp [hdg]
            clear hd2 hdg
            generalize (unminus (l.take k)).length = n at *
            go_wp2_with fail
            refine ⟨⟨k + 1, by go_num, hlt, by rw [hn.out]; go_num, hall.out⟩, by simp [intOf]; omega⟩
    · obtain rfl : k = l.length := by omega
      have hr : Hid (digitsS l = (unminus (l.take l.length)).length) := by
        show _ = _
        have := HD.out
        rw [List.take_length] at this ⊢
        unfold digitsS isNum
        rw [this]
        cases hu : unminus l <;> simp
      generalize (unminus (l.take l.length)).length = n at *
      go_wp2_with fail
      go_ret
      exact ⟨by rw [hr.out]; rfl, rfl⟩
namespace Sp
theorem natOf_snoc (a : Bytes) (c : UInt8) : natOf (a ++ [c]) = 10 * natOf a + (c.toNat - 48) := by unfold natOf; simp
theorem unminus_take_len {l : Bytes} {k : Nat} (hk : k ≤ l.length) : (unminus (l.take k)).length ≤ (unminus l).length := by
  cases l with
  | nil => simp
  | cons d r =>
    cases k with
    | zero => simp [unminus]
    | succ k =>
      by_cases e : d = 45
      · simp [unminus, e]; omega
      · simp [unminus, e]; omega
theorem isNum_dig {l : Bytes} {c : UInt8} (h : isNum l = true) (hm : c ∈ unminus l) : isDig c = true := by
  unfold isNum at h
  rw [Bool.and_eq_true, List.all_eq_true] at h
  exact h.2 c hm
theorem isNum_ne {l : Bytes} (h : isNum l = true) : 0 < l.length := by
  cases l with
  | nil => simp [isNum, unminus] at h
  | cons c r => simp
theorem valOf_get {l : Bytes} (h : 0 < l.length) : Sp.valOf l = if l[0] = 45 then - (natOf (unminus l) : Int) else (natOf (unminus l) : Int) := by
  cases l with
  | nil => simp at h
  | cons c r => unfold Sp.valOf; simp
end Sp
set_option maxHeartbeats 1000000 in
theorem value_any (l : Bytes) (hl : l.length ≤ 4294967296) (h1 : isNum l = true) (h2 : Sp.long l = false) (w : World) : Calls Tryz.prog 91 #[.string (bs l)] w fun en w' => en = .returned (.int .i64 (Sp.valOf l)) ∧ w = w' := by
  have hb : (bs l).size = l.length := bs_size l
  have H1 := Lib.hid h1
  have h15 : (unminus l).length ≤ 15 := by unfold Sp.long at h2; simpa using h2
  have H15 := Lib.hid h15
  have hpos := isNum_ne h1
  have hv := Lib.hid (valOf_get hpos)
  clear h1 h2 h15
  go_enter Tryz.func91, Tryz.ntmps91
  go_wp2_with fail
  go_loop [3, 4] (fun n i => ∃ k : Nat, i = .int .i64 k ∧ k ≤ l.length ∧ n = .int .i64 (natOf (unminus (l.take k)) : Nat)) (fun _ i => l.length - (intOf i).toNat)
  case atStart => exact ⟨0, rfl, Nat.zero_le _, rfl⟩
  case round =>
    obtain ⟨k, rfl, hk, rfl⟩ := hrel
    have hbd : ((natOf (unminus (l.take k)) : Nat) : Int) ≤ 1000000000000000 := by
      have a1 : (unminus (l.take k)).all isDig = true := by
        rw [List.all_eq_true]
        intro x hx
        refine isNum_dig H1.out ?_
        have : ∀ (a b : Bytes), ∀ y, y ∈ unminus a → y ∈ unminus (a ++ b) := by
          intro a b y hy
          cases a with
          | nil => simp [unminus] at hy
          | cons d r =>
            rw [List.cons_append]
            by_cases e : d = 45
            · simp only [unminus, e, if_true] at hy ⊢; exact List.mem_append_left _ hy
            · simp only [unminus, e, if_false] at hy ⊢
              rw [← List.cons_append]; exact List.mem_append_left _ hy
        have h2 := this (l.take k) (l.drop k) x hx
        rwa [List.take_append_drop] at h2
      have a2 := natOf_lt (unminus (l.take k)) 0 a1
      have a3 : 10 ^ (unminus (l.take k)).length ≤ 10 ^ 15 := Nat.pow_le_pow_right (by decide) (Nat.le_trans (unminus_take_len hk) H15.out)
      have e : (10 : Nat) ^ 15 = 1000000000000000 := by decide
      unfold natOf
      generalize (unminus (l.take k)).foldl (fun a c => 10 * a + (c.toNat - 48)) 0 = n at *
      generalize 10 ^ (unminus (l.take k)).length = m at *
      omega
    by_cases hlt : k < l.length
    · have hlt' : ((k : Nat) : Int) < ((l.length : Nat) : Int) := by omega
      have hget : (bs l)[k]'(by rw [hb]; exact hlt) = l[k] := bs_get l k hlt
      by_cases hm : l[k] = 45 ∧ k = 0
      · obtain ⟨hm1, rfl⟩ := hm
        have e1 : ((((bs l)[0]'(by rw [hb]; exact hlt)).toNat : Int) != 45) = false := by rw [hget, hm1]; rfl
        have ht : Hid ((unminus (l.take 1)) = []) := by
          show _ = _
          rw [List.take_succ_eq_append_getElem hlt, hm1]; rfl
        clear hget hm1
        go_wp2_with fail
        refine ⟨⟨1, rfl, by omega, by rw [ht.out]; rfl⟩, by simp [intOf]; omega⟩
      · have ht := Lib.hid (unminus_take hlt hm)
        have hdg := isNum_dig H1.out (unminus_mem hlt hm)
        generalize hc : l[k] = c at *
        clear hc hm
        have hd2 : 48 ≤ c.toNat ∧ c.toNat ≤ 57 := by simpa [isDig] using hdg
        have e1 : (((c.toNat : Nat) : Int) != 45) = true := by rw [bne_iff_ne]; omega
        have e3 : (48 : Int) ≤ ((c.toNat : Nat) : Int) := by omega
        have e4 : ((c.toNat : Nat) : Int) ≤ 57 := by omega
        have hn : Hid (natOf (unminus (l.take (k + 1))) = 10 * natOf (unminus (l.take k)) + (c.toNat - 48)) := by show _ = _; rw [ht.out, natOf_snoc]
        clear hd2 hdg
        generalize natOf (unminus (l.take k)) = n at *
        go_wp2_with fail
        refine ⟨⟨k + 1, by go_num, hlt, congrArg (Value.int .i64) ?_⟩, by simp [intOf]; omega⟩
        rw [hn.out]
        omega
    · obtain rfl : k = l.length := by omega
      rw [List.take_length] at hbd ⊢
      have hget : (bs l)[0]'(by rw [hb]; exact hpos) = l[0] := bs_get l 0 hpos
      have hsz : 0 < (bs l).size := by omega
      by_cases hm : l[0] = 45
      · have e1 : ((((bs l)[0]'(by rw [hb]; exact hpos)).toNat : Int) == 45) = true := by rw [hget]; rw [show l[0] = (45 : UInt8) from hm]; rfl
        have hr : Hid (Sp.valOf l = - (natOf (unminus l) : Int)) := hv.out.trans (if_pos hm)
        clear hget hm
        generalize natOf (unminus l) = n at *
        go_wp2_with fail
        go_ret
        exact ⟨by rw [hr.out]; rfl, rfl⟩
      · have e1 : ((((bs l)[0]'(by rw [hb]; exact hpos)).toNat : Int) == 45) = false := by
          rw [hget, beq_eq_false_iff_ne]; intro e; exact hm (by rw [← UInt8.toNat_inj]; exact_mod_cast e)
        have hr : Hid (Sp.valOf l = (natOf (unminus l) : Int)) := hv.out.trans (if_neg hm)
        clear hget hm
        generalize natOf (unminus l) = n at *
        go_wp2_with fail
        go_ret
        exact ⟨by rw [hr.out]; rfl, rfl⟩
end Go.Proofs.YtojdgdeefhndiaaGreatDoor
