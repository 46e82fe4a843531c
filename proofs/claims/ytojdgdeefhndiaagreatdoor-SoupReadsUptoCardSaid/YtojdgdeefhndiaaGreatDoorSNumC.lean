/- Walks of the program of the polygon files: numbers. -/
import Derived.Test.YtojdgdeefhndiaaGreatDoorSNumB
import Derived.Test.YtojdgdeefhndiaaGreatDoorSLib
import Derived.Lib.AtoiErrMem
namespace Go.Proofs.YtojdgdeefhndiaaGreatDoor
open Go Go.RowKit Sp
set_option maxRecDepth 100000

def numsP (least most : Nat) (ws : List Bytes) : R (List Int) :=
  if ws.length < least || ws.any (fun x => !isNum x) then .bad 10 else if most < ws.length then .bad 2 else if ws.any Sp.long then .bad 11 else .ok (ws.map Sp.valOf)
/-- What numbers comes to. -/
def NumsQ (r : R (List Int)) (place : Int) (w : World) (en : Ending) (w' : World) : Prop :=
  match r with
  | .ok zs => ∃ v, en = .returned v ∧ w'.ownsRow w.heap.size 3 1 v zs.length (zs.map (Value.int .i64)) ∧ Upd noBlk w w'
  | .bad e => en = .panicked (fail place e) ∧ Upd noBlk w w'
theorem info_i : (Tryz.prog.info? 3).map (fun i => (i.zero, i.size, i.bytes)) = some (some (.int .i64 0), 1, 8) := by kernel_rfl

theorem decFrom_digs : ∀ (l : Bytes) (acc : Nat), l.all isDig = true → Lib.decFrom acc l = some (l.foldl (fun a c => 10 * a + (c.toNat - 48)) acc)
  | [], _, _ => rfl
  | c :: r, acc, h => by
    rw [List.all_cons, Bool.and_eq_true] at h
    have hc : 48 ≤ c.toNat ∧ c.toNat ≤ 57 := by simpa [isDig] using h.1
    unfold Lib.decFrom Lib.digitVal
    rw [if_pos hc]
    simp only
    rw [decFrom_digs r _ h.2, List.foldl_cons, Nat.mul_comm]
theorem atoi_val {l : Bytes} (h : isNum l = true) : Lib.atoi l = some (Sp.valOf l) := by
  unfold isNum at h
  rw [Bool.and_eq_true] at h
  obtain ⟨h1, h2⟩ := h
  cases l with
  | nil => simp [unminus] at h1
  | cons c r =>
    unfold Lib.atoi Sp.valOf natOf
    by_cases hc : c = 45
    · subst hc
      have hu : unminus (45 :: r) = r := by simp [unminus]
      rw [hu] at h1 h2
      have hr : r ≠ [] := by simpa using h1
      have hd : Lib.decNat r = some (r.foldl (fun a c => 10 * a + (c.toNat - 48)) 0) := by unfold Lib.decNat; rw [if_neg (by simpa using hr), decFrom_digs r 0 h2]
      rw [hu]
      simp [hd]
    · have hu : unminus (c :: r) = c :: r := by simp [unminus, hc]
      rw [hu] at h1 h2
      have hd : 48 ≤ c.toNat ∧ c.toNat ≤ 57 := by rw [List.all_cons, Bool.and_eq_true] at h2; simpa [isDig] using h2.1
      have h43 : ¬ c = 43 := by intro e; subst e; simp at hd
      have hdd : Lib.decNat (c :: r) = some ((c :: r).foldl (fun a c => 10 * a + (c.toNat - 48)) 0) := by unfold Lib.decNat; rw [if_neg (by simp), decFrom_digs (c :: r) 0 h2]
      rw [hu]
      simp [hc, h43, hdd]
theorem size_long {l : Bytes} (h : Sp.long l = false) : l.length ≤ 18 := by
  unfold Sp.long at h
  simp at h
  cases l with
  | nil => simp
  | cons c r =>
    unfold unminus at h
    by_cases hc : c = 45 <;> simp [hc] at h <;> simp <;> omega
theorem Upd.bytesWorld (w : World) (e : TypeId) (s : ByteArray) : Upd noBlk w (Lib.bytesWorld w e s) := Upd.ofBelow (Lib.bytesWorld_below w e s)

theorem numsP_rest {least most : Nat} {ws : List Bytes} (c1 : ¬ ws.length < least) (c2 : ws.any (fun x => !isNum x) = false) (c3 : ¬ most < ws.length) : numsP least most ws = if ws.any Sp.long then .bad 11 else .ok (ws.map Sp.valOf) := by
  unfold numsP; rw [if_neg (by simp only [c2, Bool.or_false, decide_eq_true_eq]; exact c1), if_neg c3]
set_option maxHeartbeats 600000 in
theorem numbers_any (A : Option Addr) (cap : Nat) (ws : List Bytes) (least most : Nat) (place : Int) (h1 : least ≤ 1000) (h2 : most ≤ 1000) (hl : ws.length ≤ 4294967296) (hs : short ws) (w : World) (h : RdW w A ws) :
    Calls Tryz.prog 51 #[.slice A ws.length cap, .int .i64 least, .int .i64 most, .int .i64 place] w fun en w' => NumsQ (numsP least most ws) place w en w' := by
  have H := Lib.hid h
  have HS := Lib.hid hs
  clear h hs
  by_cases c1 : ws.length < least
  · have hp : Hid (numsP least most ws = .bad 10) := by show _ = _; unfold numsP; rw [if_pos (by simp [c1])]
    rw [hp.out]
    have c1' : decide (least ≤ ws.length) = false := by simp; omega
    go_enter Tryz.func51, Tryz.ntmps51
    go_wp2_with (go_at_call 47; refine (check_bad _ _ _).mono ?_; rintro e w2 ⟨rfl, rfl⟩)
    exact ⟨rfl, rfl, Upd.refl _ _⟩
  · have c1' : ((least : Nat) : Int) ≤ ((ws.length : Nat) : Int) := by omega
    rcases c2 : ws.any (fun x => !isNum x) with _ | _
    · have hcf := containsFunc_any A cap ws (by omega) HS.out w H.out
      rw [c2] at hcf
      have HCF := Lib.hid hcf
      have hnum : Hid (∀ x, x ∈ ws → isNum x = true) := by
        intro x hx
        rw [List.any_eq_false] at c2
        simpa using c2 x hx
      by_cases c3 : most < ws.length
      · have hp : Hid (numsP least most ws = .bad 2) := by show _ = _; unfold numsP; rw [if_neg (by simp [c1, c2]), if_pos c3]
        rw [hp.out]
        have c3' : decide (ws.length ≤ most) = false := by simp; omega
        clear hcf c2
        go_enter Tryz.func51, Tryz.ntmps51
        go_wp2_with fail
        refine HCF.out.mono ?_
        rintro e w1 ⟨rfl, u1⟩
        go_wp2_with fail
        refine (check_ok _ _ _).mono ?_
        rintro e w2 ⟨rfl, rfl⟩
        go_wp2_with fail
        refine (check_bad _ _ _).mono ?_
        rintro e w2 ⟨rfl, rfl⟩
        exact ⟨rfl, rfl, u1⟩
      · have c3' : decide (ws.length ≤ most) = true := by simp; omega
        clear hcf
        go_enter Tryz.func51, Tryz.ntmps51
        go_wp2_with fail
        refine HCF.out.mono ?_
        rintro e w1 ⟨rfl, u1⟩
        have U1 := Lib.hid u1
        clear u1
        go_wp2_with fail
        refine (check_ok _ _ _).mono ?_
        rintro e w2 ⟨rfl, rfl⟩
        go_wp2_with fail
        refine (check_ok _ _ _).mono ?_
        rintro e w2 ⟨rfl, rfl⟩
        go_wp2_with fail
        have HR := Lib.hid (numsP_rest (least := least) (most := most) c1 c2 c3)
        clear c1 c2 c3 c1' c3' HCF
        go_loopw [9, 11, 12, 13, 33] (fun v _ _ _ i wr => ∃ k : Nat, i = .int .i64 k ∧ k ≤ ws.length ∧ (∀ x, x ∈ ws.take k → Sp.long x = false) ∧ wr.ownsRow w.heap.size 3 1 v k ((ws.take k).map (fun x => Value.int .i64 (Sp.valOf x))) ∧ Upd noBlk w wr) (fun _ _ _ _ i _ => ws.length - (intOf i).toNat)
        case atStart => exact ⟨0, rfl, Nat.zero_le _, by simp, World.ownsRow_nil _ _ _ _, U1.out⟩
        case round =>
          obtain ⟨k, rfl, hk, hx, ho, hu⟩ := hrel
          have HU := Lib.hid hu
          have HO := Lib.hid ho
          have HX := Lib.hid hx
          clear hu ho hx U1
          by_cases hlt : k < ws.length
          · obtain ⟨b, off, rfl, ea⟩ := H.out (by omega)
            have c0 : wr.cell? ⟨b, off + k, none⟩ = some (.string (bs ws[k])) := HU.out.cell (ea k hlt) id
            have hmem : ws[k] ∈ ws := List.getElem_mem hlt
            have hisn := Lib.hid (hnum.out _ hmem)
            have hk1 : Hid (ws.take (k + 1) = ws.take k ++ [ws[k]]) := List.take_succ_eq_append_getElem hlt
            have hlt' : ((k : Nat) : Int) < ((ws.length : Nat) : Int) := by omega
            have hszu : (⟨(unminus ws[k]).toArray⟩ : ByteArray).size = (unminus ws[k]).length := by simp [ByteArray.size]
            have hub : ((unminus ws[k]).length : Int) ≤ 4294967296 := by have := unminus_le ws[k]; have := HS.out _ hmem; omega
            clear ea
            by_cases hlong : 15 < (unminus ws[k]).length
            · have hp : Hid (numsP least most ws = .bad 11) := by
                show _ = _; rw [HR.out, if_pos]; rw [List.any_eq_true]; exact ⟨_, hmem, by unfold Sp.long; simpa using hlong⟩
              have hd : decide ((((unminus ws[k]).length : Nat) : Int) ≤ 15) = false := by simp; omega
              clear hmem hlong
              go_wp2_with fail
              refine (Tryz.strings_TrimPrefix _ ⟨#[45]⟩ _).mono ?_
              rw [bs_data, trimPrefix_minus]
              rintro e w3 ⟨rfl, rfl⟩
              go_wp2_with fail
              refine (check_bad _ _ _).mono ?_
              rintro e w3 ⟨rfl, rfl⟩
              refine ⟨rfl, ?_⟩
              show NumsQ (numsP least most ws) place w _ _
              rw [hp.out]
              exact ⟨rfl, HU.out⟩
            · have hl0 : Sp.long ws[k] = false := by unfold Sp.long; simpa using hlong
              have hd : decide ((((unminus ws[k]).length : Nat) : Int) ≤ 15) = true := by simp; omega
              have HL0 := Lib.hid hl0
              clear hmem hlong hl0
              go_wp2_with fail
              refine (Tryz.strings_TrimPrefix _ ⟨#[45]⟩ _).mono ?_
              rw [bs_data, trimPrefix_minus]
              rintro e w3 ⟨rfl, rfl⟩
              go_wp2_with fail
              refine (check_ok _ _ _).mono ?_
              rintro e w3 ⟨rfl, rfl⟩
              go_wp2_with fail
              refine (Tryz.strconv_Atoi (bs ws[k]) (Sp.valOf ws[k]) (by rw [bs_size]; exact size_long HL0.out) (by rw [bs_data]; exact atoi_val hisn.out) _).mono ?_
              rintro e w4 ⟨rfl, tt, rfl⟩
              have hU4 : Hid (Upd noBlk w (Lib.bytesWorld w3 5 tt)) := HU.out.trans (Upd.bytesWorld w3 5 tt)
              have m2 : Hid (k + 1 ≤ maxLen) := by show _ ≤ _; unfold maxLen; omega
              have b1 : Hid ((k + 1) * 8 ≤ 140737488355328) := by show _ ≤ _; omega
              obtain ⟨i0, hi0, hz0, hz1, hz2⟩ := info_parts info_i
              obtain ⟨gg, cp, w5, r5, o5, hup5, _, _, _⟩ := append_item (w0 := w) (w := Lib.bytesWorld w3 5 tt) 86 86 3 i0 _ 1 8 Tryz.underlying86 hi0 hz0 hz1 hz2 rfl (by omega) hU4.out
                (ownsRow_upd HO.out (Upd.bytesWorld w3 5 tt)) [.int .i64 (Sp.valOf ws[k])] rfl (by simp [Value.oneCell']) m2.out b1.out
              have hup := Lib.hid hup5
              have O5 : Hid (w5.ownsRow w.heap.size 3 1 (.slice (some ⟨gg, 0, none⟩) (k + 1) cp) (k + 1) ((ws.take (k + 1)).map (fun x => Value.int .i64 (Sp.valOf x)))) := by
                show World.ownsRow _ _ _ _ _ _ _; rw [hk1.out, List.map_append]; exact o5
              have HX1 : Hid (∀ x, x ∈ ws.take (k + 1) → Sp.long x = false) := by
                intro x hx
                rw [hk1.out, List.mem_append] at hx
                rcases hx with hx | hx
                · exact HX.out x hx
                · rw [List.mem_singleton] at hx; rw [hx]; exact HL0.out
              have R5 := Lib.hid r5
              clear r5 o5 hup5
              go_wp2_with (at_builtin; refine wpList_append_run rfl _ _ _ rfl rfl rfl R5.out ?_)
              go_roundw
              case rel => exact ⟨k + 1, by go_num, hlt, HX1.out, O5.out, hup.out⟩
              case measure => simp [intOf]; omega
          · have hkk : k = ws.length := by omega
            have hw : ws.take k = ws := List.take_of_length_le (by omega)
            have hp : Hid (numsP least most ws = .ok (ws.map Sp.valOf)) := by
              show _ = _; rw [HR.out, if_neg]; rw [Bool.not_eq_true, List.any_eq_false]; intro x hx; rw [HX.out x (by rw [hw]; exact hx)]; simp
            have O6 : Hid (wr.ownsRow w.heap.size 3 1 u9 (ws.map Sp.valOf).length ((ws.map Sp.valOf).map (Value.int .i64))) := by
              have := HO.out; rw [hw, hkk] at this; show World.ownsRow _ _ _ _ _ _ _; rw [List.length_map, List.map_map]; exact this
            have hlt' : ¬ ((k : Nat) : Int) < ((ws.length : Nat) : Int) := by omega
            clear hw hkk
            go_wp2
            go_ret
            show NumsQ (numsP least most ws) place w _ _
            rw [hp.out]
            exact ⟨_, rfl, O6.out, HU.out⟩
    · have hp : Hid (numsP least most ws = .bad 10) := by show _ = _; unfold numsP; rw [if_pos (by simp [c2])]
      rw [hp.out]
      have hcf := containsFunc_any A cap ws (by omega) HS.out w H.out
      rw [c2] at hcf
      have HCF := Lib.hid hcf
      clear hcf c2
      go_enter Tryz.func51, Tryz.ntmps51
      go_wp2_with fail
      refine HCF.out.mono ?_
      rintro e w1 ⟨rfl, u1⟩
      go_wp2_with fail
      refine (check_bad _ _ _).mono ?_
      rintro e w2 ⟨rfl, rfl⟩
      exact ⟨rfl, rfl, u1⟩
end Go.Proofs.YtojdgdeefhndiaaGreatDoor
