/- Walks of the reference coder: Mod, split, take. -/
import Derived.Test.YtadfolnhomongaaDoorWalkC9
namespace Go.Proofs.YtadfolnhomongaaDoor
open Go Go.RowKit Pc
set_option maxRecDepth 100000

theorem tmod_cases (c m : Int) (hm : 0 < m) : c.tmod m = c % m ∨ c.tmod m = c % m - m := by
  rw [Int.tmod_eq_emod]
  split
  · left; omega
  · right; omega
theorem mod_eq (c m : Int) (hm : 0 < m) : (c.tmod m + m).tmod m = c % m := by
  have h1 := Int.emod_nonneg c (show m ≠ 0 by omega)
  have h2 := Int.emod_lt_of_pos c hm
  rcases tmod_cases c m hm with h | h
  · rw [h, Int.tmod_eq_emod_of_nonneg (by omega), Int.add_emod_right, Int.emod_emod_of_dvd _ (Int.dvd_refl m)]
  · rw [h, Int.tmod_eq_emod_of_nonneg (by omega), Int.sub_add_cancel, Int.emod_emod_of_dvd _ (Int.dvd_refl m)]
theorem mod_wrap (c m : Int) (hm : 0 < m) (hb : m ≤ 1000000) : wrap64 (c.tmod m + m) = c.tmod m + m := by
  have h1 := Int.emod_nonneg c (show m ≠ 0 by omega)
  have h2 := Int.emod_lt_of_pos c hm
  exact IntWalk.wrap64_in _ (by rcases tmod_cases c m hm with h | h <;> rw [h] <;> omega)

set_option maxHeartbeats 400000 in
theorem Mod_any (c m : Int) (hm : 0 < m) (hb : m ≤ 1000000) (w : World) : Calls Tryd.prog 21 #[.int .i64 c, .int .i64 m] w fun e w' => e = .returned (.int .i64 (c % m)) ∧ w = w' := by
  have e1 := mod_wrap c m hm hb
  have e2 := mod_eq c m hm
  have e3 : (m == 0) = false := by rw [beq_eq_false_iff_ne]; omega
  have e4 : ¬ m = -1 := by omega
  have h1 : -9223372036854775808 ≤ c.tmod m ∧ c.tmod m ≤ 9223372036854775807 := by
    have h1 := Int.emod_nonneg c (show m ≠ 0 by omega)
    have h2 := Int.emod_lt_of_pos c hm
    rcases tmod_cases c m hm with h | h <;> rw [h] <;> omega
  go_enter Tryd.func21, Tryd.ntmps21
  go_wp2
  go_ret
  exact ⟨rfl, rfl⟩

/-- The reference's model at a block's head. -/
structure MArr (arr : Array Value) (m : M) : Prop where
  ws : ∀ i, i < 4096 → arr[i]? = some (.int .i64 (((m.p i : Nat) : Int) - 1024))
  sh : arr[4096]? = some (.int .i64 (4294967295 - ((m.size : Nat) : Int)))
theorem MArr.size {arr : Array Value} {m : M} (h : MArr arr m) : 4096 < arr.size := (Array.getElem?_eq_some_iff.1 h.sh).1
theorem MArr.step {arr : Array Value} {m : M} (h : MArr arr m) (i : Nat) (hi : i < 4096) (one : Bool) :
    MArr ((arr.setIfInBounds i (.int .i64 (((m.newp i one : Nat) : Int) - 1024))).setIfInBounds 4096 (.int .i64 (4294967295 - (((m.step i one).size : Nat) : Int)))) (m.step i one) := by
  have hs := h.size
  refine ⟨fun j hj => ?_, ?_⟩
  · rw [Array.getElem?_setIfInBounds_ne (by omega)]
    show _ = some (Value.int .i64 (((upd m.p i (m.newp i one) j : Nat) : Int) - 1024))
    rw [Array.getElem?_setIfInBounds]
    unfold upd
    by_cases e : i = j
    · subst e; rw [if_pos rfl, if_pos rfl]; simp; omega
    · rw [if_neg e, if_neg (fun h => e h.symm)]; exact h.ws j hj
  · rw [Array.getElem?_setIfInBounds_self_of_lt (by simpa using hs)]
theorem MArr.setFar {arr : Array Value} {m : M} (h : MArr arr m) {j : Nat} (hj : 4096 < j) (v : Value) : MArr (arr.setIfInBounds j v) m :=
  ⟨fun i hi => by rw [Array.getElem?_setIfInBounds_ne (by omega)]; exact h.ws i hi, by rw [Array.getElem?_setIfInBounds_ne (by omega)]; exact h.sh⟩

set_option maxHeartbeats 1000000 in
theorem rsplit_any (c : Int) (b : Nat) (m : M) (hm : m.Wf) (w : World) (arr : Array Value) (T : TypeId) (hb : w.heap[b]? = some (.cells arr T (0, 0))) (h : MArr arr m) :
    Calls Tryd.prog 46 #[.pointer (some ⟨b, 0, none⟩), .int .i64 c] w fun e w' => e = .returned (.int .i64 ((m.split (ctx c) : Nat) : Int)) ∧ ∃ n, w' = w.drewN n := by
  have hc0 : w.cell? ⟨b, ctx c, none⟩ = some (.int .i64 (((m.p (ctx c) : Nat) : Int) - 1024)) := by rw [cell_of_row w b _ _ _ _ hb]; exact h.ws _ (ctx_lt c)
  have hc1 : w.cell? ⟨b, 4096, none⟩ = some (.int .i64 (4294967295 - ((m.size : Nat) : Int))) := by rw [cell_of_row w b _ _ _ _ hb]; exact h.sh
  have hcx := ctx_lt c
  have hct : c % 4096 = ((ctx c : Nat) : Int) := (ctx_cast c).symm
  have s1 := hm.lo
  have s2 := hm.hi
  have s3 := hm.pl _ hcx
  have s4 := hm.ph _ hcx
  have sb := M.split_bd hm hcx
  have a1 : 4294967295 - (4294967295 - ((m.size : Nat) : Int)) = ((m.size : Nat) : Int) := by omega
  have a2 : 1024 + (((m.p (ctx c) : Nat) : Int) - 1024) = ((m.p (ctx c) : Nat) : Int) := by omega
  have a3 : ((m.size : Nat) : Int) / 2048 * ((m.p (ctx c) : Nat) : Int) = ((m.split (ctx c) : Nat) : Int) := by
    unfold M.split; rw [Int.natCast_mul]; rfl
  have b1 : ((m.size : Nat) : Int) ≤ 4294967295 := by omega
  have b2 : ((m.p (ctx c) : Nat) : Int) ≤ 2017 := by omega
  have b3 : ((m.split (ctx c) : Nat) : Int) ≤ 4294967295 := by omega
  clear s1 s2 s3 s4 sb hb h hm
  go_enter Tryd.func46, Tryd.ntmps46
  go_wp2_with (go_at_call 21; refine (Mod_any _ _ (by omega) (by omega) _).mono ?_; rintro e w' ⟨rfl, rfl⟩)
  go_quiet (fail)
  go_wp2
  go_ret
  exact ⟨rfl, _, rfl⟩

def smallV (v : Value) : Nat := if intOf v < 16777216 then 1 else 0
theorem smallV_lt {k k' : IntKind} {a b : Int} (h1 : ¬ a < 16777216) (h2 : b < 16777216) : smallV (.int k a) < smallV (.int k' b) := by
  unfold smallV
  show (if a < 16777216 then 1 else 0) < (if b < 16777216 then 1 else 0)
  rw [if_neg h1, if_pos h2]; omega
def shiftN (b : Bool) : Int := if b then 1 else 0

set_option maxHeartbeats 1000000 in
theorem rtake_any (c : Int) (one : Bool) (b : Nat) (m : M) (hm : m.Wf) (w : World) (arr : Array Value) (T : TypeId) (hb : w.heap[b]? = some (.cells arr T (0, 0))) (h : MArr arr m) :
    Calls Tryd.prog 47 #[.pointer (some ⟨b, 0, none⟩), .int .i64 c, .bool one] w fun e w' => e = .returned (.int .i64 (shiftN (m.shifts (ctx c) one))) ∧
      w'.heap[b]? = some (.cells ((arr.setIfInBounds (ctx c) (.int .i64 (((m.newp (ctx c) one : Nat) : Int) - 1024))).setIfInBounds 4096 (.int .i64 (4294967295 - (((m.step (ctx c) one).size : Nat) : Int)))) T (0, 0)) ∧ Upd (· = b) w w' := by
  have hc0 : w.cell? ⟨b, ctx c, none⟩ = some (.int .i64 (((m.p (ctx c) : Nat) : Int) - 1024)) := by rw [cell_of_row w b _ _ _ _ hb]; exact h.ws _ (ctx_lt c)
  have hc1 : w.cell? ⟨b, 4096, none⟩ = some (.int .i64 (4294967295 - ((m.size : Nat) : Int))) := by rw [cell_of_row w b _ _ _ _ hb]; exact h.sh
  have hf0 := frozen_of_row w b (ctx c) _ _ hb
  have hf1 := frozen_of_row w b 4096 _ _ hb
  have hcx := ctx_lt c
  have hct : c % 4096 = ((ctx c : Nat) : Int) := (ctx_cast c).symm
  have rb := M.raw_bd hm hcx one
  have nb := norm_bd rb.1 rb.2
  have pb := M.newp_bd hm hcx one
  have sb := M.split_bd hm hcx
  have s2 := hm.hi
  have s3 := hm.pl _ hcx
  have s4 := hm.ph _ hcx
  have a1 : 4294967295 - (4294967295 - ((m.size : Nat) : Int)) = ((m.size : Nat) : Int) := by omega
  have a2 : 1024 + (((m.p (ctx c) : Nat) : Int) - 1024) = ((m.p (ctx c) : Nat) : Int) := by omega
  have b1 : ((m.size : Nat) : Int) ≤ 4294967295 := by omega
  have b2 : ((m.p (ctx c) : Nat) : Int) ≤ 2017 := by omega
  have b3 : ((m.split (ctx c) : Nat) : Int) ≤ ((m.size : Nat) : Int) := by omega
  have b4 : ((m.newp (ctx c) one : Nat) : Int) ≤ 2017 := by omega
  have b5 : ((m.raw (ctx c) one : Nat) : Int) ≤ 4294967295 := by omega
  have hfin : Hid (∀ n W, W = (w.drewN n).setCell ⟨b, ctx c, none⟩ (.int .i64 (((m.newp (ctx c) one : Nat) : Int) - 1024)) →
      (W.setCell ⟨b, 4096, none⟩ (.int .i64 (4294967295 - (((m.step (ctx c) one).size : Nat) : Int)))).heap[b]? = some (.cells ((arr.setIfInBounds (ctx c) (.int .i64 (((m.newp (ctx c) one : Nat) : Int) - 1024))).setIfInBounds 4096 (.int .i64 (4294967295 - (((m.step (ctx c) one).size : Nat) : Int)))) T (0, 0)) ∧
      Upd (· = b) w (W.setCell ⟨b, 4096, none⟩ (.int .i64 (4294967295 - (((m.step (ctx c) one).size : Nat) : Int))))) := by
    intro n W hW; subst hW
    exact ⟨heap_setCell_eq (w := (w.drewN n).setCell ⟨b, ctx c, none⟩ _) _ (heap_setCell_eq (w := w.drewN n) _ hb), ((Upd.ofDrewN (F := (· = b)) w n).setCell (fun _ => rfl) _).setCell (fun _ => rfl) _⟩
  have hstep : Hid ((m.step (ctx c) one).size = norm (m.raw (ctx c) one)) := rfl
  have hsh : Hid (m.shifts (ctx c) one = decide (m.raw (ctx c) one < 16777216)) := rfl
  have HB := Lib.hid hb
  have HH := Lib.hid h
  have RB := Lib.hid rb
  have NB := Lib.hid nb
  have hm' := Lib.hid hm
  cases one
  · have v1 : ((m.p (ctx c) : Nat) : Int) + (2048 - ((m.p (ctx c) : Nat) : Int)) / 32 = ((m.newp (ctx c) false : Nat) : Int) := by unfold M.newp; simp only [Bool.false_eq_true, if_false]; omega
    have v2 := raw_val0 m (ctx c)
    clear s2 s3 s4 sb hb h rb nb pb hm
    go_enter Tryd.func47, Tryd.ntmps47
    go_wp2_with (first | (go_at_call 21; refine (Mod_any _ _ (by omega) (by omega) _).mono ?_; rintro e w' ⟨rfl, rfl⟩) | (go_at_call 46; refine (rsplit_any _ _ _ hm'.out _ _ _ HB.out HH.out).mono ?_; rintro e w' ⟨rfl, n, rfl⟩))
    have hfn := Lib.hid (hfin.out n _ rfl)
    have hcc : w.cell? ⟨b, ctx c, none⟩ = some (.int .i64 (((m.p (ctx c) : Nat) : Int) - 1024)) := hc0
    clear v1 v2 hc0 a2
    go_loop [9, 11] (fun s k => (s = .int .i64 ((m.raw (ctx c) false : Nat) : Int) ∧ k = .int .i64 0) ∨ (m.raw (ctx c) false < 16777216 ∧ s = .int .i64 ((m.raw (ctx c) false : Nat) * 256 : Int) ∧ k = .int .i64 1))
      (fun s _ => smallV s)
    case atStart => exact .inl ⟨rfl, rfl⟩
    case round =>
      rcases hrel with ⟨rfl, rfl⟩ | ⟨hlt, rfl, rfl⟩
      · by_cases hs : ((m.raw (ctx c) false : Nat) : Int) < 16777216
        · go_wp2
          go_round
          case rel => exact .inr ⟨by omega, rfl, rfl⟩
          case measure =>
            have := RB.out
            exact smallV_lt (by omega) hs
        · have e1 : ((m.raw (ctx c) false : Nat) : Int) = (((m.step (ctx c) false).size : Nat) : Int) := by rw [hstep.out]; unfold norm; rw [if_neg (by omega)]
          have e2 : Hid (m.shifts (ctx c) false = false) := by show _ = _; rw [hsh.out]; simp; omega
          have e3 : ((((m.step (ctx c) false).size : Nat) : Int)) ≤ 4294967295 := by rw [← e1]; exact b5
          rw [e1] at hs ⊢
          clear e1 b5
          go_wp2
          go_ret
          refine ⟨by rw [e2.out]; rfl, ?_⟩
          exact hfn.out
      · have hs : ¬ ((m.raw (ctx c) false : Nat) : Int) * 256 < 16777216 := by have := RB.out; omega
        have e1 : ((m.raw (ctx c) false : Nat) : Int) * 256 = (((m.step (ctx c) false).size : Nat) : Int) := by rw [hstep.out]; unfold norm; rw [if_pos hlt]; omega
        have e2 : Hid (m.shifts (ctx c) false = true) := by show _ = _; rw [hsh.out]; simpa using hlt
        have e3 : ((((m.step (ctx c) false).size : Nat) : Int)) ≤ 4294967295 := by rw [← e1]; omega
        rw [e1] at hs ⊢
        clear hlt e1
        go_wp2
        go_ret
        refine ⟨by rw [e2.out]; rfl, ?_⟩
        exact hfn.out
  · have v1 : ((m.p (ctx c) : Nat) : Int) - ((m.p (ctx c) : Nat) : Int) / 32 = ((m.newp (ctx c) true : Nat) : Int) := by unfold M.newp; simp only [if_true]; omega
    have v2 : ((m.size : Nat) : Int) - ((m.split (ctx c) : Nat) : Int) = ((m.raw (ctx c) true : Nat) : Int) := by unfold M.raw; simp only [if_true]; omega
    clear s2 s3 s4 sb hb h rb nb pb hm
    go_enter Tryd.func47, Tryd.ntmps47
    go_wp2_with (first | (go_at_call 21; refine (Mod_any _ _ (by omega) (by omega) _).mono ?_; rintro e w' ⟨rfl, rfl⟩) | (go_at_call 46; refine (rsplit_any _ _ _ hm'.out _ _ _ HB.out HH.out).mono ?_; rintro e w' ⟨rfl, n, rfl⟩))
    have hfn := Lib.hid (hfin.out n _ rfl)
    have hcc : w.cell? ⟨b, ctx c, none⟩ = some (.int .i64 (((m.p (ctx c) : Nat) : Int) - 1024)) := hc0
    clear v1 v2 hc0 a2
    go_loop [9, 11] (fun s k => (s = .int .i64 ((m.raw (ctx c) true : Nat) : Int) ∧ k = .int .i64 0) ∨ (m.raw (ctx c) true < 16777216 ∧ s = .int .i64 ((m.raw (ctx c) true : Nat) * 256 : Int) ∧ k = .int .i64 1))
      (fun s _ => smallV s)
    case atStart => exact .inl ⟨rfl, rfl⟩
    case round =>
      rcases hrel with ⟨rfl, rfl⟩ | ⟨hlt, rfl, rfl⟩
      · by_cases hs : ((m.raw (ctx c) true : Nat) : Int) < 16777216
        · go_wp2
          go_round
          case rel => exact .inr ⟨by omega, rfl, rfl⟩
          case measure =>
            have := RB.out
            exact smallV_lt (by omega) hs
        · have e1 : ((m.raw (ctx c) true : Nat) : Int) = (((m.step (ctx c) true).size : Nat) : Int) := by rw [hstep.out]; unfold norm; rw [if_neg (by omega)]
          have e2 : Hid (m.shifts (ctx c) true = false) := by show _ = _; rw [hsh.out]; simp; omega
          have e3 : ((((m.step (ctx c) true).size : Nat) : Int)) ≤ 4294967295 := by rw [← e1]; exact b5
          rw [e1] at hs ⊢
          clear e1 b5
          go_wp2
          go_ret
          refine ⟨by rw [e2.out]; rfl, ?_⟩
          exact hfn.out
      · have hs : ¬ ((m.raw (ctx c) true : Nat) : Int) * 256 < 16777216 := by have := RB.out; omega
        have e1 : ((m.raw (ctx c) true : Nat) : Int) * 256 = (((m.step (ctx c) true).size : Nat) : Int) := by rw [hstep.out]; unfold norm; rw [if_pos hlt]; omega
        have e2 : Hid (m.shifts (ctx c) true = true) := by show _ = _; rw [hsh.out]; simpa using hlt
        have e3 : ((((m.step (ctx c) true).size : Nat) : Int)) ≤ 4294967295 := by rw [← e1]; omega
        rw [e1] at hs ⊢
        clear hlt e1
        go_wp2
        go_ret
        refine ⟨by rw [e2.out]; rfl, ?_⟩
        exact hfn.out
end Go.Proofs.YtadfolnhomongaaDoor
