/- Walk of the coder's update. -/
import Derived.Test.YtadfolnhomongaaDoorWalkC2
namespace Go.Proofs.YtadfolnhomongaaDoor
open Go Go.RowKit Pc
set_option maxRecDepth 100000

theorem Wts.drewN {w : World} {b : Nat} {p : Nat → Nat} (h : Wts w b p) (n : Nat) : Wts (w.drewN n) b p := h

structure Upded (w w' : World) (b wb : Nat) (cs : Array Value) (T : TypeId) (m : M) : Prop where
  blk : w'.heap[b]? = some (.cells (cs.setIfInBounds 1 (.int .u32 m.size)) T (0, 0))
  wt : Wts w' wb m.p
  up : Upd (fun k => k = b ∨ k = wb) w w'


theorem newp_val {m : M} (h : m.Wf) {i : Nat} (hi : i < 4096) : (((m.p i : Nat) : Int) + (2048 - ((m.p i : Nat) : Int)) % 4294967296 / 32) % 4294967296 = ((m.newp i false : Nat) : Int) := by
  have h1 := h.pl i hi
  have h2 := h.ph i hi
  unfold M.newp
  simp only [Bool.false_eq_true, if_false]
  omega
theorem newp_val1 {m : M} (h : m.Wf) {i : Nat} (hi : i < 4096) : (((m.p i : Nat) : Int) - ((m.p i : Nat) : Int) / 32) % 4294967296 = ((m.newp i true : Nat) : Int) := by
  have h1 := h.pl i hi
  have h2 := h.ph i hi
  unfold M.newp
  simp only [if_true]
  omega
theorem raw_val1 {m : M} (h : m.Wf) {i : Nat} (hi : i < 4096) : (((m.size : Nat) : Int) - ((m.split i : Nat) : Int)) % 4294967296 = ((m.raw i true : Nat) : Int) := by
  have h1 := M.split_bd h hi
  have h2 := h.hi
  unfold M.raw
  simp only [if_true]
  omega
theorem raw_val0 (m : M) (i : Nat) : m.split i = m.raw i false := by unfold M.raw; simp

/-- The state of update's loop ahead of a shift. -/
structure Pend (w w' : World) (b wb : Nat) (cs : Array Value) (T : TypeId) (raw : Nat) (p : Nat → Nat) : Prop where
  blk : w'.heap[b]? = some (.cells (cs.setIfInBounds 1 (.int .u32 raw)) T (0, 0))
  wt : Wts w' wb p
  up : Upd (fun k => k = b ∨ k = wb) w w'
theorem Pend.cell {w w' : World} {b wb : Nat} {cs : Array Value} {T : TypeId} {raw : Nat} {p : Nat → Nat} (h : Pend w w' b wb cs T raw p) (h1 : 1 < cs.size) :
    w'.cell? ⟨b, 1, none⟩ = some (.int .u32 raw) ∧ w'.frozen? ⟨b, 1, none⟩ = false :=
  ⟨by rw [cell_of_row w' b 1 _ _ _ h.blk, Array.getElem?_setIfInBounds_self_of_lt h1], frozen_of_row w' b 1 _ _ h.blk⟩
theorem Pend.go {w w' : World} {b wb : Nat} {cs : Array Value} {T : TypeId} {raw : Nat} {p : Nat → Nat} (h : Pend w w' b wb cs T raw p) (hne : b ≠ wb) (v : Nat) :
    Pend w (w'.setCell ⟨b, 1, none⟩ (.int .u32 v)) b wb cs T v p :=
  ⟨by have := heap_setCell_eq (i := 1) (.int .u32 v) h.blk; rwa [Array.setIfInBounds_setIfInBounds] at this,
   h.wt.keep (heap_setCell_other _ _ _ _ (fun e => hne e.symm)), h.up.setCell (fun _ => .inl rfl) _⟩
theorem Pend.upded {w w' : World} {b wb : Nat} {cs : Array Value} {T : TypeId} {m : M} (h : Pend w w' b wb cs T m.size m.p) : Upded w w' b wb cs T m := ⟨h.blk, h.wt, h.up⟩
theorem Pend.start {w : World} {b wb : Nat} {cs : Array Value} {T : TypeId} {p : Nat → Nat} (hb : w.heap[b]? = some (.cells cs T (0, 0))) (hwt : Wts w wb p) (hne : b ≠ wb) (n raw i v : Nat) :
    Pend w (((w.drewN n).setCell ⟨b, 1, none⟩ (.int .u32 raw)).setCell ⟨wb, i, none⟩ (.int .u32 v)).drew b wb cs T raw (upd p i v) :=
  ⟨heap_setCell_ne (w := (w.drewN n).setCell ⟨b, 1, none⟩ (.int .u32 raw)) _ (heap_setCell_eq _ hb) hne,
   Wts.set (w := (w.drewN n).setCell ⟨b, 1, none⟩ (.int .u32 raw)) (hwt.keep (heap_setCell_other _ _ _ _ (fun e => hne e.symm))) i v,
   (((Upd.ofDrewN w n).setCell (fun _ => .inl rfl) _).setCell (fun _ => .inr rfl) _).drew⟩

/-- The measure of update's loop. -/
def small (b : Nat) (wr : World) : Nat := match wr.cell? ⟨b, 1, none⟩ with | some (.int _ n) => if n < 16777216 then 1 else 0 | _ => 0

theorem small_one {b : Nat} {wr : World} {n : Nat} (h : wr.cell? ⟨b, 1, none⟩ = some (.int .u32 n)) (hn : n < 16777216) : small b wr = 1 := by
  unfold small; rw [h]; simp only; rw [if_pos (by omega)]
theorem small_zero {b : Nat} {wr : World} {n : Nat} (h : wr.cell? ⟨b, 1, none⟩ = some (.int .u32 n)) (hn : 16777216 ≤ n) : small b wr = 0 := by
  unfold small; rw [h]; simp only; rw [if_neg (by omega)]

set_option maxHeartbeats 1000000 in
theorem update_W (c : Int) (one : Bool) (b wb wc : Nat) (m : M) (hm : m.Wf) (w : World) (cs : Array Value) (T : TypeId) (hb : w.heap[b]? = some (.cells cs T (0, 0)))
    (h0 : cs[0]? = some (.slice (some ⟨wb, 0, none⟩) 4096 4096)) (h1 : cs[1]? = some (.int .u32 m.size)) (hwt : Wts w wb m.p) (hne : b ≠ wb)
    (K : World → Prop) (hno : m.shifts (ctx c) one = false → ∀ w', Upded w w' b wb cs T (m.step (ctx c) one) → K w')
    (hyes : m.shifts (ctx c) one = true → ∀ w', Upded w w' b wb cs T (m.step (ctx c) one) →
      Calls Tryd.prog 42 #[.pointer (some ⟨wc, 0, none⟩)] w' fun e w'' => e = .returned (.tuple #[]) ∧ w''.cell? ⟨b, 1, none⟩ = some (.int .u32 (m.step (ctx c) one).size) ∧ K w'') :
    Calls Tryd.prog 41 #[.pointer (some ⟨b, 0, none⟩), .int .i64 c, .bool one, .func (.func 42) #[] #[.pointer (some ⟨wc, 0, none⟩)]] w fun e w' => e = .returned (.tuple #[]) ∧ K w' := by
  have hc0 : w.cell? ⟨b, 0, none⟩ = some (.slice (some ⟨wb, 0, none⟩) 4096 4096) := by rw [cell_of_row w b 0 cs T _ hb]; exact h0
  have hc1 : w.cell? ⟨b, 1, none⟩ = some (.int .u32 m.size) := by rw [cell_of_row w b 1 cs T _ hb]; exact h1
  have hf1 := frozen_of_row w b 1 cs T hb
  have hcw := hwt.cell (ctx_lt c)
  have hfw := hwt.free (ctx c)
  have hmod : ∀ n, Mod (w.drewN n) b wb m := fun n => ⟨hc0, hc1, hf1, hwt, hne⟩
  have h1' : 1 < cs.size := (Array.getElem?_eq_some_iff.1 h1).1
  have hn := norm_bd (M.raw_bd hm (ctx_lt c) one).1 (M.raw_bd hm (ctx_lt c) one).2
  have rb := M.raw_bd hm (ctx_lt c) one
  cases one
  · have v1 := newp_val hm (ctx_lt c)
    have v2 := raw_val0 m (ctx c)
    go_enter Tryd.func41, Tryd.ntmps41
    go_wp2_with (first | (go_at_call 52; refine (weight_any _ _ _ _ hc0).mono ?_; rintro e w' ⟨rfl, rfl⟩) | (go_at_call 39; refine (split_any _ _ _ _ hm _ (hmod 0)).mono ?_; rintro e w' ⟨rfl, n, rfl⟩))
    go_region
    go_wp2
    go_loopw [] (fun wr => Pend w wr b wb cs T (m.raw (ctx c) false) (upd m.p (ctx c) (m.newp (ctx c) false)) ∨ (wr.cell? ⟨b, 1, none⟩ = some (.int .u32 (norm (m.raw (ctx c) false))) ∧ K wr)) (fun wr => small b wr)
    case atStart => exact .inl (Pend.start hb hwt hne _ _ _ _)
    case round =>
      clear hb h0 hwt hc0 hc1 hf1 hcw hfw hmod v1 v2
      rcases hrel with hp | ⟨g1, g2⟩
      · obtain ⟨g1, g2⟩ := hp.cell h1'
        by_cases hs : m.raw (ctx c) false < 16777216
        · have e1 : norm (m.raw (ctx c) false) = m.raw (ctx c) false * 256 := by unfold norm; rw [if_pos hs]
          have e2 : ((m.raw (ctx c) false : Nat) : Int) * 256 = ((norm (m.raw (ctx c) false) : Nat) : Int) := by rw [e1]; omega
          have hn2 : ((norm (m.raw (ctx c) false) : Nat) : Int) < 4294967296 := by omega
          have hy := hyes (by unfold M.shifts; simpa using hs) _ (Pend.upded (m := m.step (ctx c) false) (hp.go hne (norm (m.raw (ctx c) false))))
          have e3 : (m.step (ctx c) false).size = norm (m.raw (ctx c) false) := rfl
          rw [e3] at hy
          have g3 := small_one g1 hs
          have hlow : 16777216 ≤ norm (m.raw (ctx c) false) := hn.1
          have E1 := Lib.hid e1
          have E3 := Lib.hid e3
          have HY := Lib.hid hy
          have G3 := Lib.hid g3
          have LO := Lib.hid hlow
          have hs' : ((m.raw (ctx c) false : Nat) : Int) < 16777216 := by omega
          clear e1 e3 hn rb hy g3 hp hno hyes hlow hs
          go_wp2_with (go_at_call 42; refine HY.out.mono ?_; rintro e w' ⟨rfl, q1, q2⟩)
          go_roundw
          case rel => exact .inr ⟨q1, q2⟩
          case measure => rw [G3.out, small_zero q1 LO.out]; omega
        · have hK := hno (by unfold M.shifts; simpa using hs) wr (Pend.upded (m := m.step (ctx c) false) (by
            have e1 : (m.step (ctx c) false).size = m.raw (ctx c) false := by show norm _ = _; unfold norm; rw [if_neg hs]
            rw [e1]; exact hp))
          have hs' : ¬ ((m.raw (ctx c) false : Nat) : Int) < 16777216 := by omega
          clear hp hno hyes
          go_wp2
          go_end0
          exact ⟨rfl, hK⟩
      · have hs' : ¬ ((norm (m.raw (ctx c) false) : Nat) : Int) < 16777216 := by omega
        clear hno hyes
        go_wp2
        go_end0
        exact ⟨rfl, g2⟩
  · have v1 := newp_val1 hm (ctx_lt c)
    have v2 := raw_val1 hm (ctx_lt c)
    go_enter Tryd.func41, Tryd.ntmps41
    go_wp2_with (first | (go_at_call 52; refine (weight_any _ _ _ _ hc0).mono ?_; rintro e w' ⟨rfl, rfl⟩) | (go_at_call 39; refine (split_any _ _ _ _ hm _ (hmod 0)).mono ?_; rintro e w' ⟨rfl, n, rfl⟩))
    go_region
    go_wp2
    go_loopw [] (fun wr => Pend w wr b wb cs T (m.raw (ctx c) true) (upd m.p (ctx c) (m.newp (ctx c) true)) ∨ (wr.cell? ⟨b, 1, none⟩ = some (.int .u32 (norm (m.raw (ctx c) true))) ∧ K wr)) (fun wr => small b wr)
    case atStart => exact .inl (Pend.start hb hwt hne _ _ _ _)
    case round =>
      clear hb h0 hwt hc0 hc1 hf1 hcw hfw hmod v1 v2
      rcases hrel with hp | ⟨g1, g2⟩
      · obtain ⟨g1, g2⟩ := hp.cell h1'
        by_cases hs : m.raw (ctx c) true < 16777216
        · have e1 : norm (m.raw (ctx c) true) = m.raw (ctx c) true * 256 := by unfold norm; rw [if_pos hs]
          have e2 : ((m.raw (ctx c) true : Nat) : Int) * 256 = ((norm (m.raw (ctx c) true) : Nat) : Int) := by rw [e1]; omega
          have hn2 : ((norm (m.raw (ctx c) true) : Nat) : Int) < 4294967296 := by omega
          have hy := hyes (by unfold M.shifts; simpa using hs) _ (Pend.upded (m := m.step (ctx c) true) (hp.go hne (norm (m.raw (ctx c) true))))
          have e3 : (m.step (ctx c) true).size = norm (m.raw (ctx c) true) := rfl
          rw [e3] at hy
          have g3 := small_one g1 hs
          have hlow : 16777216 ≤ norm (m.raw (ctx c) true) := hn.1
          have E1 := Lib.hid e1
          have E3 := Lib.hid e3
          have HY := Lib.hid hy
          have G3 := Lib.hid g3
          have LO := Lib.hid hlow
          have hs' : ((m.raw (ctx c) true : Nat) : Int) < 16777216 := by omega
          clear e1 e3 hn rb hy g3 hp hno hyes hlow hs
          go_wp2_with (go_at_call 42; refine HY.out.mono ?_; rintro e w' ⟨rfl, q1, q2⟩)
          go_roundw
          case rel => exact .inr ⟨q1, q2⟩
          case measure => rw [G3.out, small_zero q1 LO.out]; omega
        · have hK := hno (by unfold M.shifts; simpa using hs) wr (Pend.upded (m := m.step (ctx c) true) (by
            have e1 : (m.step (ctx c) true).size = m.raw (ctx c) true := by show norm _ = _; unfold norm; rw [if_neg hs]
            rw [e1]; exact hp))
          have hs' : ¬ ((m.raw (ctx c) true : Nat) : Int) < 16777216 := by omega
          clear hp hno hyes
          go_wp2
          go_end0
          exact ⟨rfl, hK⟩
      · have hs' : ¬ ((norm (m.raw (ctx c) true) : Nat) : Int) < 16777216 := by omega
        clear hno hyes
        go_wp2
        go_end0
        exact ⟨rfl, g2⟩

set_option maxHeartbeats 1000000 in
theorem update_R (c : Int) (one : Bool) (b wb rc : Nat) (m : M) (hm : m.Wf) (w : World) (cs : Array Value) (T : TypeId) (hb : w.heap[b]? = some (.cells cs T (0, 0)))
    (h0 : cs[0]? = some (.slice (some ⟨wb, 0, none⟩) 4096 4096)) (h1 : cs[1]? = some (.int .u32 m.size)) (hwt : Wts w wb m.p) (hne : b ≠ wb)
    (K : World → Prop) (hno : m.shifts (ctx c) one = false → ∀ w', Upded w w' b wb cs T (m.step (ctx c) one) → K w')
    (hyes : m.shifts (ctx c) one = true → ∀ w', Upded w w' b wb cs T (m.step (ctx c) one) →
      Calls Tryd.prog 45 #[.pointer (some ⟨rc, 0, none⟩)] w' fun e w'' => e = .returned (.tuple #[]) ∧ w''.cell? ⟨b, 1, none⟩ = some (.int .u32 (m.step (ctx c) one).size) ∧ K w'') :
    Calls Tryd.prog 41 #[.pointer (some ⟨b, 0, none⟩), .int .i64 c, .bool one, .func (.func 45) #[.pointer (some ⟨rc, 0, none⟩)] #[]] w fun e w' => e = .returned (.tuple #[]) ∧ K w' := by
  have hc0 : w.cell? ⟨b, 0, none⟩ = some (.slice (some ⟨wb, 0, none⟩) 4096 4096) := by rw [cell_of_row w b 0 cs T _ hb]; exact h0
  have hc1 : w.cell? ⟨b, 1, none⟩ = some (.int .u32 m.size) := by rw [cell_of_row w b 1 cs T _ hb]; exact h1
  have hf1 := frozen_of_row w b 1 cs T hb
  have hcw := hwt.cell (ctx_lt c)
  have hfw := hwt.free (ctx c)
  have hmod : ∀ n, Mod (w.drewN n) b wb m := fun n => ⟨hc0, hc1, hf1, hwt, hne⟩
  have h1' : 1 < cs.size := (Array.getElem?_eq_some_iff.1 h1).1
  have hn := norm_bd (M.raw_bd hm (ctx_lt c) one).1 (M.raw_bd hm (ctx_lt c) one).2
  have rb := M.raw_bd hm (ctx_lt c) one
  cases one
  · have v1 := newp_val hm (ctx_lt c)
    have v2 := raw_val0 m (ctx c)
    go_enter Tryd.func41, Tryd.ntmps41
    go_wp2_with (first | (go_at_call 52; refine (weight_any _ _ _ _ hc0).mono ?_; rintro e w' ⟨rfl, rfl⟩) | (go_at_call 39; refine (split_any _ _ _ _ hm _ (hmod 0)).mono ?_; rintro e w' ⟨rfl, n, rfl⟩))
    go_region
    go_wp2
    go_loopw [] (fun wr => Pend w wr b wb cs T (m.raw (ctx c) false) (upd m.p (ctx c) (m.newp (ctx c) false)) ∨ (wr.cell? ⟨b, 1, none⟩ = some (.int .u32 (norm (m.raw (ctx c) false))) ∧ K wr)) (fun wr => small b wr)
    case atStart => exact .inl (Pend.start hb hwt hne _ _ _ _)
    case round =>
      clear hb h0 hwt hc0 hc1 hf1 hcw hfw hmod v1 v2
      rcases hrel with hp | ⟨g1, g2⟩
      · obtain ⟨g1, g2⟩ := hp.cell h1'
        by_cases hs : m.raw (ctx c) false < 16777216
        · have e1 : norm (m.raw (ctx c) false) = m.raw (ctx c) false * 256 := by unfold norm; rw [if_pos hs]
          have e2 : ((m.raw (ctx c) false : Nat) : Int) * 256 = ((norm (m.raw (ctx c) false) : Nat) : Int) := by rw [e1]; omega
          have hn2 : ((norm (m.raw (ctx c) false) : Nat) : Int) < 4294967296 := by omega
          have hy := hyes (by unfold M.shifts; simpa using hs) _ (Pend.upded (m := m.step (ctx c) false) (hp.go hne (norm (m.raw (ctx c) false))))
          have e3 : (m.step (ctx c) false).size = norm (m.raw (ctx c) false) := rfl
          rw [e3] at hy
          have g3 := small_one g1 hs
          have hlow : 16777216 ≤ norm (m.raw (ctx c) false) := hn.1
          have E1 := Lib.hid e1
          have E3 := Lib.hid e3
          have HY := Lib.hid hy
          have G3 := Lib.hid g3
          have LO := Lib.hid hlow
          have hs' : ((m.raw (ctx c) false : Nat) : Int) < 16777216 := by omega
          clear e1 e3 hn rb hy g3 hp hno hyes hlow hs
          go_wp2_with (go_at_call 45; refine HY.out.mono ?_; rintro e w' ⟨rfl, q1, q2⟩)
          go_roundw
          case rel => exact .inr ⟨q1, q2⟩
          case measure => rw [G3.out, small_zero q1 LO.out]; omega
        · have hK := hno (by unfold M.shifts; simpa using hs) wr (Pend.upded (m := m.step (ctx c) false) (by
            have e1 : (m.step (ctx c) false).size = m.raw (ctx c) false := by show norm _ = _; unfold norm; rw [if_neg hs]
            rw [e1]; exact hp))
          have hs' : ¬ ((m.raw (ctx c) false : Nat) : Int) < 16777216 := by omega
          clear hp hno hyes
          go_wp2
          go_end0
          exact ⟨rfl, hK⟩
      · have hs' : ¬ ((norm (m.raw (ctx c) false) : Nat) : Int) < 16777216 := by omega
        clear hno hyes
        go_wp2
        go_end0
        exact ⟨rfl, g2⟩
  · have v1 := newp_val1 hm (ctx_lt c)
    have v2 := raw_val1 hm (ctx_lt c)
    go_enter Tryd.func41, Tryd.ntmps41
    go_wp2_with (first | (go_at_call 52; refine (weight_any _ _ _ _ hc0).mono ?_; rintro e w' ⟨rfl, rfl⟩) | (go_at_call 39; refine (split_any _ _ _ _ hm _ (hmod 0)).mono ?_; rintro e w' ⟨rfl, n, rfl⟩))
    go_region
    go_wp2
    go_loopw [] (fun wr => Pend w wr b wb cs T (m.raw (ctx c) true) (upd m.p (ctx c) (m.newp (ctx c) true)) ∨ (wr.cell? ⟨b, 1, none⟩ = some (.int .u32 (norm (m.raw (ctx c) true))) ∧ K wr)) (fun wr => small b wr)
    case atStart => exact .inl (Pend.start hb hwt hne _ _ _ _)
    case round =>
      clear hb h0 hwt hc0 hc1 hf1 hcw hfw hmod v1 v2
      rcases hrel with hp | ⟨g1, g2⟩
      · obtain ⟨g1, g2⟩ := hp.cell h1'
        by_cases hs : m.raw (ctx c) true < 16777216
        · have e1 : norm (m.raw (ctx c) true) = m.raw (ctx c) true * 256 := by unfold norm; rw [if_pos hs]
          have e2 : ((m.raw (ctx c) true : Nat) : Int) * 256 = ((norm (m.raw (ctx c) true) : Nat) : Int) := by rw [e1]; omega
          have hn2 : ((norm (m.raw (ctx c) true) : Nat) : Int) < 4294967296 := by omega
          have hy := hyes (by unfold M.shifts; simpa using hs) _ (Pend.upded (m := m.step (ctx c) true) (hp.go hne (norm (m.raw (ctx c) true))))
          have e3 : (m.step (ctx c) true).size = norm (m.raw (ctx c) true) := rfl
          rw [e3] at hy
          have g3 := small_one g1 hs
          have hlow : 16777216 ≤ norm (m.raw (ctx c) true) := hn.1
          have E1 := Lib.hid e1
          have E3 := Lib.hid e3
          have HY := Lib.hid hy
          have G3 := Lib.hid g3
          have LO := Lib.hid hlow
          have hs' : ((m.raw (ctx c) true : Nat) : Int) < 16777216 := by omega
          clear e1 e3 hn rb hy g3 hp hno hyes hlow hs
          go_wp2_with (go_at_call 45; refine HY.out.mono ?_; rintro e w' ⟨rfl, q1, q2⟩)
          go_roundw
          case rel => exact .inr ⟨q1, q2⟩
          case measure => rw [G3.out, small_zero q1 LO.out]; omega
        · have hK := hno (by unfold M.shifts; simpa using hs) wr (Pend.upded (m := m.step (ctx c) true) (by
            have e1 : (m.step (ctx c) true).size = m.raw (ctx c) true := by show norm _ = _; unfold norm; rw [if_neg hs]
            rw [e1]; exact hp))
          have hs' : ¬ ((m.raw (ctx c) true : Nat) : Int) < 16777216 := by omega
          clear hp hno hyes
          go_wp2
          go_end0
          exact ⟨rfl, hK⟩
      · have hs' : ¬ ((norm (m.raw (ctx c) true) : Nat) : Int) < 16777216 := by omega
        clear hno hyes
        go_wp2
        go_end0
        exact ⟨rfl, g2⟩
end Go.Proofs.YtadfolnhomongaaDoor
