/- Walks of the coder's model: weight, split, begin, carry. -/
import Derived.Test.YtadfolnhomongaaDoorRows
import Derived.Test.YtadfolnhomongaaDoorLib
import Derived.Test.YtadfolnhomongaaDoorPureC
import Derived.Test.YtadfolnhomongaaDoorStr
import Derived.BigQuiet
import Derived.Deep.QuietTactic
namespace Go.Proofs.YtadfolnhomongaaDoor
open Go Go.RowKit Pc

/-- The weights of the contexts as they lie in their block. -/
def Wts (w : World) (b : Nat) (p : Nat → Nat) : Prop :=
  ∃ arr : Array Value, w.heap[b]? = some (.cells arr 69 (0, 0)) ∧ arr.size = 4096 ∧ ∀ i, i < 4096 → arr[i]? = some (.int .u32 (p i))
theorem Wts.cell {w : World} {b : Nat} {p : Nat → Nat} (h : Wts w b p) {i : Nat} (hi : i < 4096) : w.cell? ⟨b, i, none⟩ = some (.int .u32 (p i)) := by
  obtain ⟨arr, h1, h2, h3⟩ := h
  rw [cell_of_row w b i arr _ _ h1]; exact h3 i hi
theorem Wts.free {w : World} {b : Nat} {p : Nat → Nat} (h : Wts w b p) (i : Nat) : w.frozen? ⟨b, i, none⟩ = false := by
  obtain ⟨arr, h1, h2, h3⟩ := h
  exact frozen_of_row w b i arr _ h1
theorem Wts.lt {w : World} {b : Nat} {p : Nat → Nat} (h : Wts w b p) : b < w.heap.size := by
  obtain ⟨arr, h1, h2, h3⟩ := h
  exact lt_of_heap h1
theorem Wts.keep {w w' : World} {b : Nat} {p : Nat → Nat} (h : Wts w b p) (hb : w'.heap[b]? = w.heap[b]?) : Wts w' b p := by
  obtain ⟨arr, h1, h2, h3⟩ := h
  exact ⟨arr, hb.trans h1, h2, h3⟩
theorem Wts.set {w : World} {b : Nat} {p : Nat → Nat} (h : Wts w b p) (i v : Nat) : Wts (w.setCell ⟨b, i, none⟩ (.int .u32 v)) b (upd p i v) := by
  obtain ⟨arr, h1, h2, h3⟩ := h
  refine ⟨_, heap_setCell_eq _ h1, by simpa using h2, fun j hj => ?_⟩
  rw [Array.getElem?_setIfInBounds]
  unfold upd
  by_cases e : i = j
  · subst e; simp [h2, hj]
  · rw [if_neg e, if_neg (fun h => e h.symm)]; exact h3 j hj

theorem tmod_4096 (c : Int) : c.tmod 4096 = if 0 ≤ c then c % 4096 else - ((-c) % 4096) := by
  split
  · rw [Int.tmod_eq_emod_of_nonneg (by omega)]
  · rw [← Int.neg_neg c, Int.neg_tmod, Int.tmod_eq_emod_of_nonneg (by omega)]; simp
theorem index_eq (c : Int) : (wrap64 (c.tmod 4096 + 4096)).tmod 4096 = ((ctx c : Nat) : Int) := by
  rw [ctx_cast, IntWalk.wrap64_in _ (by rw [tmod_4096]; split <;> omega), Int.tmod_eq_emod_of_nonneg (by rw [tmod_4096]; split <;> omega), tmod_4096]
  split <;> omega

set_option maxHeartbeats 400000 in
theorem weight_any (c : Int) (a : Addr) (wb : Nat) (w : World) (hw : w.cell? a = some (.slice (some ⟨wb, 0, none⟩) 4096 4096)) :
    Calls Tryd.prog 52 #[.pointer (some a), .int .i64 c] w fun e w' => e = .returned (.pointer (some ⟨wb, ctx c, none⟩)) ∧ w = w' := by
  have e := index_eq c
  have h0 := ctx_lt c
  go_enter Tryd.func52, Tryd.ntmps52
  go_wp2
  go_ret
  exact ⟨rfl, rfl⟩

/-- The model at a block's head: where its weights lie, and its range. -/
structure Mod (w : World) (b wb : Nat) (m : M) : Prop where
  c0 : w.cell? ⟨b, 0, none⟩ = some (.slice (some ⟨wb, 0, none⟩) 4096 4096)
  c1 : w.cell? ⟨b, 1, none⟩ = some (.int .u32 m.size)
  f1 : w.frozen? ⟨b, 1, none⟩ = false
  wt : Wts w wb m.p
  ne : b ≠ wb

theorem split_val {m : M} (h : m.Wf) (i : Nat) (hi : i < 4096) : IntKind.u32.wrap (((m.size : Nat) : Int) / 2048 * ((m.p i : Nat) : Int)) = ((m.split i : Nat) : Int) := by
  have h1 := M.split_bd h hi
  have h2 := h.hi
  have e : ((m.size : Nat) : Int) / 2048 * ((m.p i : Nat) : Int) = ((m.split i : Nat) : Int) := by
    unfold M.split; rw [Int.natCast_mul]; rfl
  rw [e]
  exact wrap_u32 (by omega) (by omega)

set_option maxHeartbeats 400000 in
theorem split_any (c : Int) (b wb : Nat) (m : M) (hm : m.Wf) (w : World) (h : Mod w b wb m) :
    Calls Tryd.prog 39 #[.pointer (some ⟨b, 0, none⟩), .int .i64 c] w fun e w' => e = .returned (.int .u32 (m.split (ctx c))) ∧ ∃ n, w' = w.drewN n := by
  have hs := split_val hm (ctx c) (ctx_lt c)
  have h1 := hm.hi
  have hc0 := h.c0
  have hc1 := h.c1
  have hwt := h.wt.cell (ctx_lt c)
  clear h hm
  go_enter Tryd.func39, Tryd.ntmps39
  go_wp2_with fail
  go_quiet ((go_at_call 52; exact quiet_eq (weight_any _ _ _ _ hc0)))
  go_wp2
  go_ret
  exact ⟨rfl, _, rfl⟩

/-- Which block a slice's cells lie in. -/
def inRow (v : Value) : Nat → Prop := fun k => v.ownBlock = some k

/-- What the loop of carry has made of the digits when only those below k are left to do. -/
def carried (ds : List Nat) (k : Nat) : List Nat := ds.take k ++ List.replicate (ds.length - k) 0
structure CarryAt (ds : List Nat) (base g cap : Nat) (w wr : World) (k : Nat) : Prop where
  le : k ≤ ds.length
  own : wr.ownsRow base 5 1 (.slice (some ⟨g, 0, none⟩) ds.length cap) ds.length ((carried ds k).map byteV)
  fr : w.grownBy wr (some g)
  spec : carry ds = carry (ds.take k) ++ List.replicate (ds.length - k) 0

theorem grownBy_trans {w w1 w2 : World} {row : Option Nat} (h : w.grownBy w1 row) (k : w1.grownBy w2 row) : w.grownBy w2 row :=
  ⟨k.os.trans h.os, k.tape.trans h.tape, k.output.trans h.output, Nat.le_trans h.size k.size, fun i hi hr =>
    (k.block i (Nat.lt_of_lt_of_le hi h.size) hr).trans (h.block i hi hr)⟩

theorem carried_set {ds : List Nat} {j : Nat} (hj : j < ds.length) (v : Nat) :
    (((carried ds (j + 1)).map byteV).set j (byteV v)) = (ds.take j ++ v :: List.replicate (ds.length - (j + 1)) 0).map byteV := by
  unfold carried
  rw [take_snoc hj, ← List.map_set]
  congr 1
  have hl : (ds.take j).length = j := by simp; omega
  rw [List.append_assoc, List.set_append_right _ _ (by omega), hl]
  simp

theorem CarryAt.cell {ds : List Nat} {base g cap : Nat} {w wr : World} {j : Nat} (h : CarryAt ds base g cap w wr (j + 1)) :
    ∃ hj : j < ds.length, wr.cell? ⟨g, j, none⟩ = some (.int .u8 ds[j]) := by
  have hj := h.le
  refine ⟨hj, ?_⟩
  rw [h.own.cellAt j (by omega)]
  unfold carried
  have hj' : j < ds.length := hj
  rw [take_snoc hj']
  have hl : (ds.take j).length = j := by simp; omega
  rw [List.append_assoc, List.map_append, List.getElem?_append_right (by simp; omega)]
  simp [byteV, Nat.min_eq_left (Nat.le_of_lt hj')]

theorem CarryAt.go {ds : List Nat} {base g cap : Nat} {w wr : World} {j : Nat} (h : CarryAt ds base g cap w wr (j + 1)) (hj : j < ds.length) (he : ds[j] = 255) :
    CarryAt ds base g cap w (wr.setCell ⟨g, j, none⟩ (.int .u8 0)) j := by
  have hs := h.own.stored j (byteV 0)
  rw [carried_set hj] at hs
  refine ⟨by omega, ?_, grownBy_trans h.fr hs.2, ?_⟩
  · have e : ds.take j ++ 0 :: List.replicate (ds.length - (j + 1)) 0 = carried ds j := by
      unfold carried
      rw [show ds.length - j = (ds.length - (j + 1)) + 1 from by omega, List.replicate_succ]
    rw [← e]
    exact hs.1
  · rw [h.spec, take_snoc hj, he, carry_snoc_255, List.append_assoc, show ds.length - j = (ds.length - (j + 1)) + 1 from by omega, List.replicate_succ]
    rfl

theorem CarryAt.stop {ds : List Nat} {base g cap : Nat} {w wr : World} {j : Nat} (h : CarryAt ds base g cap w wr (j + 1)) (hj : j < ds.length) (he : ds[j] ≠ 255) :
    (wr.setCell ⟨g, j, none⟩ (.int .u8 (ds[j] + 1))).ownsRow base 5 1 (.slice (some ⟨g, 0, none⟩) ds.length cap) ds.length ((carry ds).map byteV) ∧
      w.grownBy (wr.setCell ⟨g, j, none⟩ (.int .u8 (ds[j] + 1))) (some g) := by
  have hs := h.own.stored j (byteV (ds[j] + 1))
  rw [carried_set hj] at hs
  refine ⟨?_, grownBy_trans h.fr hs.2⟩
  rw [h.spec, take_snoc hj, carry_snoc_ne _ he, List.append_assoc]
  exact hs.1

theorem CarryAt.start {ds : List Nat} {base g cap : Nat} {w : World}
    (hown : w.ownsRow base 5 1 (.slice (some ⟨g, 0, none⟩) ds.length cap) ds.length (ds.map byteV)) : CarryAt ds base g cap w w ds.length :=
  ⟨Nat.le_refl _, by simpa [carried] using hown, ⟨rfl, rfl, rfl, Nat.le_refl _, fun _ _ _ => rfl⟩, by simp⟩

set_option maxHeartbeats 400000 in
theorem carry_any (base cap g : Nat) (ds : List Nat) (hds : ∀ d, d ∈ ds → d < 256) (w : World)
    (hown : w.ownsRow base 5 1 (.slice (some ⟨g, 0, none⟩) ds.length cap) ds.length (ds.map byteV)) (hn : ds.length ≤ maxLen) :
    Calls Tryd.prog 40 #[.slice (some ⟨g, 0, none⟩) ds.length cap] w fun e w' => e = .returned (.tuple #[]) ∧
      w'.ownsRow base 5 1 (.slice (some ⟨g, 0, none⟩) ds.length cap) ds.length ((carry ds).map byteV) ∧ w.grownBy w' (some g) := by
  unfold maxLen at hn
  have hst := CarryAt.start hown
  clear hown
  go_enter Tryd.func40, Tryd.ntmps40
  go_wp2
  go_loopw [2] (fun i wr => ∃ k : Nat, i = .int .i64 ((k : Int) - 1) ∧ CarryAt ds base g cap w wr k) (fun i _ => (intOf i + 1).toNat)
  case atStart => exact ⟨_, rfl, hst⟩
  case round =>
    obtain ⟨k, rfl, hk⟩ := hrel
    rcases k with _ | j
    · have h1 : decide (((0 : Nat) : Int) - 1 ≥ 0) = false := by decide
      have h2 := hk.own
      have h3 := hk.fr
      have h4 : carry ds = carried ds 0 := by rw [hk.spec]; rfl
      rw [← h4] at h2
      clear hk h4
      go_wp2
      go_end0
      exact ⟨rfl, h2, h3⟩
    · obtain ⟨hj, hc⟩ := hk.cell
      have hf := hk.own.frozenAt j
      have e1 : (((j + 1 : Nat) : Int) - 1) = (j : Int) := by omega
      rw [e1]
      have hd := hds ds[j] (List.getElem_mem hj)
      by_cases he : ds[j] = 255
      · have e2 : IntKind.u8.wrap (((ds[j] : Nat) : Int) + 1) = 0 := by rw [he]; rfl
        have hgo := hk.go hj he
        clear he hk
        go_wp2
        go_roundw
        case rel => exact ⟨j, rfl, hgo⟩
        case measure => simp [intOf] <;> omega
      · have e2 : IntKind.u8.wrap (((ds[j] : Nat) : Int) + 1) = (ds[j] : Int) + 1 := wrap_u8 (by omega) (by omega)
        have e3 : (((ds[j] : Nat) : Int) + 1 != 0) = true := by rw [bne_iff_ne]; omega
        have hgo := hk.stop hj he
        clear he hk
        go_wp2
        refine bodyPost_ret (results_none rfl _ _ _) rfl ?_
        exact ⟨rfl, hgo⟩
end Go.Proofs.YtadfolnhomongaaDoor
