/- Walks of the coder's model: begin, update. -/
import Derived.Test.YtadfolnhomongaaDoorWalkC1
namespace Go.Proofs.YtadfolnhomongaaDoor
open Go Go.RowKit Pc

/-- The new row of weights, all zero. -/
def zeroW : Array Value := madeCells #[.int .u32 0] 4096
theorem zeroW_size : zeroW.size = 4096 := size_madeCells _ _

theorem info_u32 : (Tryd.prog.info? 69).map (fun i => (i.zero, i.size, i.bytes)) = some (some (.int .u32 0), 1, 4) := by kernel_rfl
theorem make_u32s (w : World) : (Instr.makeSlice 68 (.int .i64 4096) (.int .i64 4096)).run Tryd.prog w = .ok (.slice (some ⟨w.heap.size, 0, none⟩) 4096 4096) (w.alloc (.cells zeroW 69)) := by
  obtain ⟨i0, hi, hz0, hz1, hz2⟩ := info_parts info_u32
  have h := run_make (P := Tryd.prog) w 68 69 i0 (.int .u32 0) Tryd.underlying68 hi hz0 .i64 .i64 4096 4096 (by omega) (by omega) (by rw [hz2]; decide) (by omega)
  rw [hz1] at h
  exact h

/-- The loop of begin, behind k rounds. -/
structure BeginAt (w wr : World) (b wb : Nat) (cs : Array Value) (T : TypeId) (k : Nat) : Prop where
  le : k ≤ 4096
  blk : wr.heap[b]? = some (.cells cs T (0, 0))
  up : Upd (· = b) w wr
  new : w.heap.size ≤ wb
  ne : b ≠ wb
  row : ∃ arr : Array Value, wr.heap[wb]? = some (.cells arr 69 (0, 0)) ∧ arr.size = 4096 ∧ ∀ i, i < k → arr[i]? = some (.int .u32 1024)

theorem BeginAt.step {w wr : World} {b wb : Nat} {cs : Array Value} {T : TypeId} {k : Nat} (h : BeginAt w wr b wb cs T k) (hk : k < 4096) :
    BeginAt w (wr.setCell ⟨wb, k, none⟩ (.int .u32 1024)) b wb cs T (k + 1) := by
  obtain ⟨arr, h1, h2, h3⟩ := h.row
  have hwb := h.new
  refine ⟨hk, heap_setCell_ne _ h.blk h.ne, h.up.setCell (fun hlt => by simp at hlt; omega) _, h.new, h.ne, _, heap_setCell_eq _ h1, by simpa using h2, fun i hi => ?_⟩
  rw [Array.getElem?_setIfInBounds]
  by_cases e : k = i
  · subst e; simp [h2, hk]
  · rw [if_neg e]; exact h3 i (by omega)

theorem BeginAt.done {w wr : World} {b wb : Nat} {cs : Array Value} {T : TypeId} (h : BeginAt w wr b wb cs T 4096) : Wts wr wb (fun _ => 1024) := by
  obtain ⟨arr, h1, h2, h3⟩ := h.row
  exact ⟨arr, h1, h2, h3⟩

set_option maxHeartbeats 400000 in
theorem begin_old (b : Nat) (w : World) (ad : Addr) (n c : Nat) (h0 : w.cell? ⟨b, 0, none⟩ = some (.slice (some ad) n c)) :
    Calls Tryd.prog 37 #[.pointer (some ⟨b, 0, none⟩)] w fun e w' => e = .returned (.bool false) ∧ w = w' := by
  have q := fun (w : World) (a : Option Addr) (n c n' c' : Nat) => run_neq_slice_nil_any (P := Tryd.prog) w 68 69 a n c n' c' Tryd.underlying68
  go_enter Tryd.func37, Tryd.ntmps37
  go_wp2
  go_ret
  exact ⟨rfl, rfl⟩

set_option maxRecDepth 100000 in
set_option maxHeartbeats 400000 in
theorem begin_new (b : Nat) (w : World) (cs : Array Value) (T : TypeId) (hb : w.heap[b]? = some (.cells cs T (0, 0))) (h0 : cs[0]? = some (.slice none 0 0)) (h1 : 1 < cs.size) :
    Calls Tryd.prog 37 #[.pointer (some ⟨b, 0, none⟩)] w fun e w' => e = .returned (.bool true) ∧ ∃ wb, w.heap.size ≤ wb ∧
      w'.heap[b]? = some (.cells ((cs.setIfInBounds 0 (.slice (some ⟨wb, 0, none⟩) 4096 4096)).setIfInBounds 1 (.int .u32 4294967295)) T (0, 0)) ∧ Wts w' wb (fun _ => 1024) ∧ Upd (· = b) w w' := by
  have q := fun (w : World) (a : Option Addr) (n c n' c' : Nat) => run_neq_slice_nil_any (P := Tryd.prog) w 68 69 a n c n' c' Tryd.underlying68
  have hmk := make_u32s
  have hc0 : w.cell? ⟨b, 0, none⟩ = some (.slice none 0 0) := by rw [cell_of_row w b 0 cs T _ hb]; exact h0
  have hc1 : w.cell? ⟨b, 1, none⟩ = some cs[1] := by rw [cell_of_row w b 1 cs T _ hb]; simp [h1]
  have hf0 := frozen_of_row w b 0 cs T hb
  have hf1 := frozen_of_row w b 1 cs T hb
  have hlt := lt_of_heap hb
  go_enter Tryd.func37, Tryd.ntmps37
  have hst : BeginAt w (((w.setCell ⟨b, 0, none⟩ (.slice (some ⟨w.heap.size, 0, none⟩) 4096 4096)).setCell ⟨b, 1, none⟩ (.int .u32 4294967295)).alloc (.cells zeroW 69))
      b w.heap.size ((cs.setIfInBounds 0 (.slice (some ⟨w.heap.size, 0, none⟩) 4096 4096)).setIfInBounds 1 (.int .u32 4294967295)) T 0 :=
    ⟨Nat.zero_le _, heap_alloc_keep _ (heap_setCell_eq _ (heap_setCell_eq _ hb)), (((Upd.refl (· = b) w).setCell (fun _ => rfl) _).setCell (fun _ => rfl) _).alloc _, Nat.le_refl _, by omega,
      zeroW, by have h := heap_alloc_new ((w.setCell ⟨b, 0, none⟩ (.slice (some ⟨w.heap.size, 0, none⟩) 4096 4096)).setCell ⟨b, 1, none⟩ (.int .u32 4294967295)) (.cells zeroW 69); simpa using h, zeroW_size, fun i hi => by omega⟩
  go_wp2
  go_loopw [21] (fun i wr => ∃ k : Nat, i = .int .i64 k ∧ BeginAt w wr b w.heap.size ((cs.setIfInBounds 0 (.slice (some ⟨w.heap.size, 0, none⟩) 4096 4096)).setIfInBounds 1 (.int .u32 4294967295)) T k) (fun i _ => 4096 - (intOf i).toNat)
  case atStart => exact ⟨0, rfl, hst⟩
  case round =>
    obtain ⟨k, rfl, hk⟩ := hrel
    clear hst hc0 hc1 hf0 hf1 h0 hb hmk
    by_cases hlt2 : k < 4096
    · have hs := hk.step hlt2
      obtain ⟨arr, g1, g2, g3⟩ := hk.row
      obtain ⟨v, c1⟩ : ∃ v, wr.cell? ⟨w.heap.size, k, none⟩ = some v := ⟨arr[k], by rw [cell_of_row wr _ k arr _ _ g1]; simp [g2, hlt2]⟩
      have f1 := frozen_of_row wr w.heap.size k arr _ g1
      have c0 : wr.cell? ⟨b, 0, none⟩ = some (.slice (some ⟨w.heap.size, 0, none⟩) 4096 4096) := by rw [cell_of_row wr b 0 _ _ _ hk.blk, Array.getElem?_setIfInBounds_ne (by omega), Array.getElem?_setIfInBounds_self_of_lt (by omega)]
      clear hk g1 g2 g3
      go_wp2
      go_roundw
      case rel => exact ⟨k + 1, by go_num, hs⟩
      case measure => simp [intOf]; omega
    · obtain rfl : k = 4096 := by have := hk.le; omega
      have hd := hk.done
      have h2 := hk.blk
      have h3 := hk.up
      clear hk
      go_wp2
      go_ret
      exact ⟨rfl, _, Nat.le_refl _, h2, hd, h3⟩
end Go.Proofs.YtadfolnhomongaaDoor
