/- Walks of the laws: CoderShort. -/
import Derived.Test.YtadfolnhomongaaDoorLawC
import Derived.Test.YtadfolnhomongaaDoorWalkL4
import Derived.Test.YtadfolnhomongaaDoorPureE
namespace Go.Proofs.YtadfolnhomongaaDoor
open Go Go.RowKit Pc
set_option maxRecDepth 100000

/-- The row of bits behind k rounds. -/
structure ShortAt (w wr : World) (g n k : Nat) (c : Int) (one : Bool) : Prop where
  up : Upd noBlk w wr
  new : w.heap.size ≤ g
  row : ∃ arr : Array Value, wr.heap[g]? = some (.cells arr 39 (0, 0)) ∧ arr.size = n * 2 ∧ ∀ i, i < k → arr[i * 2]? = some (.int .i64 c) ∧ arr[i * 2 + 1]? = some (.bool one)
/-- 'make([]Bit, n)'. -/
theorem make_bits (n : Nat) (hn : n ≤ 100000) (w : World) : ∃ w', (Instr.makeSlice 22 (.int .i64 (n : Int)) (.int .i64 (n : Int))).run Tryd.prog w = .ok (.slice (some ⟨w.heap.size, 0, none⟩) n n) w' ∧
    (∃ arr : Array Value, w'.heap[w.heap.size]? = some (.cells arr 39 (0, 0)) ∧ arr.size = n * 2) ∧ Upd noBlk w w' := by
  obtain ⟨i0, z, hi, hz0, hz1, hz2, hz3⟩ := info_bit_parts
  have h := run_make (P := Tryd.prog) w 22 39 i0 z Tryd.underlying22 hi hz0 .i64 .i64 (n : Int) (n : Int) (by omega) (by omega) (by rw [hz2]; omega) (by omega)
  rw [hz1] at h
  exact ⟨_, h, ⟨_, heap_alloc_new w _, by rw [size_madeCells]; simp⟩, (Upd.refl _ _).alloc _⟩
theorem ShortAt.cells {w wr : World} {g n k : Nat} {c : Int} {one : Bool} (h : ShortAt w wr g n k c one) (hk : k < n) : ∃ u v, wr.cell? ⟨g, k * 2, none⟩ = some u ∧ wr.cell? ⟨g, k * 2 + 1, none⟩ = some v := by
  obtain ⟨arr, h1, h2, _⟩ := h.row
  refine ⟨arr[k * 2], arr[k * 2 + 1], ?_, ?_⟩
  · rw [cell_of_row _ _ _ _ _ _ h1]; simp
  · rw [cell_of_row _ _ _ _ _ _ h1]; simp
theorem ShortAt.free {w wr : World} {g n k : Nat} {c : Int} {one : Bool} (h : ShortAt w wr g n k c one) (j : Nat) : wr.frozen? ⟨g, j, none⟩ = false := by
  obtain ⟨arr, h1, _⟩ := h.row
  exact frozen_of_row wr g j arr _ h1
theorem ShortAt.step {w wr : World} {g n k : Nat} {c : Int} {one : Bool} (h : ShortAt w wr g n k c one) (hk : k < n) :
    ShortAt w ((wr.setCell ⟨g, k * 2, none⟩ (.int .i64 c)).setCell ⟨g, k * 2 + 1, none⟩ (.bool one)) g n (k + 1) c one := by
  obtain ⟨arr, h1, h2, h3⟩ := h.row
  have hg := h.new
  refine ⟨(h.up.setCell (fun hlt => by simp at hlt; omega) _).setCell (fun hlt => by simp at hlt; omega) _, h.new, _, heap_setCell_eq _ (heap_setCell_eq _ h1), by simpa using h2, fun i hi => ?_⟩
  by_cases e : i = k
  · subst e
    refine ⟨?_, ?_⟩
    · rw [Array.getElem?_setIfInBounds_ne (by omega), Array.getElem?_setIfInBounds_self_of_lt (by omega)]
    · rw [Array.getElem?_setIfInBounds_self_of_lt (by simp; omega)]
  · obtain ⟨a, b⟩ := h3 i (by omega)
    refine ⟨?_, ?_⟩
    · rw [Array.getElem?_setIfInBounds_ne (by omega), Array.getElem?_setIfInBounds_ne (by omega)]; exact a
    · rw [Array.getElem?_setIfInBounds_ne (by omega), Array.getElem?_setIfInBounds_ne (by omega)]; exact b
theorem ShortAt.rd {w wr : World} {g n : Nat} {c : Int} {one : Bool} (h : ShortAt w wr g n n c one) : RdBits wr (.slice (some ⟨g, 0, none⟩) n n) (List.replicate n (c, one)) := by
  obtain ⟨arr, h1, h2, h3⟩ := h.row
  refine .inr ⟨g, 0, n, by simp, fun j u hj => ?_⟩
  have hjl := (List.getElem?_eq_some_iff.1 hj).1
  rw [bitV_length, List.length_replicate] at hjl
  rw [Nat.zero_add, cell_of_row _ _ _ _ _ _ h1, ← hj]
  have hq : j / 2 < (List.replicate n (c, one)).length := by simp; omega
  have g1 := (bitV_get hq).1
  have g2 := (bitV_get hq).2
  rcases Nat.mod_two_eq_zero_or_one j with h0 | h0
  · rw [show j / 2 * 2 = j by omega] at g1
    have a := (h3 (j / 2) (by omega)).1
    rw [show j / 2 * 2 = j by omega] at a
    rw [g1, a]; simp
  · rw [show j / 2 * 2 + 1 = j by omega] at g2
    have a := (h3 (j / 2) (by omega)).2
    rw [show j / 2 * 2 + 1 = j by omega] at a
    rw [g2, a]; simp

set_option maxHeartbeats 4000000 in
theorem lawShort (z : Int) (one : Bool) (c : Int) (w : World) (_hz : (Lit.int .i64 z).wf = true) (_hc : (Lit.int .i64 c).wf = true) :
    Calls Tryd.prog 10 #[.int .i64 z, .bool one, .int .i64 c] w fun e w' => e = .returned (.bool true) ∧ Upd noBlk w w' := by
  obtain ⟨n, hn, hn3⟩ : ∃ n : Nat, z % 3000 = (n : Int) ∧ n < 3000 := mod_nat z 3000 (by decide)
  have hnb : ((n : Nat) : Int) < 3000 := by omega
  go_enter Tryd.func10, Tryd.ntmps10
  go_wp2_with (first | (go_at_call 14; refine (sanity_any _).mono ?_; rintro e w1 ⟨rfl, u1⟩) | (go_at_call 21; refine (Mod_any _ 3000 (by decide) (by decide) _).mono ?_; rintro e wm ⟨rfl, rfl⟩; rw [hn]; obtain ⟨w2, m1, m2, m3⟩ := make_bits n (by omega) w1))
  go_loopw [10] (fun i wr => ∃ k : Nat, i = .int .i64 k ∧ k ≤ n ∧ ShortAt w wr w1.heap.size n k c one) (fun i _ => n - (intOf i).toNat)
  case atStart =>
    obtain ⟨arr, a1, a2⟩ := m2
    exact ⟨0, rfl, Nat.zero_le _, u1.trans m3, u1.size, arr, a1, a2, fun i hi => absurd hi (Nat.not_lt_zero _)⟩
  case round =>
    obtain ⟨k, rfl, hk, hd⟩ := hrel
    have HD := Lib.hid hd
    clear hd m1 m2 m3
    by_cases hlt : k < n
    · obtain ⟨v0, v1, c0, c1⟩ := HD.out.cells hlt
      have f0 := HD.out.free (k * 2)
      have f1 := HD.out.free (k * 2 + 1)
      have HN := Lib.hid (HD.out.step hlt)
      go_wp2
      go_roundw
      case rel => exact ⟨k + 1, by go_num, hlt, HN.out⟩
      case measure => simp [intOf]; omega
    · have hkk : k = n := by omega
      subst hkk
      obtain ⟨L, hL⟩ : ∃ L : List (Int × Bool), L = List.replicate k (c, one) := ⟨_, rfl⟩
      have R1 : Hid (RdBits wr (.slice (some ⟨w1.heap.size, 0, none⟩) k k) L) := by subst hL; exact HD.out.rd
      have U1 := Lib.hid HD.out.up
      have hll : L.length = k := by subst hL; simp
      have hsh : (encode L).length ≤ 12 + k / 100 := by subst hL; exact encode_short c one k hn3
      have hsz : (((str (encode L)).size : Nat) : Int) ≤ 12 + ((k : Nat) : Int) / 100 := by rw [str_size]; omega
      have HN : Hid (L.length ≤ 100000) := by show _ ≤ _; omega
      have HM : Hid ((L.map (·.1)).length ≤ 100000) := by show _ ≤ _; simpa using HN.out
      have HX : Hid ((Pc.decode (encode L) (L.map (·.1))).length ≤ 1000000) := by show _ ≤ _; rw [decode_length, List.length_map]; have := HN.out; omega
      have HY : Hid ((L.map (·.2)).length ≤ 1000000) := by show _ ≤ _; rw [List.length_map]; have := HN.out; omega
      have HE0 : Hid (Pc.decode (encode L) (L.map (·.1)) = L.map (·.2)) := by show _ = _; simpa using decode_encode L 0
      clear HD hsh hll hL
      go_wp2_with fail
      refine (Encode_v _ L _ R1.out HN.out).mono ?_
      rintro e w2 ⟨rfl, u2⟩
      have R3 := Lib.hid (R1.out.keep u2)
      have U3 := Lib.hid (U1.out.trans u2)
      clear R1 U1 u2
      go_wp2_with fail
      refine (contexts_v _ L _ R3.out HN.out).mono ?_
      rintro e w4 ⟨r4, rfl, i4, u4⟩
      have R4 := Lib.hid (R3.out.keep u4)
      have U4 := Lib.hid (U3.out.trans u4)
      have I4 := Lib.hid i4
      clear R3 U3 i4 u4
      go_wp2_with fail
      refine (Decode_v _ (encode_lt _) _ (L.map (·.1)) _ I4.out HM.out).mono ?_
      rintro e w5 ⟨r5, rfl, b5, u5⟩
      have R5 := Lib.hid (R4.out.keep u5)
      have U5 := Lib.hid (U4.out.trans u5)
      have B5 := Lib.hid b5
      clear R4 U4 I4 b5 u5
      go_wp2_with fail
      refine (values_v _ L _ R5.out HN.out).mono ?_
      rintro e w6 ⟨r6, rfl, b6, u6⟩
      have U6 := Lib.hid (U5.out.trans u6)
      have B5' := Lib.hid (B5.out.keep u6)
      have B6 := Lib.hid b6
      clear R5 U5 B5 b6 u6
      go_wp2_with fail
      refine (Bools_any _ _ _ _ _ B5'.out B6.out HX.out HY.out HE0.out).mono ?_
      rintro e w7 ⟨rfl, u7⟩
      have U7 := Lib.hid (U6.out.trans u7)
      clear U6 B5' B6 u7
      go_wp2
      go_ret
      exact ⟨rfl, U7.out⟩
end Go.Proofs.YtadfolnhomongaaDoor
