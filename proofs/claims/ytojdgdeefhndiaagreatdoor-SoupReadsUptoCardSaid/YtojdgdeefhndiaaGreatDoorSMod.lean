/- The reference's Mod; slices of four numbers each among the arguments. No condition. -/
import Derived.Test.YtojdgdeefhndiaaGreatDoorSAgree
namespace Go.Proofs.YtojdgdeefhndiaaGreatDoor
open Go Go.RowKit
set_option maxRecDepth 100000

theorem tmod_cases (c m : Int) (hm : 0 < m) : c.tmod m = c % m ∨ c.tmod m = c % m - m := by
  rw [Int.tmod_eq_emod]
  split
  · left; omega
  · right; omega
theorem mod_eq (c m : Int) (hm : 0 < m) : (c.tmod m + m).tmod m = c % m := by
  have h1 := Int.emod_nonneg c (show m ≠ 0 by omega)
  have h2 := Int.emod_lt_of_pos c hm
  rcases tmod_cases c m hm with h | h
  · rw [h, Int.tmod_eq_emod_of_nonneg (by omega), Int.add_emod_right, Int.emod_emod_of_dvd _ (Int.dvd_refl m)]
  · rw [h, Int.tmod_eq_emod_of_nonneg (by omega), Int.sub_add_cancel, Int.emod_emod_of_dvd _ (Int.dvd_refl m)]
theorem mod_wrap (c m : Int) (hm : 0 < m) (hb : m ≤ 1000000) : wrap64 (c.tmod m + m) = c.tmod m + m := by
  have h1 := Int.emod_nonneg c (show m ≠ 0 by omega)
  have h2 := Int.emod_lt_of_pos c hm
  exact IntWalk.wrap64_in _ (by rcases tmod_cases c m hm with h | h <;> rw [h] <;> omega)

set_option maxHeartbeats 400000 in
theorem Mod_any (c m : Int) (hm : 0 < m) (hb : m ≤ 1000000) (w : World) : Calls Tryz.prog 16 #[.int .i64 c, .int .i64 m] w fun e w' => e = .returned (.int .i64 (c % m)) ∧ w = w' := by
  have e1 := mod_wrap c m hm hb
  have e2 := mod_eq c m hm
  have e3 : (m == 0) = false := by rw [beq_eq_false_iff_ne]; omega
  have e4 : ¬ m = -1 := by omega
  have h1 : -9223372036854775808 ≤ c.tmod m ∧ c.tmod m ≤ 9223372036854775807 := by
    have h1 := Int.emod_nonneg c (show m ≠ 0 by omega)
    have h2 := Int.emod_lt_of_pos c hm
    rcases tmod_cases c m hm with h | h <;> rw [h] <;> omega
  go_enter Tryz.func16, Tryz.ntmps16
  go_wp2
  go_ret
  exact ⟨rfl, rfl⟩

abbrev Quad := Int × Int × Int × Int
/-- The four cells of an element. -/
def QuadAt (w : World) (b o : Nat) (q : Quad) : Prop := w.cell? ⟨b, o, none⟩ = some (.int .i64 q.1) ∧ w.cell? ⟨b, o + 1, none⟩ = some (.int .i64 q.2.1) ∧ w.cell? ⟨b, o + 2, none⟩ = some (.int .i64 q.2.2.1) ∧ w.cell? ⟨b, o + 3, none⟩ = some (.int .i64 q.2.2.2)
def fits (x : Int) : Prop := -9223372036854775808 ≤ x ∧ x ≤ 9223372036854775807
def fitsQ (q : Quad) : Prop := fits q.1 ∧ fits q.2.1 ∧ fits q.2.2.1 ∧ fits q.2.2.2
def RdQ (w : World) (A : Option Addr) (l : List Quad) : Prop := 0 < l.length → ∃ b off, A = some ⟨b, off, none⟩ ∧ ∀ j (h : j < l.length), QuadAt w b (off + j * 4) l[j] ∧ fitsQ l[j]
theorem QuadAt.keep {w w' : World} {b o : Nat} {q : Quad} (h : QuadAt w b o q) (hu : Upd noBlk w w') : QuadAt w' b o q := ⟨hu.cell h.1 id, hu.cell h.2.1 id, hu.cell h.2.2.1 id, hu.cell h.2.2.2 id⟩
theorem RdQ.keep {w w' : World} {A : Option Addr} {l : List Quad} (h : RdQ w A l) (hu : Upd noBlk w w') : RdQ w' A l := by
  intro h0
  obtain ⟨b, off, e, h1⟩ := h h0
  exact ⟨b, off, e, fun j hj => ⟨(h1 j hj).1.keep hu, (h1 j hj).2⟩⟩
/-- What a function that makes a string of bounded size comes to. -/
def strB (n : Nat) (w : World) (en : Ending) (w' : World) : Prop := ∃ b : ByteArray, en = .returned (.string b) ∧ b.size ≤ n ∧ Upd noBlk w w'
/-- An array of short strings. -/
theorem short_get {cs : Array Value} {n m : Nat} (h : ∀ j, j < m → ∃ b : ByteArray, cs[j]? = some (.string b) ∧ b.size ≤ n) {j : Nat} (hj : j < m) {w : World} {k : Nat} {t : TypeId} (hw : w.heap[k]? = some (.cells cs t)) : ∃ b : ByteArray, w.cell? ⟨k, j, none⟩ = some (.string b) ∧ b.size ≤ n := by
  obtain ⟨b, h1, h2⟩ := h j hj
  exact ⟨b, by simp only [World.cell?, hw]; exact h1, h2⟩
theorem ba_size (a b : ByteArray) : (a ++ b).size = a.size + b.size := ByteArray.size_append
end Go.Proofs.YtojdgdeefhndiaaGreatDoor
