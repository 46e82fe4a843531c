/- What a reading of an argument tells: a slice of ints, of bits, of bools lies in its cells; and a world for the witness, in which the two tables of the library hold what the text lays. -/
import Derived.Test.YtadfolnhomongaaDoorLawA
import Derived.Test.YtadfolnhomongaaDoorCards
import Derived.Test.YtadfolnhomongaaDoorTie
import Derived.WalkKit
import Derived.ProofKit
import Derived.OpenShut
import Derived.ShutString
import Derived.ChangeOld
import Derived.Below
import Derived.Carry
import Derived.Deep.SlicePairs
import Derived.Deep.Grids
import Derived.Deep.DeepHandedRow
import Derived.Lib.LaidTab
namespace Go.Proofs.YtadfolnhomongaaDoor
open Go Go.RowKit Go.ChangeShapes Go.WideShapes Go.ChangeAt Pc
set_option maxRecDepth 100000

theorem own : ownKnob Tryd.prog.godebug = none := by kernel_rfl
theorem laidOut : laidOutB Tryd.prog = true := by kernel_rfl

/-- An address that holds a cell has no spot. -/
theorem spot_of_cell {w : World} {a : Addr} {v : Value} (h : w.cell? a = some v) : a = ⟨a.block, a.off, none⟩ := by
  obtain ⟨b, o, s⟩ := a
  cases s with
  | none => rfl
  | some k =>
    exfalso
    unfold World.cell? at h
    split at h
    · simp at h
    · simp at h

theorem flat_pairs_get (l : List (Int × Bool)) (j : Nat) (u : Value) (h : (l.flatMap bitV)[j]? = some u) :
    ∃ (i : Nat) (y : Int × Bool), l[i]? = some y ∧ ((j = i * 2 ∧ u = .int .i64 y.1) ∨ (j = i * 2 + 1 ∧ u = .bool y.2)) := by
  induction l generalizing j with
  | nil => simp at h
  | cons a l ih =>
    match j with
    | 0 => exact ⟨0, a, rfl, .inl ⟨rfl, by simpa [bitV] using h.symm⟩⟩
    | 1 => exact ⟨0, a, rfl, .inr ⟨rfl, by simpa [bitV] using h.symm⟩⟩
    | j + 2 =>
      obtain ⟨i, y, h1, h2⟩ := ih j (by simpa [bitV] using h)
      refine ⟨i + 1, y, by simpa using h1, ?_⟩
      rcases h2 with ⟨h2, h3⟩ | ⟨h2, h3⟩
      · exact .inl ⟨by omega, h3⟩
      · exact .inr ⟨by omega, h3⟩

theorem argBits_of_reading {H : Type} {enc : TypeId × Value → H} {W : World} {d : DataW H} {p : List MemPlace} {v : Value}
    (hval : Value.okWide Tryd.prog W .any 0 22 v) (h : DataW.Trod enc Tryd.prog W 0 (fun _ => true) true 22 v d p) : ∃ l, ArgBits W v l := by
  obtain ⟨a, len, cap, rfl⟩ := okWide_slice Tryd.underlying22 hval
  obtain ⟨fuel, hf⟩ := h
  rcases Deep.open_slice_pairs Tryd.underlying22 Tryd.underlying39 (by kernel_rfl) rfl rfl (by kernel_rfl) (by kernel_rfl) hf with ⟨hcs, _⟩ | ⟨x, len', cap', m, n, V0, V1, D0, D1, P0, P1, hcs, _, hl, hm, hmm, _, hx⟩
  · simp [Value.cells] at hcs
    obtain ⟨rfl, rfl, rfl⟩ := hcs
    exact ⟨[], .inl ⟨none, rfl, rfl⟩⟩
  · simp [Value.cells] at hcs
    obtain ⟨rfl, rfl, rfl⟩ := hcs
    simp only [if_true] at hmm
    subst hmm
    have each : ∀ i, i < m → ∃ y : Int × Bool, W.cell? (x.add (i * 2)) = some (.int .i64 y.1) ∧ W.cell? (x.add (i * 2 + 1)) = some (.bool y.2) := by
      intro i hi
      obtain ⟨h1, h2, h3, h4⟩ := hx i hi
      obtain ⟨z, h5, _⟩ := DataW.trod_int Tryd.underlying3 h3
      obtain ⟨b, h6, _⟩ := DataW.trod_bool Tryd.underlying4 h4
      simp only [List.cons.injEq, and_true] at h5 h6
      exact ⟨(z, b), by rw [h1, h5], by rw [h2, h6]⟩
    by_cases hl0 : len = 0
    · by_cases hm0 : m = 0
      · subst hl0; subst hm0; exact ⟨[], .inl ⟨some x, rfl, rfl⟩⟩
      · subst hl0
        obtain ⟨y, h1, _⟩ := each 0 (by omega)
        have hs : x = ⟨x.block, x.off, none⟩ := by have := spot_of_cell h1; simpa [Addr.add] using this
        exact ⟨[], .inr ⟨x.block, x.off, m, by simp [← hs], Nat.zero_le _, hm, fun j u hj => by simp at hj⟩⟩
    · obtain ⟨f, hfx⟩ := Deep.choose_lt each
      have hs : x = ⟨x.block, x.off, none⟩ := by have := spot_of_cell (hfx 0 (by omega)).1; simpa [Addr.add] using this
      refine ⟨(List.range len).map f, .inr ⟨x.block, x.off, m, by simp [← hs], by simpa using hl, hm, fun j u hj => ?_⟩⟩
      obtain ⟨i, y, h1, h2⟩ := flat_pairs_get _ _ _ hj
      have hi : i < len := by simpa using (List.getElem?_eq_some_iff.1 h1).1
      have hy : y = f i := by rw [List.getElem?_map, List.getElem?_range hi] at h1; simpa using h1.symm
      have hq := hfx i (by omega)
      rw [hs] at hq
      rcases h2 with ⟨rfl, rfl⟩ | ⟨rfl, rfl⟩
      · have := hq.1; rw [add_plain] at this; rw [this, hy]
      · have := hq.2; rw [add_plain] at this; rw [this, hy]

/-- A table's cells, off the datum that pins it. -/
def tabCells : DataW Unit → Array Value
  | .agg ds => (ds.map fun | .lit (.int k n) => Value.int k n | _ => .nilIface).toArray
  | _ => #[]
def tabPairs : DataW Unit → Array Value
  | .agg ds => (ds.flatMap fun | .agg es => es.map (fun | .lit (.int k n) => Value.int k n | _ => .nilIface) | _ => []).toArray
  | _ => #[]
/-- A world for the witness: the settled one, the two tables holding what the text lays. -/
noncomputable def laidWorld (os : Os) : World :=
  { World.holding Tryd.prog os ⟨#[], #[], []⟩ with
    heap := ((World.holding Tryd.prog os ⟨#[], #[], []⟩).heap.modify 0 (fun
      | .cells _ t frozen => .cells (tabCells Go.Pinned.utf8First) t frozen
      | o => o)).modify 1 (fun
      | .cells _ t frozen => .cells (tabPairs (Rows.laid_unicode_utf8_acceptRanges (H := Unit))) t frozen
      | o => o) }
end Go.Proofs.YtadfolnhomongaaDoor
