/- What a reading of an argument tells: ints, strings, numbers, bools. -/
import Derived.Test.YtadfolnhomongaaDoorLawB
import Derived.Test.YtadfolnhomongaaDoorGlue
namespace Go.Proofs.YtadfolnhomongaaDoor
open Go Go.RowKit Go.ChangeShapes Go.WideShapes Go.ChangeAt Pc
set_option maxRecDepth 100000

theorem argInts_of_reading {H : Type} {enc : TypeId × Value → H} {W : World} {d : DataW H} {p : List MemPlace} {v : Value}
    (hval : Value.okWide Tryd.prog W .any 0 29 v) (h : DataW.Trod enc Tryd.prog W 0 (fun _ => true) true 29 v d p) : ∃ l, ArgInts W v l := by
  obtain ⟨a, len, cap, rfl⟩ := okWide_slice Tryd.underlying29 hval
  obtain ⟨fuel, hf⟩ := h
  rcases open_ints Tryd.underlying29 Tryd.underlying3 (by kernel_rfl) hf with ⟨hcs, _⟩ | ⟨x, l, c, zs, hcs, _, hl, hm, hz, _, hcell, _⟩
  · simp [Value.cells] at hcs
    obtain ⟨rfl, rfl, rfl⟩ := hcs
    exact ⟨[], .inl ⟨none, rfl, rfl⟩⟩
  · simp [Value.cells] at hcs
    obtain ⟨rfl, rfl, rfl⟩ := hcs
    simp only [if_true] at hz
    by_cases hm0 : cap = 0
    · have hl0 : len = 0 := by omega
      subst hl0; subst hm0; exact ⟨[], .inl ⟨some x, rfl, rfl⟩⟩
    · have hs : x = ⟨x.block, x.off, none⟩ := by have := spot_of_cell (hcell 0 (by omega)); simpa [Addr.add] using this
      refine ⟨zs.take len, .inr ⟨x.block, x.off, cap, by rw [List.length_take, Nat.min_eq_left (by omega), ← hs], by rw [List.length_take]; omega, hm, fun j hj => ?_⟩⟩
      rw [List.length_take] at hj
      have := hcell j (by omega)
      rw [hs, add_plain] at this
      rw [this, List.getElem_take]
      simp [List.getD, List.getElem?_eq_getElem (show j < zs.length by omega)]

theorem string_of_reading {H : Type} {enc : TypeId × Value → H} {W : World} {d : DataW H} {p : List MemPlace} {v : Value}
    (hval : Value.okWide Tryd.prog W .any 0 9 v) (h : DataW.Trod enc Tryd.prog W 0 (fun _ => true) true 9 v d p) : ∃ s, v = .string s ∧ s.size ≤ maxLen := by
  obtain ⟨s, rfl, _, _, hs⟩ := ChangeMaps.open_string Tryd.underlying9 hval h
  exact ⟨s, rfl, hs⟩
theorem int_of_reading {H : Type} {enc : TypeId × Value → H} {W : World} {d : DataW H} {p : List MemPlace} {v : Value}
    (hval : Value.okWide Tryd.prog W .any 0 3 v) (h : DataW.Trod enc Tryd.prog W 0 (fun _ => true) true 3 v d p) : ∃ n, v = .int .i64 n ∧ (Lit.int .i64 n).wf = true := by
  obtain ⟨s, rfl, _, _, hs⟩ := open_int Tryd.underlying3 hval h
  exact ⟨s, rfl, hs⟩
theorem u64_of_reading {H : Type} {enc : TypeId × Value → H} {W : World} {d : DataW H} {p : List MemPlace} {v : Value}
    (hval : Value.okWide Tryd.prog W .any 0 44 v) (h : DataW.Trod enc Tryd.prog W 0 (fun _ => true) true 44 v d p) : ∃ n, v = .int .u64 n ∧ (Lit.int .u64 n).wf = true := by
  obtain ⟨s, rfl, _, _, hs⟩ := open_int Tryd.underlying44 hval h
  exact ⟨s, rfl, hs⟩
theorem bool_of_reading {H : Type} {enc : TypeId × Value → H} {W : World} {d : DataW H} {p : List MemPlace} {v : Value}
    (hval : Value.okWide Tryd.prog W .any 0 4 v) (h : DataW.Trod enc Tryd.prog W 0 (fun _ => true) true 4 v d p) : ∃ b, v = .bool b := by
  obtain ⟨s, rfl, _⟩ := open_bool Tryd.underlying4 hval h
  exact ⟨s, rfl⟩
end Go.Proofs.YtadfolnhomongaaDoor
