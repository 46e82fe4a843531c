/- What a reading of an argument tells: rows of numbers. -/
import Derived.Test.YtadfolnhomongaaDoorWalkL4
import Derived.Test.YtadfolnhomongaaDoorGlueB
namespace Go.Proofs.YtadfolnhomongaaDoor
open Go Go.RowKit Go.ChangeShapes Go.WideShapes Go.ChangeAt Pc
set_option maxRecDepth 100000

theorem argNums_of_reading {t e : TypeId} {k : IntKind} (ht : Tryd.prog.underlying t = some (.slice e)) (he : Tryd.prog.underlying e = some (.int k)) (hce : Tryd.prog.cellsOf e = 1) {H : Type} {enc : TypeId × Value → H} {W : World} {d : DataW H} {p : List MemPlace} {v : Value}
    (hval : Value.okWide Tryd.prog W .any 0 t v) (h : DataW.Trod enc Tryd.prog W 0 (fun _ => true) true t v d p) : ∃ l, ArgNums k W v l := by
  obtain ⟨a, len, cap, rfl⟩ := okWide_slice ht hval
  obtain ⟨fuel, hf⟩ := h
  rcases open_ints ht he hce hf with ⟨hcs, _⟩ | ⟨x, l, c, zs, hcs, _, hl, hm, hz, _, hcell, hwf⟩
  · simp [Value.cells] at hcs
    obtain ⟨rfl, rfl, rfl⟩ := hcs
    exact ⟨[], .inl ⟨none, rfl, rfl⟩⟩
  · simp [Value.cells] at hcs
    obtain ⟨rfl, rfl, rfl⟩ := hcs
    simp only [if_true] at hz
    by_cases hm0 : cap = 0
    · have hl0 : len = 0 := by omega
      subst hl0; subst hm0; exact ⟨[], .inl ⟨some x, rfl, rfl⟩⟩
    · have hs : x = ⟨x.block, x.off, none⟩ := by have := spot_of_cell (hcell 0 (by omega)); simpa [Addr.add] using this
      refine ⟨zs.take len, .inr ⟨x.block, x.off, cap, by rw [List.length_take, Nat.min_eq_left (by omega), ← hs], by rw [List.length_take]; unfold maxLen at hm; omega, fun j hj => ?_, fun n hn => hwf n (List.mem_of_mem_take hn)⟩⟩
      rw [List.length_take] at hj
      have := hcell j (by omega)
      rw [hs, add_plain] at this
      rw [this, List.getElem_take]
      simp [List.getD, List.getElem?_eq_getElem (show j < zs.length by omega)]
theorem argU16s_of_reading {H : Type} {enc : TypeId × Value → H} {W : World} {d : DataW H} {p : List MemPlace} {v : Value}
    (hval : Value.okWide Tryd.prog W .any 0 36 v) (h : DataW.Trod enc Tryd.prog W 0 (fun _ => true) true 36 v d p) : ∃ l, ArgNums .u16 W v l :=
  argNums_of_reading Tryd.underlying36 Tryd.underlying37 (by kernel_rfl) hval h
theorem argI8s_of_reading {H : Type} {enc : TypeId × Value → H} {W : World} {d : DataW H} {p : List MemPlace} {v : Value}
    (hval : Value.okWide Tryd.prog W .any 0 41 v) (h : DataW.Trod enc Tryd.prog W 0 (fun _ => true) true 41 v d p) : ∃ l, ArgNums .i8 W v l :=
  argNums_of_reading Tryd.underlying41 Tryd.underlying42 (by kernel_rfl) hval h
end Go.Proofs.YtadfolnhomongaaDoor
