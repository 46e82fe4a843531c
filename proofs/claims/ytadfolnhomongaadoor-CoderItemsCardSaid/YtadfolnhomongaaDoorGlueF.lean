/- What a reading of an argument tells: a slice of items. -/
import Derived.Test.YtadfolnhomongaaDoorLawJ
import Derived.Test.YtadfolnhomongaaDoorGlueB
import Derived.Deep.Strs
namespace Go.Proofs.YtadfolnhomongaaDoor
open Go Go.RowKit Go.ChangeShapes Go.WideShapes Go.ChangeAt Pc
set_option maxRecDepth 100000

theorem argItems_of_reading {H : Type} {enc : TypeId × Value → H} {W : World} {d : DataW H} {p : List MemPlace} {v : Value}
    (hval : Value.okWide Tryd.prog W .any 0 61 v) (h : DataW.Trod enc Tryd.prog W 0 (fun _ => true) true 61 v d p) : ∃ l, ArgL 3 itCells W v l := by
  refine argL_of_reading (size := 3) (by decide) itCells Tryd.underlying61 (by kernel_rfl) (fun n cs x hx => ?_) hval h
  obtain ⟨y0, y1, y2, m, _, hl, h0, h1, h2⟩ := Deep.trod_struct3 Tryd.underlying65 hx
  have hl3 : cs.length = 3 := by rw [hl]; kernel_rfl
  match cs, hl3 with
  | [a, b, c], _ =>
    obtain ⟨z, e0, _⟩ := DataW.trod_int Tryd.underlying3 (show DataW.trod enc Tryd.prog W 0 (fun _ => true) true m 3 [a] = some y0 from h0)
    obtain ⟨q, e1, _⟩ := DataW.trod_bool Tryd.underlying4 (show DataW.trod enc Tryd.prog W 0 (fun _ => true) true m 4 [b] = some y1 from h1)
    obtain ⟨u, e2, _, hw⟩ := DataW.trod_int Tryd.underlying44 (show DataW.trod enc Tryd.prog W 0 (fun _ => true) true m 44 [c] = some y2 from h2)
    simp only [List.cons.injEq, and_true] at e0 e1 e2
    subst e0; subst e1; subst e2
    simp [Lit.wf, IntKind.min, IntKind.max, IntKind.signed, IntKind.bits] at hw
    exact ⟨(z, q, u.toNat), by simp [Int.toNat_of_nonneg hw.1], by simp; omega⟩
end Go.Proofs.YtadfolnhomongaaDoor
