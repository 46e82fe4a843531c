/- What a reading of an argument tells: a slice of bools, two ints in an array. -/
import Derived.Test.YtadfolnhomongaaDoorLawH
import Derived.Test.YtadfolnhomongaaDoorGlueB
import Derived.Test.YtadfolnhomongaaDoorArg
namespace Go.Proofs.YtadfolnhomongaaDoor
open Go Go.RowKit Go.ChangeShapes Go.WideShapes Go.ChangeAt Pc
set_option maxRecDepth 100000

theorem argBools_of_reading {H : Type} {enc : TypeId × Value → H} {W : World} {d : DataW H} {p : List MemPlace} {v : Value}
    (hval : Value.okWide Tryd.prog W .any 0 27 v) (h : DataW.Trod enc Tryd.prog W 0 (fun _ => true) true 27 v d p) : ∃ l, ArgB W v l := by
  obtain ⟨l, A, cap, rfl, h1, h2, h3⟩ := argL_of_reading (size := 1) (by decide) (fun cs (b : Bool) => cs = [.bool b]) Tryd.underlying27 (by kernel_rfl) (fun n cs x hx => by
    obtain ⟨b, h1, _⟩ := DataW.trod_bool Tryd.underlying4 hx
    exact ⟨b, h1⟩) hval h
  refine ⟨l, A, cap, rfl, fun h0 => ?_, Nat.le_trans h2 h3⟩
  obtain ⟨b, off, e, h4⟩ := h1 h0
  refine ⟨b, off, e, fun j hj => ?_⟩
  obtain ⟨cs, _, rfl, h5⟩ := h4 j hj
  simpa using h5 0 _ rfl
theorem arr2_of_reading {H : Type} {enc : TypeId × Value → H} {W : World} {d : DataW H} {p : List MemPlace} {v : Value}
    (hval : Value.okWide Tryd.prog W .any 0 50 v) (h : DataW.Trod enc Tryd.prog W 0 (fun _ => true) true 50 v d p) : ∃ c0 c1, v = .agg #[.int .i64 c0, .int .i64 c1] ∧ (Lit.int .i64 c0).wf = true ∧ (Lit.int .i64 c1).wf = true :=
  arr2_of_reading' ⟨by kernel_rfl, by kernel_rfl, by kernel_rfl, by kernel_rfl⟩ Tryd.underlying3 hval h
end Go.Proofs.YtadfolnhomongaaDoor
