/- What a reading of an argument tells: a slice of ints at any address. -/
import Derived.Test.YtadfolnhomongaaDoorLawI
import Derived.Test.YtadfolnhomongaaDoorGlueB
import Derived.Test.YtadfolnhomongaaDoorArg
namespace Go.Proofs.YtadfolnhomongaaDoor
open Go Go.RowKit Go.ChangeShapes Go.WideShapes Go.ChangeAt Pc
set_option maxRecDepth 100000

theorem argI_of_reading {H : Type} {enc : TypeId × Value → H} {W : World} {d : DataW H} {p : List MemPlace} {v : Value}
    (hval : Value.okWide Tryd.prog W .any 0 29 v) (h : DataW.Trod enc Tryd.prog W 0 (fun _ => true) true 29 v d p) : ∃ l, ArgI W v l := by
  obtain ⟨l, A, cap, rfl, h1, h2, h3⟩ := argL_of_reading (size := 1) (by decide) (fun cs (b : Int) => cs = [.int .i64 b]) Tryd.underlying29 (by kernel_rfl) (fun n cs x hx => by
    obtain ⟨b, h1, _⟩ := DataW.trod_int Tryd.underlying3 hx
    exact ⟨b, h1⟩) hval h
  refine ⟨l, A, cap, rfl, fun h0 => ?_, Nat.le_trans h2 h3⟩
  obtain ⟨b, off, e, h4⟩ := h1 h0
  refine ⟨b, off, e, fun j hj => ?_⟩
  obtain ⟨cs, _, rfl, h5⟩ := h4 j hj
  simpa using h5 0 _ rfl
end Go.Proofs.YtadfolnhomongaaDoor
