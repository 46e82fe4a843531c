/- What a reading of an argument tells (polygon files); and a world for the witness, in which the listed variables hold what the text lays. -/
import Derived.Test.YtojdgdeefhndiaaGreatDoorSLawA
import Derived.Test.YtojdgdeefhndiaaGreatDoorArg
import Derived.Test.YtojdgdeefhndiaaGreatDoorCards
import Derived.Test.YtojdgdeefhndiaaGreatDoorTie
import Derived.WalkKit
import Derived.ProofKit
import Derived.OpenShut
import Derived.ShutString
import Derived.ChangeOld
import Derived.Below
import Derived.Carry
import Derived.Laws.IdiomArrays
import Derived.Deep.DeepHandedRow
import Derived.Deep.DeepWitnessRowRef
import Derived.Lib.LaidTab
namespace Go.Proofs.YtojdgdeefhndiaaGreatDoor
open Go Go.RowKit Go.ChangeShapes Go.WideShapes Go.ChangeAt
set_option maxRecDepth 100000

theorem own : ownKnob Tryz.prog.godebug = none := by kernel_rfl
theorem laidOut : laidOutB Tryz.prog = true := by kernel_rfl

theorem string_of_reading {H : Type} {enc : TypeId × Value → H} {W : World} {d : DataW H} {p : List MemPlace} {v : Value}
    (hval : Value.okWide Tryz.prog W .any 0 9 v) (h : DataW.Trod enc Tryz.prog W 0 (fun _ => true) true 9 v d p) : ∃ s : ByteArray, v = .string s ∧ s.size ≤ maxLen ∧ d = .lit (.string s.data.toList) := by
  obtain ⟨s, rfl, hd, _, hs⟩ := ChangeMaps.open_string Tryz.underlying9 hval h
  exact ⟨s, rfl, hs, hd⟩
theorem int_of_reading {H : Type} {enc : TypeId × Value → H} {W : World} {d : DataW H} {p : List MemPlace} {v : Value}
    (hval : Value.okWide Tryz.prog W .any 0 3 v) (h : DataW.Trod enc Tryz.prog W 0 (fun _ => true) true 3 v d p) : ∃ n, v = .int .i64 n ∧ (Lit.int .i64 n).wf = true := by
  obtain ⟨s, rfl, _, _, hs⟩ := open_int Tryz.underlying3 hval h
  exact ⟨s, rfl, hs⟩
/-- A slice of four numbers each. -/
def ArgQ (w : World) (v : Value) (l : List Quad) : Prop := ∃ A cap, v = .slice A l.length cap ∧ RdQ w A l ∧ l.length ≤ cap ∧ cap ≤ maxLen
def quadCells (cs : List Value) (q : Quad) : Prop := cs = [.int .i64 q.1, .int .i64 q.2.1, .int .i64 q.2.2.1, .int .i64 q.2.2.2] ∧ fitsQ q
theorem fits_wf {n : Int} (h : (Lit.int .i64 n).wf = true) : fits n := by
  simp [Lit.wf, IntKind.min, IntKind.max, IntKind.signed, IntKind.bits] at h
  unfold fits; omega
theorem argQ_of_reading {H : Type} {enc : TypeId × Value → H} {W : World} {d : DataW H} {p : List MemPlace} {v : Value}
    (hval : Value.okWide Tryz.prog W .any 0 22 v) (h : DataW.Trod enc Tryz.prog W 0 (fun _ => true) true 22 v d p) : ∃ l, ArgQ W v l := by
  obtain ⟨l, A, cap, rfl, h1, h2, h3⟩ := argL_of_reading (size := 4) (by decide) quadCells Tryz.underlying22 (by kernel_rfl) (fun n cs x hx => by
    have hl : cs.length = 4 := by
      obtain ⟨_, _, _, _, h4, _⟩ := DataW.trod_array Tryz.underlying53 hx
      rw [h4]; kernel_rfl
    match cs, hl with
    | [a, b, c, e], _ =>
      obtain ⟨y0, y1, y2, y3, m, _, g0, g1, g2, g3⟩ := trod_array4 Tryz.underlying53 (by kernel_rfl) hx
      obtain ⟨z0, e0, _, w0⟩ := DataW.trod_int Tryz.underlying3 g0
      obtain ⟨z1, e1, _, w1⟩ := DataW.trod_int Tryz.underlying3 g1
      obtain ⟨z2, e2, _, w2⟩ := DataW.trod_int Tryz.underlying3 g2
      obtain ⟨z3, e3, _, w3⟩ := DataW.trod_int Tryz.underlying3 g3
      simp only [List.cons.injEq, and_true] at e0 e1 e2 e3
      subst e0; subst e1; subst e2; subst e3
      exact ⟨(z0, z1, z2, z3), rfl, fits_wf w0, fits_wf w1, fits_wf w2, fits_wf w3⟩) hval h
  refine ⟨l, A, cap, rfl, fun h0 => ?_, h2, h3⟩
  obtain ⟨b, off, e, h4⟩ := h1 h0
  refine ⟨b, off, e, fun j hj => ?_⟩
  obtain ⟨cs, _, ⟨rfl, h6⟩, h5⟩ := h4 j hj
  refine ⟨⟨?_, ?_, ?_, ?_⟩, h6⟩
  · simpa using h5 0 _ rfl
  · exact h5 1 _ rfl
  · exact h5 2 _ rfl
  · exact h5 3 _ rfl

/-- A table's cells, off the datum that pins it. -/
def tabCells : DataW Unit → Array Value
  | .agg ds => (ds.map fun | .lit (.int k n) => Value.int k n | _ => .nilIface).toArray
  | _ => #[]
def tabPairs : DataW Unit → Array Value
  | .agg ds => (ds.flatMap fun | .agg es => es.map (fun | .lit (.int k n) => Value.int k n | _ => .nilIface) | _ => []).toArray
  | _ => #[]
noncomputable def low : Nat := (World.holding Tryz.prog default ⟨#[], #[], []⟩).heap.size
def putAt (h : Array Obj) (g : Nat) (cs : Array Value) : Array Obj := h.modify g fun
  | .cells _ t frozen => .cells cs t frozen
  | o => o
/-- A world for the witness: the settled one, the listed variables holding what the text lays; the two errors lie behind it. -/
noncomputable def laidWorld (os : Os) : World :=
  { World.holding Tryz.prog os ⟨#[.cells #[.string ⟨#[118, 97, 108, 117, 101, 32, 111, 117, 116, 32, 111, 102, 32, 114, 97, 110, 103, 101]⟩] 187, .cells #[.string ⟨#[105, 110, 118, 97, 108, 105, 100, 32, 115, 121, 110, 116, 97, 120]⟩] 187], #[], []⟩ with
    heap := putAt (putAt (putAt (putAt (putAt (putAt (putAt (World.holding Tryz.prog os ⟨#[.cells #[.string ⟨#[118, 97, 108, 117, 101, 32, 111, 117, 116, 32, 111, 102, 32, 114, 97, 110, 103, 101]⟩] 187, .cells #[.string ⟨#[105, 110, 118, 97, 108, 105, 100, 32, 115, 121, 110, 116, 97, 120]⟩] 187], #[], []⟩).heap
      3 (tabCells Go.Pinned.utf8First)) 4 (tabPairs (Rows.laid_unicode_utf8_acceptRanges (H := Unit)))) 5 (tabCells (Rows.laid_internal_strconv_uint64pow10 (H := Unit)))) 6 (tabCells (Rows.laid_math_bits_deBruijn32tab (H := Unit)))) 7 (tabCells (Rows.laid_math_bits_deBruijn64tab (H := Unit))))
      2 #[.iface 185 (.pointer (some ⟨low, 0, none⟩))]) 1 #[.iface 185 (.pointer (some ⟨low + 1, 0, none⟩))] }
end Go.Proofs.YtojdgdeefhndiaaGreatDoor
