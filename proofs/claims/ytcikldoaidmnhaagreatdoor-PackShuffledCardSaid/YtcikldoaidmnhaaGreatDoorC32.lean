/- What a reading of an argument tells, in general: a slice of elements, each read off its cells. No condition. What a reading of an argument tells (packets); and a world for the witness, in which the listed variables hold what the text lays. What a reading of an argument tells (packets): a slice of numbers. No condition. What a reading of an argument tells (packets): a shape, three numbers. No condition. -/
import Derived.Test.YtcikldoaidmnhaaGreatDoorC1
import Derived.ProofKit
import Derived.OpenShut
import Derived.ChangeOld
import Derived.Deep.SlicePairs
import Derived.Deep.Grids
import Derived.WideKeyPair
import Derived.Test.YtcikldoaidmnhaaGreatDoorCards
import Derived.Test.YtcikldoaidmnhaaGreatDoorTie
import Derived.WalkKit
import Derived.ShutString
import Derived.Below
import Derived.Carry
import Derived.Laws.IdiomArrays
import Derived.Deep.DeepHandedRow
import Derived.Deep.DeepWitnessRowRef
import Derived.Lib.LaidTab
import Derived.Test.YtcikldoaidmnhaaGreatDoorC28
import Derived.Test.YtcikldoaidmnhaaGreatDoorC30
namespace Go.Proofs.YtcikldoaidmnhaaGreatDoor
open Go Go.RowKit Go.ChangeShapes Go.WideShapes Go.ChangeAt

/-- An address that holds a cell has no spot. -/
theorem spot_none {w : World} {a : Addr} {v : Value} (h : w.cell? a = some v) : a = ⟨a.block, a.off, none⟩ := by
  obtain ⟨b, o, s⟩ := a
  cases s with
  | none => rfl
  | some k =>
    exfalso
    unfold World.cell? at h
    split at h
    · simp at h
    · simp at h

/-- A slice at any address that reads as a list; R: how an element is read off its cells. -/
def RdL {α : Type} (size : Nat) (R : List Value → α → Prop) (w : World) (A : Option Addr) (l : List α) : Prop :=
  0 < l.length → ∃ b off, A = some ⟨b, off, none⟩ ∧ ∀ j (h : j < l.length), ∃ cs, cs.length = size ∧ R cs l[j] ∧ ∀ i u, cs[i]? = some u → w.cell? ⟨b, off + j * size + i, none⟩ = some u
def ArgL {α : Type} (size : Nat) (R : List Value → α → Prop) (w : World) (v : Value) (l : List α) : Prop :=
  ∃ A cap, v = .slice A l.length cap ∧ RdL size R w A l ∧ l.length ≤ cap ∧ cap ≤ maxLen
theorem RdL.keep {α : Type} {size : Nat} {R : List Value → α → Prop} {w w' : World} {A : Option Addr} {l : List α} (h : RdL size R w A l) (hu : Upd noBlk w w') : RdL size R w' A l := by
  intro h0
  obtain ⟨b, off, e, h1⟩ := h h0
  refine ⟨b, off, e, fun j hj => ?_⟩
  obtain ⟨cs, h2, h3, h4⟩ := h1 j hj
  exact ⟨cs, h2, h3, fun i u hi => hu.cell (h4 i u hi) id⟩

theorem argL_of_reading {P : Program} {t e : TypeId} {α : Type} {size : Nat} (hs : 0 < size) (R : List Value → α → Prop) (ht : P.underlying t = some (.slice e)) (hce : P.cellsOf e = size)
    {H : Type} {enc : TypeId × Value → H} {W : World} {d : DataW H} {p : List MemPlace} {v : Value} (hR : ∀ n cs x, DataW.trod enc P W 0 (fun _ => true) true n e cs = some x → ∃ y, R cs y)
    (hval : Value.okWide P W .any 0 t v) (h : DataW.Trod enc P W 0 (fun _ => true) true t v d p) : ∃ l, ArgL size R W v l := by
  obtain ⟨a, len, cap, rfl⟩ := okWide_slice ht hval
  obtain ⟨fuel, hf⟩ := h
  rcases Deep.open_slice ht hf with ⟨hcs, _⟩ | ⟨x, len', cap', m, n, D, Pl, hcs, _, hl, hm, hmm, _, hx⟩
  · simp [Value.cells] at hcs
    obtain ⟨rfl, rfl, rfl⟩ := hcs
    exact ⟨[], none, 0, rfl, fun h => absurd h (by simp), Nat.le_refl _, Nat.zero_le _⟩
  · simp [Value.cells] at hcs
    obtain ⟨rfl, rfl, rfl⟩ := hcs
    simp only [if_true] at hmm
    subst hmm
    rw [hce] at hx
    have each : ∀ i, i < m → ∃ y cs, cs.length = size ∧ R cs y ∧ ∀ j u, cs[j]? = some u → W.cell? ((x.add (i * size)).add j) = some u := by
      intro i hi
      obtain ⟨cs, h1, h2⟩ := hx i hi
      obtain ⟨y, hy⟩ := hR _ _ _ h2
      obtain ⟨_, h3, h4⟩ := World.cells?_some h1
      exact ⟨y, cs, h3, hy, fun j u hj => by
        have hj' := (List.getElem?_eq_some_iff.1 hj).1
        have := h4 j (by omega)
        rw [this, ← hj]⟩
    by_cases hl0 : len = 0
    · subst hl0; exact ⟨[], some x, m, rfl, fun h => absurd h (by simp), Nat.zero_le _, hm⟩
    · obtain ⟨y0, _⟩ := each 0 (by omega)
      haveI : Inhabited α := ⟨y0⟩
      obtain ⟨f, hfx⟩ := Deep.choose_lt each
      have hsx : x = ⟨x.block, x.off, none⟩ := by
        obtain ⟨cs, h1, _, h3⟩ := hfx 0 (by omega)
        have := spot_none (h3 0 cs[0] (by rw [List.getElem?_eq_getElem]))
        simpa [Addr.add] using this
      refine ⟨(List.range len).map f, some x, m, by simp, fun _ => ⟨x.block, x.off, by rw [← hsx], fun j hj => ?_⟩, by simpa using hl, hm⟩
      obtain ⟨cs, h1, h2, h3⟩ := hfx j (by simp at hj; omega)
      refine ⟨cs, h1, by simpa using h2, fun i u hi => ?_⟩
      have := h3 i u hi
      rw [hsx, add_plain, add_plain] at this
      exact this

theorem arr2_of_reading' {P : Program} {t e : TypeId} (A : WideMaps.ArrKey P t e 2) (he : P.underlying e = some (.int .i64)) {H : Type} {enc : TypeId × Value → H} {W : World} {d : DataW H} {p : List MemPlace} {v : Value}
    (hval : Value.okWide P W .any 0 t v) (h : DataW.Trod enc P W 0 (fun _ => true) true t v d p) : ∃ c0 c1, v = .agg #[.int .i64 c0, .int .i64 c1] ∧ (Lit.int .i64 c0).wf = true ∧ (Lit.int .i64 c1).wf = true := by
  obtain ⟨a, b, rfl, _, _, h1, h2⟩ := WideMaps.open_pair A he hval h
  exact ⟨a, b, rfl, h1, h2⟩
end Go.Proofs.YtcikldoaidmnhaaGreatDoor
namespace Go.Proofs.YtcikldoaidmnhaaGreatDoor
open Go Go.RowKit Go.ChangeShapes Go.WideShapes Go.ChangeAt
set_option maxRecDepth 100000

theorem own : ownKnob Tryz.prog.godebug = none := by kernel_rfl
theorem laidOut : laidOutB Tryz.prog = true := by kernel_rfl

theorem string_of_reading {H : Type} {enc : TypeId × Value → H} {W : World} {d : DataW H} {p : List MemPlace} {v : Value}
    (hval : Value.okWide Tryz.prog W .any 0 9 v) (h : DataW.Trod enc Tryz.prog W 0 (fun _ => true) true 9 v d p) : ∃ s : ByteArray, v = .string s ∧ s.size ≤ maxLen ∧ d = .lit (.string s.data.toList) := by
  obtain ⟨s, rfl, hd, _, hs⟩ := ChangeMaps.open_string Tryz.underlying9 hval h
  exact ⟨s, rfl, hs, hd⟩
theorem int_of_reading {H : Type} {enc : TypeId × Value → H} {W : World} {d : DataW H} {p : List MemPlace} {v : Value}
    (hval : Value.okWide Tryz.prog W .any 0 3 v) (h : DataW.Trod enc Tryz.prog W 0 (fun _ => true) true 3 v d p) : ∃ n, v = .int .i64 n ∧ (Lit.int .i64 n).wf = true := by
  obtain ⟨s, rfl, _, _, hs⟩ := open_int Tryz.underlying3 hval h
  exact ⟨s, rfl, hs⟩
theorem u8_of_reading {H : Type} {enc : TypeId × Value → H} {W : World} {d : DataW H} {p : List MemPlace} {v : Value}
    (hval : Value.okWide Tryz.prog W .any 0 5 v) (h : DataW.Trod enc Tryz.prog W 0 (fun _ => true) true 5 v d p) : ∃ n, v = .int .u8 n ∧ (Lit.int .u8 n).wf = true := by
  obtain ⟨s, rfl, _, _, hs⟩ := open_int Tryz.underlying5 hval h
  exact ⟨s, rfl, hs⟩
/-- A table's cells, off the datum that pins it. -/
def tabCells : DataW Unit → Array Value
  | .agg ds => (ds.map fun | .lit (.int k n) => Value.int k n | _ => .nilIface).toArray
  | _ => #[]
def tabPairs : DataW Unit → Array Value
  | .agg ds => (ds.flatMap fun | .agg es => es.map (fun | .lit (.int k n) => Value.int k n | _ => .nilIface) | _ => []).toArray
  | _ => #[]
def putAt (h : Array Obj) (g : Nat) (cs : Array Value) : Array Obj := h.modify g fun
  | .cells _ t frozen => .cells cs t frozen
  | o => o
/-- A world for the witness: the settled one, the listed variables holding what the text lays. -/
noncomputable def laidWorld (os : Os) : World :=
  { World.holding Tryz.prog os ⟨#[], #[], []⟩ with
    heap := putAt (putAt (World.holding Tryz.prog os ⟨#[], #[], []⟩).heap
      0 (tabCells Go.Pinned.utf8First)) 1 (tabPairs (Rows.laid_unicode_utf8_acceptRanges (H := Unit))) }
end Go.Proofs.YtcikldoaidmnhaaGreatDoor
namespace Go.Proofs.YtcikldoaidmnhaaGreatDoor
open Go Go.RowKit Go.ChangeShapes Go.WideShapes Go.ChangeAt
set_option maxRecDepth 100000
theorem argI_of_reading {H : Type} {enc : TypeId × Value → H} {W : World} {d : DataW H} {p : List MemPlace} {v : Value}
    (hval : Value.okWide Tryz.prog W .any 0 23 v) (h : DataW.Trod enc Tryz.prog W 0 (fun _ => true) true 23 v d p) : ∃ (l : List Int), kInt.Rd W v l ∧ l.length ≤ 9223372036854775807 := by
  obtain ⟨l, A, cap, rfl, h1, h2, h3⟩ := argL_of_reading (size := 1) (by decide) (fun cs (c : Int) => cs = [.int .i64 c]) Tryz.underlying23 (by kernel_rfl) (fun n cs x hx => by
    obtain ⟨z, e, _, w⟩ := DataW.trod_int Tryz.underlying3 hx
    exact ⟨z, e⟩) hval h
  refine ⟨l, ⟨A, cap, rfl, h2, fun h0 => ?_⟩, by unfold maxLen at h3; omega⟩
  obtain ⟨b, off, e, h4⟩ := h1 h0
  refine ⟨b, off, e, fun j hj => ?_⟩
  obtain ⟨cs, _, rfl, h5⟩ := h4 j hj
  exact h5
end Go.Proofs.YtcikldoaidmnhaaGreatDoor
namespace Go.Proofs.YtcikldoaidmnhaaGreatDoor
open Go Go.RowKit Go.ChangeShapes Go.WideShapes Go.ChangeAt
set_option maxRecDepth 100000
theorem field_cell {P : Program} {o : Nat} {t : TypeId} {cs : List Value} {c : Value} (hc : P.cellsOf t = 1) (hg : cs[o]? = some c) : (cs.drop o).take (P.cellsOf t) = [c] := by
  rw [hc, List.take_one, List.head?_drop, hg]; rfl
theorem listF_of_reading {P : Program} {t e : TypeId} {α : Type} {size : Nat} (hs : 0 < size) (R : List Value → α → Prop) (ht : P.underlying t = some (.slice e)) (hce : P.cellsOf e = size)
    {H : Type} {enc : TypeId × Value → H} {W : World} {n : Nat} {cs0 : List Value} {x0 : DataW H × List MemPlace} (hR : ∀ n cs x, DataW.trod enc P W 0 (fun _ => true) true n e cs = some x → ∃ y, R cs y)
    (hf : DataW.trod enc P W 0 (fun _ => true) true n t cs0 = some x0) : ∃ v l, cs0 = [v] ∧ ArgL size R W v l := by
  rcases Deep.open_slice ht hf with ⟨hcs, _⟩ | ⟨x, len, cap, m, n, D, Pl, hcs, _, hl, hm, hmm, _, hx⟩
  · exact ⟨_, [], hcs, none, 0, rfl, fun h => absurd h (by simp), Nat.le_refl _, Nat.zero_le _⟩
  · simp only [if_true] at hmm
    subst hmm
    rw [hce] at hx
    have each : ∀ i, i < m → ∃ y cs, cs.length = size ∧ R cs y ∧ ∀ j u, cs[j]? = some u → W.cell? ((x.add (i * size)).add j) = some u := by
      intro i hi
      obtain ⟨cs, h1, h2⟩ := hx i hi
      obtain ⟨y, hy⟩ := hR _ _ _ h2
      obtain ⟨_, h3, h4⟩ := World.cells?_some h1
      exact ⟨y, cs, h3, hy, fun j u hj => by
        have hj' := (List.getElem?_eq_some_iff.1 hj).1
        have := h4 j (by omega)
        rw [this, ← hj]⟩
    by_cases hl0 : len = 0
    · subst hl0; exact ⟨_, [], hcs, some x, m, rfl, fun h => absurd h (by simp), Nat.zero_le _, hm⟩
    · obtain ⟨y0, _⟩ := each 0 (by omega)
      haveI : Inhabited α := ⟨y0⟩
      obtain ⟨f, hfx⟩ := Deep.choose_lt each
      have hsx : x = ⟨x.block, x.off, none⟩ := by
        obtain ⟨cs, h1, _, h3⟩ := hfx 0 (by omega)
        have := spot_none (h3 0 cs[0] (by rw [List.getElem?_eq_getElem]))
        simpa [Addr.add] using this
      refine ⟨_, (List.range len).map f, hcs, some x, m, by simp, fun _ => ⟨x.block, x.off, by rw [← hsx], fun j hj => ?_⟩, by simpa using hl, hm⟩
      obtain ⟨cs, h1, h2, h3⟩ := hfx j (by simp at hj; omega)
      refine ⟨cs, h1, by simpa using h2, fun i u hi => ?_⟩
      have := h3 i u hi
      rw [hsx, add_plain, add_plain] at this
      exact this
theorem kInt_of_argL {W : World} {v : Value} {l : List Int} (h : ArgL 1 (fun cs (c : Int) => cs = [.int .i64 c]) W v l) : kInt.Rd W v l ∧ l.length ≤ 9223372036854775807 := by
  obtain ⟨A, cap, rfl, h1, h2, h3⟩ := h
  refine ⟨⟨A, cap, rfl, h2, fun h0 => ?_⟩, by unfold maxLen at h3; omega⟩
  obtain ⟨b, off, e, h4⟩ := h1 h0
  refine ⟨b, off, e, fun j hj => ?_⟩
  obtain ⟨cs, _, rfl, h5⟩ := h4 j hj
  exact h5
theorem ints_of_trod {H : Type} {enc : TypeId × Value → H} {W : World} {n : Nat} {cs : List Value} {x : DataW H × List MemPlace} (hf : DataW.trod enc Tryz.prog W 0 (fun _ => true) true n 23 cs = some x) : ∃ v l, cs = [v] ∧ kInt.Rd W v l ∧ l.length ≤ 9223372036854775807 := by
  obtain ⟨v, l, rfl, h⟩ := listF_of_reading (size := 1) (by decide) (fun cs (c : Int) => cs = [.int .i64 c]) Tryz.underlying23 (by kernel_rfl) (fun n cs x hx => by
    obtain ⟨z, e, _, w⟩ := DataW.trod_int Tryz.underlying3 hx
    exact ⟨z, e⟩) hf
  exact ⟨v, l, rfl, kInt_of_argL h⟩
theorem i3_of_trod {H : Type} {enc : TypeId × Value → H} {W : World} {n : Nat} {cs : List Value} {x : DataW H × List MemPlace} (hf : DataW.trod enc Tryz.prog W 0 (fun _ => true) true n 24 cs = some x) : ∃ a b c : Int, cs = [.int .i64 a, .int .i64 b, .int .i64 c] := by
  obtain ⟨xs, m, _, _, hl, hlen, hel⟩ := DataW.trod_array Tryz.underlying24 hf
  have hc1 : Tryz.prog.cellsOf 3 = 1 := by kernel_rfl
  have hc6 : Tryz.prog.cellsOf 24 = 3 := by kernel_rfl
  rw [hc6] at hl
  have get : ∀ i, i < 3 → ∃ z : Int, cs[i]? = some (.int .i64 z) := fun i hi => by
    have h := hel i hi
    rw [List.getElem?_eq_getElem (by omega : i < xs.length), hc1, Nat.mul_one] at h
    obtain ⟨z, e, _, _⟩ := DataW.trod_int Tryz.underlying3 h
    refine ⟨z, ?_⟩
    rw [List.take_one, List.head?_drop] at e
    cases hg : cs[i]? with
    | none => rw [hg] at e; cases e
    | some c => rw [hg] at e; simp at e; rw [e]
  obtain ⟨z0, g0⟩ := get 0 (by decide)
  obtain ⟨z1, g1⟩ := get 1 (by decide)
  obtain ⟨z2, g2⟩ := get 2 (by decide)
  refine ⟨z0, z1, z2, List.ext_getElem? fun i => ?_⟩
  rcases (by omega : i = 0 ∨ i = 1 ∨ i = 2 ∨ 3 ≤ i) with rfl | rfl | rfl | h
  · exact g0
  · exact g1
  · exact g2
  · rw [List.getElem?_eq_none (by omega), List.getElem?_eq_none (by show 3 ≤ i; omega)]
theorem c3_of_reading {H : Type} {enc : TypeId × Value → H} {W : World} {d : DataW H} {p : List MemPlace} {v : Value}
    (hval : Value.okWide Tryz.prog W .any 0 24 v) (h : DataW.Trod enc Tryz.prog W 0 (fun _ => true) true 24 v d p) : ∃ a b c : Int, v = .agg #[.int .i64 a, .int .i64 b, .int .i64 c] := by
  simp only [Value.okWide, Tryz.underlying24] at hval
  obtain ⟨cs, rfl, hl, _⟩ := hval
  obtain ⟨fuel, hf⟩ := h
  obtain ⟨a, b, c, e⟩ := i3_of_trod hf
  refine ⟨a, b, c, ?_⟩
  obtain ⟨l⟩ := cs
  simp only [Value.cells] at e
  rw [e]
theorem u32_wf {z : Int} (h : (Lit.int .u32 z).wf = true) : ∃ c : Nat, z = c ∧ c < 4294967296 := by
  simp [Lit.wf, IntKind.min, IntKind.max, IntKind.signed, IntKind.bits] at h
  exact ⟨z.toNat, by omega, by omega⟩
theorem u8_wf2 {z : Int} (h : (Lit.int .u8 z).wf = true) : ∃ c : Nat, z = c ∧ c < 256 := by
  simp [Lit.wf, IntKind.min, IntKind.max, IntKind.signed, IntKind.bits] at h
  exact ⟨z.toNat, by omega, by omega⟩
theorem shape_of_reading {H : Type} {enc : TypeId × Value → H} {W : World} {d : DataW H} {p : List MemPlace} {v : Value}
    (hval : Value.okWide Tryz.prog W .any 0 26 v) (h : DataW.Trod enc Tryz.prog W 0 (fun _ => true) true 26 v d p) : ∃ (x : SV) (vh : Value), v = x.V vh ∧ kInt.Rd W vh x.heights ∧ x.Ok := by
  obtain ⟨a, rfl, hsz⟩ := okWide_struct Tryz.underlying26 hval
  have h8 : Tryz.prog.cellsOf 26 = 9 := by kernel_rfl
  rw [h8] at hsz
  obtain ⟨fuel, hf⟩ := h
  obtain ⟨xs, n, _, _, _, hlen, hfl⟩ := DataW.trod_struct Tryz.underlying26 hf
  obtain ⟨l⟩ := a
  match l, hsz with
  | [c0, c1, c2, c3, c4, c5, c6, c7, c8], _ =>
    match xs, hlen with
    | [x0, x1, x2, x3, x4, x5, x6], _ =>
      have cu : Tryz.prog.cellsOf 22 = 1 := by kernel_rfl
      have cl : Tryz.prog.cellsOf 23 = 1 := by kernel_rfl
      have cs : Tryz.prog.cellsOf 5 = 1 := by kernel_rfl
      have cb : Tryz.prog.cellsOf 4 = 1 := by kernel_rfl
      have ct : Tryz.prog.cellsOf 24 = 3 := by kernel_rfl
      have g0 : DataW.trod enc Tryz.prog W 0 (fun _ => true) true n 4 [c0] = some x0 := by
        have h := hfl 0 _ rfl
        have e := field_cell (P := Tryz.prog) (o := 0) (t := 4) (cs := [c0, c1, c2, c3, c4, c5, c6, c7, c8]) (c := c0) cb rfl
        rw [← e]; exact h
      have g1 : DataW.trod enc Tryz.prog W 0 (fun _ => true) true n 22 [c1] = some x1 := by
        have h := hfl 1 _ rfl
        have e := field_cell (P := Tryz.prog) (o := 1) (t := 22) (cs := [c0, c1, c2, c3, c4, c5, c6, c7, c8]) (c := c1) cu rfl
        rw [← e]; exact h
      have g2 : DataW.trod enc Tryz.prog W 0 (fun _ => true) true n 22 [c2] = some x2 := by
        have h := hfl 2 _ rfl
        have e := field_cell (P := Tryz.prog) (o := 2) (t := 22) (cs := [c0, c1, c2, c3, c4, c5, c6, c7, c8]) (c := c2) cu rfl
        rw [← e]; exact h
      have g3 : DataW.trod enc Tryz.prog W 0 (fun _ => true) true n 23 [c3] = some x3 := by
        have h := hfl 3 _ rfl
        have e := field_cell (P := Tryz.prog) (o := 3) (t := 23) (cs := [c0, c1, c2, c3, c4, c5, c6, c7, c8]) (c := c3) cl rfl
        rw [← e]; exact h
      have g4 : DataW.trod enc Tryz.prog W 0 (fun _ => true) true n 5 [c4] = some x4 := by
        have h := hfl 4 _ rfl
        have e := field_cell (P := Tryz.prog) (o := 4) (t := 5) (cs := [c0, c1, c2, c3, c4, c5, c6, c7, c8]) (c := c4) cs rfl
        rw [← e]; exact h
      have g5 : DataW.trod enc Tryz.prog W 0 (fun _ => true) true n 5 [c5] = some x5 := by
        have h := hfl 5 _ rfl
        have e := field_cell (P := Tryz.prog) (o := 5) (t := 5) (cs := [c0, c1, c2, c3, c4, c5, c6, c7, c8]) (c := c5) cs rfl
        rw [← e]; exact h
      have g6 : DataW.trod enc Tryz.prog W 0 (fun _ => true) true n 24 [c6, c7, c8] = some x6 := by
        have h := hfl 6 _ rfl
        have e : (([c0, c1, c2, c3, c4, c5, c6, c7, c8] : List Value).drop 6).take (Tryz.prog.cellsOf 24) = [c6, c7, c8] := by rw [ct]; rfl
        rw [← e]; exact h
      obtain ⟨z0, e0, _⟩ := DataW.trod_bool Tryz.underlying4 g0
      obtain ⟨z1, e1, _, w1⟩ := DataW.trod_int Tryz.underlying22 g1
      obtain ⟨z2, e2, _, w2⟩ := DataW.trod_int Tryz.underlying22 g2
      obtain ⟨v3, l3, e3, r3, b3⟩ := ints_of_trod g3
      obtain ⟨z4, e4, _, w4⟩ := DataW.trod_int Tryz.underlying5 g4
      obtain ⟨z5, e5, _, w5⟩ := DataW.trod_int Tryz.underlying5 g5
      obtain ⟨q0, q1, q2, e6⟩ := i3_of_trod g6
      obtain ⟨n1, rfl, k1⟩ := u32_wf w1
      obtain ⟨n2, rfl, k2⟩ := u32_wf w2
      obtain ⟨n4, rfl, k4⟩ := u8_wf2 w4
      obtain ⟨n5, rfl, k5⟩ := u8_wf2 w5
      simp only [List.cons.injEq, and_true] at e0 e1 e2 e3 e4 e5 e6
      obtain ⟨e6, e7, e8⟩ := e6
      subst e0; subst e1; subst e2; subst e3; subst e4; subst e5; subst e6; subst e7; subst e8
      exact ⟨⟨z0, n1, n2, l3, n4, n5, q0, q1, q2⟩, c3, rfl, r3, ⟨k1, k2, b3, k4, k5⟩⟩
end Go.Proofs.YtcikldoaidmnhaaGreatDoor
