/- What a reading of an argument tells, in general: a slice of elements, each read off its cells. No condition. -/
import Derived.Test.YtojdgdeefhndiaaGreatDoorLib
import Derived.ProofKit
import Derived.OpenShut
import Derived.ChangeOld
import Derived.Deep.SlicePairs
import Derived.Deep.Grids
import Derived.WideKeyPair
namespace Go.Proofs.YtojdgdeefhndiaaGreatDoor
open Go Go.RowKit Go.ChangeShapes Go.WideShapes Go.ChangeAt

/-- An address that holds a cell has no spot. -/
theorem spot_none {w : World} {a : Addr} {v : Value} (h : w.cell? a = some v) : a = ⟨a.block, a.off, none⟩ := by
  obtain ⟨b, o, s⟩ := a
  cases s with
  | none => rfl
  | some k =>
    exfalso
    unfold World.cell? at h
    split at h
    · simp at h
    · simp at h

/-- A slice at any address that reads as a list; R: how an element is read off its cells. -/
def RdL {α : Type} (size : Nat) (R : List Value → α → Prop) (w : World) (A : Option Addr) (l : List α) : Prop :=
  0 < l.length → ∃ b off, A = some ⟨b, off, none⟩ ∧ ∀ j (h : j < l.length), ∃ cs, cs.length = size ∧ R cs l[j] ∧ ∀ i u, cs[i]? = some u → w.cell? ⟨b, off + j * size + i, none⟩ = some u
def ArgL {α : Type} (size : Nat) (R : List Value → α → Prop) (w : World) (v : Value) (l : List α) : Prop :=
  ∃ A cap, v = .slice A l.length cap ∧ RdL size R w A l ∧ l.length ≤ cap ∧ cap ≤ maxLen
theorem RdL.keep {α : Type} {size : Nat} {R : List Value → α → Prop} {w w' : World} {A : Option Addr} {l : List α} (h : RdL size R w A l) (hu : Upd noBlk w w') : RdL size R w' A l := by
  intro h0
  obtain ⟨b, off, e, h1⟩ := h h0
  refine ⟨b, off, e, fun j hj => ?_⟩
  obtain ⟨cs, h2, h3, h4⟩ := h1 j hj
  exact ⟨cs, h2, h3, fun i u hi => hu.cell (h4 i u hi) id⟩

theorem argL_of_reading {P : Program} {t e : TypeId} {α : Type} {size : Nat} (hs : 0 < size) (R : List Value → α → Prop) (ht : P.underlying t = some (.slice e)) (hce : P.cellsOf e = size)
    {H : Type} {enc : TypeId × Value → H} {W : World} {d : DataW H} {p : List MemPlace} {v : Value} (hR : ∀ n cs x, DataW.trod enc P W 0 (fun _ => true) true n e cs = some x → ∃ y, R cs y)
    (hval : Value.okWide P W .any 0 t v) (h : DataW.Trod enc P W 0 (fun _ => true) true t v d p) : ∃ l, ArgL size R W v l := by
  obtain ⟨a, len, cap, rfl⟩ := okWide_slice ht hval
  obtain ⟨fuel, hf⟩ := h
  rcases Deep.open_slice ht hf with ⟨hcs, _⟩ | ⟨x, len', cap', m, n, D, Pl, hcs, _, hl, hm, hmm, _, hx⟩
  · simp [Value.cells] at hcs
    obtain ⟨rfl, rfl, rfl⟩ := hcs
    exact ⟨[], none, 0, rfl, fun h => absurd h (by simp), Nat.le_refl _, Nat.zero_le _⟩
  · simp [Value.cells] at hcs
    obtain ⟨rfl, rfl, rfl⟩ := hcs
    simp only [if_true] at hmm
    subst hmm
    rw [hce] at hx
    have each : ∀ i, i < m → ∃ y cs, cs.length = size ∧ R cs y ∧ ∀ j u, cs[j]? = some u → W.cell? ((x.add (i * size)).add j) = some u := by
      intro i hi
      obtain ⟨cs, h1, h2⟩ := hx i hi
      obtain ⟨y, hy⟩ := hR _ _ _ h2
      obtain ⟨_, h3, h4⟩ := World.cells?_some h1
      exact ⟨y, cs, h3, hy, fun j u hj => by
        have hj' := (List.getElem?_eq_some_iff.1 hj).1
        have := h4 j (by omega)
        rw [this, ← hj]⟩
    by_cases hl0 : len = 0
    · subst hl0; exact ⟨[], some x, m, rfl, fun h => absurd h (by simp), Nat.zero_le _, hm⟩
    · obtain ⟨y0, _⟩ := each 0 (by omega)
      haveI : Inhabited α := ⟨y0⟩
      obtain ⟨f, hfx⟩ := Deep.choose_lt each
      have hsx : x = ⟨x.block, x.off, none⟩ := by
        obtain ⟨cs, h1, _, h3⟩ := hfx 0 (by omega)
        have := spot_none (h3 0 cs[0] (by rw [List.getElem?_eq_getElem]))
        simpa [Addr.add] using this
      refine ⟨(List.range len).map f, some x, m, by simp, fun _ => ⟨x.block, x.off, by rw [← hsx], fun j hj => ?_⟩, by simpa using hl, hm⟩
      obtain ⟨cs, h1, h2, h3⟩ := hfx j (by simp at hj; omega)
      refine ⟨cs, h1, by simpa using h2, fun i u hi => ?_⟩
      have := h3 i u hi
      rw [hsx, add_plain, add_plain] at this
      exact this

theorem arr2_of_reading' {P : Program} {t e : TypeId} (A : WideMaps.ArrKey P t e 2) (he : P.underlying e = some (.int .i64)) {H : Type} {enc : TypeId × Value → H} {W : World} {d : DataW H} {p : List MemPlace} {v : Value}
    (hval : Value.okWide P W .any 0 t v) (h : DataW.Trod enc P W 0 (fun _ => true) true t v d p) : ∃ c0 c1, v = .agg #[.int .i64 c0, .int .i64 c1] ∧ (Lit.int .i64 c0).wf = true ∧ (Lit.int .i64 c1).wf = true := by
  obtain ⟨a, b, rfl, _, _, h1, h2⟩ := WideMaps.open_pair A he hval h
  exact ⟨a, b, rfl, h1, h2⟩
end Go.Proofs.YtojdgdeefhndiaaGreatDoor
