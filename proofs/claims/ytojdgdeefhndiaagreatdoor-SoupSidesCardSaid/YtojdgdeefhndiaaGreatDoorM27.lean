/- What a reading of an argument tells, in general: a slice of elements, each read off its cells. No condition. What a reading of an argument tells (polygon files); and a world for the witness, in which the listed variables hold what the text lays. Strings as lists of numbers below 256. No condition. Rows of bytes in the call's own memory, and strings made of them. No condition. -/
import Derived.Test.YtojdgdeefhndiaaGreatDoorM2
import Derived.ProofKit
import Derived.OpenShut
import Derived.ChangeOld
import Derived.Deep.SlicePairs
import Derived.Deep.Grids
import Derived.WideKeyPair
import Derived.Test.YtojdgdeefhndiaaGreatDoorM26
import Derived.Test.YtojdgdeefhndiaaGreatDoorCards
import Derived.Test.YtojdgdeefhndiaaGreatDoorTie
import Derived.WalkKit
import Derived.ShutString
import Derived.Below
import Derived.Carry
import Derived.Laws.IdiomArrays
import Derived.Deep.DeepHandedRow
import Derived.Deep.DeepWitnessRowRef
import Derived.Lib.LaidTab
import Derived.Test.YtojdgdeefhndiaaGreatDoorM25
namespace Go.Proofs.YtojdgdeefhndiaaGreatDoor
open Go Go.RowKit Go.ChangeShapes Go.WideShapes Go.ChangeAt

/-- An address that holds a cell has no spot. -/
theorem spot_none {w : World} {a : Addr} {v : Value} (h : w.cell? a = some v) : a = ⟨a.block, a.off, none⟩ := by
  obtain ⟨b, o, s⟩ := a
  cases s with
  | none => rfl
  | some k =>
    exfalso
    unfold World.cell? at h
    split at h
    · simp at h
    · simp at h

/-- A slice at any address that reads as a list; R: how an element is read off its cells. -/
def RdL {α : Type} (size : Nat) (R : List Value → α → Prop) (w : World) (A : Option Addr) (l : List α) : Prop :=
  0 < l.length → ∃ b off, A = some ⟨b, off, none⟩ ∧ ∀ j (h : j < l.length), ∃ cs, cs.length = size ∧ R cs l[j] ∧ ∀ i u, cs[i]? = some u → w.cell? ⟨b, off + j * size + i, none⟩ = some u
def ArgL {α : Type} (size : Nat) (R : List Value → α → Prop) (w : World) (v : Value) (l : List α) : Prop :=
  ∃ A cap, v = .slice A l.length cap ∧ RdL size R w A l ∧ l.length ≤ cap ∧ cap ≤ maxLen
theorem RdL.keep {α : Type} {size : Nat} {R : List Value → α → Prop} {w w' : World} {A : Option Addr} {l : List α} (h : RdL size R w A l) (hu : Upd noBlk w w') : RdL size R w' A l := by
  intro h0
  obtain ⟨b, off, e, h1⟩ := h h0
  refine ⟨b, off, e, fun j hj => ?_⟩
  obtain ⟨cs, h2, h3, h4⟩ := h1 j hj
  exact ⟨cs, h2, h3, fun i u hi => hu.cell (h4 i u hi) id⟩

theorem argL_of_reading {P : Program} {t e : TypeId} {α : Type} {size : Nat} (hs : 0 < size) (R : List Value → α → Prop) (ht : P.underlying t = some (.slice e)) (hce : P.cellsOf e = size)
    {H : Type} {enc : TypeId × Value → H} {W : World} {d : DataW H} {p : List MemPlace} {v : Value} (hR : ∀ n cs x, DataW.trod enc P W 0 (fun _ => true) true n e cs = some x → ∃ y, R cs y)
    (hval : Value.okWide P W .any 0 t v) (h : DataW.Trod enc P W 0 (fun _ => true) true t v d p) : ∃ l, ArgL size R W v l := by
  obtain ⟨a, len, cap, rfl⟩ := okWide_slice ht hval
  obtain ⟨fuel, hf⟩ := h
  rcases Deep.open_slice ht hf with ⟨hcs, _⟩ | ⟨x, len', cap', m, n, D, Pl, hcs, _, hl, hm, hmm, _, hx⟩
  · simp [Value.cells] at hcs
    obtain ⟨rfl, rfl, rfl⟩ := hcs
    exact ⟨[], none, 0, rfl, fun h => absurd h (by simp), Nat.le_refl _, Nat.zero_le _⟩
  · simp [Value.cells] at hcs
    obtain ⟨rfl, rfl, rfl⟩ := hcs
    simp only [if_true] at hmm
    subst hmm
    rw [hce] at hx
    have each : ∀ i, i < m → ∃ y cs, cs.length = size ∧ R cs y ∧ ∀ j u, cs[j]? = some u → W.cell? ((x.add (i * size)).add j) = some u := by
      intro i hi
      obtain ⟨cs, h1, h2⟩ := hx i hi
      obtain ⟨y, hy⟩ := hR _ _ _ h2
      obtain ⟨_, h3, h4⟩ := World.cells?_some h1
      exact ⟨y, cs, h3, hy, fun j u hj => by
        have hj' := (List.getElem?_eq_some_iff.1 hj).1
        have := h4 j (by omega)
        rw [this, ← hj]⟩
    by_cases hl0 : len = 0
    · subst hl0; exact ⟨[], some x, m, rfl, fun h => absurd h (by simp), Nat.zero_le _, hm⟩
    · obtain ⟨y0, _⟩ := each 0 (by omega)
      haveI : Inhabited α := ⟨y0⟩
      obtain ⟨f, hfx⟩ := Deep.choose_lt each
      have hsx : x = ⟨x.block, x.off, none⟩ := by
        obtain ⟨cs, h1, _, h3⟩ := hfx 0 (by omega)
        have := spot_none (h3 0 cs[0] (by rw [List.getElem?_eq_getElem]))
        simpa [Addr.add] using this
      refine ⟨(List.range len).map f, some x, m, by simp, fun _ => ⟨x.block, x.off, by rw [← hsx], fun j hj => ?_⟩, by simpa using hl, hm⟩
      obtain ⟨cs, h1, h2, h3⟩ := hfx j (by simp at hj; omega)
      refine ⟨cs, h1, by simpa using h2, fun i u hi => ?_⟩
      have := h3 i u hi
      rw [hsx, add_plain, add_plain] at this
      exact this

theorem arr2_of_reading' {P : Program} {t e : TypeId} (A : WideMaps.ArrKey P t e 2) (he : P.underlying e = some (.int .i64)) {H : Type} {enc : TypeId × Value → H} {W : World} {d : DataW H} {p : List MemPlace} {v : Value}
    (hval : Value.okWide P W .any 0 t v) (h : DataW.Trod enc P W 0 (fun _ => true) true t v d p) : ∃ c0 c1, v = .agg #[.int .i64 c0, .int .i64 c1] ∧ (Lit.int .i64 c0).wf = true ∧ (Lit.int .i64 c1).wf = true := by
  obtain ⟨a, b, rfl, _, _, h1, h2⟩ := WideMaps.open_pair A he hval h
  exact ⟨a, b, rfl, h1, h2⟩
end Go.Proofs.YtojdgdeefhndiaaGreatDoor
namespace Go.Proofs.YtojdgdeefhndiaaGreatDoor
open Go Go.RowKit Go.ChangeShapes Go.WideShapes Go.ChangeAt
set_option maxRecDepth 100000

theorem own : ownKnob Tryz.prog.godebug = none := by kernel_rfl
theorem laidOut : laidOutB Tryz.prog = true := by kernel_rfl

theorem string_of_reading {H : Type} {enc : TypeId × Value → H} {W : World} {d : DataW H} {p : List MemPlace} {v : Value}
    (hval : Value.okWide Tryz.prog W .any 0 9 v) (h : DataW.Trod enc Tryz.prog W 0 (fun _ => true) true 9 v d p) : ∃ s : ByteArray, v = .string s ∧ s.size ≤ maxLen ∧ d = .lit (.string s.data.toList) := by
  obtain ⟨s, rfl, hd, _, hs⟩ := ChangeMaps.open_string Tryz.underlying9 hval h
  exact ⟨s, rfl, hs, hd⟩
theorem int_of_reading {H : Type} {enc : TypeId × Value → H} {W : World} {d : DataW H} {p : List MemPlace} {v : Value}
    (hval : Value.okWide Tryz.prog W .any 0 3 v) (h : DataW.Trod enc Tryz.prog W 0 (fun _ => true) true 3 v d p) : ∃ n, v = .int .i64 n ∧ (Lit.int .i64 n).wf = true := by
  obtain ⟨s, rfl, _, _, hs⟩ := open_int Tryz.underlying3 hval h
  exact ⟨s, rfl, hs⟩
/-- A slice of four numbers each. -/
def ArgQ (w : World) (v : Value) (l : List Quad) : Prop := ∃ A cap, v = .slice A l.length cap ∧ RdQ w A l ∧ l.length ≤ cap ∧ cap ≤ maxLen
def quadCells (cs : List Value) (q : Quad) : Prop := cs = [.int .i64 q.1, .int .i64 q.2.1, .int .i64 q.2.2.1, .int .i64 q.2.2.2] ∧ fitsQ q
theorem fits_wf {n : Int} (h : (Lit.int .i64 n).wf = true) : fits n := by
  simp [Lit.wf, IntKind.min, IntKind.max, IntKind.signed, IntKind.bits] at h
  unfold fits; omega
theorem argQ_of_reading {H : Type} {enc : TypeId × Value → H} {W : World} {d : DataW H} {p : List MemPlace} {v : Value}
    (hval : Value.okWide Tryz.prog W .any 0 22 v) (h : DataW.Trod enc Tryz.prog W 0 (fun _ => true) true 22 v d p) : ∃ l, ArgQ W v l := by
  obtain ⟨l, A, cap, rfl, h1, h2, h3⟩ := argL_of_reading (size := 4) (by decide) quadCells Tryz.underlying22 (by kernel_rfl) (fun n cs x hx => by
    have hl : cs.length = 4 := by
      obtain ⟨_, _, _, _, h4, _⟩ := DataW.trod_array Tryz.underlying53 hx
      rw [h4]; kernel_rfl
    match cs, hl with
    | [a, b, c, e], _ =>
      obtain ⟨y0, y1, y2, y3, m, _, g0, g1, g2, g3⟩ := trod_array4 Tryz.underlying53 (by kernel_rfl) hx
      obtain ⟨z0, e0, _, w0⟩ := DataW.trod_int Tryz.underlying3 g0
      obtain ⟨z1, e1, _, w1⟩ := DataW.trod_int Tryz.underlying3 g1
      obtain ⟨z2, e2, _, w2⟩ := DataW.trod_int Tryz.underlying3 g2
      obtain ⟨z3, e3, _, w3⟩ := DataW.trod_int Tryz.underlying3 g3
      simp only [List.cons.injEq, and_true] at e0 e1 e2 e3
      subst e0; subst e1; subst e2; subst e3
      exact ⟨(z0, z1, z2, z3), rfl, fits_wf w0, fits_wf w1, fits_wf w2, fits_wf w3⟩) hval h
  refine ⟨l, A, cap, rfl, fun h0 => ?_, h2, h3⟩
  obtain ⟨b, off, e, h4⟩ := h1 h0
  refine ⟨b, off, e, fun j hj => ?_⟩
  obtain ⟨cs, _, ⟨rfl, h6⟩, h5⟩ := h4 j hj
  refine ⟨⟨?_, ?_, ?_, ?_⟩, h6⟩
  · simpa using h5 0 _ rfl
  · exact h5 1 _ rfl
  · exact h5 2 _ rfl
  · exact h5 3 _ rfl

theorem arr3_of_reading {H : Type} {enc : TypeId × Value → H} {W : World} {d : DataW H} {p : List MemPlace} {v : Value}
    (hval : Value.okWide Tryz.prog W .any 0 27 v) (h : DataW.Trod enc Tryz.prog W 0 (fun _ => true) true 27 v d p) : ∃ x y z, v = .agg #[.int .i64 x, .int .i64 y, .int .i64 z] ∧ fits x ∧ fits y ∧ fits z := by
  simp only [Value.okWide, Tryz.underlying27] at hval
  obtain ⟨cs, rfl, hl, _⟩ := hval
  have h3 : cs.size = 3 := by rw [hl]; kernel_rfl
  obtain ⟨fuel, hf⟩ := h
  obtain ⟨l⟩ := cs
  match l, h3 with
  | [a, b, c], _ =>
    obtain ⟨y0, y1, y2, m, _, g0, g1, g2⟩ := trod_array3 Tryz.underlying27 (by kernel_rfl) hf
    obtain ⟨z0, e0, _, w0⟩ := DataW.trod_int Tryz.underlying3 g0
    obtain ⟨z1, e1, _, w1⟩ := DataW.trod_int Tryz.underlying3 g1
    obtain ⟨z2, e2, _, w2⟩ := DataW.trod_int Tryz.underlying3 g2
    simp only [List.cons.injEq, and_true] at e0 e1 e2
    subst e0; subst e1; subst e2
    exact ⟨z0, z1, z2, rfl, fits_wf w0, fits_wf w1, fits_wf w2⟩

/-- A table's cells, off the datum that pins it. -/
def tabCells : DataW Unit → Array Value
  | .agg ds => (ds.map fun | .lit (.int k n) => Value.int k n | _ => .nilIface).toArray
  | _ => #[]
def tabPairs : DataW Unit → Array Value
  | .agg ds => (ds.flatMap fun | .agg es => es.map (fun | .lit (.int k n) => Value.int k n | _ => .nilIface) | _ => []).toArray
  | _ => #[]
noncomputable def low : Nat := (World.holding Tryz.prog default ⟨#[], #[], []⟩).heap.size
def putAt (h : Array Obj) (g : Nat) (cs : Array Value) : Array Obj := h.modify g fun
  | .cells _ t frozen => .cells cs t frozen
  | o => o
/-- A world for the witness: the settled one, the listed variables holding what the text lays; the two errors lie behind it. -/
noncomputable def laidWorld (os : Os) : World :=
  { World.holding Tryz.prog os ⟨#[.cells #[.string ⟨#[118, 97, 108, 117, 101, 32, 111, 117, 116, 32, 111, 102, 32, 114, 97, 110, 103, 101]⟩] 187, .cells #[.string ⟨#[105, 110, 118, 97, 108, 105, 100, 32, 115, 121, 110, 116, 97, 120]⟩] 187], #[], []⟩ with
    heap := putAt (putAt (putAt (putAt (putAt (putAt (putAt (World.holding Tryz.prog os ⟨#[.cells #[.string ⟨#[118, 97, 108, 117, 101, 32, 111, 117, 116, 32, 111, 102, 32, 114, 97, 110, 103, 101]⟩] 187, .cells #[.string ⟨#[105, 110, 118, 97, 108, 105, 100, 32, 115, 121, 110, 116, 97, 120]⟩] 187], #[], []⟩).heap
      3 (tabCells Go.Pinned.utf8First)) 4 (tabPairs (Rows.laid_unicode_utf8_acceptRanges (H := Unit)))) 5 (tabCells (Rows.laid_internal_strconv_uint64pow10 (H := Unit)))) 6 (tabCells (Rows.laid_math_bits_deBruijn32tab (H := Unit)))) 7 (tabCells (Rows.laid_math_bits_deBruijn64tab (H := Unit))))
      2 #[.iface 185 (.pointer (some ⟨low, 0, none⟩))]) 1 #[.iface 185 (.pointer (some ⟨low + 1, 0, none⟩))] }
end Go.Proofs.YtojdgdeefhndiaaGreatDoor
namespace Go.Proofs.YtojdgdeefhndiaaGreatDoor
open Go Go.RowKit

def byteV (d : Nat) : Value := .int .u8 d
def str (l : List Nat) : ByteArray := ⟨(l.map UInt8.ofNat).toArray⟩
theorem str_size (l : List Nat) : (str l).size = l.length := by simp [str, ByteArray.size]
theorem str_data (l : List Nat) : (str l).data.toList = l.map UInt8.ofNat := rfl
theorem str_toList (l : List Nat) : (str l).toList = l.map UInt8.ofNat := ByteArray.toList_mk _
theorem str_nil : str [] = ByteArray.empty := rfl
theorem str_extract (l : List Nat) (a b : Nat) : (str l).extract a b = str ((l.drop a).take (b - a)) := by
  unfold str; rw [ByteArray.extract_mk, List.map_take, List.map_drop]
theorem str_get {l : List Nat} {i : Nat} (h : i < l.length) (hb : ∀ d, d ∈ l → d < 256) (h' : i < (str l).size) : ((str l)[i]'h').toNat = l[i] := by
  have e : (str l)[i]'h' = UInt8.ofNat l[i] := by
    show (str l).data[i]'_ = _
    simp [str]
  rw [e]
  have := hb l[i] (List.getElem_mem h)
  simp; omega
theorem ofNat_inj {a b : Nat} (ha : a < 256) (hb : b < 256) (h : UInt8.ofNat a = UInt8.ofNat b) : a = b := by
  have := congrArg UInt8.toNat h
  simp at this
  omega
theorem map_ofNat_inj : ∀ {a b : List Nat}, (∀ d, d ∈ a → d < 256) → (∀ d, d ∈ b → d < 256) → a.map UInt8.ofNat = b.map UInt8.ofNat → a = b
  | [], [], _, _, _ => rfl
  | [], _ :: _, _, _, h => by simp at h
  | _ :: _, [], _, _, h => by simp at h
  | x :: a, y :: b, ha, hb, h => by
    simp only [List.map_cons, List.cons.injEq] at h
    rw [ofNat_inj (ha x (by simp)) (hb y (by simp)) h.1, map_ofNat_inj (fun d hd => ha d (by simp [hd])) (fun d hd => hb d (by simp [hd])) h.2]
theorem str_inj {a b : List Nat} (ha : ∀ d, d ∈ a → d < 256) (hb : ∀ d, d ∈ b → d < 256) (h : str a = str b) : a = b :=
  map_ofNat_inj ha hb (by rw [← str_data, ← str_data, h])
theorem str_append (a b : List Nat) : str a ++ str b = str (a ++ b) := by
  apply ByteArray.ext
  simp [str]
/-- Any string is one of these. -/
def bytesOf (s : ByteArray) : List Nat := s.data.toList.map UInt8.toNat
theorem bytesOf_lt (s : ByteArray) : ∀ d, d ∈ bytesOf s → d < 256 := by
  intro d hd
  obtain ⟨u, _, rfl⟩ := List.mem_map.1 hd
  exact u.toNat_lt
theorem str_bytesOf (s : ByteArray) : str (bytesOf s) = s := by
  apply ByteArray.ext
  show ((bytesOf s).map UInt8.ofNat).toArray = s.data
  have e : UInt8.ofNat ∘ UInt8.toNat = id := funext fun u => by simp
  rw [bytesOf, List.map_map, e, List.map_id]
theorem bytesOf_length (s : ByteArray) : (bytesOf s).length = s.size := by unfold bytesOf; rw [List.length_map]; rfl
theorem bytesOf_str {l : List Nat} (h : ∀ d, d ∈ l → d < 256) : bytesOf (str l) = l :=
  str_inj (bytesOf_lt _) h (str_bytesOf _)

theorem strOfNums_cast (l : List Nat) : strOfNums (l.map fun (d : Nat) => (d : Int)) = str l := by
  simp [strOfNums, str, Function.comp_def]

/-- A row of bytes that the call owns, made a string. -/
theorem conv_own {P : Program} {w : World} {base : Nat} {src e dst : TypeId} {v : Value} {l : List Nat} (hs : P.underlying src = some (.slice e)) (he : P.underlying e = some (.int .u8)) (hd : P.underlying dst = some .string)
    (hown : w.ownsRow base e 1 v l.length (l.map byteV)) : (convert src dst v).run P w = .ok (.string (str l)) w := by
  rcases hown.2 with ⟨rfl, h0⟩ | ⟨g, cap, cur, rfl, _, hg, _, _, hsz, htake⟩
  · rw [run_convert_bytes_nil w src e hs he 0 0 dst hd, List.eq_nil_of_length_eq_zero h0]; rfl
  · rw [run_convert_bytes_arg w src e hs he g 0 l.length cap (l.map fun (d : Nat) => (d : Int)) (by simp) (fun i hi => ?_) dst hd, strOfNums_cast]
    rw [Nat.zero_add, hown.cellAt i (by omega)]
    simp [byteV, hi]

/-- Two strings put together. -/
theorem run_add {P : Program} {a b c : List Nat} (h : a.length + b.length ≤ 9223372036854775807) (hc : a ++ b = c) (w : World) : (Op.stringOp .add (str a) (str b)).run P w = .ok (.string (str c)) w := by
  rw [run_string_add_sum (P := P) w (str a) (str b) (by rw [str_size, str_size]; exact h), str_append, hc]

/-- How long a string value is. -/
def lenOfV : Value → Nat | .string s => s.size | _ => 0
end Go.Proofs.YtojdgdeefhndiaaGreatDoor
namespace Go.Proofs.YtojdgdeefhndiaaGreatDoor
open Go Go.RowKit Sp
set_option maxRecDepth 100000

theorem info_u8 : (Tryz.prog.info? 5).map (fun i => (i.zero, i.size, i.bytes)) = some (some (.int .u8 0), 1, 1) := by kernel_rfl
def byV (l : Bytes) : List Value := l.map fun c => Value.int .u8 c.toNat
theorem byV_str (l : Bytes) : byV l = (l.map UInt8.toNat).map byteV := by simp [byV, byteV]
theorem str_bs (l : Bytes) : str (l.map UInt8.toNat) = bs l := by
  unfold str bs
  rw [List.map_map]
  have e : UInt8.ofNat ∘ UInt8.toNat = id := funext fun u => by simp
  rw [e, List.map_id]
theorem conv_bs {w : World} {base n : Nat} {v : Value} {l : Bytes} (hn : n = l.length) (hown : w.ownsRow base 5 1 v n (byV l)) : (convert 33 9 v).run Tryz.prog w = .ok (.string (bs l)) w := by
  subst hn
  rw [byV_str] at hown
  have := conv_own (P := Tryz.prog) (src := 33) (e := 5) (dst := 9) (l := l.map UInt8.toNat) Tryz.underlying33 Tryz.underlying5 Tryz.underlying9 (by rw [List.length_map]; exact hown)
  rw [str_bs] at this
  exact this
/-- One byte more, the row from a block on. -/
theorem append_by {w : World} {base : Nat} (hb : base ≤ w.heap.size) {v : Value} {l : Bytes} (h : w.ownsRow base 5 1 v l.length (byV l)) (c : UInt8) (hl : l.length < 4294967296) :
    ∃ g cap w', (Builtin.append_ #[33, 33] 33 #[v, .slice (some ⟨w.heap.size, 0, none⟩) 1 1]).run Tryz.prog (w.alloc (.cells #[.int .u8 c.toNat] 5)) = .ok (.slice (some ⟨g, 0, none⟩) (l.length + 1) cap) w' ∧
      w'.ownsRow base 5 1 (.slice (some ⟨g, 0, none⟩) (l.length + 1) cap) (l ++ [c]).length (byV (l ++ [c])) ∧ Upd (fun k => v.ownBlock = some k) w w' := by
  obtain ⟨i0, hi0, hz0, hz1, hz2⟩ := info_parts info_u8
  obtain ⟨g, cap, w', r, o, gr, _, _⟩ := append_one (P := Tryz.prog) w 33 33 5 i0 _ 1 1 Tryz.underlying33 hi0 hz0 hz1 hz2 rfl (by omega) h hb [.int .u8 c.toNat] rfl (by simp [Value.oneCell']) (by unfold maxLen; omega) (by omega)
  refine ⟨g, cap, w', r, ?_, (upd_of_grown (World.grownBy_alloc w _ v.ownBlock) (fun j hj _ => hj)).trans (upd_of_grown gr (fun j hj _ => hj))⟩
  have e : byV (l ++ [c]) = byV l ++ [.int .u8 c.toNat] := by simp [byV]
  rw [e, List.length_append]
  exact o
/-- n bytes of a number, the least significant one first. -/
def leB : Nat → Nat → Bytes
  | 0, _ => []
  | n + 1, v => UInt8.ofNat v :: leB n (v / 256)
theorem leB_length : ∀ (n v : Nat), (leB n v).length = n
  | 0, _ => rfl
  | n + 1, v => by rw [leB, List.length_cons, leB_length n]
/-- What a function that makes a string comes to. -/
def strR (s : Bytes) (w : World) (en : Ending) (w' : World) : Prop := en = .returned (.string (bs s)) ∧ Upd noBlk w w'
set_option maxHeartbeats 400000 in
theorem qbytes_any (v n : Nat) (hv : v ≤ 4294967296) (hn : n ≤ 4) (w : World) : Calls Tryz.prog 24 #[.int .i64 v, .int .i64 n] w fun en w' => strR (leB n v) w en w' := by
  go_enter Tryz.func24, Tryz.ntmps24
  go_wp2_with fail
  go_loopw [0, 5, 6] (fun x b i wr => ∃ (k vv : Nat) (acc : Bytes), x = .int .i64 vv ∧ i = .int .i64 k ∧ k ≤ n ∧ vv ≤ 4294967296 ∧ acc.length = k ∧ leB n v = acc ++ leB (n - k) vv ∧ wr.ownsRow w.heap.size 5 1 b acc.length (byV acc) ∧ Upd noBlk w wr) (fun _ _ i _ => n - (intOf i).toNat)
  case atStart => exact ⟨0, v, [], rfl, rfl, Nat.zero_le _, hv, rfl, rfl, World.ownsRow_nil _ _ _ _, Upd.refl _ _⟩
  case round =>
    obtain ⟨k, vv, acc, rfl, rfl, hk, hvv, hal, hsp, hown, hup⟩ := hrel
    have HAL := Lib.hid hal
    have HSP := Lib.hid hsp
    have HOWN := Lib.hid hown
    have HUP := Lib.hid hup
    clear hal hsp hown hup
    by_cases hlt : k < n
    · have hlt' : ((k : Nat) : Int) < ((n : Nat) : Int) := by omega
      have hw8 : IntKind.u8.wrap ((vv : Nat) : Int) = (((UInt8.ofNat vv).toNat : Nat) : Int) := by
        have : IntKind.u8.wrap ((vv : Nat) : Int) = ((vv : Nat) : Int) % 256 := by simp [IntKind.wrap_u8]
        rw [this]; simp
      obtain ⟨g, cap, w6, r6, o6, v6⟩ := append_by HUP.out.size HOWN.out (UInt8.ofNat vv) (by have := HAL.out; omega)
      have R6 := Lib.hid r6
      have O6 := Lib.hid o6
      have V6 := Lib.hid v6
      clear r6 o6 v6
      go_wp2_with (at_builtin; refine wpList_append_run rfl _ _ _ rfl rfl rfl R6.out ?_)
      have hst : n - k = (n - (k + 1)) + 1 := by omega
      refine ⟨⟨k + 1, vv / 256, acc ++ [UInt8.ofNat vv], by go_num, by go_num, hlt, by omega, by rw [List.length_append, HAL.out]; rfl, ?_, ?_, HUP.out.then V6.out (fun i hi e => by have := (HOWN.out.lt _ e).1; omega)⟩, by simp [intOf]; omega⟩
      · rw [HSP.out, hst, leB]; simp
      · exact O6.out
    · obtain rfl : k = n := by omega
      have hcv := conv_bs (l := acc) rfl HOWN.out
      have HS : Hid (leB k v = acc) := by show _ = _; rw [HSP.out, Nat.sub_self]; simp [leB]
      obtain ⟨Ab, cb, rfl⟩ := own_form HOWN.out
      go_wp2_with fail
      go_ret
      show strR (leB k v) w _ _
      rw [HS.out]
      exact ⟨rfl, HUP.out⟩
end Go.Proofs.YtojdgdeefhndiaaGreatDoor
