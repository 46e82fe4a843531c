/- What a reading of an argument tells (packets): the fields of a group packet, a shape, three numbers. No condition. Walks of the reference of packets: right. No condition. -/
import Derived.Test.YtcikldoaidmnhaaGreatDoorM31
import Derived.Test.YtcikldoaidmnhaaGreatDoorM32
namespace Go.Proofs.YtcikldoaidmnhaaGreatDoor
open Go Go.RowKit Go.ChangeShapes Go.WideShapes Go.ChangeAt
set_option maxRecDepth 100000
theorem field_cell {P : Program} {o : Nat} {t : TypeId} {cs : List Value} {c : Value} (hc : P.cellsOf t = 1) (hg : cs[o]? = some c) : (cs.drop o).take (P.cellsOf t) = [c] := by
  rw [hc, List.take_one, List.head?_drop, hg]; rfl
theorem listF_of_reading {P : Program} {t e : TypeId} {α : Type} {size : Nat} (hs : 0 < size) (R : List Value → α → Prop) (ht : P.underlying t = some (.slice e)) (hce : P.cellsOf e = size)
    {H : Type} {enc : TypeId × Value → H} {W : World} {n : Nat} {cs0 : List Value} {x0 : DataW H × List MemPlace} (hR : ∀ n cs x, DataW.trod enc P W 0 (fun _ => true) true n e cs = some x → ∃ y, R cs y)
    (hf : DataW.trod enc P W 0 (fun _ => true) true n t cs0 = some x0) : ∃ v l, cs0 = [v] ∧ ArgL size R W v l := by
  rcases Deep.open_slice ht hf with ⟨hcs, _⟩ | ⟨x, len, cap, m, n, D, Pl, hcs, _, hl, hm, hmm, _, hx⟩
  · exact ⟨_, [], hcs, none, 0, rfl, fun h => absurd h (by simp), Nat.le_refl _, Nat.zero_le _⟩
  · simp only [if_true] at hmm
    subst hmm
    rw [hce] at hx
    have each : ∀ i, i < m → ∃ y cs, cs.length = size ∧ R cs y ∧ ∀ j u, cs[j]? = some u → W.cell? ((x.add (i * size)).add j) = some u := by
      intro i hi
      obtain ⟨cs, h1, h2⟩ := hx i hi
      obtain ⟨y, hy⟩ := hR _ _ _ h2
      obtain ⟨_, h3, h4⟩ := World.cells?_some h1
      exact ⟨y, cs, h3, hy, fun j u hj => by
        have hj' := (List.getElem?_eq_some_iff.1 hj).1
        have := h4 j (by omega)
        rw [this, ← hj]⟩
    by_cases hl0 : len = 0
    · subst hl0; exact ⟨_, [], hcs, some x, m, rfl, fun h => absurd h (by simp), Nat.zero_le _, hm⟩
    · obtain ⟨y0, _⟩ := each 0 (by omega)
      haveI : Inhabited α := ⟨y0⟩
      obtain ⟨f, hfx⟩ := Deep.choose_lt each
      have hsx : x = ⟨x.block, x.off, none⟩ := by
        obtain ⟨cs, h1, _, h3⟩ := hfx 0 (by omega)
        have := spot_none (h3 0 cs[0] (by rw [List.getElem?_eq_getElem]))
        simpa [Addr.add] using this
      refine ⟨_, (List.range len).map f, hcs, some x, m, by simp, fun _ => ⟨x.block, x.off, by rw [← hsx], fun j hj => ?_⟩, by simpa using hl, hm⟩
      obtain ⟨cs, h1, h2, h3⟩ := hfx j (by simp at hj; omega)
      refine ⟨cs, h1, by simpa using h2, fun i u hi => ?_⟩
      have := h3 i u hi
      rw [hsx, add_plain, add_plain] at this
      exact this
theorem kInt_of_argL {W : World} {v : Value} {l : List Int} (h : ArgL 1 (fun cs (c : Int) => cs = [.int .i64 c]) W v l) : kInt.Rd W v l ∧ l.length ≤ 9223372036854775807 := by
  obtain ⟨A, cap, rfl, h1, h2, h3⟩ := h
  refine ⟨⟨A, cap, rfl, h2, fun h0 => ?_⟩, by unfold maxLen at h3; omega⟩
  obtain ⟨b, off, e, h4⟩ := h1 h0
  refine ⟨b, off, e, fun j hj => ?_⟩
  obtain ⟨cs, _, rfl, h5⟩ := h4 j hj
  exact h5
theorem kSix_of_argL {W : World} {v : Value} {l : List Pk.Mv} (h : ArgL 6 (fun cs (c : Pk.Mv) => cs = mvC c) W v l) : kSix.Rd W v l ∧ l.length ≤ 9223372036854775807 := by
  obtain ⟨A, cap, rfl, h1, h2, h3⟩ := h
  refine ⟨⟨A, cap, rfl, h2, fun h0 => ?_⟩, by unfold maxLen at h3; omega⟩
  obtain ⟨b, off, e, h4⟩ := h1 h0
  refine ⟨b, off, e, fun j hj => ?_⟩
  obtain ⟨cs, _, rfl, h5⟩ := h4 j hj
  exact h5
theorem ints_of_trod {H : Type} {enc : TypeId × Value → H} {W : World} {n : Nat} {cs : List Value} {x : DataW H × List MemPlace} (hf : DataW.trod enc Tryz.prog W 0 (fun _ => true) true n 23 cs = some x) : ∃ v l, cs = [v] ∧ kInt.Rd W v l ∧ l.length ≤ 9223372036854775807 := by
  obtain ⟨v, l, rfl, h⟩ := listF_of_reading (size := 1) (by decide) (fun cs (c : Int) => cs = [.int .i64 c]) Tryz.underlying23 (by kernel_rfl) (fun n cs x hx => by
    obtain ⟨z, e, _, w⟩ := DataW.trod_int Tryz.underlying3 hx
    exact ⟨z, e⟩) hf
  exact ⟨v, l, rfl, kInt_of_argL h⟩
theorem c6_of_trod {H : Type} {enc : TypeId × Value → H} {W : World} {n : Nat} {cs : List Value} {x : DataW H × List MemPlace} (hf : DataW.trod enc Tryz.prog W 0 (fun _ => true) true n 142 cs = some x) : ∃ m : Pk.Mv, cs = mvC m := by
  obtain ⟨xs, m, _, _, hl, hlen, hel⟩ := DataW.trod_array Tryz.underlying142 hf
  have hc1 : Tryz.prog.cellsOf 3 = 1 := by kernel_rfl
  have hc6 : Tryz.prog.cellsOf 142 = 6 := by kernel_rfl
  rw [hc6] at hl
  have get : ∀ i, i < 6 → ∃ z : Int, cs[i]? = some (.int .i64 z) := fun i hi => by
    have h := hel i hi
    rw [List.getElem?_eq_getElem (by omega : i < xs.length), hc1, Nat.mul_one] at h
    obtain ⟨z, e, _, _⟩ := DataW.trod_int Tryz.underlying3 h
    refine ⟨z, ?_⟩
    rw [List.take_one, List.head?_drop] at e
    cases hg : cs[i]? with
    | none => rw [hg] at e; cases e
    | some c => rw [hg] at e; simp at e; rw [e]
  obtain ⟨z0, g0⟩ := get 0 (by decide)
  obtain ⟨z1, g1⟩ := get 1 (by decide)
  obtain ⟨z2, g2⟩ := get 2 (by decide)
  obtain ⟨z3, g3⟩ := get 3 (by decide)
  obtain ⟨z4, g4⟩ := get 4 (by decide)
  obtain ⟨z5, g5⟩ := get 5 (by decide)
  refine ⟨((z0, z1, z2), (z3, z4, z5)), List.ext_getElem? fun i => ?_⟩
  rcases (by omega : i = 0 ∨ i = 1 ∨ i = 2 ∨ i = 3 ∨ i = 4 ∨ i = 5 ∨ 6 ≤ i) with rfl | rfl | rfl | rfl | rfl | rfl | h
  · exact g0
  · exact g1
  · exact g2
  · exact g3
  · exact g4
  · exact g5
  · rw [List.getElem?_eq_none (by omega), List.getElem?_eq_none (by show 6 ≤ i; omega)]
theorem sixes_of_trod {H : Type} {enc : TypeId × Value → H} {W : World} {n : Nat} {cs : List Value} {x : DataW H × List MemPlace} (hf : DataW.trod enc Tryz.prog W 0 (fun _ => true) true n 60 cs = some x) : ∃ v l, cs = [v] ∧ kSix.Rd W v l ∧ l.length ≤ 9223372036854775807 := by
  obtain ⟨v, l, rfl, h⟩ := listF_of_reading (size := 6) (by decide) (fun cs (c : Pk.Mv) => cs = mvC c) Tryz.underlying60 (by kernel_rfl) (fun n cs x hx => c6_of_trod hx) hf
  exact ⟨v, l, rfl, kSix_of_argL h⟩
theorem i64_wf {z : Int} (h : (Lit.int .i64 z).wf = true) : -9223372036854775808 ≤ z ∧ z ≤ 9223372036854775807 := by
  simp [Lit.wf, IntKind.min, IntKind.max, IntKind.signed, IntKind.bits] at h
  omega
/-- The bounds of the fields' values. -/
structure FV.Ok (x : FV) : Prop where
  ins : x.ins.length ≤ 9223372036854775807
  outs : x.outs.length ≤ 9223372036854775807
  moves : x.moves.length ≤ 9223372036854775807
  mag : x.mag.length ≤ 9223372036854775807
  level : x.level ≤ 9223372036854775807
  err : x.err ≤ 9223372036854775807
  total : x.total ≤ 9223372036854775807
structure FV.Rd (x : FV) (w : World) (vi vo vm : Value) : Prop where
  ins : kInt.Rd w vi x.ins
  outs : kInt.Rd w vo x.outs
  moves : kSix.Rd w vm x.moves
theorem fields_of_reading {H : Type} {enc : TypeId × Value → H} {W : World} {d : DataW H} {p : List MemPlace} {v : Value}
    (hval : Value.okWide Tryz.prog W .any 0 62 v) (h : DataW.Trod enc Tryz.prog W 0 (fun _ => true) true 62 v d p) : ∃ (x : FV) (vi vo vm : Value), v = x.V vi vo vm ∧ x.Rd W vi vo vm ∧ x.Ok := by
  obtain ⟨a, rfl, hsz⟩ := okWide_struct Tryz.underlying62 hval
  have h8 : Tryz.prog.cellsOf 62 = 8 := by kernel_rfl
  rw [h8] at hsz
  obtain ⟨fuel, hf⟩ := h
  obtain ⟨xs, n, _, _, _, hlen, hfl⟩ := DataW.trod_struct Tryz.underlying62 hf
  obtain ⟨l⟩ := a
  match l, hsz with
  | [c0, c1, c2, c3, c4, c5, c6, c7], _ =>
    match xs, hlen with
    | [x0, x1, x2, x3, x4, x5, x6, x7], _ =>
      have ci : Tryz.prog.cellsOf 3 = 1 := by kernel_rfl
      have cl : Tryz.prog.cellsOf 23 = 1 := by kernel_rfl
      have cs : Tryz.prog.cellsOf 60 = 1 := by kernel_rfl
      have cb : Tryz.prog.cellsOf 4 = 1 := by kernel_rfl
      have ct : Tryz.prog.cellsOf 9 = 1 := by kernel_rfl
      have g0 : DataW.trod enc Tryz.prog W 0 (fun _ => true) true n 3 [c0] = some x0 := by
        have h := hfl 0 _ rfl
        have e := field_cell (P := Tryz.prog) (o := 0) (t := 3) (cs := [c0, c1, c2, c3, c4, c5, c6, c7]) (c := c0) ci rfl
        rw [← e]; exact h
      have g1 : DataW.trod enc Tryz.prog W 0 (fun _ => true) true n 3 [c1] = some x1 := by
        have h := hfl 1 _ rfl
        have e := field_cell (P := Tryz.prog) (o := 1) (t := 3) (cs := [c0, c1, c2, c3, c4, c5, c6, c7]) (c := c1) ci rfl
        rw [← e]; exact h
      have g2 : DataW.trod enc Tryz.prog W 0 (fun _ => true) true n 3 [c2] = some x2 := by
        have h := hfl 2 _ rfl
        have e := field_cell (P := Tryz.prog) (o := 2) (t := 3) (cs := [c0, c1, c2, c3, c4, c5, c6, c7]) (c := c2) ci rfl
        rw [← e]; exact h
      have g3 : DataW.trod enc Tryz.prog W 0 (fun _ => true) true n 23 [c3] = some x3 := by
        have h := hfl 3 _ rfl
        have e := field_cell (P := Tryz.prog) (o := 3) (t := 23) (cs := [c0, c1, c2, c3, c4, c5, c6, c7]) (c := c3) cl rfl
        rw [← e]; exact h
      have g4 : DataW.trod enc Tryz.prog W 0 (fun _ => true) true n 23 [c4] = some x4 := by
        have h := hfl 4 _ rfl
        have e := field_cell (P := Tryz.prog) (o := 4) (t := 23) (cs := [c0, c1, c2, c3, c4, c5, c6, c7]) (c := c4) cl rfl
        rw [← e]; exact h
      have g5 : DataW.trod enc Tryz.prog W 0 (fun _ => true) true n 60 [c5] = some x5 := by
        have h := hfl 5 _ rfl
        have e := field_cell (P := Tryz.prog) (o := 5) (t := 60) (cs := [c0, c1, c2, c3, c4, c5, c6, c7]) (c := c5) cs rfl
        rw [← e]; exact h
      have g6 : DataW.trod enc Tryz.prog W 0 (fun _ => true) true n 4 [c6] = some x6 := by
        have h := hfl 6 _ rfl
        have e := field_cell (P := Tryz.prog) (o := 6) (t := 4) (cs := [c0, c1, c2, c3, c4, c5, c6, c7]) (c := c6) cb rfl
        rw [← e]; exact h
      have g7 : DataW.trod enc Tryz.prog W 0 (fun _ => true) true n 9 [c7] = some x7 := by
        have h := hfl 7 _ rfl
        have e := field_cell (P := Tryz.prog) (o := 7) (t := 9) (cs := [c0, c1, c2, c3, c4, c5, c6, c7]) (c := c7) ct rfl
        rw [← e]; exact h
      obtain ⟨z0, e0, _, w0⟩ := DataW.trod_int Tryz.underlying3 g0
      obtain ⟨z1, e1, _, w1⟩ := DataW.trod_int Tryz.underlying3 g1
      obtain ⟨z2, e2, _, w2⟩ := DataW.trod_int Tryz.underlying3 g2
      obtain ⟨v3, l3, e3, r3, b3⟩ := ints_of_trod g3
      obtain ⟨v4, l4, e4, r4, b4⟩ := ints_of_trod g4
      obtain ⟨v5, l5, e5, r5, b5⟩ := sixes_of_trod g5
      obtain ⟨z6, e6, _⟩ := DataW.trod_bool Tryz.underlying4 g6
      obtain ⟨z7, e7, _, w7⟩ := DataW.trod_string Tryz.underlying9 g7
      simp only [List.cons.injEq, and_true] at e0 e1 e2 e3 e4 e5 e6 e7
      subst e0; subst e1; subst e2; subst e3; subst e4; subst e5; subst e6; subst e7
      refine ⟨⟨z0, z1, z2, l3, l4, l5, z6, z7.data.toList⟩, c3, c4, c5, rfl, ⟨r3, r4, r5⟩, ⟨b3, b4, b5, ?_, (i64_wf w0).2, (i64_wf w1).2, (i64_wf w2).2⟩⟩
      have : z7.data.toList.length = z7.size := Array.length_toList
      show z7.data.toList.length ≤ _
      unfold maxLen at w7; omega
theorem i3_of_trod {H : Type} {enc : TypeId × Value → H} {W : World} {n : Nat} {cs : List Value} {x : DataW H × List MemPlace} (hf : DataW.trod enc Tryz.prog W 0 (fun _ => true) true n 24 cs = some x) : ∃ a b c : Int, cs = [.int .i64 a, .int .i64 b, .int .i64 c] := by
  obtain ⟨xs, m, _, _, hl, hlen, hel⟩ := DataW.trod_array Tryz.underlying24 hf
  have hc1 : Tryz.prog.cellsOf 3 = 1 := by kernel_rfl
  have hc6 : Tryz.prog.cellsOf 24 = 3 := by kernel_rfl
  rw [hc6] at hl
  have get : ∀ i, i < 3 → ∃ z : Int, cs[i]? = some (.int .i64 z) := fun i hi => by
    have h := hel i hi
    rw [List.getElem?_eq_getElem (by omega : i < xs.length), hc1, Nat.mul_one] at h
    obtain ⟨z, e, _, _⟩ := DataW.trod_int Tryz.underlying3 h
    refine ⟨z, ?_⟩
    rw [List.take_one, List.head?_drop] at e
    cases hg : cs[i]? with
    | none => rw [hg] at e; cases e
    | some c => rw [hg] at e; simp at e; rw [e]
  obtain ⟨z0, g0⟩ := get 0 (by decide)
  obtain ⟨z1, g1⟩ := get 1 (by decide)
  obtain ⟨z2, g2⟩ := get 2 (by decide)
  refine ⟨z0, z1, z2, List.ext_getElem? fun i => ?_⟩
  rcases (by omega : i = 0 ∨ i = 1 ∨ i = 2 ∨ 3 ≤ i) with rfl | rfl | rfl | h
  · exact g0
  · exact g1
  · exact g2
  · rw [List.getElem?_eq_none (by omega), List.getElem?_eq_none (by show 3 ≤ i; omega)]
theorem c3_of_reading {H : Type} {enc : TypeId × Value → H} {W : World} {d : DataW H} {p : List MemPlace} {v : Value}
    (hval : Value.okWide Tryz.prog W .any 0 24 v) (h : DataW.Trod enc Tryz.prog W 0 (fun _ => true) true 24 v d p) : ∃ a b c : Int, v = .agg #[.int .i64 a, .int .i64 b, .int .i64 c] := by
  simp only [Value.okWide, Tryz.underlying24] at hval
  obtain ⟨cs, rfl, hl, _⟩ := hval
  obtain ⟨fuel, hf⟩ := h
  obtain ⟨a, b, c, e⟩ := i3_of_trod hf
  refine ⟨a, b, c, ?_⟩
  obtain ⟨l⟩ := cs
  simp only [Value.cells] at e
  rw [e]
theorem u32_wf {z : Int} (h : (Lit.int .u32 z).wf = true) : ∃ c : Nat, z = c ∧ c < 4294967296 := by
  simp [Lit.wf, IntKind.min, IntKind.max, IntKind.signed, IntKind.bits] at h
  exact ⟨z.toNat, by omega, by omega⟩
theorem u8_wf2 {z : Int} (h : (Lit.int .u8 z).wf = true) : ∃ c : Nat, z = c ∧ c < 256 := by
  simp [Lit.wf, IntKind.min, IntKind.max, IntKind.signed, IntKind.bits] at h
  exact ⟨z.toNat, by omega, by omega⟩
structure SV.Ok (x : SV) : Prop where
  bits : x.bits < 4294967296
  side : x.side < 4294967296
  heights : x.heights.length ≤ 9223372036854775807
  frm : x.frm < 256
  many : x.many < 256
theorem shape_of_reading {H : Type} {enc : TypeId × Value → H} {W : World} {d : DataW H} {p : List MemPlace} {v : Value}
    (hval : Value.okWide Tryz.prog W .any 0 26 v) (h : DataW.Trod enc Tryz.prog W 0 (fun _ => true) true 26 v d p) : ∃ (x : SV) (vh : Value), v = x.V vh ∧ kInt.Rd W vh x.heights ∧ x.Ok := by
  obtain ⟨a, rfl, hsz⟩ := okWide_struct Tryz.underlying26 hval
  have h8 : Tryz.prog.cellsOf 26 = 9 := by kernel_rfl
  rw [h8] at hsz
  obtain ⟨fuel, hf⟩ := h
  obtain ⟨xs, n, _, _, _, hlen, hfl⟩ := DataW.trod_struct Tryz.underlying26 hf
  obtain ⟨l⟩ := a
  match l, hsz with
  | [c0, c1, c2, c3, c4, c5, c6, c7, c8], _ =>
    match xs, hlen with
    | [x0, x1, x2, x3, x4, x5, x6], _ =>
      have cu : Tryz.prog.cellsOf 22 = 1 := by kernel_rfl
      have cl : Tryz.prog.cellsOf 23 = 1 := by kernel_rfl
      have cs : Tryz.prog.cellsOf 5 = 1 := by kernel_rfl
      have cb : Tryz.prog.cellsOf 4 = 1 := by kernel_rfl
      have ct : Tryz.prog.cellsOf 24 = 3 := by kernel_rfl
      have g0 : DataW.trod enc Tryz.prog W 0 (fun _ => true) true n 4 [c0] = some x0 := by
        have h := hfl 0 _ rfl
        have e := field_cell (P := Tryz.prog) (o := 0) (t := 4) (cs := [c0, c1, c2, c3, c4, c5, c6, c7, c8]) (c := c0) cb rfl
        rw [← e]; exact h
      have g1 : DataW.trod enc Tryz.prog W 0 (fun _ => true) true n 22 [c1] = some x1 := by
        have h := hfl 1 _ rfl
        have e := field_cell (P := Tryz.prog) (o := 1) (t := 22) (cs := [c0, c1, c2, c3, c4, c5, c6, c7, c8]) (c := c1) cu rfl
        rw [← e]; exact h
      have g2 : DataW.trod enc Tryz.prog W 0 (fun _ => true) true n 22 [c2] = some x2 := by
        have h := hfl 2 _ rfl
        have e := field_cell (P := Tryz.prog) (o := 2) (t := 22) (cs := [c0, c1, c2, c3, c4, c5, c6, c7, c8]) (c := c2) cu rfl
        rw [← e]; exact h
      have g3 : DataW.trod enc Tryz.prog W 0 (fun _ => true) true n 23 [c3] = some x3 := by
        have h := hfl 3 _ rfl
        have e := field_cell (P := Tryz.prog) (o := 3) (t := 23) (cs := [c0, c1, c2, c3, c4, c5, c6, c7, c8]) (c := c3) cl rfl
        rw [← e]; exact h
      have g4 : DataW.trod enc Tryz.prog W 0 (fun _ => true) true n 5 [c4] = some x4 := by
        have h := hfl 4 _ rfl
        have e := field_cell (P := Tryz.prog) (o := 4) (t := 5) (cs := [c0, c1, c2, c3, c4, c5, c6, c7, c8]) (c := c4) cs rfl
        rw [← e]; exact h
      have g5 : DataW.trod enc Tryz.prog W 0 (fun _ => true) true n 5 [c5] = some x5 := by
        have h := hfl 5 _ rfl
        have e := field_cell (P := Tryz.prog) (o := 5) (t := 5) (cs := [c0, c1, c2, c3, c4, c5, c6, c7, c8]) (c := c5) cs rfl
        rw [← e]; exact h
      have g6 : DataW.trod enc Tryz.prog W 0 (fun _ => true) true n 24 [c6, c7, c8] = some x6 := by
        have h := hfl 6 _ rfl
        have e : (([c0, c1, c2, c3, c4, c5, c6, c7, c8] : List Value).drop 6).take (Tryz.prog.cellsOf 24) = [c6, c7, c8] := by rw [ct]; rfl
        rw [← e]; exact h
      obtain ⟨z0, e0, _⟩ := DataW.trod_bool Tryz.underlying4 g0
      obtain ⟨z1, e1, _, w1⟩ := DataW.trod_int Tryz.underlying22 g1
      obtain ⟨z2, e2, _, w2⟩ := DataW.trod_int Tryz.underlying22 g2
      obtain ⟨v3, l3, e3, r3, b3⟩ := ints_of_trod g3
      obtain ⟨z4, e4, _, w4⟩ := DataW.trod_int Tryz.underlying5 g4
      obtain ⟨z5, e5, _, w5⟩ := DataW.trod_int Tryz.underlying5 g5
      obtain ⟨q0, q1, q2, e6⟩ := i3_of_trod g6
      obtain ⟨n1, rfl, k1⟩ := u32_wf w1
      obtain ⟨n2, rfl, k2⟩ := u32_wf w2
      obtain ⟨n4, rfl, k4⟩ := u8_wf2 w4
      obtain ⟨n5, rfl, k5⟩ := u8_wf2 w5
      simp only [List.cons.injEq, and_true] at e0 e1 e2 e3 e4 e5 e6
      obtain ⟨e6, e7, e8⟩ := e6
      subst e0; subst e1; subst e2; subst e3; subst e4; subst e5; subst e6; subst e7; subst e8
      exact ⟨⟨z0, n1, n2, l3, n4, n5, q0, q1, q2⟩, c3, rfl, r3, ⟨k1, k2, b3, k4, k5⟩⟩
end Go.Proofs.YtcikldoaidmnhaaGreatDoor
namespace Go.Proofs.YtcikldoaidmnhaaGreatDoor
open Go Go.RowKit Pk
set_option maxRecDepth 100000
theorem jinside_any (n : Int) (w : World) : Calls Tryz.prog 65 #[.int .i64 n] w fun en w' => en = .returned (.bool (insideC n)) ∧ Upd noBlk w w' := by
  go_enter Tryz.func65, Tryz.ntmps65
  by_cases h0 : 0 ≤ n
  · by_cases h1 : n ≤ 2097151
    · have h : insideC n = true := decide_eq_true ⟨h0, h1⟩
      rw [h]
      go_wp2_with fail
      go_ret
      exact ⟨rfl, Upd.refl _ _⟩
    · have h : insideC n = false := decide_eq_false (fun e => h1 e.2)
      rw [h]
      go_wp2_with fail
      go_ret
      exact ⟨rfl, Upd.refl _ _⟩
  · have h : insideC n = false := decide_eq_false (fun e => h0 e.1)
    rw [h]
    go_wp2_with fail
    go_ret
    exact ⟨rfl, Upd.refl _ _⟩
set_option maxHeartbeats 1000000 in
theorem jcoordinates_any (m : Mv) (w : World) : Calls Tryz.prog 84 #[mvV m] w fun en w' => en = .returned (mvV m) ∧ Upd noBlk w w' := by
  unfold mvV mvC
  go_enter Tryz.func84, Tryz.ntmps84
  go_wp2_with fail
  refine bodyPost_ret (results_cell_row rfl _ _ (w.heap.size + 1) 142 _ (0, 0) _ rfl (by have := heap_alloc_new (w.alloc (.cells (mvC m).toArray 79)) (.cells (mvC m).toArray 142); rw [World.size_alloc] at this; exact this) Tryz.underlying142 rfl (by kernel_rfl)) rfl ?_
  exact ⟨rfl, ((Upd.refl noBlk w).alloc _).alloc _⟩
set_option maxHeartbeats 2000000 in
theorem jRight_any (x : GV) (vi vo vm : Value) (w : World) (hi : kPart.Rd w vi x.ins) (ho : kHash.Rd w vo x.outs) (hm : kMove.Rd w vm x.moves) : Calls Tryz.prog 34 #[x.V vi vo vm] w fun en w' => en = .returned (.bool (rightG x.g)) ∧ Upd noBlk w w' := by
  obtain ⟨lv, ins, outs, moves, er, tot, neg, mag⟩ := x
  obtain ⟨Ai, capi, rfl, _, _⟩ := hi
  obtain ⟨Ao, capo, rfl, _, _⟩ := ho
  obtain ⟨A, cap, rfl, hcap, hx⟩ := hm
  have HX := Lib.hid hx
  clear hx
  unfold GV.V
  simp only
  go_enter Tryz.func34, Tryz.ntmps34
  have HB : Hid ((w.alloc (.cells #[.int .i64 lv, .slice Ai ins.length capi, .slice Ao outs.length capo, .slice A moves.length cap, .int .i64 er, .int .i64 tot, .bool neg, .string (bs mag)] 68)).heap[w.heap.size]? = some (.cells #[.int .i64 lv, .slice Ai ins.length capi, .slice Ao outs.length capo, .slice A moves.length cap, .int .i64 er, .int .i64 tot, .bool neg, .string (bs mag)] 68 (0, 0))) := heap_alloc_last w _
  have HU0 : Hid (Upd noBlk w (w.alloc (.cells #[.int .i64 lv, .slice Ai ins.length capi, .slice Ao outs.length capo, .slice A moves.length cap, .int .i64 er, .int .i64 tot, .bool neg, .string (bs mag)] 68))) := (Upd.refl _ w).alloc _
  go_upto_region 1 with fail
  generalize w.heap.size = bb at *
  generalize w.alloc (.cells #[.int .i64 lv, .slice Ai ins.length capi, .slice Ao outs.length capo, .slice A moves.length cap, .int .i64 er, .int .i64 tot, .bool neg, .string (bs mag)] 68) = w1 at *
  go_cut [38] (fun c wc => wc = w1 ∧ c = .bool (!decide (0 ≤ lv ∧ 0 ≤ er ∧ 0 ≤ tot ∧ ins.length ≤ 65536 ∧ outs.length ≤ 65536 ∧ moves.length ≤ 65536)))
  case first =>
    have b8 := cells8 HB.out
    obtain ⟨b0, b1, b2, b3, b4, b5, b6, b7⟩ := b8
    go_wp2_with fail
    all_goals (go_meet; refine ⟨rfl, ?_⟩; refine congrArg Value.bool ?_; rw [Bool.eq_iff_iff]; simp only [Bool.or_eq_true, Bool.not_eq_true', decide_eq_true_eq, decide_eq_false_iff_not, true_iff]; (repeat' split at *) <;> omega)
  case rest =>
    obtain ⟨rfl, rfl⟩ := hcut
    by_cases hg : 0 ≤ lv ∧ 0 ≤ er ∧ 0 ≤ tot ∧ ins.length ≤ 65536 ∧ outs.length ≤ 65536 ∧ moves.length ≤ 65536
    · rw [decide_eq_true hg]
      obtain ⟨_, _, _, hgi, hgo, hgm⟩ := hg
      have hml : ((moves.length : Nat) : Int) ≤ 65536 := by omega
      have b8 := cells8 HB.out
      obtain ⟨b0, b1, b2, b3, b4, b5, b6, b7⟩ := b8
      go_wp2_with fail
      clear b0 b1 b2 b3 b4 b5 b6 b7
      have HUW : Hid (rightG (GV.g ⟨lv, ins, outs, moves, er, tot, neg, mag⟩) = (moves.all (fun m => (coordsM m).all insideC) && tailOk neg mag)) := by
        show _ = _
        unfold rightG GV.g
        simp only [List.length_map]
        rw [decide_eq_true ⟨by assumption, by assumption, by assumption, hgi, hgo, hgm⟩, Bool.true_and]
        rfl
      have HM2 : Hid (moves.length ≤ 65536) := hgm
      clear hgi hgo hgm
      go_loopw [3] (fun i wr => ∃ k : Nat, i = .int .i64 k ∧ k ≤ moves.length ∧ (moves.take k).all (fun m => (coordsM m).all insideC) = true ∧ Upd noBlk wc wr) (fun i _ => moves.length - (intOf i).toNat)
      case atStart => exact ⟨0, rfl, Nat.zero_le _, rfl, Upd.refl _ _⟩
      case round =>
        obtain ⟨k, rfl, hk, hal, hu⟩ := hrel
        have HU := Lib.hid hu
        have HAL := Lib.hid hal
        clear hu hal
        obtain ⟨b0, b1, b2, b3, b4, b5, b6, b7⟩ := cells8 (HU.out.heap HB.out id)
        by_cases hlt : k < moves.length
        · have hlt' : ((k : Nat) : Int) < ((moves.length : Nat) : Int) := by omega
          obtain ⟨b, off, rfl, f1⟩ := HX.out (by omega)
          obtain ⟨g0, g1, g2, g3, g4, g5⟩ := mvAt6 ((f1 k hlt).keep (HU0.out.trans HU.out))
          have hk6 : kMove.k = 6 := rfl
          rw [hk6] at g0 g1 g2 g3 g4 g5
          have HTK : Hid (moves.take (k + 1) = moves.take k ++ [moves[k]]) := List.take_succ_eq_append_getElem hlt
          have HMEM : Hid (moves[k] ∈ moves) := List.getElem_mem hlt
          clear f1 hk6
          generalize moves[k] = pm at *
          have HCO := fun W => Lib.hid (jcoordinates_any pm W)
          obtain ⟨⟨a0, a1, a2⟩, ⟨a3, a4, a5⟩⟩ := pm
          simp only at g0 g1 g2 g3 g4 g5
          go_wp2_with fail
          refine (HCO _).out.mono ?_
          rintro e w2 ⟨rfl, u2⟩
          have U2 : Hid (Upd noBlk wc w2) := HU.out.trans u2
          clear u2 g0 g1 g2 g3 g4 g5 HCO HU
          have HN : Hid ((w2.alloc (.cells (mvC ((a0, a1, a2), a3, a4, a5)).toArray 142)).heap[w2.heap.size]? = some (.cells (mvC ((a0, a1, a2), a3, a4, a5)).toArray 142 (0, 0))) := heap_alloc_new w2 _
          have U3 : Hid (Upd noBlk w2 (w2.alloc (.cells (mvC ((a0, a1, a2), a3, a4, a5)).toArray 142))) := (Upd.refl _ w2).alloc _
          unfold mvV mvC at *
          simp only at HN U3 ⊢
          go_upto_region 7 with fail
          have HCJ : Hid (∀ j, j < 6 → (w2.alloc (.cells #[.int .i64 a0, .int .i64 a1, .int .i64 a2, .int .i64 a3, .int .i64 a4, .int .i64 a5] 142)).cell? ⟨w2.heap.size, j, none⟩ = some (.int .i64 (coordAt ((a0, a1, a2), a3, a4, a5) j))) := fun j hj => by
            have h : (w2.alloc (.cells #[.int .i64 a0, .int .i64 a1, .int .i64 a2, .int .i64 a3, .int .i64 a4, .int .i64 a5] 142)).heap[w2.heap.size]? = some (.cells #[.int .i64 a0, .int .i64 a1, .int .i64 a2, .int .i64 a3, .int .i64 a4, .int .i64 a5] 142 (0, 0)) := heap_alloc_new w2 _
            rw [cell_of_row _ _ j _ 142 (0, 0) h]
            rcases (by omega : j = 0 ∨ j = 1 ∨ j = 2 ∨ j = 3 ∨ j = 4 ∨ j = 5) with rfl | rfl | rfl | rfl | rfl | rfl <;> rfl
          have U4 : Hid (Upd noBlk wc (w2.alloc (.cells #[.int .i64 a0, .int .i64 a1, .int .i64 a2, .int .i64 a3, .int .i64 a4, .int .i64 a5] 142))) := U2.out.alloc _
          clear HN U3 U2
          generalize w2.heap.size = N at *
          generalize w2.alloc (.cells #[.int .i64 a0, .int .i64 a1, .int .i64 a2, .int .i64 a3, .int .i64 a4, .int .i64 a5] 142) = w3 at *
          generalize ((a0, a1, a2), a3, a4, a5) = pm at *
          have HIN := fun q W => Lib.hid (jinside_any q W)
          clear b0 b1 b2 b3 b4 b5 b6 b7
          go_wp2_with fail
          go_loopw [5] (fun i wz => ∃ j : Nat, i = .int .i64 j ∧ j ≤ 6 ∧ ((coordsM pm).take j).all insideC = true ∧ Upd noBlk w3 wz) (fun i _ => 6 - (intOf i).toNat)
          case atStart => exact ⟨0, rfl, Nat.zero_le _, rfl, Upd.refl _ _⟩
          case round =>
            obtain ⟨j, rfl, hj, hja, hu3⟩ := hrel
            have U3 := Lib.hid hu3
            have HJA := Lib.hid hja
            clear hu3 hja
            by_cases hlt2 : j < 6
            · have hlt3 : ((j : Nat) : Int) < 6 := by omega
              have hcj := U3.out.cell (HCJ.out j hlt2) id
              have HTJ : Hid ((coordsM pm).take (j + 1) = (coordsM pm).take j ++ [coordAt pm j]) := by
                have hl6 : (coordsM pm).length = 6 := rfl
                show _ = _
                rw [List.take_succ_eq_append_getElem (by omega)]
                unfold coordAt
                rw [List.getD_eq_getElem?_getD, List.getElem?_eq_getElem (by omega)]; rfl
              have HCM : Hid (coordAt pm j ∈ coordsM pm) := by
                have hl6 : (coordsM pm).length = 6 := rfl
                show _ ∈ _
                unfold coordAt
                rw [List.getD_eq_getElem?_getD, List.getElem?_eq_getElem (by omega)]
                exact List.getElem_mem _
              generalize coordAt pm j = q at *
              have HINQ := fun W => HIN q W
              clear HIN HCJ
              go_wp2_with fail
              refine (HINQ _).out.mono ?_
              rintro e w5 ⟨rfl, u5⟩
              have U5 := Lib.hid (U3.out.trans u5)
              clear u5 HINQ
              rcases hq : insideC q with _ | _
              · have HR : Hid (rightG (GV.g ⟨lv, ins, outs, moves, er, tot, neg, mag⟩) = false) := by
                  show _ = _
                  rw [HUW.out, Bool.and_eq_false_iff]
                  left
                  rw [List.all_eq_false]
                  refine ⟨pm, HMEM.out, ?_⟩
                  rw [Bool.not_eq_true, List.all_eq_false]
                  exact ⟨q, HCM.out, by rw [hq]; decide⟩
                clear hq
                go_wp2_with fail
                go_ret
                exact ⟨by rw [HR.out]; rfl, HU0.out.trans (U4.out.trans U5.out)⟩
              · have HQ := Lib.hid hq
                clear hq
                go_wp2_with fail
                refine ⟨⟨j + 1, by push_cast; rfl, by omega, ?_, U5.out⟩, ?_⟩
                · rw [HTJ.out, List.all_append, HJA.out]; simp [HQ.out]
                · simp only [intOf]; omega
            · obtain rfl : j = 6 := by omega
              have HP : Hid ((coordsM pm).all insideC = true) := HJA.out
              have U6 := Lib.hid (U4.out.trans U3.out)
              go_wp2_with fail
              refine ⟨⟨k + 1, by push_cast; rfl, by omega, ?_, U6.out⟩, ?_⟩
              · rw [HTK.out, List.all_append, HAL.out]; simp [HP.out]
              · simp only [intOf]; omega
        · obtain rfl : k = moves.length := by omega
          have HAA : Hid (moves.all (fun m => (coordsM m).all insideC) = true) := by have := HAL.out; rw [List.take_length] at this; exact this
          have HRR : Hid (rightG (GV.g ⟨lv, ins, outs, moves, er, tot, neg, mag⟩) = tailOk neg mag) := by show _ = _; rw [HUW.out, HAA.out, Bool.true_and]
          clear HUW HAA HAL HM2 HX
          cases mag with
          | nil =>
            have he : (bs ([] : Bytes)).toList.isEmpty = true := by simp [bs]
            have hz : (bs ([] : Bytes)).size = 0 := by rw [bs_size]; rfl
            rcases neg with _ | _
            · go_wp2_with fail
              go_ret
              exact ⟨by rw [HRR.out]; rfl, HU0.out.trans HU.out⟩
            · go_wp2_with fail
              go_ret
              exact ⟨by rw [HRR.out]; rfl, HU0.out.trans HU.out⟩
          | cons c mag =>
            have he : (bs (c :: mag)).toList.isEmpty = false := by simp [bs]
            have hz : 0 < (bs (c :: mag)).size := by rw [bs_size]; simp
            have hnz : ¬ bs (c :: mag) = ByteArray.empty := fun h => by rw [h] at hz; cases hz
            by_cases hc0 : c = 0
            · subst hc0
              go_wp2_with fail
              go_ret
              exact ⟨by rw [HRR.out]; rfl, HU0.out.trans HU.out⟩
            · have hcn : ¬ ((c.toNat : Nat) : Int) = 0 := fun h => hc0 (UInt8.toNat_inj.1 (by simpa using h))
              have HTO : Hid (tailOk neg (c :: mag) = true) := by show (c != 0) = true; simpa using hc0
              go_wp2_with fail
              go_ret
              refine ⟨?_, HU0.out.trans HU.out⟩
              rw [HRR.out, HTO.out]
              show Ending.returned (.bool (((c.toNat : Nat) : Int) != 0)) = _
              rw [show (((c.toNat : Nat) : Int) != 0) = true by simpa using hcn]
    · rw [decide_eq_false hg]
      have HR : Hid (rightG (GV.g ⟨lv, ins, outs, moves, er, tot, neg, mag⟩) = false) := by
        show _ = _
        unfold rightG GV.g
        simp only [List.length_map]
        rw [decide_eq_false (fun h => hg h)]
        rfl
      go_wp2_with fail
      go_ret
      exact ⟨by rw [HR.out]; rfl, HU0.out⟩
end Go.Proofs.YtcikldoaidmnhaaGreatDoor
