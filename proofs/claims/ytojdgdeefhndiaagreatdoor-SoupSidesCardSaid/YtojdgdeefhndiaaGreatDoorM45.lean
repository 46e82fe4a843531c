/- Maps from corners to numbers in the call's own memory, beside a builder and a row of numbers. No condition. -/
import Derived.Test.YtojdgdeefhndiaaGreatDoorM44
import Derived.Maps.OwnOps
import Derived.Maps.OwnSet
import Derived.DeepKeys4
namespace Go.Proofs.YtojdgdeefhndiaaGreatDoor
open Go Go.RowKit Sp Bg
set_option maxRecDepth 100000
theorem laidOutM : laidOutB Tryz.prog = true := by kernel_rfl
theorem lawP : Maps.Keyed Tryz.prog 51 := Maps.Keyed.of_law (deep_law_laid laidOutM (m := 10) (by decide) (of_decide_eq_true (by kernel_rfl)) (by kernel_rfl) (by kernel_rfl))
theorem zeroInt (w : World) : (zeroValue 3).run Tryz.prog w = .ok (.int .i64 0) w := by kernel_rfl
def ptAgg (p : Pt) : Value := .agg #[.int .i64 p.1, .int .i64 p.2.1, .int .i64 p.2.2]
def klP (p : Pt) : Lit := .string (keyBytes [.int .i64 p.1, .int .i64 p.2.1, .int .i64 p.2.2])
theorem wf_in {x : Int} (h0 : 0 ≤ x) (h1 : x ≤ 2097151) : (Lit.int .i64 x).wf = true := by simp [Lit.wf, IntKind.min, IntKind.max, IntKind.signed, IntKind.bits]; omega
theorem keyP {p : Pt} (h : inR p = true) : keyOf Tryz.prog 51 (ptAgg p) = some (klP p) := by
  obtain ⟨x, y, z⟩ := p
  obtain ⟨h1, h2, h3, h4, h5, h6⟩ := (inR_iff x y z).1 h
  have wx := wf_in h1 h2
  have wy := wf_in h3 h4
  have wz := wf_in h5 h6
  have hkt : Tryz.prog.keyType 51 = true := by kernel_rfl
  obtain ⟨m, hm⟩ : ∃ m, Tryz.prog.types.size = m + 1 := ⟨Tryz.prog.types.size - 1, by kernel_rfl⟩
  have hcl : Tryz.prog.cellsOf 51 = 3 := by kernel_rfl
  have hci : Tryz.prog.cellsOf 3 = 1 := by kernel_rfl
  unfold keyOf ptAgg klP
  simp only [Tryz.underlying51]
  rw [if_pos (by simp [hkt, Value.formed, Tryz.underlying51, hcl]), hm]
  unfold Program.keyLits
  simp only [Tryz.underlying51, Value.cells]
  rw [if_pos ⟨by rw [hcl]; rfl, by kernel_rfl⟩]
  simp [Program.keyLits, Tryz.underlying3, hci, wx, wy, wz]
theorem klP_inj {p q : Pt} (hp : inR p = true) (hq : inR q = true) (h : klP p = klP q) : p = q := by
  have h1 := keyP hp
  have h2 := keyP hq
  rw [← h] at h2
  have := lawP.inj h1 h2
  obtain ⟨a, b, c⟩ := p
  obtain ⟨d, e, f⟩ := q
  simpa [ptAgg] using this
def idx1 (P : List Pt) (p : Pt) : Nat := if p ∈ P then P.idxOf p + 1 else 0
/-- A map at a block that says which corner has which number. -/
def MapP (w : World) (b : Nat) (P : List Pt) : Prop := ∃ D : DataW Unit, w.ownsMap Tryz.prog 51 (plainElem Tryz.prog 3) b P.length D ∧ Maps.size D = P.length ∧ (∀ p, inR p = true → D.atKey (klP p) (.lit (.int .i64 0)) = .lit (.int .i64 (idx1 P p))) ∧ (∀ p, inR p = true → p ∉ P → Maps.has D (klP p) = false)
theorem MapP.made (w : World) : MapP (w.alloc (.map #[] 0)) w.heap.size [] := ⟨_, World.ownsMap_made _ _ _ _, rfl, fun _ _ => rfl, fun _ _ _ => rfl⟩
theorem MapP.heap {w w' : World} {b : Nat} {P : List Pt} (h : MapP w b P) (hb : ∀ o, w.heap[b]? = some o → w'.heap[b]? = some o) : MapP w' b P := by
  obtain ⟨D, ⟨es, clock, h1, h2, h3, h4⟩, h5⟩ := h
  exact ⟨D, ⟨es, clock, hb _ h1, h2, h3, h4⟩, h5⟩
theorem MapP.blk {w : World} {b : Nat} {P : List Pt} (h : MapP w b P) : ∃ es clock, w.heap[b]? = some (.map es clock) := by
  obtain ⟨D, ⟨es, clock, h1, _⟩, _⟩ := h
  exact ⟨es, clock, h1⟩
theorem MapP.keep {w w' : World} {b : Nat} {P : List Pt} (h : MapP w b P) (hu : Upd noBlk w w') : MapP w' b P := h.heap (fun _ ho => hu.heap ho id)
theorem MapP.other {F : Nat → Prop} {w w' : World} {b : Nat} {P : List Pt} (h : MapP w b P) (hu : Upd F w w') (hF : ∀ k, F k → k < w.heap.size → ∃ c T fr, w.heap[k]? = some (.cells c T fr)) : MapP w' b P := by
  obtain ⟨es, clock, hb⟩ := h.blk
  refine h.heap (fun o ho => hu.heap ho (fun hf => ?_))
  obtain ⟨c, T, fr, hc⟩ := hF b hf (lt_of_heap hb)
  rw [hb] at hc; cases hc
theorem MapP.bkeep {B b : Nat} {w w' : World} {mb : Nat} {P : List Pt} (h : MapP w mb P) (hk : BKeep B b w w') (hne : mb ≠ b) : MapP w' mb P := by
  obtain ⟨es, clock, hb⟩ := h.blk
  refine h.heap (fun o ho => ?_)
  rw [hb] at ho; cases ho
  exact hk.heap hb hne (fun c fz e => by cases e)
theorem MapP.step {D : DataW Unit} {P : List Pt} {p : Pt} (hp : inR p = true) (hn : p ∉ P) (ht : Maps.Tidy D) (h1 : Maps.size D = P.length) (h2 : ∀ q, inR q = true → D.atKey (klP q) (.lit (.int .i64 0)) = .lit (.int .i64 (idx1 P q))) (h3 : ∀ q, inR q = true → q ∉ P → Maps.has D (klP q) = false) :
    Maps.size (D.put (klP p) (.lit (.int .i64 ((P.length + 1 : Nat) : Int)))) = (P ++ [p]).length ∧ (∀ q, inR q = true → (D.put (klP p) (.lit (.int .i64 ((P.length + 1 : Nat) : Int)))).atKey (klP q) (.lit (.int .i64 0)) = .lit (.int .i64 (idx1 (P ++ [p]) q))) ∧ (∀ q, inR q = true → q ∉ P ++ [p] → Maps.has (D.put (klP p) (.lit (.int .i64 ((P.length + 1 : Nat) : Int)))) (klP q) = false) := by
  have hkey : WideAt.IsKeyLit (klP p) := lawP.key (keyP hp)
  refine ⟨?_, fun q hq => ?_, fun q hq hqn => ?_⟩
  · rw [Maps.size_put ht, h3 p hp hn, if_neg (by simp), h1, List.length_append]; rfl
  · by_cases e : q = p
    · subst e
      rw [Maps.atKey_put_same ht.isMap hkey]
      have : idx1 (P ++ [q]) q = P.length + 1 := by
        unfold idx1
        rw [if_pos (by simp), List.idxOf_append, if_neg hn]; simp
      rw [this]
    · rw [Maps.atKey_put_other (fun h => e (klP_inj hq hp h)), h2 q hq]
      have : idx1 (P ++ [p]) q = idx1 P q := by
        unfold idx1
        by_cases hm : q ∈ P
        · rw [if_pos hm, if_pos (by simp [hm]), List.idxOf_append, if_pos hm]
        · rw [if_neg hm, if_neg (by simp [hm, e])]
      rw [this]
  · have e : q ≠ p := fun e => hqn (by simp [e])
    rw [Maps.has_put_other (fun h => e (klP_inj hq hp h))]
    exact h3 q hq (fun h => hqn (by simp [h]))
/-! ### The operations -/
theorem wp_look {w : World} {ops : Array Oper} {rest : List Oper} {o : Oper} {a : Act} {Q : Exit → Act → World → Prop} (hg : o.guard = none) (m x : Operand) (hop : o.op = Op.lookup 94 m x false) {b : Nat} {P : List Pt} (hm : a.eval m = .map (some b)) (h : MapP w b P) {p : Pt} (hx : a.eval x = ptAgg p) (hin : inR p = true)
    (hK : wpList Tryz.prog ops Q rest (a.put o.dst (.int .i64 (idx1 P p))) w) : wpList Tryz.prog ops Q (o :: rest) a w := by
  obtain ⟨D, h1, h2, h3, h4⟩ := h
  refine wpList_lookup_own_int w hg m x 94 hop 51 3 .i64 lawP Tryz.underlying94 Tryz.underlying3 (zeroInt w) b P.length D hm h1 _ (klP p) hx (keyP hin) (fun c hat _ => ?_)
  rw [h3 p hin] at hat
  cases hat
  exact hK
theorem wp_len {w : World} {ops : Array Oper} {rest : List Oper} {o : Oper} {a : Act} {Q : Exit → Act → World → Prop} (hg : o.guard = none) (m : Operand) (hop : o.op = Op.call { callee := Callee.builtin Builtin.len, args := #[m], argTypes := #[94] }) {b : Nat} {P : List Pt} (hm : a.eval m = .map (some b)) (h : MapP w b P)
    (hK : wpList Tryz.prog ops Q rest (a.put o.dst (.int .i64 P.length)) w) : wpList Tryz.prog ops Q (o :: rest) a w := by
  obtain ⟨D, h1, h2, h3, h4⟩ := h
  refine wpList_len_own w hg m 94 hop 51 3 Tryz.underlying94 (plainElem Tryz.prog 3) b P.length D hm h1 ?_
  rw [h2]; exact hK
theorem wp_upd {w : World} {ops : Array Oper} {rest : List Oper} {o : Oper} {a : Act} {Q : Exit → Act → World → Prop} (hg : o.guard = none) (m x v : Operand) (hop : o.op = Op.mapUpdate 94 m x v) {b : Nat} {P : List Pt} (hm : a.eval m = .map (some b)) (h : MapP w b P) {p : Pt} (hx : a.eval x = ptAgg p) (hin : inR p = true) (hn : p ∉ P) (hl : P.length < 4294967296) (hv : a.eval v = .int .i64 ((P.length : Int) + 1))
    (hK : ∀ w', MapP w' b (P ++ [p]) → Upd (fun k => k = b) w w' → wpList Tryz.prog ops Q rest (a.put o.dst undef) w') : wpList Tryz.prog ops Q (o :: rest) a w := by
  obtain ⟨D, h1, h2, h3, h4⟩ := h
  have ht := h1.tidy lawP
  refine wpList_mapUpdate_own w hg m x v 94 hop 51 3 lawP Tryz.underlying94 (plainElem Tryz.prog 3) b P.length D hm h1 (by unfold maxLen; omega) _ _ (klP p) hx hv (keyP hin) (.lit (.int .i64 ((P.length : Int) + 1))) [] (plainElem_int Tryz.underlying3 (by simp [Lit.wf, IntKind.min, IntKind.max, IntKind.signed, IntKind.bits]; omega)) (fun w' k1 k2 => hK w' ?_ (upd_of_grown k2 (fun j hj _ => (Option.some.inj hj).symm)))
  obtain ⟨s1, s2, s3⟩ := MapP.step hin hn ht h2 h3 h4
  refine ⟨_, ?_, s1, s2, s3⟩
  rw [List.length_append]
  exact k1
/-! ### Beside each other -/
theorem Bld.at {B b : Nat} {s : Bytes} {w : World} (h : Bld B b s w) : ∃ cs, w.heap[b]? = some (.cells cs 93 (0, 0)) := by
  rcases h with ⟨_, v, h2, _⟩ | ⟨_, v, h2, _⟩ <;> exact ⟨_, h2⟩
theorem bldAt_other {F : Nat → Prop} {B b : Nat} {p : Value} {l : List Value} {w w' : World} (h : Lib.BuilderAtF 93 5 B b p l w) (hu : Upd F w w') (hF : ∀ k, F k → k < w.heap.size → ∃ o, w.heap[k]? = some o ∧ (∀ c fr, o ≠ .cells c 93 fr) ∧ ∀ c fz, o ≠ .cells c 5 fz) : Lib.BuilderAtF 93 5 B b p l w' := by
  obtain ⟨h1, v, h2, h3, h4⟩ := h
  refine ⟨h1, v, hu.heap h2 (fun hf => ?_), ⟨h3.1, ?_⟩, h4⟩
  · obtain ⟨o, ho, h5, _⟩ := hF b hf (lt_of_heap h2)
    rw [h2] at ho; cases ho; exact h5 _ _ rfl
  · rcases h3.2 with h5 | ⟨g, cap, cur, fz, h5⟩
    · exact .inl h5
    · obtain ⟨e, e2, e3, e4⟩ := h5
      refine .inr ⟨g, cap, cur, fz, e, e2, hu.heap e3 (fun hf => ?_), e4⟩
      obtain ⟨o, ho, _, h6⟩ := hF g hf (lt_of_heap e3)
      rw [e3] at ho; cases ho; exact h6 _ _ rfl
theorem Bld.other {F : Nat → Prop} {B b : Nat} {s : Bytes} {w w' : World} (h : Bld B b s w) (hu : Upd F w w') (hF : ∀ k, F k → k < w.heap.size → ∃ o, w.heap[k]? = some o ∧ (∀ c fr, o ≠ .cells c 93 fr) ∧ ∀ c fz, o ≠ .cells c 5 fz) : Bld B b s w' :=
  h.elim (fun x => .inl (bldAt_other x hu hF)) (fun x => .inr (bldAt_other x hu hF))
theorem OwnN.at {base : Nat} {w : World} {v : Value} {l : List Nat} (h : OwnN base w v l) {g : Nat} (hg : v.ownBlock = some g) : ∃ cs, w.heap[g]? = some (.cells cs 3 (0, 0)) := ownsRow_type h hg
theorem OwnN.bkeep {base B b : Nat} {s : Bytes} {w w' : World} {v : Value} {l : List Nat} (h : OwnN base w v l) (hb : Bld B b s w) (hk : BKeep B b w w') : OwnN base w' v l :=
  ownsRow_keep h (fun g hg => by
    obtain ⟨cs, hc⟩ := h.at hg
    obtain ⟨cb, hcb⟩ := hb.at
    rw [hc]
    refine hk.heap hc (fun e => ?_) (fun c fz e => by cases e)
    subst e
    rw [hc] at hcb; cases hcb)
theorem OwnN.mapupd {base b : Nat} {w w' : World} {v : Value} {l : List Nat} {P : List Pt} (h : OwnN base w v l) (hm : MapP w b P) (hu : Upd (fun k => k = b) w w') : OwnN base w' v l :=
  ownsRow_keep h (fun g hg => by
    obtain ⟨cs, hc⟩ := h.at hg
    obtain ⟨es, cl, hcb⟩ := hm.blk
    exact hu.block g (lt_of_heap hc) (fun e => by
      have e' : g = b := e
      subst e'
      rw [hc] at hcb; cases hcb))
theorem Bld.mapupd {B b mb : Nat} {s : Bytes} {w w' : World} {P : List Pt} (h : Bld B b s w) (hm : MapP w mb P) (hu : Upd (fun k => k = mb) w w') : Bld B b s w' :=
  h.other hu (fun k hk _ => by
    have hk' : k = mb := hk
    subst hk'
    obtain ⟨es, cl, hcb⟩ := hm.blk
    exact ⟨_, hcb, (fun c fr e => by cases e), (fun c fz e => by cases e)⟩)
theorem Bld.appn {base B b : Nat} {s : Bytes} {w w' : World} {v : Value} {l : List Nat} (h : Bld B b s w) (ho : OwnN base w v l) (hu : Upd (fun k => v.ownBlock = some k) w w') : Bld B b s w' :=
  h.other hu (fun k hk _ => by
    obtain ⟨cs, hc⟩ := ho.at hk
    exact ⟨_, hc, (fun c fr e => by cases e), (fun c fz e => by cases e)⟩)
theorem MapP.appn {base b : Nat} {w w' : World} {v : Value} {l : List Nat} {P : List Pt} (h : MapP w b P) (ho : OwnN base w v l) (hu : Upd (fun k => v.ownBlock = some k) w w') : MapP w' b P :=
  h.other hu (fun k hk _ => by
    obtain ⟨cs, hc⟩ := ho.at hk
    exact ⟨_, _, _, hc⟩)
end Go.Proofs.YtojdgdeefhndiaaGreatDoor
