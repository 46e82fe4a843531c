/- A region that draws its order, walked along a tree of orders: operations that yield one value in every world of a class, others that are carried out one by one, and forks where two of them are ready. No condition. One more step for a tree of orders: a guarded operation that is wanted. No condition. A region that draws its order within a round of a range over a function: walked along a tree of orders as outside. No condition. -/
import Derived.Test.YtojdgdeefhndiaaDoorM3
import Derived.OrdersIn
import Derived.TacticsIn
import Derived.RangeFuncCalls
namespace Go.Proofs.YtojdgdeefhndiaaDoor
open Go Go.RowKit
section
variable {P : Program} {ops : Array Oper} {md : Region.Mode} {C : World → Prop} {Q : Exit → Act → World → Prop}

theorem wpAnyG_mono {n : Nat} {L : Array Bool → Act → World → Prop} {C' : World → Prop} (hC : ∀ w, C' w → C w) :
    ∀ (f : Nat) (listed : Array Bool) (a : Act) (w : World), wpAnyG P md ops Q C' n L f listed a w → wpAnyG P md ops Q C n L f listed a w
  | 0, _, _, _, h => h
  | f + 1, _, _, _, h => ⟨h.1, fun i hi => ⟨(h.2 i hi).1, wpOp_mono (fun a' w' h' => ⟨hC _ h'.1, wpAnyG_mono hC f _ a' w' h'.2⟩) (h.2 i hi).2⟩⟩

/-- A tree of orders. -/
inductive OT where
  | nil
  | sure (i : Nat) (r : OT)
  | run (i : Nat) (r : OT)
  | fork (i : Nat) (ri : OT) (j : Nat) (rj : OT)
def OT.sures : List Nat → OT → OT
  | [], r => r
  | i :: l, r => .sure i (OT.sures l r)

def wpT (P : Program) (ops : Array Oper) (Q : Exit → Act → World → Prop) (L : Act → World → Prop) : OT → (World → Prop) → Act → World → Prop
  | .nil, _, a, w => L a w
  | .sure i r, C, a, w => ∃ o v, ops[i]? = some o ∧ Sure P ops C o v a ∧ wpT P ops Q L r C (a.put o.dst v) w
  | .run i r, C, a, w => ∃ C' : World → Prop, (∀ w, C' w → C w) ∧ wpOp P ops Q i (fun a' w' => C' w' ∧ wpT P ops Q L r C' a' w') a w
  | .fork i ri j rj, C, a, w => (∃ C' : World → Prop, (∀ w, C' w → C w) ∧ wpOp P ops Q i (fun a' w' => C' w' ∧ wpT P ops Q L ri C' a' w') a w) ∧
      (∃ C' : World → Prop, (∀ w, C' w → C w) ∧ wpOp P ops Q j (fun a' w' => C' w' ∧ wpT P ops Q L rj C' a' w') a w)
def treeB (md : Region.Mode) (ops : Array Oper) (n : Nat) : Nat → OT → Array Bool → Bool
  | 0, .nil, listed => Region.seqB md ops (ops.size - n) n listed
  | f + 1, .sure i r, listed => decide (i < n) && (Region.ready md ops listed).contains i && Region.free md ops listed i && treeB md ops n f r (listed.setIfInBounds i true)
  | f + 1, .run i r, listed => decide (i < n) && decide (Region.ready md ops listed = [i]) && treeB md ops n f r (listed.setIfInBounds i true)
  | f + 1, .fork i ri j rj, listed => decide (i < n) && decide (j < n) && decide (Region.ready md ops listed = [i, j]) && treeB md ops n f ri (listed.setIfInBounds i true) && treeB md ops n f rj (listed.setIfInBounds j true)
  | _, _, _ => false
theorem wpAnyG_tree {n : Nat} {Lq : Act → World → Prop} (hsel : Region.noSelect ops = true) (hQ : ∀ c a d v w, Q (.panic c) (Act.put a d v) w → Q (.panic c) a w)
    (hs : Region.sinkB md ops n = true) (hc : Region.chainB md ops n = true) (hn : n < ops.size) :
    ∀ (f : Nat) (t : OT) (C : World → Prop) (listed : Array Bool) (a : Act) (w : World), C w → HeadInv md ops n listed → treeB md ops n f t listed = true → wpT P ops Q Lq t C a w →
    wpAnyG P md ops Q C n (fun listed' a' w' => Region.seqB md ops (ops.size - n) n listed' = true ∧ Lq a' w') f listed a w
  | 0, .nil, C, listed, a, w, _, inv, hB, h => ⟨by simpa [treeB] using hB, h⟩
  | f + 1, .sure i r, C, listed, a, w, hC, inv, hB, h => by
    obtain ⟨o, v, h0, hy, hK⟩ := h
    simp only [treeB, Bool.and_eq_true, decide_eq_true_eq] at hB
    obtain ⟨⟨⟨hin, hr⟩, hf⟩, hB'⟩ := hB
    have hr' : i ∈ Region.ready md ops listed := by simpa using hr
    exact wpAnyG_first h0 (Region.noSelect_spec hsel) (fun c a w => hQ c a _ _ w) hs hc hn hin (fun listed' a' w' hL => seqB_ready hL.1) f listed a w inv hC (Region.free_spec h0 hf) hr' hy
      (wpAnyG_tree hsel hQ hs hc hn f r C _ _ w hC (inv.set hr' hin) hB' hK)
  | f + 1, .run i r, C, listed, a, w, hC, inv, hB, h => by
    obtain ⟨C', hCC, h⟩ := h
    simp only [treeB, Bool.and_eq_true, decide_eq_true_eq] at hB
    obtain ⟨⟨hin, hr⟩, hB'⟩ := hB
    have hr' : i ∈ Region.ready md ops listed := by rw [hr]; simp
    refine ⟨fun h0 => (by rw [h0] at hr; cases hr), fun j hj => ?_⟩
    rw [hr] at hj
    obtain rfl : j = i := by simpa using hj
    exact ⟨hin, wpOp_mono (fun a' w' h' => ⟨hCC _ h'.1, wpAnyG_mono hCC f _ _ _ (wpAnyG_tree hsel hQ hs hc hn f r C' _ a' w' h'.1 (inv.set hr' hin) hB' h'.2)⟩) h⟩
  | f + 1, .fork i ri j rj, C, listed, a, w, hC, inv, hB, h => by
    obtain ⟨⟨C1, hC1, h1⟩, ⟨C2, hC2, h2⟩⟩ := h
    simp only [treeB, Bool.and_eq_true, decide_eq_true_eq] at hB
    obtain ⟨⟨⟨⟨hin, hjn⟩, hr⟩, hB1⟩, hB2⟩ := hB
    have hri : i ∈ Region.ready md ops listed := by rw [hr]; simp
    have hrj : j ∈ Region.ready md ops listed := by rw [hr]; simp
    refine ⟨fun h0 => (by rw [h0] at hr; cases hr), fun k hk => ?_⟩
    rw [hr] at hk
    rcases (by simpa using hk : k = i ∨ k = j) with rfl | rfl
    · exact ⟨hin, wpOp_mono (fun a' w' h' => ⟨hC1 _ h'.1, wpAnyG_mono hC1 f _ _ _ (wpAnyG_tree hsel hQ hs hc hn f ri C1 _ a' w' h'.1 (inv.set hri hin) hB1 h'.2)⟩) h1⟩
    · exact ⟨hjn, wpOp_mono (fun a' w' h' => ⟨hC2 _ h'.1, wpAnyG_mono hC2 f _ _ _ (wpAnyG_tree hsel hQ hs hc hn f rj C2 _ a' w' h'.1 (inv.set hrj hjn) hB2 h'.2)⟩) h2⟩
  | 0, .sure _ _, _, _, _, _, _, _, hB, _ => by simp [treeB] at hB
  | 0, .run _ _, _, _, _, _, _, _, hB, _ => by simp [treeB] at hB
  | 0, .fork _ _ _ _, _, _, _, _, _, _, hB, _ => by simp [treeB] at hB
  | _ + 1, .nil, _, _, _, _, _, _, hB, _ => by simp [treeB] at hB
def treeTailB (md : Region.Mode) (ops : Array Oper) (n : Nat) (t : OT) : Bool :=
  Region.noSelect ops && decide (n < ops.size) && Region.sinkB md ops n && Region.chainB md ops n && treeB md ops n n t (Array.replicate ops.size false)
/-- The law. -/
theorem wp_region_tree {id : Nat} {a : Act} {w : World} {l : List Oper} (n : Nat) (t : OT) (C : World → Prop) (hm : P.follows .mixedOrders = true) (hB : treeTailB .any l.toArray n t = true)
    (hQ : ∀ c a d v w, Q (.panic c) (Act.put a d v) w → Q (.panic c) a w) (hC : C w.drew)
    (h : wpT P l.toArray Q (fun a' w' => wpList P l.toArray Q (l.drop n) a' w') t C a w.drew) : (Code.region id l.toArray true).wp P Q a w := by
  simp only [treeTailB, Bool.and_eq_true, decide_eq_true_eq] at hB
  obtain ⟨⟨⟨⟨hsel, hn⟩, hs⟩, hc⟩, hlex⟩ := hB
  have hn' : n < l.length := by simpa using hn
  have hdl : (l.drop n).length = l.toArray.size - n := by simp
  have inv0 : HeadInv .any l.toArray n (Array.replicate l.toArray.size false) :=
    ⟨by simp, fun j oj _ hl => (by rw [getD_replicate_false] at hl; cases hl), fun t _ ht => getD_in (by simpa using ht) (getD_replicate_false _ _)⟩
  have H := wpAnyG_tree (md := .any) hsel hQ hs hc hn n t C _ a w.drew hC inv0 hlex h
  refine wp_region_any hm ?_
  have := wpAny_of_G (g := l.toArray.size - n) (fun listed a' w' hL => by
    have := wpAny_of_seq (md := .any) (Q' := Q) (l.drop n) n listed a' w' (fun j => by simp [List.getElem?_drop]) (by rw [hdl]; exact hL.1) hL.2
    rwa [hdl] at this) _ _ _ _ H
  rw [show n + (l.toArray.size - n) = l.toArray.size by omega] at this
  exact this

variable {L : Act → World → Prop} {r ri rj : OT} {a : Act} {w : World} {i j : Nat} {o oi oj : Oper}
theorem wpT_nil (h : L a w) : wpT P ops Q L .nil C a w := h
/-- One operation that yields the same value in every world of the class. -/
theorem wpT_sure (ho : ops[i]? = some o) (hg : o.guard = none) (v : Value) (hv : ∀ w', C w' → (execOp a.eval o).run P w' = .ok (.value v) w') (h : wpT P ops Q L r C (a.put o.dst v) w) :
    wpT P ops Q L (.sure i r) C a w :=
  ⟨o, v, ho, .inl ⟨by simp [Region.wanted, hg], hv⟩, h⟩
/-- One operation that is carried out in the world at hand; the class may be made smaller behind it. -/
theorem wpT_run (C' : World → Prop) (hC : ∀ w, C' w → C w) (ho : ops[i]? = some o)
    (h : ∀ K' : Act → World → Prop, (∀ a' w', C' w' ∧ wpT P ops Q L r C' a' w' → K' a' w') → if Region.wanted o (yielded ops a.tmps) = true then Oper.wp P o a w K' Q else K' (a.put o.dst undef) w) :
    wpT P ops Q L (.run i r) C a w := ⟨C', hC, wpOp_step ho (fun K' hK => h K' hK)⟩
theorem wpT_fork (C1 C2 : World → Prop) (hC1 : ∀ w, C1 w → C w) (hC2 : ∀ w, C2 w → C w) (hi : ops[i]? = some oi) (hj : ops[j]? = some oj)
    (h1 : ∀ K' : Act → World → Prop, (∀ a' w', C1 w' ∧ wpT P ops Q L ri C1 a' w' → K' a' w') → if Region.wanted oi (yielded ops a.tmps) = true then Oper.wp P oi a w K' Q else K' (a.put oi.dst undef) w)
    (h2 : ∀ K' : Act → World → Prop, (∀ a' w', C2 w' ∧ wpT P ops Q L rj C2 a' w' → K' a' w') → if Region.wanted oj (yielded ops a.tmps) = true then Oper.wp P oj a w K' Q else K' (a.put oj.dst undef) w) :
    wpT P ops Q L (.fork i ri j rj) C a w := ⟨⟨C1, hC1, wpOp_step hi (fun K' hK => h1 K' hK)⟩, ⟨C2, hC2, wpOp_step hj (fun K' hK => h2 K' hK)⟩⟩
end
end Go.Proofs.YtojdgdeefhndiaaDoor
namespace Go.Proofs.YtojdgdeefhndiaaDoor
open Go Go.RowKit
theorem wpT_sureG {P : Program} {ops : Array Oper} {C : World → Prop} {Q : Exit → Act → World → Prop} {L : Act → World → Prop} {r : OT} {a : Act} {w : World} {i : Nat} {o : Oper}
    (ho : ops[i]? = some o) (hg : Region.wanted o (yielded ops a.tmps) = true) (v : Value) (hv : ∀ w', C w' → (execOp a.eval o).run P w' = .ok (.value v) w') (h : wpT P ops Q L r C (a.put o.dst v) w) :
    wpT P ops Q L (.sure i r) C a w :=
  ⟨o, v, ho, .inl ⟨hg, hv⟩, h⟩
end Go.Proofs.YtojdgdeefhndiaaDoor
namespace Go.Proofs.YtojdgdeefhndiaaDoor
open Go Go.RowKit
variable {P : Program} {ops : Array Oper} {Q : Exit → Act → World → Prop} {n l : Nat}

theorem wpIn_of_wp {o : Oper} {a : Act} {w : World} {K : Act → World → Prop} (hd : ∀ c, o.op ≠ .defer c) (h : o.wp P a w K Q) : o.wpIn (Fence.wide.inRound l) n P a w K Q := by
  unfold Oper.wpIn
  refine ⟨fun _ _ => trivial, ?_⟩
  rw [show (Fence.wide.inRound l).round = some l from rfl, Oper.semAt_some l a.eval o hd]
  unfold Oper.wp at h
  generalize (execOp a.eval o).run P w = r at *
  cases r with
  | ok x w' =>
    cases x <;> simp only [Oper.upon, Oper.uponIn] at h ⊢ <;> first
      | exact h
      | exact ⟨fun h => (by simp [Fence.wide, Fence.inRound] at h), CallsIn.inRound l (callsIn_wide.2 h)⟩
      | exact ⟨fun h => (by simp [Fence.wide, Fence.inRound] at h), fun c cs _ => let ⟨v, w2, r, s⟩ := h c cs; ⟨v, w2, r, stepsIn_wide.2 s⟩⟩
      | exact h.elim
  | halt x w' => cases x <;> simp only [Oper.upon, Oper.uponIn] at h ⊢ <;> exact h
theorem wpOpIn_of_wpOp (hd : ∀ (i : Nat) (o : Oper) c, ops[i]? = some o → o.op ≠ .defer c) (hL : ¬ LetsOut Q) {i : Nat} {K : Act → World → Prop} {a : Act} {w : World} (h : wpOp P ops Q i K a w) : wpOpIn (Fence.wide.inRound l) n P ops Q i K a w := by
  unfold wpOp at h
  unfold wpOpIn
  cases ho : ops[i]? with
  | none => simpa only [ho] using h
  | some o =>
    simp only [ho] at h ⊢
    split
    · rename_i hw
      simp only [hw, if_true] at h
      rcases h with h | ⟨_, h⟩
      · exact wpIn_of_wp (fun c => hd i o c ho) h
      · exact absurd h hL
    · rename_i hw
      simp only [hw] at h
      exact ⟨fun _ _ => trivial, h⟩
theorem wpAnyIn_of_wpAny {md : Region.Mode} (hd : ∀ (i : Nat) (o : Oper) c, ops[i]? = some o → o.op ≠ .defer c) (hL : ¬ LetsOut Q) :
    ∀ (f : Nat) (listed : Array Bool) (a : Act) (w : World), wpAny P md ops Q f listed a w → wpAnyIn (Fence.wide.inRound l) n P md ops Q f listed a w
  | 0, _, _, _, h => h
  | f + 1, _, _, _, h => ⟨h.1, fun i hi => wpOpIn_mono (fun _ _ => wpAnyIn_of_wpAny hd hL f _ _ _) (wpOpIn_of_wpOp hd hL (h.2 i hi))⟩
def noDefer (ops : Array Oper) : Bool := ops.all fun o => match o.op with | .defer _ => false | _ => true
theorem noDefer_spec (h : noDefer ops = true) : ∀ (i : Nat) (o : Oper) c, ops[i]? = some o → o.op ≠ .defer c := fun i o c hi e => by
  unfold noDefer at h
  rw [Array.all_eq_true] at h
  obtain ⟨hlt, rfl⟩ := Array.getElem?_eq_some_iff.1 hi
  have := h i hlt
  rw [e] at this
  cases this
/-- The law of 'wp_region_tree', within a round. -/
theorem wpIn_region_tree {id : Nat} {a : Act} {w : World} {l' : List Oper} (m : Nat) (t : OT) (C : World → Prop) (hm : P.follows .mixedOrders = true) (hB : treeTailB .any l'.toArray m t = true) (hdf : noDefer l'.toArray = true)
    (hL : ¬ LetsOut Q) (hQ : ∀ c a d v w, Q (.panic c) (Act.put a d v) w → Q (.panic c) a w) (hC : C w.drew)
    (h : wpT P l'.toArray Q (fun a' w' => wpList P l'.toArray Q (l'.drop m) a' w') t C a w.drew) : (Code.region id l'.toArray true).wpIn (Fence.wide.inRound l) n P Q a w := by
  simp only [treeTailB, Bool.and_eq_true, decide_eq_true_eq] at hB
  obtain ⟨⟨⟨⟨hsel, hn⟩, hs⟩, hc⟩, hlex⟩ := hB
  have hn' : m < l'.length := by simpa using hn
  have hdl : (l'.drop m).length = l'.toArray.size - m := by simp
  have inv0 : HeadInv .any l'.toArray m (Array.replicate l'.toArray.size false) :=
    ⟨by simp, fun j oj _ hl => (by rw [getD_replicate_false] at hl; cases hl), fun t _ ht => getD_in (by simpa using ht) (getD_replicate_false _ _)⟩
  have H := wpAnyG_tree (md := .any) hsel hQ hs hc hn m t C _ a w.drew hC inv0 hlex h
  refine wpIn_region_any hm (wpAnyIn_of_wpAny (noDefer_spec hdf) hL _ _ _ _ ?_)
  have := wpAny_of_G (g := l'.toArray.size - m) (fun listed a' w' hL => by
    have := wpAny_of_seq (md := .any) (Q' := Q) (l'.drop m) m listed a' w' (fun j => by simp [List.getElem?_drop]) (by rw [hdl]; exact hL.1) hL.2
    rwa [hdl] at this) _ _ _ _ H
  rw [show m + (l'.toArray.size - m) = l'.toArray.size by omega] at this
  exact this
/-- An append whose run is known, within a round. -/
theorem wpListIn_append_run {rest : List Oper} {o : Oper} {a : Act} {w w' : World} (hgd : o.guard = none) (s x : Operand) (t : TypeId)
    (ho : o.op = .call { callee := .builtin .append, args := #[s, x], argTypes := #[t, t] }) {vs vx v' : Value} (hs : a.eval s = vs) (hx : a.eval x = vx)
    (hr : (Builtin.append_ #[t, t] o.type #[vs, vx]).run P w = .ok v' w') (h : wpListIn (Fence.wide.inRound l) n P ops Q rest (a.put o.dst v') w') : wpListIn (Fence.wide.inRound l) n P ops Q (o :: rest) a w :=
  wpListIn_plain hgd fun _ hK => wpIn_of_wp (fun c => by rw [ho]; exact fun e => by cases e) (wp_append_run s x t ho hs hx hr (hK _ _ h))
end Go.Proofs.YtojdgdeefhndiaaDoor
