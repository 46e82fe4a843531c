/- The lines of a text that have words, with their numbers; bounds; what the library's variables need. No condition. A region that draws its order, walked once in an order of one's own choice: operations that yield one value in every world of a class, and others that are carried out one by one and keep the class; a forced tail. No condition. -/
import Derived.Test.YtojdgdeefhndiaaDoorM1
import Derived.Test.YtojdgdeefhndiaaDoorM2
import Derived.ChangeAgain
import Derived.StillTail
namespace Go.Proofs.YtojdgdeefhndiaaDoor
open Go Go.RowKit Sp
namespace Sp
def numbered : Nat → List Bytes → List (Nat × List Bytes)
  | _, [] => []
  | i, l :: r => match wordsOf l with
    | [] => numbered (i + 1) r
    | w :: ws => (i, w :: ws) :: numbered (i + 1) r
def linesAll (s : Bytes) : List (Nat × List Bytes) := numbered 1 (linesOf s)
theorem numbered_append : ∀ (a b : List Bytes) (i : Nat), numbered i (a ++ b) = numbered i a ++ numbered (i + a.length) b
  | [], b, i => by simp [numbered]
  | l :: a, b, i => by
    rw [List.cons_append, numbered, numbered, numbered_append a b (i + 1), List.length_cons]
    have e : i + 1 + a.length = i + (a.length + 1) := by omega
    rw [e]
    split <;> simp
theorem numbered_one (i : Nat) (l : Bytes) : numbered i [l] = if wordsOf l = [] then [] else [(i, wordsOf l)] := by
  unfold numbered
  split
  · rename_i h; rw [if_pos h]; rfl
  · rename_i w ws h; rw [if_neg (by rw [h]; simp), h]; rfl
theorem numbered_take {ls : List Bytes} {k : Nat} (h : k < ls.length) : numbered 1 (ls.take (k + 1)) = numbered 1 (ls.take k) ++ if wordsOf ls[k] = [] then [] else [(k + 1, wordsOf ls[k])] := by
  rw [List.take_succ_eq_append_getElem h, numbered_append, numbered_one, List.length_take, Nat.min_eq_left (by omega), Nat.add_comm 1 k]
theorem numbered_pre (ls : List Bytes) (k : Nat) : ∃ rest, numbered 1 (ls.take k) ++ rest = numbered 1 ls := by
  refine ⟨numbered (1 + (ls.take k).length) (ls.drop k), ?_⟩
  rw [← numbered_append, List.take_append_drop]
theorem flush_len (c : Bytes) : (flush c).length ≤ c.length ∧ ∀ x, x ∈ flush c → x.length ≤ c.length := by
  unfold flush
  cases c with
  | nil => simp
  | cons a r => simp
theorem fieldsGo_len : ∀ (r cur : Bytes), (fieldsGo cur r).length ≤ cur.length + r.length ∧ ∀ x, x ∈ fieldsGo cur r → x.length ≤ cur.length + r.length
  | [], cur => by have := flush_len cur; simpa [fieldsGo] using this
  | c :: r, cur => by
    rw [fieldsGo]
    by_cases hb : blank c = true
    · rw [if_pos hb]
      have h1 := flush_len cur
      have h2 := fieldsGo_len r []
      refine ⟨by rw [List.length_append, List.length_cons]; simp at h2; omega, fun x hx => ?_⟩
      rw [List.mem_append] at hx
      rw [List.length_cons]
      rcases hx with hx | hx
      · have := h1.2 x hx; omega
      · have := h2.2 x hx; simp at this; omega
    · rw [if_neg hb]
      have h2 := fieldsGo_len r (cur ++ [c])
      simp only [List.length_append, List.length_cons, List.length_nil] at h2 ⊢
      exact ⟨by omega, fun x hx => by have := h2.2 x hx; omega⟩
theorem ahead_len : ∀ l : Bytes, (ahead l).length ≤ l.length
  | [] => by simp [ahead]
  | c :: r => by
    unfold ahead
    split
    · simp
    · have := ahead_len r; simp; omega
theorem wordsOf_len (l : Bytes) : (wordsOf l).length ≤ l.length ∧ ∀ x, x ∈ wordsOf l → x.length ≤ l.length := by
  have h := fieldsGo_len (ahead l) []
  have h1 := ahead_len l
  unfold wordsOf
  simp only [List.length_nil, Nat.zero_add] at h
  exact ⟨by omega, fun x hx => by have := h.2 x hx; omega⟩
theorem linesGo_len : ∀ (r cur : Bytes), (linesGo cur r).length ≤ r.length + 1 ∧ ∀ x, x ∈ linesGo cur r → x.length ≤ cur.length + r.length
  | [], cur => by simp [linesGo]
  | c :: r, cur => by
    rw [linesGo]
    by_cases hb : c = 10
    · rw [if_pos hb]
      have h2 := linesGo_len r []
      refine ⟨by simp only [List.length_cons]; omega, fun x hx => ?_⟩
      rw [List.mem_cons] at hx
      rw [List.length_cons]
      rcases hx with rfl | hx
      · omega
      · have := h2.2 x hx; simp at this; omega
    · rw [if_neg hb]
      have h2 := linesGo_len r (cur ++ [c])
      simp only [List.length_append, List.length_cons, List.length_nil] at h2 ⊢
      exact ⟨by omega, fun x hx => by have := h2.2 x hx; omega⟩
theorem linesOf_len (l : Bytes) : (linesOf l).length ≤ l.length + 1 ∧ ∀ x, x ∈ linesOf l → x.length ≤ l.length := by
  have := linesGo_len l []
  unfold linesOf
  simpa using this
theorem numbered_mem : ∀ (ls : List Bytes) (i : Nat) (x : Nat × List Bytes), x ∈ numbered i ls → ∃ l, l ∈ ls ∧ x.2 = wordsOf l ∧ x.2 ≠ [] ∧ i ≤ x.1 ∧ x.1 < i + ls.length
  | [], i, x, h => by simp [numbered] at h
  | l :: r, i, x, h => by
    rw [numbered] at h
    split at h
    · obtain ⟨l', h1, h2, h3, h4, h5⟩ := numbered_mem r (i + 1) x h
      exact ⟨l', by simp [h1], h2, h3, by omega, by rw [List.length_cons]; omega⟩
    · rename_i w ws hw
      rw [List.mem_cons] at h
      rcases h with rfl | h
      · exact ⟨l, by simp, hw.symm, by simp, Nat.le_refl _, by rw [List.length_cons]; simp only; omega⟩
      · obtain ⟨l', h1, h2, h3, h4, h5⟩ := numbered_mem r (i + 1) x h
        exact ⟨l', by simp [h1], h2, h3, by omega, by rw [List.length_cons]; omega⟩
end Sp
theorem shaped_same {P : Program} {w0 W : World} (h : w0.ShapedOpen P) (hs : ∀ k, k < w0.heap.size → W.heap[k]? = w0.heap[k]?) : W.ShapedOpen P := by
  have keep : ∀ {i : Nat} {o : Obj}, w0.heap[i]? = some o → W.heap[i]? = some o := fun {i o} hi => (hs i (lt_of_heap hi)).trans hi
  refine ⟨fun g zero t hg hz => ?_, fun k hk1 hk2 => ?_⟩
  · obtain ⟨cs, h1, h2, h3⟩ := h.1 g zero t hg hz
    refine ⟨cs, keep h1, h2, fun hb => Row.ok_of_shape (fun b x hx => ?_) (h3 hb)⟩
    unfold World.shape? at hx ⊢
    cases hb : w0.heap[b]? with
    | none => rw [hb] at hx; simp at hx
    | some o => rw [keep hb]; rw [hb] at hx; exact hx
  · obtain ⟨o, o₀, h1, h2, h3⟩ := h.2 k hk1 hk2
    exact ⟨o, o₀, keep h1, h2, h3⟩
end Go.Proofs.YtojdgdeefhndiaaDoor
namespace Go.Proofs.YtojdgdeefhndiaaDoor
open Go Go.RowKit
section
variable {P : Program} {ops : Array Oper} {md : Region.Mode} {C : World → Prop} {Q : Exit → Act → World → Prop}

/-- In every world of the class the operation leaves v in its temporary, and the world as it is. -/
def Sure (P : Program) (ops : Array Oper) (C : World → Prop) (o : Oper) (v : Value) (a : Act) : Prop :=
  (Region.wanted o (yielded ops a.tmps) = true ∧ ∀ w, C w → (execOp a.eval o).run P w = .ok (.value v) w) ∨
  (Region.wanted o (yielded ops a.tmps) = false ∧ v = undef)
theorem Sure.wpOp {i : Nat} {o : Oper} {v : Value} {a : Act} (hi : ops[i]? = some o) (hy : Sure P ops C o v a)
    {K : Act → World → Prop} {w : World} (hC : C w) (h : K (a.put o.dst v) w) : wpOp P ops Q i K a w := by
  unfold Go.wpOp
  simp only [hi]
  rcases hy with ⟨hw, hv⟩ | ⟨hw, rfl⟩
  · simp only [hw, if_true, Oper.wp, hv w hC, Oper.upon]; exact .inl h
  · simp only [hw, Bool.false_eq_true, if_false]; exact h
theorem Sure.of_same {o : Oper} {v : Value} {a a' : Act} (hy : Sure P ops C o v a) (he : execOp a'.eval o = execOp a.eval o)
    (hw : Region.wanted o (yielded ops a'.tmps) = Region.wanted o (yielded ops a.tmps)) : Sure P ops C o v a' := by
  unfold Sure at *
  rw [he, hw]
  exact hy
theorem wpOp_putSure {j : Nat} {oi oj : Oper} {v : Value} (hj : ops[j]? = some oj) (hap : oi.apart ops oj = true)
    (hsi : ∀ cs b, oi.op ≠ .select cs b) (hsj : ∀ cs b, oj.op ≠ .select cs b)
    (hQ : ∀ c a w, Q (.panic c) (a.put oi.dst v) w → Q (.panic c) a w) {K : Act → World → Prop} {a : Act} {w : World}
    (hy : Sure P ops C oi v a) (h : wpOp P ops Q j K (a.put oi.dst v) w) :
    wpOp P ops Q j (fun a' w' => Sure P ops C oi v a' ∧ K (a'.put oi.dst v) w') a w := by
  obtain ⟨h1, h2, h3⟩ := Oper.apart_spec hap
  have keep : ∀ (a : Act), Sure P ops C oi v a → ∀ u, Sure P ops C oi v (a.put oj.dst u) := fun a hy u =>
    hy.of_same (execOp_put oi hsi a oj.dst u h3) (wanted_put oi a oj.dst u h3)
  have keepD : ∀ d, Sure P ops C oi v { a with defers := d :: a.defers } := fun d => hy.of_same rfl rfl
  unfold wpOp at *
  simp only [hj] at *
  rw [wanted_put oj a oi.dst v h1] at h
  split
  · rename_i hw
    simp only [hw, if_true] at h
    rcases h with h | ⟨hasks, hlets⟩
    case inr => exact .inr ⟨by unfold Oper.asks at *; rw [execOp_put oj hsj a oi.dst v h1] at hasks; exact hasks, hlets⟩
    refine .inl ?_
    unfold Oper.wp at *
    rw [execOp_put oj hsj a oi.dst v h1] at h
    generalize (execOp a.eval oj).run P w = r at *
    cases r with
    | ok n w' =>
      cases n <;> simp only [Oper.upon] at h ⊢
      case value u => exact ⟨keep a hy u, by rw [← Act.put_comm a v u h2]; exact h⟩
      case skip => exact ⟨keep a hy _, by rw [← Act.put_comm a v undef h2]; exact h⟩
      case defer d =>
        refine ⟨keep _ (keepD d) _, ?_⟩
        rw [← Act.put_comm _ v undef h2, ← Act.put_defers]
        exact h
      case enter f args =>
        refine Calls.mono h fun e w'' he => ?_
        cases e with
        | returned u => exact ⟨keep a hy u, by rw [← Act.put_comm a v u h2]; exact he⟩
        | panicked c => exact hQ _ _ _ he
        | outgrown => exact he
      case row row args => exact Rows.mono h fun u w'' he => ⟨keep a hy u, by rw [← Act.put_comm a v u h2]; exact he⟩
    | halt x w' =>
      cases x <;> simp only [Oper.upon] at h ⊢
      case panic u => exact hQ _ _ _ h
  · rename_i hw
    simp only [hw] at h
    exact ⟨keep a hy _, by rw [← Act.put_comm a v undef h2]; exact h⟩

/-- The operations below n, in whatever order; the class holds behind each. -/
def wpAnyG (P : Program) (md : Region.Mode) (ops : Array Oper) (Q : Exit → Act → World → Prop) (C : World → Prop) (n : Nat) (L : Array Bool → Act → World → Prop) : Nat → Array Bool → Act → World → Prop
  | 0, listed, a, w => L listed a w
  | f + 1, listed, a, w =>
    Region.ready md ops listed ≠ [] ∧ ∀ i ∈ Region.ready md ops listed, i < n ∧ wpOp P ops Q i (fun a' w' => C w' ∧ wpAnyG P md ops Q C n L f (listed.setIfInBounds i true) a' w') a w
theorem wpAny_of_G {n g : Nat} {L : Array Bool → Act → World → Prop} (hL : ∀ listed a w, L listed a w → wpAny P md ops Q g listed a w) :
    ∀ (f : Nat) (listed : Array Bool) (a : Act) (w : World), wpAnyG P md ops Q C n L f listed a w → wpAny P md ops Q (f + g) listed a w
  | 0, listed, a, w, h => by rw [Nat.zero_add]; exact hL _ _ _ h
  | f + 1, listed, a, w, h => by
    rw [show f + 1 + g = (f + g) + 1 by omega]
    exact ⟨fun h0 => absurd h0 h.1, fun i hi => wpOp_mono (fun a' w' h' => wpAny_of_G hL f _ a' w' h'.2) (h.2 i hi).2⟩
theorem wpAnyG_first {n i : Nat} {oi : Oper} {v : Value} {L : Array Bool → Act → World → Prop} (hi : ops[i]? = some oi) (hsel : ∀ (j : Nat) (o : Oper) cs b, ops[j]? = some o → o.op ≠ .select cs b)
    (hQ : ∀ c a w, Q (.panic c) (a.put oi.dst v) w → Q (.panic c) a w)
    (hs : Region.sinkB md ops n = true) (hc : Region.chainB md ops n = true) (hn : n < ops.size) (hin : i < n)
    (hdone : ∀ listed a w, L listed a w → ∀ j ∈ Region.ready md ops listed, n ≤ j) :
    ∀ (f : Nat) (listed : Array Bool) (a : Act) (w : World), HeadInv md ops n listed → C w →
      (∀ j oj, ops[j]? = some oj → j ≠ i → listed.getD j true = false → (∀ e ∈ oj.after, Region.binds md e = true → e.on ≠ i) → oi.apart ops oj = true) →
      i ∈ Region.ready md ops listed → Sure P ops C oi v a →
      wpAnyG P md ops Q C n L f (listed.setIfInBounds i true) (a.put oi.dst v) w → wpAnyG P md ops Q C n L (f + 1) listed a w := by
  intro f
  induction f with
  | zero =>
    intro listed a w inv hC _ hr hy H
    have hun := (mem_ready.1 hr).1
    refine ⟨fun h => (by rw [h] at hr; cases hr), fun j hj => ?_⟩
    have hjn : j < n := by
      rcases Nat.lt_or_ge j n with h | h
      · exact h
      · exact absurd hj (tail_waits hs hc hn inv _ i rfl hin hun j h)
    refine ⟨hjn, ?_⟩
    by_cases hji : j = i
    · subst hji; exact hy.wpOp hi hC ⟨hC, H⟩
    · have := hdone _ _ _ H j (ready_mono hj hji)
      omega
  | succ f ih =>
    intro listed a w inv hC hfree hr hy H
    have hun := (mem_ready.1 hr).1
    refine ⟨fun h => (by rw [h] at hr; cases hr), fun j hj => ?_⟩
    have hjn : j < n := by
      rcases Nat.lt_or_ge j n with h | h
      · exact h
      · exact absurd hj (tail_waits hs hc hn inv _ i rfl hin hun j h)
    refine ⟨hjn, ?_⟩
    by_cases hji : j = i
    · subst hji; exact hy.wpOp hi hC ⟨hC, H⟩
    · have h1 := (H.2 j (ready_mono hj hji)).2
      obtain ⟨hjun, oj, hoj, hall⟩ := mem_ready.1 hj
      have hnot : ∀ e ∈ oj.after, Region.binds md e = true → e.on ≠ i := fun e he hb heq => by
        have h1 := hall e he hb
        rw [heq, getD_both hun] at h1
        cases h1
      have h2 := wpOp_putSure hoj (hfree j oj hoj hji hjun hnot) (fun cs b => hsel i oi cs b hi) (fun cs b => hsel j oj cs b hoj) hQ hy h1
      have hfree' : ∀ k ok, ops[k]? = some ok → k ≠ i → (listed.setIfInBounds j true).getD k true = false →
          (∀ e ∈ ok.after, Region.binds md e = true → e.on ≠ i) → oi.apart ops ok = true := fun k ok hk hki hun hno => by
        refine hfree k ok hk hki ?_ hno
        by_cases hjk : j = k
        · subst hjk; exact hjun
        · rw [getD_set_ne true hjk] at hun; exact hun
      refine wpOp_mono (fun a' w' h3 => ⟨h3.2.1, ih (listed.setIfInBounds j true) a' w' (inv.set hj hjn) h3.2.1 hfree' (ready_mono hr (Ne.symm hji)) h3.1 ?_⟩) h2
      rw [Array.setIfInBounds_comm _ _ hji]
      exact h3.2.2

/-- The walk in an order of one's own: 'true': the operation yields one value in every world of the class; 'false': it is carried out in the world at hand. -/
def wpG (P : Program) (ops : Array Oper) (Q : Exit → Act → World → Prop) (C : World → Prop) (L : Act → World → Prop) : List (Nat × Bool) → Act → World → Prop
  | [], a, w => L a w
  | (i, true) :: rest, a, w => ∃ o v, ops[i]? = some o ∧ Sure P ops C o v a ∧ wpG P ops Q C L rest (a.put o.dst v) w
  | (i, false) :: rest, a, w => wpOp P ops Q i (fun a' w' => C w' ∧ wpG P ops Q C L rest a' w') a w
def ordB (md : Region.Mode) (ops : Array Oper) (n : Nat) : List (Nat × Bool) → Array Bool → Bool
  | [], listed => Region.seqB md ops (ops.size - n) n listed
  | (i, true) :: rest, listed => decide (i < n) && (Region.ready md ops listed).contains i && Region.free md ops listed i && ordB md ops n rest (listed.setIfInBounds i true)
  | (i, false) :: rest, listed => decide (i < n) && decide (Region.ready md ops listed = [i]) && ordB md ops n rest (listed.setIfInBounds i true)
theorem wpAnyG_ord {n : Nat} {Lq : Act → World → Prop} (hsel : Region.noSelect ops = true) (hQ : ∀ c a d v w, Q (.panic c) (Act.put a d v) w → Q (.panic c) a w)
    (hs : Region.sinkB md ops n = true) (hc : Region.chainB md ops n = true) (hn : n < ops.size) :
    ∀ (l : List (Nat × Bool)) (listed : Array Bool) (a : Act) (w : World), C w → HeadInv md ops n listed → ordB md ops n l listed = true → wpG P ops Q C Lq l a w →
    wpAnyG P md ops Q C n (fun listed' a' w' => Region.seqB md ops (ops.size - n) n listed' = true ∧ Lq a' w') l.length listed a w
  | [], listed, a, w, _, inv, hB, h => ⟨by simpa [ordB] using hB, h⟩
  | (i, true) :: l, listed, a, w, hC, inv, hB, h => by
    obtain ⟨o, v, h0, hy, hK⟩ := h
    simp only [ordB, Bool.and_eq_true, decide_eq_true_eq] at hB
    obtain ⟨⟨⟨hin, hr⟩, hf⟩, hB'⟩ := hB
    have hr' : i ∈ Region.ready md ops listed := by simpa using hr
    exact wpAnyG_first h0 (Region.noSelect_spec hsel) (fun c a w => hQ c a _ _ w) hs hc hn hin (fun listed' a' w' hL => seqB_ready hL.1) l.length listed a w inv hC (Region.free_spec h0 hf) hr' hy
      (wpAnyG_ord hsel hQ hs hc hn l _ _ w hC (inv.set hr' hin) hB' hK)
  | (i, false) :: l, listed, a, w, hC, inv, hB, h => by
    simp only [ordB, Bool.and_eq_true, decide_eq_true_eq] at hB
    obtain ⟨⟨hin, hr⟩, hB'⟩ := hB
    have hr' : i ∈ Region.ready md ops listed := by rw [hr]; simp
    refine ⟨fun h0 => (by rw [h0] at hr; cases hr), fun j hj => ?_⟩
    rw [hr] at hj
    obtain rfl : j = i := by simpa using hj
    exact ⟨hin, wpOp_mono (fun a' w' h' => ⟨h'.1, wpAnyG_ord hsel hQ hs hc hn l _ a' w' h'.1 (inv.set hr' hin) hB' h'.2⟩) h⟩
def ordTailB (md : Region.Mode) (ops : Array Oper) (n : Nat) (ord : List (Nat × Bool)) : Bool :=
  Region.noSelect ops && decide (n < ops.size) && Region.sinkB md ops n && Region.chainB md ops n && decide (ord.length = n) && ordB md ops n ord (Array.replicate ops.size false)
/-- The law. -/
theorem wp_region_ord {id : Nat} {a : Act} {w : World} {l : List Oper} (n : Nat) (ord : List (Nat × Bool)) (C : World → Prop) (hm : P.follows .mixedOrders = true) (hB : ordTailB .any l.toArray n ord = true)
    (hQ : ∀ c a d v w, Q (.panic c) (Act.put a d v) w → Q (.panic c) a w) (hC : C w.drew)
    (h : wpG P l.toArray Q C (fun a' w' => wpList P l.toArray Q (l.drop n) a' w') ord a w.drew) : (Code.region id l.toArray true).wp P Q a w := by
  simp only [ordTailB, Bool.and_eq_true, decide_eq_true_eq] at hB
  obtain ⟨⟨⟨⟨⟨hsel, hn⟩, hs⟩, hc⟩, hlen⟩, hlex⟩ := hB
  have hn' : n < l.length := by simpa using hn
  have hdl : (l.drop n).length = l.toArray.size - n := by simp
  have inv0 : HeadInv .any l.toArray n (Array.replicate l.toArray.size false) :=
    ⟨by simp, fun j oj _ hl => (by rw [getD_replicate_false] at hl; cases hl), fun t _ ht => getD_in (by simpa using ht) (getD_replicate_false _ _)⟩
  have H := wpAnyG_ord (md := .any) hsel hQ hs hc hn ord _ a w.drew hC inv0 hlex h
  refine wp_region_any hm ?_
  have := wpAny_of_G (g := l.toArray.size - n) (fun listed a' w' hL => by
    have := wpAny_of_seq (md := .any) (Q' := Q) (l.drop n) n listed a' w' (fun j => by simp [List.getElem?_drop]) (by rw [hdl]; exact hL.1) hL.2
    rwa [hdl] at this) _ _ _ _ H
  rw [hlen, show n + (l.toArray.size - n) = l.toArray.size by omega] at this
  exact this

variable {L : Act → World → Prop} {rest : List (Nat × Bool)} {a : Act} {w : World} {i : Nat} {o : Oper}
theorem wpG_nil (h : L a w) : wpG P ops Q C L [] a w := h
/-- One operation that yields the same value in every world of the class. -/
theorem wpG_sure (ho : ops[i]? = some o) (hg : o.guard = none) (v : Value) (hv : ∀ w', C w' → (execOp a.eval o).run P w' = .ok (.value v) w') (h : wpG P ops Q C L rest (a.put o.dst v) w) :
    wpG P ops Q C L ((i, true) :: rest) a w :=
  ⟨o, v, ho, .inl ⟨by simp [Region.wanted, hg], hv⟩, h⟩
/-- A load of a cell that is the same in every world of the class. -/
theorem wpG_load (ho : ops[i]? = some o) (hg : o.guard = none) (t : TypeId) (x : Operand) (hop : o.op = .load t x) (ad : Addr) (hx : a.eval x = .pointer (some ad)) (v : Value)
    (hv : ∀ w', C w' → (loadVar t ad).run P w' = .ok v w') (h : wpG P ops Q C L rest (a.put o.dst v) w) : wpG P ops Q C L ((i, true) :: rest) a w :=
  wpG_sure ho hg v (fun w' hw' => by simp only [execOp, hop, hx, Instr.loadAt, Instr.sureAddr, Sem.run_bind, Sem.run_pure, Result.andThen_ok, hv w' hw']) h
/-- One operation that is carried out in the world at hand. -/
theorem wpG_do (ho : ops[i]? = some o) (h : ∀ K' : Act → World → Prop, (∀ a' w', C w' ∧ wpG P ops Q C L rest a' w' → K' a' w') → if Region.wanted o (yielded ops a.tmps) = true then Oper.wp P o a w K' Q else K' (a.put o.dst undef) w) :
    wpG P ops Q C L ((i, false) :: rest) a w := wpOp_step ho (fun K' hK => h K' hK)
end
end Go.Proofs.YtojdgdeefhndiaaDoor
