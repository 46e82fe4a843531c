/- The walk of one function's own activations, where its body holds a range over a function whose rounds may panic. No condition. -/
import Derived.Test.YtojdgdeefhndiaaGreatDoorSRange
import Derived.Test.YtojdgdeefhndiaaGreatDoorLib
namespace Go.Proofs.YtojdgdeefhndiaaGreatDoor
open Go Go.RowKit
variable {P : Program} {Q : Exit → Act → World → Prop} {a : Act} {w : World} {n : Nat} {f : Nat}

/-- What a piece of code does in every activation of function f outside of rounds. -/
def wpAt (f : Nat) (P : Program) (c : Code) (Q : Exit → Act → World → Prop) (a : Act) (w : World) : Prop :=
  ∀ (b : Frame) (k : List Item) (cs : List Frame), b.roundOf = none → b.fn = f →
    ∃ e a' w', Q e a' w' ∧ ArrivesIn (Machine.fenced P Fence.wide) P (lone (b.atR a (.code c :: k)) cs w) b k cs e a' w'
theorem wpAt_of {c : Code} (h : c.wpIn Fence.wide n P Q a w) : wpAt f P c Q a w := fun b k cs hro _ => h b k cs hro trivial (room_wide _)
theorem wide_calm (fr : Frame) (cs : List Frame) (w : World) : (lone fr cs w).fenced P Fence.wide := fenced_wide P _
theorem wpAt_seq {x y : Code} (h : wpAt f P x (Exit.then (wpAt f P y Q) Q) a w) : wpAt f P (.seq x y) Q a w := by
  intro b k cs hro hb
  obtain ⟨e, a1, w1, hq, harr⟩ := h b (.code y :: k) cs hro hb
  have s0 : StepsIn (Machine.fenced P Fence.wide) P (lone (b.atR a (.code (.seq x y) :: k)) cs w) (lone (b.atR a (.code x :: .code y :: k)) cs w) := .one (wide_calm _ _ _) stepR_seq
  cases e with
  | normal =>
    obtain ⟨e2, a2, w2, hq2, harr2⟩ := hq b k cs hro hb
    exact ⟨e2, a2, w2, hq2, .of_steps (StepsIn.trans s0 harr) harr2⟩
  | exit id => exact ⟨_, a1, w1, hq, .of_steps s0 (.pass (x := .code y) rfl (fun _ _ => .inl (by simp)) harr)⟩
  | goto l => exact ⟨_, a1, w1, hq, .of_steps s0 (.pass (x := .code y) rfl (fun _ _ => .inl (by simp)) harr)⟩
  | ret => exact ⟨_, a1, w1, hq, .of_steps s0 (.pass (x := .code y) rfl (fun _ _ => .inl (by simp)) harr)⟩
  | panic ch => exact ⟨_, a1, w1, hq, .of_steps s0 (.pass (x := .code y) rfl (fun _ _ => .inl (by simp)) harr)⟩
  | outgrown => exact ⟨_, a1, w1, hq, .of_steps s0 (.pass (x := .code y) rfl (fun _ _ => .inl (by simp)) harr)⟩
theorem wpAt_block {id : Nat} {c : Code} (h : wpAt f P c (Exit.inBlock id Q) a w) : wpAt f P (.block id c) Q a w := by
  intro b k cs hro hb
  obtain ⟨e, a1, w1, hq, harr⟩ := h b (.inBlock id :: k) cs hro hb
  have s0 : StepsIn (Machine.fenced P Fence.wide) P (lone (b.atR a (.code (.block id c) :: k)) cs w) (lone (b.atR a (.code c :: .inBlock id :: k)) cs w) := .one (wide_calm _ _ _) stepR_block
  cases e with
  | normal => exact ⟨.normal, a1, w1, hq, StepsIn.trans s0 (StepsIn.trans harr (.one (wide_calm _ _ _) stepR_inBlock))⟩
  | exit id' =>
    by_cases hid : id' = id
    · simp only [Exit.inBlock, hid, if_true] at hq
      exact ⟨.normal, a1, w1, hq, StepsIn.trans s0 (harr.1 k (by simp [exitTo, hid]))⟩
    · simp only [Exit.inBlock, hid, if_false] at hq
      have this : (id == id') = false := by simp; exact fun h => hid h.symm
      have hx : exitTo id' (.inBlock id :: k) = exitTo id' k := by simp [exitTo, this]
      exact ⟨.exit id', a1, w1, hq, fun k' hk => StepsIn.trans s0 (harr.1 k' (by rw [hx]; exact hk)),
        fun hr' hk => let ⟨k1, h1, h2⟩ := harr.2 hr' (by rw [hx]; exact hk); ⟨k1, h1, StepsIn.trans s0 h2⟩⟩
  | goto l =>
    have hx : gotoIn l (.inBlock id :: k) = gotoIn l k := by simp [gotoIn]
    exact ⟨_, a1, w1, hq, fun k' hk => StepsIn.trans s0 (harr.1 k' (by rw [hx]; exact hk)),
      fun hr' hk => let ⟨k1, h1, h2⟩ := harr.2 hr' (by rw [hx]; exact hk); ⟨k1, h1, StepsIn.trans s0 h2⟩⟩
  | ret => exact ⟨_, a1, w1, hq, .of_steps s0 harr⟩
  | panic ch => exact ⟨_, a1, w1, hq, .of_steps s0 harr⟩
  | outgrown => exact ⟨_, a1, w1, hq, .of_steps s0 harr⟩
theorem wpAt_range {g : Operand} {ps : Array Tmp} {assign body : Code}
    (h : ∃ (l : Nat) (mark : List Deferred) (w₁ : World) (d : Deferred) (w₁' : World) (gf : FuncId) (args : Array Value) (w₂ : World),
      (Instr.enterLoop f a.tmps ps assign body none).run P w = .ok (l, mark) w₁ ∧
      (resolve a.eval (rangeCall g l) 0).run P w₁ = .ok d w₁' ∧
      (∀ f', Target.leads P w₁' d.target d.args = some f' → Fence.wide.fn f') ∧
      (invoke d.target d.args).run P w₁' = .ok (.enter gf args) w₂ ∧
      (Fence.wide.depth.isSome = true → 1 ≤ n) ∧
      CallsIn Fence.wide (n - 1) P gf args w₂ (rangePost Fence.wide n P l Q { a with defers := mark ++ a.defers })) :
    wpAt f P (.rangeFunc g ps assign body) Q a w := by
  intro b k cs hro hb
  obtain ⟨l, mark, w₁, d, w₁', gf, args, w₂, he, hres, _, hinv, _, _, hcall⟩ := h
  subst hb
  rw [← hro] at he
  have henter := stepR_rangeFunc (P := P) (b := b) (a := a) (k := k) (cs := cs) (w := w) he hres hinv
  obtain ⟨e, w₃, fr, hR, hsteps, _, hleave⟩ := hcall (b.atR { a with defers := mark ++ a.defers } (.inRangeFunc l :: k) :: cs) (room_wide _)
  have s0 := StepsIn.one (I := Machine.fenced P Fence.wide) (wide_calm _ _ _) henter
  cases e with
  | outgrown =>
    obtain ⟨a₀, w₀, hq⟩ := hR
    exact ⟨.outgrown, a₀, w₀, hq, .inr (Outgrown.of_steps (.one henter) hsteps)⟩
  | returned v =>
    obtain ⟨jump, w₄, hend, hj⟩ := hR
    have s1 : StepsIn (Machine.fenced P Fence.wide) P (lone (b.atR a (.code (.rangeFunc g ps assign body) :: k)) cs w) (lone (b.atR { a with defers := mark ++ a.defers } ((jump.map Item.code).toList ++ k)) cs w₄) := by
      refine StepsIn.trans s0 (StepsIn.trans hsteps (.head (wide_calm _ _ _) ?_ (.one (wide_calm _ _ _) (stepR_endRangeFunc hend))))
      rw [← finish_atR_inRangeFunc l v]; exact step_leave_returned hleave
    cases jump with
    | none => exact ⟨.normal, _, w₄, hj, s1⟩
    | some c =>
      obtain ⟨e', a'', w₅, hq, harr⟩ := hj b k cs hro trivial (room_wide _)
      exact ⟨e', a'', w₅, hq, .of_steps s1 harr⟩
  | panicked chain =>
    refine ⟨.panic chain, _, w₃, hR, .inRangeFunc l :: k, StepsIn.trans s0 (StepsIn.trans hsteps (.one (wide_calm _ _ _) ?_))⟩
    rw [← Frame.raise_atR]; exact step_leave_panicked hleave
/-- A function's contract out of the walk of its own activations. -/
theorem calls_of_wpAt {fn : Func} {c : Code} {args : Array Value} {R : Ending → World → Prop} (hf : P.funcs[f]? = some fn) (hb : fn.body = some c)
    (h : wpAt f P c (bodyPostM Fence.wide n P fn R) { tmps := args ++ Array.replicate (fn.ntmps - args.size) undef, defers := [] } w) : Calls P f args w R := by
  refine (callsIn_wide (n := n)).1 ⟨trivial, fun cs hr => ?_⟩
  let b : Frame := { (default : Frame) with fn := f, kind := .normal, roundOf := none }
  have henter : Frame.enter P f args .normal = b.atR { tmps := args ++ Array.replicate (fn.ntmps - args.size) undef, defers := [] } [.code c] := by
    simp [Frame.enter, Frame.atR, hf, hb, b]
  obtain ⟨e, a', w', hq, harr⟩ := h b [] cs rfl rfl
  rw [← henter] at harr
  cases e with
  | normal =>
    obtain ⟨e', w'', fr', hR, hs, hfn, hl⟩ := leaves_stepsInM a'.defers .returning w' { b.atR a' [] with mode := .returning } cs rfl rfl rfl hf rfl trivial hr hq
    exact ⟨e', w'', fr', hR, ComesIn.of_steps (StepsIn.trans harr (.one (wide_calm _ _ _) (stepR_end rfl))) hs, hfn, hl⟩
  | ret =>
    obtain ⟨todo, hs₀⟩ := harr.1 rfl
    obtain ⟨e', w'', fr', hR, hs, hfn, hl⟩ := leaves_stepsInM a'.defers .returning w' { b.atR a' todo with mode := .returning } cs rfl rfl rfl hf rfl trivial hr hq
    exact ⟨e', w'', fr', hR, ComesIn.of_steps hs₀ hs, hfn, hl⟩
  | panic chain =>
    obtain ⟨todo, hs₀⟩ := harr
    obtain ⟨e', w'', fr', hR, hs, hfn, hl⟩ := leaves_stepsInM a'.defers (.panicking chain) w' { b.atR a' todo with mode := .panicking chain } cs rfl rfl rfl hf rfl trivial hr hq
    exact ⟨e', w'', fr', hR, ComesIn.of_steps hs₀ hs, hfn, hl⟩
  | exit id => exact hq.elim
  | goto l => exact hq.elim
  | outgrown => exact ⟨.outgrown, w', b, hq, harr.resolve_left (by simp [b]), rfl, trivial⟩
theorem upd_putObj0 (W : World) (D : Nat) (o : Obj) : Upd (fun k => k = D) W (W.putObj D o) := ⟨rfl, rfl, rfl, by simp, fun _ _ h => World.putObj_heap_other h⟩
/-- The end of a function behind a range: a panic is told apart from the frame. -/
def doneQ (D : Nat) (P : Program) (fn : Func) (R : Ending → World → Prop) : Exit → Act → World → Prop
  | .panic chain, a, W => a.defers = [{ target := .collected D, args := #[] }] ∧ W.heap[D]? = some (.deferred (some [])) ∧ R (.panicked chain) (W.putObj D (.deferred none))
  | e, a, W => bodyPostM Fence.wide 5 P fn R e a W
theorem doneQ_ret {D : Nat} {P : Program} {fn : Func} {R : Ending → World → Prop} {a : Act} {W : World} (h : bodyPostM Fence.wide 5 P fn R .ret a W) : doneQ D P fn R .ret a W := h
theorem doneQ_post {D : Nat} {P : Program} {fn : Func} {R : Ending → World → Prop} {e : Exit} {a : Act} {W : World} (h : doneQ D P fn R e a W) : bodyPostM Fence.wide 5 P fn R e a W := by
  cases e with
  | panic chain =>
    obtain ⟨h1, h2, h3⟩ := h
    unfold bodyPostM
    simp only [h1]
    exact ⟨by simp, .inl ⟨_, _, rfl, run_takeDeferred h2, h3⟩⟩
  | _ => exact h
/-- What the book-keeping of a range leaves alone. -/
theorem grown_upd {F : Nat → Prop} {w0 X Y : World} {B : Nat} {row : Option Nat} (h : Upd F w0 X) (hB : w0.heap.size ≤ B) (hg : X.grownBy Y row) (hr : ∀ r, row = some r → B ≤ r ∧ ∃ o : Obj, X.heap[r]? = some o ∧ o.isCells = false) : Upd F w0 Y :=
  h.grown hg (fun k hk hl => by have := (hr k hk).1; omega)
theorem grown_cells {X Y : World} {B k : Nat} {row : Option Nat} {cs : Array Value} {T : TypeId} {fr : Nat × Nat} (h : X.heap[k]? = some (.cells cs T fr)) (hg : X.grownBy Y row) (hr : ∀ r, row = some r → B ≤ r ∧ ∃ o : Obj, X.heap[r]? = some o ∧ o.isCells = false) : Y.heap[k]? = some (.cells cs T fr) :=
  (hg.block k (lt_of_heap h) (fun e => by
    obtain ⟨_, o, ho, hc⟩ := hr k e.symm
    rw [h] at ho; cases ho; cases hc)).trans h
theorem grown_other {X Y : World} {B : Nat} {row : Option Nat} (hg : X.grownBy Y row) (hr : ∀ r, row = some r → B ≤ r ∧ ∃ o : Obj, X.heap[r]? = some o ∧ o.isCells = false) : ∀ {g : Nat} {cs : Array Value} {T : TypeId} {fr : Nat × Nat}, X.heap[g]? = some (.cells cs T fr) → Y.heap[g]? = some (.cells cs T fr) :=
  fun h => grown_cells h hg hr
end Go.Proofs.YtojdgdeefhndiaaGreatDoor
