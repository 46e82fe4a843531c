/- Maps in the call's own memory as functions: looked up, stored into, ranged over, whatever the keys and the elements are. No condition. Maps as functions: one element turned in place ('m[k]++'), and kits for whatever is laid by an injective code. No condition. Rows of things of several cells, whatever the things are: read at any address, and made by append in the call's own memory. No condition. Strings as lists of numbers below 256. No condition. Walks of the coder's model: weight, split, begin, carry. -/
import Derived.Test.YtcikldoaidmnhaaGreatDoorM1
import Derived.Test.YtcikldoaidmnhaaGreatDoorM3
import Derived.Maps.OwnOps
import Derived.Maps.OwnSet
import Derived.Maps.RangeWalk
import Derived.WideKeyEntry
import Derived.Deep.MidRow
import Derived.Test.YtcikldoaidmnhaaGreatDoorRows
import Derived.BigQuiet
import Derived.Deep.QuietTactic
namespace Go.Proofs.YtcikldoaidmnhaaGreatDoor
open Go Go.RowKit
/-- What is known of a map's type: how keys and elements are laid and read. -/
structure MapKit (P : Program) (α β : Type) where
  t : TypeId
  k : TypeId
  e : TypeId
  encK : α → Value
  klK : α → Lit
  goodK : α → Prop
  encV : β → Value
  dV : β → DataW Unit
  goodV : β → Prop
  zero : β
  R : Value → Option (DataW Unit × List MemPlace)
  keyed : Maps.Keyed P k
  ht : P.underlying t = some (.map k e)
  hkey : ∀ a, goodK a → keyOf P k (encK a) = some (klK a)
  inj : ∀ a b, goodK a → goodK b → klK a = klK b → a = b
  hval : ∀ b, goodV b → R (encV b) = some (dV b, [])
  hinv : ∀ v y, R v = some y → ∃ b, goodV b ∧ v = encV b ∧ y = (dV b, [])
  dinj : ∀ b b', goodV b → goodV b' → dV b = dV b' → b = b'
  hz : ∀ w, (zeroValue e).run P w = .ok (encV zero) w
  gz : goodV zero
variable {P : Program} {α β : Type}
/-- A map at a block that is a function. -/
def MapKit.At (K : MapKit P α β) (w : World) (b n : Nat) (f : α → Option β) : Prop :=
  ∃ D : DataW Unit, w.ownsMap P K.k K.R b n D ∧ (∀ a, K.goodK a → D.atKey (K.klK a) (K.dV K.zero) = K.dV ((f a).getD K.zero)) ∧ (∀ a, K.goodK a → Maps.has D (K.klK a) = (f a).isSome) ∧ (∀ kl, Maps.has D kl = true → ∃ a, K.goodK a ∧ kl = K.klK a) ∧ (∀ a v, f a = some v → K.goodV v)
theorem MapKit.At.made (K : MapKit P α β) (w : World) : K.At (w.alloc (.map #[] 0)) w.heap.size 0 (fun _ => none) := ⟨_, World.ownsMap_made _ _ _ _, fun _ _ => rfl, fun _ _ => rfl, (fun _ h => by cases h), (fun _ _ h => by cases h)⟩
theorem MapKit.At.blk {K : MapKit P α β} {w : World} {b n : Nat} {f : α → Option β} (h : K.At w b n f) : ∃ es clock, w.heap[b]? = some (.map es clock) := by
  obtain ⟨D, ⟨es, clock, h1, _⟩, _⟩ := h
  exact ⟨es, clock, h1⟩
theorem MapKit.At.heap {K : MapKit P α β} {w w' : World} {b n : Nat} {f : α → Option β} (h : K.At w b n f) (hb : ∀ o, w.heap[b]? = some o → w'.heap[b]? = some o) : K.At w' b n f := by
  obtain ⟨D, ⟨es, clock, h1, h2, h3, h4⟩, h5⟩ := h
  exact ⟨D, ⟨es, clock, hb _ h1, h2, h3, h4⟩, h5⟩
theorem MapKit.At.keep {K : MapKit P α β} {w w' : World} {b n : Nat} {f : α → Option β} (h : K.At w b n f) (hu : Upd noBlk w w') : K.At w' b n f := h.heap (fun _ ho => hu.heap ho id)
theorem MapKit.At.other {K : MapKit P α β} {F : Nat → Prop} {w w' : World} {b n : Nat} {f : α → Option β} (h : K.At w b n f) (hu : Upd F w w') (hF : ¬ F b) : K.At w' b n f := h.heap (fun _ ho => hu.heap ho hF)
theorem MapKit.At.mono {K : MapKit P α β} {w : World} {b n m : Nat} {f : α → Option β} (h : K.At w b n f) (hm : n ≤ m) : K.At w b m f := by
  obtain ⟨D, h1, h2⟩ := h
  exact ⟨D, h1.mono hm, h2⟩
/-- 'm[k]'. -/
theorem MapKit.At.look {K : MapKit P α β} {w : World} {ops : Array Oper} {rest : List Oper} {o : Oper} {ac : Act} {Q : Exit → Act → World → Prop} {b n : Nat} {f : α → Option β} (h : K.At w b n f) (hg : o.guard = none) (m x : Operand) (hop : o.op = Op.lookup K.t m x false) (hm : ac.eval m = .map (some b)) {a : α} (hx : ac.eval x = K.encK a) (ha : K.goodK a)
    (hK : wpList P ops Q rest (ac.put o.dst (K.encV ((f a).getD K.zero))) w) : wpList P ops Q (o :: rest) ac w := by
  obtain ⟨D, h1, h2, h3, h4, h5⟩ := h
  obtain ⟨v, ps, hrun, hv⟩ := h1.lookup K.keyed K.ht (K.hz w) (K.hval _ K.gz) (K.hkey a ha)
  obtain ⟨c, gc, rfl, hc⟩ := K.hinv v _ hv
  rw [h2 a ha] at hc
  have hgd : K.goodV ((f a).getD K.zero) := by
    cases hf : f a with
    | none => exact K.gz
    | some u => exact h5 a u hf
  have := K.dinj _ _ hgd gc (by simpa using (Prod.mk.inj hc).1)
  subst this
  refine wpList_plain hg fun K' hK' => ?_
  unfold Oper.wp
  simp [execOp, hop, hm, hx, hrun, Result.andThen]
  exact hK' _ _ hK
/-- 'v, ok := m[k]'. -/
theorem MapKit.At.lookOk {K : MapKit P α β} {w : World} {ops : Array Oper} {rest : List Oper} {o : Oper} {ac : Act} {Q : Exit → Act → World → Prop} {b n : Nat} {f : α → Option β} (h : K.At w b n f) (hg : o.guard = none) (m x : Operand) (hop : o.op = Op.lookup K.t m x true) (hm : ac.eval m = .map (some b)) {a : α} (hx : ac.eval x = K.encK a) (ha : K.goodK a)
    (hK : wpList P ops Q rest (ac.put o.dst (.tuple #[K.encV ((f a).getD K.zero), .bool (f a).isSome])) w) : wpList P ops Q (o :: rest) ac w := by
  obtain ⟨D, h1, h2, h3, h4, h5⟩ := h
  obtain ⟨v, ps, hrun, hv⟩ := h1.look_ok K.keyed K.ht (K.hz w) (K.hval _ K.gz) (K.hkey a ha)
  obtain ⟨c, gc, rfl, hc⟩ := K.hinv v _ hv
  rw [h2 a ha] at hc
  rw [h3 a ha] at hrun
  have hgd : K.goodV ((f a).getD K.zero) := by
    cases hf : f a with
    | none => exact K.gz
    | some u => exact h5 a u hf
  have := K.dinj _ _ hgd gc (by simpa using (Prod.mk.inj hc).1)
  subst this
  refine wpList_plain hg fun K' hK' => ?_
  unfold Oper.wp
  simp [execOp, hop, hm, hx, hrun, Result.andThen]
  exact hK' _ _ hK
/-- What is stored, in the datum. -/
theorem MapKit.At.putD [DecidableEq α] {K : MapKit P α β} {w w' : World} {b n : Nat} {f : α → Option β} {D : DataW Unit} (h1 : w.ownsMap P K.k K.R b n D) (h2 : ∀ a, K.goodK a → D.atKey (K.klK a) (K.dV K.zero) = K.dV ((f a).getD K.zero)) (h3 : ∀ a, K.goodK a → Maps.has D (K.klK a) = (f a).isSome) (h4 : ∀ kl, Maps.has D kl = true → ∃ a, K.goodK a ∧ kl = K.klK a) (h5 : ∀ a v, f a = some v → K.goodV v)
    {a : α} (ha : K.goodK a) {v : β} (hv : K.goodV v) (k1 : w'.ownsMap P K.k K.R b (n + 1) (D.put (K.klK a) (K.dV v))) : K.At w' b (n + 1) (fun c => if c = a then some v else f c) := by
  have ht := h1.tidy K.keyed
  have hkl : WideAt.IsKeyLit (K.klK a) := K.keyed.key (K.hkey a ha)
  refine ⟨_, k1, fun c hc => ?_, fun c hc => ?_, fun kl hk => ?_, fun c u hu => ?_⟩
  · by_cases e : c = a
    · subst e
      rw [Maps.atKey_put_same ht.isMap hkl]; simp only [if_pos, Option.getD_some]
    · rw [Maps.atKey_put_other (fun h => e (K.inj c a hc ha h)), h2 c hc]; simp only [if_neg e]
  · by_cases e : c = a
    · subst e
      rw [Maps.has_put_same ht.isMap hkl]; simp only [if_pos, Option.isSome_some]
    · rw [Maps.has_put_other (fun h => e (K.inj c a hc ha h)), h3 c hc]; simp only [if_neg e]
  · by_cases e : kl = K.klK a
    · exact ⟨a, ha, e⟩
    · rw [Maps.has_put_other e] at hk
      exact h4 kl hk
  · by_cases e : c = a
    · simp only [if_pos e] at hu; cases hu; exact hv
    · simp only [if_neg e] at hu; exact h5 c u hu
/-- 'm[k] = v', run. -/
theorem MapKit.At.put [DecidableEq α] {K : MapKit P α β} {w : World} {b n : Nat} {f : α → Option β} (h : K.At w b n f) (hn : n < maxLen) {a : α} (ha : K.goodK a) {v : β} (hv : K.goodV v) :
    ∃ w', (Instr.mapUpdate K.t (.map (some b)) (K.encK a) (K.encV v)).run P w = .ok () w' ∧ K.At w' b (n + 1) (fun c => if c = a then some v else f c) ∧ Upd (fun j => j = b) w w' := by
  obtain ⟨D, h1, h2, h3, h4, h5⟩ := h
  obtain ⟨w', hrun, k1, k2⟩ := h1.update K.keyed K.ht hn (K.hkey a ha) (K.hval v hv)
  exact ⟨w', hrun, MapKit.At.putD h1 h2 h3 h4 h5 ha hv k1, upd_of_grown k2 (fun j hj _ => (Option.some.inj hj).symm)⟩
/-- 'm[k] = v'. -/
theorem MapKit.At.store [DecidableEq α] {K : MapKit P α β} {w : World} {ops : Array Oper} {rest : List Oper} {o : Oper} {ac : Act} {Q : Exit → Act → World → Prop} {b n : Nat} {f : α → Option β} (h : K.At w b n f) (hn : n < maxLen) (hg : o.guard = none) (m x y : Operand) (hop : o.op = Op.mapUpdate K.t m x y) (hm : ac.eval m = .map (some b)) {a : α} (hx : ac.eval x = K.encK a) (ha : K.goodK a) {v : β} (hy : ac.eval y = K.encV v) (hv : K.goodV v)
    (hK : ∀ w', K.At w' b (n + 1) (fun c => if c = a then some v else f c) → Upd (fun j => j = b) w w' → wpList P ops Q rest (ac.put o.dst undef) w') : wpList P ops Q (o :: rest) ac w := by
  obtain ⟨w', hrun, r1, r2⟩ := h.put hn ha hv
  refine wpList_plain hg fun K' hK' => ?_
  unfold Oper.wp
  simp [execOp, hop, hm, hx, hy, hrun, Result.andThen]
  exact hK' _ _ (hK w' r1 r2)
/-- A range over a map under way: which keys are still to come, and how many. -/
def MapKit.Rng (K : MapKit P α β) (w : World) (b r n : Nat) (f : α → Option β) (left : α → Bool) (cnt : Nat) : Prop :=
  ∃ (D : DataW Unit) (ll : Lit → Bool), w.ranges P K.k K.R b r n D ll cnt ∧ (∀ a, K.goodK a → D.atKey (K.klK a) (K.dV K.zero) = K.dV ((f a).getD K.zero)) ∧ (∀ a, K.goodK a → Maps.has D (K.klK a) = (f a).isSome) ∧ (∀ kl, Maps.has D kl = true → ∃ a, K.goodK a ∧ kl = K.klK a) ∧ (∀ a v, f a = some v → K.goodV v) ∧ (∀ a, K.goodK a → ll (K.klK a) = left a) ∧ (∀ kl, ll kl = true → Maps.has D kl = true)
theorem MapKit.Rng.at {K : MapKit P α β} {w : World} {b r n : Nat} {f : α → Option β} {left : α → Bool} {cnt : Nat} (h : K.Rng w b r n f left cnt) : K.At w b n f := by
  obtain ⟨D, ll, h1, h2, h3, h4, h5, _⟩ := h
  exact ⟨D, h1.owns, h2, h3, h4, h5⟩
theorem MapKit.Rng.left_eq {K : MapKit P α β} {w : World} {b r n : Nat} {f : α → Option β} {left : α → Bool} {cnt : Nat} (h : K.Rng w b r n f left cnt) : w.rangeLeft b r = cnt := by
  obtain ⟨D, ll, h1, _⟩ := h
  exact h1.left_eq
theorem MapKit.Rng.kept {K : MapKit P α β} {w w' : World} {b r n : Nat} {f : α → Option β} {left : α → Bool} {cnt : Nat} {row : Option Nat} (h : K.Rng w b r n f left cnt) (hg : w.grownBy w' row) (hb : some b ≠ row) (hr : some r ≠ row) : K.Rng w' b r n f left cnt := by
  obtain ⟨D, ll, h1, h2⟩ := h
  exact ⟨D, ll, h1.kept hg hb hr, h2⟩
/-- 'range m'. -/
theorem MapKit.At.range {K : MapKit P α β} {w : World} {ops : Array Oper} {rest : List Oper} {o : Oper} {ac : Act} {Q : Exit → Act → World → Prop} {b n : Nat} {f : α → Option β} (h : K.At w b n f) (hg : o.guard = none) (m : Operand) (hop : o.op = Op.range K.t m) (hm : ac.eval m = .map (some b))
    (hK : ∀ w' cnt, K.Rng w' b w.heap.size n f (fun a => (f a).isSome) cnt → w.grownBy w' none → w'.heap.size = w.heap.size + 1 → wpList P ops Q rest (ac.put o.dst (.pointer (some ⟨w.heap.size, 0, none⟩))) w') : wpList P ops Q (o :: rest) ac w := by
  obtain ⟨D, h1, h2, h3, h4, h5⟩ := h
  exact wpList_range_own w hg m K.t hop K.k K.e K.keyed K.ht K.R b n D hm h1 (fun w' k1 k2 k3 => hK w' _ ⟨D, _, k1, h2, h3, h4, h5, fun a ha => h3 a ha, fun _ h => h⟩ k2 k3)
/-- The next key. -/
theorem MapKit.Rng.next [DecidableEq α] {K : MapKit P α β} {w : World} {ops : Array Oper} {rest : List Oper} {o : Oper} {ac : Act} {Q : Exit → Act → World → Prop} {b r n : Nat} {f : α → Option β} {left : α → Bool} {cnt : Nat} (h : K.Rng w b r n f left cnt) (hg : o.guard = none) (it : Operand) (hop : o.op = Op.next it false) (hit : ac.eval it = .pointer (some ⟨r, 0, none⟩))
    (hDone : cnt = 0 → (∀ a, K.goodK a → left a = false) → wpList P ops Q rest (ac.put o.dst (.tuple #[.bool false])) w)
    (hMore : ∀ (a : α) (v : β) (w' : World) (cnt' : Nat), K.goodK a → left a = true → f a = some v → K.Rng w' b r n f (fun c => left c && !decide (c = a)) cnt' → cnt' < cnt → w.grownBy w' (some r) → w'.heap.size = w.heap.size →
      (Instr.entry (.pointer (some ⟨r, 0, none⟩))).run P w' = .ok (.tuple #[K.encK a, K.encV v]) w' → wpList P ops Q rest (ac.put o.dst (.tuple #[.bool true, K.encK a, K.encV v])) w') :
    wpList P ops Q (o :: rest) ac w := by
  obtain ⟨D, ll, h1, h2, h3, h4, h5, h6, h7⟩ := h
  refine wpList_next_ranges (α := Value) (β := Value) w hg it hop K.k K.keyed K.R id id (fun key _ _ => ⟨key, rfl⟩) (fun v _ _ => ⟨v, rfl⟩) b r n D ll cnt hit h1 (fun c0 hl => hDone c0 (fun a ha => by rw [← h6 a ha]; exact hl _)) ?_
  intro x c kl y w' cnt' hkey hll hR hat hrg hlt hgr hsz hen
  simp only [id] at hkey hR hen ⊢
  obtain ⟨a, ha, rfl⟩ := h4 kl (h7 kl hll)
  have hxa : x = K.encK a := K.keyed.inj hkey (K.hkey a ha)
  subst hxa
  have hsome := h3 a ha
  rw [h7 _ hll] at hsome
  obtain ⟨v, hv⟩ := Option.isSome_iff_exists.1 hsome.symm
  obtain ⟨v', gv', rfl, hy⟩ := K.hinv c y hR
  have h8 := h2 a ha
  rw [hat, hv, hy] at h8
  have := K.dinj _ _ gv' (h5 a v hv) (by simpa using h8)
  subst this
  refine hMore a v' w' cnt' ha (by rw [← h6 a ha]; exact hll) hv ⟨D, _, hrg, h2, h3, h4, h5, fun d hd => ?_, fun kl hk => ?_⟩ hlt hgr hsz hen
  · show (ll (K.klK d) && !(K.klK d).sameKey (K.klK a)) = _
    rw [h6 d hd]
    congr 1
    by_cases e : d = a
    · subst e
      rw [WideAt.sameKey_self (K.keyed.key (K.hkey d hd))]; simp
    · have : (K.klK d).sameKey (K.klK a) = false := Maps.sameKey_ne (fun h => e (K.inj d a hd ha h))
      rw [this]; simp [e]
  · simp only [Bool.and_eq_true] at hk
    exact h7 kl hk.1
/-- The same, its two goals hidden from the walk's own steps. -/
theorem MapKit.Rng.nextH [DecidableEq α] {K : MapKit P α β} {w : World} {ops : Array Oper} {rest : List Oper} {o : Oper} {ac : Act} {Q : Exit → Act → World → Prop} {b r n : Nat} {f : α → Option β} {left : α → Bool} {cnt : Nat} (h : K.Rng w b r n f left cnt) (hg : o.guard = none) (it : Operand) (hop : o.op = Op.next it false) (hit : ac.eval it = .pointer (some ⟨r, 0, none⟩))
    (hDone : Hid (cnt = 0 → (∀ a, K.goodK a → left a = false) → wpList P ops Q rest (ac.put o.dst (.tuple #[.bool false])) w))
    (hMore : Hid (∀ (a : α) (v : β) (w' : World) (cnt' : Nat), K.goodK a → left a = true → f a = some v → K.Rng w' b r n f (fun c => left c && !decide (c = a)) cnt' → cnt' < cnt → w.grownBy w' (some r) → w'.heap.size = w.heap.size →
      (Instr.entry (.pointer (some ⟨r, 0, none⟩))).run P w' = .ok (.tuple #[K.encK a, K.encV v]) w' → wpList P ops Q rest (ac.put o.dst (.tuple #[.bool true, K.encK a, K.encV v])) w')) :
    wpList P ops Q (o :: rest) ac w := h.next hg it hop hit hDone hMore
end Go.Proofs.YtcikldoaidmnhaaGreatDoor
namespace Go.Proofs.YtcikldoaidmnhaaGreatDoor
open Go Go.RowKit
variable {P : Program} {α β : Type}
/-- 'm[k] op= v' in its two steps. -/
theorem MapKit.At.entry [DecidableEq α] {K : MapKit P α β} (L : Go.WideMaps.KeyLaw P K.k) {w : World} {b n : Nat} {f : α → Option β} (h : K.At w b n f) (hn : n < maxLen) {a : α} (ha : K.goodK a) {v : β} (hv : K.goodV v) :
    ∃ (v0 : Value) (st : Nat) (w1 w2 : World), (Instr.mapEntry K.t (.map (some b)) (K.encK a)).run P w = .ok (.tuple #[v0, goInt st]) w1 ∧ (Instr.entryStore K.t (.map (some b)) (goInt st) (K.encV v)).run P w1 = .ok () w2 ∧
      K.At w2 b (n + 1) (fun c => if c = a then some v else f c) ∧ Upd (fun j => j = b) w w2 := by
  obtain ⟨w', hrun, r1, r2⟩ := h.put hn ha hv
  obtain ⟨D, ⟨es, clock, hb, hF, hs, hD⟩, _⟩ := h
  obtain ⟨v0, st, es1, clock1, he, _, hst⟩ := Go.WideElems.entry_then_store L K.ht K.hz hb hF (K.hkey a ha)
  have hlt := lt_of_heap hb
  obtain ⟨es', clock', hs1, hs2⟩ := hst (Go.ChangeMaps.setBlock w b (.map es1 clock1)) (K.encV v) (by unfold Go.ChangeMaps.setBlock; simp [hlt])
  refine ⟨v0, st, _, _, he, hs1, ?_⟩
  rw [hs2] at hrun
  have e : Go.ChangeMaps.setBlock w b (.map es' clock') = w' := by cases hrun; rfl
  have e2 : Go.ChangeMaps.setBlock (Go.ChangeMaps.setBlock w b (.map es1 clock1)) b (.map es' clock') = Go.ChangeMaps.setBlock w b (.map es' clock') := by unfold Go.ChangeMaps.setBlock; simp
  rw [e2, e]
  exact ⟨r1, r2⟩
/-- 'm[k]', run. -/
theorem MapKit.At.lookR {K : MapKit P α β} {w : World} {b n : Nat} {f : α → Option β} (h : K.At w b n f) {a : α} (ha : K.goodK a) : (Instr.lookup K.t (.map (some b)) (K.encK a) false).run P w = .ok (K.encV ((f a).getD K.zero)) w := by
  obtain ⟨D, h1, h2, h3, h4, h5⟩ := h
  obtain ⟨v, ps, hrun, hv⟩ := h1.lookup K.keyed K.ht (K.hz w) (K.hval _ K.gz) (K.hkey a ha)
  obtain ⟨c, gc, rfl, hc⟩ := K.hinv v _ hv
  rw [h2 a ha] at hc
  have hgd : K.goodV ((f a).getD K.zero) := by
    cases hf : f a with
    | none => exact K.gz
    | some u => exact h5 a u hf
  have := K.dinj _ _ hgd gc (by simpa using (Prod.mk.inj hc).1)
  subst this
  exact hrun
/-- 'v, ok := m[k]', run. -/
theorem MapKit.At.lookOkR {K : MapKit P α β} {w : World} {b n : Nat} {f : α → Option β} (h : K.At w b n f) {a : α} (ha : K.goodK a) : (Instr.lookup K.t (.map (some b)) (K.encK a) true).run P w = .ok (.tuple #[K.encV ((f a).getD K.zero), .bool (f a).isSome]) w := by
  obtain ⟨D, h1, h2, h3, h4, h5⟩ := h
  obtain ⟨v, ps, hrun, hv⟩ := h1.look_ok K.keyed K.ht (K.hz w) (K.hval _ K.gz) (K.hkey a ha)
  obtain ⟨c, gc, rfl, hc⟩ := K.hinv v _ hv
  rw [h2 a ha] at hc
  rw [h3 a ha] at hrun
  have hgd : K.goodV ((f a).getD K.zero) := by
    cases hf : f a with
    | none => exact K.gz
    | some u => exact h5 a u hf
  have := K.dinj _ _ hgd gc (by simpa using (Prod.mk.inj hc).1)
  subst this
  exact hrun
theorem grown_of_upd {w w' : World} (h : Upd noBlk w w') : w.grownBy w' none := ⟨h.os, h.tape, h.output, h.size, fun k hk _ => h.block k hk id⟩
theorem grown_of_upd1 {w w' : World} {c : Nat} (h : Upd (fun j => j = c) w w') : w.grownBy w' (some c) := ⟨h.os, h.tape, h.output, h.size, fun k hk hc => h.block k hk (fun e => hc (by rw [e]))⟩
theorem MapKit.Rng.keep {K : MapKit P α β} {w w' : World} {b r n : Nat} {f : α → Option β} {left : α → Bool} {cnt : Nat} (h : K.Rng w b r n f left cnt) (hu : Upd noBlk w w') : K.Rng w' b r n f left cnt := h.kept (grown_of_upd hu) (by simp) (by simp)
theorem MapKit.Rng.other {K : MapKit P α β} {w w' : World} {b r n c : Nat} {f : α → Option β} {left : α → Bool} {cnt : Nat} (h : K.Rng w b r n f left cnt) (hu : Upd (fun j => j = c) w w') (hb : b ≠ c) (hr : r ≠ c) : K.Rng w' b r n f left cnt := h.kept (grown_of_upd1 hu) (by simpa using hb) (by simpa using hr)
/-- 'm[k] op= v' in its two steps: what the first one tells, and that whatever is stored then is there. -/
theorem MapKit.At.entry2 [DecidableEq α] {K : MapKit P α β} (L : Go.WideMaps.KeyLaw P K.k) {w : World} {b n : Nat} {f : α → Option β} (h : K.At w b n f) (hn : n < maxLen) {a : α} (ha : K.goodK a) :
    ∃ (st : Nat) (w1 : World), (Instr.mapEntry K.t (.map (some b)) (K.encK a)).run P w = .ok (.tuple #[K.encV ((f a).getD K.zero), goInt st]) w1 ∧
      (K.At w1 b (n + 1) (fun c => if c = a then some ((f a).getD K.zero) else f c) ∧ Upd (fun j => j = b) w w1) ∧
      ∀ v, K.goodV v → ∃ w2, (Instr.entryStore K.t (.map (some b)) (goInt st) (K.encV v)).run P w1 = .ok () w2 ∧ K.At w2 b (n + 1) (fun c => if c = a then some v else f c) ∧ Upd (fun j => j = b) w w2 := by
  have hl := h.lookR ha
  have hkey := K.hkey a ha
  obtain ⟨D, ⟨es, clock, hb, hF, hs, hD⟩, _⟩ := id h
  obtain ⟨v0, st, es1, clock1, he, _, hst⟩ := Go.WideElems.entry_then_store L K.ht K.hz hb hF hkey
  have hlt := lt_of_heap hb
  have hgd : K.goodV ((f a).getD K.zero) := by
    obtain ⟨D', _, _, _, _, h5⟩ := id h
    cases hf : f a with
    | none => exact K.gz
    | some u => exact h5 a u hf
  obtain ⟨wp, hput, p1, p2⟩ := h.put hn ha hgd
  have hv0 : v0 = K.encV ((f a).getD K.zero) ∧ Go.ChangeMaps.setBlock w b (.map es1 clock1) = wp := by
    rcases L.find w hkey es.toList hF.keys with ⟨h1, h2⟩ | ⟨j, e0, h1, h2, h3⟩
    · simp [Instr.mapEntry, run_underlying K.ht, MapKept.run_getObj_map hb, L.check w false hkey, h1, K.hz, MapKept.run_setObj_map _ hb, Result.andThen] at he
      simp [Instr.lookup, run_underlying K.ht, MapKept.run_getObj_map hb, L.check w es.isEmpty hkey, h1, K.hz, Result.andThen] at hl
      simp [Instr.mapUpdate, run_underlying K.ht, MapKept.run_getObj_map hb, L.check w false hkey, h1, MapKept.run_setObj_map _ hb, Result.andThen] at hput
      rw [← hl] at hput
      exact ⟨by rw [← he.1.1]; exact hl, he.2.symm.trans hput⟩
    · have hj : es[j]? = some e0 := by simpa using h2
      simp [Instr.mapEntry, run_underlying K.ht, MapKept.run_getObj_map hb, L.check w false hkey, h1, hj, Result.andThen] at he
      rw [h3, L.stays w hkey] at he
      simp [MapKept.run_setObj_map _ hb] at he
      simp [Instr.lookup, run_underlying K.ht, MapKept.run_getObj_map hb, L.check w es.isEmpty hkey, h1, Result.andThen] at hl
      simp [Instr.mapUpdate, run_underlying K.ht, MapKept.run_getObj_map hb, L.check w false hkey, h1, hj, Result.andThen] at hput
      rw [h3, L.stays w hkey] at hput
      simp [MapKept.run_setObj_map _ hb] at hput
      have hmod : es.modify j (fun e => { key := K.encK a, val := e.val, born := e.born }) = es.modify j (fun e => { key := K.encK a, val := K.encV ((f a).getD K.zero), born := e.born }) := by
        apply Array.ext_getElem?
        intro i
        rw [Array.getElem?_modify, Array.getElem?_modify]
        by_cases hi : j = i
        · subst hi; rw [if_pos rfl, if_pos rfl, hj]; simp [hl]
        · rw [if_neg hi, if_neg hi]
      rw [← hmod] at hput
      exact ⟨by rw [← he.1.1]; exact hl, he.2.symm.trans hput⟩
  obtain ⟨rfl, hw1⟩ := hv0
  refine ⟨st, _, he, ⟨hw1 ▸ p1, hw1 ▸ p2⟩, fun v hv => ?_⟩
  obtain ⟨w', hrun, r1, r2⟩ := h.put hn ha hv
  obtain ⟨es', clock', hs1, hs2⟩ := hst (Go.ChangeMaps.setBlock w b (.map es1 clock1)) (K.encV v) (by unfold Go.ChangeMaps.setBlock; simp [hlt])
  rw [hs2] at hrun
  have e : Go.ChangeMaps.setBlock w b (.map es' clock') = w' := by cases hrun; rfl
  have e2 : Go.ChangeMaps.setBlock (Go.ChangeMaps.setBlock w b (.map es1 clock1)) b (.map es' clock') = Go.ChangeMaps.setBlock w b (.map es' clock') := by unfold Go.ChangeMaps.setBlock; simp
  rw [e2, e] at hs1
  exact ⟨w', hs1, r1, r2⟩
/-- 'm[k] op= v': the first step. -/
theorem wpList_mapEntry_run {w w1 : World} {ops : Array Oper} {rest : List Oper} {o : Oper} {ac : Act} {Q : Exit → Act → World → Prop} {v : Value} (hg : o.guard = none) (t : TypeId) (m x : Operand) (hop : o.op = Op.mapEntry t m x) {mv xv : Value} (hm : ac.eval m = mv) (hx : ac.eval x = xv) (hr : (Instr.mapEntry t mv xv).run P w = .ok v w1)
    (hK : wpList P ops Q rest (ac.put o.dst v) w1) : wpList P ops Q (o :: rest) ac w := by
  refine wpList_plain hg fun K' hK' => ?_
  unfold Oper.wp
  simp [execOp, hop, hm, hx, hr, Result.andThen]
  exact hK' _ _ hK
/-- .. the second one. -/
theorem wpList_entryStore_run {w w1 : World} {ops : Array Oper} {rest : List Oper} {o : Oper} {ac : Act} {Q : Exit → Act → World → Prop} (hg : o.guard = none) (t : TypeId) (m s x : Operand) (hop : o.op = Op.entryStore t m s x) {mv sv xv : Value} (hm : ac.eval m = mv) (hs : ac.eval s = sv) (hx : ac.eval x = xv) (hr : (Instr.entryStore t mv sv xv).run P w = .ok () w1)
    (hK : wpList P ops Q rest (ac.put o.dst undef) w1) : wpList P ops Q (o :: rest) ac w := by
  refine wpList_plain hg fun K' hK' => ?_
  unfold Oper.wp
  simp [execOp, hop, hm, hs, hx, hr, Result.andThen]
  exact hK' _ _ hK
/-- How an element reads whose code tells it apart. -/
noncomputable def mkR (goodV : β → Prop) (encV : β → Value) (dV : β → DataW Unit) : Value → Option (DataW Unit × List MemPlace) := fun v =>
  open Classical in if h : ∃ b, goodV b ∧ v = encV b then some (dV h.choose, []) else none
theorem mkR_val {goodV : β → Prop} {encV : β → Value} {dV : β → DataW Unit} (hi : ∀ a b, encV a = encV b → a = b) (b : β) (hb : goodV b) : mkR goodV encV dV (encV b) = some (dV b, []) := by
  unfold mkR
  have h : ∃ c, goodV c ∧ encV b = encV c := ⟨b, hb, rfl⟩
  rw [dif_pos h]
  have e : h.choose = b := (hi b h.choose h.choose_spec.2).symm
  rw [e]
theorem mkR_inv {goodV : β → Prop} {encV : β → Value} {dV : β → DataW Unit} (hi : ∀ a b, encV a = encV b → a = b) {v : Value} {y : DataW Unit × List MemPlace} (h : mkR goodV encV dV v = some y) : ∃ b, goodV b ∧ v = encV b ∧ y = (dV b, []) := by
  by_cases hex : ∃ b, goodV b ∧ v = encV b
  · obtain ⟨b, hb, rfl⟩ := hex
    rw [mkR_val hi b hb] at h
    exact ⟨b, hb, rfl, (Option.some.inj h).symm⟩
  · unfold mkR at h
    rw [dif_neg hex] at h; cases h
end Go.Proofs.YtcikldoaidmnhaaGreatDoor
namespace Go.Proofs.YtcikldoaidmnhaaGreatDoor
open Go Go.RowKit
/-- A kind of things: how one lies in memory. -/
structure Kd (P : Program) (α : Type) where
  T : TypeId
  S : TypeId
  k : Nat
  bytes : Nat
  enc : α → List Value
  len : ∀ x, (enc x).length = k
  one : ∀ x, ∀ v ∈ enc x, v.oneCell' = true
  pos : 0 < k
  small : bytes ≤ 4096
  und : P.underlying S = some (.slice T)
  info : ∃ i z, P.info? T = some i ∧ i.zero = some z ∧ i.size = k ∧ i.bytes = bytes ∧ z.cells.size = k
variable {P : Program} {α : Type}
def Kd.At (K : Kd P α) (w : World) (b o : Nat) (x : α) : Prop := w.rangeAt b o (K.enc x)
/-- A slice at any address. -/
def Kd.Rd (K : Kd P α) (w : World) (v : Value) (l : List α) : Prop := ∃ A cap, v = .slice A l.length cap ∧ l.length ≤ cap ∧ (0 < l.length → ∃ b off, A = some ⟨b, off, none⟩ ∧ ∀ j (h : j < l.length), K.At w b (off + j * K.k) l[j])
/-- A slice in the call's own memory. -/
def Kd.Own (K : Kd P α) (base : Nat) (w : World) (v : Value) (l : List α) : Prop := w.ownsRow base K.T K.k v l.length (l.flatMap K.enc)
theorem rangeAt_upd {w w' : World} {b o : Nat} {cs : List Value} (h : w.rangeAt b o cs) (hu : Upd noBlk w w') : w'.rangeAt b o cs := fun j v hv => hu.cell (h j v hv) id
theorem Kd.At.keep {K : Kd P α} {w w' : World} {b o : Nat} {x : α} (h : K.At w b o x) (hu : Upd noBlk w w') : K.At w' b o x := rangeAt_upd h hu
theorem Kd.Rd.keep {K : Kd P α} {w w' : World} {v : Value} {l : List α} (h : K.Rd w v l) (hu : Upd noBlk w w') : K.Rd w' v l := by
  obtain ⟨A, cap, e, hc, h1⟩ := h
  refine ⟨A, cap, e, hc, fun h0 => ?_⟩
  obtain ⟨b, off, e2, h2⟩ := h1 h0
  exact ⟨b, off, e2, fun j hj => (h2 j hj).keep hu⟩
theorem Kd.Rd.nil (K : Kd P α) (w : World) : K.Rd w (.slice none 0 0) [] := ⟨none, 0, rfl, Nat.le_refl _, fun h => absurd h (by simp)⟩
theorem Kd.flat_get (K : Kd P α) : ∀ (l : List α) (j : Nat) (hj : j < l.length) (i : Nat), i < K.k → (l.flatMap K.enc)[j * K.k + i]? = (K.enc l[j])[i]?
  | [], j, hj, _, _ => absurd hj (by simp)
  | x :: l, 0, _, i, hi => by
    rw [List.flatMap_cons, Nat.zero_mul, Nat.zero_add, List.getElem?_append_left (by rw [K.len]; exact hi)]; rfl
  | x :: l, j + 1, hj, i, hi => by
    rw [List.flatMap_cons, List.getElem?_append_right (by rw [K.len, Nat.add_mul]; omega), K.len]
    have e : (j + 1) * K.k + i - K.k = j * K.k + i := by rw [Nat.add_mul]; omega
    rw [e, K.flat_get l j (by simpa using hj) i hi]; rfl
theorem Kd.flat_len (K : Kd P α) (l : List α) : (l.flatMap K.enc).length = l.length * K.k := by
  induction l with
  | nil => simp
  | cons x l ih => rw [List.flatMap_cons, List.length_append, K.len, ih, List.length_cons, Nat.add_mul]; omega
theorem Kd.Own.form {K : Kd P α} {base : Nat} {w : World} {v : Value} {l : List α} (h : K.Own base w v l) : ∃ A cap, v = .slice A l.length cap ∧ l.length ≤ cap := by
  rcases h.2 with ⟨rfl, h0⟩ | ⟨g, cap, cur, rfl, _, _, h1, _⟩
  · exact ⟨none, 0, by rw [h0], by omega⟩
  · exact ⟨_, _, rfl, h1⟩
theorem Kd.Own.rd {K : Kd P α} {base : Nat} {w : World} {v : Value} {l : List α} (h : K.Own base w v l) : K.Rd w v l := by
  obtain ⟨A, cap, rfl, hc⟩ := h.form
  refine ⟨A, cap, rfl, hc, fun h0 => ?_⟩
  have h' : w.ownsRow base K.T K.k (.slice A l.length cap) l.length (l.flatMap K.enc) := h
  rcases h.2 with ⟨_, h1⟩ | ⟨g, c, cur, e, _⟩
  · omega
  · cases e
    refine ⟨g, 0, rfl, fun j hj i v hv => ?_⟩
    have hi : i < K.k := by
      have := (List.getElem?_eq_some_iff.1 hv).1
      rw [K.len] at this; exact this
    have hji : j * K.k + i < l.length * K.k := by
      have : (j + 1) * K.k ≤ l.length * K.k := Nat.mul_le_mul_right _ hj
      rw [Nat.add_mul] at this; omega
    rw [Nat.zero_add, World.ownsRow.cellAt h' _ hji, K.flat_get l j hj i hi]; exact hv
theorem Kd.Own.nil (K : Kd P α) (base : Nat) (w : World) : K.Own base w (.slice none 0 0) [] := ⟨by simp, .inl ⟨rfl, rfl⟩⟩
theorem Kd.Own.upd {K : Kd P α} {base : Nat} {w w' : World} {v : Value} {l : List α} (h : K.Own base w v l) (hu : Upd noBlk w w') : K.Own base w' v l := ownsRow_upd h hu
theorem Kd.Own.mono {K : Kd P α} {base base' : Nat} {w : World} {v : Value} {l : List α} (h : K.Own base w v l) (hb : base' ≤ base) : K.Own base' w v l := by
  refine ⟨h.1, ?_⟩
  rcases h.2 with e | ⟨g, cap, cur, e, hg, r⟩
  · exact .inl e
  · exact .inr ⟨g, cap, cur, e, Nat.le_trans hb hg, r⟩
/-- The row's block is known. -/
theorem Kd.Own.blk {K : Kd P α} {base : Nat} {w : World} {v : Value} {l : List α} (h : K.Own base w v l) {g : Nat} (hg : v.ownBlock = some g) : base ≤ g ∧ ∃ cur, w.heap[g]? = some (.cells cur K.T (0, 0)) := by
  rcases h.2 with ⟨rfl, _⟩ | ⟨g', cap, cur, rfl, h1, h2, _⟩
  · cases hg
  · cases hg; exact ⟨h1, cur, h2⟩
/-- It stays where other blocks turn. -/
theorem Kd.Own.other {K : Kd P α} {F : Nat → Prop} {base : Nat} {w w' : World} {v : Value} {l : List α} (h : K.Own base w v l) (hu : Upd F w w') (hF : ∀ g, v.ownBlock = some g → ¬ F g) : K.Own base w' v l :=
  ownsRow_keep h (fun g hg => hu.block g (h.lt g hg).2 (hF g hg))
/-- 'append(own, x)'. -/
theorem Kd.Own.app1 {K : Kd P α} {base : Nat} {w : World} {v : Value} {l : List α} (h : K.Own base w v l) (hb : base ≤ w.heap.size) (x : α) (hl : l.length < 4294967296) :
    ∃ g cap w', (Builtin.append_ #[K.S, K.S] K.S #[v, .slice (some ⟨w.heap.size, 0, none⟩) 1 1]).run P (w.alloc (.cells (K.enc x).toArray K.T)) = .ok (.slice (some ⟨g, 0, none⟩) (l.length + 1) cap) w' ∧
      K.Own base w' (.slice (some ⟨g, 0, none⟩) (l.length + 1) cap) (l ++ [x]) ∧ Upd (fun k => v.ownBlock = some k) w w' ∧ (v.ownBlock = some g ∨ w.heap.size < g) := by
  obtain ⟨i, z, hi, hz, h1, h2, h3⟩ := K.info
  have hs := K.small
  obtain ⟨g, cap, w', r, o, gr, hat, _⟩ := append_one (P := P) w K.S K.S K.T i z K.k K.bytes K.und hi hz h1 h2 h3 K.pos h hb (K.enc x) (K.len x) (K.one x) (by unfold maxLen; omega)
    (Nat.le_trans (Nat.mul_le_mul (Nat.succ_le_of_lt hl) hs) (by decide))
  refine ⟨g, cap, w', r, ?_, (upd_of_grown (World.grownBy_alloc w _ v.ownBlock) (fun j hj _ => hj)).trans (upd_of_grown gr (fun j hj _ => hj)), hat.imp id (fun e => by omega)⟩
  unfold Kd.Own
  rw [List.flatMap_append, List.length_append]
  simp only [List.flatMap_cons, List.flatMap_nil, List.append_nil]
  exact o
/-- 'append(own, l...)'. -/
theorem Kd.Own.appN {K : Kd P α} {base : Nat} {w : World} {v : Value} {l : List α} (h : K.Own base w v l) (hb : base ≤ w.heap.size) {b off c : Nat} (m : List α) (hm : ∀ j (hj : j < m.length), K.At w b (off + j * K.k) m[j]) (hl : l.length + m.length < 4294967296) (h0 : 0 < m.length) :
    ∃ g cap w', (Builtin.append_ #[K.S, K.S] K.S #[v, .slice (some ⟨b, off, none⟩) m.length c]).run P w = .ok (.slice (some ⟨g, 0, none⟩) (l.length + m.length) cap) w' ∧
      K.Own base w' (.slice (some ⟨g, 0, none⟩) (l.length + m.length) cap) (l ++ m) ∧ Upd (fun k => v.ownBlock = some k) w w' ∧ (v.ownBlock = some g ∨ w.heap.size ≤ g) := by
  obtain ⟨i, z, hi, hz, h1, h2, h3⟩ := K.info
  have hs := K.small
  obtain ⟨g, cap, w', r, o, gr, hat, _⟩ := run_append_lies (P := P) w K.S K.S base K.T i z K.k K.bytes K.und hi hz h1 h2 h3 K.pos v l.length (l.flatMap K.enc) h ⟨b, off, none⟩ m.length c (m.flatMap K.enc) (K.flat_len m)
    (fun j u hu => by
      have hj : j < m.length * K.k := by have := (List.getElem?_eq_some_iff.1 hu).1; rw [K.flat_len] at this; exact this
      have hp := K.pos
      have hq : j / K.k < m.length := Nat.div_lt_of_lt_mul (by rw [Nat.mul_comm]; exact hj)
      have hr : j % K.k < K.k := Nat.mod_lt _ hp
      have e : j / K.k * K.k + j % K.k = j := by rw [Nat.mul_comm]; exact Nat.div_add_mod j K.k
      rw [← e, K.flat_get m _ hq _ hr] at hu
      have := hm _ hq _ _ hu
      rw [Addr.add_mid, ← e, ← Nat.add_assoc]; exact this)
    (fun u hu => by obtain ⟨x, _, hx⟩ := List.mem_flatMap.1 hu; exact K.one x u hx) h0 (by unfold maxLen; omega)
    (Nat.le_trans (Nat.mul_le_mul (Nat.le_of_lt hl) hs) (by decide)) hb w.heap.size rfl
  refine ⟨g, cap, w', r, ?_, upd_of_grown gr (fun j hj _ => hj), hat.imp id (fun e => by omega)⟩
  unfold Kd.Own
  rw [List.flatMap_append, List.length_append]
  exact o
end Go.Proofs.YtcikldoaidmnhaaGreatDoor
namespace Go.Proofs.YtcikldoaidmnhaaGreatDoor
open Go Go.RowKit

def byteV (d : Nat) : Value := .int .u8 d
def str (l : List Nat) : ByteArray := ⟨(l.map UInt8.ofNat).toArray⟩
theorem str_size (l : List Nat) : (str l).size = l.length := by simp [str, ByteArray.size]
theorem str_data (l : List Nat) : (str l).data.toList = l.map UInt8.ofNat := rfl
theorem str_toList (l : List Nat) : (str l).toList = l.map UInt8.ofNat := ByteArray.toList_mk _
theorem str_nil : str [] = ByteArray.empty := rfl
theorem str_extract (l : List Nat) (a b : Nat) : (str l).extract a b = str ((l.drop a).take (b - a)) := by
  unfold str; rw [ByteArray.extract_mk, List.map_take, List.map_drop]
theorem str_get {l : List Nat} {i : Nat} (h : i < l.length) (hb : ∀ d, d ∈ l → d < 256) (h' : i < (str l).size) : ((str l)[i]'h').toNat = l[i] := by
  have e : (str l)[i]'h' = UInt8.ofNat l[i] := by
    show (str l).data[i]'_ = _
    simp [str]
  rw [e]
  have := hb l[i] (List.getElem_mem h)
  simp; omega
theorem ofNat_inj {a b : Nat} (ha : a < 256) (hb : b < 256) (h : UInt8.ofNat a = UInt8.ofNat b) : a = b := by
  have := congrArg UInt8.toNat h
  simp at this
  omega
theorem map_ofNat_inj : ∀ {a b : List Nat}, (∀ d, d ∈ a → d < 256) → (∀ d, d ∈ b → d < 256) → a.map UInt8.ofNat = b.map UInt8.ofNat → a = b
  | [], [], _, _, _ => rfl
  | [], _ :: _, _, _, h => by simp at h
  | _ :: _, [], _, _, h => by simp at h
  | x :: a, y :: b, ha, hb, h => by
    simp only [List.map_cons, List.cons.injEq] at h
    rw [ofNat_inj (ha x (by simp)) (hb y (by simp)) h.1, map_ofNat_inj (fun d hd => ha d (by simp [hd])) (fun d hd => hb d (by simp [hd])) h.2]
theorem str_inj {a b : List Nat} (ha : ∀ d, d ∈ a → d < 256) (hb : ∀ d, d ∈ b → d < 256) (h : str a = str b) : a = b :=
  map_ofNat_inj ha hb (by rw [← str_data, ← str_data, h])
theorem str_append (a b : List Nat) : str a ++ str b = str (a ++ b) := by
  apply ByteArray.ext
  simp [str]
/-- Any string is one of these. -/
def bytesOf (s : ByteArray) : List Nat := s.data.toList.map UInt8.toNat
theorem bytesOf_lt (s : ByteArray) : ∀ d, d ∈ bytesOf s → d < 256 := by
  intro d hd
  obtain ⟨u, _, rfl⟩ := List.mem_map.1 hd
  exact u.toNat_lt
theorem str_bytesOf (s : ByteArray) : str (bytesOf s) = s := by
  apply ByteArray.ext
  show ((bytesOf s).map UInt8.ofNat).toArray = s.data
  have e : UInt8.ofNat ∘ UInt8.toNat = id := funext fun u => by simp
  rw [bytesOf, List.map_map, e, List.map_id]
theorem bytesOf_length (s : ByteArray) : (bytesOf s).length = s.size := by unfold bytesOf; rw [List.length_map]; rfl
theorem bytesOf_str {l : List Nat} (h : ∀ d, d ∈ l → d < 256) : bytesOf (str l) = l :=
  str_inj (bytesOf_lt _) h (str_bytesOf _)

theorem strOfNums_cast (l : List Nat) : strOfNums (l.map fun (d : Nat) => (d : Int)) = str l := by
  simp [strOfNums, str, Function.comp_def]

/-- A row of bytes that the call owns, made a string. -/
theorem conv_own {P : Program} {w : World} {base : Nat} {src e dst : TypeId} {v : Value} {l : List Nat} (hs : P.underlying src = some (.slice e)) (he : P.underlying e = some (.int .u8)) (hd : P.underlying dst = some .string)
    (hown : w.ownsRow base e 1 v l.length (l.map byteV)) : (convert src dst v).run P w = .ok (.string (str l)) w := by
  rcases hown.2 with ⟨rfl, h0⟩ | ⟨g, cap, cur, rfl, _, hg, _, _, hsz, htake⟩
  · rw [run_convert_bytes_nil w src e hs he 0 0 dst hd, List.eq_nil_of_length_eq_zero h0]; rfl
  · rw [run_convert_bytes_arg w src e hs he g 0 l.length cap (l.map fun (d : Nat) => (d : Int)) (by simp) (fun i hi => ?_) dst hd, strOfNums_cast]
    rw [Nat.zero_add, hown.cellAt i (by omega)]
    simp [byteV, hi]

/-- Two strings put together. -/
theorem run_add {P : Program} {a b c : List Nat} (h : a.length + b.length ≤ 9223372036854775807) (hc : a ++ b = c) (w : World) : (Op.stringOp .add (str a) (str b)).run P w = .ok (.string (str c)) w := by
  rw [run_string_add_sum (P := P) w (str a) (str b) (by rw [str_size, str_size]; exact h), str_append, hc]

/-- How long a string value is. -/
def lenOfV : Value → Nat | .string s => s.size | _ => 0
end Go.Proofs.YtcikldoaidmnhaaGreatDoor
namespace Go.Proofs.YtcikldoaidmnhaaGreatDoor
open Go Go.RowKit Pc

/-- The weights of the contexts as they lie in their block. -/
def Wts (w : World) (b : Nat) (p : Nat → Nat) : Prop :=
  ∃ arr : Array Value, w.heap[b]? = some (.cells arr 22 (0, 0)) ∧ arr.size = 4096 ∧ ∀ i, i < 4096 → arr[i]? = some (.int .u32 (p i))
theorem Wts.cell {w : World} {b : Nat} {p : Nat → Nat} (h : Wts w b p) {i : Nat} (hi : i < 4096) : w.cell? ⟨b, i, none⟩ = some (.int .u32 (p i)) := by
  obtain ⟨arr, h1, h2, h3⟩ := h
  rw [cell_of_row w b i arr _ _ h1]; exact h3 i hi
theorem Wts.free {w : World} {b : Nat} {p : Nat → Nat} (h : Wts w b p) (i : Nat) : w.frozen? ⟨b, i, none⟩ = false := by
  obtain ⟨arr, h1, h2, h3⟩ := h
  exact frozen_of_row w b i arr _ h1
theorem Wts.lt {w : World} {b : Nat} {p : Nat → Nat} (h : Wts w b p) : b < w.heap.size := by
  obtain ⟨arr, h1, h2, h3⟩ := h
  exact lt_of_heap h1
theorem Wts.keep {w w' : World} {b : Nat} {p : Nat → Nat} (h : Wts w b p) (hb : w'.heap[b]? = w.heap[b]?) : Wts w' b p := by
  obtain ⟨arr, h1, h2, h3⟩ := h
  exact ⟨arr, hb.trans h1, h2, h3⟩
theorem Wts.set {w : World} {b : Nat} {p : Nat → Nat} (h : Wts w b p) (i v : Nat) : Wts (w.setCell ⟨b, i, none⟩ (.int .u32 v)) b (upd p i v) := by
  obtain ⟨arr, h1, h2, h3⟩ := h
  refine ⟨_, heap_setCell_eq _ h1, by simpa using h2, fun j hj => ?_⟩
  rw [Array.getElem?_setIfInBounds]
  unfold upd
  by_cases e : i = j
  · subst e; simp [h2, hj]
  · rw [if_neg e, if_neg (fun h => e h.symm)]; exact h3 j hj

theorem tmod_4096 (c : Int) : c.tmod 4096 = if 0 ≤ c then c % 4096 else - ((-c) % 4096) := by
  split
  · rw [Int.tmod_eq_emod_of_nonneg (by omega)]
  · rw [← Int.neg_neg c, Int.neg_tmod, Int.tmod_eq_emod_of_nonneg (by omega)]; simp
theorem index_eq (c : Int) : (wrap64 (c.tmod 4096 + 4096)).tmod 4096 = ((ctx c : Nat) : Int) := by
  rw [ctx_cast, IntWalk.wrap64_in _ (by rw [tmod_4096]; split <;> omega), Int.tmod_eq_emod_of_nonneg (by rw [tmod_4096]; split <;> omega), tmod_4096]
  split <;> omega

set_option maxHeartbeats 400000 in
theorem weight_any (c : Int) (a : Addr) (wb : Nat) (w : World) (hw : w.cell? a = some (.slice (some ⟨wb, 0, none⟩) 4096 4096)) :
    Calls Tryz.prog 143 #[.pointer (some a), .int .i64 c] w fun e w' => e = .returned (.pointer (some ⟨wb, ctx c, none⟩)) ∧ w = w' := by
  have e := index_eq c
  have h0 := ctx_lt c
  go_enter Tryz.func143, Tryz.ntmps143
  go_wp2
  go_ret
  exact ⟨rfl, rfl⟩

/-- The model at a block's head: where its weights lie, and its range. -/
structure Mod (w : World) (b wb : Nat) (m : M) : Prop where
  c0 : w.cell? ⟨b, 0, none⟩ = some (.slice (some ⟨wb, 0, none⟩) 4096 4096)
  c1 : w.cell? ⟨b, 1, none⟩ = some (.int .u32 m.size)
  f1 : w.frozen? ⟨b, 1, none⟩ = false
  wt : Wts w wb m.p
  ne : b ≠ wb

theorem split_val {m : M} (h : m.Wf) (i : Nat) (hi : i < 4096) : IntKind.u32.wrap (((m.size : Nat) : Int) / 2048 * ((m.p i : Nat) : Int)) = ((m.split i : Nat) : Int) := by
  have h1 := M.split_bd h hi
  have h2 := h.hi
  have e : ((m.size : Nat) : Int) / 2048 * ((m.p i : Nat) : Int) = ((m.split i : Nat) : Int) := by
    unfold M.split; rw [Int.natCast_mul]; rfl
  rw [e]
  exact wrap_u32 (by omega) (by omega)

set_option maxHeartbeats 400000 in
theorem split_any (c : Int) (b wb : Nat) (m : M) (hm : m.Wf) (w : World) (h : Mod w b wb m) :
    Calls Tryz.prog 101 #[.pointer (some ⟨b, 0, none⟩), .int .i64 c] w fun e w' => e = .returned (.int .u32 (m.split (ctx c))) ∧ ∃ n, w' = w.drewN n := by
  have hs := split_val hm (ctx c) (ctx_lt c)
  have h1 := hm.hi
  have hc0 := h.c0
  have hc1 := h.c1
  have hwt := h.wt.cell (ctx_lt c)
  clear h hm
  go_enter Tryz.func101, Tryz.ntmps101
  go_wp2_with fail
  go_quiet ((go_at_call 143; exact quiet_eq (weight_any _ _ _ _ hc0)))
  go_wp2
  go_ret
  exact ⟨rfl, _, rfl⟩

/-- Which block a slice's cells lie in. -/
def inRow (v : Value) : Nat → Prop := fun k => v.ownBlock = some k

/-- What the loop of carry has made of the digits when only those below k are left to do. -/
def carried (ds : List Nat) (k : Nat) : List Nat := ds.take k ++ List.replicate (ds.length - k) 0
structure CarryAt (ds : List Nat) (base g cap : Nat) (w wr : World) (k : Nat) : Prop where
  le : k ≤ ds.length
  own : wr.ownsRow base 5 1 (.slice (some ⟨g, 0, none⟩) ds.length cap) ds.length ((carried ds k).map byteV)
  fr : w.grownBy wr (some g)
  spec : carry ds = carry (ds.take k) ++ List.replicate (ds.length - k) 0

theorem grownBy_trans {w w1 w2 : World} {row : Option Nat} (h : w.grownBy w1 row) (k : w1.grownBy w2 row) : w.grownBy w2 row :=
  ⟨k.os.trans h.os, k.tape.trans h.tape, k.output.trans h.output, Nat.le_trans h.size k.size, fun i hi hr =>
    (k.block i (Nat.lt_of_lt_of_le hi h.size) hr).trans (h.block i hi hr)⟩

theorem carried_set {ds : List Nat} {j : Nat} (hj : j < ds.length) (v : Nat) :
    (((carried ds (j + 1)).map byteV).set j (byteV v)) = (ds.take j ++ v :: List.replicate (ds.length - (j + 1)) 0).map byteV := by
  unfold carried
  rw [take_snoc hj, ← List.map_set]
  congr 1
  have hl : (ds.take j).length = j := by simp; omega
  rw [List.append_assoc, List.set_append_right _ _ (by omega), hl]
  simp

theorem CarryAt.cell {ds : List Nat} {base g cap : Nat} {w wr : World} {j : Nat} (h : CarryAt ds base g cap w wr (j + 1)) :
    ∃ hj : j < ds.length, wr.cell? ⟨g, j, none⟩ = some (.int .u8 ds[j]) := by
  have hj := h.le
  refine ⟨hj, ?_⟩
  rw [h.own.cellAt j (by omega)]
  unfold carried
  have hj' : j < ds.length := hj
  rw [take_snoc hj']
  have hl : (ds.take j).length = j := by simp; omega
  rw [List.append_assoc, List.map_append, List.getElem?_append_right (by simp; omega)]
  simp [byteV, Nat.min_eq_left (Nat.le_of_lt hj')]

theorem CarryAt.go {ds : List Nat} {base g cap : Nat} {w wr : World} {j : Nat} (h : CarryAt ds base g cap w wr (j + 1)) (hj : j < ds.length) (he : ds[j] = 255) :
    CarryAt ds base g cap w (wr.setCell ⟨g, j, none⟩ (.int .u8 0)) j := by
  have hs := h.own.stored j (byteV 0)
  rw [carried_set hj] at hs
  refine ⟨by omega, ?_, grownBy_trans h.fr hs.2, ?_⟩
  · have e : ds.take j ++ 0 :: List.replicate (ds.length - (j + 1)) 0 = carried ds j := by
      unfold carried
      rw [show ds.length - j = (ds.length - (j + 1)) + 1 from by omega, List.replicate_succ]
    rw [← e]
    exact hs.1
  · rw [h.spec, take_snoc hj, he, carry_snoc_255, List.append_assoc, show ds.length - j = (ds.length - (j + 1)) + 1 from by omega, List.replicate_succ]
    rfl

theorem CarryAt.stop {ds : List Nat} {base g cap : Nat} {w wr : World} {j : Nat} (h : CarryAt ds base g cap w wr (j + 1)) (hj : j < ds.length) (he : ds[j] ≠ 255) :
    (wr.setCell ⟨g, j, none⟩ (.int .u8 (ds[j] + 1))).ownsRow base 5 1 (.slice (some ⟨g, 0, none⟩) ds.length cap) ds.length ((carry ds).map byteV) ∧
      w.grownBy (wr.setCell ⟨g, j, none⟩ (.int .u8 (ds[j] + 1))) (some g) := by
  have hs := h.own.stored j (byteV (ds[j] + 1))
  rw [carried_set hj] at hs
  refine ⟨?_, grownBy_trans h.fr hs.2⟩
  rw [h.spec, take_snoc hj, carry_snoc_ne _ he, List.append_assoc]
  exact hs.1

theorem CarryAt.start {ds : List Nat} {base g cap : Nat} {w : World}
    (hown : w.ownsRow base 5 1 (.slice (some ⟨g, 0, none⟩) ds.length cap) ds.length (ds.map byteV)) : CarryAt ds base g cap w w ds.length :=
  ⟨Nat.le_refl _, by simpa [carried] using hown, ⟨rfl, rfl, rfl, Nat.le_refl _, fun _ _ _ => rfl⟩, by simp⟩

set_option maxHeartbeats 400000 in
theorem carry_any (base cap g : Nat) (ds : List Nat) (hds : ∀ d, d ∈ ds → d < 256) (w : World)
    (hown : w.ownsRow base 5 1 (.slice (some ⟨g, 0, none⟩) ds.length cap) ds.length (ds.map byteV)) (hn : ds.length ≤ maxLen) :
    Calls Tryz.prog 102 #[.slice (some ⟨g, 0, none⟩) ds.length cap] w fun e w' => e = .returned (.tuple #[]) ∧
      w'.ownsRow base 5 1 (.slice (some ⟨g, 0, none⟩) ds.length cap) ds.length ((carry ds).map byteV) ∧ w.grownBy w' (some g) := by
  unfold maxLen at hn
  have hst := CarryAt.start hown
  clear hown
  go_enter Tryz.func102, Tryz.ntmps102
  go_wp2
  go_loopw [2] (fun i wr => ∃ k : Nat, i = .int .i64 ((k : Int) - 1) ∧ CarryAt ds base g cap w wr k) (fun i _ => (intOf i + 1).toNat)
  case atStart => exact ⟨_, rfl, hst⟩
  case round =>
    obtain ⟨k, rfl, hk⟩ := hrel
    rcases k with _ | j
    · have h1 : decide (((0 : Nat) : Int) - 1 ≥ 0) = false := by decide
      have h2 := hk.own
      have h3 := hk.fr
      have h4 : carry ds = carried ds 0 := by rw [hk.spec]; rfl
      rw [← h4] at h2
      clear hk h4
      go_wp2
      go_end0
      exact ⟨rfl, h2, h3⟩
    · obtain ⟨hj, hc⟩ := hk.cell
      have hf := hk.own.frozenAt j
      have e1 : (((j + 1 : Nat) : Int) - 1) = (j : Int) := by omega
      rw [e1]
      have hd := hds ds[j] (List.getElem_mem hj)
      by_cases he : ds[j] = 255
      · have e2 : IntKind.u8.wrap (((ds[j] : Nat) : Int) + 1) = 0 := by rw [he]; rfl
        have hgo := hk.go hj he
        clear he hk
        go_wp2
        go_roundw
        case rel => exact ⟨j, rfl, hgo⟩
        case measure => simp [intOf] <;> omega
      · have e2 : IntKind.u8.wrap (((ds[j] : Nat) : Int) + 1) = (ds[j] : Int) + 1 := wrap_u8 (by omega) (by omega)
        have e3 : (((ds[j] : Nat) : Int) + 1 != 0) = true := by rw [bne_iff_ne]; omega
        have hgo := hk.stop hj he
        clear he hk
        go_wp2
        refine bodyPost_ret (results_none rfl _ _ _) rfl ?_
        exact ⟨rfl, hgo⟩
end Go.Proofs.YtcikldoaidmnhaaGreatDoor
