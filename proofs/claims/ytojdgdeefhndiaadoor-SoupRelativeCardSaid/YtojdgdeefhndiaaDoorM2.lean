/- General lemmas: a relation between worlds in which only named blocks may have turned, and blocks known whole. No condition. Walks of the program of the polygon files: check, isNumber, numbers. Walks of the program of the polygon files: the look for a word that is no number. -/
import Derived.WalkKit
import Derived.WalkSpells
import Derived.WalkLawsBesides
import Derived.Lib.Hide
import Derived.BigQuiet
import Derived.Deep.DeepFit
import Derived.Deep.DeepCutAuto
import Derived.Deep.AppendLies
import Derived.Deep.QuietTactic
import Derived.Test.YtojdgdeefhndiaaDoorRows
import Derived.Test.YtojdgdeefhndiaaDoorM1
import Derived.Test.YtojdgdeefhndiaaDoorShelf
namespace Go.Proofs.YtojdgdeefhndiaaDoor
open Go Go.RowKit

/-- Beside new blocks only blocks that satisfy F may have turned. -/
structure Upd (F : Nat → Prop) (w w' : World) : Prop where
  os : w'.os = w.os
  tape : w'.tape = w.tape
  output : w'.output = w.output
  size : w.heap.size ≤ w'.heap.size
  block : ∀ k, k < w.heap.size → ¬ F k → w'.heap[k]? = w.heap[k]?

def noBlk : Nat → Prop := fun _ => False

theorem Upd.refl (F : Nat → Prop) (w : World) : Upd F w w := ⟨rfl, rfl, rfl, Nat.le_refl _, fun _ _ _ => rfl⟩
theorem Upd.trans {F : Nat → Prop} {a b c : World} (h : Upd F a b) (k : Upd F b c) : Upd F a c :=
  ⟨k.os.trans h.os, k.tape.trans h.tape, k.output.trans h.output, Nat.le_trans h.size k.size,
   fun i hi hf => (k.block i (Nat.lt_of_lt_of_le hi h.size) hf).trans (h.block i hi hf)⟩
/-- The second step may turn blocks that are new since the first world. -/
theorem Upd.then {F G : Nat → Prop} {a b c : World} (h : Upd F a b) (k : Upd G b c) (hg : ∀ i, i < a.heap.size → G i → F i) : Upd F a c :=
  ⟨k.os.trans h.os, k.tape.trans h.tape, k.output.trans h.output, Nat.le_trans h.size k.size,
   fun i hi hf => (k.block i (Nat.lt_of_lt_of_le hi h.size) (fun g => hf (hg i hi g))).trans (h.block i hi hf)⟩
theorem Upd.mono {F G : Nat → Prop} {w w' : World} (h : Upd F w w') (hg : ∀ i, i < w.heap.size → F i → G i) : Upd G w w' :=
  ⟨h.os, h.tape, h.output, h.size, fun k hk hG => h.block k hk (fun f => hG (hg k hk f))⟩
theorem Upd.drew {F : Nat → Prop} {a w : World} (h : Upd F a w) : Upd F a w.drew := ⟨h.os, h.tape, h.output, h.size, h.block⟩
theorem Upd.alloc {F : Nat → Prop} {a w : World} (h : Upd F a w) (o : Obj) : Upd F a (w.alloc o) :=
  h.trans ⟨rfl, rfl, rfl, by simp, fun k hk _ => _root_.Go.heap_alloc_old w o hk⟩
theorem Upd.setCell {F : Nat → Prop} {a w : World} (h : Upd F a w) {p : Addr} (hp : p.block < a.heap.size → F p.block) (u : Value) : Upd F a (w.setCell p u) :=
  ⟨h.os, h.tape, h.output, by simpa using h.size, fun k hk hf => by
    rw [heap_setCell_other w p k u (fun e => hf (by subst e; exact hp hk))]
    exact h.block k hk hf⟩
theorem Upd.grown {F : Nat → Prop} {a w w' : World} {row : Option Nat} (h : Upd F a w) (hg : w.grownBy w' row) (hr : ∀ k, row = some k → k < a.heap.size → F k) : Upd F a w' :=
  ⟨hg.os.trans h.os, hg.tape.trans h.tape, hg.output.trans h.output, Nat.le_trans h.size hg.size, fun k hk hf =>
    (hg.block k (Nat.lt_of_lt_of_le hk h.size) (fun e => hf (hr k e.symm hk))).trans (h.block k hk hf)⟩
theorem Upd.below {w w' : World} (h : Upd noBlk w w') : Below w.heap.size w w' :=
  ⟨h.os, h.tape, h.output, h.size, fun k hk => h.block k hk id⟩
theorem Upd.ofBelow {F : Nat → Prop} {w w' : World} (h : Below w.heap.size w w') : Upd F w w' :=
  ⟨h.os, h.tape, h.output, h.size, fun k hk _ => h.block k hk⟩
theorem Upd.ofDrewN {F : Nat → Prop} (w : World) (n : Nat) : Upd F w (w.drewN n) :=
  ⟨rfl, rfl, rfl, Nat.le_refl _, fun _ _ _ => rfl⟩
theorem Upd.drewN {F : Nat → Prop} {a w : World} (h : Upd F a w) (n : Nat) : Upd F a (w.drewN n) := h.trans (Upd.ofDrewN w n)

theorem lt_of_heap {w : World} {b : Nat} {o : Obj} (h : w.heap[b]? = some o) : b < w.heap.size := (Array.getElem?_eq_some_iff.1 h).1
theorem Upd.heap {F : Nat → Prop} {w w' : World} {b : Nat} {o : Obj} (h : Upd F w w') (hb : w.heap[b]? = some o) (hf : ¬ F b) : w'.heap[b]? = some o :=
  (h.block b (lt_of_heap hb) hf).trans hb
theorem Upd.cell {F : Nat → Prop} {w w' : World} {a : Addr} {v : Value} (h : Upd F w w') (hv : w.cell? a = some v) (hf : ¬ F a.block) : w'.cell? a = some v :=
  (World.cell?_of_block (h.block a.block (World.block_lt_of_cell? w a hv) hf)).trans hv

theorem heap_setCell_eq {w : World} {g i : Nat} {cs : Array Value} {t : TypeId} (v : Value) (hg : w.heap[g]? = some (.cells cs t (0, 0))) :
    (w.setCell ⟨g, i, none⟩ v).heap[g]? = some (.cells (cs.setIfInBounds i v) t (0, 0)) := heap_setCell_same w g i cs t v hg
theorem heap_setCell_ne {w : World} {g k i : Nat} {o : Obj} (v : Value) (hk : w.heap[k]? = some o) (h : k ≠ g) : (w.setCell ⟨g, i, none⟩ v).heap[k]? = some o :=
  (heap_setCell_other w ⟨g, i, none⟩ k v h).trans hk
theorem heap_alloc_keep {w : World} {k : Nat} {o : Obj} (o' : Obj) (hk : w.heap[k]? = some o) : (w.alloc o').heap[k]? = some o :=
  (_root_.Go.heap_alloc_old w o' (lt_of_heap hk)).trans hk

theorem grownBy_trans_none {w w1 w2 : World} {row : Option Nat} (h : w.grownBy w1 none) (k : w1.grownBy w2 row) : w.grownBy w2 row :=
  ⟨k.os.trans h.os, k.tape.trans h.tape, k.output.trans h.output, Nat.le_trans h.size k.size, fun i hi hr =>
    (k.block i (Nat.lt_of_lt_of_le hi h.size) hr).trans (h.block i hi (by simp))⟩

theorem cell_alloc_keep {w : World} {a : Addr} {v : Value} (o : Obj) (h : w.cell? a = some v) : (w.alloc o).cell? a = some v :=
  (World.cell?_alloc_lt w o a (World.block_lt_of_cell? w a h)).trans h
theorem frozen_alloc_keep {w : World} {a : Addr} (o : Obj) (ha : a.block < w.heap.size) (h : w.frozen? a = false) : (w.alloc o).frozen? a = false :=
  (World.frozen?_alloc_old w o a (Nat.ne_of_lt ha)).trans h
/-- A cell of another block than the row, behind an append whose argument was laid in a new block. -/
theorem grown_cell {w w1 : World} {o : Obj} {row : Option Nat} (hg : (w.alloc o).drew.grownBy w1 row) {a : Addr} {v : Value} (h : w.cell? a = some v) (hne : row ≠ some a.block) : w1.cell? a = some v :=
  hg.cell (cell_alloc_keep o h) (Ne.symm hne)
theorem grown_free {w w1 : World} {o : Obj} {row : Option Nat} (hg : (w.alloc o).drew.grownBy w1 row) {a : Addr} (ha : a.block < w.heap.size) (h : w.frozen? a = false) (hne : row ≠ some a.block) : w1.frozen? a = false :=
  (World.frozen?_of_block (hg.block a.block (by simp; omega) (Ne.symm hne))).trans (frozen_alloc_keep o ha h)
theorem grown_heap {w w1 : World} {o o' : Obj} {row : Option Nat} (hg : (w.alloc o).drew.grownBy w1 row) {k : Nat} (h : w.heap[k]? = some o') (hne : row ≠ some k) : w1.heap[k]? = some o' := by
  have hk := lt_of_heap h
  exact (hg.block k (by simp; omega) (Ne.symm hne)).trans (heap_alloc_keep o h)
theorem upd_grown_new {F : Nat → Prop} {w w1 : World} {o : Obj} {row : Option Nat} (hg : (w.alloc o).drew.grownBy w1 row) (hr : ∀ k, row = some k → k < w.heap.size → F k) : Upd F w w1 :=
  ((Upd.refl F w).alloc o).drew.grown hg hr

/-- A callee that leaves the world alone, or draws, inside a region that only reads. -/
theorem quiet_eq {P : Program} {f : FuncId} {args : Array Value} {w : World} {n : Nat} {v : Value}
    (h : Calls P f args (w.drewN n) fun e w' => e = .returned v ∧ w.drewN n = w') : Calls P f args (w.drewN n) fun e w'' => e = .returned v ∧ ∃ m, w'' = w.drewN m :=
  h.mono fun _ _ ⟨he, hm⟩ => ⟨he, n, hm.symm⟩
theorem quiet_drew {P : Program} {f : FuncId} {args : Array Value} {w : World} {n : Nat} {v : Value}
    (h : Calls P f args (w.drewN n) fun e w' => e = .returned v ∧ ∃ m, w' = (w.drewN n).drewN m) : Calls P f args (w.drewN n) fun e w'' => e = .returned v ∧ ∃ m, w'' = w.drewN m :=
  h.mono fun _ _ ⟨he, m, hm⟩ => ⟨he, n + m, by rw [hm, World.drewN_drewN]⟩

/-- An append whose run is known, in a plain region and in the walk of a region that draws. -/
theorem wp_append_run {P : Program} {o : Oper} {a : Act} {w w' : World} {K : Act → World → Prop} {Q : Exit → Act → World → Prop} (s x : Operand) (t : TypeId)
    (ho : o.op = .call { callee := .builtin .append, args := #[s, x], argTypes := #[t, t] }) {vs vx v' : Value} (hs : a.eval s = vs) (hx : a.eval x = vx)
    (hr : (Builtin.append_ #[t, t] o.type #[vs, vx]).run P w = .ok v' w') (h : K (a.put o.dst v') w') : o.wp P a w K Q := by
  unfold Oper.wp execOp
  simp only [ho, resolve, invoke, builtin, Sem.run_bind, Sem.run_pure, Result.andThen_ok, List.map_toArray, List.map_cons, List.map_nil, hs, hx, hr]
  exact h
theorem wpList_append_run {P : Program} {ops : Array Oper} {rest : List Oper} {o : Oper} {a : Act} {w w' : World} {Q : Exit → Act → World → Prop} (hgd : o.guard = none) (s x : Operand) (t : TypeId)
    (ho : o.op = .call { callee := .builtin .append, args := #[s, x], argTypes := #[t, t] }) {vs vx v' : Value} (hs : a.eval s = vs) (hx : a.eval x = vx)
    (hr : (Builtin.append_ #[t, t] o.type #[vs, vx]).run P w = .ok v' w') (h : wpList P ops Q rest (a.put o.dst v') w') : wpList P ops Q (o :: rest) a w :=
  wpList_plain hgd fun _ hK => wp_append_run s x t ho hs hx hr (hK _ _ h)
/-- 'append(nil, src...)': a copy in new memory. -/
theorem append_copy {P : Program} (w : World) (t ty e : TypeId) (i : TypeInfo) (z : Value) (size bytes : Nat) (ht : P.underlying t = some (.slice e)) (hi : P.info? e = some i) (hz : i.zero = some z)
    (hsize : i.size = size) (hby : i.bytes = bytes) (hzs : z.cells.size = size) (hsz : 0 < size) {base : Nat} {src : Value} {n : Nat} {xs : List Value} (hown : w.ownsRow base e size src n xs)
    (h1 : ∀ u ∈ xs, u.oneCell' = true) (h63 : n ≤ maxLen) (hbytes : n * bytes ≤ 140737488355328) :
    ∃ v' w', (Builtin.append_ #[t, t] ty #[.slice none 0 0, src]).run P w = .ok v' w' ∧ w'.ownsRow w.heap.size e size v' n xs ∧ w.grownBy w' none := by
  rcases hown.2 with ⟨rfl, rfl⟩ | ⟨g, cap, cur, rfl, _, hg, _⟩
  · have hx : xs = [] := List.eq_nil_of_length_eq_zero (by simpa using hown.1)
    subst hx
    exact ⟨_, _, run_append_owned_none (P := P) w w.heap.size t ty e i size ht hi (.slice none 0 0) 0 [] (World.ownsRow_nil _ _ _ _), World.ownsRow_nil _ _ _ _, ⟨rfl, rfl, rfl, Nat.le_refl _, fun _ _ _ => rfl⟩⟩
  · obtain ⟨v', w', hr, h2, h3, _⟩ := run_append_own (P := P) w w.heap.size t ty e i z size bytes ht hi hz hsize hby hzs hsz (.slice none 0 0) 0 [] (World.ownsRow_nil _ _ _ _) ⟨g, 0, none⟩ n cap xs hown.1 (hown.cells (g := g) rfl) h1
      (by simpa using h63) (by simpa using hbytes) (Nat.le_refl _)
    exact ⟨v', w', hr, by simpa using h2, h3⟩
/-- 'append(own, src...)'. -/
theorem append_src {P : Program} (w : World) (t ty e : TypeId) (i : TypeInfo) (z : Value) (size bytes : Nat) (ht : P.underlying t = some (.slice e)) (hi : P.info? e = some i) (hz : i.zero = some z)
    (hsize : i.size = size) (hby : i.bytes = bytes) (hzs : z.cells.size = size) (hsz : 0 < size) {base base' : Nat} {v : Value} {n : Nat} {xs : List Value} (hown : w.ownsRow base e size v n xs) (hbase : base ≤ w.heap.size)
    {src : Value} {m : Nat} {ys : List Value} (hsrc : w.ownsRow base' e size src m ys) (h1 : ∀ u ∈ ys, u.oneCell' = true) (h63 : n + m ≤ maxLen) (hbytes : (n + m) * bytes ≤ 140737488355328) :
    ∃ v' w', (Builtin.append_ #[t, t] ty #[v, src]).run P w = .ok v' w' ∧ w'.ownsRow base e size v' (n + m) (xs ++ ys) ∧ w.grownBy w' v.ownBlock ∧ (v'.ownBlock = v.ownBlock ∨ v'.ownBlock = some w.heap.size) := by
  rcases hsrc.2 with ⟨rfl, rfl⟩ | ⟨g, cap, cur, rfl, _, hg, _⟩
  · have hx : ys = [] := List.eq_nil_of_length_eq_zero (by simpa using hsrc.1)
    subst hx
    refine ⟨v, w, run_append_owned_none (P := P) w base t ty e i size ht hi v n xs hown, by simpa using hown, ⟨rfl, rfl, rfl, Nat.le_refl _, fun _ _ _ => rfl⟩, .inl rfl⟩
  · obtain ⟨v', w', hr, h2, h3, _, h5⟩ := run_append_own_at (P := P) w base t ty e i z size bytes ht hi hz hsize hby hzs hsz v n xs hown ⟨g, 0, none⟩ m cap ys hsrc.1 (hsrc.cells (g := g) rfl) h1 h63 hbytes hbase
    exact ⟨v', w', hr, h2, h3, h5⟩
/-- 'append(own, x)', x in a new block of its own. -/
theorem append_one {P : Program} (w : World) (t ty e : TypeId) (i : TypeInfo) (z : Value) (size bytes : Nat) (ht : P.underlying t = some (.slice e)) (hi : P.info? e = some i) (hz : i.zero = some z)
    (hsize : i.size = size) (hby : i.bytes = bytes) (hzs : z.cells.size = size) (hsz : 0 < size) {base : Nat} {v : Value} {n : Nat} {xs : List Value} (hown : w.ownsRow base e size v n xs) (hbase : base ≤ w.heap.size)
    (news : List Value) (hl : news.length = size) (h1 : ∀ u ∈ news, u.oneCell' = true) (h63 : n + 1 ≤ maxLen) (hbytes : (n + 1) * bytes ≤ 140737488355328) :
    ∃ g cap w', (Builtin.append_ #[t, t] ty #[v, .slice (some ⟨w.heap.size, 0, none⟩) 1 1]).run P (w.alloc (.cells news.toArray e)) = .ok (.slice (some ⟨g, 0, none⟩) (n + 1) cap) w' ∧
      w'.ownsRow base e size (.slice (some ⟨g, 0, none⟩) (n + 1) cap) (n + 1) (xs ++ news) ∧ (w.alloc (.cells news.toArray e)).grownBy w' v.ownBlock ∧ (v.ownBlock = some g ∨ g = w.heap.size + 1) ∧ g < w'.heap.size :=
  run_append_lies (P := P) (w.alloc (.cells news.toArray e)) t ty base e i z size bytes ht hi hz hsize hby hzs hsz v n xs (hown.alloc _) ⟨w.heap.size, 0, none⟩ 1 1 news (by simpa using hl)
    (by have h := World.news_of_block (cs := news.toArray) (t := e) (fr := (0, 0)) (heap_alloc_new w (.cells news.toArray e)); simpa using h) h1 (by omega) h63 hbytes (by simp; omega) (w.heap.size + 1) (by simp)

/-- Wrapping of an integer in range. -/
theorem wrap_u32 {n : Int} (h0 : 0 ≤ n) (h1 : n ≤ 4294967295) : IntKind.u32.wrap n = n := by
  have : IntKind.u32.wrap n = n % 4294967296 := by simp [IntKind.wrap_u32]
  omega
theorem wrap_u8 {n : Int} (h0 : 0 ≤ n) (h1 : n ≤ 255) : IntKind.u8.wrap n = n := by
  have : IntKind.u8.wrap n = n % 256 := by simp [IntKind.wrap_u8]
  omega
end Go.Proofs.YtojdgdeefhndiaaDoor
namespace Go.Proofs.YtojdgdeefhndiaaDoor
open Go Go.RowKit Sp
set_option maxRecDepth 100000

set_option maxHeartbeats 400000 in
theorem check_ok (place e : Int) (w : World) : Calls Tryd.prog 21 #[.bool true, .int .i64 place, .int .i64 e] w fun en w' => en = .returned (.tuple #[]) ∧ w = w' := by
  go_enter Tryd.func21, Tryd.ntmps21
  go_wp2
  go_end0
  exact ⟨rfl, rfl⟩
def fail (place e : Int) : List PanicEntry := [{ v := .iface 41 (.agg #[.int .i64 place, .int .i64 e]), recovered := false }]
set_option maxHeartbeats 400000 in
theorem check_bad (place e : Int) (w : World) : Calls Tryd.prog 21 #[.bool false, .int .i64 place, .int .i64 e] w fun en w' => en = .panicked (fail place e) ∧ w = w' := by
  go_enter Tryd.func21, Tryd.ntmps21
  go_wp2
  exact ⟨rfl, rfl, rfl⟩

/-- A string of bytes. -/
def bs (l : Bytes) : ByteArray := ⟨l.toArray⟩
theorem bs_data (l : Bytes) : (bs l).data.toList = l := by simp [bs]
theorem bs_size (l : Bytes) : (bs l).size = l.length := by simp [bs, ByteArray.size]
theorem bs_of (s : ByteArray) : bs s.data.toList = s := by apply ByteArray.ext; simp [bs]
theorem bs_toList (l : Bytes) : (bs l).toList = l := ByteArray.toList_mk _
theorem trimPrefix_minus (l : Bytes) : Lib.trimPrefix l [45] = unminus l := by
  cases l with
  | nil => rfl
  | cons c r =>
    unfold Lib.trimPrefix Lib.hasPrefix unminus
    by_cases h : c = 45
    · subst h; simp [List.isPrefixOf]
    · simp [List.isPrefixOf, h, Ne.symm h]
def digs : Bytes := [48, 49, 50, 51, 52, 53, 54, 55, 56, 57]
theorem isDig_eq (c : UInt8) : digs.contains c = isDig c := by
  rw [Bool.eq_iff_iff]
  unfold isDig digs
  simp only [List.contains_eq_mem, List.mem_cons, List.not_mem_nil, or_false, decide_eq_true_eq, ← UInt8.toNat_inj]
  simp
  omega
theorem dropWhile_nil {p : UInt8 → Bool} : ∀ {l : Bytes}, l.dropWhile p = [] ↔ l.all p = true
  | [] => by simp
  | c :: r => by
    rw [List.dropWhile_cons, List.all_cons]
    by_cases h : p c = true
    · rw [if_pos h, dropWhile_nil, h]; simp
    · rw [if_neg h]; simp [h]
theorem dropWhile_all {p : UInt8 → Bool} : ∀ (l : Bytes), (l.dropWhile p).all p = l.all p
  | [] => rfl
  | c :: r => by
    rw [List.dropWhile_cons, List.all_cons]
    by_cases h : p c = true
    · rw [if_pos h, dropWhile_all r, h]; simp
    · rw [if_neg h, List.all_cons]
theorem trimS_nil (l : Bytes) : (Lib.trimS l digs).isEmpty = l.all isDig := by
  have e : (fun c => digs.contains c) = isDig := funext isDig_eq
  rw [Bool.eq_iff_iff, List.isEmpty_iff]
  unfold Lib.trimS Lib.trimLeftS Lib.trimRightS
  rw [e, dropWhile_nil, List.all_reverse, dropWhile_all, List.all_reverse]

theorem ascii_digs : ∀ (j : Nat) b, (⟨#[48, 49, 50, 51, 52, 53, 54, 55, 56, 57]⟩ : ByteArray).data.toList[j]? = some b → b.toNat < 128 := ascii_of_all (by decide)
theorem unminus_le (l : Bytes) : (unminus l).length ≤ l.length := by
  cases l with
  | nil => simp [unminus]
  | cons c r =>
    unfold unminus
    by_cases h : c = 45 <;> simp [h]
set_option maxHeartbeats 400000 in
theorem isNumber_any (l : Bytes) (hl : l.length ≤ 4294967296) (w : World) : Calls Tryd.prog 24 #[.string (bs l)] w fun en w' => en = .returned (.bool (isNum l)) ∧ Upd noBlk w w' := by
  by_cases h0 : unminus l = []
  · have hn : isNum l = false := by unfold isNum; rw [h0]; rfl
    have HN := Lib.hid hn
    clear hn
    go_enter Tryd.func24, Tryd.ntmps24
    go_wp2_with fail
    refine (Tryd.strings_TrimPrefix _ ⟨#[45]⟩ _).mono ?_
    rw [bs_data, trimPrefix_minus]
    rintro e w1 ⟨rfl, rfl⟩
    go_wp2
    go_ret
    exact ⟨by rw [HN.out]; rfl, Upd.refl _ _⟩
  · have hn : isNum l = (!(unminus l).isEmpty && (Lib.trimS (unminus l) digs).isEmpty) := by unfold isNum; rw [trimS_nil]
    have HN := Lib.hid hn
    have hu := unminus_le l
    clear hn
    go_enter Tryd.func24, Tryd.ntmps24
    go_wp2_with fail
    refine (Tryd.strings_TrimPrefix _ ⟨#[45]⟩ _).mono ?_
    rw [bs_data, trimPrefix_minus]
    rintro e w1 ⟨rfl, rfl⟩
    go_wp2_with fail
    refine (Any.strings_Trim_laid Tryd.lays160 (by kernel_rfl) (bs (unminus l)) ⟨#[48, 49, 50, 51, 52, 53, 54, 55, 56, 57]⟩ _ (by rw [bs_size]; omega) (by decide) ascii_digs).mono ?_
    rw [bs_data]
    rintro e w2 ⟨rfl, hb⟩
    have U := Lib.hid (Upd.ofBelow (F := noBlk) hb)
    go_wp2
    go_ret
    exact ⟨by rw [HN.out]; rfl, U.out⟩
end Go.Proofs.YtojdgdeefhndiaaDoor
namespace Go.Proofs.YtojdgdeefhndiaaDoor
open Go Go.RowKit Sp
set_option maxRecDepth 100000

/-- A slice of words at any address. -/
def RdW (w : World) (A : Option Addr) (l : List Bytes) : Prop := 0 < l.length → ∃ b off, A = some ⟨b, off, none⟩ ∧ ∀ j (h : j < l.length), w.cell? ⟨b, off + j, none⟩ = some (.string (bs l[j]))
theorem RdW.keep {w w' : World} {A : Option Addr} {l : List Bytes} (h : RdW w A l) (hu : Upd noBlk w w') : RdW w' A l := by
  intro h0
  obtain ⟨b, off, e, h1⟩ := h h0
  exact ⟨b, off, e, fun j hj => hu.cell (h1 j hj) id⟩
def short (l : List Bytes) : Prop := ∀ x, x ∈ l → x.length ≤ 4294967296

set_option maxHeartbeats 400000 in
theorem numbers1_any (l : Bytes) (hl : l.length ≤ 4294967296) (w : World) : Calls Tryd.prog 40 #[.string (bs l)] w fun en w' => en = .returned (.bool (!isNum l)) ∧ Upd noBlk w w' := by
  go_enter Tryd.func40, Tryd.ntmps40
  go_wp2_with (go_at_call 24; refine (isNumber_any l hl _).mono ?_; rintro e w1 ⟨rfl, u1⟩)
  go_ret
  exact ⟨rfl, u1⟩

set_option maxHeartbeats 1000000 in
theorem indexFunc_any (A : Option Addr) (cap : Nat) (ws : List Bytes) (hl : ((ws.length : Nat) : Int) ≤ 9223372036854775807) (hs : short ws) (w : World) (h : RdW w A ws) :
    Calls Tryd.prog 56 #[.slice A ws.length cap, .func (.func 40) #[] #[]] w fun en w' => ∃ z : Int, en = .returned (.int .i64 z) ∧ decide (0 ≤ z) = ws.any (fun x => !isNum x) ∧ Upd noBlk w w' := by
  have H := Lib.hid h
  have HS := Lib.hid hs
  clear h hs
  go_enter Tryd.func56, Tryd.ntmps56
  go_wp2_with fail
  go_loopw [4, 5, 8] (fun _ _ i wr => ∃ k : Nat, i = .int .i64 k ∧ k ≤ ws.length ∧ (∀ x, x ∈ ws.take k → isNum x = true) ∧ Upd noBlk w wr) (fun _ _ i _ => ws.length - (intOf i).toNat)
  case atStart => exact ⟨0, rfl, Nat.zero_le _, by simp, Upd.refl _ _⟩
  case round =>
    obtain ⟨k, rfl, hk, ha, hu⟩ := hrel
    have HU := Lib.hid hu
    have HX := Lib.hid ha
    clear hu ha
    by_cases hlt : k < ws.length
    · obtain ⟨b, off, rfl, ea⟩ := H.out (by omega)
      have c0 : wr.cell? ⟨b, off + k, none⟩ = some (.string (bs ws[k])) := HU.out.cell (ea k hlt) id
      have hsk := Lib.hid (HS.out ws[k] (List.getElem_mem hlt))
      have hlt' : ((k : Nat) : Int) < ((ws.length : Nat) : Int) := by omega
      clear ea
      rcases hn : isNum ws[k] with _ | _
      · have hcall : ∀ w', Calls Tryd.prog 40 #[.string (bs ws[k])] w' fun en w'' => en = .returned (.bool true) ∧ Upd noBlk w' w'' := by
          intro w'; have := numbers1_any ws[k] hsk.out w'; rwa [hn] at this
        have HC := Lib.hid hcall
        have HR : Hid (ws.any (fun x => !isNum x) = true) := by
          show _ = _; rw [List.any_eq_true]; exact ⟨ws[k], List.getElem_mem hlt, by rw [hn]; rfl⟩
        clear hcall hn
        go_wp2_with (go_at_call 40; refine (HC.out _).mono ?_; rintro e w2 ⟨rfl, u2⟩)
        go_ret
        exact ⟨_, rfl, by rw [HR.out]; simp, HU.out.trans u2⟩
      · have hcall : ∀ w', Calls Tryd.prog 40 #[.string (bs ws[k])] w' fun en w'' => en = .returned (.bool false) ∧ Upd noBlk w' w'' := by
          intro w'; have := numbers1_any ws[k] hsk.out w'; rwa [hn] at this
        have HC := Lib.hid hcall
        have HN : Hid (∀ x, x ∈ ws.take (k + 1) → isNum x = true) := by
          intro x hx
          rw [List.take_succ_eq_append_getElem hlt, List.mem_append] at hx
          rcases hx with hx | hx
          · exact HX.out x hx
          · rw [List.mem_singleton] at hx; rw [hx]; exact hn
        clear hcall hn
        go_wp2_with (go_at_call 40; refine (HC.out _).mono ?_; rintro e w2 ⟨rfl, u2⟩; have U2 := Lib.hid (HU.out.trans u2); clear u2)
        go_roundw
        case rel => exact ⟨k + 1, by go_num, hlt, HN.out, U2.out⟩
        case measure => simp [intOf]; omega
    · have HR : Hid (ws.any (fun x => !isNum x) = false) := by
        show _ = _; rw [List.any_eq_false]
        intro x hx
        have : x ∈ ws.take k := by rw [List.take_of_length_le (by omega)]; exact hx
        rw [HX.out x this]; simp
      have hlt' : ¬ ((k : Nat) : Int) < ((ws.length : Nat) : Int) := by omega
      go_wp2
      go_ret
      exact ⟨_, rfl, by rw [HR.out]; rfl, HU.out⟩

set_option maxHeartbeats 400000 in
theorem containsFunc_any (A : Option Addr) (cap : Nat) (ws : List Bytes) (hl : ((ws.length : Nat) : Int) ≤ 9223372036854775807) (hs : short ws) (w : World) (h : RdW w A ws) :
    Calls Tryd.prog 39 #[.slice A ws.length cap, .func (.func 40) #[] #[]] w fun en w' => en = .returned (.bool (ws.any (fun x => !isNum x))) ∧ Upd noBlk w w' := by
  go_enter Tryd.func39, Tryd.ntmps39
  go_wp2_with fail
  refine (indexFunc_any A cap ws hl hs w h).mono ?_
  rintro e w1 ⟨z, rfl, hz, u1⟩
  have HZ := Lib.hid hz
  clear hz
  go_wp2
  go_ret
  exact ⟨by rw [← HZ.out]; rfl, u1⟩
end Go.Proofs.YtojdgdeefhndiaaDoor
