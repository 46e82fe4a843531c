/- A reader of the coder and one of the reference side by side; a slice of bools of any address. -/
import Derived.Test.YtadfolnhomongaaDoorLawB
import Derived.Test.YtadfolnhomongaaDoorPureN
namespace Go.Proofs.YtadfolnhomongaaDoor
open Go Go.RowKit Pc
set_option maxRecDepth 100000

/-- Both readers, the blocks of the first one, and what was there before. -/
structure RdAt (w wr : World) (r m : Nat) (d dm : D) (n : Nat) (F : Nat → Prop) : Prop where
  rep : RRep wr r d F
  rr : RR wr m dm n
  new : NewF F w
  mnew : w.heap.size ≤ m
  ne : ¬ F m
  up : Upd noBlk w wr
theorem RdAt.upd {w wr w2 : World} {r m : Nat} {d dm : D} {n : Nat} {F : Nat → Prop} (h : RdAt w wr r m d dm n F) (hu : Upd noBlk wr w2) : RdAt w w2 r m d dm n F :=
  ⟨h.rep.upd hu (fun _ _ => id), h.rr.upd hu id, h.new, h.mnew, h.ne, h.up.trans hu⟩
theorem RdAt.drew {w wr : World} {r m : Nat} {d dm : D} {n : Nat} {F : Nat → Prop} (h : RdAt w wr r m d dm n F) : RdAt w wr.drew r m d dm n F := h.upd (Upd.refl noBlk wr).drew
theorem RdAt.cbit {w wr : World} {r m : Nat} {d dm : D} {n : Nat} {F : Nat → Prop} (h : RdAt w wr r m d dm n F) (c : Int) :
    Calls Tryd.prog 28 #[.pointer (some ⟨r, 0, none⟩), .int .i64 c] wr fun en w' => en = .returned (.bool (d.one c)) ∧ ∃ F', RdAt w w' r m (d.bit c) dm n F' := by
  refine (RBit_any r c d F wr h.rep).mono ?_
  rintro e w2 ⟨rfl, F', q1, q2, q3⟩
  have hm := h.rr.lt
  exact ⟨rfl, F', q1, h.rr.upd q2 h.ne, fun j hj => (q3 j hj).elim (h.new j) (fun x => Nat.le_trans h.up.size x), h.mnew, fun hF => (q3 m hF).elim h.ne (fun x => by omega), upd_new h.up q2 h.new⟩
theorem RdAt.rbit {w wr : World} {r m : Nat} {d dm : D} {n : Nat} {F : Nat → Prop} (h : RdAt w wr r m d dm n F) (hn : n ≤ 999999) (c : Int) :
    Calls Tryd.prog 29 #[.pointer (some ⟨m, 0, none⟩), .int .i64 c] wr fun en w' => en = .returned (.bool (dm.one c)) ∧ RdAt w w' r m d (dm.bit c) (n + 1) F := by
  refine (rRBit_any m n c dm hn wr h.rr).mono ?_
  rintro e w2 ⟨rfl, q1, q2⟩
  exact ⟨rfl, h.rep.upd q2 (fun k hk hm => h.ne (hm ▸ hk)), q1, h.new, h.mnew, h.ne, upd_new h.up q2 (fun j hj => by rw [hj]; exact h.mnew)⟩

theorem RdAt.make {w wa wc wd : World} {code : List Nat} (hcode : ∀ x, x ∈ code → x < 256) (h : Upd noBlk w wa) (hc : Upd noBlk (wa.alloc (.cells (rZero code) 75)) wc) (hr : RR wd wc.heap.size (D.ofCode code) 4) (hd : Upd noBlk wc wd) :
    RdAt w wd wa.heap.size wc.heap.size (D.ofCode code) (D.ofCode code) 4 (· = wa.heap.size) := by
  have h1 := h.size
  have h2 := hc.size
  simp at h2
  exact ⟨((NewReader_rep hcode wa).upd hc (fun _ _ => id)).upd hd (fun _ _ => id), hr, fun k hk => by subst hk; exact h1, by omega, by omega, ((h.alloc _).trans hc).trans hd⟩

/-- A writer and what was there before. -/
structure WAt (w wr : World) (b : Nat) (e : E) (F : Nat → Prop) : Prop where
  rep : WRep wr b e F
  new : NewF F w
  up : Upd noBlk w wr
theorem WAt.upd {w wr w2 : World} {b : Nat} {e : E} {F : Nat → Prop} (h : WAt w wr b e F) (hu : Upd noBlk wr w2) : WAt w w2 b e F := ⟨h.rep.upd hu (fun _ _ => id), h.new, h.up.trans hu⟩
theorem WAt.drew {w wr : World} {b : Nat} {e : E} {F : Nat → Prop} (h : WAt w wr b e F) : WAt w wr.drew b e F := h.upd (Upd.refl noBlk wr).drew
theorem WAt.make {w w1 : World} (h : Upd noBlk w w1) : WAt w (w1.alloc (.cells wZero 73)) w1.heap.size E.init (· = w1.heap.size) := ⟨NewWriter_rep w1, fun k hk => by subst hk; exact h.size, h.alloc _⟩
theorem WAt.bit {w wr : World} {b : Nat} {e : E} {F : Nat → Prop} (h : WAt w wr b e F) (c : Int) (one : Bool) (hlen : e.done.length + 1 ≤ 1000000) :
    Calls Tryd.prog 24 #[.pointer (some ⟨b, 0, none⟩), .int .i64 c, .bool one] wr fun en w' => en = .returned (.tuple #[]) ∧ ∃ F', WAt w w' b (e.bit c one) F' := by
  refine (WBit_any b c one e F wr h.rep hlen).mono ?_
  rintro en w2 ⟨rfl, F', q1, q2, q3⟩
  exact ⟨rfl, F', q1, fun j hj => (q3 j hj).elim (h.new j) (fun x => Nat.le_trans h.up.size x), upd_new h.up q2 h.new⟩
theorem WAt.finish {w wr : World} {b : Nat} {e : E} {F : Nat → Prop} (h : WAt w wr b e F) (hlen : e.done.length + 1 ≤ 1000000) :
    Calls Tryd.prog 25 #[.pointer (some ⟨b, 0, none⟩)] wr fun en w' => en = .returned (.string (str e.finish)) ∧ WAt w w' b e F := by
  refine (WFinish_any b e F wr h.rep hlen).mono ?_
  rintro en w2 ⟨rfl, u⟩
  exact ⟨rfl, h.upd u⟩
theorem encFrom_len (l : List (Int × Bool)) (h : l.length ≤ 900000) : (encFrom E.init l).done.length + 1 ≤ 1000000 := by
  have h1 := encFrom_done_length E.init l
  have h2 : E.init.done.length = 0 := rfl
  omega

theorem encFrom_append2 (e : E) (l : List (Int × Bool)) (x y : Int × Bool) : encFrom e (l ++ [x, y]) = ((encFrom e l).bit x.1 x.2).bit y.1 y.2 := by simp [encFrom, List.foldl_append]
/-- A slice of bools at any address. -/
def RdB (w : World) (A : Option Addr) (l : List Bool) : Prop := 0 < l.length → ∃ b off, A = some ⟨b, off, none⟩ ∧ ∀ j (h : j < l.length), w.cell? ⟨b, off + j, none⟩ = some (.bool l[j])
/-- Two lists by turns, their first k elements. -/
def turns (c0 c1 : Int) (a b : List Bool) : Nat → List (Int × Bool)
  | 0 => []
  | k + 1 => turns c0 c1 a b k ++ [(c0, a.getD k false), (c1, b.getD k false)]
theorem turns_length (c0 c1 : Int) (a b : List Bool) (k : Nat) : (turns c0 c1 a b k).length = 2 * k := by
  induction k with
  | zero => rfl
  | succ k ih => rw [turns, List.length_append, ih]; simp; omega
/-- What comes behind the first j of k turns. -/
def turnsFrom (c0 c1 : Int) (a b : List Bool) (j : Nat) : Nat → List (Int × Bool)
  | 0 => []
  | n + 1 => (c0, a.getD j false) :: (c1, b.getD j false) :: turnsFrom c0 c1 a b (j + 1) n
theorem turnsFrom_snoc (c0 c1 : Int) (a b : List Bool) (j n : Nat) : turnsFrom c0 c1 a b j (n + 1) = turnsFrom c0 c1 a b j n ++ [(c0, a.getD (j + n) false), (c1, b.getD (j + n) false)] := by
  induction n generalizing j with
  | zero => rfl
  | succ n ih =>
    rw [turnsFrom, ih (j + 1)]
    simp only [turnsFrom, List.cons_append, List.cons.injEq, true_and]
    rw [show j + 1 + n = j + (n + 1) by omega]
theorem turns_eq (c0 c1 : Int) (a b : List Bool) (k : Nat) : turns c0 c1 a b k = turnsFrom c0 c1 a b 0 k := by
  induction k with
  | zero => rfl
  | succ k ih => rw [turns, ih, turnsFrom_snoc, Nat.zero_add]
end Go.Proofs.YtadfolnhomongaaDoor
