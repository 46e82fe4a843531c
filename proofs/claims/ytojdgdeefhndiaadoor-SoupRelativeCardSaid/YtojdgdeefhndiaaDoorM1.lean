/- The polygon files as plain functions on lists of bytes. No condition. The library's Split at line ends and its Cut at '#', as plain functions. No condition. -/
import Derived.Lib.FieldsP
import Derived.Lib.CutLaws
import Derived.Lib.Split
import Derived.Lib.CountLaws
namespace Go.Proofs.YtojdgdeefhndiaaDoor
namespace Sp

abbrev Bytes := List UInt8
def blank (c : UInt8) : Bool := c == 32 || c == 9 || c == 13
def flush (cur : Bytes) : List Bytes := if cur = [] then [] else [cur]
/-- The pieces without blanks; cur: the one under way. -/
def fieldsGo : Bytes → Bytes → List Bytes
  | cur, [] => flush cur
  | cur, c :: r => if blank c then flush cur ++ fieldsGo [] r else fieldsGo (cur ++ [c]) r
/-- What stands ahead of the first '#'. -/
def ahead : Bytes → Bytes
  | [] => []
  | c :: r => if c = 35 then [] else c :: ahead r
def wordsOf (l : Bytes) : List Bytes := fieldsGo [] (ahead l)
def linesGo : Bytes → Bytes → List Bytes
  | cur, [] => [cur]
  | cur, c :: r => if c = 10 then cur :: linesGo [] r else linesGo (cur ++ [c]) r
def linesOf (l : Bytes) : List Bytes := linesGo [] l

abbrev Pt := Int × Int × Int
abbrev Poly := List Pt × Nat
def isDig (c : UInt8) : Bool := decide (48 ≤ c.toNat ∧ c.toNat ≤ 57)
def unminus : Bytes → Bytes
  | [] => []
  | c :: r => if c = 45 then r else c :: r
def isNum (w : Bytes) : Bool := !(unminus w).isEmpty && (unminus w).all isDig
def long (w : Bytes) : Bool := decide (15 < (unminus w).length)
def natOf (d : Bytes) : Nat := d.foldl (fun a c => 10 * a + (c.toNat - 48)) 0
def valOf (w : Bytes) : Int := if w.head? = some 45 then - (natOf (unminus w) : Int) else (natOf (unminus w) : Int)
def maxCoord : Int := 2097151
def inR (p : Pt) : Bool := decide (0 ≤ p.1 ∧ p.1 ≤ maxCoord ∧ 0 ≤ p.2.1 ∧ p.2.1 ≤ maxCoord ∧ 0 ≤ p.2.2 ∧ p.2.2 ≤ maxCoord)

inductive R (α : Type) where
  | ok (x : α)
  | bad (e : Nat)
def numbersS (ws : List Bytes) : R (List Int) := if !ws.all isNum then .bad 10 else if ws.any long then .bad 11 else .ok (ws.map valOf)
def cornerS (ws : List Bytes) : R Pt :=
  match ws with
  | [a, b, c] => match numbersS [a, b, c] with
    | .bad e => .bad e
    | .ok _ => if inR (valOf a, valOf b, valOf c) then .ok (valOf a, valOf b, valOf c) else .bad 3
  | _ => .bad 10
/-- The corners that numbers denote. -/
def pick (cs : List Pt) : List Int → R (List Pt)
  | [] => .ok []
  | n :: r => match cs[(if n < 0 then (cs.length : Int) + n else n - 1).toNat]? with
    | none => .bad 14
    | some p => if (if n < 0 then (cs.length : Int) + n else n - 1) < 0 then .bad 14 else match pick cs r with
      | .bad e => .bad e
      | .ok l => .ok (p :: l)
def faceS (cs : List Pt) (ws : List Bytes) : R (List Pt) :=
  if ws.length < 3 || !ws.all isNum then .bad 10 else if 64 < ws.length then .bad 2 else if ws.any long then .bad 11 else pick cs (ws.map valOf)

/-- What reading comes to: polygons, or the place of the first error, and the error. -/
inductive Out where
  | ok (l : List Poly)
  | bad (place e : Nat)
def wV : Bytes := [118]
def wF : Bytes := [102]
def wPoly : Bytes := [112, 111, 108, 121]
def oneGo : Nat → List Bytes → List Pt → List Poly → Out
  | _, [], _, ps => .ok ps
  | i, l :: r, cs, ps => match wordsOf l with
    | [] => oneGo (i + 1) r cs ps
    | w :: ws =>
      if w = wV then (match cornerS ws with
        | .bad e => .bad i e
        | .ok p => oneGo (i + 1) r (cs ++ [p]) ps)
      else if w = wF then (match faceS cs ws with
        | .bad e => .bad i e
        | .ok c => if 65536 ≤ ps.length then .bad i 2 else oneGo (i + 1) r cs (ps ++ [(c, i)]))
      else .bad i 10
def headS (ws : List Bytes) : R Nat :=
  match ws with
  | [a, b] => if a = wPoly && isNum b && b.head? != some 45 then (if long b || decide (natOf b < 3) then .bad 11 else if 64 < natOf b then .bad 2 else .ok (natOf b)) else .bad 10
  | _ => .bad 10
def addLast (ps : List Poly) (p : Pt) : List Poly :=
  match ps.getLast? with
  | none => ps
  | some q => ps.dropLast ++ [(q.1 ++ [p], q.2)]
def twoGo : Nat → List Bytes → Nat → List Poly → Out
  | i, [], left, ps => if left = 0 then .ok ps else .bad (i - 1) 12
  | i, l :: r, left, ps => match wordsOf l with
    | [] => twoGo (i + 1) r left ps
    | w :: ws =>
      if left = 0 then (match headS (w :: ws) with
        | .bad e => .bad i e
        | .ok n => if 65536 ≤ ps.length then .bad i 2 else twoGo (i + 1) r n (ps ++ [([], i)]))
      else (match cornerS (w :: ws) with
        | .bad e => .bad i e
        | .ok p => twoGo (i + 1) r (left - 1) (addLast ps p))
/-- A number of n bytes, the least significant one first. -/
def leNat : Bytes → Nat
  | [] => 0
  | c :: r => c.toNat + 256 * leNat r
/-- The number of n bytes at a place, at most so great: or the place and the error. -/
inductive N where
  | ok (v : Nat)
  | bad (place e : Nat)
def numS (s : Bytes) (at_ n most e : Nat) : N :=
  if s.length < at_ + n then .bad s.length 12 else if most < leNat ((s.drop at_).take n) then .bad at_ e else .ok (leNat ((s.drop at_).take n))
inductive C where
  | ok (l : List Pt)
  | bad (place e : Nat)
def cornersB (s : Bytes) : Nat → Nat → List Pt → C
  | _, 0, acc => .ok acc
  | at_, k + 1, acc => match numS s at_ 3 2097151 3 with
    | .bad p e => .bad p e
    | .ok x => match numS s (at_ + 3) 3 2097151 3 with
      | .bad p e => .bad p e
      | .ok y => match numS s (at_ + 6) 3 2097151 3 with
        | .bad p e => .bad p e
        | .ok z => cornersB s (at_ + 9) k (acc ++ [((x : Int), (y : Int), (z : Int))])
def polysB (s : Bytes) : Nat → Nat → List Poly → Out
  | at_, 0, acc => if at_ = s.length then .ok acc else .bad at_ 13
  | at_, k + 1, acc => match numS s at_ 1 64 2 with
    | .bad p e => .bad p e
    | .ok n => if n < 3 then .bad at_ 11 else match cornersB s (at_ + 1) n [] with
      | .bad p e => .bad p e
      | .ok l => polysB s (at_ + 1 + 9 * n) k (acc ++ [(l, at_)])
def threeS (s : Bytes) : Out :=
  match numS s 4 4 65536 2 with
  | .bad p e => .bad p e
  | .ok n => polysB s 8 n []
/-- The first word of a text. -/
def firstWord : List Bytes → Bytes
  | [] => []
  | l :: r => match wordsOf l with
    | [] => firstWord r
    | w :: _ => w
def magic : Bytes := [83, 79, 85, 80]
def readS (s : Bytes) : Out :=
  if magic.isPrefixOf s then threeS s else if firstWord (linesOf s) = wPoly then twoGo 1 (linesOf s) 0 [] else oneGo 1 (linesOf s) [] []

/-! ### The library's pieces are these -/
open Go.Lib
def blankR (r : Nat) : Bool := r == 32 || r == 9 || r == 13
theorem fieldsGo_run : ∀ (x cur r : Bytes), (∀ c, c ∈ x → blank c = false) → fieldsGo cur (x ++ r) = fieldsGo (cur ++ x) r
  | [], cur, r, _ => by simp
  | c :: x, cur, r, h => by
    rw [List.cons_append, fieldsGo, h c (by simp), if_neg (by simp), fieldsGo_run x _ r (fun d hd => h d (by simp [hd])), List.append_assoc]; rfl
theorem dec_cases (s : ByteArray) (pos : Nat) (h : pos < s.size) :
    ((s.get! pos).toNat < 128 ∧ Utf8.decode s pos = ((s.get! pos).toNat, 1)) ∨
    (128 ≤ (Utf8.decode s pos).1 ∧ 1 ≤ (Utf8.decode s pos).2 ∧ pos + (Utf8.decode s pos).2 ≤ s.size ∧ ∀ j, j < (Utf8.decode s pos).2 → 128 ≤ (s.get! (pos + j)).toNat) := by
  unfold Utf8.decode
  simp only [Nat.add_zero]
  by_cases h0 : (s.get! pos).toNat < 128
  · left; rw [if_pos h0]; exact ⟨h0, rfl⟩
  · right
    rw [if_neg h0]
    have one : ∀ j, j < 1 → 128 ≤ (s.get! (pos + j)).toNat := fun j hj => by
      obtain rfl : j = 0 := by omega
      simpa using (by omega : 128 ≤ (s.get! pos).toNat)
    have err : 128 ≤ Utf8.runeError := by decide
    split
    · rename_i h1
      simp only [Bool.and_eq_true, beq_iff_eq, decide_eq_true_eq] at h1
      split
      · exact ⟨by assumption, by simp, by simp; omega, fun j hj => by
          rcases Nat.lt_or_ge j 1 with h | h
          · exact one j h
          · obtain rfl : j = 1 := by simp at hj; omega
            omega⟩
      · exact ⟨err, Nat.le_refl _, h, one⟩
    · split
      · rename_i h1
        simp only [Bool.and_eq_true, beq_iff_eq, decide_eq_true_eq] at h1
        split
        · rename_i h2
          simp only [Bool.and_eq_true, decide_eq_true_eq] at h2
          exact ⟨by simp only; omega, by simp, by simp; omega, fun j hj => by
            rcases Nat.lt_or_ge j 1 with h | h
            · exact one j h
            · have hj' : j = 1 ∨ j = 2 := by simp at hj; omega
              rcases hj' with rfl | rfl <;> omega⟩
        · exact ⟨err, Nat.le_refl _, h, one⟩
      · split
        · rename_i h1
          simp only [Bool.and_eq_true, beq_iff_eq, decide_eq_true_eq] at h1
          split
          · rename_i h2
            simp only [Bool.and_eq_true, decide_eq_true_eq] at h2
            exact ⟨by simp only; omega, by simp, by simp; omega, fun j hj => by
              rcases Nat.lt_or_ge j 1 with h | h
              · exact one j h
              · have hj' : j = 1 ∨ j = 2 ∨ j = 3 := by simp at hj; omega
                rcases hj' with rfl | rfl | rfl <;> omega⟩
          · exact ⟨err, Nat.le_refl _, h, one⟩
        · exact ⟨err, Nat.le_refl _, h, one⟩

theorem get_eq (s : ByteArray) (i : Nat) (h : i < s.size) : s.get! i = s.data.toList[i]'(by simpa using h) := by
  obtain ⟨d⟩ := s
  show d[i]! = _
  have h' : i < d.size := h
  simp [getElem!_pos d i h']
theorem drop_get (s : ByteArray) (i : Nat) (h : i < s.size) : s.data.toList.drop i = s.get! i :: s.data.toList.drop (i + 1) := by
  rw [get_eq s i h]
  exact List.drop_eq_getElem_cons (by simpa using h)
theorem blankR_ascii (c : UInt8) : blankR c.toNat = blank c := by
  have e : ∀ k : Nat, k < 256 → ∀ u : UInt8, u = UInt8.ofNat k → (c.toNat == k) = (c == u) := by
    intro k hk u hu
    subst hu
    rw [Bool.eq_iff_iff, beq_iff_eq, beq_iff_eq, ← UInt8.toNat_inj]
    simp; omega
  unfold blankR blank
  rw [e 32 (by omega) 32 rfl, e 9 (by omega) 9 rfl, e 13 (by omega) 13 rfl]
theorem blank_high {c : UInt8} (h : 128 ≤ c.toNat) : blank c = false := by
  rw [← blankR_ascii]; unfold blankR
  simp; omega
theorem flush_ne {l : Bytes} (h : l ≠ []) : flush l = [l] := by unfold flush; rw [if_neg h]
theorem closed_eq (s : ByteArray) (acc : List (Nat × Nat)) (st : Option Nat) (h : ∀ a, st = some a → a < s.size) :
    acc.map (fun p => pieceU s.data.toList p.1 p.2) ++ flush (openPiece s.data.toList st s.size) = (closeSpans s (acc, st)).map (fun p => pieceU s.data.toList p.1 p.2) := by
  cases st with
  | none => simp [closeSpans, openPiece, flush]
  | some a =>
    have hne : pieceU s.data.toList a s.size ≠ [] := pieceU_ne _ _ _ (h a rfl) (by simp)
    simp only [closeSpans, openPiece]
    rw [flush_ne hne, List.map_append]; rfl
theorem fields_eq (s : ByteArray) : ∀ (f pos : Nat) (st : Option Nat) (acc : List (Nat × Nat)), s.size ≤ pos + f → pos ≤ s.size → (∀ a, st = some a → a < pos) →
    acc.map (fun p => pieceU s.data.toList p.1 p.2) ++ fieldsGo (openPiece s.data.toList st pos) (s.data.toList.drop pos) = (closeSpans s (spansFromP blankR s f pos st acc)).map (fun p => pieceU s.data.toList p.1 p.2)
  | 0, pos, st, acc, h, hp, hst => by
    obtain rfl : pos = s.size := by omega
    have hd : s.data.toList.drop s.size = [] := List.drop_eq_nil_of_le (by simp)
    rw [hd, fieldsGo]
    exact closed_eq s acc st hst
  | f + 1, pos, st, acc, h, hp, hst => by
    by_cases hlt : pos < s.size
    · unfold spansFromP
      rw [if_pos hlt]
      rcases dec_cases s pos hlt with ⟨h1, h2⟩ | ⟨h1, h2, h3, h4⟩
      · rw [h2]
        simp only
        rw [blankR_ascii, drop_get s pos hlt, fieldsGo]
        by_cases hb : blank (s.get! pos) = true
        · rw [if_pos hb, if_pos hb]
          cases st with
          | none =>
            have ih := fields_eq s f (pos + 1) none acc (by omega) (by omega) (fun a ha => by cases ha)
            simp only at ih ⊢
            rw [← ih]; simp [openPiece, flush]
          | some a =>
            have ih := fields_eq s f (pos + 1) none (acc ++ [(a, pos)]) (by omega) (by omega) (fun a ha => by cases ha)
            have hne : pieceU s.data.toList a pos ≠ [] := pieceU_ne _ _ _ (hst a rfl) (by simp; omega)
            simp only at ih ⊢
            rw [← ih]
            simp only [openPiece, flush_ne hne, List.map_append, List.map_cons, List.map_nil, List.append_assoc]
        · have hb' : blank (s.get! pos) = false := by simpa using hb
          rw [hb', if_neg (by simp), if_neg (by simp)]
          have ht : (s.data.toList.drop pos).take 1 = [s.get! pos] := by rw [drop_get s pos hlt]; rfl
          cases st with
          | none =>
            have ih := fields_eq s f (pos + 1) (some pos) acc (by omega) (by omega) (fun a ha => by cases ha; omega)
            simp only at ih ⊢
            rw [← ih]
            simp only [openPiece, List.nil_append]
            congr 2
            unfold pieceU
            rw [show pos + 1 - pos = 1 by omega, ht]
          | some a =>
            have ih := fields_eq s f (pos + 1) (some a) acc (by omega) (by omega) (fun b hb => by cases hb; have := hst _ rfl; omega)
            simp only at ih ⊢
            rw [← ih]
            simp only [openPiece]
            rw [← pieceU_grow _ a pos 1 (by have := hst a rfl; omega), ht]
      · have hb : blankR (Utf8.decode s pos).1 = false := by unfold blankR; simp; omega
        rw [hb, if_neg (by simp)]
        have hs : s.data.toList.drop pos = (s.data.toList.drop pos).take (Utf8.decode s pos).2 ++ s.data.toList.drop (pos + (Utf8.decode s pos).2) := by
          rw [← List.drop_drop]; exact (List.take_append_drop _ _).symm
        have hx : ∀ c, c ∈ (s.data.toList.drop pos).take (Utf8.decode s pos).2 → blank c = false := by
          intro c hc
          obtain ⟨j, hj, rfl⟩ := List.getElem_of_mem hc
          rw [List.length_take] at hj
          rw [List.getElem_take, List.getElem_drop, ← get_eq s (pos + j) (by omega)]
          exact blank_high (h4 j (by omega))
        generalize (Utf8.decode s pos).2 = wd at *
        cases st with
        | none =>
          have ih := fields_eq s f (pos + wd) (some pos) acc (by omega) (by omega) (fun a ha => by cases ha; omega)
          simp only at ih ⊢
          rw [← ih, hs, fieldsGo_run _ _ _ hx]
          simp only [openPiece, List.nil_append]
          congr 2
          unfold pieceU
          rw [show pos + wd - pos = wd by omega]
        | some a =>
          have ih := fields_eq s f (pos + wd) (some a) acc (by omega) (by omega) (fun b hb => by cases hb; have := hst _ rfl; omega)
          simp only at ih ⊢
          rw [← ih, hs, fieldsGo_run _ _ _ hx]
          simp only [openPiece]
          rw [← pieceU_grow _ a pos wd (by have := hst a rfl; omega)]
    · obtain rfl : pos = s.size := by omega
      have hd : s.data.toList.drop s.size = [] := List.drop_eq_nil_of_le (by simp)
      rw [hd, fieldsGo, spansFromP_end _ _ _ _ _ _ hlt]
      exact closed_eq s acc st hst
theorem goFields_eq (s : ByteArray) : (goFieldsP blankR s).map (fun x => x.data.toList) = fieldsGo [] s.data.toList := by
  have h := fields_eq s s.size 0 none [] (by omega) (by omega) (fun a ha => by cases ha)
  simp only [List.map_nil, List.nil_append, openPiece, List.drop_zero] at h
  rw [h]
  unfold goFieldsP spansOfP
  rw [List.map_map]
  apply List.map_congr_left
  intro p _
  simp [pieceU, List.extract_eq_take_drop]
end Sp
end Go.Proofs.YtojdgdeefhndiaaDoor
namespace Go.Proofs.YtojdgdeefhndiaaDoor
namespace Sp
open Go.Lib

theorem index_split (c : UInt8) : ∀ l : Bytes, (index l [c] = -1 ∧ c ∉ l) ∨ ∃ i : Nat, index l [c] = i ∧ i < l.length ∧ l = l.take i ++ c :: l.drop (i + 1) ∧ c ∉ l.take i
  | [] => .inl ⟨rfl, by simp⟩
  | b :: l => by
    unfold index
    by_cases hb : c = b
    · subst hb
      right
      refine ⟨0, by simp, by simp, by simp, by simp⟩
    · have hp : ([c] : Bytes).isPrefixOf (b :: l) = false := by simp [List.isPrefixOf, hb]
      rw [hp, if_neg (by simp)]
      rcases index_split c l with ⟨h1, h2⟩ | ⟨i, h1, h2, h3, h4⟩
      · left
        rw [h1]
        exact ⟨by simp, by simp [h2, hb]⟩
      · right
        refine ⟨i + 1, ?_, by simp; omega, ?_, ?_⟩
        · rw [h1, if_neg (by simp)]; rfl
        · simp only [List.take_succ_cons, List.drop_succ_cons, List.cons_append]; rw [← h3]
        · simp [h4, hb]
theorem ahead_none : ∀ {l : Bytes}, (35 : UInt8) ∉ l → ahead l = l
  | [], _ => rfl
  | c :: r, h => by
    have h1 : ¬ c = 35 := fun e => h (by simp [e])
    rw [ahead, if_neg h1, ahead_none (fun hr => h (by simp [hr]))]
theorem ahead_some : ∀ {x r : Bytes}, (35 : UInt8) ∉ x → ahead (x ++ 35 :: r) = x
  | [], _, _ => by simp [ahead]
  | c :: x, r, h => by
    have h1 : ¬ c = 35 := fun e => h (by simp [e])
    rw [List.cons_append, ahead, if_neg h1, ahead_some (fun hr => h (by simp [hr]))]
theorem cut_ahead (l : Bytes) : (cut l [35]).1 = ahead l := by
  unfold cut
  rcases index_split 35 l with ⟨h1, h2⟩ | ⟨i, h1, h2, h3, h4⟩
  · rw [h1, if_neg (by omega), ahead_none h2]
  · rw [h1, if_pos (by omega)]
    show l.take (i : Int).toNat = _
    rw [Int.toNat_natCast]
    conv => rhs; rw [h3]
    rw [ahead_some h4]
theorem lines_none : ∀ {l cur : Bytes}, (10 : UInt8) ∉ l → linesGo cur l = [cur ++ l]
  | [], cur, _ => by simp [linesGo]
  | c :: r, cur, h => by
    have h1 : ¬ c = 10 := fun e => h (by simp [e])
    rw [linesGo, if_neg h1, lines_none (fun hr => h (by simp [hr]))]; simp
theorem lines_some : ∀ {x cur r : Bytes}, (10 : UInt8) ∉ x → linesGo cur (x ++ 10 :: r) = (cur ++ x) :: linesGo [] r
  | [], cur, r, _ => by simp [linesGo]
  | c :: x, cur, r, h => by
    have h1 : ¬ c = 10 := fun e => h (by simp [e])
    rw [List.cons_append, linesGo, if_neg h1, lines_some (fun hr => h (by simp [hr]))]; simp
theorem data_extract (s : ByteArray) (a b : Nat) : (s.extract a b).data.toList = (s.data.toList.drop a).take (b - a) := by
  simp [List.extract_eq_take_drop]
def nl : ByteArray := ⟨#[10]⟩
theorem split_lines : ∀ (n : Nat) (s : ByteArray), s.size ≤ n → (splitB nl 0 (countB s nl) s).map (fun x => x.data.toList) = linesOf s.data.toList
  | n, s, hn => by
    rcases index_split 10 s.data.toList with ⟨h1, h2⟩ | ⟨i, h1, h2, h3, h4⟩
    · have h5 : indexB s nl = -1 := h1
      rw [countB_miss s nl h5, splitB_miss nl 0 0 s h5]
      unfold linesOf
      rw [lines_none h2]; rfl
    · have h5 : indexB s nl = i := h1
      have h6 := countB_hit s nl i (by decide) h5
      have hsz : s.data.toList.length = s.size := by simp
      rw [h6, Nat.add_comm, splitB_hit nl 0 _ s i h5]
      cases n with
      | zero => omega
      | succ n =>
        have hnl : nl.size = 1 := rfl
        have ih := split_lines n (s.extract (i + nl.size) s.size) (by rw [hnl, ByteArray.size_extract]; omega)
        rw [List.map_cons, ih, data_extract, data_extract]
        unfold linesOf
        conv => rhs; rw [h3]
        rw [lines_some h4, hnl]
        simp only [Nat.add_zero, List.drop_zero, Nat.sub_zero, List.nil_append, List.cons.injEq, true_and]
        rw [List.take_of_length_le (by rw [List.length_drop]; omega)]
theorem linesGo_ne (cur l : Bytes) : linesGo cur l ≠ [] := by
  induction l generalizing cur with
  | nil => simp [linesGo]
  | cons c r ih => unfold linesGo; split
                   · simp
                   · exact ih _
end Sp
end Go.Proofs.YtojdgdeefhndiaaDoor
