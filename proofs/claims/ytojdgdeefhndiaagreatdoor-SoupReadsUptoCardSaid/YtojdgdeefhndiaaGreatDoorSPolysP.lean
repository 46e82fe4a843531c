/- Plain laws of the second form. No condition. -/
import Derived.Test.YtojdgdeefhndiaaGreatDoorSPickP
namespace Go.Proofs.YtojdgdeefhndiaaGreatDoor
open Go Go.RowKit Sp
namespace Sp
theorem count_linesGo : ∀ (l cur : Bytes), (linesGo cur l).length = Lib.countByte l 10 + 1
  | [], cur => by simp [linesGo, Lib.countByte]
  | c :: r, cur => by
    rw [linesGo]
    by_cases h : c = 10
    · rw [if_pos h, List.length_cons, count_linesGo r []]
      subst h
      simp [Lib.countByte]
    · rw [if_neg h, count_linesGo r _]
      simp [Lib.countByte, h]
def polysS (s : Bytes) : Out := twoN (linesAll s) 0 [] (linesOf s).length
theorem polysS_eq (s : Bytes) : twoGo 1 (linesOf s) 0 [] = polysS s := by
  rw [twoGo_eq]
  unfold polysS linesAll
  congr 1
  omega
theorem twoN_corner {i : Nat} {ws : List Bytes} {r : List (Nat × List Bytes)} {left last : Nat} {ps : List Poly} (hl : left ≠ 0) : twoN ((i, ws) :: r) left ps last = match cornerS ws with | .bad e => .bad i e | .ok p => twoN r (left - 1) (addLast ps p) last := by
  rw [twoN, if_neg hl]
  cases cornerS ws <;> rfl
theorem twoN_head {i : Nat} {ws : List Bytes} {r : List (Nat × List Bytes)} {last : Nat} {ps : List Poly} : twoN ((i, ws) :: r) 0 ps last = match headS ws with | .bad e => .bad i e | .ok n => if 65536 ≤ ps.length then .bad i 2 else twoN r n (ps ++ [([], i)]) last := by
  rw [twoN, if_pos rfl]
  cases headS ws <;> rfl
theorem addLast_snoc (ps : List Poly) (q : Poly) (p : Pt) : addLast (ps ++ [q]) p = ps ++ [(q.1 ++ [p], q.2)] := by
  unfold addLast
  simp
theorem headS_len {ws : List Bytes} (h : ws.length ≠ 2) : headS ws = .bad 10 := by
  unfold headS
  match ws, h with
  | [], _ => rfl
  | [_], _ => rfl
  | [_, _], h => exact absurd rfl h
  | _ :: _ :: _ :: _, _ => rfl
theorem headS_word {a b : Bytes} (h : a ≠ wPoly) : headS [a, b] = .bad 10 := by
  unfold headS; simp [h]
theorem headS_num {a b : Bytes} (h : isNum b = false) : headS [a, b] = .bad 10 := by
  unfold headS; simp [h]
theorem headS_minus {a : Bytes} {r : Bytes} : headS [a, 45 :: r] = .bad 10 := by
  unfold headS; simp
theorem headS_good {c : UInt8} {r : Bytes} (h : isNum (c :: r) = true) (hc : c ≠ 45) : headS [wPoly, c :: r] = if Sp.long (c :: r) || decide (natOf (c :: r) < 3) then .bad 11 else if 64 < natOf (c :: r) then .bad 2 else .ok (natOf (c :: r)) := by
  unfold headS; simp [h, hc]
theorem valOf_plain {c : UInt8} {r : Bytes} (hc : c ≠ 45) : Sp.valOf (c :: r) = (natOf (c :: r) : Int) := by
  unfold Sp.valOf unminus; simp [hc]
theorem isNum_cons {b : Bytes} (h : isNum b = true) : ∃ c r, b = c :: r := by
  cases b with
  | nil => simp [isNum, unminus] at h
  | cons c r => exact ⟨c, r, rfl⟩
theorem numsP_one {b : Bytes} (h : isNum b = true) : numsP 1 1 [b] = if Sp.long b then .bad 11 else .ok [Sp.valOf b] := by
  unfold numsP; simp [h]
end Sp
theorem polyVs_snoc (qs : List (Value × Poly)) (q : Value × Poly) : polyVs (qs ++ [q]) = polyVs qs ++ [q.1, .int .i64 q.2.2] := by simp [polyVs]
theorem polyVs_len : ∀ qs : List (Value × Poly), (polyVs qs).length = 2 * qs.length
  | [] => rfl
  | q :: r => by
    have : polyVs (q :: r) = [q.1, .int .i64 q.2.2] ++ polyVs r := rfl
    rw [this, List.length_append, polyVs_len r]; simp; omega
end Go.Proofs.YtojdgdeefhndiaaGreatDoor
