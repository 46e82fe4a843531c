/- Numbers of a few bytes, the least significant one first, as plain sums. No condition. -/
import Derived.Test.YtojdgdeefhndiaaGreatDoorLib
import Derived.Test.YtojdgdeefhndiaaGreatDoorSPure
import Derived.Laws.BitsAllLaws
namespace Go.Proofs.YtojdgdeefhndiaaGreatDoor
open Go Go.RowKit Sp

theorem i64_or_nat (a b : Nat) (ha : a < 4611686018427387904) (hb : b < 4611686018427387904) : bits .or .i64 (a : Int) (b : Int) = ((a ||| b : Nat) : Int) := by
  have hx : a ||| b < 2 ^ 62 := Nat.or_lt_two_pow (by omega) (by omega)
  have h1 : (BitVec.ofInt 64 (a : Int)).toNat = a := by
    rw [BitVec.ofInt_natCast, BitVec.toNat_ofNat]; exact Nat.mod_eq_of_lt (by omega)
  have h2 : (BitVec.ofInt 64 (b : Int)).toNat = b := by
    rw [BitVec.ofInt_natCast, BitVec.toNat_ofNat]; exact Nat.mod_eq_of_lt (by omega)
  show IntKind.i64.wrap ((BitVec.ofInt 64 (a : Int) ||| BitVec.ofInt 64 (b : Int)).toNat : Int) = _
  rw [BitVec.toNat_or, h1, h2, IntKind.wrap_i64]
  omega
theorem leNat_snoc : ∀ (l : Bytes) (c : UInt8), leNat (l ++ [c]) = leNat l + c.toNat * 256 ^ l.length
  | [], c => by simp [leNat]
  | d :: l, c => by
    rw [List.cons_append, leNat, leNat_snoc l c, leNat, List.length_cons, Nat.pow_succ]
    rw [Nat.mul_add, ← Nat.mul_assoc, Nat.mul_comm 256 c.toNat, Nat.mul_assoc, Nat.mul_comm 256 (256 ^ l.length), Nat.add_assoc]
theorem leNat_lt : ∀ (l : Bytes), leNat l < 256 ^ l.length
  | [] => by simp [leNat]
  | d :: l => by
    have := leNat_lt l
    have hd : d.toNat < 256 := d.toNat_lt
    rw [leNat, List.length_cons, Nat.pow_succ]
    omega
/-- One more byte, as the machine adds it. -/
theorem or_byte (v k : Nat) (c : UInt8) (hk : k ≤ 3) (hv : v < 256 ^ k) :
    bits BinOp.or IntKind.i64 (v : Int) (wrap64 (wrap64 (c.toNat : Int) * 2 ^ (8 * k))) = ((v + c.toNat * 256 ^ k : Nat) : Int) := by
  have hc : c.toNat < 256 := c.toNat_lt
  have e1 : wrap64 (c.toNat : Int) = c.toNat := by simp [wrap64]; omega
  have e2 : (2 ^ (8 * k) : Int) = ((256 ^ k : Nat) : Int) := by rw [Int.natCast_pow, Int.pow_mul]; rfl
  have hk3 : 256 ^ k ≤ 256 ^ 3 := Nat.pow_le_pow_right (by decide) hk
  have hm : c.toNat * 256 ^ k ≤ 255 * 256 ^ 3 := Nat.mul_le_mul (by omega) hk3
  have e3 : wrap64 (((c.toNat * 256 ^ k : Nat) : Int)) = ((c.toNat * 256 ^ k : Nat) : Int) := by
    generalize c.toNat * 256 ^ k = m at *
    have : m ≤ 4278190080 := by simpa using hm
    simp [wrap64]; omega
  rw [e1, e2, ← Int.natCast_mul, e3]
  have hv3 : v < 4611686018427387904 := by
    have : (256 : Nat) ^ 3 = 16777216 := rfl
    omega
  have hm3 : c.toNat * 256 ^ k < 4611686018427387904 := by
    have : (255 * 256 ^ 3 : Nat) = 4278190080 := rfl
    omega
  rw [i64_or_nat _ _ hv3 hm3]
  congr 1
  have e4 : c.toNat * 256 ^ k = c.toNat <<< (8 * k) := by rw [Nat.shiftLeft_eq, Nat.pow_mul]
  rw [e4, Nat.or_comm, ← Nat.shiftLeft_add_eq_or_of_lt (by rw [Nat.pow_mul]; exact hv), Nat.add_comm]
theorem take_drop_snoc {s : Bytes} {p k : Nat} (h : p + k < s.length) : (s.drop p).take (k + 1) = (s.drop p).take k ++ [s[p + k]] := by
  rw [List.take_succ_eq_append_getElem (by rw [List.length_drop]; omega), List.getElem_drop]
theorem leNat_step {s : Bytes} {p k : Nat} (h : p + k < s.length) : leNat ((s.drop p).take (k + 1)) = leNat ((s.drop p).take k) + (s[p + k]).toNat * 256 ^ k := by
  rw [take_drop_snoc h, leNat_snoc, List.length_take, List.length_drop, Nat.min_eq_left (by omega)]
theorem leNat_take_lt (s : Bytes) (k : Nat) : leNat (s.take k) < 256 ^ k := by
  refine Nat.lt_of_lt_of_le (leNat_lt _) (Nat.pow_le_pow_right (by decide) (List.length_take_le _ _))
end Go.Proofs.YtojdgdeefhndiaaGreatDoor
