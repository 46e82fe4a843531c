/- Numbers as bits: how they are coded, and that reading undoes it. No condition. -/
import Derived.Test.YtadfolnhomongaaDoorPureD
import Derived.Test.YtadfolnhomongaaDoorLib
import Derived.Lib.Bits
namespace Go.Proofs.YtadfolnhomongaaDoor
open Go Go.RowKit
namespace Pc

/-- The context of a one or of the zero of a number's length. -/
def nctx (c : Int) (i : Nat) : Int := wrap64 (c + min (i : Int) 31)
/-- The context of a binary digit. -/
def vctx (c : Int) (j : Nat) : Int := wrap64 (wrap64 (c + 32) + min (j : Int) 31)
/-- The ones from i on, and the zero. -/
def obits (c : Int) : Nat → Nat → List (Int × Bool)
  | i, 0 => [(nctx c i, false)]
  | i, m + 1 => (nctx c i, true) :: obits c (i + 1) m
def vbits (c : Int) (n : Nat) : Nat → List (Int × Bool)
  | 0 => []
  | j + 1 => (vctx c j, decide (n / 2 ^ j % 2 = 1)) :: vbits c n j
def blen (n : Nat) : Nat := if n = 0 then 0 else Nat.log2 n + 1
def numBits (c : Int) (n : Nat) : List (Int × Bool) := obits c 0 (blen n) ++ vbits c n (blen n - 1)

theorem blen_zero : blen 0 = 0 := rfl
theorem blen_pos {n : Nat} (h : 0 < n) : blen n = blen (n / 2) + 1 := by
  unfold blen
  rw [if_neg (by omega)]
  by_cases h2 : n / 2 = 0
  · have : n = 1 := by omega
    subst this; rfl
  · rw [if_neg h2, Nat.log2_def, if_pos (by omega)]
theorem blen_le {n : Nat} (h : n < 2 ^ 64) : blen n ≤ 64 := by
  unfold blen
  split
  · omega
  · rename_i h0
    have := (Nat.log2_lt h0).2 h
    omega
theorem blen_lo {n : Nat} (h : 0 < n) : 2 ^ (blen n - 1) ≤ n ∧ n < 2 ^ (blen n - 1) * 2 := by
  have e : blen n - 1 = Nat.log2 n := by unfold blen; rw [if_neg (by omega)]; rfl
  rw [e]
  exact ⟨Nat.log2_self_le (by omega), by rw [← Nat.pow_succ]; exact Nat.lt_log2_self⟩

theorem obits_length (c : Int) (i m : Nat) : (obits c i m).length = m + 1 := by
  induction m generalizing i with
  | zero => rfl
  | succ m ih => simp [obits, ih]
theorem vbits_length (c : Int) (n j : Nat) : (vbits c n j).length = j := by
  induction j with
  | zero => rfl
  | succ j ih => simp [vbits, ih]
theorem numBits_length {n : Nat} (c : Int) (h : n < 2 ^ 64) : (numBits c n).length ≤ 128 := by
  have := blen_le h
  rw [numBits, List.length_append, obits_length, vbits_length]; omega

/-- The ones that a decoder reads; f: how many more there may be. -/
def D.ones (c : Int) : Nat → D → Nat × D
  | 0, d => (65, d)
  | f + 1, d => if d.one (nctx c (64 - f)) then D.ones c f (d.bit (nctx c (64 - f))) else (64 - f, d.bit (nctx c (64 - f)))
/-- The binary digits below j that a decoder reads, behind x. -/
def D.val (c : Int) : Nat → Nat → D → Nat × D
  | 0, x, d => (x, d)
  | j + 1, x, d => D.val c j (2 * x + if d.one (vctx c j) then 1 else 0) (d.bit (vctx c j))
structure NumR where
  n : Nat
  ok : Bool
  d : D
def D.number (d : D) (c : Int) : NumR :=
  if (D.ones c 65 d).1 = 65 then ⟨0, false, (D.ones c 65 d).2⟩
  else if (D.ones c 65 d).1 = 0 then ⟨0, true, (D.ones c 65 d).2⟩
  else ⟨(D.val c ((D.ones c 65 d).1 - 1) 1 (D.ones c 65 d).2).1, true, (D.val c ((D.ones c 65 d).1 - 1) 1 (D.ones c 65 d).2).2⟩

theorem D.ones_le (c : Int) (f : Nat) (d : D) (hf : f ≤ 65) : (D.ones c f d).1 ≤ 65 := by
  induction f generalizing d with
  | zero => simp [D.ones]
  | succ f ih =>
    unfold D.ones
    split
    · exact ih _ (by omega)
    · show 64 - f ≤ 65; omega
theorem D.ones_wf {c : Int} {f : Nat} {d : D} (h : d.Wf) : (D.ones c f d).2.Wf := by
  induction f generalizing d with
  | zero => exact h
  | succ f ih =>
    unfold D.ones
    split
    · exact ih (D.bit_wf h _)
    · exact D.bit_wf h _
theorem D.val_wf {c : Int} {j x : Nat} {d : D} (h : d.Wf) : (D.val c j x d).2.Wf := by
  induction j generalizing x d with
  | zero => exact h
  | succ j ih => exact ih (D.bit_wf h _)

/-- The bits of a list are those that come next. -/
def Good (d : D) (l : List (Int × Bool)) : Prop := decodeFrom d (l.map (·.1)) = l.map (·.2)
theorem Good.head {d : D} {x : Int × Bool} {l : List (Int × Bool)} (h : Good d (x :: l)) : d.one x.1 = x.2 ∧ Good (d.bit x.1) l := by
  unfold Good at h
  simp only [List.map_cons, decodeFrom, List.cons.injEq] at h
  exact h
theorem Good.start (l : List (Int × Bool)) : Good (D.ofCode (encode l)) l := by
  have := decode_encode l 0
  simpa [Good, Pc.decode] using this
theorem ones_good {c : Int} {i m : Nat} {d : D} {r : List (Int × Bool)} (him : i + m ≤ 64) (h : Good d (obits c i m ++ r)) :
    (D.ones c (65 - i) d).1 = i + m ∧ Good (D.ones c (65 - i) d).2 r := by
  induction m generalizing i d with
  | zero =>
    obtain ⟨h1, h2⟩ := Good.head h
    rw [show 65 - i = (64 - i) + 1 by omega, D.ones, show 64 - (64 - i) = i by omega]
    simp only at h1 h2
    rw [h1]
    exact ⟨rfl, h2⟩
  | succ m ih =>
    obtain ⟨h1, h2⟩ := Good.head h
    rw [show 65 - i = (64 - i) + 1 by omega, D.ones, show 64 - (64 - i) = i by omega]
    simp only at h1 h2
    rw [h1, if_pos rfl]
    have := ih (i := i + 1) (by omega) h2
    rw [show 65 - (i + 1) = 64 - i by omega, show i + 1 + m = i + (m + 1) by omega] at this
    exact this
theorem val_good {c : Int} {n j x : Nat} {d : D} {r : List (Int × Bool)} (h : Good d (vbits c n j ++ r)) :
    (D.val c j x d).1 = x * 2 ^ j + n % 2 ^ j ∧ Good (D.val c j x d).2 r := by
  induction j generalizing x d with
  | zero => exact ⟨by simp [D.val, Nat.mod_one], h⟩
  | succ j ih =>
    obtain ⟨h1, h2⟩ := Good.head h
    simp only at h1 h2
    rw [D.val, h1]
    have := ih (x := 2 * x + if decide (n / 2 ^ j % 2 = 1) = true then 1 else 0) h2
    refine ⟨?_, this.2⟩
    rw [this.1]
    have e : n % 2 ^ (j + 1) = n / 2 ^ j % 2 * 2 ^ j + n % 2 ^ j := by
      rw [Nat.pow_succ, Nat.mod_mul, Nat.mul_comm (2 ^ j)]; omega
    rw [e, Nat.pow_succ]
    have hb : (if decide (n / 2 ^ j % 2 = 1) = true then 1 else 0) = n / 2 ^ j % 2 := by
      by_cases hq : n / 2 ^ j % 2 = 1
      · rw [if_pos (by simpa using hq), hq]
      · rw [if_neg (by simpa using hq)]; omega
    rw [hb, Nat.add_mul, Nat.mul_comm 2 x, Nat.mul_assoc x 2, Nat.mul_comm 2 (2 ^ j)]
    omega
theorem number_good {c : Int} {n : Nat} {d : D} {r : List (Int × Bool)} (hn : n < 2 ^ 64) (h : Good d (numBits c n ++ r)) :
    (d.number c).n = n ∧ (d.number c).ok = true ∧ Good (d.number c).d r := by
  have hl := blen_le hn
  unfold numBits at h
  rw [List.append_assoc] at h
  obtain ⟨h1, h2⟩ := ones_good (i := 0) (m := blen n) (by omega) h
  rw [Nat.zero_add] at h1
  unfold D.number
  rw [show 65 = 65 - 0 from rfl] at *
  rw [h1, if_neg (by omega)]
  by_cases h0 : n = 0
  · subst h0
    rw [if_pos blen_zero]
    exact ⟨rfl, rfl, by simpa [vbits, blen] using h2⟩
  · have hp := blen_pos (n := n) (by omega)
    rw [if_neg (by omega)]
    have h3 := val_good (x := 1) h2
    refine ⟨?_, rfl, h3.2⟩
    show (D.val c (blen n - 1) 1 (D.ones c (65 - 0) d).2).1 = n
    rw [h3.1]
    have hb := blen_lo (n := n) (by omega)
    generalize 2 ^ (blen n - 1) = q at *
    have : n % q = n - q := by
      rw [Nat.mod_eq_sub_mod hb.1, Nat.mod_eq_of_lt (by omega)]
    omega
end Pc
end Go.Proofs.YtadfolnhomongaaDoor
