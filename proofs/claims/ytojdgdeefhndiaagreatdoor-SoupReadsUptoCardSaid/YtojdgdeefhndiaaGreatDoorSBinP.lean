/- Plain laws of the third form's numbers. No condition. -/
import Derived.Test.YtojdgdeefhndiaaGreatDoorSBytes
namespace Go.Proofs.YtojdgdeefhndiaaGreatDoor
open Go Go.RowKit Sp
namespace Sp
inductive L where
  | ok (l : List Nat)
  | bad (place e : Nat)
/-- k coordinates, one after the other. -/
def numsB (s : Bytes) : Nat → Nat → List Nat → L
  | _, 0, acc => .ok acc
  | at_, k + 1, acc => match numS s at_ 3 2097151 3 with
    | .bad p e => .bad p e
    | .ok x => numsB s (at_ + 3) k (acc ++ [x])
theorem cornersB_bad {s : Bytes} {at_ k : Nat} {acc : List Pt} {p e : Nat} (h : numsB s at_ 3 [] = .bad p e) : cornersB s at_ (k + 1) acc = .bad p e := by
  unfold cornersB
  unfold numsB at h
  split at h
  · rename_i h1; rw [h1]; cases h; rfl
  · rename_i x h1
    rw [h1]
    unfold numsB at h
    split at h
    · rename_i h2; simp only [h2]; cases h; rfl
    · rename_i y h2
      simp only [h2]
      unfold numsB at h
      split at h
      · rename_i h3; simp only [Nat.add_assoc] at h3; simp only [h3]; cases h; rfl
      · unfold numsB at h; cases h
theorem cornersB_ok {s : Bytes} {at_ k : Nat} {acc : List Pt} {x y z : Nat} (h : numsB s at_ 3 [] = .ok [x, y, z]) : cornersB s at_ (k + 1) acc = cornersB s (at_ + 9) k (acc ++ [((x : Int), (y : Int), (z : Int))]) := by
  rw [cornersB]
  unfold numsB at h
  split at h
  · cases h
  · rename_i x' h1
    rw [h1]
    unfold numsB at h
    split at h
    · cases h
    · rename_i y' h2
      simp only [h2]
      unfold numsB at h
      split at h
      · cases h
      · rename_i z' h3
        simp only [Nat.add_assoc] at h3
        simp only [h3]
        unfold numsB at h
        cases h
        rfl
theorem numS_ok {s : Bytes} {p n most e v : Nat} (h : numS s p n most e = .ok v) : p + n ≤ s.length ∧ v ≤ most := by
  unfold numS at h
  split at h
  · cases h
  · split at h
    · cases h
    · cases h; omega
theorem polysB_short {s : Bytes} {at_ k : Nat} {acc : List Poly} {p e : Nat} (h : numS s at_ 1 64 2 = .bad p e) : polysB s at_ (k + 1) acc = .bad p e := by rw [polysB, h]
theorem polysB_few {s : Bytes} {at_ k : Nat} {acc : List Poly} {n : Nat} (h : numS s at_ 1 64 2 = .ok n) (hn : n < 3) : polysB s at_ (k + 1) acc = .bad at_ 11 := by rw [polysB, h]; simp only; rw [if_pos hn]
theorem polysB_bad {s : Bytes} {at_ k : Nat} {acc : List Poly} {n p e : Nat} (h : numS s at_ 1 64 2 = .ok n) (hn : ¬ n < 3) (hc : cornersB s (at_ + 1) n [] = .bad p e) : polysB s at_ (k + 1) acc = .bad p e := by
  rw [polysB, h]; simp only; rw [if_neg hn, hc]
theorem polysB_ok {s : Bytes} {at_ k : Nat} {acc : List Poly} {n : Nat} {l : List Pt} (h : numS s at_ 1 64 2 = .ok n) (hn : ¬ n < 3) (hc : cornersB s (at_ + 1) n [] = .ok l) : polysB s at_ (k + 1) acc = polysB s (at_ + 1 + 9 * n) k (acc ++ [(l, at_)]) := by
  rw [polysB, h]; simp only; rw [if_neg hn, hc]
theorem numsB_bad {s : Bytes} {at_ k : Nat} {acc : List Nat} {p e : Nat} (h : numS s at_ 3 2097151 3 = .bad p e) : numsB s at_ (k + 1) acc = .bad p e := by rw [numsB, h]
theorem numsB_ok {s : Bytes} {at_ k : Nat} {acc : List Nat} {x : Nat} (h : numS s at_ 3 2097151 3 = .ok x) : numsB s at_ (k + 1) acc = numsB s (at_ + 3) k (acc ++ [x]) := by rw [numsB, h]
end Sp
def c3 (xs : List Nat) : Array Value := #[.int .i64 (xs.getD 0 0 : Nat), .int .i64 (xs.getD 1 0 : Nat), .int .i64 (xs.getD 2 0 : Nat)]
theorem c3_snoc {xs : List Nat} (h : xs.length < 3) (x : Nat) : (c3 xs).setIfInBounds xs.length (.int .i64 (x : Int)) = c3 (xs ++ [x]) := by
  match xs, h with
  | [], _ => rfl
  | [a], _ => rfl
  | [a, b], _ => rfl
theorem c3_get {xs : List Nat} (h : xs.length < 3) : ∃ u, (c3 xs)[xs.length]? = some u := by
  match xs, h with
  | [], _ => exact ⟨_, rfl⟩
  | [a], _ => exact ⟨_, rfl⟩
  | [a, b], _ => exact ⟨_, rfl⟩
theorem Upd.toTwo {F G : Nat → Prop} {w w' : World} (h : Upd F w w') (hg : ∀ k, F k → k < w.heap.size → G k) : Upd G w w' := h.mono (fun k hk hf => hg k hf hk)
end Go.Proofs.YtojdgdeefhndiaaGreatDoor
