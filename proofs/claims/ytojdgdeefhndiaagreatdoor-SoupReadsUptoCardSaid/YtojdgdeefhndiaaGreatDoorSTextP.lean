/- The two forms of text, on the lines that have words. No condition. -/
import Derived.Test.YtojdgdeefhndiaaGreatDoorSIsPolys
import Derived.Test.YtojdgdeefhndiaaGreatDoorSPolys
namespace Go.Proofs.YtojdgdeefhndiaaGreatDoor
open Go Go.RowKit Sp
namespace Sp
def oneStep (i : Nat) (w : Bytes) (ws : List Bytes) (cs : List Pt) (ps : List Poly) (next : List Pt → List Poly → Out) : Out :=
  if w = wV then (match cornerS ws with
    | .bad e => .bad i e
    | .ok p => next (cs ++ [p]) ps)
  else if w = wF then (match faceS cs ws with
    | .bad e => .bad i e
    | .ok c => if 65536 ≤ ps.length then .bad i 2 else next cs (ps ++ [(c, i)]))
  else .bad i 10
def oneN : List (Nat × List Bytes) → List Pt → List Poly → Out
  | [], _, ps => .ok ps
  | (i, ws) :: r, cs, ps => match ws with
    | [] => oneN r cs ps
    | w :: ws => oneStep i w ws cs ps (oneN r)
theorem oneGo_eq : ∀ (ls : List Bytes) (i : Nat) (cs : List Pt) (ps : List Poly), oneGo i ls cs ps = oneN (numbered i ls) cs ps
  | [], _, _, _ => rfl
  | l :: r, i, cs, ps => by
    rw [oneGo, numbered]
    cases hw : wordsOf l with
    | nil => exact oneGo_eq r (i + 1) cs ps
    | cons w ws =>
      simp only
      rw [oneN]
      unfold oneStep
      simp only [oneGo_eq r (i + 1)]
      cases cornerS ws <;> cases faceS cs ws <;> rfl
theorem oneN_v {i : Nat} {ws : List Bytes} {r : List (Nat × List Bytes)} {cs : List Pt} {ps : List Poly} : oneN ((i, wV :: ws) :: r) cs ps = match cornerS ws with | .bad e => .bad i e | .ok p => oneN r (cs ++ [p]) ps := by
  rw [oneN]; unfold oneStep; rw [if_pos rfl]
theorem oneN_f {i : Nat} {ws : List Bytes} {r : List (Nat × List Bytes)} {cs : List Pt} {ps : List Poly} : oneN ((i, wF :: ws) :: r) cs ps = match faceS cs ws with | .bad e => .bad i e | .ok c => if 65536 ≤ ps.length then .bad i 2 else oneN r cs (ps ++ [(c, i)]) := by
  rw [oneN]; unfold oneStep; rw [if_neg (by decide), if_pos rfl]
theorem oneN_other {i : Nat} {w : Bytes} {ws : List Bytes} {r : List (Nat × List Bytes)} {cs : List Pt} {ps : List Poly} (h1 : w ≠ wV) (h2 : w ≠ wF) : oneN ((i, w :: ws) :: r) cs ps = .bad i 10 := by
  rw [oneN]; unfold oneStep; rw [if_neg h1, if_neg h2]
def twoN : List (Nat × List Bytes) → Nat → List Poly → Nat → Out
  | [], left, ps, last => if left = 0 then .ok ps else .bad last 12
  | (i, ws) :: r, left, ps, last => if left = 0 then (match headS ws with
      | .bad e => .bad i e
      | .ok n => if 65536 ≤ ps.length then .bad i 2 else twoN r n (ps ++ [([], i)]) last)
    else (match cornerS ws with
      | .bad e => .bad i e
      | .ok p => twoN r (left - 1) (addLast ps p) last)
theorem twoGo_eq : ∀ (ls : List Bytes) (i left : Nat) (ps : List Poly), twoGo i ls left ps = twoN (numbered i ls) left ps (i + ls.length - 1)
  | [], i, left, ps => by rw [twoGo, numbered, twoN]; rfl
  | l :: r, i, left, ps => by
    have e : i + (l :: r).length - 1 = i + 1 + r.length - 1 := by rw [List.length_cons]; omega
    rw [twoGo, numbered, e]
    cases hw : wordsOf l with
    | nil => exact twoGo_eq r (i + 1) left ps
    | cons w ws =>
      simp only
      rw [twoN]
      simp only [twoGo_eq r (i + 1)]
      cases headS (w :: ws) <;> cases cornerS (w :: ws) <;> rfl
theorem faceS_nums (cs : List Pt) (ws : List Bytes) : faceS cs ws = match numsP 3 64 ws with | .bad e => .bad e | .ok zs => pick cs zs := by
  unfold faceS numsP
  have e : (decide (ws.length < 3) || !ws.all isNum) = (decide (ws.length < 3) || ws.any fun x => !isNum x) := by
    rw [List.not_all_eq_any_not]
  rw [e]
  split
  · rfl
  · split
    · rfl
    · split <;> rfl
end Sp
/-- What a round may turn: cells of its own function's, no strings. -/
theorem round_of_upd {F : Nat → Prop} {N0 : Nat} {W W' : World} (hu : Upd F W W') (hF : ∀ k, F k → k < W.heap.size → N0 ≤ k ∧ ∃ cs T fr, W.heap[k]? = some (.cells cs T fr) ∧ T ≠ 9) (hN : N0 ≤ W.heap.size) : KeepsOthers W W' ∧ KpS N0 W W' := by
  refine ⟨⟨hu.size, fun k o h hc => ?_⟩, hu.size, fun k hk => hu.block k (by omega) (fun hf => ?_), fun k cs fr h => ?_⟩
  · exact hu.heap h (fun hf => by
      obtain ⟨_, cs, T, fr, h1, _⟩ := hF k hf (lt_of_heap h)
      rw [h] at h1; cases h1; cases hc)
  · have := (hF k hf (by omega)).1
    omega
  · exact hu.heap h (fun hf => by
      obtain ⟨_, cs, T, fr, h1, h2⟩ := hF k hf (lt_of_heap h)
      rw [h] at h1; cases h1; exact h2 rfl)
end Go.Proofs.YtojdgdeefhndiaaGreatDoor
