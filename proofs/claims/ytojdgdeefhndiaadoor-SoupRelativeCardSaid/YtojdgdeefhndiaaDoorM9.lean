/- The two forms of text, on the lines that have words. No condition. Corners denoted by numbers; how great the numbers are. No condition. Plain laws of the second form. No condition. -/
import Derived.Test.YtojdgdeefhndiaaDoorM7
import Derived.Test.YtojdgdeefhndiaaDoorM8
namespace Go.Proofs.YtojdgdeefhndiaaDoor
open Go Go.RowKit Sp
namespace Sp
def oneStep (i : Nat) (w : Bytes) (ws : List Bytes) (cs : List Pt) (ps : List Poly) (next : List Pt → List Poly → Out) : Out :=
  if w = wV then (match cornerS ws with
    | .bad e => .bad i e
    | .ok p => next (cs ++ [p]) ps)
  else if w = wF then (match faceS cs ws with
    | .bad e => .bad i e
    | .ok c => if 65536 ≤ ps.length then .bad i 2 else next cs (ps ++ [(c, i)]))
  else .bad i 10
def oneN : List (Nat × List Bytes) → List Pt → List Poly → Out
  | [], _, ps => .ok ps
  | (i, ws) :: r, cs, ps => match ws with
    | [] => oneN r cs ps
    | w :: ws => oneStep i w ws cs ps (oneN r)
theorem oneGo_eq : ∀ (ls : List Bytes) (i : Nat) (cs : List Pt) (ps : List Poly), oneGo i ls cs ps = oneN (numbered i ls) cs ps
  | [], _, _, _ => rfl
  | l :: r, i, cs, ps => by
    rw [oneGo, numbered]
    cases hw : wordsOf l with
    | nil => exact oneGo_eq r (i + 1) cs ps
    | cons w ws =>
      simp only
      rw [oneN]
      unfold oneStep
      simp only [oneGo_eq r (i + 1)]
      cases cornerS ws <;> cases faceS cs ws <;> rfl
theorem oneN_v {i : Nat} {ws : List Bytes} {r : List (Nat × List Bytes)} {cs : List Pt} {ps : List Poly} : oneN ((i, wV :: ws) :: r) cs ps = match cornerS ws with | .bad e => .bad i e | .ok p => oneN r (cs ++ [p]) ps := by
  rw [oneN]; unfold oneStep; rw [if_pos rfl]
theorem oneN_f {i : Nat} {ws : List Bytes} {r : List (Nat × List Bytes)} {cs : List Pt} {ps : List Poly} : oneN ((i, wF :: ws) :: r) cs ps = match faceS cs ws with | .bad e => .bad i e | .ok c => if 65536 ≤ ps.length then .bad i 2 else oneN r cs (ps ++ [(c, i)]) := by
  rw [oneN]; unfold oneStep; rw [if_neg (by decide), if_pos rfl]
theorem oneN_other {i : Nat} {w : Bytes} {ws : List Bytes} {r : List (Nat × List Bytes)} {cs : List Pt} {ps : List Poly} (h1 : w ≠ wV) (h2 : w ≠ wF) : oneN ((i, w :: ws) :: r) cs ps = .bad i 10 := by
  rw [oneN]; unfold oneStep; rw [if_neg h1, if_neg h2]
def twoN : List (Nat × List Bytes) → Nat → List Poly → Nat → Out
  | [], left, ps, last => if left = 0 then .ok ps else .bad last 12
  | (i, ws) :: r, left, ps, last => if left = 0 then (match headS ws with
      | .bad e => .bad i e
      | .ok n => if 65536 ≤ ps.length then .bad i 2 else twoN r n (ps ++ [([], i)]) last)
    else (match cornerS ws with
      | .bad e => .bad i e
      | .ok p => twoN r (left - 1) (addLast ps p) last)
theorem twoGo_eq : ∀ (ls : List Bytes) (i left : Nat) (ps : List Poly), twoGo i ls left ps = twoN (numbered i ls) left ps (i + ls.length - 1)
  | [], i, left, ps => by rw [twoGo, numbered, twoN]; rfl
  | l :: r, i, left, ps => by
    have e : i + (l :: r).length - 1 = i + 1 + r.length - 1 := by rw [List.length_cons]; omega
    rw [twoGo, numbered, e]
    cases hw : wordsOf l with
    | nil => exact twoGo_eq r (i + 1) left ps
    | cons w ws =>
      simp only
      rw [twoN]
      simp only [twoGo_eq r (i + 1)]
      cases headS (w :: ws) <;> cases cornerS (w :: ws) <;> rfl
theorem faceS_nums (cs : List Pt) (ws : List Bytes) : faceS cs ws = match numsP 3 64 ws with | .bad e => .bad e | .ok zs => pick cs zs := by
  unfold faceS numsP
  have e : (decide (ws.length < 3) || !ws.all isNum) = (decide (ws.length < 3) || ws.any fun x => !isNum x) := by
    rw [List.not_all_eq_any_not]
  rw [e]
  split
  · rfl
  · split
    · rfl
    · split <;> rfl
end Sp
/-- What a round may turn: cells of its own function's, no strings. -/
theorem round_of_upd {F : Nat → Prop} {N0 : Nat} {W W' : World} (hu : Upd F W W') (hF : ∀ k, F k → k < W.heap.size → N0 ≤ k ∧ ∃ cs T fr, W.heap[k]? = some (.cells cs T fr) ∧ T ≠ 9) (hN : N0 ≤ W.heap.size) : KeepsOthers W W' ∧ KpS N0 W W' := by
  refine ⟨⟨hu.size, fun k o h hc => ?_⟩, hu.size, fun k hk => hu.block k (by omega) (fun hf => ?_), fun k cs fr h => ?_⟩
  · exact hu.heap h (fun hf => by
      obtain ⟨_, cs, T, fr, h1, _⟩ := hF k hf (lt_of_heap h)
      rw [h] at h1; cases h1; cases hc)
  · have := (hF k hf (by omega)).1
    omega
  · exact hu.heap h (fun hf => by
      obtain ⟨_, cs, T, fr, h1, h2⟩ := hF k hf (lt_of_heap h)
      rw [h] at h1; cases h1; exact h2 rfl)
end Go.Proofs.YtojdgdeefhndiaaDoor
namespace Go.Proofs.YtojdgdeefhndiaaDoor
open Go Go.RowKit Sp
namespace Sp
theorem numbered_len : ∀ (ls : List Bytes) (j : Nat), (numbered j ls).length ≤ ls.length
  | [], j => by simp [numbered]
  | a :: r, j => by
    have := numbered_len r (j + 1)
    rw [numbered]
    split
    · rw [List.length_cons]; omega
    · simp only [List.length_cons]; omega
theorem natOf_lt : ∀ (l : Bytes) (a : Nat), l.all isDig = true → l.foldl (fun a c => 10 * a + (c.toNat - 48)) a < (a + 1) * 10 ^ l.length
  | [], a, _ => by simp
  | c :: r, a, h => by
    rw [List.all_cons, Bool.and_eq_true] at h
    have hc : 48 ≤ c.toNat ∧ c.toNat ≤ 57 := by simpa [isDig] using h.1
    have ih := natOf_lt r (10 * a + (c.toNat - 48)) h.2
    rw [List.foldl_cons, List.length_cons, Nat.pow_succ, Nat.mul_comm (10 ^ r.length) 10, ← Nat.mul_assoc]
    refine Nat.lt_of_lt_of_le ih (Nat.mul_le_mul_right _ ?_)
    omega
theorem valOf_small {w : Bytes} (h1 : isNum w = true) (h2 : Sp.long w = false) : -1000000000000000 ≤ Sp.valOf w ∧ Sp.valOf w ≤ 1000000000000000 := by
  unfold isNum at h1
  rw [Bool.and_eq_true] at h1
  unfold Sp.long at h2
  have hl : (unminus w).length ≤ 15 := by simpa using h2
  have hn : natOf (unminus w) < 10 ^ (unminus w).length := by
    have := natOf_lt (unminus w) 0 h1.2
    unfold natOf
    omega
  have h15 : 10 ^ (unminus w).length ≤ 10 ^ 15 := Nat.pow_le_pow_right (by decide) hl
  have e : (10 : Nat) ^ 15 = 1000000000000000 := by decide
  unfold Sp.valOf
  generalize natOf (unminus w) = n at *
  generalize 10 ^ (unminus w).length = m at *
  split <;> omega
theorem numsP_ok {least most : Nat} {ws : List Bytes} {zs : List Int} (h : numsP least most ws = .ok zs) : zs = ws.map Sp.valOf ∧ least ≤ ws.length ∧ ws.length ≤ most ∧ ∀ z, z ∈ zs → -1000000000000000 ≤ z ∧ z ≤ 1000000000000000 := by
  unfold numsP at h
  split at h
  · cases h
  rename_i h1
  split at h
  · cases h
  split at h
  · cases h
  rename_i h2 h3
  cases h
  rw [Bool.or_eq_true, not_or] at h1
  refine ⟨rfl, by have := h1.1; simp at this; omega, by omega, fun z hz => ?_⟩
  rw [List.mem_map] at hz
  obtain ⟨x, hx, rfl⟩ := hz
  have a : isNum x = true := by
    have := h1.2
    rw [Bool.not_eq_true, List.any_eq_false] at this
    simpa using this x hx
  have b : Sp.long x = false := by
    rw [Bool.not_eq_true, List.any_eq_false] at h3
    simpa using h3 x hx
  exact valOf_small a b
/-- The place that a number denotes, from 1 on. -/
def denote (n : Nat) (z : Int) : Int := if z < 0 then z + (n + 1) else z
theorem pick_bad {cs : List Pt} {z : Int} {r : List Int} (h : ¬ (1 ≤ denote cs.length z ∧ denote cs.length z ≤ cs.length)) : pick cs (z :: r) = .bad 14 := by
  rw [pick]
  unfold denote at h
  split
  · rfl
  · rename_i p hp
    have hp' := (List.getElem?_eq_some_iff.1 hp).1
    rw [if_pos]
    by_cases hz : z < 0
    · simp only [hz, if_true] at h hp' ⊢; omega
    · simp only [hz, if_false] at h hp' ⊢; omega
theorem pick_ok {cs : List Pt} {z : Int} {r : List Int} (h1 : 1 ≤ denote cs.length z) (h2 : denote cs.length z ≤ cs.length) :
    ∃ p, cs[(denote cs.length z - 1).toNat]? = some p ∧ pick cs (z :: r) = match pick cs r with | .bad e => .bad e | .ok l => .ok (p :: l) := by
  have e : (if z < 0 then (cs.length : Int) + z else z - 1) = denote cs.length z - 1 := by unfold denote; split <;> omega
  have hlt : (denote cs.length z - 1).toNat < cs.length := by omega
  refine ⟨cs[(denote cs.length z - 1).toNat], List.getElem?_eq_getElem hlt, ?_⟩
  rw [pick, e]
  rw [List.getElem?_eq_getElem hlt]
  simp only
  rw [if_neg (by omega)]
  cases pick cs r <;> rfl
end Sp
theorem ptsVs_get {l : List Pt} {j : Nat} {p : Pt} (h : l[j]? = some p) : (ptsVs l)[3 * j]? = some (.int .i64 p.1) ∧ (ptsVs l)[3 * j + 1]? = some (.int .i64 p.2.1) ∧ (ptsVs l)[3 * j + 2]? = some (.int .i64 p.2.2) := by
  induction l generalizing j with
  | nil => simp at h
  | cons a r ih =>
    cases j with
    | zero =>
      simp at h
      subst h
      exact ⟨rfl, rfl, rfl⟩
    | succ j =>
      simp at h
      have := ih h
      have e : ptsVs (a :: r) = .int .i64 a.1 :: .int .i64 a.2.1 :: .int .i64 a.2.2 :: ptsVs r := rfl
      rw [e, show 3 * (j + 1) = 3 * j + 1 + 1 + 1 by omega]
      simpa using this
theorem OwnPts.at {w : World} {base : Nat} {v : Value} {l : List Pt} (h : OwnPts base w v l) {j : Nat} {p : Pt} (hj : l[j]? = some p) :
    ∃ g cap, v = .slice (some ⟨g, 0, none⟩) l.length cap ∧ w.cell? ⟨g, j * 3, none⟩ = some (.int .i64 p.1) ∧ w.cell? ⟨g, j * 3 + 1, none⟩ = some (.int .i64 p.2.1) ∧ w.cell? ⟨g, j * 3 + 2, none⟩ = some (.int .i64 p.2.2) := by
  have hlt := (List.getElem?_eq_some_iff.1 hj).1
  rcases h.2 with ⟨_, h0⟩ | ⟨g, cap, cur, rfl, _⟩
  · omega
  · obtain ⟨a, b, c⟩ := ptsVs_get hj
    refine ⟨g, cap, rfl, ?_, ?_, ?_⟩
    · rw [World.ownsRow.cellAt h _ (by omega), Nat.mul_comm]; exact a
    · rw [World.ownsRow.cellAt h _ (by omega), Nat.mul_comm]; exact b
    · rw [World.ownsRow.cellAt h _ (by omega), Nat.mul_comm]; exact c
theorem OwnPts.len {w : World} {base : Nat} {v : Value} {l : List Pt} (h : OwnPts base w v l) : ∃ A cap, v = .slice A l.length cap := by
  rcases h.2 with ⟨rfl, h0⟩ | ⟨g, cap, cur, rfl, _⟩
  · exact ⟨none, 0, by rw [h0]⟩
  · exact ⟨_, _, rfl⟩
theorem OwnQs.len {w : World} {base : Nat} {v : Value} {qs : List (Value × Poly)} (h : OwnQs base w v qs) : ∃ A cap, v = .slice A qs.length cap := by
  rcases h.2.2 with ⟨rfl, h0⟩ | ⟨g, cap, cur, rfl, _⟩
  · exact ⟨none, 0, by rw [h0]⟩
  · exact ⟨_, _, rfl⟩
end Go.Proofs.YtojdgdeefhndiaaDoor
namespace Go.Proofs.YtojdgdeefhndiaaDoor
open Go Go.RowKit Sp
namespace Sp
theorem count_linesGo : ∀ (l cur : Bytes), (linesGo cur l).length = Lib.countByte l 10 + 1
  | [], cur => by simp [linesGo, Lib.countByte]
  | c :: r, cur => by
    rw [linesGo]
    by_cases h : c = 10
    · rw [if_pos h, List.length_cons, count_linesGo r []]
      subst h
      simp [Lib.countByte]
    · rw [if_neg h, count_linesGo r _]
      simp [Lib.countByte, h]
def polysS (s : Bytes) : Out := twoN (linesAll s) 0 [] (linesOf s).length
theorem polysS_eq (s : Bytes) : twoGo 1 (linesOf s) 0 [] = polysS s := by
  rw [twoGo_eq]
  unfold polysS linesAll
  congr 1
  omega
theorem twoN_corner {i : Nat} {ws : List Bytes} {r : List (Nat × List Bytes)} {left last : Nat} {ps : List Poly} (hl : left ≠ 0) : twoN ((i, ws) :: r) left ps last = match cornerS ws with | .bad e => .bad i e | .ok p => twoN r (left - 1) (addLast ps p) last := by
  rw [twoN, if_neg hl]
  try (cases cornerS ws <;> rfl)
theorem twoN_head {i : Nat} {ws : List Bytes} {r : List (Nat × List Bytes)} {last : Nat} {ps : List Poly} : twoN ((i, ws) :: r) 0 ps last = match headS ws with | .bad e => .bad i e | .ok n => if 65536 ≤ ps.length then .bad i 2 else twoN r n (ps ++ [([], i)]) last := by
  rw [twoN, if_pos rfl]
  try (cases headS ws <;> rfl)
theorem addLast_snoc (ps : List Poly) (q : Poly) (p : Pt) : addLast (ps ++ [q]) p = ps ++ [(q.1 ++ [p], q.2)] := by
  unfold addLast
  simp
theorem headS_len {ws : List Bytes} (h : ws.length ≠ 2) : headS ws = .bad 10 := by
  unfold headS
  match ws, h with
  | [], _ => rfl
  | [_], _ => rfl
  | [_, _], h => exact absurd rfl h
  | _ :: _ :: _ :: _, _ => rfl
theorem headS_word {a b : Bytes} (h : a ≠ wPoly) : headS [a, b] = .bad 10 := by
  unfold headS; simp [h]
theorem headS_num {a b : Bytes} (h : isNum b = false) : headS [a, b] = .bad 10 := by
  unfold headS; simp [h]
theorem headS_minus {a : Bytes} {r : Bytes} : headS [a, 45 :: r] = .bad 10 := by
  unfold headS; simp
theorem headS_good {c : UInt8} {r : Bytes} (h : isNum (c :: r) = true) (hc : c ≠ 45) : headS [wPoly, c :: r] = if Sp.long (c :: r) || decide (natOf (c :: r) < 3) then .bad 11 else if 64 < natOf (c :: r) then .bad 2 else .ok (natOf (c :: r)) := by
  unfold headS; simp [h, hc]
theorem valOf_plain {c : UInt8} {r : Bytes} (hc : c ≠ 45) : Sp.valOf (c :: r) = (natOf (c :: r) : Int) := by
  unfold Sp.valOf unminus; simp [hc]
theorem isNum_cons {b : Bytes} (h : isNum b = true) : ∃ c r, b = c :: r := by
  cases b with
  | nil => simp [isNum, unminus] at h
  | cons c r => exact ⟨c, r, rfl⟩
theorem numsP_one {b : Bytes} (h : isNum b = true) : numsP 1 1 [b] = if Sp.long b then .bad 11 else .ok [Sp.valOf b] := by
  unfold numsP; simp [h]
end Sp
theorem polyVs_snoc (qs : List (Value × Poly)) (q : Value × Poly) : polyVs (qs ++ [q]) = polyVs qs ++ [q.1, .int .i64 q.2.2] := by simp [polyVs]
theorem polyVs_len : ∀ qs : List (Value × Poly), (polyVs qs).length = 2 * qs.length
  | [] => rfl
  | q :: r => by
    have : polyVs (q :: r) = [q.1, .int .i64 q.2.2] ++ polyVs r := rfl
    rw [this, List.length_append, polyVs_len r]; simp; omega
end Go.Proofs.YtojdgdeefhndiaaDoor
