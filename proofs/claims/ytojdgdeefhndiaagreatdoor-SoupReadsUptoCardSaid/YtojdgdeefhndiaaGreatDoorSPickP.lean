/- Corners denoted by numbers; how great the numbers are. No condition. -/
import Derived.Test.YtojdgdeefhndiaaGreatDoorSTextP
namespace Go.Proofs.YtojdgdeefhndiaaGreatDoor
open Go Go.RowKit Sp
namespace Sp
theorem numbered_len : ∀ (ls : List Bytes) (j : Nat), (numbered j ls).length ≤ ls.length
  | [], j => by simp [numbered]
  | a :: r, j => by
    have := numbered_len r (j + 1)
    rw [numbered]
    split
    · rw [List.length_cons]; omega
    · simp only [List.length_cons]; omega
theorem natOf_lt : ∀ (l : Bytes) (a : Nat), l.all isDig = true → l.foldl (fun a c => 10 * a + (c.toNat - 48)) a < (a + 1) * 10 ^ l.length
  | [], a, _ => by simp
  | c :: r, a, h => by
    rw [List.all_cons, Bool.and_eq_true] at h
    have hc : 48 ≤ c.toNat ∧ c.toNat ≤ 57 := by simpa [isDig] using h.1
    have ih := natOf_lt r (10 * a + (c.toNat - 48)) h.2
    rw [List.foldl_cons, List.length_cons, Nat.pow_succ, Nat.mul_comm (10 ^ r.length) 10, ← Nat.mul_assoc]
    refine Nat.lt_of_lt_of_le ih (Nat.mul_le_mul_right _ ?_)
    omega
theorem valOf_small {w : Bytes} (h1 : isNum w = true) (h2 : Sp.long w = false) : -1000000000000000 ≤ Sp.valOf w ∧ Sp.valOf w ≤ 1000000000000000 := by
  unfold isNum at h1
  rw [Bool.and_eq_true] at h1
  unfold Sp.long at h2
  have hl : (unminus w).length ≤ 15 := by simpa using h2
  have hn : natOf (unminus w) < 10 ^ (unminus w).length := by
    have := natOf_lt (unminus w) 0 h1.2
    unfold natOf
    omega
  have h15 : 10 ^ (unminus w).length ≤ 10 ^ 15 := Nat.pow_le_pow_right (by decide) hl
  have e : (10 : Nat) ^ 15 = 1000000000000000 := by decide
  unfold Sp.valOf
  generalize natOf (unminus w) = n at *
  generalize 10 ^ (unminus w).length = m at *
  split <;> omega
theorem numsP_ok {least most : Nat} {ws : List Bytes} {zs : List Int} (h : numsP least most ws = .ok zs) : zs = ws.map Sp.valOf ∧ least ≤ ws.length ∧ ws.length ≤ most ∧ ∀ z, z ∈ zs → -1000000000000000 ≤ z ∧ z ≤ 1000000000000000 := by
  unfold numsP at h
  split at h
  · cases h
  rename_i h1
  split at h
  · cases h
  split at h
  · cases h
  rename_i h2 h3
  cases h
  rw [Bool.or_eq_true, not_or] at h1
  refine ⟨rfl, by have := h1.1; simp at this; omega, by omega, fun z hz => ?_⟩
  rw [List.mem_map] at hz
  obtain ⟨x, hx, rfl⟩ := hz
  have a : isNum x = true := by
    have := h1.2
    rw [Bool.not_eq_true, List.any_eq_false] at this
    simpa using this x hx
  have b : Sp.long x = false := by
    rw [Bool.not_eq_true, List.any_eq_false] at h3
    simpa using h3 x hx
  exact valOf_small a b
/-- The place that a number denotes, from 1 on. -/
def denote (n : Nat) (z : Int) : Int := if z < 0 then z + (n + 1) else z
theorem pick_bad {cs : List Pt} {z : Int} {r : List Int} (h : ¬ (1 ≤ denote cs.length z ∧ denote cs.length z ≤ cs.length)) : pick cs (z :: r) = .bad 14 := by
  rw [pick]
  unfold denote at h
  split
  · rfl
  · rename_i p hp
    have hp' := (List.getElem?_eq_some_iff.1 hp).1
    rw [if_pos]
    by_cases hz : z < 0
    · simp only [hz, if_true] at h hp' ⊢; omega
    · simp only [hz, if_false] at h hp' ⊢; omega
theorem pick_ok {cs : List Pt} {z : Int} {r : List Int} (h1 : 1 ≤ denote cs.length z) (h2 : denote cs.length z ≤ cs.length) :
    ∃ p, cs[(denote cs.length z - 1).toNat]? = some p ∧ pick cs (z :: r) = match pick cs r with | .bad e => .bad e | .ok l => .ok (p :: l) := by
  have e : (if z < 0 then (cs.length : Int) + z else z - 1) = denote cs.length z - 1 := by unfold denote; split <;> omega
  have hlt : (denote cs.length z - 1).toNat < cs.length := by omega
  refine ⟨cs[(denote cs.length z - 1).toNat], List.getElem?_eq_getElem hlt, ?_⟩
  rw [pick, e]
  rw [List.getElem?_eq_getElem hlt]
  simp only
  rw [if_neg (by omega)]
  cases pick cs r <;> rfl
end Sp
theorem ptsVs_get {l : List Pt} {j : Nat} {p : Pt} (h : l[j]? = some p) : (ptsVs l)[3 * j]? = some (.int .i64 p.1) ∧ (ptsVs l)[3 * j + 1]? = some (.int .i64 p.2.1) ∧ (ptsVs l)[3 * j + 2]? = some (.int .i64 p.2.2) := by
  induction l generalizing j with
  | nil => simp at h
  | cons a r ih =>
    cases j with
    | zero =>
      simp at h
      subst h
      exact ⟨rfl, rfl, rfl⟩
    | succ j =>
      simp at h
      have := ih h
      have e : ptsVs (a :: r) = .int .i64 a.1 :: .int .i64 a.2.1 :: .int .i64 a.2.2 :: ptsVs r := rfl
      rw [e, show 3 * (j + 1) = 3 * j + 1 + 1 + 1 by omega]
      simpa using this
theorem OwnPts.at {w : World} {base : Nat} {v : Value} {l : List Pt} (h : OwnPts base w v l) {j : Nat} {p : Pt} (hj : l[j]? = some p) :
    ∃ g cap, v = .slice (some ⟨g, 0, none⟩) l.length cap ∧ w.cell? ⟨g, j * 3, none⟩ = some (.int .i64 p.1) ∧ w.cell? ⟨g, j * 3 + 1, none⟩ = some (.int .i64 p.2.1) ∧ w.cell? ⟨g, j * 3 + 2, none⟩ = some (.int .i64 p.2.2) := by
  have hlt := (List.getElem?_eq_some_iff.1 hj).1
  rcases h.2 with ⟨_, h0⟩ | ⟨g, cap, cur, rfl, _⟩
  · omega
  · obtain ⟨a, b, c⟩ := ptsVs_get hj
    refine ⟨g, cap, rfl, ?_, ?_, ?_⟩
    · rw [World.ownsRow.cellAt h _ (by omega), Nat.mul_comm]; exact a
    · rw [World.ownsRow.cellAt h _ (by omega), Nat.mul_comm]; exact b
    · rw [World.ownsRow.cellAt h _ (by omega), Nat.mul_comm]; exact c
theorem OwnPts.len {w : World} {base : Nat} {v : Value} {l : List Pt} (h : OwnPts base w v l) : ∃ A cap, v = .slice A l.length cap := by
  rcases h.2 with ⟨rfl, h0⟩ | ⟨g, cap, cur, rfl, _⟩
  · exact ⟨none, 0, by rw [h0]⟩
  · exact ⟨_, _, rfl⟩
theorem OwnQs.len {w : World} {base : Nat} {v : Value} {qs : List (Value × Poly)} (h : OwnQs base w v qs) : ∃ A cap, v = .slice A qs.length cap := by
  rcases h.2.2 with ⟨rfl, h0⟩ | ⟨g, cap, cur, rfl, _⟩
  · exact ⟨none, 0, by rw [h0]⟩
  · exact ⟨_, _, rfl⟩
end Go.Proofs.YtojdgdeefhndiaaGreatDoor
