/- How long what is read can be. No condition. -/
import Derived.Test.YtojdgdeefhndiaaGreatDoorSBinP
namespace Go.Proofs.YtojdgdeefhndiaaGreatDoor
namespace Sp
theorem pick_len {cs : List Pt} : ∀ {zs : List Int} {l : List Pt}, pick cs zs = .ok l → l.length = zs.length
  | [], l, h => by cases h; rfl
  | z :: r, l, h => by
    rw [pick] at h
    generalize (if z < 0 then (cs.length : Int) + z else z - 1) = m at h
    cases hg : cs[m.toNat]? with
    | none => rw [hg] at h; cases h
    | some p =>
      rw [hg] at h
      simp only at h
      by_cases hm : m < 0
      · rw [if_pos hm] at h; cases h
      · rw [if_neg hm] at h
        cases hp : pick cs r with
        | bad e' => rw [hp] at h; cases h
        | ok l' => rw [hp] at h; cases h; simp [pick_len hp]
theorem faceS_len {cs : List Pt} {ws : List Bytes} {l : List Pt} (h : faceS cs ws = .ok l) : l.length ≤ 64 := by
  unfold faceS at h
  split at h
  · cases h
  · split at h
    · cases h
    · split at h
      · cases h
      · have := pick_len h
        rw [this, List.length_map]; omega
theorem oneGo_small (L : Nat) (hL : 64 ≤ L) : ∀ (ls : List Bytes) (i : Nat) (cs : List Pt) (ps out : List Poly), oneGo i ls cs ps = .ok out → ps.length + ls.length ≤ L → (∀ p, p ∈ ps → p.1.length ≤ L) → out.length ≤ L ∧ ∀ p, p ∈ out → p.1.length ≤ L
  | [], i, cs, ps, out, h, h1, h2 => by
    rw [oneGo] at h; cases h
    exact ⟨by simpa using h1, h2⟩
  | l :: r, i, cs, ps, out, h, h1, h2 => by
    have h1' : ps.length + r.length + 1 ≤ L := by simp at h1; omega
    rw [oneGo] at h
    split at h
    · exact oneGo_small L hL r _ _ _ _ h (by omega) h2
    · split at h
      · split at h
        · cases h
        · exact oneGo_small L hL r _ _ _ _ h (by omega) h2
      · split at h
        · split at h
          · cases h
          · rename_i hc
            split at h
            · cases h
            · refine oneGo_small L hL r _ _ _ _ h (by simp; omega) (fun p hp => ?_)
              rw [List.mem_append, List.mem_singleton] at hp
              rcases hp with hp | rfl
              · exact h2 p hp
              · exact Nat.le_trans (faceS_len hc) hL
        · cases h
theorem addLast_len (ps : List Poly) (p : Pt) : (addLast ps p).length = ps.length := by
  unfold addLast
  cases h : ps.getLast? with
  | none => rfl
  | some q =>
    have : ps ≠ [] := fun e => by rw [e] at h; cases h
    have := List.length_pos_iff.2 this
    simp; omega
theorem addLast_mem {ps : List Poly} {p : Pt} {q : Poly} (h : q ∈ addLast ps p) : q ∈ ps ∨ ∃ o, o ∈ ps ∧ q = (o.1 ++ [p], o.2) := by
  unfold addLast at h
  cases hl : ps.getLast? with
  | none => rw [hl] at h; exact .inl h
  | some o =>
    rw [hl] at h
    simp only [List.mem_append, List.mem_singleton] at h
    rcases h with h | h
    · exact .inl (List.dropLast_subset ps h)
    · exact .inr ⟨o, List.mem_of_getLast? hl, h⟩
theorem twoGo_small (L : Nat) : ∀ (ls : List Bytes) (i left : Nat) (ps out : List Poly), twoGo i ls left ps = .ok out → ps.length + ls.length ≤ L → (∀ p, p ∈ ps → p.1.length + ls.length ≤ L) → out.length ≤ L ∧ ∀ p, p ∈ out → p.1.length ≤ L
  | [], i, left, ps, out, h, h1, h2 => by
    rw [twoGo] at h
    split at h
    · cases h
      exact ⟨by simpa using h1, fun p hp => by simpa using h2 p hp⟩
    · cases h
  | l :: r, i, left, ps, out, h, h1, h2 => by
    have h1' : ps.length + r.length + 1 ≤ L := by simp at h1; omega
    have h2' : ∀ p, p ∈ ps → p.1.length + r.length + 1 ≤ L := fun p hp => by have := h2 p hp; simp at this; omega
    rw [twoGo] at h
    split at h
    · exact twoGo_small L r _ _ _ _ h (by omega) (fun p hp => by have := h2' p hp; omega)
    · split at h
      · split at h
        · cases h
        · split at h
          · cases h
          · refine twoGo_small L r _ _ _ _ h (by simp; omega) (fun p hp => ?_)
            rw [List.mem_append, List.mem_singleton] at hp
            rcases hp with hp | rfl
            · have := h2' p hp; omega
            · simp; omega
      · split at h
        · cases h
        · refine twoGo_small L r _ _ _ _ h (by rw [addLast_len]; omega) (fun p hp => ?_)
          rcases addLast_mem hp with hp | ⟨o, ho, rfl⟩
          · have := h2' p hp; omega
          · have := h2' o ho; simp; omega
theorem cornersB_len (s : Bytes) : ∀ (k at_ : Nat) (acc l : List Pt), cornersB s at_ k acc = .ok l → l.length = acc.length + k
  | 0, at_, acc, l, h => by rw [cornersB] at h; cases h; rfl
  | k + 1, at_, acc, l, h => by
    rw [cornersB] at h
    split at h
    · cases h
    · split at h
      · cases h
      · split at h
        · cases h
        · have := cornersB_len s k _ _ _ h
          rw [this]; simp; omega
theorem polysB_small (s : Bytes) (L : Nat) (hL : 64 ≤ L) : ∀ (k at_ : Nat) (acc out : List Poly), polysB s at_ k acc = .ok out → acc.length + k ≤ L → (∀ p, p ∈ acc → p.1.length ≤ L) → out.length ≤ L ∧ ∀ p, p ∈ out → p.1.length ≤ L
  | 0, at_, acc, out, h, h1, h2 => by
    rw [polysB] at h
    split at h
    · cases h; exact ⟨h1, h2⟩
    · cases h
  | k + 1, at_, acc, out, h, h1, h2 => by
    rw [polysB] at h
    split at h
    · cases h
    · rename_i n hn
      split at h
      · cases h
      · split at h
        · cases h
        · rename_i l hl
          refine polysB_small s L hL k _ _ _ h (by simp; omega) (fun p hp => ?_)
          rw [List.mem_append, List.mem_singleton] at hp
          rcases hp with hp | rfl
          · exact h2 p hp
          · have h3 := cornersB_len s _ _ _ _ hl
            have h4 := (numS_ok hn).2
            simp at h3 ⊢; omega
theorem linesGo_len' : ∀ (r cur : Bytes), (linesGo cur r).length ≤ r.length + 1
  | [], cur => by simp [linesGo]
  | c :: r, cur => by
    rw [linesGo]
    split
    · have := linesGo_len' r []; simp; omega
    · have := linesGo_len' r (cur ++ [c]); simp; omega
theorem readS_small {s : Bytes} {out : List Poly} (h : readS s = .ok out) : out.length ≤ s.length + 65536 ∧ ∀ p, p ∈ out → p.1.length ≤ s.length + 65536 := by
  have hl : (linesOf s).length ≤ s.length + 1 := linesGo_len' s []
  unfold readS at h
  split at h
  · unfold threeS at h
    split at h
    · cases h
    · rename_i n hn
      have := (numS_ok hn).2
      exact polysB_small s _ (by omega) _ _ _ _ h (by simp; omega) (fun p hp => by cases hp)
  · split at h
    · exact twoGo_small _ _ _ _ _ _ h (by simp; omega) (fun p hp => by cases hp)
    · exact oneGo_small _ (by omega) _ _ _ _ _ h (by simp; omega) (fun p hp => by cases hp)
end Sp
end Go.Proofs.YtojdgdeefhndiaaGreatDoor
