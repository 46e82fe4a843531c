/- Lists of triangles that differ by order and by which corner comes first: what is wrong with them, and their packets, are the same. No condition. Rings at a corner: what program and reference look for is the same. No condition. The reference's meshes as plain functions: its sorting, its corners, its border. No condition. General lemmas: an append onto a row of the call's own. No condition. -/
import Derived.Test.YtcikldoaidmnhaaGreatDoorM2
import Derived.Test.YtcikldoaidmnhaaGreatDoorM1
namespace Go.Proofs.YtcikldoaidmnhaaGreatDoor
open Go Go.RowKit
namespace Pk
/-- A rotation. -/
def RotE (s t : Tri) : Prop := s = t ∨ s = (t.2.1, t.2.2, t.1) ∨ s = (t.2.2, t.1, t.2.1)
theorem RotE.refl (t : Tri) : RotE t t := .inl rfl
theorem RotE.symm {s t : Tri} (h : RotE s t) : RotE t s := by
  rcases h with rfl | rfl | rfl
  · exact .inl rfl
  · exact .inr (.inr rfl)
  · exact .inr (.inl rfl)
theorem RotE.trans {r s t : Tri} (h : RotE r s) (k : RotE s t) : RotE r t := by
  rcases h with rfl | rfl | rfl
  · exact k
  · rcases k with rfl | rfl | rfl
    · exact .inr (.inl rfl)
    · exact .inr (.inr rfl)
    · exact .inl rfl
  · rcases k with rfl | rfl | rfl
    · exact .inr (.inr rfl)
    · exact .inl rfl
    · exact .inr (.inl rfl)
theorem RotE.edges {s t : Tri} (h : RotE s t) : (edgesT s).Perm (edgesT t) := by
  rcases h with rfl | rfl | rfl
  · exact List.Perm.refl _
  · show [(t.2.1, t.2.2), (t.2.2, t.1), (t.1, t.2.1)].Perm [(t.1, t.2.1), (t.2.1, t.2.2), (t.2.2, t.1)]
    exact (List.perm_append_comm (l₁ := [(t.2.1, t.2.2), (t.2.2, t.1)]) (l₂ := [(t.1, t.2.1)]))
  · show [(t.2.2, t.1), (t.1, t.2.1), (t.2.1, t.2.2)].Perm [(t.1, t.2.1), (t.2.1, t.2.2), (t.2.2, t.1)]
    exact (List.perm_append_comm (l₁ := [(t.2.2, t.1)]) (l₂ := [(t.1, t.2.1), (t.2.1, t.2.2)]))
def cornT (t : Tri) : List Pt := [t.1, t.2.1, t.2.2]
theorem RotE.corners {s t : Tri} (h : RotE s t) : (cornT s).Perm (cornT t) := by
  rcases h with rfl | rfl | rfl
  · exact List.Perm.refl _
  · exact (List.perm_append_comm (l₁ := [t.2.1, t.2.2]) (l₂ := [t.1]))
  · exact (List.perm_append_comm (l₁ := [t.2.2]) (l₂ := [t.1, t.2.1]))
theorem RotE.flat {s t : Tri} (h : RotE s t) : flatT s = flatT t := by
  rcases h with rfl | rfl | rfl
  · rfl
  · unfold flatT; rw [decide_eq_decide]; simp only; constructor <;> (rintro (h | h | h) <;> simp [h])
  · unfold flatT; rw [decide_eq_decide]; simp only; constructor <;> (rintro (h | h | h) <;> simp [h])
theorem RotE.coord {s t : Tri} (h : RotE s t) : coordT s = coordT t := by
  have e : ∀ u : Tri, coordT u = (cornT u).all (fun p => decide (0 ≤ p.1 ∧ p.1 ≤ 2097151 ∧ 0 ≤ p.2.1 ∧ p.2.1 ≤ 2097151 ∧ 0 ≤ p.2.2 ∧ p.2.2 ≤ 2097151)) := fun _ => rfl
  rw [e, e, Bool.eq_iff_iff, List.all_eq_true, List.all_eq_true]
  exact ⟨fun k x hx => k x (h.corners.mem_iff.2 hx), fun k x hx => k x (h.corners.mem_iff.1 hx)⟩
/-- The least rotation. -/
def nrm (t : Tri) : Tri :=
  let m := if triLt (t.2.1, t.2.2, t.1) t then (t.2.1, t.2.2, t.1) else t
  if triLt (t.2.2, t.1, t.2.1) m then (t.2.2, t.1, t.2.1) else m
theorem triLt_ftrans {a b c : Tri} (h1 : triLt a b = false) (h2 : triLt b c = false) : triLt a c = false := by
  have := triLe_trans c b a (by unfold triLe; rw [h2]; rfl) (by unfold triLe; rw [h1]; rfl)
  unfold triLe at this; simpa using this
theorem nrm_rot (t : Tri) : RotE (nrm t) t := by
  have k : ∀ m : Tri, RotE m t → RotE (if triLt (t.2.2, t.1, t.2.1) m then (t.2.2, t.1, t.2.1) else m) t := fun m hm => by
    split
    · exact .inr (.inr rfl)
    · exact hm
  unfold nrm
  refine k _ ?_
  split
  · exact .inr (.inl rfl)
  · exact .inl rfl
theorem nrm_le {s t : Tri} (h : RotE s t) : triLt s (nrm t) = false := by
  have k1 : triLt t (if triLt (t.2.1, t.2.2, t.1) t then (t.2.1, t.2.2, t.1) else t) = false := by
    split
    · rename_i h; exact triLt_asymm h
    · exact triLt_irrefl t
  have k2 : triLt (t.2.1, t.2.2, t.1) (if triLt (t.2.1, t.2.2, t.1) t then (t.2.1, t.2.2, t.1) else t) = false := by
    split
    · exact triLt_irrefl _
    · rename_i h; simpa using h
  unfold nrm
  simp only
  generalize (if triLt (t.2.1, t.2.2, t.1) t then (t.2.1, t.2.2, t.1) else t) = m at *
  split
  · rename_i h3
    have h4 := triLt_asymm h3
    rcases h with rfl | rfl | rfl
    · exact triLt_ftrans k1 h4
    · exact triLt_ftrans k2 h4
    · exact triLt_irrefl _
  · rename_i h3
    rcases h with rfl | rfl | rfl
    · exact k1
    · exact k2
    · simpa using h3
theorem nrm_eq {s t : Tri} (h : RotE s t) : nrm s = nrm t :=
  triLt_total (nrm_le ((nrm_rot s).trans h)) (nrm_le ((nrm_rot t).trans h.symm))
/-- Where no corners are equal the rotation by the least corner is the least one. -/
theorem rot_rot (t : Tri) : RotE (rot t) t := by
  unfold rot
  split
  · split
    · exact .inr (.inr rfl)
    · exact .inr (.inl rfl)
  · split
    · exact .inr (.inr rfl)
    · exact .inl rfl
theorem rot_first (t : Tri) : ptLt (rot t).2.1 (rot t).1 = false ∧ ptLt (rot t).2.2 (rot t).1 = false := by
  unfold rot
  cases h1 : ptLt t.2.1 t.1 with
  | false =>
    rw [if_neg (by simp)]
    cases h2 : ptLt t.2.2 t.1 with
    | false => rw [if_neg (by simp)]; exact ⟨h1, h2⟩
    | true =>
      rw [if_pos rfl]
      simp only
      refine ⟨ptLt_asymm h2, ?_⟩
      cases h3 : ptLt t.2.1 t.2.2 with
      | false => rfl
      | true => rw [ptLt_trans h3 h2] at h1; cases h1
  | true =>
    rw [if_pos rfl]
    cases h2 : ptLt t.2.2 t.2.1 with
    | true => rw [if_pos rfl]; exact ⟨ptLt_asymm (ptLt_trans h2 h1), ptLt_asymm h2⟩
    | false => rw [if_neg (by simp)]; exact ⟨h2, ptLt_asymm h1⟩
theorem rot_fix {t : Tri} (h1 : ptLt t.2.1 t.1 = false) (h2 : ptLt t.2.2 t.1 = false) : rot t = t := by
  unfold rot; rw [h1, h2]; rfl
theorem rot_idem (t : Tri) : rot (rot t) = rot t := rot_fix (rot_first t).1 (rot_first t).2
theorem rot_eq {s t : Tri} (h : RotE s t) (hf : flatT t = false) : rot s = rot t := by
  have key : ∀ {a b : Tri}, RotE a b → flatT b = false → ptLt a.2.1 a.1 = false → ptLt a.2.2 a.1 = false → ptLt b.2.1 b.1 = false → ptLt b.2.2 b.1 = false → a = b := by
    intro a b hab hb a1 a2 b1 b2
    have hb' : b.1 ≠ b.2.1 ∧ b.2.1 ≠ b.2.2 ∧ b.2.2 ≠ b.1 := by
      unfold flatT at hb
      simpa [not_or] using hb
    rcases hab with rfl | rfl | rfl
    · rfl
    · simp only at a1 a2
      exact absurd (ptLt_total a2 b1) hb'.1
    · simp only at a1 a2
      exact absurd (ptLt_total b2 a1) hb'.2.2
  refine key ((rot_rot s).trans (h.trans (rot_rot t).symm)) ?_ (rot_first s).1 (rot_first s).2 (rot_first t).1 (rot_first t).2
  rw [(rot_rot t).flat]; exact hf
/-- Lists alike. -/
def Alike (l l' : List Tri) : Prop := (l.map nrm).Perm (l'.map nrm)
theorem Alike.refl (l : List Tri) : Alike l l := List.Perm.refl _
theorem Alike.symm {l l' : List Tri} (h : Alike l l') : Alike l' l := List.Perm.symm h
theorem Alike.trans {a b c : List Tri} (h : Alike a b) (k : Alike b c) : Alike a c := List.Perm.trans h k
theorem Alike.of_perm {l l' : List Tri} (h : l.Perm l') : Alike l l' := h.map nrm
theorem Alike.length {l l' : List Tri} (h : Alike l l') : l.length = l'.length := by have := List.Perm.length_eq h; simpa using this
theorem Alike.of_rot {f : Tri → Tri} (hf : ∀ t, RotE (f t) t) (l : List Tri) : Alike (l.map f) l := by
  have e : (l.map f).map nrm = l.map nrm := by rw [List.map_map]; exact List.map_congr_left (fun t _ => nrm_eq (hf t))
  unfold Alike; rw [e]
theorem canon_alike (l : List Tri) : Alike (canon l) l := (Alike.of_perm (List.mergeSort_perm _ _)).trans (Alike.of_rot rot_rot l)
theorem Alike.mem {l l' : List Tri} (h : Alike l l') {t : Tri} (ht : t ∈ l) : ∃ t', t' ∈ l' ∧ RotE t t' := by
  have h1 : nrm t ∈ l'.map nrm := h.mem_iff.1 (List.mem_map_of_mem ht)
  obtain ⟨t', h2, h3⟩ := List.mem_map.1 h1
  refine ⟨t', h2, (nrm_rot t).symm.trans ?_⟩
  rw [← h3]; exact nrm_rot t'
theorem flatMap_nrm {β : Type} (f : Tri → List β) (hf : ∀ t, (f (nrm t)).Perm (f t)) : ∀ l : List Tri, ((l.map nrm).flatMap f).Perm (l.flatMap f)
  | [] => List.Perm.refl _
  | t :: l => by
    show (f (nrm t) ++ (l.map nrm).flatMap f).Perm (f t ++ l.flatMap f)
    exact (hf t).append (flatMap_nrm f hf l)
theorem perm_flatMap {α β : Type} (f : α → List β) {l l' : List α} (h : l.Perm l') : (l.flatMap f).Perm (l'.flatMap f) := by
  induction h with
  | nil => exact List.Perm.refl _
  | cons x _ ih => rw [List.flatMap_cons, List.flatMap_cons]; exact ih.append_left _
  | swap x y l =>
    simp only [List.flatMap_cons]
    rw [← List.append_assoc, ← List.append_assoc]
    exact List.perm_append_comm.append_right _
  | trans _ _ h1 h2 => exact h1.trans h2
theorem Alike.flatMap {β : Type} (f : Tri → List β) (hf : ∀ {s t : Tri}, RotE s t → (f s).Perm (f t)) {l l' : List Tri} (h : Alike l l') : (l.flatMap f).Perm (l'.flatMap f) :=
  ((flatMap_nrm f (fun t => hf (nrm_rot t)) l).symm.trans (perm_flatMap f h)).trans (flatMap_nrm f (fun t => hf (nrm_rot t)) l')
theorem Alike.edges {l l' : List Tri} (h : Alike l l') : (edgesL l).Perm (edgesL l') := h.flatMap edgesT (fun k => k.edges)
theorem Alike.many {l l' : List Tri} (h : Alike l l') (p : Pt) : manyC l p = manyC l' p := (h.flatMap cornT (fun k => k.corners)).count_eq p
theorem Alike.anyB {f : Tri → Bool} (hf : ∀ {s t : Tri}, RotE s t → f s = f t) {l l' : List Tri} (h : Alike l l') : l.any f = l'.any f := by
  rw [Bool.eq_iff_iff, List.any_eq_true, List.any_eq_true]
  constructor
  · rintro ⟨t, h1, h2⟩
    obtain ⟨t', k1, k2⟩ := h.mem h1
    exact ⟨t', k1, by rw [← hf k2]; exact h2⟩
  · rintro ⟨t, h1, h2⟩
    obtain ⟨t', k1, k2⟩ := h.symm.mem h1
    exact ⟨t', k1, by rw [← hf k2]; exact h2⟩
theorem Alike.allB {f : Tri → Bool} (hf : ∀ {s t : Tri}, RotE s t → f s = f t) {l l' : List Tri} (h : Alike l l') : l.all f = l'.all f := by
  rw [List.all_eq_not_any_not, List.all_eq_not_any_not, h.anyB (f := fun t => !f t) (fun k => by rw [hf k])]
/-- Edges and third corners. -/
theorem edgesL_cons (t : Tri) (l : List Tri) : edgesL (t :: l) = edgesT t ++ edgesL l := rfl
theorem mem_edgesL {l : List Tri} {e : Pt × Pt} : e ∈ edgesL l ↔ ∃ t, t ∈ l ∧ e ∈ edgesT t := List.mem_flatMap
theorem edge_once : ∀ {l : List Tri}, (edgesL l).Nodup → ∀ {s t : Tri}, s ∈ l → t ∈ l → ∀ {e : Pt × Pt}, e ∈ edgesT s → e ∈ edgesT t → s = t
  | [], _, _, _, h, _, _, _, _ => by cases h
  | a :: l, hn, s, t, hs, ht, e, h1, h2 => by
    rw [edgesL_cons, List.nodup_append] at hn
    obtain ⟨_, n2, n3⟩ := hn
    rcases List.mem_cons.1 hs with hs' | hs'
    · rcases List.mem_cons.1 ht with ht' | ht'
      · rw [hs', ht']
      · subst hs'; exact absurd rfl (n3 e h1 e (mem_edgesL.2 ⟨t, ht', h2⟩))
    · rcases List.mem_cons.1 ht with ht' | ht'
      · subst ht'; exact absurd rfl (n3 e h2 e (mem_edgesL.2 ⟨s, hs', h1⟩))
      · exact edge_once n2 hs' ht' h1 h2
theorem edgesT_nodup : ∀ {l : List Tri}, (edgesL l).Nodup → ∀ {t : Tri}, t ∈ l → (edgesT t).Nodup
  | [], _, _, h => by cases h
  | a :: l, hn, t, ht => by
    rw [edgesL_cons, List.nodup_append] at hn
    rcases List.mem_cons.1 ht with rfl | ht
    · exact hn.1
    · exact edgesT_nodup hn.2.1 ht
theorem third_some : ∀ {l : List Tri} {p q r : Pt}, third l p q = some r → ∃ t, t ∈ l ∧ RotE (p, q, r) t
  | [], _, _, _, h => by cases h
  | t :: l, p, q, r, h => by
    rw [third] at h
    split at h
    · rename_i h1; cases h; exact ⟨t, by simp, .inl (by rw [← h1.1, ← h1.2])⟩
    · split at h
      · rename_i h1; cases h; exact ⟨t, by simp, .inr (.inl (by rw [← h1.1, ← h1.2]))⟩
      · split at h
        · rename_i h1; cases h; exact ⟨t, by simp, .inr (.inr (by rw [← h1.1, ← h1.2]))⟩
        · obtain ⟨t', k1, k2⟩ := third_some h
          exact ⟨t', by simp [k1], k2⟩
theorem rot_unique {t : Tri} (hn : (edgesT t).Nodup) {p q r r' : Pt} (h : RotE (p, q, r) t) (k : RotE (p, q, r') t) : r = r' := by
  obtain ⟨a, b, c⟩ := t
  simp only [edgesT, List.nodup_cons, List.mem_cons, Prod.mk.injEq, List.not_mem_nil, or_false, not_or, List.nodup_nil, and_true, not_and] at hn
  obtain ⟨⟨n1, n2⟩, n3, _⟩ := hn
  simp only [RotE, Prod.mk.injEq] at h k
  rcases h with ⟨rfl, rfl, rfl⟩ | ⟨rfl, rfl, rfl⟩ | ⟨rfl, rfl, rfl⟩
  · rcases k with ⟨_, _, rfl⟩ | ⟨h1, h2, rfl⟩ | ⟨h1, h2, rfl⟩
    · rfl
    · exact absurd h2 (n1 h1)
    · exact absurd h2 (n2 h1)
  · rcases k with ⟨h1, h2, rfl⟩ | ⟨_, _, rfl⟩ | ⟨h1, h2, rfl⟩
    · exact absurd h2.symm (n1 h1.symm)
    · rfl
    · exact absurd h2 (n3 h1)
  · rcases k with ⟨h1, h2, rfl⟩ | ⟨h1, h2, rfl⟩ | ⟨_, _, rfl⟩
    · exact absurd h2.symm (n2 h1.symm)
    · exact absurd h2.symm (n3 h1.symm)
    · rfl
theorem rot_edge {p q r : Pt} {t : Tri} (h : RotE (p, q, r) t) : (p, q) ∈ edgesT t := h.edges.mem_iff.1 (by simp [edgesT])
theorem third_eq {l : List Tri} (hn : (edgesL l).Nodup) {t : Tri} (ht : t ∈ l) {p q r : Pt} (h : RotE (p, q, r) t) : third l p q = some r := by
  have h1 : (third l p q).isSome = true := by rw [third_isSome, decide_eq_true_eq]; exact mem_edgesL.2 ⟨t, ht, rot_edge h⟩
  obtain ⟨r', hr⟩ := Option.isSome_iff_exists.1 h1
  obtain ⟨t', k1, k2⟩ := third_some hr
  have := edge_once hn k1 ht (rot_edge k2) (rot_edge h)
  subst this
  rw [hr, rot_unique (edgesT_nodup hn k1) k2 h]
theorem Alike.third {l l' : List Tri} (h : Alike l l') (hn : (edgesL l).Nodup) (p q : Pt) : third l p q = third l' p q := by
  have hn' : (edgesL l').Nodup := h.edges.nodup_iff.1 hn
  cases h1 : Pk.third l' p q with
  | some r =>
    obtain ⟨t, k1, k2⟩ := third_some h1
    obtain ⟨t', k3, k4⟩ := h.symm.mem k1
    exact third_eq hn k3 (k2.trans k4)
  | none =>
    cases h2 : Pk.third l p q with
    | none => rfl
    | some r =>
      obtain ⟨t, k1, k2⟩ := third_some h2
      obtain ⟨t', k3, k4⟩ := h.mem k1
      rw [third_eq hn' k3 (k2.trans k4)] at h1; cases h1
theorem ringN_congr {l l' : List Tri} (h : ∀ p q, third l p q = third l' p q) (p : Pt) : ∀ (n : Nat) (q : Pt), ringN l p n q = ringN l' p n q
  | 0, _ => rfl
  | n + 1, q => by
    rw [ringN, ringN, h p q]
    cases third l' p q with
    | none => rfl
    | some r => exact ringN_congr h p n r
theorem Alike.pinched {l l' : List Tri} (h : Alike l l') (hn : (edgesL l).Nodup) : pinched l = pinched l' := by
  have hr := ringN_congr (h.third hn)
  have e : ∀ m : List Tri, Pk.pinched m = (edgesL m).any (fun e => (List.range (manyC m e.1)).any (fun n => decide (1 ≤ n) && (ringN m e.1 n e.2 == some e.2))) := fun _ => rfl
  rw [e, e, Bool.eq_iff_iff, List.any_eq_true, List.any_eq_true]
  constructor
  · rintro ⟨x, h1, h2⟩
    refine ⟨x, h.edges.mem_iff.1 h1, ?_⟩
    rw [← h.many]; simpa only [hr] using h2
  · rintro ⟨x, h1, h2⟩
    refine ⟨x, h.edges.mem_iff.2 h1, ?_⟩
    rw [h.many]; simpa only [hr] using h2
theorem Alike.check {l l' : List Tri} (h : Alike l l') : checkO l = checkO l' := by
  unfold checkO
  rw [h.anyB (f := flatT) (fun k => k.flat)]
  by_cases h1 : l'.any flatT = true
  · rw [if_pos h1, if_pos h1]
  · rw [if_neg h1, if_neg h1]
    by_cases h2 : (edgesL l).Nodup
    · rw [if_neg (not_not_intro h2), if_neg (not_not_intro (h.edges.nodup_iff.1 h2)), h.pinched h2]
    · rw [if_pos h2, if_pos (fun k => h2 (h.edges.nodup_iff.2 k))]
theorem Alike.packable {l l' : List Tri} (h : Alike l l') : packable l = packable l' := by
  unfold Pk.packable
  rw [h.allB (f := coordT) (fun k => k.coord), h.length, h.check]
theorem checkO_zero {l : List Tri} : checkO l = 0 ↔ (∀ t, t ∈ l → flatT t = false) ∧ (edgesL l).Nodup ∧ pinched l = false := by
  unfold checkO
  by_cases h1 : l.any flatT = true
  · rw [if_pos h1]
    refine ⟨fun h => by omega, fun h => ?_⟩
    obtain ⟨t, k1, k2⟩ := List.any_eq_true.1 h1
    rw [h.1 t k1] at k2; cases k2
  · have h1' : ∀ t, t ∈ l → flatT t = false := fun t ht => by
      cases hf : flatT t with
      | false => rfl
      | true => exact absurd (List.any_eq_true.2 ⟨t, ht, hf⟩) h1
    rw [if_neg h1]
    by_cases h2 : (edgesL l).Nodup
    · rw [if_neg (not_not_intro h2)]
      cases h3 : pinched l with
      | true => simp
      | false => exact ⟨fun _ => ⟨h1', h2, rfl⟩, fun _ => by simp⟩
    · rw [if_pos h2]
      exact ⟨fun h => by omega, fun h => absurd h.2.1 h2⟩
theorem Alike.canon {l l' : List Tri} (h : Alike l l') (hf : ∀ t, t ∈ l → flatT t = false) : canon l = canon l' := by
  have hf' : ∀ t, t ∈ l' → flatT t = false := fun t ht => by
    obtain ⟨t', k1, k2⟩ := h.symm.mem ht
    rw [k2.flat]; exact hf t' k1
  have e : ∀ m : List Tri, (∀ t, t ∈ m → flatT t = false) → m.map rot = (m.map nrm).map rot := fun m hm => by
    rw [List.map_map]
    refine List.map_congr_left (fun t ht => ?_)
    exact rot_eq (nrm_rot t).symm (by rw [(nrm_rot t).flat]; exact hm t ht)
  unfold Pk.canon
  refine sorted_unique ?_ (List.pairwise_mergeSort triLe_trans triLe_total _) (List.pairwise_mergeSort triLe_trans triLe_total _)
  refine (List.mergeSort_perm _ _).trans (List.Perm.trans ?_ (List.mergeSort_perm _ _).symm)
  rw [e l hf, e l' hf']
  exact List.Perm.map _ h
/-- Neither order nor the first corner plays a part. -/
theorem Alike.cluster {l l' : List Tri} (h : Alike l l') : clusterN l = clusterN l' := by
  unfold clusterN
  rw [h.packable]
  by_cases hp : Pk.packable l' = true
  · rw [if_pos hp, if_pos hp]
    have hp2 : Pk.packable l = true := by rw [h.packable]; exact hp
    unfold Pk.packable at hp2
    simp only [Bool.and_eq_true, decide_eq_true_eq] at hp2
    rw [h.canon (checkO_zero.1 hp2.2).1]
  · rw [if_neg hp, if_neg hp]
theorem canon_idem (l : List Tri) : canon (canon l) = canon l := by
  have e : (canon l).map rot = canon l := by
    have h1 : ∀ t, t ∈ canon l → rot t = t := fun t ht => by
      have h2 : t ∈ l.map rot := (List.mergeSort_perm _ _).mem_iff.1 ht
      obtain ⟨s, _, rfl⟩ := List.mem_map.1 h2
      exact rot_idem s
    calc (canon l).map rot = (canon l).map id := List.map_congr_left h1
      _ = canon l := List.map_id _
  show ((canon l).map rot).mergeSort triLe = canon l
  rw [e]
  refine sorted_unique (List.mergeSort_perm _ _) (List.pairwise_mergeSort triLe_trans triLe_total _) ?_
  exact List.pairwise_mergeSort triLe_trans triLe_total _
end Pk
end Go.Proofs.YtcikldoaidmnhaaGreatDoor
namespace Go.Proofs.YtcikldoaidmnhaaGreatDoor
open Go Go.RowKit
namespace Pk
/-- The program's loop round a corner. -/
def ringLoop (l : List Tri) (p tq : Pt) (M : Nat) : Nat → Nat → Pt → Bool
  | 0, size, at_ => decide (at_ = tq ∧ size < M)
  | f + 1, size, at_ => if at_ ≠ tq ∧ size ≤ M then match third l p at_ with
      | none => decide (at_ = tq ∧ size < M)
      | some b => ringLoop l p tq M f (size + 1) b
    else decide (at_ = tq ∧ size < M)
theorem ringLoop_iff (l : List Tri) (p tq : Pt) (M : Nat) : ∀ (f size : Nat) (at_ : Pt), M + 1 ≤ size + f → (ringLoop l p tq M f size at_ = true ↔ ∃ k, size + k < M ∧ ringN l p k at_ = some tq)
  | 0, size, at_, h => by
    rw [ringLoop, decide_eq_true_eq]
    exact ⟨fun k => absurd k.2 (by omega), fun ⟨k, h1, _⟩ => absurd h1 (by omega)⟩
  | f + 1, size, at_, h => by
    rw [ringLoop]
    by_cases h1 : at_ ≠ tq ∧ size ≤ M
    · rw [if_pos h1]
      cases h2 : third l p at_ with
      | none =>
        simp only
        rw [decide_eq_true_eq]
        refine ⟨fun k => absurd k.1 h1.1, fun ⟨k, h3, h4⟩ => ?_⟩
        cases k with
        | zero => rw [ringN] at h4; cases h4; exact absurd rfl h1.1
        | succ k => rw [ringN, h2] at h4; cases h4
      | some b =>
        simp only
        rw [ringLoop_iff l p tq M f (size + 1) b (by omega)]
        constructor
        · rintro ⟨k, h3, h4⟩
          exact ⟨k + 1, by omega, by rw [ringN, h2]; exact h4⟩
        · rintro ⟨k, h3, h4⟩
          cases k with
          | zero => rw [ringN] at h4; cases h4; exact absurd rfl h1.1
          | succ k => rw [ringN, h2] at h4; exact ⟨k, by omega, h4⟩
    · rw [if_neg h1, decide_eq_true_eq]
      constructor
      · rintro ⟨rfl, h3⟩
        exact ⟨0, h3, rfl⟩
      · rintro ⟨k, h3, h4⟩
        refine ⟨?_, by omega⟩
        by_cases e : at_ = tq
        · exact e
        · exact absurd ⟨e, by omega⟩ h1
def hitE (l : List Tri) (e : Pt × Pt) : Bool := (List.range (manyC l e.1)).any (fun n => decide (1 ≤ n) && (ringN l e.1 n e.2 == some e.2))
theorem hitE_iff (l : List Tri) (e : Pt × Pt) : hitE l e = true ↔ ∃ n, 1 ≤ n ∧ n < manyC l e.1 ∧ ringN l e.1 n e.2 = some e.2 := by
  unfold hitE
  rw [List.any_eq_true]
  constructor
  · rintro ⟨n, h1, h2⟩
    simp only [Bool.and_eq_true, decide_eq_true_eq, beq_iff_eq] at h2
    exact ⟨n, h2.1, List.mem_range.1 h1, h2.2⟩
  · rintro ⟨n, h1, h2, h3⟩
    exact ⟨n, List.mem_range.2 h2, by simp [h1, h3]⟩
theorem pinched_any (l : List Tri) : pinched l = (edgesL l).any (hitE l) := rfl
/-- One round of the program. -/
theorem ring_prog (l : List Tri) (e : Pt × Pt) {at0 : Pt} (h : third l e.1 e.2 = some at0) : ringLoop l e.1 e.2 (manyC l e.1) (manyC l e.1) 1 at0 = hitE l e := by
  rw [Bool.eq_iff_iff, ringLoop_iff l e.1 e.2 _ _ _ _ (by omega), hitE_iff]
  constructor
  · rintro ⟨k, h1, h2⟩
    exact ⟨k + 1, by omega, by omega, by rw [ringN, h]; exact h2⟩
  · rintro ⟨n, h1, h2, h3⟩
    obtain ⟨k, rfl⟩ : ∃ k, n = k + 1 := ⟨n - 1, by omega⟩
    rw [ringN, h] at h3
    exact ⟨k, by omega, h3⟩
/-- The reference's triangles at a corner, and the corners behind it. -/
def mineL (l : List Tri) (p : Pt) : List Tri := l.flatMap (fun t => ((edgesT t).filter (fun e => decide (e.1 = p))).map (fun _ => t))
def startsL (l : List Tri) (p : Pt) : List Pt := l.flatMap (fun t => ((edgesT t).filter (fun e => decide (e.1 = p))).map (·.2))
theorem third_or (a b : List Tri) (p q : Pt) : third (a ++ b) p q = (third a p q).or (third b p q) := by
  induction a with
  | nil => rfl
  | cons t a ih =>
    rw [List.cons_append, third, third]
    split
    · rfl
    · split
      · rfl
      · split
        · rfl
        · exact ih
theorem third_all {t : Tri} {p q : Pt} : ∀ {xs : List Tri}, (∀ x, x ∈ xs → x = t) → xs ≠ [] → third xs p q = third [t] p q
  | [], _, h => absurd rfl h
  | [x], h, _ => by rw [h x (by simp)]
  | x :: y :: xs, h, _ => by
    have ih := third_all (p := p) (q := q) (xs := y :: xs) (fun z hz => h z (by simp [hz])) (by simp)
    have : x :: y :: xs = [x] ++ (y :: xs) := rfl
    rw [this, third_or, ih, h x (by simp)]
    cases third [t] p q <;> rfl
theorem third_mine (p q : Pt) : ∀ l : List Tri, third (mineL l p) p q = third l p q
  | [] => rfl
  | t :: l => by
    have e : mineL (t :: l) p = ((edgesT t).filter (fun e => decide (e.1 = p))).map (fun _ => t) ++ mineL l p := rfl
    rw [e, third_or, third_mine p q l, show t :: l = [t] ++ l from rfl, third_or]
    by_cases hx : ((edgesT t).filter (fun e => decide (e.1 = p))).map (fun _ => t) = []
    · rw [hx]
      have hn : ∀ e, e ∈ edgesT t → e.1 ≠ p := fun e he h => by
        have : e ∈ (edgesT t).filter (fun e => decide (e.1 = p)) := List.mem_filter.2 ⟨he, by simp [h]⟩
        rw [List.map_eq_nil_iff] at hx
        rw [hx] at this; cases this
      have h1 := hn (t.1, t.2.1) (by simp [edgesT])
      have h2 := hn (t.2.1, t.2.2) (by simp [edgesT])
      have h3 := hn (t.2.2, t.1) (by simp [edgesT])
      have : third [t] p q = none := by
        rw [third, if_neg (fun h => h1 h.1), if_neg (fun h => h2 h.1), if_neg (fun h => h3 h.1)]; rfl
      rw [this]; rfl
    · rw [third_all (t := t) (fun x hx => by obtain ⟨_, _, rfl⟩ := List.mem_map.1 hx; rfl) hx]
theorem mine_length (l : List Tri) (p : Pt) : (mineL l p).length = manyC l p := by
  induction l with
  | nil => rfl
  | cons t l ih =>
    have e1 : mineL (t :: l) p = ((edgesT t).filter (fun e => decide (e.1 = p))).map (fun _ => t) ++ mineL l p := rfl
    have e2 : manyC (t :: l) p = [t.1, t.2.1, t.2.2].count p + manyC l p := by unfold manyC; rw [List.flatMap_cons, List.count_append]
    rw [e1, e2, List.length_append, List.length_map, ih]
    congr 1
    simp only [edgesT, List.filter_cons, List.filter_nil, List.count_cons, List.count_nil, beq_iff_eq, decide_eq_true_eq]
    split <;> split <;> split <;> simp
theorem starts_length (l : List Tri) (p : Pt) : (startsL l p).length = (mineL l p).length := by
  induction l with
  | nil => rfl
  | cons t l ih =>
    have e1 : mineL (t :: l) p = ((edgesT t).filter (fun e => decide (e.1 = p))).map (fun _ => t) ++ mineL l p := rfl
    have e2 : startsL (t :: l) p = ((edgesT t).filter (fun e => decide (e.1 = p))).map (·.2) ++ startsL l p := rfl
    rw [e1, e2, List.length_append, List.length_append, List.length_map, List.length_map, ih]
theorem mem_starts {l : List Tri} {p q : Pt} : q ∈ startsL l p ↔ (p, q) ∈ edgesL l := by
  unfold startsL
  rw [List.mem_flatMap, mem_edgesL]
  constructor
  · rintro ⟨t, h1, h2⟩
    obtain ⟨e, h3, rfl⟩ := List.mem_map.1 h2
    obtain ⟨h4, h5⟩ := List.mem_filter.1 h3
    refine ⟨t, h1, ?_⟩
    have : e.1 = p := by simpa using h5
    rw [← this]; exact h4
  · rintro ⟨t, h1, h2⟩
    exact ⟨t, h1, List.mem_map.2 ⟨(p, q), List.mem_filter.2 ⟨h2, by simp⟩, rfl⟩⟩
/-- The reference's loop: so many steps are left. -/
def stepLoop (m : List Tri) (p start : Pt) : Nat → Pt → Bool
  | 0, _ => false
  | n + 1, at_ => match third m p at_ with
    | none => false
    | some b => if b = start then true else stepLoop m p start n b
theorem stepLoop_iff (m : List Tri) (p start : Pt) : ∀ (n : Nat) (at_ : Pt), stepLoop m p start n at_ = true ↔ ∃ k, 1 ≤ k ∧ k ≤ n ∧ ringN m p k at_ = some start
  | 0, at_ => by
    rw [stepLoop]
    exact ⟨fun h => (by cases h), fun ⟨k, h1, h2, _⟩ => (by omega)⟩
  | n + 1, at_ => by
    rw [stepLoop]
    cases h : third m p at_ with
    | none =>
      simp only
      refine ⟨fun h => (by cases h), fun ⟨k, h1, _, h3⟩ => ?_⟩
      obtain ⟨j, rfl⟩ : ∃ j, k = j + 1 := ⟨k - 1, by omega⟩
      rw [ringN, h] at h3; cases h3
    | some b =>
      simp only
      by_cases hb : b = start
      · rw [if_pos hb]
        refine ⟨fun _ => ⟨1, by omega, by omega, ?_⟩, fun _ => rfl⟩
        rw [ringN, h, hb]; rfl
      · rw [if_neg hb, stepLoop_iff m p start n b]
        constructor
        · rintro ⟨k, h1, h2, h3⟩
          exact ⟨k + 1, by omega, by omega, by rw [ringN, h]; exact h3⟩
        · rintro ⟨k, h1, h2, h3⟩
          obtain ⟨j, rfl⟩ : ∃ j, k = j + 1 := ⟨k - 1, by omega⟩
          rw [ringN, h] at h3
          simp only at h3
          cases j with
          | zero => rw [ringN] at h3; cases h3; exact absurd rfl hb
          | succ j => exact ⟨j + 1, by omega, by omega, h3⟩
/-- The reference at one corner. -/
def pinchedAt (l : List Tri) (p : Pt) : Bool := (startsL l p).any (fun q => stepLoop (mineL l p) p q ((mineL l p).length - 1) q)
theorem ringN_mine (l : List Tri) (p : Pt) : ∀ (n : Nat) (q : Pt), ringN (mineL l p) p n q = ringN l p n q
  | 0, _ => rfl
  | n + 1, q => by
    rw [ringN, ringN, third_mine]
    cases third l p q with
    | none => rfl
    | some r => exact ringN_mine l p n r
theorem pinchedAt_iff (l : List Tri) (p : Pt) : pinchedAt l p = true ↔ ∃ q, (p, q) ∈ edgesL l ∧ hitE l (p, q) = true := by
  unfold pinchedAt
  rw [List.any_eq_true]
  constructor
  · rintro ⟨q, h1, h2⟩
    refine ⟨q, mem_starts.1 h1, ?_⟩
    rw [stepLoop_iff] at h2
    obtain ⟨k, k1, k2, k3⟩ := h2
    rw [hitE_iff]
    rw [mine_length] at k2
    exact ⟨k, k1, by show k < manyC l p; omega, by rw [← ringN_mine]; exact k3⟩
  · rintro ⟨q, h1, h2⟩
    refine ⟨q, mem_starts.2 h1, ?_⟩
    rw [hitE_iff] at h2
    obtain ⟨k, k1, k2, k3⟩ := h2
    rw [stepLoop_iff, mine_length]
    have k2' : k < manyC l p := k2
    exact ⟨k, k1, by omega, by rw [ringN_mine]; exact k3⟩
/-- The reference looks at each corner once. -/
theorem pinched_ref (l : List Tri) (cs : List Pt) (h : ∀ p, p ∈ cs ↔ ∃ t, t ∈ l ∧ p ∈ cornT t) : cs.any (pinchedAt l) = pinched l := by
  rw [pinched_any, Bool.eq_iff_iff, List.any_eq_true, List.any_eq_true]
  constructor
  · rintro ⟨p, _, h2⟩
    obtain ⟨q, h3, h4⟩ := (pinchedAt_iff l p).1 h2
    exact ⟨(p, q), h3, h4⟩
  · rintro ⟨⟨p, q⟩, h1, h2⟩
    obtain ⟨t, k1, k2⟩ := mem_edgesL.1 h1
    refine ⟨p, (h p).2 ⟨t, k1, ?_⟩, (pinchedAt_iff l p).2 ⟨q, h1, h2⟩⟩
    simp only [edgesT, List.mem_cons, Prod.mk.injEq, List.not_mem_nil, or_false] at k2
    rcases k2 with ⟨rfl, _⟩ | ⟨rfl, _⟩ | ⟨rfl, _⟩ <;> simp [cornT]
end Pk
end Go.Proofs.YtcikldoaidmnhaaGreatDoor
namespace Go.Proofs.YtcikldoaidmnhaaGreatDoor
open Go Go.RowKit
namespace Pk
theorem rot_ref (t : Tri) : (if ptLt t.2.2 t.1 && (ptLt t.2.2 t.2.1 || !ptLt t.2.1 t.1) then (t.2.2, t.1, t.2.1) else if ptLt t.2.1 t.1 then (t.2.1, t.2.2, t.1) else t) = rot t := by
  unfold rot
  cases h1 : ptLt t.2.1 t.1 <;> cases h2 : ptLt t.2.2 t.2.1 <;> cases h3 : ptLt t.2.2 t.1 <;> simp
  have := ptLt_trans h2 h1
  rw [h3] at this; cases this
/-- Two ordered lists are merged. -/
def mergeT : List Tri → List Tri → List Tri
  | [], b => b
  | a :: r, b => b.takeWhile (fun t => triLt t a) ++ a :: mergeT r (b.dropWhile (fun t => triLt t a))
theorem mergeT_perm : ∀ a b : List Tri, (mergeT a b).Perm (a ++ b)
  | [], b => List.Perm.refl _
  | a :: r, b => by
    rw [mergeT]
    have h1 := mergeT_perm r (b.dropWhile (fun t => triLt t a))
    have h2 : b = b.takeWhile (fun t => triLt t a) ++ b.dropWhile (fun t => triLt t a) := List.takeWhile_append_dropWhile.symm
    refine (List.perm_middle).trans ?_
    rw [List.cons_append]
    refine List.Perm.cons a ?_
    refine (List.Perm.append_left _ h1).trans ?_
    refine List.Perm.trans ?_ (List.Perm.of_eq (congrArg (r ++ ·) h2.symm))
    show (_ ++ (r ++ _)).Perm (r ++ (_ ++ _))
    rw [← List.append_assoc, ← List.append_assoc]
    exact List.Perm.append_right _ List.perm_append_comm
theorem le_of_ge {s t : Tri} (h : triLt s t = false) : triLe t s = true := by unfold triLe; rw [h]; rfl
theorem le_of_lt {s t : Tri} (h : triLt s t = true) : triLe s t = true := by unfold triLe; rw [triLt_asymm h]; rfl
def Sorted (l : List Tri) : Prop := l.Pairwise (fun a b => triLe a b = true)
theorem sorted_drop {a : Tri} : ∀ {b : List Tri}, Sorted b → (∀ x, x ∈ b.dropWhile (fun t => triLt t a) → triLe a x = true) ∧ Sorted (b.dropWhile (fun t => triLt t a))
  | [], _ => ⟨fun x h => (by cases h), List.Pairwise.nil⟩
  | y :: b, h => by
    obtain ⟨p1, p2⟩ := List.pairwise_cons.1 h
    rw [List.dropWhile_cons]
    cases hy : triLt y a
    · simp only [Bool.false_eq_true, if_false]
      refine ⟨fun x hx => ?_, h⟩
      rcases List.mem_cons.1 hx with rfl | hx
      · exact le_of_ge hy
      · exact triLe_trans _ _ _ (le_of_ge hy) (p1 x hx)
    · simp only [if_true]
      exact sorted_drop p2
theorem mergeT_sorted : ∀ {a b : List Tri}, Sorted a → Sorted b → Sorted (mergeT a b)
  | [], b, _, h => h
  | a :: r, b, h1, h2 => by
    obtain ⟨p1, p2⟩ := List.pairwise_cons.1 h1
    obtain ⟨q1, q2⟩ := sorted_drop (a := a) h2
    have ih := mergeT_sorted p2 q2
    rw [mergeT]
    have ht : ∀ x, x ∈ b.takeWhile (fun t => triLt t a) → triLt x a = true := fun x hx => by
      exact List.all_eq_true.1 (List.all_takeWhile (p := fun t => triLt t a) (l := b)) x hx
    have hr : ∀ x, x ∈ a :: mergeT r (b.dropWhile (fun t => triLt t a)) → triLe a x = true := fun x hx => by
      rcases List.mem_cons.1 hx with rfl | hx
      · exact le_of_ge (triLt_irrefl x)
      · rcases List.mem_append.1 ((mergeT_perm _ _).mem_iff.1 hx) with hx | hx
        · exact p1 x hx
        · exact q1 x hx
    refine List.pairwise_append.2 ⟨?_, List.pairwise_cons.2 ⟨fun x hx => hr x (List.mem_cons_of_mem _ hx), ih⟩, fun x hx y hy => triLe_trans _ _ _ (le_of_lt (ht x hx)) (hr y hy)⟩
    exact List.Pairwise.sublist (List.takeWhile_sublist _) h2
theorem mergeT_sort (a b : List Tri) : mergeT (a.mergeSort triLe) (b.mergeSort triLe) = (a ++ b).mergeSort triLe := by
  have hs : ∀ l : List Tri, Sorted (l.mergeSort triLe) := fun l => List.pairwise_mergeSort triLe_trans triLe_total l
  refine sorted_unique ?_ (mergeT_sorted (hs a) (hs b)) (hs _)
  refine (mergeT_perm _ _).trans (List.Perm.trans ?_ (List.mergeSort_perm _ _).symm)
  exact List.Perm.append (List.mergeSort_perm _ _) (List.mergeSort_perm _ _)
theorem sort_half (l : List Tri) : mergeT ((l.take (l.length / 2)).mergeSort triLe) ((l.drop (l.length / 2)).mergeSort triLe) = l.mergeSort triLe := by
  rw [mergeT_sort, List.take_append_drop]
theorem sort_few (l : List Tri) (h : l.length < 2) : l.mergeSort triLe = l := by
  match l, h with
  | [], _ => simp
  | [a], _ => simp
/-- A corner is put into an ordered list, once. -/
def withP (l : List Pt) (p : Pt) : List Pt := if (l.dropWhile (fun q => ptLt q p)).head? = some p then l else l.takeWhile (fun q => ptLt q p) ++ p :: l.dropWhile (fun q => ptLt q p)
theorem withP_mem (l : List Pt) (p q : Pt) : q ∈ withP l p ↔ q = p ∨ q ∈ l := by
  have h2 : l = l.takeWhile (fun q => ptLt q p) ++ l.dropWhile (fun q => ptLt q p) := List.takeWhile_append_dropWhile.symm
  unfold withP
  split
  · rename_i h
    have : p ∈ l := by
      rw [h2]
      exact List.mem_append_right _ (List.mem_of_mem_head? h)
    constructor
    · exact fun h => .inr h
    · rintro (rfl | h)
      · exact this
      · exact h
  · constructor
    · intro h
      rcases List.mem_append.1 h with h | h
      · exact .inr (by rw [h2]; exact List.mem_append_left _ h)
      · rcases List.mem_cons.1 h with h | h
        · exact .inl h
        · exact .inr (by rw [h2]; exact List.mem_append_right _ h)
    · rintro (rfl | h)
      · exact List.mem_append_right _ (by simp)
      · rw [h2] at h
        rcases List.mem_append.1 h with h | h
        · exact List.mem_append_left _ h
        · exact List.mem_append_right _ (List.mem_cons_of_mem _ h)
theorem withP_len (l : List Pt) (p : Pt) : (withP l p).length ≤ l.length + 1 := by
  unfold withP
  split
  · omega
  · have h2 := congrArg List.length (List.takeWhile_append_dropWhile (p := fun q => ptLt q p) (l := l))
    rw [List.length_append] at h2
    rw [List.length_append, List.length_cons]; omega
def cornersL (l : List Tri) : List Pt := (l.flatMap cornT).foldl withP []
theorem foldl_with (ps : List Pt) : ∀ (l : List Pt) (q : Pt), q ∈ ps.foldl withP l ↔ q ∈ l ∨ q ∈ ps := by
  induction ps with
  | nil => intro l q; simp
  | cons p ps ih => intro l q; rw [List.foldl_cons, ih, withP_mem, List.mem_cons]; exact ⟨fun h => h.elim (fun h => h.elim (fun h => .inr (.inl h)) .inl) (fun h => .inr (.inr h)), fun h => h.elim (fun h => .inl (.inr h)) (fun h => h.elim (fun h => .inl (.inl h)) .inr)⟩
theorem cornersL_mem (l : List Tri) (p : Pt) : p ∈ cornersL l ↔ ∃ t, t ∈ l ∧ p ∈ cornT t := by
  unfold cornersL
  rw [foldl_with]
  simp [List.mem_flatMap]
theorem foldl_with_len (ps : List Pt) : ∀ l : List Pt, (ps.foldl withP l).length ≤ l.length + ps.length := by
  induction ps with
  | nil => intro l; simp
  | cons p ps ih => intro l; rw [List.foldl_cons]; have := ih (withP l p); have := withP_len l p; rw [List.length_cons]; omega
/-- What the reference's check comes to. -/
theorem check_ref (l : List Tri) : (if l.any flatT then 20 else if (edgesL l).any (fun e => decide (1 < (edgesL l).count e)) then 21 else if (cornersL l).any (pinchedAt l) then 23 else 0) = checkO l := by
  unfold checkO
  rw [pinched_ref l (cornersL l) (cornersL_mem l)]
  have : ((edgesL l).any (fun e => decide (1 < (edgesL l).count e)) = true) ↔ ¬ (edgesL l).Nodup := by
    rw [List.any_eq_true, List.nodup_iff_count]
    constructor
    · rintro ⟨e, he, hc⟩ h
      have := h e
      simp at hc
      omega
    · intro h
      obtain ⟨e, he⟩ := Classical.not_forall.1 h
      exact ⟨e, List.count_pos_iff.1 (by omega), by simp; omega⟩
  by_cases hn : (edgesL l).Nodup
  · have h2 : ¬ ((edgesL l).any (fun e => decide (1 < (edgesL l).count e)) = true) := fun h => this.1 h hn
    rw [if_neg h2]
    simp [hn]
  · rw [if_pos (this.2 hn)]
    simp [hn]
end Pk
end Go.Proofs.YtcikldoaidmnhaaGreatDoor
namespace Go.Proofs.YtcikldoaidmnhaaGreatDoor
open Go Go.RowKit

theorem upd_of_grown {F : Nat → Prop} {w w' : World} {row : Option Nat} (hg : w.grownBy w' row) (hr : ∀ k, row = some k → k < w.heap.size → F k) : Upd F w w' := (Upd.refl F w).grown hg hr
theorem ownsRow_keep {w w' : World} {base n : Nat} {T : TypeId} {s : Nat} {v : Value} {xs : List Value} (own : w.ownsRow base T s v n xs) (hk : ∀ g, v.ownBlock = some g → w'.heap[g]? = w.heap[g]?) : w'.ownsRow base T s v n xs := by
  refine ⟨own.1, ?_⟩
  rcases own.2 with h | ⟨g, cap, cur, rfl, hg, hh, r⟩
  · exact .inl h
  · exact .inr ⟨g, cap, cur, rfl, hg, (hk g (by simp [Value.ownBlock])).trans hh, r⟩
theorem ownsRow_upd {w w' : World} {base n : Nat} {T : TypeId} {s : Nat} {v : Value} {xs : List Value} (own : w.ownsRow base T s v n xs) (hu : Upd noBlk w w') : w'.ownsRow base T s v n xs :=
  ownsRow_keep own (fun g hg => hu.block g (own.lt g hg).2 id)
/-- 'append(own, x)' where the row was begun behind w0. -/
theorem append_item {P : Program} {F : Nat → Prop} {w0 w : World} (t ty e : TypeId) (i : TypeInfo) (z : Value) (size bytes : Nat) (ht : P.underlying t = some (.slice e)) (hi : P.info? e = some i) (hz : i.zero = some z)
    (hsize : i.size = size) (hby : i.bytes = bytes) (hzs : z.cells.size = size) (hsz : 0 < size) (hup : Upd F w0 w) {v : Value} {n : Nat} {xs : List Value} (hown : w.ownsRow w0.heap.size e size v n xs)
    (news : List Value) (hl : news.length = size) (h1 : ∀ u ∈ news, u.oneCell' = true) (h63 : n + 1 ≤ maxLen) (hbytes : (n + 1) * bytes ≤ 140737488355328) :
    ∃ g cap w', (Builtin.append_ #[t, t] ty #[v, .slice (some ⟨w.heap.size, 0, none⟩) 1 1]).run P (w.alloc (.cells news.toArray e)) = .ok (.slice (some ⟨g, 0, none⟩) (n + 1) cap) w' ∧
      w'.ownsRow w0.heap.size e size (.slice (some ⟨g, 0, none⟩) (n + 1) cap) (n + 1) (xs ++ news) ∧ Upd F w0 w' ∧ Upd (fun k => v.ownBlock = some k) w w' ∧ (v.ownBlock = some g ∨ g = w.heap.size + 1) ∧ g < w'.heap.size := by
  obtain ⟨g, cap, w', r, o, gr, hat, hlt⟩ := append_one (P := P) w t ty e i z size bytes ht hi hz hsize hby hzs hsz hown hup.size news hl h1 h63 hbytes
  have hu2 : Upd (fun k => v.ownBlock = some k) w w' := (upd_of_grown (World.grownBy_alloc w _ v.ownBlock) (fun j hj _ => hj)).trans (upd_of_grown gr (fun j hj _ => hj))
  exact ⟨g, cap, w', r, o, hup.then hu2 (fun j hj hj' => absurd (hown.lt j hj').1 (by omega)), hu2, hat, hlt⟩
end Go.Proofs.YtcikldoaidmnhaaGreatDoor
