/- Plain laws of the polygon files' texts: what reading form 1 comes to. No condition. Plain laws of the polygon files' texts: corners from the end. No condition. -/
import Derived.Test.YtojdgdeefhndiaaDoorM16
namespace Go.Proofs.YtojdgdeefhndiaaDoor
open Go Go.RowKit
namespace Sp
open Bg
def vW (p : Pt) : List Bytes := wV :: ptW p
theorem one_v : ∀ (ns : List Pt) (l1 r : List (Nat × List Bytes)) (cs : List Pt) (acc : List Poly), (∀ p, p ∈ ns → inR p = true) → l1.map (·.2) = ns.map vW → oneN (l1 ++ r) cs acc = oneN r (cs ++ ns) acc
  | [], [], r, cs, acc, _, _ => by simp
  | p :: ns, (i, ws) :: l1, r, cs, acc, h, hm => by
    simp only [List.map_cons, List.cons.injEq] at hm
    rw [List.cons_append, hm.1, vW, oneN_v, cornerS_ptW (h p (by simp))]
    simp only
    rw [one_v ns l1 r _ acc (fun x hx => h x (by simp [hx])) hm.2]
    simp
theorem joinL_append (a b : List Bytes) : joinL (a ++ b) = joinL a ++ joinL b := by simp [joinL]
theorem dec_len {n : Nat} (h : n < 16777216) : (dec n).length ≤ 8 := (dec_facts n).2.2.2 8 (by decide) (Nat.lt_trans h (by decide))
theorem joinW_flat : ∀ (w : Bytes) (ws : List Bytes), joinW (w :: ws) = w ++ ws.flatMap (fun x => 32 :: x)
  | w, [] => by simp [joinW]
  | w, v :: r => by rw [joinW, joinW_flat v r]; simp
def goodL (L : List (List Bytes)) : Prop := ∀ ws, ws ∈ L → ws ≠ [] ∧ ∀ w, w ∈ ws → gw w
theorem numbered_words : ∀ (L : List (List Bytes)) (i : Nat), goodL L → (numbered i (L.map joinW)).map (·.2) = L
  | [], _, _ => rfl
  | ws :: r, i, h => by
    have h1 := wordsOf_join (h ws (by simp)).2
    have ih := numbered_words r (i + 1) (fun x hx => h x (by simp [hx]))
    rw [List.map_cons, numbered, h1]
    cases ws with
    | nil => exact absurd rfl (h [] (by simp)).1
    | cons w t => simp only [List.map_cons, ih]
theorem lines_good {L : List (List Bytes)} (h : goodL L) : ∀ l, l ∈ L.map joinW → ∀ c, c ∈ l → c ≠ 10 := by
  intro l hl
  obtain ⟨ws, hw, rfl⟩ := List.mem_map.1 hl
  exact joinW_line (h ws hw).2
theorem linesOf_nil : linesOf [] = [[]] := rfl
theorem numbered_last (i : Nat) : numbered i (linesOf []) = [] := rfl
theorem firstWord_num {s : Bytes} {i : Nat} {w : Bytes} {ws : List Bytes} {r : List (Nat × List Bytes)} (h : linesAll s = (i, w :: ws) :: r) : firstWord (linesOf s) = w := by
  obtain ⟨a, b, e1, e2⟩ := firstWord_cons (linesOf s) 1 (i, w :: ws) r h
  cases e1
  exact e2
theorem readS_as_one {s : Bytes} (hm : magic.isPrefixOf s = false) (h : firstWord (linesOf s) ≠ wPoly) : readS s = oneN (linesAll s) [] [] := by
  unfold readS
  rw [hm, if_neg (by simp), if_neg h, oneGo_eq]; rfl
theorem linesAll_joinL {ls : List Bytes} (h : ∀ l, l ∈ ls → ∀ c, c ∈ l → c ≠ 10) : linesAll (joinL ls) = numbered 1 ls := by
  have e := linesOf_join ls [] h
  rw [List.append_nil] at e
  unfold linesAll
  rw [e, numbered_append, numbered_last, List.append_nil]
theorem not_magic {s : Bytes} (h : s.head? ≠ some 83) : magic.isPrefixOf s = false := by
  cases s with
  | nil => rfl
  | cons c r =>
    have hc : c ≠ 83 := fun e => h (by rw [e]; rfl)
    show ((83 : UInt8) == c && _) = false
    have : ((83 : UInt8) == c) = false := by rw [beq_eq_false_iff_ne]; exact fun e => hc e.symm
    rw [this]; rfl
end Sp
end Go.Proofs.YtojdgdeefhndiaaDoor
namespace Go.Proofs.YtojdgdeefhndiaaDoor
open Go Go.RowKit
namespace Sp
open Bg
/-- The corners of the text, its lines, and those behind. -/
def relC (n : Nat) : List Pt := (List.range n).map (fun i : Nat => ((i : Int), (7 : Int), (8 : Int)))
def relS : Nat → Bytes
  | 0 => []
  | n + 1 => relS n ++ [118, 32] ++ dec n ++ [32, 55, 32, 56, 10]
def tailS : Nat → Bytes
  | 0 => []
  | n + 1 => tailS n ++ [118, 32, 53, 32, 53, 32, 53, 10]
theorem dec_one {d : Nat} (h0 : 0 < d) (h : d < 10) : dec d = [UInt8.ofNat (48 + d)] := by
  unfold dec
  rw [if_neg (by omega), dec0_step h0, show d / 10 = 0 by omega, dec0_zero, show d % 10 = d by omega]
theorem relC_succ (n : Nat) : relC (n + 1) = relC n ++ [((n : Int), 7, 8)] := by simp [relC, List.range_succ]
theorem relC_length (n : Nat) : (relC n).length = n := by simp [relC]
theorem relC_get {n k : Nat} (h : k < n) : (relC n)[k]? = some ((k : Int), 7, 8) := by simp [relC, h]
theorem relC_in (n : Nat) (hn : n ≤ 1000) : ∀ p, p ∈ relC n → inR p = true := by
  intro p hp
  obtain ⟨j, hj, rfl⟩ := List.mem_map.1 hp
  rw [List.mem_range] at hj
  rw [inR_iff]; omega
theorem relS_join : ∀ n, relS n = joinL (((relC n).map vW).map joinW)
  | 0 => rfl
  | n + 1 => by
    have d7 : dec 7 = [55] := dec_one (by decide) (by decide)
    have d8 : dec 8 = [56] := dec_one (by decide) (by decide)
    rw [relS, relS_join n, relC_succ, List.map_append, List.map_append, joinL_append]
    simp [joinL, vW, ptW, joinW, wV, d7, d8]
theorem tailS_join : ∀ b, tailS b = joinL (((List.replicate b (5, 5, 5)).map vW).map joinW)
  | 0 => rfl
  | b + 1 => by
    have d5 : dec 5 = [53] := dec_one (by decide) (by decide)
    rw [tailS, tailS_join b, List.replicate_succ', List.map_append, List.map_append, joinL_append]
    simp [joinL, vW, ptW, joinW, wV, d5]
theorem relS_length : ∀ n, n ≤ 1000 → (relS n).length ≤ 15 * n
  | 0, _ => Nat.le_refl _
  | n + 1, h => by
    have := relS_length n (by omega)
    have := dec_len (n := n) (by omega)
    rw [relS]
    simp only [List.length_append, List.length_cons, List.length_nil]; omega
theorem tailS_length : ∀ n, (tailS n).length = 8 * n
  | 0 => rfl
  | n + 1 => by rw [tailS, List.length_append, tailS_length n]; simp; omega
theorem vW_gw (p : Pt) : ∀ w, w ∈ vW p → gw w := by
  intro w hw
  rw [vW, List.mem_cons] at hw
  rcases hw with rfl | hw
  · unfold gw gc; decide
  · exact ptW_gw p w hw
theorem vWs_good (l : List Pt) : goodL (l.map vW) := by
  intro ws h
  obtain ⟨p, _, rfl⟩ := List.mem_map.1 h
  exact ⟨by simp [vW], vW_gw p⟩
/-- The numbered lines of the whole text. -/
theorem rel_lines (n b : Nat) (ws : List Bytes) (hw : ∀ w, w ∈ wF :: ws → gw w) :
    ∃ l1 l3 : List (Nat × List Bytes), l1.map (·.2) = (relC n).map vW ∧ l3.map (·.2) = (List.replicate b (5, 5, 5)).map vW ∧ linesAll (relS n ++ joinW (wF :: ws) ++ [10] ++ tailS b) = l1 ++ (n + 1, wF :: ws) :: l3 := by
  have h1 := vWs_good (relC n)
  have h3 := vWs_good (List.replicate b (5, 5, 5))
  have h2 : goodL [wF :: ws] := fun x hx => by rw [List.mem_singleton] at hx; subst hx; exact ⟨by simp, hw⟩
  have e : relS n ++ joinW (wF :: ws) ++ [10] ++ tailS b = joinL (((relC n).map vW).map joinW ++ [joinW (wF :: ws)] ++ ((List.replicate b (5, 5, 5)).map vW).map joinW) := by
    rw [relS_join, tailS_join, joinL_append, joinL_append]
    have e2 : joinL [joinW (wF :: ws)] = joinW (wF :: ws) ++ [10] := by simp [joinL]
    rw [e2]; simp only [List.append_assoc]
  refine ⟨numbered 1 (((relC n).map vW).map joinW), numbered (n + 2) (((List.replicate b (5, 5, 5)).map vW).map joinW), numbered_words _ _ h1, numbered_words _ _ h3, ?_⟩
  rw [e, linesAll_joinL (fun l hl => by
    rw [List.mem_append, List.mem_append] at hl
    rcases hl with (hl | hl) | hl
    · exact lines_good h1 l hl
    · exact lines_good h2 l (by simpa using hl)
    · exact lines_good h3 l hl), numbered_append, numbered_append, List.append_assoc]
  have hwo := wordsOf_join hw
  have e3 : numbered (1 + (((relC n).map vW).map joinW).length) [joinW (wF :: ws)] = [(n + 1, wF :: ws)] := by
    rw [numbered, hwo]
    simp only
    rw [numbered, List.length_map, List.length_map, relC_length, Nat.add_comm]
  rw [e3]
  have e4 : 1 + (((relC n).map vW).map joinW ++ [joinW (wF :: ws)]).length = n + 2 := by
    rw [List.length_append, List.length_map, List.length_map, relC_length]; simp; omega
  rw [e4]; rfl
theorem rel_read (n b : Nat) (ws : List Bytes) (hn : 1 ≤ n) (hn2 : n ≤ 1000) (hw : ∀ w, w ∈ wF :: ws → gw w) :
    readS (relS n ++ joinW (wF :: ws) ++ [10] ++ tailS b) = match faceS (relC n) ws with | .bad e => .bad (n + 1) e | .ok c => .ok [(c, n + 1)] := by
  obtain ⟨l1, l3, m1, m3, hl⟩ := rel_lines n b ws hw
  have hf : firstWord (linesOf (relS n ++ joinW (wF :: ws) ++ [10] ++ tailS b)) ≠ wPoly := by
    cases l1 with
    | nil =>
      have := congrArg List.length m1
      rw [List.length_map, List.length_map, relC_length] at this
      simp at this; omega
    | cons a t =>
      obtain ⟨i, w0⟩ := a
      have hw0 : ∃ t, w0 = wV :: t := by
        have h0 : w0 ∈ (relC n).map vW := by rw [← m1]; simp
        obtain ⟨p, _, rfl⟩ := List.mem_map.1 h0
        exact ⟨_, rfl⟩
      obtain ⟨t', rfl⟩ := hw0
      rw [List.cons_append] at hl
      rw [firstWord_num hl]; decide
  have hm : magic.isPrefixOf (relS n ++ joinW (wF :: ws) ++ [10] ++ tailS b) = false := by
    apply not_magic
    have h1 : ∀ k, 1 ≤ k → ∃ t, relS k = 118 :: t := by
      intro k hk
      induction k with
      | zero => omega
      | succ k ih =>
        by_cases hk0 : k = 0
        · subst hk0; exact ⟨_, rfl⟩
        · obtain ⟨t, e⟩ := ih (by omega)
          rw [relS, e]; exact ⟨_, rfl⟩
    obtain ⟨t, e⟩ := h1 n hn
    rw [e]
    intro h; cases h
  rw [readS_as_one hm hf, hl, one_v (relC n) l1 _ [] [] (relC_in n hn2) m1, List.nil_append, oneN_f]
  cases faceS (relC n) ws with
  | bad e => rfl
  | ok c =>
    simp only
    rw [if_neg (by simp)]
    have := one_v (List.replicate b (5, 5, 5)) l3 [] (relC n) ([] ++ [(c, n + 1)]) (fun p hp => by obtain ⟨_, rfl⟩ := List.mem_replicate.1 hp; decide) m3
    rw [List.append_nil] at this
    rw [this, oneN]; rfl
theorem faceS_all {cs : List Pt} {ws : List Bytes} (h3 : 3 ≤ ws.length) (h64 : ws.length ≤ 64) (h1 : ∀ w, w ∈ ws → isNum w = true ∧ long w = false) : faceS cs ws = pick cs (ws.map valOf) := by
  have a1 : ws.all isNum = true := by rw [List.all_eq_true]; exact fun w hw => (h1 w hw).1
  have a2 : ws.any long = false := by rw [List.any_eq_false]; exact fun w hw => by rw [(h1 w hw).2]; simp
  unfold faceS
  rw [a1, a2, if_neg (by simp; omega), if_neg (by omega), if_neg (by simp)]
theorem neg_gw (j : Nat) : gw (45 :: dec j) := ⟨by simp, fun c hc => by
  rw [List.mem_cons] at hc
  rcases hc with rfl | hc
  · unfold gc; decide
  · exact (dec_gw j).2 c hc⟩
theorem neg_num {j : Nat} (h : j < 1000000) : isNum (45 :: dec j) = true ∧ long (45 :: dec j) = false ∧ valOf (45 :: dec j) = -(j : Int) := by
  have hu : unminus (45 :: dec j) = dec j := rfl
  refine ⟨?_, ?_, ?_⟩
  · have := isNum_dec j
    unfold isNum at this ⊢
    rw [unminus_dec] at this
    rw [hu]; exact this
  · have := long_dec (n := j) (by omega)
    unfold long at this ⊢
    rw [unminus_dec] at this
    rw [hu]; exact this
  · unfold valOf
    rw [if_pos (show (45 :: dec j).head? = some 45 from rfl), hu, (dec_facts j).2.1]
theorem pick_at (n : Nat) (z : Nat → Int) : ∀ js : List Nat, (∀ j, j ∈ js → 1 ≤ j ∧ j ≤ n ∧ (if z j < 0 then (n : Int) + z j else z j - 1) = ((n - j : Nat) : Int)) → pick (relC n) (js.map z) = .ok (js.map (fun j => (((n - j : Nat) : Int), (7 : Int), (8 : Int))))
  | [], _ => rfl
  | j :: r, h => by
    obtain ⟨h1, h2, h3⟩ := h j (by simp)
    rw [List.map_cons, pick, relC_length, h3, Int.toNat_natCast, relC_get (by omega)]
    simp only
    rw [if_neg (by omega), pick_at n z r (fun x hx => h x (by simp [hx]))]; rfl
/-- The polygon of corners from the end. -/
def relP (n : Nat) (js : List Nat) : Poly := (js.map (fun j => (((n - j : Nat) : Int), (7 : Int), (8 : Int))), n + 1)
def fNeg (js : List Nat) : Bytes := 102 :: js.flatMap (fun j => 32 :: 45 :: dec j)
def fPos (n : Nat) (js : List Nat) : Bytes := 102 :: js.flatMap (fun j => 32 :: dec (n + 1 - j))
theorem read_neg (n b : Nat) (js : List Nat) (hn : 1 ≤ n) (hn2 : n ≤ 1000) (hl : js.length = 3) (hj : ∀ j, j ∈ js → 1 ≤ j ∧ j ≤ n) : readS (relS n ++ fNeg js ++ [10] ++ tailS b) = .ok [relP n js] := by
  have e : fNeg js = joinW (wF :: js.map (fun j => 45 :: dec j)) := by rw [joinW_flat, List.flatMap_map]; rfl
  rw [e, rel_read n b _ hn hn2 (fun w hw => by
    rw [List.mem_cons] at hw
    rcases hw with rfl | hw
    · unfold gw gc; decide
    · obtain ⟨j, _, rfl⟩ := List.mem_map.1 hw; exact neg_gw j)]
  rw [faceS_all (by rw [List.length_map]; omega) (by rw [List.length_map]; omega) (fun w hw => by
    obtain ⟨j, hjm, rfl⟩ := List.mem_map.1 hw
    have := neg_num (j := j) (by have := hj j hjm; omega)
    exact ⟨this.1, this.2.1⟩), List.map_map]
  have ev : js.map (valOf ∘ fun j => 45 :: dec j) = js.map (fun j : Nat => -(j : Int)) := List.map_congr_left (fun j hjm => (neg_num (j := j) (by have := hj j hjm; omega)).2.2)
  rw [ev, pick_at n (fun j => -(j : Int)) js (fun j hjm => by
    obtain ⟨h1, h2⟩ := hj j hjm
    refine ⟨h1, h2, ?_⟩
    rw [if_pos (by omega)]; omega)]
  rfl
theorem read_pos (n b : Nat) (js : List Nat) (hn : 1 ≤ n) (hn2 : n ≤ 1000) (hl : js.length = 3) (hj : ∀ j, j ∈ js → 1 ≤ j ∧ j ≤ n) : readS (relS n ++ fPos n js ++ [10] ++ tailS b) = .ok [relP n js] := by
  have e : fPos n js = joinW (wF :: js.map (fun j => dec (n + 1 - j))) := by rw [joinW_flat, List.flatMap_map]; rfl
  rw [e, rel_read n b _ hn hn2 (fun w hw => by
    rw [List.mem_cons] at hw
    rcases hw with rfl | hw
    · unfold gw gc; decide
    · obtain ⟨j, _, rfl⟩ := List.mem_map.1 hw; exact dec_gw _)]
  rw [faceS_all (by rw [List.length_map]; omega) (by rw [List.length_map]; omega) (fun w hw => by
    obtain ⟨j, hjm, rfl⟩ := List.mem_map.1 hw
    exact ⟨isNum_dec _, long_dec (by omega)⟩), List.map_map]
  have ev : js.map (valOf ∘ fun j => dec (n + 1 - j)) = js.map (fun j : Nat => ((n + 1 - j : Nat) : Int)) := List.map_congr_left (fun j _ => valOf_dec _)
  rw [ev, pick_at n (fun j => ((n + 1 - j : Nat) : Int)) js (fun j hjm => by
    obtain ⟨h1, h2⟩ := hj j hjm
    refine ⟨h1, h2, ?_⟩
    rw [if_neg (by omega)]; omega)]
  rfl
theorem read_over (n b : Nat) (hn : 1 ≤ n) (hn2 : n ≤ 1000) : readS (relS n ++ [102, 32, 49, 32, 49, 32, 45] ++ dec (n + 1) ++ [10] ++ tailS b) = .bad (n + 1) 14 := by
  have e : relS n ++ [102, 32, 49, 32, 49, 32, 45] ++ dec (n + 1) ++ [10] ++ tailS b = relS n ++ joinW (wF :: [[49], [49], 45 :: dec (n + 1)]) ++ [10] ++ tailS b := by simp [joinW, wF]
  have hnn := neg_num (j := n + 1) (by omega)
  rw [e, rel_read n b _ hn hn2 (fun w hw => by
    simp only [List.mem_cons, List.not_mem_nil, or_false] at hw
    rcases hw with rfl | rfl | rfl | rfl
    · unfold gw gc; decide
    · unfold gw gc; decide
    · unfold gw gc; decide
    · exact neg_gw _)]
  rw [faceS_all (by simp) (by simp) (fun w hw => by
    simp only [List.mem_cons, List.not_mem_nil, or_false] at hw
    rcases hw with rfl | rfl | rfl
    · decide
    · decide
    · exact ⟨hnn.1, hnn.2.1⟩)]
  have ev : [[49], [49], 45 :: dec (n + 1)].map valOf = [1, 1, -((n + 1 : Nat) : Int)] := by
    have h1 : valOf [49] = 1 := by decide
    rw [List.map_cons, List.map_cons, List.map_cons, List.map_nil, h1, hnn.2.2]
  have h0 : (relC n)[0]? = some ((0 : Int), 7, 8) := relC_get (by omega)
  have hp : pick (relC n) [1, 1, -((n + 1 : Nat) : Int)] = .bad 14 := by
    rw [pick]
    have k1 : (if (1 : Int) < 0 then ((relC n).length : Int) + 1 else 1 - 1) = 0 := by rw [if_neg (by decide)]; rfl
    rw [k1, Int.toNat_zero, h0]
    simp only
    rw [if_neg (by decide), pick, k1, Int.toNat_zero, h0]
    simp only
    rw [if_neg (by decide), pick]
    have k2 : (if -((n + 1 : Nat) : Int) < 0 then ((relC n).length : Int) + -((n + 1 : Nat) : Int) else -((n + 1 : Nat) : Int) - 1) = -1 := by rw [if_pos (by omega), relC_length]; omega
    rw [k2, show (-1 : Int).toNat = 0 from rfl, h0]
    simp only
    rw [if_pos (by decide)]
  rw [ev, hp]
end Sp
end Go.Proofs.YtojdgdeefhndiaaDoor
