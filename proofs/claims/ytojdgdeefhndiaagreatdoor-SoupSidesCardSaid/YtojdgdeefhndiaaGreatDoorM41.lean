/- Plain laws of the polygon files' texts: the place of the first error. No condition. Plain laws of the polygon files' texts: form 3, read back. No condition. -/
import Derived.Test.YtojdgdeefhndiaaGreatDoorM39
import Derived.Test.YtojdgdeefhndiaaGreatDoorM38
namespace Go.Proofs.YtojdgdeefhndiaaGreatDoor
open Go Go.RowKit
namespace Sp
open Bg
/-- The lines that are wrong, and the errors. -/
def bads1 : List (Bytes × Nat) := [([118, 32, 49], 10), ([118, 32, 49, 32, 50, 32, 120], 10), ([102, 32, 49, 32, 49, 32, 48], 14), ([118, 32, 49, 32, 50, 32, 50, 48, 57, 55, 49, 53, 50], 3), ([118, 32, 49, 32, 50, 32, 49, 50, 51, 52, 53, 54, 55, 56, 57, 48, 49, 50, 51, 52, 53, 54], 11), ([103], 10)]
def bads2 : List (Bytes × Nat) := [([112, 111, 108, 121], 10), ([112, 111, 108, 121, 32, 45, 51], 10), ([112, 111, 108, 121, 32, 50], 11), ([112, 111, 108, 121, 32, 54, 53], 2), ([49, 32, 50, 32, 51], 10), ([112, 111, 108, 121, 32, 49, 50, 51, 52, 53, 54, 55, 56, 57, 48, 49, 50, 51, 52, 53, 54], 11)]
def tail1 : Bytes := [10, 118, 32, 49, 32, 49, 32, 49, 10]
theorem bad1_ok (x : Bytes × Nat) (hx : x ∈ bads1) (cs : List Pt) (hc : cs ≠ []) : (∀ c, c ∈ x.1 → c ≠ 10) ∧ ∃ w ws, wordsOf x.1 = w :: ws ∧ ∀ (i : Nat) (r : List (Nat × List Bytes)) (acc : List Poly), oneN ((i, w :: ws) :: r) cs acc = .bad i x.2 := by
  obtain ⟨c, t, rfl⟩ : ∃ c t, cs = c :: t := by
    cases cs with
    | nil => exact absurd rfl hc
    | cons c t => exact ⟨c, t, rfl⟩
  simp only [bads1, List.mem_cons, List.not_mem_nil, or_false] at hx
  rcases hx with rfl | rfl | rfl | rfl | rfl | rfl
  · exact ⟨by decide, wV, [[49]], by kernel_rfl, fun i r acc => by rw [oneN_v]; rfl⟩
  · refine ⟨by decide, wV, [[49], [50], [120]], by kernel_rfl, fun i r acc => ?_⟩
    rw [oneN_v, show cornerS [[49], [50], [120]] = .bad 10 by kernel_rfl]
  · refine ⟨by decide, wF, [[49], [49], [48]], by kernel_rfl, fun i r acc => ?_⟩
    rw [oneN_f, show faceS (c :: t) [[49], [49], [48]] = .bad 14 by kernel_rfl]
  · refine ⟨by decide, wV, [[49], [50], [50, 48, 57, 55, 49, 53, 50]], by kernel_rfl, fun i r acc => ?_⟩
    rw [oneN_v, show cornerS [[49], [50], [50, 48, 57, 55, 49, 53, 50]] = .bad 3 by kernel_rfl]
  · refine ⟨by decide, wV, [[49], [50], [49, 50, 51, 52, 53, 54, 55, 56, 57, 48, 49, 50, 51, 52, 53, 54]], by kernel_rfl, fun i r acc => ?_⟩
    rw [oneN_v, show cornerS [[49], [50], [49, 50, 51, 52, 53, 54, 55, 56, 57, 48, 49, 50, 51, 52, 53, 54]] = .bad 11 by kernel_rfl]
  · exact ⟨by decide, [103], [], by kernel_rfl, fun i r acc => by rw [oneN_other (by decide) (by decide)]⟩
theorem bad2_ok (x : Bytes × Nat) (hx : x ∈ bads2) : (∀ c, c ∈ x.1 → c ≠ 10) ∧ ∃ w ws, wordsOf x.1 = w :: ws ∧ ∀ (i last : Nat) (r : List (Nat × List Bytes)) (acc : List Poly), twoN ((i, w :: ws) :: r) 0 acc last = .bad i x.2 := by
  simp only [bads2, List.mem_cons, List.not_mem_nil, or_false] at hx
  rcases hx with rfl | rfl | rfl | rfl | rfl | rfl
  · refine ⟨by decide, wPoly, [], by kernel_rfl, fun i last r acc => ?_⟩
    rw [twoN_head, show headS [wPoly] = .bad 10 by kernel_rfl]
  · refine ⟨by decide, wPoly, [[45, 51]], by kernel_rfl, fun i last r acc => ?_⟩
    rw [twoN_head, show headS [wPoly, [45, 51]] = .bad 10 by kernel_rfl]
  · refine ⟨by decide, wPoly, [[50]], by kernel_rfl, fun i last r acc => ?_⟩
    rw [twoN_head, show headS [wPoly, [50]] = .bad 11 by kernel_rfl]
  · refine ⟨by decide, wPoly, [[54, 53]], by kernel_rfl, fun i last r acc => ?_⟩
    rw [twoN_head, show headS [wPoly, [54, 53]] = .bad 2 by kernel_rfl]
  · refine ⟨by decide, [49], [[50], [51]], by kernel_rfl, fun i last r acc => ?_⟩
    rw [twoN_head, show headS [[49], [50], [51]] = .bad 10 by kernel_rfl]
  · refine ⟨by decide, wPoly, [[49, 50, 51, 52, 53, 54, 55, 56, 57, 48, 49, 50, 51, 52, 53, 54]], by kernel_rfl, fun i last r acc => ?_⟩
    rw [twoN_head, show headS [wPoly, [49, 50, 51, 52, 53, 54, 55, 56, 57, 48, 49, 50, 51, 52, 53, 54]] = .bad 11 by kernel_rfl]
theorem lines_bad {b t : Bytes} (hb : ∀ c, c ∈ b → c ≠ 10) {w : Bytes} {ws : List Bytes} (hw : wordsOf b = w :: ws) (i : Nat) : ∃ r, numbered i (linesOf (b ++ 10 :: t)) = (i, w :: ws) :: r := by
  refine ⟨numbered (i + 1) (linesOf t), ?_⟩
  unfold linesOf
  rw [linesGo_line b [] t hb, List.nil_append, numbered, hw]
theorem many_of (ls : List Bytes) (h : ∀ l, l ∈ ls → ∀ c, c ∈ l → c ≠ 10) : (linesOf (joinL ls)).length = 1 + ls.length := by
  have e := linesOf_join ls [] h
  rw [List.append_nil] at e
  rw [e, List.length_append, linesOf_nil]; simp; omega
theorem allP_sub : ∀ (ps : List Poly) (P : List Pt) (c : Pt), c ∈ P → c ∈ allP P ps
  | [], _, _, h => h
  | p :: r, P, c, h => by rw [allP]; exact allP_sub r _ c (List.mem_append_left _ h)
theorem allP_ne {p : Poly} {r : List Poly} (h : validP p.1) : allP [] (p :: r) ≠ [] := by
  obtain ⟨h3, _, _⟩ := h
  rw [allP]
  cases hp : p.1 with
  | nil => rw [hp] at h3; simp at h3
  | cons c t =>
    have h1 := allP_sub r ([] ++ newP [] (c :: t)) c (newP_mem (c :: t) [] c (by simp))
    exact fun e => by rw [e] at h1; cases h1
theorem places_one {ps : List Poly} (h0 : ps ≠ []) (hv : ∀ p, p ∈ ps → validP p.1) (hl : ps.length ≤ 65536) {x : Bytes × Nat} (hx : x ∈ bads1) : readS (write1 ps ++ x.1 ++ tail1) = .bad (linesOf (write1 ps)).length x.2 := by
  have hne : allP [] ps ≠ [] := by
    cases ps with
    | nil => exact absurd rfl h0
    | cons p r => exact allP_ne (hv p (by simp))
  obtain ⟨b1, w, ws, b2, b3⟩ := bad1_ok x hx (allP [] ps) hne
  have h := (linesAll_text [] (W1 [] ps) (x.1 ++ tail1) (fun x hx => by cases hx) (W1_good ps [])).2
  have e0 : joinL [] ++ joinL ((W1 [] ps).map joinW) ++ (x.1 ++ tail1) = write1 ps ++ x.1 ++ tail1 := by
    rw [List.append_assoc (write1 ps)]; rfl
  rw [e0] at h
  have hw := numbered_words (W1 [] ps) 1 (W1_good ps [])
  obtain ⟨r, hr⟩ := lines_bad (t := [118, 32, 49, 32, 49, 32, 49, 10]) b1 b2 (1 + (W1 [] ps).length)
  have hr' : numbered (1 + ([] : List Bytes).length + (W1 [] ps).length) (linesOf (x.1 ++ tail1)) = (1 + (W1 [] ps).length, w :: ws) :: r := hr
  rw [hr'] at h
  have h' : linesAll (write1 ps ++ x.1 ++ tail1) = numbered 1 ((W1 [] ps).map joinW) ++ (1 + (W1 [] ps).length, w :: ws) :: r := h
  obtain ⟨ps', e1, e2⟩ := one_polys ps [] (numbered 1 ((W1 [] ps).map joinW)) ((1 + (W1 [] ps).length, w :: ws) :: r) [] hv (by simpa using hl) (by simp; omega) hw
  have hm : magic.isPrefixOf (write1 ps ++ x.1 ++ tail1) = false := by
    apply not_magic
    rw [List.append_assoc]
    rcases write1_head h0 (x.1 ++ tail1) with h | h <;> rw [h] <;> exact fun h => by cases h
  rw [readS_as_one hm (W1_first _ h' hw h0), h', e2, b3]
  have : (linesOf (write1 ps)).length = 1 + (W1 [] ps).length := by
    have := many_of ((W1 [] ps).map joinW) (lines_good (W1_good ps []))
    rw [List.length_map] at this
    exact this
  rw [this]
theorem places_two {ps : List Poly} (h0 : ps ≠ []) (hv : ∀ p, p ∈ ps → validP p.1) (hl : ps.length ≤ 65536) {x : Bytes × Nat} (hx : x ∈ bads2) : readS (write2 ps ++ x.1 ++ [10]) = .bad (linesOf (write2 ps)).length x.2 := by
  obtain ⟨b1, w, ws, b2, b3⟩ := bad2_ok x hx
  have h := (linesAll_text [] (ps.flatMap polyW) (x.1 ++ [10]) (fun x hx => by cases hx) (W2_good ps)).2
  have e0 : joinL [] ++ joinL ((ps.flatMap polyW).map joinW) ++ (x.1 ++ [10]) = write2 ps ++ x.1 ++ [10] := by
    rw [List.append_assoc (write2 ps)]; rfl
  rw [e0] at h
  have hw := numbered_words (ps.flatMap polyW) 1 (W2_good ps)
  obtain ⟨r, hr⟩ := lines_bad (t := []) b1 b2 (1 + (ps.flatMap polyW).length)
  have hr' : numbered (1 + ([] : List Bytes).length + (ps.flatMap polyW).length) (linesOf (x.1 ++ [10])) = (1 + (ps.flatMap polyW).length, w :: ws) :: r := hr
  rw [hr'] at h
  have h' : linesAll (write2 ps ++ x.1 ++ [10]) = numbered 1 ((ps.flatMap polyW).map joinW) ++ (1 + (ps.flatMap polyW).length, w :: ws) :: r := h
  obtain ⟨ps', e1, e2⟩ := two_polys ps (numbered 1 ((ps.flatMap polyW).map joinW)) ((1 + (ps.flatMap polyW).length, w :: ws) :: r) [] (linesOf (write2 ps ++ x.1 ++ [10])).length hv (by simpa using hl) hw
  have hm : magic.isPrefixOf (write2 ps ++ x.1 ++ [10]) = false := by
    apply not_magic
    rw [List.append_assoc, write2_head h0]
    exact fun h => by cases h
  have hf : firstWord (linesOf (write2 ps ++ x.1 ++ [10])) = wPoly := by
    cases ps with
    | nil => exact absurd rfl h0
    | cons p t =>
      cases hn : numbered 1 (((p :: t).flatMap polyW).map joinW) with
      | nil => rw [hn] at hw; simp [polyW] at hw
      | cons a l2 =>
        obtain ⟨i, ws⟩ := a
        rw [hn] at hw h'
        rw [List.map_cons, List.flatMap_cons, polyW, List.cons_append, List.cons.injEq] at hw
        simp only at hw
        rw [hw.1, List.cons_append] at h'
        exact firstWord_num h'
  rw [readS_as_two hm hf, h', e2, b3]
  have : (linesOf (write2 ps)).length = 1 + (ps.flatMap polyW).length := by
    have := many_of ((ps.flatMap polyW).map joinW) (lines_good (W2_good ps))
    rw [List.length_map] at this
    exact this
  rw [this]
/-! ### Many sides -/
def ones : Nat → Bytes
  | 0 => []
  | n + 1 => ones n ++ [32, 49]
def zeros : Nat → Bytes
  | 0 => []
  | n + 1 => zeros n ++ [48, 32, 48, 32, 48, 10]
def vOne : Bytes := [118, 32, 49, 32, 49, 32, 49, 10]
def fOnes (n : Nat) : Bytes := 102 :: ones n
def pZeros (n : Nat) : Bytes := [112, 111, 108, 121, 32] ++ dec n ++ [10] ++ zeros n
theorem ones_length : ∀ n, (ones n).length = 2 * n
  | 0 => rfl
  | n + 1 => by rw [ones, List.length_append, ones_length n]; simp; omega
theorem zeros_length : ∀ n, (zeros n).length = 6 * n
  | 0 => rfl
  | n + 1 => by rw [zeros, List.length_append, zeros_length n]; simp; omega
theorem ones_flat : ∀ n, ones n = (List.replicate n [49]).flatMap (fun x => 32 :: x)
  | 0 => rfl
  | n + 1 => by rw [ones, ones_flat n, List.replicate_succ', List.flatMap_append]; rfl
theorem fOnes_join (n : Nat) : fOnes n = joinW (wF :: List.replicate n [49]) := by rw [joinW_flat, ← ones_flat]; rfl
theorem zeros_join : ∀ n, zeros n = joinL ((List.replicate n [[48], [48], [48]]).map joinW)
  | 0 => rfl
  | n + 1 => by rw [zeros, zeros_join n, List.replicate_succ', List.map_append, joinL_append]; rfl
theorem pick_ones : ∀ (n : Nat) (c : Pt) (t : List Pt), pick (c :: t) (List.replicate n 1) = .ok (List.replicate n c)
  | 0, _, _ => rfl
  | n + 1, c, t => by
    have ih := pick_ones n c t
    rw [List.replicate_succ, pick]
    have hk : (if (1 : Int) < 0 then ((c :: t).length : Int) + 1 else 1 - 1) = 0 := by rw [if_neg (by decide)]; rfl
    rw [hk]
    simp only [Int.toNat_zero, List.getElem?_cons_zero]
    rw [if_neg (by decide), ih]; rfl
theorem faceS_ones (n : Nat) (c : Pt) (t : List Pt) : faceS (c :: t) (List.replicate n [49]) = if n < 3 then .bad 10 else if 64 < n then .bad 2 else .ok (List.replicate n c) := by
  have h1 : (List.replicate n ([49] : Bytes)).all isNum = true := by rw [List.all_eq_true]; intro w hw; obtain ⟨_, rfl⟩ := List.mem_replicate.1 hw; decide
  have h2 : (List.replicate n ([49] : Bytes)).any long = false := by rw [List.any_eq_false]; intro w hw; obtain ⟨_, rfl⟩ := List.mem_replicate.1 hw; decide
  unfold faceS
  rw [h1, h2, List.length_replicate, List.map_replicate, show valOf [49] = 1 by decide, pick_ones]
  by_cases h3 : n < 3
  · rw [if_pos (by simp; omega), if_pos h3]
  · rw [if_neg (by simp; omega), if_neg h3]
    by_cases h4 : 64 < n
    · rw [if_pos h4, if_pos h4]
    · rw [if_neg h4, if_neg h4]; simp
theorem gw_digit {d : UInt8} (h : gc d) : gw [d] := ⟨by simp, fun c hc => by rw [List.mem_singleton] at hc; subst hc; exact h⟩
theorem fOnes_good (n : Nat) : ∀ w, w ∈ (wF :: List.replicate n ([49] : Bytes)) → gw w := by
  intro w hw
  rw [List.mem_cons] at hw
  rcases hw with rfl | hw
  · unfold gw gc; decide
  · obtain ⟨_, rfl⟩ := List.mem_replicate.1 hw
    exact gw_digit (by unfold gc; decide)
/-- What the face of so many corners reads as. -/
theorem read_fOnes (n : Nat) : readS (vOne ++ fOnes n) = if n < 3 then .bad 2 10 else if 64 < n then .bad 2 2 else .ok [(List.replicate n (1, 1, 1), 2)] := by
  have hw := wordsOf_join (fOnes_good n)
  rw [← fOnes_join] at hw
  have hnl := joinW_line (fOnes_good n)
  rw [← fOnes_join] at hnl
  have e1 : linesOf (vOne ++ fOnes n) = [[118, 32, 49, 32, 49, 32, 49], fOnes n] := by
    have := linesGo_line [118, 32, 49, 32, 49, 32, 49] [] (fOnes n) (by decide)
    have e2 : linesOf (vOne ++ fOnes n) = linesGo [] ([118, 32, 49, 32, 49, 32, 49] ++ 10 :: fOnes n) := rfl
    rw [e2, this]
    have key : ∀ (l cur : Bytes), (∀ c, c ∈ l → c ≠ 10) → linesGo cur l = [cur ++ l] := by
      intro l
      induction l with
      | nil => intro cur _; rw [linesGo, List.append_nil]
      | cons c l ih => intro cur h; rw [linesGo, if_neg (h c (by simp)), ih _ (fun d hd => h d (by simp [hd])), List.append_assoc]; rfl
    rw [key _ _ hnl]; rfl
  have e2 : linesAll (vOne ++ fOnes n) = [(1, [wV, [49], [49], [49]]), (2, wF :: List.replicate n [49])] := by
    unfold linesAll
    rw [e1, numbered, show wordsOf [118, 32, 49, 32, 49, 32, 49] = [wV, [49], [49], [49]] by kernel_rfl]
    simp only
    rw [numbered, hw]
    simp only
    rw [numbered]
  have hf : firstWord (linesOf (vOne ++ fOnes n)) ≠ wPoly := by rw [firstWord_num e2]; decide
  rw [readS_as_one (not_magic (s := vOne ++ fOnes n) (fun e => by cases e)) hf, e2, oneN_v, show cornerS [[49], [49], [49]] = .ok (1, 1, 1) by kernel_rfl]
  simp only
  rw [oneN_f, List.nil_append, faceS_ones]
  by_cases h3 : n < 3
  · rw [if_pos h3, if_pos h3]
  · rw [if_neg h3, if_neg h3]
    by_cases h4 : 64 < n
    · rw [if_pos h4, if_pos h4]
    · rw [if_neg h4, if_neg h4]
      simp only
      rw [if_neg (by simp), oneN]; rfl
/-- What the polygon of so many corners reads as. -/
theorem read_pZeros (n : Nat) (hn : n < 100) : readS (pZeros n) = if n < 3 then .bad 1 11 else if 64 < n then .bad 1 2 else .ok [(List.replicate n (0, 0, 0), 1)] := by
  have hg : goodL ([wPoly, dec n] :: List.replicate n [[48], [48], [48]]) := by
    intro ws h
    rw [List.mem_cons] at h
    rcases h with rfl | h
    · refine ⟨by simp, fun w hw => ?_⟩
      simp only [List.mem_cons, List.not_mem_nil, or_false] at hw
      rcases hw with rfl | rfl
      · unfold gw gc; decide
      · exact dec_gw _
    · obtain ⟨_, rfl⟩ := List.mem_replicate.1 h
      refine ⟨by simp, fun w hw => ?_⟩
      simp only [List.mem_cons, List.not_mem_nil, or_false, or_self] at hw
      subst hw
      exact gw_digit (by unfold gc; decide)
  have e0 : pZeros n = joinL (([wPoly, dec n] :: List.replicate n [[48], [48], [48]]).map joinW) := by
    rw [List.map_cons, show ∀ (a : Bytes) (b : List Bytes), joinL (a :: b) = a ++ [10] ++ joinL b from fun a b => by simp [joinL], ← zeros_join]; rfl
  have hl := linesAll_joinL (lines_good hg)
  rw [← e0] at hl
  have hw := numbered_words _ 1 hg
  rw [List.map_cons, numbered, wordsOf_join (hg _ (by simp)).2] at hl
  simp only at hl
  have hw' := numbered_words (List.replicate n [[48], [48], [48]]) 2 (fun x hx => hg x (by simp [hx]))
  have hf : firstWord (linesOf (pZeros n)) = wPoly := firstWord_num hl
  have h1 : natOf (dec n) = n := (dec_facts n).2.1
  have h2 : ((dec n).head? != some 45) = true := by rw [bne_iff_ne]; exact dec_head n
  rw [readS_as_two (not_magic (s := pZeros n) (fun e => by cases e)) hf, hl, twoN_head]
  by_cases h3 : n < 3
  · rw [if_pos h3]
    have : headS [wPoly, dec n] = .bad 11 := by
      have h3' : decide (natOf (dec n) < 3) = true := by rw [h1]; simp; omega
      unfold headS
      simp only [isNum_dec, h2, h3', Bool.or_true, Bool.and_true, decide_true, if_true]
    rw [this]
  · rw [if_neg h3]
    by_cases h4 : 64 < n
    · rw [if_pos h4]
      have : headS [wPoly, dec n] = .bad 2 := by
        have h3' : decide (natOf (dec n) < 3) = false := by rw [h1]; simp; omega
        unfold headS
        simp only [isNum_dec, h2, h3', long_dec (show n < 1000000000000000 by omega), Bool.or_false, Bool.and_true, Bool.false_eq_true, if_false, decide_true, if_true]
        rw [h1, if_pos h4]
      rw [this]
    · rw [if_neg h4, headS_poly (by omega) (by omega)]
      simp only
      have hp := two_pts (List.replicate n (0, 0, 0)) _ [] [] ([], 1) (linesOf (pZeros n)).length (fun p hp => by obtain ⟨_, rfl⟩ := List.mem_replicate.1 hp; decide) (by rw [hw', List.map_replicate]; congr 1)
      rw [List.append_nil, List.length_replicate] at hp
      rw [if_neg (by simp), hp, twoN, if_pos rfl]; rfl
end Sp
end Go.Proofs.YtojdgdeefhndiaaGreatDoor
namespace Go.Proofs.YtojdgdeefhndiaaGreatDoor
open Go Go.RowKit
namespace Sp
theorem leNat_leB : ∀ (n v : Nat), v < 256 ^ n → leNat (leB n v) = v
  | 0, v, h => by simp at h; subst h; rfl
  | n + 1, v, h => by
    rw [leB, leNat, leNat_leB n (v / 256) (by rw [Nat.pow_succ] at h; omega)]
    simp; omega
theorem numS_at {s pre post : Bytes} {n v most e : Nat} (hs : s = pre ++ leB n v ++ post) (hv : v < 256 ^ n) (hm : v ≤ most) : numS s pre.length n most e = .ok v := by
  have hl : s.length = pre.length + n + post.length := by rw [hs, List.length_append, List.length_append, leB_length]
  have ht : (s.drop pre.length).take n = leB n v := by
    rw [hs, List.append_assoc, List.drop_left, List.take_append_of_le_length (by rw [leB_length]; exact Nat.le_refl _), List.take_of_length_le (by rw [leB_length]; exact Nat.le_refl _)]
  unfold numS
  rw [if_neg (by omega), ht, leNat_leB n v hv, if_neg (by omega)]
theorem cornersB_text : ∀ (pts : List Pt) (s pre post : Bytes) (acc : List Pt), s = pre ++ ptsB pts ++ post → (∀ p, p ∈ pts → inR p = true) → cornersB s pre.length pts.length acc = .ok (acc ++ pts)
  | [], s, pre, post, acc, _, _ => by rw [List.length_nil, cornersB, List.append_nil]
  | p :: r, s, pre, post, acc, hs, h => by
    obtain ⟨x, y, z⟩ := p
    obtain ⟨i1, i2, i3, i4, i5, i6⟩ := (inR_iff x y z).1 (h _ (by simp))
    obtain ⟨a, rfl⟩ : ∃ a : Nat, x = a := ⟨x.toNat, by omega⟩
    obtain ⟨b, rfl⟩ : ∃ b : Nat, y = b := ⟨y.toNat, by omega⟩
    obtain ⟨c, rfl⟩ : ∃ c : Nat, z = c := ⟨z.toNat, by omega⟩
    have e : ptsB (((a : Int), (b : Int), (c : Int)) :: r) = leB 3 a ++ leB 3 b ++ leB 3 c ++ ptsB r := rfl
    rw [e] at hs
    have n1 := numS_at (s := s) (pre := pre) (post := leB 3 b ++ leB 3 c ++ ptsB r ++ post) (n := 3) (v := a) (most := 2097151) (e := 3) (by rw [hs]; simp) (by omega) (by omega)
    have n2 := numS_at (s := s) (pre := pre ++ leB 3 a) (post := leB 3 c ++ ptsB r ++ post) (n := 3) (v := b) (most := 2097151) (e := 3) (by rw [hs]; simp) (by omega) (by omega)
    have n3 := numS_at (s := s) (pre := pre ++ leB 3 a ++ leB 3 b) (post := ptsB r ++ post) (n := 3) (v := c) (most := 2097151) (e := 3) (by rw [hs]; simp) (by omega) (by omega)
    have ih := cornersB_text r s (pre ++ leB 3 a ++ leB 3 b ++ leB 3 c) post (acc ++ [((a : Int), (b : Int), (c : Int))]) (by rw [hs]; simp) (fun q hq => h q (by simp [hq]))
    simp only [List.length_append, leB_length] at n2 n3 ih
    rw [List.length_cons, cornersB, n1]
    simp only
    rw [n2]
    simp only
    rw [show pre.length + 6 = pre.length + 3 + 3 by omega, n3]
    simp only
    rw [show pre.length + 9 = pre.length + 3 + 3 + 3 by omega, ih, List.append_assoc]; rfl
theorem polysB_text : ∀ (ps : List Poly) (s pre post : Bytes) (acc : List Poly), s = pre ++ bodyB ps ++ post → (∀ p, p ∈ ps → validP p.1) →
    ∃ ps', ps'.map (·.1) = ps.map (·.1) ∧ polysB s pre.length ps.length acc = if post = [] then .ok (acc ++ ps') else .bad (pre.length + (bodyB ps).length) 13
  | [], s, pre, post, acc, hs, _ => by
    refine ⟨[], rfl, ?_⟩
    have hl : s.length = pre.length + post.length := by rw [hs]; simp [bodyB]
    rw [List.length_nil, polysB, List.append_nil]
    by_cases h : post = []
    · rw [if_pos h, if_pos (by rw [hl, h]; simp)]
    · have := List.length_pos_iff.2 h
      rw [if_neg h, if_neg (by omega)]; simp [bodyB]
  | p :: r, s, pre, post, acc, hs, hv => by
    obtain ⟨v3, v64, vin⟩ := hv p (by simp)
    have e : bodyB (p :: r) = leB 1 p.1.length ++ ptsB p.1 ++ bodyB r := rfl
    rw [e] at hs
    have n1 := numS_at (s := s) (pre := pre) (post := ptsB p.1 ++ bodyB r ++ post) (n := 1) (v := p.1.length) (most := 64) (e := 2) (by rw [hs]; simp) (by omega) v64
    have hc := cornersB_text p.1 s (pre ++ leB 1 p.1.length) (bodyB r ++ post) [] (by rw [hs]; simp) (List.all_eq_true.1 vin)
    obtain ⟨ps', e1, e2⟩ := polysB_text r s (pre ++ leB 1 p.1.length ++ ptsB p.1) post (acc ++ [(p.1, pre.length)]) (by rw [hs]; simp) (fun q hq => hv q (by simp [hq]))
    simp only [List.length_append, leB_length, ptsB_length] at hc e2
    refine ⟨(p.1, pre.length) :: ps', by rw [List.map_cons, e1]; rfl, ?_⟩
    rw [List.length_cons, polysB, n1]
    simp only
    rw [if_neg (by omega), hc]
    simp only [List.nil_append]
    rw [e2, e]
    simp only [List.length_append, leB_length, ptsB_length, List.append_assoc, List.cons_append, List.nil_append, Nat.add_assoc]
/-- What a text of form 3 reads as; with more behind it, the place of the first byte too many. -/
theorem read_three (ps : List Poly) (post : Bytes) (hv : ∀ p, p ∈ ps → validP p.1) (hl : ps.length ≤ 65536) :
    ∃ ps', ps'.map (·.1) = ps.map (·.1) ∧ readS (write3 ps ++ post) = if post = [] then .ok ps' else .bad (write3 ps).length 13 := by
  have hm : magic.isPrefixOf (write3 ps ++ post) = true := by rw [List.isPrefixOf_iff_prefix]; exact ⟨leB 4 ps.length ++ bodyB ps ++ post, by simp [write3]⟩
  have n1 := numS_at (s := write3 ps ++ post) (pre := magic) (post := bodyB ps ++ post) (n := 4) (v := ps.length) (most := 65536) (e := 2) (by simp [write3]) (by omega) hl
  obtain ⟨ps', e1, e2⟩ := polysB_text ps (write3 ps ++ post) (magic ++ leB 4 ps.length) post [] (by simp [write3]) hv
  refine ⟨ps', e1, ?_⟩
  unfold readS
  rw [if_pos hm]
  unfold threeS
  have hml : magic.length = 4 := rfl
  rw [hml] at n1
  rw [n1]
  simp only
  simp only [List.length_append, leB_length, hml, List.nil_append] at e2
  rw [show (8 : Nat) = 4 + 4 from rfl, e2]
  have : (write3 ps).length = 4 + 4 + (bodyB ps).length := by unfold write3; simp only [List.length_append, leB_length, hml]
  rw [this]
end Sp
end Go.Proofs.YtojdgdeefhndiaaGreatDoor
