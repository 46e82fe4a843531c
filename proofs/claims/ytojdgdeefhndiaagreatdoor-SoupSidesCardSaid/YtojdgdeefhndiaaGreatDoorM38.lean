/- Plain laws of the polygon files' texts: what reading forms 1 and 2 comes to. No condition. Plain laws of the polygon files' texts: one form behind the other; what stands in front. No condition. -/
import Derived.Test.YtojdgdeefhndiaaGreatDoorM37
namespace Go.Proofs.YtojdgdeefhndiaaGreatDoor
open Go Go.RowKit
namespace Sp
open Bg
def goodL (L : List (List Bytes)) : Prop := ∀ ws, ws ∈ L → ws ≠ [] ∧ ∀ w, w ∈ ws → gw w
theorem polyW_good (p : Poly) : goodL (polyW p) := by
  intro ws h
  rw [polyW, List.mem_cons] at h
  rcases h with rfl | h
  · refine ⟨by simp, fun w hw => ?_⟩
    simp only [List.mem_cons, List.not_mem_nil, or_false] at hw
    rcases hw with rfl | rfl
    · unfold gw gc; decide
    · exact dec_gw _
  · obtain ⟨c, _, rfl⟩ := List.mem_map.1 h
    exact ⟨by simp [ptW], ptW_gw c⟩
theorem W2_good (ps : List Poly) : goodL (ps.flatMap polyW) := by
  intro ws h
  obtain ⟨p, _, h2⟩ := List.mem_flatMap.1 h
  exact polyW_good p ws h2
theorem W1_good : ∀ (ps : List Poly) (P : List Pt), goodL (W1 P ps)
  | [], P, ws, h => by cases h
  | p :: r, P, ws, h => by
    rw [W1, List.mem_append, List.mem_cons] at h
    rcases h with h | rfl | h
    · obtain ⟨c, _, rfl⟩ := List.mem_map.1 h
      refine ⟨by simp [vW], fun w hw => ?_⟩
      rw [vW, List.mem_cons] at hw
      rcases hw with rfl | hw
      · unfold gw gc; decide
      · exact ptW_gw c w hw
    · refine ⟨by simp [fW], fun w hw => ?_⟩
      rw [fW, List.mem_cons] at hw
      rcases hw with rfl | hw
      · unfold gw gc; decide
      · obtain ⟨c, _, rfl⟩ := List.mem_map.1 hw
        exact dec_gw _
    · exact W1_good r _ ws h
theorem numbered_words : ∀ (L : List (List Bytes)) (i : Nat), goodL L → (numbered i (L.map joinW)).map (·.2) = L
  | [], _, _ => rfl
  | ws :: r, i, h => by
    have h1 := wordsOf_join (h ws (by simp)).2
    have ih := numbered_words r (i + 1) (fun x hx => h x (by simp [hx]))
    rw [List.map_cons, numbered, h1]
    cases ws with
    | nil => exact absurd rfl (h [] (by simp)).1
    | cons w t => simp only [List.map_cons, ih]
theorem lines_good {L : List (List Bytes)} (h : goodL L) : ∀ l, l ∈ L.map joinW → ∀ c, c ∈ l → c ≠ 10 := by
  intro l hl
  obtain ⟨ws, hw, rfl⟩ := List.mem_map.1 hl
  exact joinW_line (h ws hw).2
theorem numbered_none : ∀ (xs : List Bytes) (i : Nat), (∀ x, x ∈ xs → wordsOf x = []) → numbered i xs = []
  | [], _, _ => rfl
  | x :: r, i, h => by rw [numbered, h x (by simp)]; exact numbered_none r (i + 1) (fun y hy => h y (by simp [hy]))
/-- The numbered lines of a text: lines without words ahead, good lines, and the rest. -/
theorem linesAll_text (xs : List Bytes) (L : List (List Bytes)) (t : Bytes) (hx : ∀ x, x ∈ xs → wordsOf x = [] ∧ ∀ c, c ∈ x → c ≠ 10) (h : goodL L) :
    linesOf (joinL xs ++ joinL (L.map joinW) ++ t) = xs ++ L.map joinW ++ linesOf t ∧
    linesAll (joinL xs ++ joinL (L.map joinW) ++ t) = numbered (1 + xs.length) (L.map joinW) ++ numbered (1 + xs.length + L.length) (linesOf t) := by
  have e : linesOf (joinL xs ++ joinL (L.map joinW) ++ t) = xs ++ L.map joinW ++ linesOf t := by
    rw [← joinL_append, linesOf_join _ _ (fun l hl => by
      rw [List.mem_append] at hl
      rcases hl with hl | hl
      · exact (hx l hl).2
      · exact lines_good h l hl)]
  refine ⟨e, ?_⟩
  unfold linesAll
  rw [e, numbered_append, numbered_append, numbered_none xs 1 (fun x hx' => (hx x hx').1), List.nil_append, List.length_append, List.length_map]
  congr 2; omega
theorem linesOf_nil : linesOf [] = [[]] := rfl
theorem numbered_last (i : Nat) : numbered i (linesOf []) = [] := rfl
theorem firstWord_num {s : Bytes} {i : Nat} {w : Bytes} {ws : List Bytes} {r : List (Nat × List Bytes)} (h : linesAll s = (i, w :: ws) :: r) : firstWord (linesOf s) = w := by
  obtain ⟨a, b, e1, e2⟩ := firstWord_cons (linesOf s) 1 (i, w :: ws) r h
  cases e1
  exact e2
theorem firstWord_none {s : Bytes} (h : linesAll s = []) : firstWord (linesOf s) = [] := firstWord_nil (linesOf s) 1 h
theorem readS_as_two {s : Bytes} (hm : magic.isPrefixOf s = false) (h : firstWord (linesOf s) = wPoly) : readS s = twoN (linesAll s) 0 [] (linesOf s).length := by
  unfold readS
  rw [hm, if_neg (by simp), if_pos h, polysS_eq]; rfl
theorem readS_as_one {s : Bytes} (hm : magic.isPrefixOf s = false) (h : firstWord (linesOf s) ≠ wPoly) : readS s = oneN (linesAll s) [] [] := by
  unfold readS
  rw [hm, if_neg (by simp), if_neg h, oneGo_eq]; rfl
/-- What a text of form 2 reads as, whatever lines without words stand ahead. -/
theorem read_two (xs : List Bytes) (ps : List Poly) (hx : ∀ x, x ∈ xs → wordsOf x = [] ∧ ∀ c, c ∈ x → c ≠ 10) (hv : ∀ p, p ∈ ps → validP p.1) (hl : ps.length ≤ 65536) (h0 : ps ≠ []) (hm : magic.isPrefixOf (joinL xs ++ write2 ps) = false) :
    ∃ ps', ps'.map (·.1) = ps.map (·.1) ∧ readS (joinL xs ++ write2 ps) = .ok ps' := by
  have h := (linesAll_text xs (ps.flatMap polyW) [] hx (W2_good ps)).2
  rw [numbered_last, List.append_nil, List.append_nil] at h
  have hw := numbered_words (ps.flatMap polyW) (1 + xs.length) (W2_good ps)
  obtain ⟨ps', e1, e2⟩ := two_polys ps (numbered (1 + xs.length) ((ps.flatMap polyW).map joinW)) [] [] (linesOf (joinL xs ++ write2 ps)).length hv (by simpa using hl) hw
  refine ⟨ps', e1, ?_⟩
  have hf : firstWord (linesOf (joinL xs ++ write2 ps)) = wPoly := by
    cases ps with
    | nil => exact absurd rfl h0
    | cons p r =>
      cases hn : numbered (1 + xs.length) (((p :: r).flatMap polyW).map joinW) with
      | nil => rw [hn] at hw; simp [polyW] at hw
      | cons a t =>
        obtain ⟨i, ws⟩ := a
        rw [hn] at hw h
        rw [List.map_cons, List.flatMap_cons, polyW, List.cons_append, List.cons.injEq] at hw
        simp only at hw
        rw [hw.1] at h
        exact firstWord_num h
  rw [readS_as_two hm hf]
  have h' : linesAll (joinL xs ++ write2 ps) = numbered (1 + xs.length) ((ps.flatMap polyW).map joinW) := h
  rw [h']
  rw [List.append_nil, List.nil_append] at e2
  rw [e2, twoN, if_pos rfl]
/-- What a text of form 1 reads as. -/
theorem read_one (xs : List Bytes) (ps : List Poly) (hx : ∀ x, x ∈ xs → wordsOf x = [] ∧ ∀ c, c ∈ x → c ≠ 10) (hv : ∀ p, p ∈ ps → validP p.1) (hl : ps.length ≤ 65536) (hm : magic.isPrefixOf (joinL xs ++ write1 ps) = false) :
    ∃ ps', ps'.map (·.1) = ps.map (·.1) ∧ readS (joinL xs ++ write1 ps) = .ok ps' := by
  have h := (linesAll_text xs (W1 [] ps) [] hx (W1_good ps [])).2
  rw [numbered_last, List.append_nil, List.append_nil] at h
  have hw := numbered_words (W1 [] ps) (1 + xs.length) (W1_good ps [])
  obtain ⟨ps', e1, e2⟩ := one_polys ps [] (numbered (1 + xs.length) ((W1 [] ps).map joinW)) [] [] hv (by simpa using hl) (by simp; omega) hw
  refine ⟨ps', e1, ?_⟩
  have h' : linesAll (joinL xs ++ write1 ps) = numbered (1 + xs.length) ((W1 [] ps).map joinW) := h
  have hf : firstWord (linesOf (joinL xs ++ write1 ps)) ≠ wPoly := by
    cases hn : numbered (1 + xs.length) ((W1 [] ps).map joinW) with
    | nil => rw [hn] at h'; rw [firstWord_none h']; decide
    | cons a t =>
      obtain ⟨i, ws⟩ := a
      rw [hn] at h' hw
      cases ps with
      | nil => simp [W1] at hw
      | cons p r =>
        have hws : ws ∈ W1 [] (p :: r) := by rw [← hw]; simp
        have hw1 : ∃ w t, ws = w :: t ∧ w ≠ wPoly := by
          rw [List.map_cons, W1] at hw
          cases hnp : newP [] p.1 with
          | nil =>
            rw [hnp] at hw
            simp only [List.map_nil, List.nil_append, List.cons.injEq] at hw
            exact ⟨wF, _, by rw [hw.1]; rfl, by decide⟩
          | cons c t =>
            rw [hnp] at hw
            simp only [List.map_cons, List.cons_append, List.cons.injEq] at hw
            exact ⟨wV, _, by rw [hw.1]; rfl, by decide⟩
        obtain ⟨w, t', rfl, hne⟩ := hw1
        rw [firstWord_num h']
        exact hne
  rw [readS_as_one hm hf, h']
  rw [List.append_nil, List.nil_append] at e2
  rw [e2, oneN]
end Sp
end Go.Proofs.YtojdgdeefhndiaaGreatDoor
namespace Go.Proofs.YtojdgdeefhndiaaGreatDoor
open Go Go.RowKit
namespace Sp
open Bg
theorem not_magic {s : Bytes} (h : s.head? ≠ some 83) : magic.isPrefixOf s = false := by
  cases s with
  | nil => rfl
  | cons c r =>
    have hc : c ≠ 83 := fun e => h (by rw [e]; rfl)
    show ((83 : UInt8) == c && _) = false
    have : ((83 : UInt8) == c) = false := by rw [beq_eq_false_iff_ne]; exact fun e => hc e.symm
    rw [this]; rfl
theorem head_app {a b : Bytes} (h : a ≠ []) : (a ++ b).head? = a.head? := by
  cases a with
  | nil => exact absurd rfl h
  | cons c r => rfl
theorem write2_head {ps : List Poly} (h : ps ≠ []) (t : Bytes) : (write2 ps ++ t).head? = some 112 := by
  cases ps with
  | nil => exact absurd rfl h
  | cons p r => rw [write2_body, body2_cons]; simp [joinW, wPoly]
theorem write1_head {ps : List Poly} (h : ps ≠ []) (t : Bytes) : (write1 ps ++ t).head? = some 118 ∨ (write1 ps ++ t).head? = some 102 := by
  cases ps with
  | nil => exact absurd rfl h
  | cons p r =>
    unfold write1
    rw [body1_cons]
    cases newP [] p.1 with
    | nil => right; simp [vL, joinL, fL]
    | cons c l =>
      left
      have e : vL (c :: l) = 118 :: (32 :: joinW (ptW c) ++ [10] ++ vL l) := by simp [vL, joinL, vW, wV, joinW, ptW]
      rw [e]; rfl
theorem front_head {xs : List Bytes} (h : xs = [] ∨ ∃ c, (joinL xs).head? = some c ∧ c ≠ 83) {t : Bytes} (ht : t.head? ≠ some 83) : (joinL xs ++ t).head? ≠ some 83 := by
  rcases h with rfl | ⟨c, h1, h2⟩
  · exact ht
  · rw [head_app (fun e => by rw [e] at h1; cases h1), h1]
    exact fun e => h2 (Option.some.inj e)
theorem one_then_two (xs : List Bytes) (ps : List Poly) (hx : ∀ x, x ∈ xs → wordsOf x = [] ∧ ∀ c, c ∈ x → c ≠ 10) (hv : ∀ p, p ∈ ps → validP p.1) (hl : ps.length ≤ 65536) (h0 : ps ≠ []) (hm : magic.isPrefixOf (joinL xs ++ write1 ps ++ write2 ps) = false) :
    ∃ i, readS (joinL xs ++ write1 ps ++ write2 ps) = .bad i 10 := by
  have h := (linesAll_text xs (W1 [] ps) (write2 ps) hx (W1_good ps [])).2
  have hw := numbered_words (W1 [] ps) (1 + xs.length) (W1_good ps [])
  have e2 : linesOf (write2 ps) = (ps.flatMap polyW).map joinW ++ linesOf [] := by
    have := linesOf_join ((ps.flatMap polyW).map joinW) [] (lines_good (W2_good ps))
    rw [List.append_nil] at this
    exact this
  rw [e2, numbered_append, numbered_last, List.append_nil] at h
  have hw2 := numbered_words (ps.flatMap polyW) (1 + xs.length + (W1 [] ps).length) (W2_good ps)
  have h' : linesAll (joinL xs ++ write1 ps ++ write2 ps) = numbered (1 + xs.length) ((W1 [] ps).map joinW) ++ numbered (1 + xs.length + (W1 [] ps).length) ((ps.flatMap polyW).map joinW) := h
  obtain ⟨ps', e1, e3⟩ := one_polys ps [] (numbered (1 + xs.length) ((W1 [] ps).map joinW)) (numbered (1 + xs.length + (W1 [] ps).length) ((ps.flatMap polyW).map joinW)) [] hv (by simpa using hl) (by simp; omega) hw
  have hf : firstWord (linesOf (joinL xs ++ write1 ps ++ write2 ps)) ≠ wPoly := by
    cases hn : numbered (1 + xs.length) ((W1 [] ps).map joinW) with
    | nil =>
      rw [hn] at hw
      cases ps with
      | nil => exact absurd rfl h0
      | cons p r => simp [W1] at hw
    | cons a t =>
      obtain ⟨i, ws⟩ := a
      rw [hn] at h' hw
      cases ps with
      | nil => exact absurd rfl h0
      | cons p r =>
        have hw1 : ∃ w t, ws = w :: t ∧ w ≠ wPoly := by
          rw [List.map_cons, W1] at hw
          cases hnp : newP [] p.1 with
          | nil =>
            rw [hnp] at hw
            simp only [List.map_nil, List.nil_append, List.cons.injEq] at hw
            exact ⟨wF, _, by rw [hw.1]; rfl, by decide⟩
          | cons c t =>
            rw [hnp] at hw
            simp only [List.map_cons, List.cons_append, List.cons.injEq] at hw
            exact ⟨wV, _, by rw [hw.1]; rfl, by decide⟩
        obtain ⟨w, t', rfl, hne⟩ := hw1
        rw [List.cons_append] at h'
        rw [firstWord_num h']
        exact hne
  rw [readS_as_one hm hf, h', e3]
  cases hn : numbered (1 + xs.length + (W1 [] ps).length) ((ps.flatMap polyW).map joinW) with
  | nil =>
    rw [hn] at hw2
    cases ps with
    | nil => exact absurd rfl h0
    | cons p r => simp [polyW] at hw2
  | cons a t =>
    obtain ⟨i, ws⟩ := a
    rw [hn] at hw2
    cases ps with
    | nil => exact absurd rfl h0
    | cons p r =>
      rw [List.map_cons, List.flatMap_cons, polyW, List.cons_append, List.cons.injEq] at hw2
      refine ⟨i, ?_⟩
      rw [show ws = [wPoly, dec p.1.length] from hw2.1, oneN]
      unfold oneStep
      rw [if_neg (by decide), if_neg (by decide)]
theorem two_then_one (xs : List Bytes) (ps : List Poly) (hx : ∀ x, x ∈ xs → wordsOf x = [] ∧ ∀ c, c ∈ x → c ≠ 10) (hv : ∀ p, p ∈ ps → validP p.1) (hl : ps.length ≤ 65536) (h0 : ps ≠ []) (hm : magic.isPrefixOf (joinL xs ++ write2 ps ++ write1 ps) = false) :
    ∃ i, readS (joinL xs ++ write2 ps ++ write1 ps) = .bad i 10 := by
  have h := (linesAll_text xs (ps.flatMap polyW) (write1 ps) hx (W2_good ps)).2
  have hw := numbered_words (ps.flatMap polyW) (1 + xs.length) (W2_good ps)
  have e2 : linesOf (write1 ps) = (W1 [] ps).map joinW ++ linesOf [] := by
    have := linesOf_join ((W1 [] ps).map joinW) [] (lines_good (W1_good ps []))
    rw [List.append_nil] at this
    exact this
  rw [e2, numbered_append, numbered_last, List.append_nil] at h
  have hw2 := numbered_words (W1 [] ps) (1 + xs.length + (ps.flatMap polyW).length) (W1_good ps [])
  have h' : linesAll (joinL xs ++ write2 ps ++ write1 ps) = numbered (1 + xs.length) ((ps.flatMap polyW).map joinW) ++ numbered (1 + xs.length + (ps.flatMap polyW).length) ((W1 [] ps).map joinW) := h
  obtain ⟨ps', e1, e3⟩ := two_polys ps (numbered (1 + xs.length) ((ps.flatMap polyW).map joinW)) (numbered (1 + xs.length + (ps.flatMap polyW).length) ((W1 [] ps).map joinW)) [] (linesOf (joinL xs ++ write2 ps ++ write1 ps)).length hv (by simpa using hl) hw
  have hf : firstWord (linesOf (joinL xs ++ write2 ps ++ write1 ps)) = wPoly := by
    cases hn : numbered (1 + xs.length) ((ps.flatMap polyW).map joinW) with
    | nil =>
      rw [hn] at hw
      cases ps with
      | nil => exact absurd rfl h0
      | cons p r => simp [polyW] at hw
    | cons a t =>
      obtain ⟨i, ws⟩ := a
      rw [hn] at h' hw
      cases ps with
      | nil => exact absurd rfl h0
      | cons p r =>
        rw [List.map_cons, List.flatMap_cons, polyW, List.cons_append, List.cons.injEq] at hw
        simp only at hw
        rw [hw.1, List.cons_append] at h'
        exact firstWord_num h'
  rw [readS_as_two hm hf, h', e3]
  cases hn : numbered (1 + xs.length + (ps.flatMap polyW).length) ((W1 [] ps).map joinW) with
  | nil =>
    rw [hn] at hw2
    cases ps with
    | nil => exact absurd rfl h0
    | cons p r => simp [W1] at hw2
  | cons a t =>
    obtain ⟨i, ws⟩ := a
    rw [hn] at hw2
    cases ps with
    | nil => exact absurd rfl h0
    | cons p r =>
      obtain ⟨v3, _, _⟩ := hv p (by simp)
      have hw1 : ws.length ≠ 2 := by
        rw [List.map_cons, W1] at hw2
        cases hnp : newP [] p.1 with
        | nil =>
          rw [hnp] at hw2
          simp only [List.map_nil, List.nil_append, List.cons.injEq] at hw2
          rw [hw2.1]; simp [fW]; omega
        | cons c t =>
          rw [hnp] at hw2
          simp only [List.map_cons, List.cons_append, List.cons.injEq] at hw2
          rw [hw2.1]; simp [vW, ptW]
      refine ⟨i, ?_⟩
      rw [twoN_head, headS_len hw1]
/-- What stands in front. -/
def fronts : List (List Bytes) := [[], [[]], [[35, 32, 83, 79, 85, 80]], [[32, 32, 9, 13]], [[35], [35, 112, 111, 108, 121], []]]
theorem fronts_ok : ∀ xs, xs ∈ fronts → (∀ x, x ∈ xs → wordsOf x = [] ∧ ∀ c, c ∈ x → c ≠ 10) ∧ (xs = [] ∨ ∃ c, (joinL xs).head? = some c ∧ c ≠ 83) ∧ (joinL xs).length ≤ 20 := by
  intro xs h
  simp only [fronts, List.mem_cons, List.not_mem_nil, or_false] at h
  rcases h with rfl | rfl | rfl | rfl | rfl
  · exact ⟨fun x hx => (by cases hx), .inl rfl, by decide⟩
  · exact ⟨by decide, .inr ⟨10, rfl, by decide⟩, by decide⟩
  · exact ⟨by decide, .inr ⟨35, rfl, by decide⟩, by decide⟩
  · exact ⟨by decide, .inr ⟨32, rfl, by decide⟩, by decide⟩
  · exact ⟨by decide, .inr ⟨35, rfl, by decide⟩, by decide⟩
theorem write1_length : ∀ (ps : List Poly) (P : List Pt), (∀ p, p ∈ ps → validP p.1) → P.length + 64 * ps.length < 16000000 → (body1 P ps).length ≤ 2500 * ps.length
  | [], P, _, _ => by simp [body1, W1, joinL]
  | p :: r, P, h, hP => by
    rw [List.length_cons] at hP
    obtain ⟨v3, v64, vin⟩ := h p (by simp)
    have hnl := newP_len p.1 P
    have ih := write1_length r (P ++ newP P p.1) (fun q hq => h q (by simp [hq])) (by rw [List.length_append]; omega)
    have h1 := vL_length (newP P p.1) (fun c hc => List.all_eq_true.1 vin _ (newP_sub _ _ _ hc))
    have h2 := fL_length (P ++ newP P p.1) (by rw [List.length_append]; omega) p.1 (fun c hc => newP_mem _ _ _ hc)
    rw [body1_cons]
    simp only [List.length_append, List.length_cons, List.length_nil] at *
    omega
end Sp
end Go.Proofs.YtojdgdeefhndiaaGreatDoor
