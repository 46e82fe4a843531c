/- Plain laws of the polygon files' texts: words, lines, decimals. No condition. Plain laws of the polygon files' texts: form 1, read back. No condition. -/
import Derived.Test.YtojdgdeefhndiaaGreatDoorM12
import Derived.Test.YtojdgdeefhndiaaGreatDoorM29
import Derived.Test.YtojdgdeefhndiaaGreatDoorM7
import Derived.Test.YtojdgdeefhndiaaGreatDoorM28
namespace Go.Proofs.YtojdgdeefhndiaaGreatDoor
open Go Go.RowKit
namespace Sp
open Bg
/-- A word: not empty, without blanks, ends of lines and comments. -/
def gc (c : UInt8) : Prop := blank c = false ∧ c ≠ 35 ∧ c ≠ 10
def gw (w : Bytes) : Prop := w ≠ [] ∧ ∀ c, c ∈ w → gc c
/-- Words with one blank between. -/
def joinW : List Bytes → Bytes
  | [] => []
  | [w] => w
  | w :: v :: r => w ++ 32 :: joinW (v :: r)
theorem joinW_mem : ∀ {ws : List Bytes} {c : UInt8}, c ∈ joinW ws → c = 32 ∨ ∃ w, w ∈ ws ∧ c ∈ w
  | [w], c, h => .inr ⟨w, by simp, h⟩
  | w :: v :: r, c, h => by
    rw [joinW, List.mem_append, List.mem_cons] at h
    rcases h with h | h | h
    · exact .inr ⟨w, by simp, h⟩
    · exact .inl h
    · rcases joinW_mem h with h | ⟨x, h1, h2⟩
      · exact .inl h
      · exact .inr ⟨x, by simp [h1], h2⟩
theorem ahead_id : ∀ {l : Bytes}, (∀ c, c ∈ l → c ≠ 35) → ahead l = l
  | [], _ => rfl
  | c :: r, h => by rw [ahead, if_neg (h c (by simp)), ahead_id (fun d hd => h d (by simp [hd]))]
theorem fieldsGo_end {x : Bytes} (h : gw x) : fieldsGo [] x = [x] := by
  have := fieldsGo_run x [] [] (fun c hc => (h.2 c hc).1)
  rw [List.append_nil] at this
  rw [this, List.nil_append, fieldsGo, flush_ne h.1]
theorem fieldsGo_join : ∀ {ws : List Bytes}, (∀ w, w ∈ ws → gw w) → fieldsGo [] (joinW ws) = ws
  | [], _ => rfl
  | [w], h => fieldsGo_end (h w (by simp))
  | w :: v :: r, h => by
    rw [joinW, fieldsGo_run w [] _ (fun c hc => ((h w (by simp)).2 c hc).1), fieldsGo, if_pos (show blank 32 = true from rfl), List.nil_append, flush_ne (h w (by simp)).1, fieldsGo_join (fun x hx => h x (by simp at hx ⊢; exact .inr hx))]
    rfl
theorem wordsOf_join {ws : List Bytes} (h : ∀ w, w ∈ ws → gw w) : wordsOf (joinW ws) = ws := by
  unfold wordsOf
  rw [ahead_id (fun c hc => ?_), fieldsGo_join h]
  rcases joinW_mem hc with rfl | ⟨w, h1, h2⟩
  · decide
  · exact ((h w h1).2 c h2).2.1
theorem joinW_line {ws : List Bytes} (h : ∀ w, w ∈ ws → gw w) : ∀ c, c ∈ joinW ws → c ≠ 10 := by
  intro c hc
  rcases joinW_mem hc with rfl | ⟨w, h1, h2⟩
  · decide
  · exact ((h w h1).2 c h2).2.2
theorem linesGo_line : ∀ (l cur t : Bytes), (∀ c, c ∈ l → c ≠ 10) → linesGo cur (l ++ 10 :: t) = (cur ++ l) :: linesGo [] t
  | [], cur, t, _ => by rw [List.nil_append, linesGo, if_pos rfl, List.append_nil]
  | c :: l, cur, t, h => by
    rw [List.cons_append, linesGo, if_neg (h c (by simp)), linesGo_line l _ t (fun d hd => h d (by simp [hd])), List.append_assoc]; rfl
/-- Lines, each with its end. -/
def joinL (ls : List Bytes) : Bytes := ls.flatMap (fun l => l ++ [10])
theorem linesOf_join : ∀ (ls : List Bytes) (t : Bytes), (∀ l, l ∈ ls → ∀ c, c ∈ l → c ≠ 10) → linesOf (joinL ls ++ t) = ls ++ linesOf t
  | [], t, _ => rfl
  | l :: r, t, h => by
    have e : joinL (l :: r) ++ t = l ++ 10 :: (joinL r ++ t) := by simp [joinL]
    rw [e]
    unfold linesOf
    rw [linesGo_line l [] _ (h l (by simp))]
    have := linesOf_join r t (fun x hx => h x (by simp [hx]))
    unfold linesOf at this
    rw [this]; rfl
/-! ### Decimals -/
theorem dig_gc {d : Nat} (h : d < 10) : gc (UInt8.ofNat (48 + d)) ∧ isDig (UInt8.ofNat (48 + d)) = true ∧ (UInt8.ofNat (48 + d)).toNat = 48 + d := by
  have e : ∀ d, d < 10 → (gc (UInt8.ofNat (48 + d)) ∧ isDig (UInt8.ofNat (48 + d)) = true ∧ (UInt8.ofNat (48 + d)).toNat = 48 + d) := by
    unfold gc; decide
  exact e d h
theorem natOf_cons (c : UInt8) (s : Bytes) : natOf (c :: s) = (c.toNat - 48) * 10 ^ s.length + natOf s := by
  unfold natOf
  have key : ∀ (s : Bytes) (a : Nat), s.foldl (fun a c => 10 * a + (c.toNat - 48)) a = a * 10 ^ s.length + s.foldl (fun a c => 10 * a + (c.toNat - 48)) 0 := by
    intro s
    induction s with
    | nil => intro a; simp
    | cons x s ih =>
      intro a
      rw [List.foldl_cons, List.foldl_cons, ih (10 * a + (x.toNat - 48)), ih (10 * 0 + (x.toNat - 48)), List.length_cons, Nat.pow_succ, Nat.add_mul]
      rw [show 10 * a * 10 ^ s.length = a * (10 ^ s.length * 10) by rw [Nat.mul_comm 10 a, Nat.mul_assoc, Nat.mul_comm 10]]
      simp only [Nat.mul_zero, Nat.zero_add]; omega
  rw [List.foldl_cons, key]; simp
theorem dec0_facts : ∀ (n : Nat) (s : Bytes), (∀ c, c ∈ s → gc c ∧ isDig c = true) → (∀ c, c ∈ dec0 n s → gc c ∧ isDig c = true) ∧ natOf (dec0 n s) = n * 10 ^ s.length + natOf s ∧ s.length ≤ (dec0 n s).length ∧ (0 < n → s.length < (dec0 n s).length) ∧ (∀ k, n < 10 ^ k → (dec0 n s).length ≤ s.length + k) := by
  intro n
  induction n using Nat.strongRecOn with
  | ind n ih =>
    intro s hs
    by_cases h0 : n = 0
    · subst h0
      rw [dec0_zero]
      exact ⟨hs, by simp, Nat.le_refl _, fun h => absurd h (by omega), fun k _ => by omega⟩
    · rw [dec0_step (by omega)]
      obtain ⟨g1, g2, g3⟩ := dig_gc (show n % 10 < 10 by omega)
      obtain ⟨i1, i2, i3, i4, i5⟩ := ih (n / 10) (by omega) (UInt8.ofNat (48 + n % 10) :: s) (fun c hc => by
        rw [List.mem_cons] at hc
        rcases hc with rfl | hc
        · exact ⟨g1, g2⟩
        · exact hs c hc)
      rw [List.length_cons] at i2 i3 i5
      refine ⟨i1, ?_, by omega, fun _ => by omega, fun k hk => ?_⟩
      · rw [i2, natOf_cons, g3, Nat.pow_succ, Nat.add_sub_cancel_left]
        have : n / 10 * (10 ^ s.length * 10) = n / 10 * 10 * 10 ^ s.length := by rw [Nat.mul_comm (10 ^ s.length) 10, Nat.mul_assoc]
        rw [this, ← Nat.add_assoc, ← Nat.add_mul]
        congr 2; omega
      · cases k with
        | zero => simp at hk; omega
        | succ k =>
          rw [Nat.pow_succ] at hk
          have := i5 k (by omega)
          omega
theorem dec_facts (n : Nat) : (∀ c, c ∈ dec n → gc c ∧ isDig c = true) ∧ natOf (dec n) = n ∧ dec n ≠ [] ∧ (∀ k, 0 < k → n < 10 ^ k → (dec n).length ≤ k) := by
  unfold dec
  by_cases h : n = 0
  · rw [if_pos h]
    refine ⟨fun c hc => ?_, by rw [h]; rfl, by simp, fun k hk _ => by simp; omega⟩
    rw [List.mem_singleton] at hc
    subst hc
    unfold gc; decide
  · rw [if_neg h]
    obtain ⟨i1, i2, i3, i4, i5⟩ := dec0_facts n [] (fun c hc => by cases hc)
    refine ⟨i1, by simpa [natOf] using i2, fun e => ?_, fun k _ hk => by simpa using i5 k hk⟩
    have := i4 (by omega)
    rw [e] at this
    simp at this
theorem dec_gw (n : Nat) : gw (dec n) := ⟨(dec_facts n).2.2.1, fun c hc => ((dec_facts n).1 c hc).1⟩
theorem dig_ne {c : UInt8} (h : isDig c = true) : c ≠ 45 := by
  intro e; subst e; revert h; decide
theorem dec_head (n : Nat) : (dec n).head? ≠ some 45 := by
  intro h
  have hm : (45 : UInt8) ∈ dec n := List.mem_of_mem_head? (by rw [h]; rfl)
  exact dig_ne ((dec_facts n).1 _ hm).2 rfl
theorem unminus_dec (n : Nat) : unminus (dec n) = dec n := by
  have h := dec_head n
  cases he : dec n with
  | nil => exact absurd he (dec_facts n).2.2.1
  | cons c r =>
    rw [he] at h
    show (if c = 45 then r else c :: r) = c :: r
    rw [if_neg (fun e => h (by rw [e]; rfl))]
theorem isNum_dec (n : Nat) : isNum (dec n) = true := by
  unfold isNum
  rw [unminus_dec, Bool.and_eq_true, Bool.not_eq_true', List.isEmpty_eq_false_iff, List.all_eq_true]
  exact ⟨(dec_facts n).2.2.1, fun c hc => ((dec_facts n).1 c hc).2⟩
theorem long_dec {n : Nat} (h : n < 1000000000000000) : long (dec n) = false := by
  unfold long
  rw [unminus_dec, decide_eq_false_iff_not]
  have := (dec_facts n).2.2.2 15 (by decide) (by simpa using h)
  omega
theorem valOf_dec (n : Nat) : valOf (dec n) = n := by
  unfold valOf
  rw [if_neg (dec_head n), unminus_dec, (dec_facts n).2.1]
theorem numbersS_dec (ns : List Nat) (h : ∀ n, n ∈ ns → n < 1000000000000000) : numbersS (ns.map dec) = .ok (ns.map (fun n : Nat => (n : Int))) := by
  unfold numbersS
  have h1 : (ns.map dec).all isNum = true := by rw [List.all_eq_true]; intro w hw; obtain ⟨n, _, rfl⟩ := List.mem_map.1 hw; exact isNum_dec n
  have h2 : (ns.map dec).any long = false := by
    rw [List.any_eq_false]
    intro w hw
    obtain ⟨n, hn, rfl⟩ := List.mem_map.1 hw
    rw [long_dec (h n hn)]; simp
  rw [h1, h2]
  simp [valOf_dec]
/-- The words of a corner. -/
def ptW (p : Pt) : List Bytes := [dec p.1.toNat, dec p.2.1.toNat, dec p.2.2.toNat]
theorem cornerS_ptW {p : Pt} (h : inR p = true) : cornerS (ptW p) = .ok p := by
  obtain ⟨x, y, z⟩ := p
  obtain ⟨h1, h2, h3, h4, h5, h6⟩ := (inR_iff x y z).1 h
  obtain ⟨a, rfl⟩ : ∃ a : Nat, x = a := ⟨x.toNat, by omega⟩
  obtain ⟨b, rfl⟩ : ∃ b : Nat, y = b := ⟨y.toNat, by omega⟩
  obtain ⟨c, rfl⟩ : ∃ c : Nat, z = c := ⟨z.toNat, by omega⟩
  have hn := numbersS_dec [a, b, c] (fun n hn => by simp at hn; omega)
  unfold ptW cornerS
  simp only [Int.toNat_natCast]
  simp only [List.map_cons, List.map_nil] at hn
  rw [hn]
  simp only [valOf_dec]
  rw [if_pos h]
theorem ptW_gw (p : Pt) : ∀ w, w ∈ ptW p → gw w := by
  intro w hw
  simp only [ptW, List.mem_cons, List.not_mem_nil, or_false] at hw
  rcases hw with rfl | rfl | rfl <;> exact dec_gw _
/-! ### Form 2, read back -/
theorem two_pts : ∀ (pts : List Pt) (l1 r : List (Nat × List Bytes)) (acc : List Poly) (q : Poly) (last : Nat), (∀ p, p ∈ pts → inR p = true) → l1.map (·.2) = pts.map ptW → twoN (l1 ++ r) pts.length (acc ++ [q]) last = twoN r 0 (acc ++ [(q.1 ++ pts, q.2)]) last
  | [], [], r, acc, q, last, _, _ => by simp
  | p :: ps, (i, ws) :: l1, r, acc, q, last, h, hm => by
    simp only [List.map_cons, List.cons.injEq] at hm
    rw [List.cons_append, twoN_corner (by simp), hm.1, cornerS_ptW (h p (by simp))]
    simp only
    rw [addLast_snoc, List.length_cons, Nat.add_sub_cancel, two_pts ps l1 r acc _ last (fun x hx => h x (by simp [hx])) hm.2]
    simp
/-- The words of a polygon's lines. -/
def polyW (p : Poly) : List (List Bytes) := [wPoly, dec p.1.length] :: p.1.map ptW
theorem headS_poly {n : Nat} (h3 : 3 ≤ n) (h64 : n ≤ 64) : headS [wPoly, dec n] = .ok n := by
  have h1 : natOf (dec n) = n := (dec_facts n).2.1
  have h2 : ((dec n).head? != some 45) = true := by rw [bne_iff_ne]; exact dec_head n
  have h3' : decide (natOf (dec n) < 3) = false := by rw [h1]; simp; omega
  unfold headS
  simp only [isNum_dec, h2, h3', long_dec (show n < 1000000000000000 by omega), Bool.or_false, Bool.and_true, Bool.false_eq_true, if_false, decide_true, if_true]
  rw [h1, if_neg (by omega)]
theorem two_polys : ∀ (ps : List Poly) (l1 r : List (Nat × List Bytes)) (acc : List Poly) (last : Nat), (∀ p, p ∈ ps → validP p.1) → acc.length + ps.length ≤ 65536 → l1.map (·.2) = ps.flatMap polyW →
    ∃ ps', ps'.map (·.1) = ps.map (·.1) ∧ twoN (l1 ++ r) 0 acc last = twoN r 0 (acc ++ ps') last
  | [], l1, r, acc, last, _, _, hm => by
    have : l1 = [] := by simpa using hm
    subst this
    exact ⟨[], rfl, by simp⟩
  | p :: ps, l1, r, acc, last, hv, hl, hm => by
    cases l1 with
    | nil => simp [polyW] at hm
    | cons a l1 =>
      obtain ⟨i, ws⟩ := a
      rw [List.flatMap_cons, polyW, List.cons_append, List.map_cons] at hm
      simp only [List.cons.injEq] at hm
      obtain ⟨h1, h2⟩ := hm
      obtain ⟨v3, v64, vin⟩ := hv p (by simp)
      have hlen : p.1.length ≤ l1.length := by
        have := congrArg List.length h2
        rw [List.length_map, List.length_append, List.length_map] at this
        omega
      have ht : (l1.take p.1.length).map (·.2) = p.1.map ptW := by
        rw [List.map_take, h2, List.take_append_of_le_length (by simp), List.take_of_length_le (by simp)]
      have hd : (l1.drop p.1.length).map (·.2) = ps.flatMap polyW := by
        rw [List.map_drop, h2, List.drop_append_of_le_length (by simp), List.drop_eq_nil_of_le (by simp), List.nil_append]
      obtain ⟨ps', e1, e2⟩ := two_polys ps (l1.drop p.1.length) r (acc ++ [(p.1, i)]) last (fun q hq => hv q (by simp [hq])) (by simp at hl ⊢; omega) hd
      refine ⟨(p.1, i) :: ps', by rw [List.map_cons, e1]; rfl, ?_⟩
      have hsplit : l1 ++ r = l1.take p.1.length ++ (l1.drop p.1.length ++ r) := by rw [← List.append_assoc, List.take_append_drop]
      rw [List.cons_append, twoN_head, h1, headS_poly v3 v64]
      simp only
      rw [if_neg (by simp at hl; omega), hsplit, two_pts p.1 _ _ acc ([], i) last (List.all_eq_true.1 vin) ht, List.nil_append, e2, List.append_assoc]; rfl
end Sp
end Go.Proofs.YtojdgdeefhndiaaGreatDoor
namespace Go.Proofs.YtojdgdeefhndiaaGreatDoor
open Go Go.RowKit
namespace Sp
open Bg
/-- The corners that are new, in their order. -/
def newP : List Pt → List Pt → List Pt
  | _, [] => []
  | P, c :: r => if c ∈ P then newP P r else c :: newP (P ++ [c]) r
def vW (p : Pt) : List Bytes := wV :: ptW p
def fW (P pts : List Pt) : List Bytes := wF :: pts.map (fun c => dec (P.idxOf c + 1))
/-- The corners behind all. -/
def allP : List Pt → List Poly → List Pt
  | P, [] => P
  | P, p :: r => allP (P ++ newP P p.1) r
/-- The words of form 1's lines. -/
def W1 : List Pt → List Poly → List (List Bytes)
  | _, [] => []
  | P, p :: r => (newP P p.1).map vW ++ (fW (P ++ newP P p.1) p.1 :: W1 (P ++ newP P p.1) r)
theorem newP_mem : ∀ (pts P : List Pt) (c : Pt), c ∈ pts → c ∈ P ++ newP P pts
  | d :: r, P, c, h => by
    rw [newP]
    rw [List.mem_cons] at h
    split
    · rename_i hd
      rcases h with rfl | h
      · exact List.mem_append_left _ hd
      · exact newP_mem r P c h
    · rcases h with rfl | h
      · simp
      · have := newP_mem r (P ++ [d]) c h
        rw [List.append_assoc] at this
        exact this
theorem newP_sub : ∀ (pts P : List Pt) (c : Pt), c ∈ newP P pts → c ∈ pts
  | d :: r, P, c, h => by
    rw [newP] at h
    split at h
    · exact List.mem_cons_of_mem _ (newP_sub r P c h)
    · rw [List.mem_cons] at h
      rcases h with rfl | h
      · simp
      · exact List.mem_cons_of_mem _ (newP_sub r _ c h)
theorem newP_len : ∀ (pts P : List Pt), (newP P pts).length ≤ pts.length
  | [], _ => Nat.le_refl _
  | d :: r, P => by
    rw [newP]
    split
    · have := newP_len r P; simp; omega
    · have := newP_len r (P ++ [d]); simp; omega
theorem pick_idx : ∀ (pts P : List Pt), (∀ c, c ∈ pts → c ∈ P) → pick P (pts.map (fun c => ((P.idxOf c + 1 : Nat) : Int))) = .ok pts
  | [], _, _ => rfl
  | c :: r, P, h => by
    rw [List.map_cons, pick]
    have hlt := List.idxOf_lt_length_iff.2 (h c (by simp))
    have hk : (if (((P.idxOf c + 1 : Nat) : Int)) < 0 then (P.length : Int) + ((P.idxOf c + 1 : Nat) : Int) else ((P.idxOf c + 1 : Nat) : Int) - 1) = (P.idxOf c : Int) := by
      rw [if_neg (by omega)]; omega
    rw [hk, Int.toNat_natCast, List.getElem?_eq_getElem hlt, List.getElem_idxOf]
    simp only
    rw [if_neg (by omega), pick_idx r P (fun x hx => h x (by simp [hx]))]
theorem faceS_fW {P pts : List Pt} (h3 : 3 ≤ pts.length) (h64 : pts.length ≤ 64) (hm : ∀ c, c ∈ pts → c ∈ P) (hP : P.length < 100000000000000) : faceS P (pts.map (fun c => dec (P.idxOf c + 1))) = .ok pts := by
  have hb : ∀ c, c ∈ pts → P.idxOf c + 1 < 1000000000000000 := fun c hc => by have := List.idxOf_lt_length_iff.2 (hm c hc); omega
  have h1 : (pts.map (fun c => dec (P.idxOf c + 1))).all isNum = true := by rw [List.all_eq_true]; intro w hw; obtain ⟨c, _, rfl⟩ := List.mem_map.1 hw; exact isNum_dec _
  have h2 : (pts.map (fun c => dec (P.idxOf c + 1))).any long = false := by
    rw [List.any_eq_false]
    intro w hw
    obtain ⟨c, hc, rfl⟩ := List.mem_map.1 hw
    rw [long_dec (hb c hc)]; simp
  unfold faceS
  rw [h1, h2, List.length_map]
  rw [if_neg (by simp; omega), if_neg (by omega), if_neg (by simp), List.map_map]
  have e : valOf ∘ (fun c => dec (P.idxOf c + 1)) = fun c => ((P.idxOf c + 1 : Nat) : Int) := funext fun c => valOf_dec _
  rw [e]
  exact pick_idx pts P hm
theorem one_v : ∀ (ns : List Pt) (l1 r : List (Nat × List Bytes)) (cs : List Pt) (acc : List Poly), (∀ p, p ∈ ns → inR p = true) → l1.map (·.2) = ns.map vW → oneN (l1 ++ r) cs acc = oneN r (cs ++ ns) acc
  | [], [], r, cs, acc, _, _ => by simp
  | p :: ns, (i, ws) :: l1, r, cs, acc, h, hm => by
    simp only [List.map_cons, List.cons.injEq] at hm
    rw [List.cons_append, hm.1, vW, oneN_v, cornerS_ptW (h p (by simp))]
    simp only
    rw [one_v ns l1 r _ acc (fun x hx => h x (by simp [hx])) hm.2]
    simp
theorem one_polys : ∀ (ps : List Poly) (P : List Pt) (l1 r : List (Nat × List Bytes)) (acc : List Poly), (∀ p, p ∈ ps → validP p.1) → acc.length + ps.length ≤ 65536 → P.length + 64 * ps.length < 100000000000000 → l1.map (·.2) = W1 P ps →
    ∃ ps', ps'.map (·.1) = ps.map (·.1) ∧ oneN (l1 ++ r) P acc = oneN r (allP P ps) (acc ++ ps')
  | [], P, l1, r, acc, _, _, _, hm => by
    have : l1 = [] := by simpa [W1] using hm
    subst this
    exact ⟨[], rfl, by simp [allP]⟩
  | p :: ps, P, l1, r, acc, hv, hl, hP, hm => by
    obtain ⟨v3, v64, vin⟩ := hv p (by simp)
    rw [W1] at hm
    have hnl := newP_len p.1 P
    have hlen : (newP P p.1).length < l1.length := by
      have := congrArg List.length hm
      rw [List.length_map, List.length_append, List.length_map, List.length_cons] at this
      omega
    have ht : (l1.take (newP P p.1).length).map (·.2) = (newP P p.1).map vW := by
      rw [List.map_take, hm, List.take_append_of_le_length (by simp), List.take_of_length_le (by simp)]
    have hd : (l1.drop (newP P p.1).length).map (·.2) = fW (P ++ newP P p.1) p.1 :: W1 (P ++ newP P p.1) ps := by
      rw [List.map_drop, hm, List.drop_append_of_le_length (by simp), List.drop_eq_nil_of_le (by simp), List.nil_append]
    have hsplit : l1 ++ r = l1.take (newP P p.1).length ++ (l1.drop (newP P p.1).length ++ r) := by rw [← List.append_assoc, List.take_append_drop]
    rw [hsplit, one_v _ _ _ P acc (fun c hc => List.all_eq_true.1 vin c (newP_sub _ _ _ hc)) ht]
    cases hdd : l1.drop (newP P p.1).length with
    | nil => rw [hdd] at hd; simp at hd
    | cons a l2 =>
      obtain ⟨i, ws⟩ := a
      rw [hdd, List.map_cons] at hd
      simp only [List.cons.injEq] at hd
      obtain ⟨h1, h2⟩ := hd
      have hPl : (P ++ newP P p.1).length + 64 * ps.length < 100000000000000 := by
        rw [List.length_append]; rw [List.length_cons] at hP; omega
      obtain ⟨ps', e1, e2⟩ := one_polys ps (P ++ newP P p.1) l2 r (acc ++ [(p.1, i)]) (fun q hq => hv q (by simp [hq])) (by simp at hl ⊢; omega) hPl h2
      refine ⟨(p.1, i) :: ps', by rw [List.map_cons, e1]; rfl, ?_⟩
      rw [List.cons_append, h1, fW, oneN_f, faceS_fW v3 v64 (fun c hc => newP_mem _ _ _ hc) (by omega)]
      simp only
      rw [if_neg (by simp at hl; omega), e2, allP, List.append_assoc]; rfl
end Sp
end Go.Proofs.YtojdgdeefhndiaaGreatDoor
