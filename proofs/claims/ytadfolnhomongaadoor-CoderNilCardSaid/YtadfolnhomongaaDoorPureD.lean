/- The decoder undoes the encoder. No condition. -/
import Derived.Test.YtadfolnhomongaaDoorPureC
namespace Go.Proofs.YtadfolnhomongaaDoor
set_option maxRecDepth 100000
namespace Pc

/-- A list of digits as a number; its first n digits, with zeros behind them. -/
def num (l : List Nat) : Nat := l.foldl (fun a d => a * 256 + d) 0
def val (s : List Nat) : Nat → Nat
  | 0 => 0
  | n + 1 => val s n * 256 + s.getD n 0
theorem num_snoc (l : List Nat) (d : Nat) : num (l ++ [d]) = num l * 256 + d := by simp [num, List.foldl_append]
theorem val_append (a b : List Nat) (n : Nat) (h : n ≤ a.length) : val (a ++ b) n = val a n := by
  induction n with
  | zero => rfl
  | succ n ih =>
    show val (a ++ b) n * 256 + _ = val a n * 256 + _
    rw [ih (by omega)]
    congr 1
    simp [List.getD, List.getElem?_append_left (show n < a.length by omega)]
theorem num_val (l : List Nat) : num l = val l l.length := by
  rcases List.eq_nil_or_concat l with h | ⟨k, d, h⟩
  · subst h; rfl
  · rw [List.concat_eq_append] at h
    subst h
    rw [num_snoc, List.length_append]
    show num k * 256 + d = val (k ++ [d]) k.length * 256 + _
    rw [val_append _ _ _ (Nat.le_refl _), ← num_val k]
    simp [List.getD]
termination_by l.length
decreasing_by subst h; simp
theorem val_congr {a b : List Nat} (h : ∀ i, a.getD i 0 = b.getD i 0) (n : Nat) : val a n = val b n := by
  induction n with
  | zero => rfl
  | succ n ih => show val a n * 256 + _ = val b n * 256 + _; rw [ih, h]
theorem getD_zeros (a : List Nat) (k i : Nat) : (a ++ List.replicate k 0).getD i 0 = a.getD i 0 := by
  simp only [List.getD, List.getElem?_append, List.getElem?_replicate]
  by_cases h : i < a.length
  · simp [h]
  · have : a[i]? = none := List.getElem?_eq_none (by omega)
    simp only [h, if_false, this]
    split <;> rfl
theorem trimR_spec (l : List Nat) : ∃ k, l = List.replicate k 0 ++ trimR l := by
  induction l with
  | nil => exact ⟨0, rfl⟩
  | cons d r ih =>
    obtain ⟨k, hk⟩ := ih
    unfold trimR
    by_cases h : d = 0
    · simp only [h, if_true]
      exact ⟨k + 1, by rw [List.replicate_succ, List.cons_append, ← hk]⟩
    · simp only [h, if_false]
      exact ⟨0, rfl⟩
theorem trim_spec (l : List Nat) : ∃ k, l = trim l ++ List.replicate k 0 := by
  obtain ⟨k, hk⟩ := trimR_spec l.reverse
  refine ⟨k, ?_⟩
  have := congrArg List.reverse hk
  simpa [trim] using this
theorem trim_getD (l : List Nat) (i : Nat) : (trim l).getD i 0 = l.getD i 0 := by
  obtain ⟨k, hk⟩ := trim_spec l
  conv => rhs; rw [hk]
  rw [getD_zeros]
theorem trimR_head (l : List Nat) : ∀ d, (trimR l).head? = some d → d ≠ 0 := by
  induction l with
  | nil => intro d hd; simp [trimR] at hd
  | cons a r ih =>
    intro d hd
    unfold trimR at hd
    by_cases h : a = 0
    · simp only [h, if_true] at hd; exact ih d hd
    · simp only [h, if_false, List.head?_cons, Option.some.injEq] at hd
      omega
/-- What is trimmed does not end with a zero. -/
theorem trim_last (l : List Nat) : ∀ d, (trim l).getLast? = some d → d ≠ 0 := by
  intro d hd
  unfold trim at hd
  rw [List.getLast?_reverse] at hd
  exact trimR_head _ d hd

theorem num_lt {l : List Nat} (h : ∀ d, d ∈ l → d < 256) : num l < 256 ^ l.length := by
  rcases List.eq_nil_or_concat l with hl | ⟨k, d, hl⟩
  · subst hl; decide
  · rw [List.concat_eq_append] at hl
    subst hl
    have h1 := num_lt (l := k) (fun d hd => h d (by simp [hd]))
    have h2 := h d (by simp)
    rw [num_snoc, List.length_append, List.length_singleton, Nat.pow_succ]
    have : (num k + 1) * 256 ≤ 256 ^ k.length * 256 := Nat.mul_le_mul_right _ h1
    omega
termination_by l.length
decreasing_by subst hl; simp

/-- One more, where that fits. -/
theorem num_carry {l : List Nat} (h : ∀ d, d ∈ l → d < 256) (hb : num l + 1 < 256 ^ l.length) : num (carry l) = num l + 1 := by
  rcases List.eq_nil_or_concat l with hl | ⟨k, d, hl⟩
  · subst hl; exact absurd hb (by decide)
  · rw [List.concat_eq_append] at hl
    subst hl
    by_cases hd : d = 255
    · subst hd
      rw [carry_snoc_255, num_snoc, num_snoc]
      rw [num_snoc, List.length_append, List.length_singleton, Nat.pow_succ] at hb
      rw [num_carry (l := k) (fun d hd => h d (by simp [hd])) (by omega)]
      omega
    · rw [carry_snoc_ne k hd, num_snoc, num_snoc]
      omega
termination_by l.length
decreasing_by subst hl; simp

/-- The low end of the encoder's interval. -/
def E.T (e : E) : Nat := num e.done * 4294967296 + e.low
/-- The interval fits. -/
structure E.Ok (e : E) : Prop where
  wf : e.Wf
  fit : e.T + e.m.size ≤ 256 ^ e.done.length * 4294967296
theorem E.init_ok : E.init.Ok := ⟨E.init_wf, by decide⟩

theorem E.done1_num {e : E} (h : e.Ok) {i : Nat} (hi : i < 4096) (one : Bool) :
    num (e.done1 i one) * 4294967296 + e.low1 i one = e.T + (if one then e.m.split i else 0) := by
  have h1 := h.fit
  have h2 := M.split_bd h.wf.m hi
  have h3 := h.wf.low
  have h4 := h.wf.m.hi
  unfold E.T at h1 ⊢
  unfold E.done1 E.low1
  cases one
  · simp
  · by_cases hc : 4294967296 ≤ e.low + e.m.split i
    · simp only [hc, decide_true, Bool.and_self, if_true]
      rw [num_carry h.wf.done (by omega)]
      omega
    · simp only [hc, decide_false, Bool.and_false, Bool.false_eq_true, if_false, if_true]
      omega

theorem E.bit_T {e : E} (h : e.Ok) (c : Int) (one : Bool) :
    (e.bit c one).T = (e.T + (if one then e.m.split (ctx c) else 0)) * (if e.m.shifts (ctx c) one then 256 else 1) ∧
    (e.bit c one).m.size = e.m.raw (ctx c) one * (if e.m.shifts (ctx c) one then 256 else 1) ∧
    (e.bit c one).done.length = e.done.length + (if e.m.shifts (ctx c) one then 1 else 0) := by
  have h1 := E.done1_num h (ctx_lt c) one
  have h2 := E.done1_length e (ctx c) one
  have h3 := E.low1_lt h.wf (ctx c) one
  refine ⟨?_, ?_, ?_⟩
  · unfold E.bit
    dsimp only
    by_cases hs : e.m.shifts (ctx c) one = true
    · simp only [hs, if_true]
      show num (e.done1 (ctx c) one ++ [e.low1 (ctx c) one / 16777216]) * 4294967296 + e.low1 (ctx c) one % 16777216 * 256 = _
      rw [num_snoc, ← h1]
      clear h1 h2 hs
      generalize e.low1 (ctx c) one = x at *
      generalize num (e.done1 (ctx c) one) = y at *
      omega
    · simp only [hs, Bool.false_eq_true, if_false]
      rw [Nat.mul_one]; exact h1
  · rw [E.bit_m]
    show norm _ = _
    unfold norm M.shifts
    by_cases hs : e.m.raw (ctx c) one < 16777216
    · simp [hs]
    · simp [hs]
  · unfold E.bit
    dsimp only
    by_cases hs : e.m.shifts (ctx c) one = true
    · simp only [hs, if_true, List.length_append, h2, List.length_singleton]
    · simp [hs, h2]

theorem E.bit_ok {e : E} (h : e.Ok) (c : Int) (one : Bool) : (e.bit c one).Ok := by
  obtain ⟨h1, h2, h3⟩ := E.bit_T h c one
  have h4 := h.fit
  have h5 := M.split_bd h.wf.m (ctx_lt c)
  refine ⟨E.bit_wf h.wf c one, ?_⟩
  rw [h1, h2, h3, ← Nat.add_mul]
  have h6 : e.T + (if one then e.m.split (ctx c) else 0) + e.m.raw (ctx c) one ≤ 256 ^ e.done.length * 4294967296 := by
    unfold M.raw
    cases one
    · simp; omega
    · simp; omega
  by_cases hs : e.m.shifts (ctx c) one = true
  · simp only [hs, if_true, Nat.pow_succ]
    have := Nat.mul_le_mul_right 256 h6
    rw [show 256 ^ e.done.length * 256 * 4294967296 = 256 ^ e.done.length * 4294967296 * 256 by omega]
    exact this
  · simp only [hs, Bool.false_eq_true, if_false, Nat.mul_one, Nat.add_zero]
    exact h6

theorem encFrom_ok {e : E} (h : e.Ok) (l : List (Int × Bool)) : (encFrom e l).Ok := by
  induction l generalizing e with
  | nil => exact h
  | cons a l ih => exact ih (E.bit_ok h a.1 a.2)

/-- The code that s spells lies in the encoder's interval. -/
def E.In (e : E) (s : List Nat) : Prop := e.T ≤ val s (e.done.length + 4) ∧ val s (e.done.length + 4) < e.T + e.m.size
theorem E.in_back {e : E} (h : e.Ok) {s : List Nat} (hs : ∀ i, s.getD i 0 < 256) (c : Int) (one : Bool) (hin : (e.bit c one).In s) :
    e.T + (if one then e.m.split (ctx c) else 0) ≤ val s (e.done.length + 4) ∧ val s (e.done.length + 4) < e.T + (if one then e.m.split (ctx c) else 0) + e.m.raw (ctx c) one := by
  obtain ⟨h1, h2, h3⟩ := E.bit_T h c one
  unfold E.In at hin
  rw [h1, h2, h3] at hin
  generalize e.T + (if one then e.m.split (ctx c) else 0) = t at *
  generalize e.m.raw (ctx c) one = r at *
  by_cases hsh : e.m.shifts (ctx c) one = true
  · simp only [hsh, if_true] at hin
    rw [show e.done.length + 1 + 4 = (e.done.length + 4) + 1 by omega] at hin
    have hv : val s (e.done.length + 4 + 1) = val s (e.done.length + 4) * 256 + s.getD (e.done.length + 4) 0 := rfl
    have := hs (e.done.length + 4)
    omega
  · simp only [hsh, Bool.false_eq_true, if_false, Nat.mul_one, Nat.add_zero] at hin
    exact hin
theorem E.in_step {e : E} (h : e.Ok) {s : List Nat} (hs : ∀ i, s.getD i 0 < 256) (c : Int) (one : Bool) (hin : (e.bit c one).In s) : e.In s := by
  have h1 := E.in_back h hs c one hin
  have h2 := M.split_bd h.wf.m (ctx_lt c)
  unfold E.In
  unfold M.raw at h1
  cases one
  · simp at h1; omega
  · simp at h1; omega
theorem E.in_from {e : E} (h : e.Ok) {s : List Nat} (hs : ∀ i, s.getD i 0 < 256) (l : List (Int × Bool)) (hin : (encFrom e l).In s) : e.In s := by
  induction l generalizing e with
  | nil => exact hin
  | cons a l ih => exact E.in_step h hs a.1 a.2 (ih (E.bit_ok h a.1 a.2) hin)

/-- The decoder that has read s keeps step with the encoder. -/
structure Along (e : E) (s : List Nat) (d : D) : Prop where
  m : d.m = e.m
  off : d.off = val s (e.done.length + 4) - e.T
  left : d.left = s.drop (e.done.length + 4)

theorem D.next_m (d : D) : d.next.m = d.m := by unfold D.next; split <;> rfl
theorem D.next_drop (d : D) {s : List Nat} {n : Nat} (h : d.left = s.drop n) : d.next.left = s.drop (n + 1) ∧ d.next.off = (d.off * 256 + s.getD n 0) % 4294967296 := by
  have e2 : s.drop (n + 1) = (s.drop n).drop 1 := by rw [List.drop_drop]
  unfold D.next
  split
  · rename_i hl
    rw [hl] at h
    have hn : s.length ≤ n := by
      have := congrArg List.length h
      simp at this; omega
    refine ⟨by rw [e2, ← h]; rfl, ?_⟩
    simp [List.getD, List.getElem?_eq_none hn]
  · rename_i b r hl
    rw [hl] at h
    have hn : s[n]? = some b := by
      have : (s.drop n)[0]? = some b := by rw [← h]; rfl
      simpa using this
    refine ⟨by rw [e2, ← h]; rfl, ?_⟩
    simp [List.getD, hn]

theorem Along.one {e : E} (h : e.Ok) {s : List Nat} (hs : ∀ i, s.getD i 0 < 256) {d : D} (ha : Along e s d) (c : Int) (one : Bool) (hin : (e.bit c one).In s) : d.one c = one := by
  have h1 := E.in_back h hs c one hin
  unfold D.one
  rw [ha.m, ha.off]
  unfold M.raw at h1
  cases one
  · simp at h1 ⊢; omega
  · simp at h1 ⊢; omega

theorem Along.step {e : E} (h : e.Ok) {s : List Nat} (hs : ∀ i, s.getD i 0 < 256) {d : D} (ha : Along e s d) (c : Int) (one : Bool) (hin : (e.bit c one).In s) : Along (e.bit c one) s (d.bit c) := by
  have ho := ha.one h hs c one hin
  have h1 := E.in_back h hs c one hin
  obtain ⟨h2, h3, h4⟩ := E.bit_T h c one
  have h5 := M.raw_bd h.wf.m (ctx_lt c) one
  have h6 : d.off1 c = val s (e.done.length + 4) - (e.T + (if one then e.m.split (ctx c) else 0)) := by
    unfold D.off1
    rw [ho, ha.off, ha.m]
    cases one
    · simp
    · simp; omega
  have hm : d.m.step (ctx c) (d.one c) = (e.bit c one).m := by rw [ho, ha.m, E.bit_m]
  unfold D.bit
  rw [hm]
  simp only [ho, ha.m]
  by_cases hsh : e.m.shifts (ctx c) one = true
  · simp only [hsh, if_true] at h2 h3 h4 ⊢
    have hr : e.m.raw (ctx c) one < 16777216 := by simpa [M.shifts] using hsh
    obtain ⟨n1, n2⟩ := D.next_drop (⟨(e.bit c one).m, d.left, d.off1 c⟩ : D) ha.left
    refine ⟨D.next_m _, ?_, ?_⟩
    · rw [n2, h2, h4]
      rw [show e.done.length + 1 + 4 = (e.done.length + 4) + 1 by omega]
      have hv : val s (e.done.length + 4 + 1) = val s (e.done.length + 4) * 256 + s.getD (e.done.length + 4) 0 := rfl
      have := hs (e.done.length + 4)
      rw [hv]
      dsimp only
      rw [h6]
      generalize e.T + (if one then e.m.split (ctx c) else 0) = t at *
      generalize e.m.raw (ctx c) one = r at *
      omega
    · rw [n1, h4]
  · simp only [hsh, Bool.false_eq_true, if_false] at h2 h4 ⊢
    refine ⟨rfl, ?_, ?_⟩
    · show d.off1 c = _
      rw [h6, h2, h4]; simp
    · show d.left = _
      rw [ha.left, h4]

theorem decode_along {e : E} (h : e.Ok) {s : List Nat} (hs : ∀ i, s.getD i 0 < 256) {d : D} (ha : Along e s d) (l : List (Int × Bool)) (hin : (encFrom e l).In s) :
    decodeFrom d (l.map (·.1)) = l.map (·.2) := by
  induction l generalizing e d with
  | nil => rfl
  | cons a l ih =>
    have h1 : (e.bit a.1 a.2).In s := E.in_from (E.bit_ok h a.1 a.2) hs l hin
    show d.one a.1 :: decodeFrom (d.bit a.1) (l.map (·.1)) = a.2 :: l.map (·.2)
    rw [ha.one h hs a.1 a.2 h1, ih (E.bit_ok h a.1 a.2) (ha.step h hs a.1 a.2 h1) hin]

theorem ofCode_along (s : List Nat) (hs : ∀ i, s.getD i 0 < 256) : Along E.init s (D.ofCode s) := by
  obtain ⟨a1, b1⟩ := D.next_drop (s := s) (n := 0) ⟨M.init, s, 0⟩ rfl
  obtain ⟨a2, b2⟩ := D.next_drop _ a1
  obtain ⟨a3, b3⟩ := D.next_drop _ a2
  obtain ⟨a4, b4⟩ := D.next_drop _ a3
  refine ⟨?_, ?_, a4⟩
  · unfold D.ofCode; rw [D.next_m, D.next_m, D.next_m, D.next_m]; rfl
  · show (D.ofCode s).off = val s 4 - 0
    unfold D.ofCode
    rw [b4, b3, b2, b1]
    show _ = (((0 * 256 + s.getD 0 0) * 256 + s.getD (0 + 1) 0) * 256 + s.getD (0 + 1 + 1) 0) * 256 + s.getD (0 + 1 + 1 + 1) 0 - 0
    have := hs 0
    have := hs (0 + 1)
    have := hs (0 + 1 + 1)
    have := hs (0 + 1 + 1 + 1)
    dsimp only
    omega

/-- The digits of a finished code, ahead of the trim. -/
def E.fin (e : E) : List Nat := if e.last = 256 then carry e.done ++ [0] else e.done ++ [e.last]
theorem E.finish_fin (e : E) : e.finish = trim e.fin := rfl
theorem E.fin_lt {e : E} (h : e.Wf) : ∀ d, d ∈ e.fin → d < 256 := by
  intro d hd
  have h1 := h.low
  unfold E.fin at hd
  split at hd
  · simp only [List.mem_append, List.mem_singleton] at hd
    rcases hd with hd | rfl
    · exact carry_lt h.done d hd
    · omega
  · simp only [List.mem_append, List.mem_singleton] at hd
    rcases hd with hd | rfl
    · exact h.done d hd
    · unfold E.last at *; omega
theorem ceil_bd (x : Nat) : x ≤ (x + 16777215) / 16777216 * 16777216 ∧ (x + 16777215) / 16777216 * 16777216 ≤ x + 16777215 := by
  have h1 := Nat.div_mul_le_self (x + 16777215) 16777216
  have h2 := Nat.mod_lt (x + 16777215) (show 16777216 > 0 by decide)
  have h3 := Nat.div_add_mod (x + 16777215) 16777216
  rw [Nat.mul_comm] at h3
  generalize (x + 16777215) / 16777216 * 16777216 = q at *
  generalize (x + 16777215) % 16777216 = r at *
  exact ⟨by omega, h1⟩
theorem up_le {y x q : Nat} (hq : x ≤ q * 16777216) : y * 4294967296 + x ≤ (y*256 + q) * 16777216 := by
  rw [Nat.add_mul, Nat.mul_assoc]; exact Nat.add_le_add_left hq _
theorem up_lt {y x q z : Nat} (hq : q * 16777216 ≤ x + 16777215) (h2 : 16777216 ≤ z) : (y*256 + q) * 16777216 < y * 4294967296 + x + z := by
  omega
theorem E.fin_num {e : E} (h : e.Ok) : e.T ≤ num e.fin * 16777216 ∧ num e.fin * 16777216 < e.T + e.m.size ∧ e.fin.length = e.done.length + 1 := by
  have h1 := h.wf.low
  have h2 := h.wf.m.lo
  have h3 := h.fit
  unfold E.T at *
  unfold E.fin
  obtain ⟨hq1, hq2⟩ := ceil_bd e.low
  by_cases hl : e.last = 256
  · simp only [hl, if_true, num_snoc, List.length_append, carry_length, List.length_singleton]
    unfold E.last at hl
    rw [hl] at hq1 hq2
    generalize hw : 256 ^ e.done.length = w at *
    rw [num_carry h.wf.done (by rw [hw]; omega), show (num e.done + 1) * 256 + 0 = num e.done * 256 + (256 + 0) by omega]
    exact ⟨up_le (q := 256 + 0) hq1, up_lt (q := 256 + 0) hq2 h2, trivial⟩
  · simp only [hl, if_false, num_snoc, List.length_append, List.length_singleton]
    unfold E.last
    exact ⟨up_le hq1, up_lt hq2 h2, trivial⟩
theorem getD_lt {l : List Nat} (h : ∀ d, d ∈ l → d < 256) (i : Nat) : l.getD i 0 < 256 := by
  simp only [List.getD]
  cases he : l[i]? with
  | none => simp
  | some d => exact h d (List.mem_of_getElem? he)

theorem encode_lt (l : List (Int × Bool)) : ∀ d, d ∈ encode l → d < 256 := by
  intro d hd
  unfold encode at hd
  rw [E.finish_fin] at hd
  refine E.fin_lt (encFrom_ok E.init_ok l).wf d ?_
  obtain ⟨k, hk⟩ := trim_spec (encFrom E.init l).fin
  rw [hk]
  exact List.mem_append_left _ hd

/-- A code, zeros behind it: the bits come back. -/
theorem decode_encode (l : List (Int × Bool)) (k : Nat) : decode (encode l ++ List.replicate k 0) (l.map (·.1)) = l.map (·.2) := by
  have hok := encFrom_ok E.init_ok l
  have hg : ∀ i, (encode l ++ List.replicate k 0).getD i 0 = (encFrom E.init l).fin.getD i 0 := fun i => by
    rw [getD_zeros]; unfold encode; rw [E.finish_fin, trim_getD]
  have hs : ∀ i, (encode l ++ List.replicate k 0).getD i 0 < 256 := fun i => by rw [hg]; exact getD_lt (E.fin_lt hok.wf) i
  refine decode_along E.init_ok hs (ofCode_along _ hs) l ?_
  obtain ⟨f1, f2, f3⟩ := E.fin_num hok
  have hv : ∀ n, val (encode l ++ List.replicate k 0) n = val (encFrom E.init l).fin n := val_congr hg
  unfold E.In
  rw [hv]
  have hn := num_val (encFrom E.init l).fin
  rw [f3] at hn
  have z : ∀ i, (encFrom E.init l).done.length + 1 ≤ i → (encFrom E.init l).fin.getD i 0 = 0 := fun i hi => by
    simp [List.getD, List.getElem?_eq_none (show (encFrom E.init l).fin.length ≤ i by omega)]
  have e4 : val (encFrom E.init l).fin ((encFrom E.init l).done.length + 4) = ((num (encFrom E.init l).fin * 256 + 0) * 256 + 0) * 256 + 0 := by
    rw [hn, ← z ((encFrom E.init l).done.length + 3) (by omega)]
    conv => rhs; rw [show (((val (encFrom E.init l).fin ((encFrom E.init l).done.length + 1)) * 256 + (encFrom E.init l).fin.getD ((encFrom E.init l).done.length + 3) 0)) = val (encFrom E.init l).fin ((encFrom E.init l).done.length + 1) * 256 + (encFrom E.init l).fin.getD ((encFrom E.init l).done.length + 1) 0 by rw [z _ (by omega), z _ (by omega)]]
    conv => rhs; rw [show ∀ x : Nat, x * 256 + (encFrom E.init l).fin.getD ((encFrom E.init l).done.length + 3) 0 = x * 256 + (encFrom E.init l).fin.getD ((encFrom E.init l).done.length + 3) 0 from fun _ => rfl]
    show (((val (encFrom E.init l).fin ((encFrom E.init l).done.length + 1)) * 256 + (encFrom E.init l).fin.getD ((encFrom E.init l).done.length + 1) 0) * 256 + (encFrom E.init l).fin.getD ((encFrom E.init l).done.length + 2) 0) * 256 + (encFrom E.init l).fin.getD ((encFrom E.init l).done.length + 3) 0 = _
    rw [z _ (Nat.le_refl _), z ((encFrom E.init l).done.length + 2) (by omega), z ((encFrom E.init l).done.length + 3) (by omega)]
  rw [e4]
  constructor <;> omega

theorem encode_last (l : List (Int × Bool)) : ∀ d, (encode l).getLast? = some d → d ≠ 0 := trim_last _
/-- The coder sees contexts by their numbers alone. -/
def nrm (x : Int × Bool) : Nat × Bool := (ctx x.1, x.2)
theorem E.bit_ctx (e : E) {c c' : Int} (h : ctx c = ctx c') (one : Bool) : e.bit c one = e.bit c' one := by unfold E.bit; rw [h]
theorem encFrom_norm : ∀ (e : E) (l l' : List (Int × Bool)), l.map nrm = l'.map nrm → encFrom e l = encFrom e l'
  | _, [], [], _ => rfl
  | _, [], _ :: _, h => by simp at h
  | _, _ :: _, [], h => by simp at h
  | e, a :: l, a' :: l', h => by
    simp only [List.map_cons, List.cons.injEq, nrm, Prod.mk.injEq] at h
    obtain ⟨⟨h1, h2⟩, h3⟩ := h
    show encFrom (e.bit a.1 a.2) l = encFrom (e.bit a'.1 a'.2) l'
    rw [E.bit_ctx e h1, h2]
    exact encFrom_norm _ l l' h3
theorem encode_norm {l l' : List (Int × Bool)} (h : l.map nrm = l'.map nrm) : encode l = encode l' := by unfold encode; rw [encFrom_norm _ l l' h]
theorem snd_norm {l l' : List (Int × Bool)} (h : l.map nrm = l'.map nrm) : l.map (·.2) = l'.map (·.2) := by
  have := congrArg (List.map (·.2)) h
  simpa [nrm, Function.comp_def] using this
theorem trim_length (l : List Nat) : (trim l).length ≤ l.length := by
  obtain ⟨k, hk⟩ := trim_spec l
  have := congrArg List.length hk
  rw [List.length_append] at this
  omega
theorem encode_length (l : List (Int × Bool)) : (encode l).length ≤ l.length + 1 := by
  have h1 := trim_length (encFrom E.init l).fin
  have h2 := (E.fin_num (encFrom_ok E.init_ok l)).2.2
  have h3 := encFrom_done_length E.init l
  have h4 : E.init.done.length = 0 := rfl
  unfold encode
  rw [E.finish_fin]
  omega
end Pc
end Go.Proofs.YtadfolnhomongaaDoor
