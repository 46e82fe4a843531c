/- Walks of the reference of the polygon files: fixed and fail in one piece each, and the steps of three. -/
import Derived.Test.YtojdgdeefhndiaaGreatDoorM19
import Derived.Test.YtojdgdeefhndiaaGreatDoorM20
namespace Go.Proofs.YtojdgdeefhndiaaGreatDoor
open Go Go.RowKit Sp
set_option maxRecDepth 100000

/-- What fixed answers. -/
def fixI (s : Bytes) (p n : Nat) : Int := if s.length < p + n then -1 else (leNat ((s.drop p).take n) : Nat)
theorem qfixed_any (s : Bytes) (p n : Nat) (hs : s.length ≤ 4294967296) (hp : p ≤ 4294967300) (hn : n ≤ 4) (w : World) : Calls Tryz.prog 63 #[.string (bs s), .int .i64 p, .int .i64 n] w fun en w' => en = .returned (.int .i64 (fixI s p n)) ∧ w = w' := by
  unfold fixI
  by_cases h : s.length < p + n
  · rw [if_pos h]; exact qfixed_short s p n hs hp hn h w
  · rw [if_neg h]; exact qfixed_ok s p n hs hn (by omega) w
theorem qfail_any (R : Nat) (vl : Value) (pl e0 p e : Nat) (w : World) (h : w.heap[R]? = some (resO vl pl e0)) :
    Calls Tryz.prog 64 #[.pointer (some ⟨R, 0, none⟩), .int .i64 p, .int .i64 e] w fun en w' => en = .returned (.tuple #[]) ∧ Upd (fun k => k = R) w w' ∧ w'.heap[R]? = some (resO vl (if e0 = 0 then p else pl) (if e0 = 0 then e else e0)) := by
  by_cases he : e0 = 0
  · subst he
    simp only [if_true]
    exact qfail_set R vl pl p e w h
  · simp only [if_neg he]
    refine (qfail_keep R vl pl e0 p e he w h).mono ?_
    rintro en w' ⟨rfl, rfl⟩
    exact ⟨rfl, Upd.refl _ _, h⟩
theorem fixI_short {s : Bytes} {p n most e : Nat} (h : s.length < p + n) : fixI s p n = -1 ∧ numS s p n most e = .bad s.length 12 := by
  unfold fixI numS; rw [if_pos h, if_pos h]; exact ⟨rfl, rfl⟩
theorem fixI_much {s : Bytes} {p n most e : Nat} (h : ¬ s.length < p + n) (hm : most < leNat ((s.drop p).take n)) : fixI s p n = (leNat ((s.drop p).take n) : Nat) ∧ numS s p n most e = .bad p e := by
  unfold fixI numS; rw [if_neg h, if_neg h, if_pos hm]; exact ⟨rfl, rfl⟩
theorem fixI_ok {s : Bytes} {p n most e : Nat} (h : ¬ s.length < p + n) (hm : ¬ most < leNat ((s.drop p).take n)) : fixI s p n = (leNat ((s.drop p).take n) : Nat) ∧ numS s p n most e = .ok (leNat ((s.drop p).take n)) := by
  unfold fixI numS; rw [if_neg h, if_neg h, if_neg hm]; exact ⟨rfl, rfl⟩
/-- The cells of the array of three numbers, of any sign. -/
def c3i (xs : List Int) : Array Value := #[.int .i64 (xs.getD 0 0), .int .i64 (xs.getD 1 0), .int .i64 (xs.getD 2 0)]
theorem c3i_snoc {xs : List Int} (h : xs.length < 3) (x : Int) : (c3i xs).setIfInBounds xs.length (.int .i64 x) = c3i (xs ++ [x]) := by
  match xs, h with
  | [], _ => rfl
  | [_], _ => rfl
  | [_, _], _ => rfl
  | _ :: _ :: _ :: _, h => exact absurd h (by simp)
theorem c3i_get {xs : List Int} (h : xs.length < 3) : ∃ u, (c3i xs)[xs.length]? = some u := by
  match xs, h with
  | [], _ => exact ⟨_, rfl⟩
  | [_], _ => exact ⟨_, rfl⟩
  | [_, _], _ => exact ⟨_, rfl⟩
  | _ :: _ :: _ :: _, h => exact absurd h (by simp)
theorem c3i_at {xs : List Int} (h : xs.length < 3) (x : Int) : (c3i (xs ++ [x]))[xs.length]? = some (.int .i64 x) := by
  match xs, h with
  | [], _ => rfl
  | [_], _ => rfl
  | [_, _], _ => rfl
  | _ :: _ :: _ :: _, h => exact absurd h (by simp)
/-- What holds between the coordinates of one corner: either all is well and xs are the numbers so far, or the answer is settled. -/
def InnI (s : Bytes) (at2 : Nat) (xs : List Int) (pl e : Nat) : Prop :=
  (e = 0 ∧ at2 + 3 * xs.length ≤ s.length ∧ ∃ ys : List Nat, xs = ys.map (fun y : Nat => (y : Int)) ∧ numsB s at2 3 [] = numsB s (at2 + 3 * ys.length) (3 - ys.length) ys) ∨ (e ≠ 0 ∧ threeS s = .bad pl e)
/-- What holds between the corners of one polygon. -/
def MidI (s : Bytes) (at_ n at2 j : Nat) (pts : List Pt) (pl e : Nat) : Prop :=
  (e = 0 ∧ at2 ≤ s.length ∧ j ≤ n ∧ cornersB s (at_ + 1) n [] = cornersB s at2 (n - j) pts) ∨ (e ≠ 0 ∧ threeS s = .bad pl e)
/-- What holds between the polygons. -/
def OutI (s : Bytes) (many at_ k : Nat) (ps : List Poly) (pl e : Nat) : Prop :=
  (e = 0 ∧ at_ ≤ s.length ∧ k ≤ many ∧ threeS s = polysB s at_ (many - k) ps) ∨ (e ≠ 0 ∧ threeS s = .bad pl e)
theorem InnI.step {s : Bytes} {at2 : Nat} {xs : List Int} {pl e : Nat} (h : InnI s at2 xs pl e) (hx : xs.length < 3) (hb : ∀ p e', numsB s at2 3 [] = .bad p e' → e' ≠ 0 → threeS s = .bad p e') :
    InnI s at2 (xs ++ [fixI s (at2 + 3 * xs.length) 3]) (if e = 0 then (match numS s (at2 + 3 * xs.length) 3 2097151 3 with | .ok _ => pl | .bad p _ => p) else pl) (if e = 0 then (match numS s (at2 + 3 * xs.length) 3 2097151 3 with | .ok _ => 0 | .bad _ e' => e') else e) := by
  rcases h with ⟨rfl, hl, ys, rfl, hn⟩ | ⟨he, h⟩
  · simp only [if_true, List.length_map] at *
    have hst : 3 - ys.length = (3 - (ys.length + 1)) + 1 := by omega
    by_cases c1 : s.length < at2 + 3 * ys.length + 3
    · obtain ⟨f1, f2⟩ := fixI_short (most := 2097151) (e := 3) c1
      rw [f2]
      exact .inr ⟨by simp, hb _ _ (by rw [hn, hst]; exact numsB_bad f2) (by simp)⟩
    · by_cases c2 : 2097151 < leNat ((s.drop (at2 + 3 * ys.length)).take 3)
      · obtain ⟨f1, f2⟩ := fixI_much (e := 3) c1 c2
        rw [f2]
        exact .inr ⟨by simp, hb _ _ (by rw [hn, hst]; exact numsB_bad f2) (by simp)⟩
      · obtain ⟨f1, f2⟩ := fixI_ok (e := 3) c1 c2
        rw [f1, f2]
        refine .inl ⟨rfl, by simp; omega, ys ++ [leNat ((s.drop (at2 + 3 * ys.length)).take 3)], by simp, ?_⟩
        rw [hn, hst, numsB_ok f2, List.length_append]; rfl
  · rw [if_neg he, if_neg he]
    exact .inr ⟨he, h⟩
end Go.Proofs.YtojdgdeefhndiaaGreatDoor
