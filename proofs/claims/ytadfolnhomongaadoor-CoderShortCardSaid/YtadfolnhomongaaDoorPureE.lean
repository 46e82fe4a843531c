/- A run of equal bits has a short code. No condition. -/
import Derived.Test.YtadfolnhomongaaDoorPureD
set_option maxRecDepth 100000
namespace Go.Proofs.YtadfolnhomongaaDoor
namespace Pc

/-- The weight, the range and the count of shifts, one bit further. -/
def rawS (p size : Nat) (one : Bool) : Nat := if one then size - size / 2048 * p else size / 2048 * p
def newP (p : Nat) (one : Bool) : Nat := if one then p - p / 32 else p + (2048 - p) / 32
/-- The kernel is made to compute a number ahead of the next step. -/
def force {α : Type} (n : Nat) (k : Nat → α) : α := Nat.rec (k 0) (fun m _ => k (m + 1)) n
theorem force_eq {α : Type} (n : Nat) (k : Nat → α) : force n k = k n := by cases n <;> rfl
/-- Every run of at most f more bits stays under the bound. -/
def chk (one : Bool) : Nat → Nat → Nat → Nat → Nat → Bool
  | 0, _, _, cnt, n => Nat.ble (cnt + 1) (12 + n / 100)
  | f + 1, p, size, cnt, n =>
    Nat.ble (cnt + 1) (12 + n / 100) && force (rawS p size one) fun r => force (newP p one) fun p' => force (n + 1) fun n' =>
      bif Nat.blt r 16777216 then force (r * 256) fun s => force (cnt + 1) fun c => chk one f p' s c n' else chk one f p' r cnt n'
theorem chk_one : chk true 3000 1024 4294967295 0 0 = true := by decide +kernel
theorem chk_zero : chk false 3000 1024 4294967295 0 0 = true := by decide +kernel

theorem chk_run (c : Int) (one : Bool) : ∀ (f n : Nat) (e : E), e.Ok → chk one f (e.m.p (ctx c)) e.m.size e.done.length n = true → ∀ k, k ≤ f → (encFrom e (List.replicate k (c, one))).done.length + 1 ≤ 12 + (n + k) / 100
  | 0, n, e, _, h, k, hk => by
    obtain rfl : k = 0 := by omega
    simp only [chk, Nat.ble_eq] at h
    exact h
  | f + 1, n, e, he, h, k, hk => by
    simp only [chk, force_eq, Bool.and_eq_true, Nat.ble_eq] at h
    obtain ⟨h1, h2⟩ := h
    match k, hk with
    | 0, _ => exact h1
    | k + 1, hk =>
      rw [List.replicate_succ]
      show (encFrom (e.bit c one) (List.replicate k (c, one))).done.length + 1 ≤ 12 + (n + (k + 1)) / 100
      rw [show n + (k + 1) = (n + 1) + k by omega]
      refine chk_run c one f (n + 1) (e.bit c one) (E.bit_ok he c one) ?_ k (by omega)
      obtain ⟨_, b2, b3⟩ := E.bit_T he c one
      have b1 : (e.bit c one).m.p (ctx c) = newP (e.m.p (ctx c)) one := by
        rw [E.bit_m]; show upd _ _ _ _ = _; unfold upd M.newp newP; rw [if_pos rfl]
      have b4 : e.m.raw (ctx c) one = rawS (e.m.p (ctx c)) e.m.size one := rfl
      rw [b1, b2, b3, b4]
      have b5 : e.m.shifts (ctx c) one = Nat.blt (rawS (e.m.p (ctx c)) e.m.size one) 16777216 := by
        unfold M.shifts; rw [b4, Bool.eq_iff_iff]; simp [Nat.blt_eq]
      rw [b5]
      cases hb : Nat.blt (rawS (e.m.p (ctx c)) e.m.size one) 16777216
      · rw [hb] at h2; simpa using h2
      · rw [hb] at h2; simpa using h2
theorem encode_short (c : Int) (one : Bool) (n : Nat) (hn : n < 3000) : (encode (List.replicate n (c, one))).length ≤ 12 + n / 100 := by
  have h := chk_run c one 3000 0 E.init E.init_ok (by cases one; exact chk_zero; exact chk_one) n (by omega)
  have h1 := trim_length (encFrom E.init (List.replicate n (c, one))).fin
  have h2 := (E.fin_num (encFrom_ok E.init_ok (List.replicate n (c, one)))).2.2
  unfold encode
  rw [E.finish_fin]
  rw [Nat.zero_add] at h
  omega
end Pc
end Go.Proofs.YtadfolnhomongaaDoor
