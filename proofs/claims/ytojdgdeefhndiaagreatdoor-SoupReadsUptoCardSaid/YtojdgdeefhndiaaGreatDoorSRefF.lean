/- Walks of the reference of the polygon files: fixed, fail, add. -/
import Derived.Test.YtojdgdeefhndiaaGreatDoorSRefE
import Derived.Test.YtojdgdeefhndiaaGreatDoorSBytes
namespace Go.Proofs.YtojdgdeefhndiaaGreatDoor
open Go Go.RowKit Sp
set_option maxRecDepth 100000

theorem leNat_step2 {s : Bytes} {p k : Nat} (h : p < s.length) : leNat ((s.drop p).take (k + 1)) = (s[p]).toNat + 256 * leNat ((s.drop (p + 1)).take k) := by
  rw [List.drop_eq_getElem_cons h, List.take_succ_cons, leNat]
set_option maxHeartbeats 1000000 in
theorem qfixed_short (s : Bytes) (p n : Nat) (hs : s.length ≤ 4294967296) (hp : p ≤ 4294967300) (hn : n ≤ 4) (h : s.length < p + n) (w : World) : Calls Tryz.prog 63 #[.string (bs s), .int .i64 p, .int .i64 n] w fun en w' => en = .returned (.int .i64 (-1)) ∧ w = w' := by
  have hb : (bs s).size = s.length := bs_size s
  have h' : ((s.length : Nat) : Int) < (p : Int) + n := by omega
  clear h
  go_enter Tryz.func63, Tryz.ntmps63
  go_wp2_with fail
  go_ret
  exact ⟨rfl, rfl⟩
set_option maxHeartbeats 1000000 in
theorem qfixed_ok (s : Bytes) (p n : Nat) (hs : s.length ≤ 4294967296) (hn : n ≤ 4) (h : p + n ≤ s.length) (w : World) : Calls Tryz.prog 63 #[.string (bs s), .int .i64 p, .int .i64 n] w fun en w' => en = .returned (.int .i64 (leNat ((s.drop p).take n) : Nat)) ∧ w = w' := by
  have hb : (bs s).size = s.length := bs_size s
  have h' : ¬ ((s.length : Nat) : Int) < (p : Int) + n := by omega
  go_enter Tryz.func63, Tryz.ntmps63
  go_wp2_with fail
  go_loop [7, 8] (fun v i => ∃ j : Nat, i = .int .i64 ((j : Int) - 1) ∧ j ≤ n ∧ v = .int .i64 (leNat ((s.drop (p + j)).take (n - j)) : Nat)) (fun _ i => (intOf i + 1).toNat)
  case atStart => exact ⟨n, rfl, Nat.le_refl _, by rw [Nat.sub_self]; rfl⟩
  case round =>
    obtain ⟨j, rfl, hj, rfl⟩ := hrel
    cases j with
    | zero =>
      have hz : ¬ (0 : Int) ≤ ((0 : Nat) : Int) - 1 := by omega
      rw [Nat.sub_zero, Nat.add_zero]
      generalize hvv : leNat ((s.drop p).take n) = v at *
      have HV := Lib.hid hvv
      clear hvv
      go_wp2_with fail
      go_ret
      exact ⟨by rw [HV.out]; rfl, rfl⟩
    | succ j =>
      have hj1 : (((j + 1 : Nat) : Int) - 1) = (j : Int) := by omega
      rw [hj1]
      have hget : (bs s)[p + j]'(by omega) = s[p + j]'(by omega) := bs_get s (p + j) (by omega)
      have hst : Hid (leNat ((s.drop (p + j)).take (n - j)) = (s[p + j]'(by omega)).toNat + 256 * leNat ((s.drop (p + (j + 1))).take (n - (j + 1)))) := by
        show _ = _
        rw [show n - j = (n - (j + 1)) + 1 by omega, leNat_step2 (by omega), Nat.add_assoc]
      have hlt : leNat ((s.drop (p + (j + 1))).take (n - (j + 1))) ≤ 16777216 := by
        have a := leNat_take_lt (s.drop (p + (j + 1))) (n - (j + 1))
        have b : 256 ^ (n - (j + 1)) ≤ 256 ^ 3 := Nat.pow_le_pow_right (by decide) (by omega)
        have e : (256 : Nat) ^ 3 = 16777216 := by decide
        omega
      have hlt' : ((leNat ((s.drop (p + (j + 1))).take (n - (j + 1))) : Nat) : Int) ≤ 16777216 := by omega
      generalize (s[p + j]'(by omega)) = c at *
      have hc : ((c.toNat : Nat) : Int) ≤ 255 := by have := c.toNat_lt; omega
      clear hlt hj1
      generalize leNat ((s.drop (p + (j + 1))).take (n - (j + 1))) = v at *
      go_wp2_with fail
      refine ⟨⟨j, rfl, by omega, congrArg (Value.int .i64) ?_⟩, by simp [intOf]; try omega⟩
      rw [hst.out]; omega
/-- The block of a result under way. -/
def resO (vl : Value) (pl e : Nat) : Obj := .cells #[vl, .int .i64 pl, .int .i64 e] 70 (0, 0)
set_option maxHeartbeats 1000000 in
theorem qfail_set (R : Nat) (vl : Value) (pl p e : Nat) (w : World) (h : w.heap[R]? = some (resO vl pl 0)) :
    Calls Tryz.prog 64 #[.pointer (some ⟨R, 0, none⟩), .int .i64 p, .int .i64 e] w fun en w' => en = .returned (.tuple #[]) ∧ Upd (fun k => k = R) w w' ∧ w'.heap[R]? = some (resO vl p e) := by
  have c1 : w.cell? ⟨R, 1, none⟩ = some (.int .i64 pl) := by simp [World.cell?, h, resO]
  have c2 : w.cell? ⟨R, 2, none⟩ = some (.int .i64 (0 : Nat)) := by simp [World.cell?, h, resO]
  have z1 : w.frozen? ⟨R, 1, none⟩ = false := by simp [World.frozen?, h, resO]
  have h1 : (w.setCell ⟨R, 1, none⟩ (.int .i64 p)).heap[R]? = some (resO vl p 0) := (heap_setCell_eq (i := 1) (.int .i64 p) h).trans rfl
  have c2' : (w.setCell ⟨R, 1, none⟩ (.int .i64 p)).cell? ⟨R, 2, none⟩ = some (.int .i64 (0 : Nat)) := by simp [World.cell?, h1, resO]
  have z2' : (w.setCell ⟨R, 1, none⟩ (.int .i64 p)).frozen? ⟨R, 2, none⟩ = false := by simp [World.frozen?, h1, resO]
  have H2 : Hid (((w.setCell ⟨R, 1, none⟩ (.int .i64 p)).setCell ⟨R, 2, none⟩ (.int .i64 e)).heap[R]? = some (resO vl p e)) := (heap_setCell_eq (i := 2) (.int .i64 e) h1).trans rfl
  clear h h1
  go_enter Tryz.func64, Tryz.ntmps64
  go_wp2_with fail
  go_end0
  exact ⟨rfl, ((Upd.refl (fun k => k = R) w).setCell (p := ⟨R, 1, none⟩) (fun _ => rfl) _).setCell (p := ⟨R, 2, none⟩) (fun _ => rfl) _, H2.out⟩
set_option maxHeartbeats 1000000 in
theorem qfail_keep (R : Nat) (vl : Value) (pl e0 p e : Nat) (he : e0 ≠ 0) (w : World) (h : w.heap[R]? = some (resO vl pl e0)) :
    Calls Tryz.prog 64 #[.pointer (some ⟨R, 0, none⟩), .int .i64 p, .int .i64 e] w fun en w' => en = .returned (.tuple #[]) ∧ w = w' := by
  have c2 : w.cell? ⟨R, 2, none⟩ = some (.int .i64 (e0 : Nat)) := by simp [World.cell?, h, resO]
  have hne : (((e0 : Nat) : Int) == 0) = false := by rw [beq_eq_false_iff_ne]; omega
  clear h he
  go_enter Tryz.func64, Tryz.ntmps64
  go_wp2_with fail
  go_end0
  exact ⟨rfl, rfl⟩
end Go.Proofs.YtojdgdeefhndiaaGreatDoor
