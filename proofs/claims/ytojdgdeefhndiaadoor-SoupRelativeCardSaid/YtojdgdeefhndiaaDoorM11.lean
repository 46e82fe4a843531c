/- Walks of the program of the polygon files: reader.number. Numbers of a few bytes, the least significant one first, as plain sums. No condition. Walks of the program of the polygon files: reader.number. -/
import Derived.Test.YtojdgdeefhndiaaDoorM8
import Derived.Test.YtojdgdeefhndiaaDoorM2
import Derived.Test.YtojdgdeefhndiaaDoorM1
import Derived.Laws.BitsAllLaws
namespace Go.Proofs.YtojdgdeefhndiaaDoor
open Go Go.RowKit Sp
set_option maxRecDepth 100000
set_option maxHeartbeats 1000000

theorem number_short (s : Bytes) (p n most : Nat) (e : Int) (B _t : Nat) (hs : s.length ≤ 4294967296) (hp : p ≤ s.length) (hn : n ≤ 8) (hc : ¬ p + n ≤ s.length) (w : World)
    (c0 : w.cell? ⟨B, 0, none⟩ = some (.string (bs s))) (c1 : w.cell? ⟨B, 1, none⟩ = some (.int .i64 p)) :
    Calls Tryd.prog 20 #[.pointer (some ⟨B, 0, none⟩), .int .i64 n, .int .i64 most, .int .i64 e] w fun en w' => en = .panicked (fail s.length 12) ∧ Upd noBlk w w' := by
  have c1' : decide (((p : Nat) : Int) + n ≤ ((s.length : Nat) : Int)) = false := by simp; omega
  have hb : (bs s).size = s.length := bs_size s
  go_enter Tryd.func20, Tryd.ntmps20
  go_wp2_with fail
  refine wp_region_tree 14 (OT.sures [0, 1, 2, 3, 4, 5, 6, 7, 8, 9, 10, 11, 12, 13] .nil) (fun w' => w'.cell? ⟨B, 0, none⟩ = some (.string (bs s))) (by kernel_rfl) (by kernel_rfl) (fun c a d v w h => by cases d <;> exact h) c0 ?_
  simp only [OT.sures]
  iterate 14 (first | (apply wpT_sure rfl rfl; focus (intro w' hw'; have g1 := hw'; go_simp; rfl)) | (refine wpT_sureG rfl (by go_simp) _ (fun w' hw' => by have g1 := hw'; go_simp; rfl) ?_))
  refine wpT_nil ?_
  go_wp2_with fail
  rw [c1']
  refine (check_bad _ _ _).mono ?_
  rintro e w2 ⟨rfl, rfl⟩
  exact ⟨rfl, rfl, (Upd.refl _ _).drew⟩
end Go.Proofs.YtojdgdeefhndiaaDoor
namespace Go.Proofs.YtojdgdeefhndiaaDoor
open Go Go.RowKit Sp

theorem i64_or_nat (a b : Nat) (ha : a < 4611686018427387904) (hb : b < 4611686018427387904) : bits .or .i64 (a : Int) (b : Int) = ((a ||| b : Nat) : Int) := by
  have hx : a ||| b < 2 ^ 62 := Nat.or_lt_two_pow (by omega) (by omega)
  have h1 : (BitVec.ofInt 64 (a : Int)).toNat = a := by
    rw [BitVec.ofInt_natCast, BitVec.toNat_ofNat]; exact Nat.mod_eq_of_lt (by omega)
  have h2 : (BitVec.ofInt 64 (b : Int)).toNat = b := by
    rw [BitVec.ofInt_natCast, BitVec.toNat_ofNat]; exact Nat.mod_eq_of_lt (by omega)
  show IntKind.i64.wrap ((BitVec.ofInt 64 (a : Int) ||| BitVec.ofInt 64 (b : Int)).toNat : Int) = _
  rw [BitVec.toNat_or, h1, h2, IntKind.wrap_i64]
  omega
theorem leNat_snoc : ∀ (l : Bytes) (c : UInt8), leNat (l ++ [c]) = leNat l + c.toNat * 256 ^ l.length
  | [], c => by simp [leNat]
  | d :: l, c => by
    rw [List.cons_append, leNat, leNat_snoc l c, leNat, List.length_cons, Nat.pow_succ]
    rw [Nat.mul_add, ← Nat.mul_assoc, Nat.mul_comm 256 c.toNat, Nat.mul_assoc, Nat.mul_comm 256 (256 ^ l.length), Nat.add_assoc]
theorem leNat_lt : ∀ (l : Bytes), leNat l < 256 ^ l.length
  | [] => by simp [leNat]
  | d :: l => by
    have := leNat_lt l
    have hd : d.toNat < 256 := d.toNat_lt
    rw [leNat, List.length_cons, Nat.pow_succ]
    omega
/-- One more byte, as the machine adds it. -/
theorem or_byte (v k : Nat) (c : UInt8) (hk : k ≤ 3) (hv : v < 256 ^ k) :
    bits BinOp.or IntKind.i64 (v : Int) (wrap64 (wrap64 (c.toNat : Int) * 2 ^ (8 * k))) = ((v + c.toNat * 256 ^ k : Nat) : Int) := by
  have hc : c.toNat < 256 := c.toNat_lt
  have e1 : wrap64 (c.toNat : Int) = c.toNat := by simp [wrap64]; omega
  have e2 : (2 ^ (8 * k) : Int) = ((256 ^ k : Nat) : Int) := by rw [Int.natCast_pow, Int.pow_mul]; rfl
  have hk3 : 256 ^ k ≤ 256 ^ 3 := Nat.pow_le_pow_right (by decide) hk
  have hm : c.toNat * 256 ^ k ≤ 255 * 256 ^ 3 := Nat.mul_le_mul (by omega) hk3
  have e3 : wrap64 (((c.toNat * 256 ^ k : Nat) : Int)) = ((c.toNat * 256 ^ k : Nat) : Int) := by
    generalize c.toNat * 256 ^ k = m at *
    have : m ≤ 4278190080 := by simpa using hm
    simp [wrap64]; omega
  rw [e1, e2, ← Int.natCast_mul, e3]
  have hv3 : v < 4611686018427387904 := by
    have : (256 : Nat) ^ 3 = 16777216 := rfl
    omega
  have hm3 : c.toNat * 256 ^ k < 4611686018427387904 := by
    have : (255 * 256 ^ 3 : Nat) = 4278190080 := rfl
    omega
  rw [i64_or_nat _ _ hv3 hm3]
  congr 1
  have e4 : c.toNat * 256 ^ k = c.toNat <<< (8 * k) := by rw [Nat.shiftLeft_eq, Nat.pow_mul]
  rw [e4, Nat.or_comm, ← Nat.shiftLeft_add_eq_or_of_lt (by rw [Nat.pow_mul]; exact hv), Nat.add_comm]
theorem take_drop_snoc {s : Bytes} {p k : Nat} (h : p + k < s.length) : (s.drop p).take (k + 1) = (s.drop p).take k ++ [s[p + k]] := by
  rw [List.take_succ_eq_append_getElem (by rw [List.length_drop]; omega), List.getElem_drop]
theorem leNat_step {s : Bytes} {p k : Nat} (h : p + k < s.length) : leNat ((s.drop p).take (k + 1)) = leNat ((s.drop p).take k) + (s[p + k]).toNat * 256 ^ k := by
  rw [take_drop_snoc h, leNat_snoc, List.length_take, List.length_drop, Nat.min_eq_left (by omega)]
theorem leNat_take_lt (s : Bytes) (k : Nat) : leNat (s.take k) < 256 ^ k := by
  refine Nat.lt_of_lt_of_le (leNat_lt _) (Nat.pow_le_pow_right (by decide) (List.length_take_le _ _))
end Go.Proofs.YtojdgdeefhndiaaDoor
namespace Go.Proofs.YtojdgdeefhndiaaDoor
open Go Go.RowKit Sp
set_option maxRecDepth 100000

/-- What reader.number comes to. -/
def numQ (r : N) (B T : Nat) (s : Bytes) (p n : Nat) (w : World) (en : Ending) (w' : World) : Prop :=
  match r with
  | .ok v => en = .returned (.tuple #[.int .i64 v, .int .i64 p]) ∧ Upd (fun k => k = B) w w' ∧ w'.heap[B]? = some (.cells #[.string (bs s), .int .i64 ((p + n : Nat) : Int)] T (0, 0))
  | .bad place e => en = .panicked (fail place e) ∧ Upd noBlk w w'

theorem number_first {s : Bytes} {p n most e : Nat} (hc : ¬ p + n ≤ s.length) : numS s p n most e = .bad s.length 12 := by
  unfold numS; rw [if_pos (by omega)]
theorem number_much {s : Bytes} {p n most e : Nat} (hc : p + n ≤ s.length) (h : most < leNat ((s.drop p).take n)) : numS s p n most e = .bad p e := by
  unfold numS; rw [if_neg (by omega), if_pos h]
theorem number_good {s : Bytes} {p n most e : Nat} (hc : p + n ≤ s.length) (h : ¬ most < leNat ((s.drop p).take n)) : numS s p n most e = .ok (leNat ((s.drop p).take n)) := by
  unfold numS; rw [if_neg (by omega), if_neg h]

theorem bs_get (s : Bytes) (i : Nat) (h : i < s.length) : (bs s)[i]'(by rw [bs_size]; exact h) = s[i] := by
  unfold bs
  show s.toArray[i]'(by simpa using h) = s[i]
  simp
set_option maxHeartbeats 1000000 in
theorem number_any (s : Bytes) (p n most e : Nat) (B T : Nat) (hs : s.length ≤ 4294967296) (hp : p ≤ s.length) (hn : n ≤ 4) (w : World)
    (hB : w.heap[B]? = some (.cells #[.string (bs s), .int .i64 p] T (0, 0))) :
    Calls Tryd.prog 20 #[.pointer (some ⟨B, 0, none⟩), .int .i64 n, .int .i64 most, .int .i64 e] w fun en w' => numQ (numS s p n most e) B T s p n w en w' := by
  have c0 : w.cell? ⟨B, 0, none⟩ = some (.string (bs s)) := by simp [World.cell?, hB]
  have c1 : w.cell? ⟨B, 1, none⟩ = some (.int .i64 p) := by simp [World.cell?, hB]
  by_cases hc : p + n ≤ s.length
  · have z1 : w.frozen? ⟨B, 1, none⟩ = false := by simp [World.frozen?, hB]
    have HB := Lib.hid hB
    clear hB
    have c1' : decide (((p : Nat) : Int) + n ≤ ((s.length : Nat) : Int)) = true := by simp; omega
    have hb : (bs s).size = s.length := bs_size s
    go_enter Tryd.func20, Tryd.ntmps20
    go_wp2_with fail
    refine wp_region_tree 14 (OT.sures [0, 1, 2, 3, 4, 5, 6, 7, 8, 9, 10, 11, 12, 13] .nil) (fun w' => w'.cell? ⟨B, 0, none⟩ = some (.string (bs s)) ∧ w'.cell? ⟨B, 1, none⟩ = some (.int .i64 p)) (by kernel_rfl) (by kernel_rfl) (fun c a d v w h => by cases d <;> exact h) ⟨c0, c1⟩ ?_
    simp only [OT.sures]
    iterate 14 (first | (apply wpT_sure rfl rfl; focus (intro w' hw'; have g1 := hw'.1; go_simp; rfl)) | (refine wpT_sureG rfl (by go_simp) _ (fun w' hw' => by have g1 := hw'; go_simp; rfl) ?_))
    refine wpT_nil ?_
    go_wp2_with fail
    rw [c1']
    refine (check_ok _ _ _).mono ?_
    rintro e w2 ⟨rfl, rfl⟩
    go_wp2_with fail
    go_loop [11, 12, 33] (fun v _ i => ∃ k : Nat, i = .int .i64 k ∧ k ≤ n ∧ v = .int .i64 (leNat ((s.drop p).take k))) (fun _ _ i => n - (intOf i).toNat)
    case atStart => exact ⟨0, rfl, Nat.zero_le _, by simp [leNat]⟩
    case round =>
      obtain ⟨k, rfl, hk, rfl⟩ := hrel
      have c0' : w.drew.cell? ⟨B, 0, none⟩ = some (.string (bs s)) := c0
      by_cases hlt : k < n
      · have hlt' : ((k : Nat) : Int) < ((n : Nat) : Int) := by omega
        have hor := or_byte (leNat ((s.drop p).take k)) k (s[p + k]'(by omega)) (by omega) (leNat_take_lt _ _)
        rw [← leNat_step] at hor
        have hget : (bs s)[p + k]'(by rw [hb]; omega) = s[p + k]'(by omega) := bs_get s (p + k) (by omega)
        rw [← hget] at hor
        have HO := Lib.hid hor
        clear hor hget
        generalize leNat ((s.drop p).take k) = v at *
        go_wp2_with fail
        refine ⟨⟨k + 1, by go_num, hlt, ?_⟩, by simp [intOf]; omega⟩
        exact congrArg (Value.int .i64) HO.out
      · obtain rfl : k = n := by omega
        clear hlt
        by_cases hm : most < leNat ((s.drop p).take k)
        · have hr := Lib.hid (number_much (e := e) hc hm)
          have hd : decide (leNat ((s.drop p).take k) ≤ most) = false := by simp; omega
          generalize leNat ((s.drop p).take k) = v at *
          go_wp2_with fail
          refine (check_bad _ _ _).mono ?_
          rintro e w2 ⟨rfl, rfl⟩
          refine ⟨rfl, ?_⟩
          rw [hr.out]
          exact ⟨rfl, (Upd.refl _ _).drew⟩
        · have hr := Lib.hid (number_good (e := e) hc hm)
          have hd : decide (leNat ((s.drop p).take k) ≤ most) = true := by simp; omega
          generalize leNat ((s.drop p).take k) = v at *
          have c1'' : w.drew.cell? ⟨B, 1, none⟩ = some (.int .i64 p) := c1
          have z1' : w.drew.frozen? ⟨B, 1, none⟩ = false := z1
          go_wp2_with fail
          refine (check_ok _ _ _).mono ?_
          rintro e w2 ⟨rfl, rfl⟩
          go_wp2_with fail
          go_ret2
          rw [hr.out]
          refine ⟨rfl, (((Upd.refl (fun k => k = B) _).setCell (p := ⟨B, 1, none⟩) (fun _ => rfl) _)).drew, ?_⟩
          have := heap_setCell_eq (w := w) (g := B) (i := 1) (.int .i64 ((p : Int) + k)) HB.out
          refine this.trans ?_
          simp
  · have hp := Lib.hid (number_first (most := most) (e := e) hc)
    rw [hp.out]
    exact number_short s p n most e B T hs (by omega) (by omega) hc w c0 c1
end Go.Proofs.YtojdgdeefhndiaaDoor
