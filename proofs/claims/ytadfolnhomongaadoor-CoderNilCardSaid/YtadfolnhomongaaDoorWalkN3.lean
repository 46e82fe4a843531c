/- Walk: numbers written by the reference. -/
import Derived.Test.YtadfolnhomongaaDoorWalkN2
namespace Go.Proofs.YtadfolnhomongaaDoor
open Go Go.RowKit Pc
set_option maxRecDepth 100000

/-- What is left to write behind i rounds. -/
def restBits (c : Int) (n i : Nat) : List (Int × Bool) := if i ≤ blen n then obits c i (blen n - i) ++ vbits c n (blen n - 1) else vbits c n (blen n - 1)
theorem rest_one {c : Int} {n i : Nat} (h : i < blen n) : restBits c n i = (nctx c i, true) :: restBits c n (i + 1) := by
  unfold restBits
  rw [if_pos (by omega), if_pos (by omega), show blen n - i = (blen n - (i + 1)) + 1 by omega]; rfl
theorem rest_zero (c : Int) (n : Nat) : restBits c n (blen n) = (nctx c (blen n), false) :: restBits c n (blen n + 1) := by
  unfold restBits
  rw [if_pos (Nat.le_refl _), if_neg (by omega), Nat.sub_self]; rfl
theorem bit_val2 {n j : Nat} : (((n : Nat) : Int) / 2 ^ j % 2 == 1) = decide (n / 2 ^ j % 2 = 1) := by
  have e : ((n : Nat) : Int) / 2 ^ j = ((n / 2 ^ j : Nat) : Int) := by push_cast; rfl
  rw [e, Bool.eq_iff_iff]
  simp
  omega

set_option maxHeartbeats 1000000 in
theorem rWNumber_any {F0 : Nat → Prop} {w0 w : World} {b : Nat} {e : E} {F : Nat → Prop} (h : RWG F0 w0 w b e F) (c : Int) (n : Nat) (hn : n < 2 ^ 64) (hlen : e.done.length + 200 ≤ 1000000) :
    Calls Tryd.prog 34 #[.pointer (some ⟨b, 0, none⟩), .int .i64 c, .int .u64 n] w fun en w' => en = .returned (.tuple #[]) ∧ ∃ F', RWG F0 w0 w' b (encFrom e (numBits c n)) F' := by
  have H := Lib.hid h
  have HL := Lib.hid hlen
  have HN := Lib.hid hn
  have hk := blen_le hn
  clear h hlen hn
  go_enter Tryd.func34, Tryd.ntmps34
  go_wp2_with fail
  refine (rlength_any n HN.out w).mono ?_
  rintro e0 w2 ⟨rfl, rfl⟩
  go_wp2_with fail
  go_loopw [7] (fun i wr => ∃ k : Nat, i = .int .i64 k ∧ k ≤ blen n + 1 ∧ ∃ e' F', RWG F0 w0 wr b e' F' ∧ e'.done.length ≤ e.done.length + k ∧ encFrom e' (restBits c n k) = encFrom e (numBits c n)) (fun i _ => 66 - (intOf i).toNat)
  case atStart => exact ⟨0, rfl, Nat.zero_le _, e, F, H.out, Nat.le_refl _, by unfold restBits; rw [if_pos (Nat.zero_le _)]; rfl⟩
  case round =>
    obtain ⟨k, rfl, hkn, e', F', h1, h2, h3⟩ := hrel
    have H1 := Lib.hid h1
    have H2 := Lib.hid h2
    have H3 := Lib.hid h3
    clear h1 h2 h3
    have hkb : ((k : Nat) : Int) ≤ 65 := by omega
    have HS : Hid (e'.done.length + 2 ≤ 1000000) := by show _ ≤ _; have := H2.out; have := HL.out; omega
    by_cases hlt : k < blen n
    · have HX : Hid (encFrom (e'.bit (nctx c k) true) (restBits c n (k + 1)) = encFrom e (numBits c n)) := by
        show _ = _; rw [← H3.out, rest_one hlt]; rfl
      have hlt' : decide (k < blen n) = true := by simp; omega
      go_wp2_with (go_at_call 35; refine (H1.out.bit _ true (by have := HS.out; omega)).mono ?_; rintro en w3 ⟨rfl, F3, q⟩; have Q : Hid (RWG F0 w0 w3 b (e'.bit (nctx c k) true) F3) := q; clear q)
      go_roundw
      case rel => exact ⟨k + 1, by go_num, by omega, _, F3, Q.out, by have := E.bit_done_length e' (nctx c k) true; have := H2.out; omega, HX.out⟩
      case measure => simp [intOf]; omega
    · by_cases heq : k = blen n
      · have HX : Hid (encFrom (e'.bit (nctx c k) false) (restBits c n (k + 1)) = encFrom e (numBits c n)) := by
          show _ = _; rw [← H3.out, heq, rest_zero]; rfl
        have hle : ((k : Nat) : Int) ≤ ((blen n : Nat) : Int) := by omega
        have hlt' : decide (k < blen n) = false := by simp; omega
        have HQ := Lib.hid heq
        clear heq hlt
        go_wp2_with (go_at_call 35; refine (H1.out.bit _ false (by have := HS.out; omega)).mono ?_; rintro en w3 ⟨rfl, F3, q⟩; have Q : Hid (RWG F0 w0 w3 b (e'.bit (nctx c k) false) F3) := q; clear q)
        go_roundw
        case rel => exact ⟨k + 1, by go_num, by have := HQ.out; omega, _, F3, Q.out, by have := E.bit_done_length e' (nctx c k) false; have := H2.out; omega, HX.out⟩
        case measure => simp [intOf]; omega
      · have hgt : ¬ ((k : Nat) : Int) ≤ ((blen n : Nat) : Int) := by omega
        have HX : Hid (encFrom e' (vbits c n (blen n - 1)) = encFrom e (numBits c n)) := by
          show _ = _; rw [← H3.out]; unfold restBits; rw [if_neg (by omega)]
        have HT : Hid (e'.done.length ≤ e.done.length + 66) := by show _ ≤ _; have := H2.out; omega
        clear H3 H2 heq hlt
        go_wp2_with fail
        go_loopw [8] (fun i wr => ∃ (z : Int) (m : Nat), i = .int .i64 z ∧ (z = ((m : Nat) : Int) - 1 ∨ (z = -2 ∧ m = 0)) ∧ m ≤ 63 ∧ ∃ e' F', RWG F0 w0 wr b e' F' ∧ e'.done.length + m ≤ e.done.length + 130 ∧ encFrom e' (vbits c n m) = encFrom e (numBits c n)) (fun i _ => (intOf i + 1).toNat)
        case atStart => exact ⟨_, blen n - 1, rfl, by omega, by omega, _, F', H1.out, by have := HT.out; omega, HX.out⟩
        case round =>
          obtain ⟨z, m, rfl, hz, hm, e2, F2, h1, h2, h3⟩ := hrel
          have R1 := Lib.hid h1
          have R2 := Lib.hid h2
          have R3 := Lib.hid h3
          clear h1 h2 h3 H1 HX HS HT
          rcases m with _ | j
          · have hz0 : z < 0 := by omega
            have R4 : Hid (encFrom e2 [] = encFrom e (numBits c n)) := R3.out
            clear hz
            go_wp2_with fail
            go_end0
            exact ⟨rfl, F2, by rw [← R4.out]; exact R1.out⟩
          · obtain rfl : z = ((j : Nat) : Int) := by omega
            have hj : ((j : Nat) : Int) ≤ 63 := by omega
            have HX : Hid (encFrom (e2.bit (vctx c j) (decide (n / 2 ^ j % 2 = 1))) (vbits c n j) = encFrom e (numBits c n)) := R3.out
            have HS : Hid (e2.done.length + 1 ≤ 1000000) := by show _ ≤ _; have := R2.out; have := HL.out; omega
            have hnb : ((n : Nat) : Int) ≤ 18446744073709551615 := by have := HN.out; omega
            clear hz
            go_wp2_with (go_at_call 35; refine (R1.out.bit _ _ HS.out).mono ?_; rintro en w4 ⟨rfl, F4, q⟩; have Q : Hid (RWG F0 w0 w4 b (e2.bit (vctx c j) (decide (n / 2 ^ j % 2 = 1))) F4) := (by rw [← bit_val2]; exact q); clear q)
            go_roundw
            case rel => exact ⟨_, j, by go_num, by omega, by omega, _, F4, Q.out, by have := E.bit_done_length e2 (vctx c j) (decide (n / 2 ^ j % 2 = 1)); have := R2.out; omega, HX.out⟩
            case measure => simp [intOf] <;> omega
end Go.Proofs.YtadfolnhomongaaDoor
