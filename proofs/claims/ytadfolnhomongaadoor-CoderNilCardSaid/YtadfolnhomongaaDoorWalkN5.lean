/- Walk: numbers read by the reference. -/
import Derived.Test.YtadfolnhomongaaDoorWalkN4
namespace Go.Proofs.YtadfolnhomongaaDoor
open Go Go.RowKit Pc
set_option maxRecDepth 100000

set_option maxHeartbeats 1000000 in
theorem rRNumber_any {w : World} {r N : Nat} {d : D} (h : RR w r d N) (hN : N + 200 ≤ 999999) (c : Int) :
    Calls Tryd.prog 31 #[.pointer (some ⟨r, 0, none⟩), .int .i64 c] w fun en w' => en = .returned (numV (d.number c)) ∧ ∃ N', N' ≤ N + 130 ∧ RR w' r (d.number c).d N' ∧ Upd (· = r) w w' := by
  have H := Lib.hid h
  have HN := Lib.hid hN
  clear h hN
  go_enter Tryd.func31, Tryd.ntmps31
  go_wp2_with fail
  go_loopw [6] (fun i wr => ∃ k : Nat, i = .int .i64 k ∧ k ≤ 64 ∧ ∃ d', (RR wr r d' (N + k) ∧ Upd (· = r) w wr) ∧ D.ones c (65 - k) d' = D.ones c 65 d) (fun i _ => 65 - (intOf i).toNat)
  case atStart => exact ⟨0, rfl, Nat.zero_le _, d, ⟨H.out, Upd.refl _ _⟩, rfl⟩
  case round =>
    obtain ⟨k, rfl, hk, d', h1, h2⟩ := hrel
    have H1 := Lib.hid h1
    have H2 : Hid ((if d'.one (nctx c k) then D.ones c (64 - k) (d'.bit (nctx c k)) else (k, d'.bit (nctx c k))) = D.ones c 65 d) := by show _ = _; rw [← ones_step hk]; exact h2
    have hkb : ((k : Nat) : Int) ≤ 64 := by omega
    clear h1 h2
    by_cases ho : d'.one (nctx c k) = true
    · have HO := Lib.hid ho
      have hcall : Calls Tryd.prog 29 #[.pointer (some ⟨r, 0, none⟩), .int .i64 (nctx c k)] wr fun en w' => en = .returned (.bool true) ∧ RR w' r (d'.bit (nctx c k)) (N + k + 1) ∧ Upd (· = r) w w' := by
        have := rRBit_any r (N + k) (nctx c k) d' (by have := HN.out; omega) wr H1.out.1; rw [ho] at this; exact this.mono fun e w' ⟨q1, q2, q3⟩ => ⟨q1, q2, H1.out.2.trans q3⟩
      have HC := Lib.hid hcall
      clear ho hcall
      by_cases hlt : k < 64
      · have HX : Hid (D.ones c (65 - (k + 1)) (d'.bit (nctx c k)) = D.ones c 65 d) := by
          show _ = _; rw [← H2.out, HO.out, if_pos rfl, show 65 - (k + 1) = 64 - k by omega]
        have hlt' : ((k : Nat) : Int) < 64 := by omega
        go_wp2_with (go_at_call 29; refine HC.out.mono ?_; rintro en w3 ⟨rfl, q⟩; have Q := Lib.hid q; clear q)
        go_roundw
        case rel => exact ⟨k + 1, by go_num, hlt, _, Q.out, HX.out⟩
        case measure => simp [intOf]; omega
      · obtain rfl : k = 64 := by omega
        have HX : Hid (d.number c = ⟨0, false, d'.bit (nctx c 64)⟩) := number_many (by rw [← H2.out, HO.out, if_pos rfl]; rfl)
        go_wp2_with (go_at_call 29; refine HC.out.mono ?_; rintro en w3 ⟨rfl, q⟩; have Q := Lib.hid q; clear q)
        go_ret2
        exact ⟨by rw [HX.out]; rfl, N + 64 + 1, by omega, by rw [HX.out]; exact Q.out.1, Q.out.2⟩
    · have ho' : d'.one (nctx c k) = false := by simpa using ho
      have HE : Hid ((k, d'.bit (nctx c k)) = D.ones c 65 d) := by show _ = _; rw [← H2.out, ho', if_neg (by simp)]
      have hcall : Calls Tryd.prog 29 #[.pointer (some ⟨r, 0, none⟩), .int .i64 (nctx c k)] wr fun en w' => en = .returned (.bool false) ∧ RR w' r (d'.bit (nctx c k)) (N + k + 1) ∧ Upd (· = r) w w' := by
        have := rRBit_any r (N + k) (nctx c k) d' (by have := HN.out; omega) wr H1.out.1; rw [ho'] at this; exact this.mono fun e w' ⟨q1, q2, q3⟩ => ⟨q1, q2, H1.out.2.trans q3⟩
      have HC := Lib.hid hcall
      clear ho ho' hcall H2
      rcases Nat.eq_zero_or_pos k with hk0 | hk0
      · subst hk0
        have HX : Hid (d.number c = ⟨0, true, d'.bit (nctx c 0)⟩) := number_none HE.out
        go_wp2_with (go_at_call 29; refine HC.out.mono ?_; rintro en w3 ⟨rfl, q⟩; have Q := Lib.hid q; clear q)
        refine wp_loop_once ?_
        go_wp2
        go_ret2
        exact ⟨by rw [HX.out]; rfl, N + 0 + 1, by omega, by rw [HX.out]; exact Q.out.1, Q.out.2⟩
      · have HX : Hid (d.number c = ⟨(D.val c (k - 1) 1 (d'.bit (nctx c k))).1, true, (D.val c (k - 1) 1 (d'.bit (nctx c k))).2⟩) := number_some HE.out hk0 hk
        have hne : (((k : Nat) : Int) == 0) = false := by rw [beq_eq_false_iff_ne]; omega
        go_wp2_with (go_at_call 29; refine HC.out.mono ?_; rintro en w3 ⟨rfl, q⟩; have Q := Lib.hid q; clear q)
        clear hne HC HE
        generalize d'.bit (nctx c k) = d1 at *
        rw [show min ((k : Nat) : Int) 1 = 1 by omega]
        go_loopw [8, 9] (fun x i wr => ∃ (v m : Nat), x = .int .u64 v ∧ i = .int .i64 (((m : Nat) : Int) - 1) ∧ m ≤ 63 ∧ v < 2 ^ (64 - m) ∧ ∃ d2 N2, (RR wr r d2 N2 ∧ N2 + m ≤ N + 130 ∧ Upd (· = r) w wr) ∧ D.val c m v d2 = D.val c (k - 1) 1 d1) (fun _ i _ => (intOf i + 1).toNat)
        case atStart => exact ⟨1, k - 1, rfl, by go_num, by omega, Nat.one_lt_two_pow (by omega), _, _, ⟨Q.out.1, by omega, Q.out.2⟩, rfl⟩
        case round =>
          obtain ⟨v, m, rfl, rfl, hm, hv, d2, N2, h1, h2⟩ := hrel
          have R1 := Lib.hid h1
          have R2 := Lib.hid h2
          clear h1 h2 H1 Q
          rcases m with _ | j
          · have h0 : decide (((0 : Nat) : Int) - 1 ≥ 0) = false := by decide
            have HV : Hid ((v, d2) = D.val c (k - 1) 1 d1) := R2.out
            clear hv
            go_wp2_with fail
            go_ret2
            exact ⟨by rw [HX.out, ← HV.out]; rfl, N2, by have := R1.out.2.1; omega, by rw [HX.out, ← HV.out]; exact R1.out.1, R1.out.2.2⟩
          · have e1 : (((j + 1 : Nat) : Int) - 1) = (j : Int) := by omega
            rw [e1]
            have hj : ((j : Nat) : Int) ≤ 62 := by omega
            obtain ⟨v1, v2⟩ := val_bd hm hv
            have hvb : ((v : Nat) : Int) < 9223372036854775808 := by omega
            have hor := or_one v1
            have V2 := Lib.hid v2
            have R3 : Hid (D.val c j (2 * v + if d2.one (vctx c j) then 1 else 0) (d2.bit (vctx c j)) = D.val c (k - 1) 1 d1) := R2.out
            clear hv e1 v1 v2 R2
            by_cases ho : d2.one (vctx c j) = true
            · have hcall : Calls Tryd.prog 29 #[.pointer (some ⟨r, 0, none⟩), .int .i64 (vctx c j)] wr fun en w' => en = .returned (.bool true) ∧ RR w' r (d2.bit (vctx c j)) (N2 + 1) ∧ (N2 + 1) + j ≤ N + 130 ∧ Upd (· = r) w w' := by
                have := rRBit_any r N2 (vctx c j) d2 (by have := HN.out; have := R1.out.2.1; omega) wr R1.out.1; rw [ho] at this; exact this.mono fun e w' ⟨q1, q2, q3⟩ => ⟨q1, q2, by have := R1.out.2.1; omega, R1.out.2.2.trans q3⟩
              have HC := Lib.hid hcall
              have R4 : Hid (D.val c j (2 * v + 1) (d2.bit (vctx c j)) = D.val c (k - 1) 1 d1) := by show _ = _; rw [← R3.out, ho]; rfl
              clear ho hcall
              go_wp2_with (go_at_call 29; refine HC.out.mono ?_; rintro en w4 ⟨rfl, q⟩; have Q4 := Lib.hid q; clear q)
              go_roundw
              case rel => exact ⟨2 * v + 1, j, by go_num, by go_num, by omega, V2.out, _, _, Q4.out, R4.out⟩
              case measure => simp [intOf] <;> omega
            · have ho' : d2.one (vctx c j) = false := by simpa using ho
              have hcall : Calls Tryd.prog 29 #[.pointer (some ⟨r, 0, none⟩), .int .i64 (vctx c j)] wr fun en w' => en = .returned (.bool false) ∧ RR w' r (d2.bit (vctx c j)) (N2 + 1) ∧ (N2 + 1) + j ≤ N + 130 ∧ Upd (· = r) w w' := by
                have := rRBit_any r N2 (vctx c j) d2 (by have := HN.out; have := R1.out.2.1; omega) wr R1.out.1; rw [ho'] at this; exact this.mono fun e w' ⟨q1, q2, q3⟩ => ⟨q1, q2, by have := R1.out.2.1; omega, R1.out.2.2.trans q3⟩
              have HC := Lib.hid hcall
              have R4 : Hid (D.val c j (2 * v) (d2.bit (vctx c j)) = D.val c (k - 1) 1 d1) := by show _ = _; rw [← R3.out, ho']; rfl
              clear ho ho' hcall hor
              go_wp2_with (go_at_call 29; refine HC.out.mono ?_; rintro en w4 ⟨rfl, q⟩; have Q4 := Lib.hid q; clear q)
              go_roundw
              case rel => exact ⟨2 * v, j, by go_num, by go_num, by omega, by have := V2.out; omega, _, _, Q4.out, R4.out⟩
              case measure => simp [intOf] <;> omega
end Go.Proofs.YtadfolnhomongaaDoor
