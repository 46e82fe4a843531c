/- Walks: numbers read, by the coder and by the reference. -/
import Derived.Test.YtadfolnhomongaaDoorWalkN3
namespace Go.Proofs.YtadfolnhomongaaDoor
open Go Go.RowKit Pc
set_option maxRecDepth 100000

/-- A reader whose blocks were F0 in the first world. -/
structure RG (F0 : Nat → Prop) (w wr : World) (r : Nat) (d : D) (F : Nat → Prop) : Prop where
  rep : RRep wr r d F
  new : ∀ k, F k → F0 k ∨ w.heap.size ≤ k
  up : Upd F0 w wr
theorem RG.self {w : World} {r : Nat} {d : D} {F : Nat → Prop} (h : RRep w r d F) : RG F w w r d F := ⟨h, fun _ hk => .inl hk, Upd.refl _ _⟩
theorem RG.bit {F0 : Nat → Prop} {w wr : World} {r : Nat} {d : D} {F : Nat → Prop} (h : RG F0 w wr r d F) (c : Int) :
    Calls Tryd.prog 28 #[.pointer (some ⟨r, 0, none⟩), .int .i64 c] wr fun en w' => en = .returned (.bool (d.one c)) ∧ ∃ F', RG F0 w w' r (d.bit c) F' := by
  refine (RBit_any r c d F wr h.rep).mono ?_
  rintro e w2 ⟨rfl, F', q1, q2, q3⟩
  exact ⟨rfl, F', q1, fun j hj => (q3 j hj).elim (h.new j) (fun x => .inr (Nat.le_trans h.up.size x)), upd_foot h.up q2 h.new⟩

theorem ones_step {c : Int} {k : Nat} (hk : k ≤ 64) (d : D) : D.ones c (65 - k) d = if d.one (nctx c k) then D.ones c (64 - k) (d.bit (nctx c k)) else (k, d.bit (nctx c k)) := by
  rw [show 65 - k = (64 - k) + 1 by omega, D.ones, show 64 - (64 - k) = k by omega]
def numV (x : NumR) : Value := .tuple #[.int .u64 (x.n : Int), .bool x.ok]
theorem number_many {c : Int} {d d' : D} (h : (65, d') = D.ones c 65 d) : d.number c = ⟨0, false, d'⟩ := by unfold D.number; rw [← h]; simp
theorem number_none {c : Int} {d d' : D} (h : (0, d') = D.ones c 65 d) : d.number c = ⟨0, true, d'⟩ := by unfold D.number; rw [← h]; simp
theorem number_some {c : Int} {d d' : D} {k : Nat} (h : (k, d') = D.ones c 65 d) (h0 : 0 < k) (h1 : k ≤ 64) : d.number c = ⟨(D.val c (k - 1) 1 d').1, true, (D.val c (k - 1) 1 d').2⟩ := by
  unfold D.number; rw [← h]; simp only; rw [if_neg (by omega), if_neg (by omega)]
theorem or_one {x : Nat} (hx : x < 9223372036854775808) : bits .or .u64 (((x : Nat) : Int) * 2) 1 = (((2 * x + 1 : Nat)) : Int) := by
  have h := u64_or_nat (2 * x) 1 (by omega) (by omega)
  rw [show ((x : Nat) : Int) * 2 = ((2 * x : Nat) : Int) by omega, show (1 : Int) = ((1 : Nat) : Int) from rfl, h]
  rw [nat_join 1 _ _ (by omega) (by omega)]
theorem val_bd {x m : Nat} (hm : m + 1 ≤ 63) (h : x < 2 ^ (64 - (m + 1))) : x < 9223372036854775808 ∧ 2 * x + 1 < 2 ^ (64 - m) := by
  have e : 2 ^ (64 - m) = 2 ^ (64 - (m + 1)) * 2 := by rw [← Nat.pow_succ]; congr 1; omega
  have h1 : 2 ^ (64 - (m + 1)) ≤ 2 ^ 63 := Nat.pow_le_pow_right (by omega) (by omega)
  constructor
  · omega
  · omega

set_option maxHeartbeats 1000000 in
theorem RNumber_any {F0 : Nat → Prop} {w0 w : World} {r : Nat} {d : D} {F : Nat → Prop} (h : RG F0 w0 w r d F) (c : Int) :
    Calls Tryd.prog 30 #[.pointer (some ⟨r, 0, none⟩), .int .i64 c] w fun en w' => en = .returned (numV (d.number c)) ∧ ∃ F', RG F0 w0 w' r (d.number c).d F' := by
  have H := Lib.hid h
  clear h
  go_enter Tryd.func30, Tryd.ntmps30
  go_wp2_with fail
  go_loopw [6] (fun i wr => ∃ k : Nat, i = .int .i64 k ∧ k ≤ 64 ∧ ∃ d' F', RG F0 w0 wr r d' F' ∧ D.ones c (65 - k) d' = D.ones c 65 d) (fun i _ => 65 - (intOf i).toNat)
  case atStart => exact ⟨0, rfl, Nat.zero_le _, d, F, H.out, rfl⟩
  case round =>
    obtain ⟨k, rfl, hk, d', F', h1, h2⟩ := hrel
    have H1 := Lib.hid h1
    have H2 : Hid ((if d'.one (nctx c k) then D.ones c (64 - k) (d'.bit (nctx c k)) else (k, d'.bit (nctx c k))) = D.ones c 65 d) := by show _ = _; rw [← ones_step hk]; exact h2
    have hkb : ((k : Nat) : Int) ≤ 64 := by omega
    clear h1 h2
    by_cases ho : d'.one (nctx c k) = true
    · have HO := Lib.hid ho
      have hcall : Calls Tryd.prog 28 #[.pointer (some ⟨r, 0, none⟩), .int .i64 (nctx c k)] wr fun en w' => en = .returned (.bool true) ∧ ∃ F', RG F0 w0 w' r (d'.bit (nctx c k)) F' := by
        have := H1.out.bit (nctx c k); rwa [ho] at this
      have HC := Lib.hid hcall
      clear ho hcall
      by_cases hlt : k < 64
      · have HX : Hid (D.ones c (65 - (k + 1)) (d'.bit (nctx c k)) = D.ones c 65 d) := by
          show _ = _; rw [← H2.out, HO.out, if_pos rfl, show 65 - (k + 1) = 64 - k by omega]
        have hlt' : ((k : Nat) : Int) < 64 := by omega
        go_wp2_with (go_at_call 28; refine HC.out.mono ?_; rintro en w3 ⟨rfl, F3, q⟩; have Q := Lib.hid q; clear q)
        go_roundw
        case rel => exact ⟨k + 1, by go_num, hlt, _, F3, Q.out, HX.out⟩
        case measure => simp [intOf]; omega
      · obtain rfl : k = 64 := by omega
        have HX : Hid (d.number c = ⟨0, false, d'.bit (nctx c 64)⟩) := number_many (by rw [← H2.out, HO.out, if_pos rfl]; rfl)
        go_wp2_with (go_at_call 28; refine HC.out.mono ?_; rintro en w3 ⟨rfl, F3, q⟩; have Q := Lib.hid q; clear q)
        go_ret2
        exact ⟨by rw [HX.out]; rfl, F3, by rw [HX.out]; exact Q.out⟩
    · have ho' : d'.one (nctx c k) = false := by simpa using ho
      have HE : Hid ((k, d'.bit (nctx c k)) = D.ones c 65 d) := by show _ = _; rw [← H2.out, ho', if_neg (by simp)]
      have hcall : Calls Tryd.prog 28 #[.pointer (some ⟨r, 0, none⟩), .int .i64 (nctx c k)] wr fun en w' => en = .returned (.bool false) ∧ ∃ F', RG F0 w0 w' r (d'.bit (nctx c k)) F' := by
        have := H1.out.bit (nctx c k); rwa [ho'] at this
      have HC := Lib.hid hcall
      clear ho ho' hcall H2
      rcases Nat.eq_zero_or_pos k with hk0 | hk0
      · subst hk0
        have HX : Hid (d.number c = ⟨0, true, d'.bit (nctx c 0)⟩) := number_none HE.out
        go_wp2_with (go_at_call 28; refine HC.out.mono ?_; rintro en w3 ⟨rfl, F3, q⟩; have Q := Lib.hid q; clear q)
        go_ret2
        exact ⟨by rw [HX.out]; rfl, F3, by rw [HX.out]; exact Q.out⟩
      · have HX : Hid (d.number c = ⟨(D.val c (k - 1) 1 (d'.bit (nctx c k))).1, true, (D.val c (k - 1) 1 (d'.bit (nctx c k))).2⟩) := number_some HE.out hk0 hk
        have hne : (((k : Nat) : Int) == 0) = false := by rw [beq_eq_false_iff_ne]; omega
        go_wp2_with (go_at_call 28; refine HC.out.mono ?_; rintro en w3 ⟨rfl, F3, q⟩; have Q := Lib.hid q; clear q)
        clear hne HC HE
        generalize d'.bit (nctx c k) = d1 at *
        go_loopw [7, 8] (fun x i wr => ∃ (v m : Nat), x = .int .u64 v ∧ i = .int .i64 (((m : Nat) : Int) - 1) ∧ m ≤ 63 ∧ v < 2 ^ (64 - m) ∧ ∃ d2 F2, RG F0 w0 wr r d2 F2 ∧ D.val c m v d2 = D.val c (k - 1) 1 d1) (fun _ i _ => (intOf i + 1).toNat)
        case atStart => exact ⟨1, k - 1, rfl, by go_num, by omega, Nat.one_lt_two_pow (by omega), _, F3, Q.out, rfl⟩
        case round =>
          obtain ⟨v, m, rfl, rfl, hm, hv, d2, F2, h1, h2⟩ := hrel
          have R1 := Lib.hid h1
          have R2 := Lib.hid h2
          clear h1 h2 H1 Q
          rcases m with _ | j
          · have h0 : decide (((0 : Nat) : Int) - 1 ≥ 0) = false := by decide
            have HV : Hid ((v, d2) = D.val c (k - 1) 1 d1) := R2.out
            clear hv
            go_wp2_with fail
            go_ret2
            exact ⟨by rw [HX.out, ← HV.out]; rfl, F2, by rw [HX.out, ← HV.out]; exact R1.out⟩
          · have e1 : (((j + 1 : Nat) : Int) - 1) = (j : Int) := by omega
            rw [e1]
            have hj : ((j : Nat) : Int) ≤ 62 := by omega
            obtain ⟨v1, v2⟩ := val_bd hm hv
            have hvb : ((v : Nat) : Int) < 9223372036854775808 := by omega
            have hor := or_one v1
            have V2 := Lib.hid v2
            have R3 : Hid (D.val c j (2 * v + if d2.one (vctx c j) then 1 else 0) (d2.bit (vctx c j)) = D.val c (k - 1) 1 d1) := R2.out
            clear hv e1 v1 v2 R2
            by_cases ho : d2.one (vctx c j) = true
            · have hcall : Calls Tryd.prog 28 #[.pointer (some ⟨r, 0, none⟩), .int .i64 (vctx c j)] wr fun en w' => en = .returned (.bool true) ∧ ∃ F', RG F0 w0 w' r (d2.bit (vctx c j)) F' := by
                have := R1.out.bit (vctx c j); rwa [ho] at this
              have HC := Lib.hid hcall
              have R4 : Hid (D.val c j (2 * v + 1) (d2.bit (vctx c j)) = D.val c (k - 1) 1 d1) := by show _ = _; rw [← R3.out, ho]; rfl
              clear ho hcall
              go_wp2_with (go_at_call 28; refine HC.out.mono ?_; rintro en w4 ⟨rfl, F4, q⟩; have Q4 := Lib.hid q; clear q)
              go_roundw
              case rel => exact ⟨2 * v + 1, j, rfl, by go_num, by omega, V2.out, _, F4, Q4.out, R4.out⟩
              case measure => simp [intOf] <;> omega
            · have ho' : d2.one (vctx c j) = false := by simpa using ho
              have hcall : Calls Tryd.prog 28 #[.pointer (some ⟨r, 0, none⟩), .int .i64 (vctx c j)] wr fun en w' => en = .returned (.bool false) ∧ ∃ F', RG F0 w0 w' r (d2.bit (vctx c j)) F' := by
                have := R1.out.bit (vctx c j); rwa [ho'] at this
              have HC := Lib.hid hcall
              have R4 : Hid (D.val c j (2 * v) (d2.bit (vctx c j)) = D.val c (k - 1) 1 d1) := by show _ = _; rw [← R3.out, ho']; rfl
              clear ho ho' hcall hor
              go_wp2_with (go_at_call 28; refine HC.out.mono ?_; rintro en w4 ⟨rfl, F4, q⟩; have Q4 := Lib.hid q; clear q)
              go_roundw
              case rel => exact ⟨2 * v, j, by go_num, by go_num, by omega, by have := V2.out; omega, _, F4, Q4.out, R4.out⟩
              case measure => simp [intOf] <;> omega
end Go.Proofs.YtadfolnhomongaaDoor
