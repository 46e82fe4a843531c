/- Walks: numbers written, by the coder and by the reference. -/
import Derived.Test.YtadfolnhomongaaDoorWalkN1
import Derived.Test.YtadfolnhomongaaDoorWalkR6
import Derived.Test.YtadfolnhomongaaDoorShelf
import Derived.Laws.BitsAllLaws
namespace Go.Proofs.YtadfolnhomongaaDoor
open Go Go.RowKit Pc
set_option maxRecDepth 100000

/-- A writer whose blocks were F0 in the first world. -/
structure WG (F0 : Nat → Prop) (w wr : World) (b : Nat) (e : E) (F : Nat → Prop) : Prop where
  rep : WRep wr b e F
  new : ∀ k, F k → F0 k ∨ w.heap.size ≤ k
  up : Upd F0 w wr
theorem WG.self {w : World} {b : Nat} {e : E} {F : Nat → Prop} (h : WRep w b e F) : WG F w w b e F := ⟨h, fun _ hk => .inl hk, Upd.refl _ _⟩
theorem upd_foot {F0 F : Nat → Prop} {w w1 w2 : World} (h : Upd F0 w w1) (k : Upd F w1 w2) (hF : ∀ k, F k → F0 k ∨ w.heap.size ≤ k) : Upd F0 w w2 :=
  h.then k (fun i hi hf => (hF i hf).elim id (fun x => absurd hi (by omega)))
theorem WG.upd {F0 : Nat → Prop} {w wr w2 : World} {b : Nat} {e : E} {F : Nat → Prop} (h : WG F0 w wr b e F) (hu : Upd noBlk wr w2) : WG F0 w w2 b e F :=
  ⟨h.rep.upd hu (fun _ _ => id), h.new, h.up.trans (hu.mono (fun _ _ x => x.elim))⟩
theorem WG.bit {F0 : Nat → Prop} {w wr : World} {b : Nat} {e : E} {F : Nat → Prop} (h : WG F0 w wr b e F) (c : Int) (one : Bool) (hlen : e.done.length + 1 ≤ 1000000) :
    Calls Tryd.prog 24 #[.pointer (some ⟨b, 0, none⟩), .int .i64 c, .bool one] wr fun en w' => en = .returned (.tuple #[]) ∧ ∃ F', WG F0 w w' b (e.bit c one) F' := by
  refine (WBit_any b c one e F wr h.rep hlen).mono ?_
  rintro en w2 ⟨rfl, F', q1, q2, q3⟩
  exact ⟨rfl, F', q1, fun j hj => (q3 j hj).elim (h.new j) (fun x => .inr (Nat.le_trans h.up.size x)), upd_foot h.up q2 h.new⟩

set_option maxHeartbeats 1000000 in
theorem all_W {F0 : Nat → Prop} {w0 w : World} {b : Nat} {e : E} {F : Nat → Prop} (h : WG F0 w0 w b e F) (g : Nat) (c : Int) (one : Bool) (hc : w.cell? ⟨g, 0, none⟩ = some (.bool one)) (hlen : e.done.length + 1 ≤ 1000000) :
    Calls Tryd.prog 49 #[.pointer (some ⟨b, 0, none⟩), .int .i64 c, .slice (some ⟨g, 0, none⟩) 1 1] w fun en w' => en = .returned (.tuple #[]) ∧ ∃ F', WG F0 w0 w' b (e.bit c one) F' := by
  have H := Lib.hid h
  have HL := Lib.hid hlen
  clear h hlen
  go_enter Tryd.func49, Tryd.ntmps49
  go_wp2_with fail
  refine wp_loop_rounds 2 ?_
  rw [rounds_succ]
  go_wp2_with (go_at_call 24; refine (H.out.bit c one HL.out).mono ?_; rintro e w2 ⟨rfl, F', q⟩; have Q := Lib.hid q; clear q)
  rw [rounds_succ]
  go_wp2
  go_end0
  exact ⟨rfl, F', Q.out⟩
theorem bitLen_eq {n : Nat} (h : n < 2 ^ 64) : Lib.bitLen n = blen n := by
  have aux : ∀ f x, x < 2 ^ f → Lib.bitLenAux f x = blen x := by
    intro f
    induction f with
    | zero => intro x hx; have : x = 0 := by omega
              subst this; rfl
    | succ f ih =>
      intro x hx
      unfold Lib.bitLenAux
      split
      · rename_i h0; subst h0; rfl
      · have h1 := ih (x / 2) (by rw [Nat.pow_succ] at hx; omega)
        have h2 := blen_pos (n := x) (by omega)
        omega
  exact aux 64 n h

theorem bit_val {n j : Nat} (hn : n < 2 ^ 64) : (bits .and .u64 (((n : Nat) : Int) / 2 ^ j) 1 == 1) = decide (n / 2 ^ j % 2 = 1) := by
  have e : ((n : Nat) : Int) / 2 ^ j = ((n / 2 ^ j : Nat) : Int) := by push_cast; rfl
  have hq : n / 2 ^ j ≤ n := Nat.div_le_self _ _
  have h1 := u64_and_nat (n / 2 ^ j) 1 (by omega) (by omega)
  rw [e, show (1 : Int) = ((1 : Nat) : Int) from rfl, h1, nat_mask1, Bool.eq_iff_iff]
  simp
  omega

set_option maxHeartbeats 1000000 in
theorem WNumber_any {F0 : Nat → Prop} {w0 w : World} {b : Nat} {e : E} {F : Nat → Prop} (h : WG F0 w0 w b e F) (c : Int) (n : Nat) (hn : n < 2 ^ 64) (hlen : e.done.length + 200 ≤ 1000000) :
    Calls Tryd.prog 33 #[.pointer (some ⟨b, 0, none⟩), .int .i64 c, .int .u64 n] w fun en w' => en = .returned (.tuple #[]) ∧ ∃ F', WG F0 w0 w' b (encFrom e (numBits c n)) F' := by
  have H := Lib.hid h
  have HL := Lib.hid hlen
  have HN := Lib.hid hn
  have hB := bitLen_eq hn
  have hk := blen_le hn
  have hnn : 0 ≤ ((n : Nat) : Int) := by omega
  clear h hlen hn
  go_enter Tryd.func33, Tryd.ntmps33
  go_wp2_with (go_at_call 48; refine (Tryd.bits_Len64 _ _ hnn (by have := HN.out; omega)).mono ?_; rw [Int.toNat_natCast, hB]; rintro e w2 ⟨rfl, rfl⟩)
  have H' := Lib.hid (H.out)
  clear H hB
  go_loopw [7, 12] (fun _ i wr => ∃ k : Nat, i = .int .i64 k ∧ k ≤ blen n ∧ ∃ e' F', WG F0 w0 wr b e' F' ∧ e'.done.length ≤ e.done.length + k ∧ encFrom e' (obits c k (blen n - k) ++ vbits c n (blen n - 1)) = encFrom e (numBits c n)) (fun _ i _ => 64 - (intOf i).toNat)
  case atStart => exact ⟨0, rfl, Nat.zero_le _, e, F, H'.out, Nat.le_refl _, rfl⟩
  case round =>
    obtain ⟨k, rfl, hkn, e', F', h1, h2, h3⟩ := hrel
    have H1 := Lib.hid h1
    have H2 := Lib.hid h2
    have H3 := Lib.hid h3
    clear h1 h2 h3 H'
    have hkb : ((k : Nat) : Int) ≤ 64 := by omega
    have HS : Hid (e'.done.length + 2 ≤ 1000000) := by show _ ≤ _; have := H2.out; have := HL.out; omega
    by_cases hlt : k < blen n
    · have HX : Hid (encFrom (e'.bit (nctx c k) true) (obits c (k + 1) (blen n - (k + 1)) ++ vbits c n (blen n - 1)) = encFrom e (numBits c n)) := by
        show _ = _; rw [← H3.out, show blen n - k = (blen n - (k + 1)) + 1 by omega]; rfl
      go_wp2_with (go_at_call 49; refine (all_W (H1.out.upd ((Upd.refl noBlk wr).alloc _)) _ _ true (World.cell?_alloc_new wr _ _ 0) (by have := HS.out; omega)).mono ?_; rintro en w3 ⟨rfl, F3, q⟩; have Q : Hid (WG F0 w0 w3 b (e'.bit (nctx c k) true) F3) := q; clear q)
      go_roundw
      case rel => exact ⟨k + 1, by go_num, hlt, _, F3, Q.out, by have := E.bit_done_length e' (nctx c k) true; have := H2.out; omega, HX.out⟩
      case measure => simp [intOf]; omega
    · have hkk : k = blen n := by omega
      have HX : Hid (encFrom (e'.bit (nctx c (blen n)) false) (vbits c n (blen n - 1)) = encFrom e (numBits c n)) := by
        show _ = _; rw [← H3.out, hkk, Nat.sub_self]; rfl
      have HT : Hid (e'.done.length ≤ e.done.length + 64) := by show _ ≤ _; have := H2.out; omega
      clear hkk H2 H3
      go_wp2_with (go_at_call 49; refine (all_W (H1.out.upd ((Upd.refl noBlk wr).alloc _)) _ _ false (World.cell?_alloc_new wr _ _ 0) (by have := HS.out; omega)).mono ?_; rintro en w3 ⟨rfl, F3, q⟩; have Q : Hid (WG F0 w0 w3 b (e'.bit (nctx c (blen n)) false) F3) := q; clear q)
      go_loopw [8] (fun i wr => ∃ (z : Int) (m : Nat), i = .int .i64 z ∧ (z = ((m : Nat) : Int) - 1 ∨ (z = -2 ∧ m = 0)) ∧ m ≤ 63 ∧ ∃ e' F', WG F0 w0 wr b e' F' ∧ e'.done.length + m ≤ e.done.length + 130 ∧ encFrom e' (vbits c n m) = encFrom e (numBits c n)) (fun i _ => (intOf i + 1).toNat)
      case atStart => exact ⟨_, blen n - 1, rfl, by omega, by omega, _, F3, Q.out, by have := E.bit_done_length e' (nctx c (blen n)) false; have := HT.out; omega, HX.out⟩
      case round =>
        obtain ⟨z, m, rfl, hz, hm, e2, F2, h1, h2, h3⟩ := hrel
        have R1 := Lib.hid h1
        have R2 := Lib.hid h2
        have R3 := Lib.hid h3
        clear h1 h2 h3 H1 Q HX HS HT
        rcases m with _ | j
        · have hz0 : z < 0 := by omega
          have R4 : Hid (encFrom e2 [] = encFrom e (numBits c n)) := R3.out
          clear hz
          go_wp2_with fail
          go_end0
          exact ⟨rfl, F2, by rw [← R4.out]; exact R1.out⟩
        · obtain rfl : z = ((j : Nat) : Int) := by omega
          have hj : ((j : Nat) : Int) ≤ 63 := by omega
          have HX : Hid (encFrom (e2.bit (vctx c j) (decide (n / 2 ^ j % 2 = 1))) (vbits c n j) = encFrom e (numBits c n)) := R3.out
          clear hz
          have BV : Hid ((bits .and .u64 (((n : Nat) : Int) / 2 ^ j) 1 == 1) = decide (n / 2 ^ j % 2 = 1)) := bit_val HN.out
          have HS : Hid (e2.done.length + 1 ≤ 1000000) := by show _ ≤ _; have := R2.out; have := HL.out; omega
          go_wp2_with (go_at_call 49; refine (all_W (R1.out.upd ((Upd.refl noBlk wr).alloc _)) _ _ _ (World.cell?_alloc_new wr _ _ 0) HS.out).mono ?_; rintro en w4 ⟨rfl, F4, q⟩; have Q : Hid (WG F0 w0 w4 b (e2.bit (vctx c j) (decide (n / 2 ^ j % 2 = 1))) F4) := (by rw [← BV.out]; exact q); clear q)
          go_roundw
          case rel => exact ⟨_, j, by go_num, by omega, by omega, _, F4, Q.out, by have := E.bit_done_length e2 (vctx c j) (decide (n / 2 ^ j % 2 = 1)); have := R2.out; omega, HX.out⟩
          case measure => simp [intOf] <;> omega

/-- A reference's writer whose blocks were F0 in the first world. -/
structure RWG (F0 : Nat → Prop) (w wr : World) (b : Nat) (e : E) (F : Nat → Prop) : Prop where
  rep : RWRep wr b e F
  new : ∀ k, F k → F0 k ∨ w.heap.size ≤ k
  up : Upd F0 w wr
theorem RWG.self {w : World} {b : Nat} {e : E} {F : Nat → Prop} (h : RWRep w b e F) : RWG F w w b e F := ⟨h, fun _ hk => .inl hk, Upd.refl _ _⟩
theorem RWG.upd {F0 : Nat → Prop} {w wr w2 : World} {b : Nat} {e : E} {F : Nat → Prop} (h : RWG F0 w wr b e F) (hu : Upd noBlk wr w2) : RWG F0 w w2 b e F :=
  ⟨h.rep.upd hu (fun _ _ => id), h.new, h.up.trans (hu.mono (fun _ _ x => x.elim))⟩
theorem RWG.bit {F0 : Nat → Prop} {w wr : World} {b : Nat} {e : E} {F : Nat → Prop} (h : RWG F0 w wr b e F) (c : Int) (one : Bool) (hlen : e.done.length + 1 ≤ 1000000) :
    Calls Tryd.prog 35 #[.pointer (some ⟨b, 0, none⟩), .int .i64 c, .bool one] wr fun en w' => en = .returned (.tuple #[]) ∧ ∃ F', RWG F0 w w' b (e.bit c one) F' := by
  refine (rWBit_any b c one e F wr h.rep hlen).mono ?_
  rintro en w2 ⟨rfl, F', q1, q2, q3⟩
  exact ⟨rfl, F', q1, fun j hj => (q3 j hj).elim (h.new j) (fun x => .inr (Nat.le_trans h.up.size x)), upd_foot h.up q2 h.new⟩

set_option maxHeartbeats 1000000 in
theorem rlength_any (n : Nat) (hn : n < 2 ^ 64) (w : World) : Calls Tryd.prog 50 #[.int .u64 n] w fun e w' => e = .returned (.int .i64 (blen n)) ∧ w = w' := by
  have hk := blen_le hn
  have HN := Lib.hid hn
  have hnn : ((n : Nat) : Int) ≤ 18446744073709551615 := by omega
  clear hn
  go_enter Tryd.func50, Tryd.ntmps50
  go_wp2_with fail
  go_loop [0, 3] (fun x k => ∃ y j : Nat, x = .int .u64 y ∧ k = .int .i64 j ∧ y ≤ n ∧ j + blen y = blen n) (fun x _ => (intOf x).toNat)
  case atStart => exact ⟨n, 0, rfl, rfl, Nat.le_refl _, by omega⟩
  case round =>
    obtain ⟨y, j, rfl, rfl, hy, hj⟩ := hrel
    have hjb : ((j : Nat) : Int) ≤ 64 := by omega
    by_cases hlt : 0 < y
    · have HJ : Hid (j + 1 + blen (y / 2) = blen n) := by show _ = _; have := blen_pos hlt; omega
      have hlt' : 0 < ((y : Nat) : Int) := by omega
      have hyn : ((y : Nat) : Int) ≤ 18446744073709551615 := by omega
      clear hj
      go_wp2
      go_round
      case rel => exact ⟨y / 2, j + 1, by go_num, by go_num, by omega, HJ.out⟩
      case measure => simp [intOf]; omega
    · obtain rfl : y = 0 := by omega
      have HJ : Hid (j = blen n) := by show _ = _; rw [blen_zero] at hj; omega
      have h1 : decide (((0 : Nat) : Int) > 0) = false := by decide
      clear hj hlt
      go_wp2
      go_ret
      exact ⟨by rw [HJ.out]; rfl, rfl⟩
end Go.Proofs.YtadfolnhomongaaDoor
