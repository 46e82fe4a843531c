/- Walks of the laws: CoderApart. -/
import Derived.Test.YtadfolnhomongaaDoorWalkN1
import Derived.Test.YtadfolnhomongaaDoorRegionC
namespace Go.Proofs.YtadfolnhomongaaDoor
open Go Go.RowKit Pc
set_option maxRecDepth 100000

set_option maxHeartbeats 8000000 in
theorem lawApart_ne (A B : Option Addr) (ca cb : Nat) (la lb : List Bool) (c0 c1 : Int) (w : World) (hla : ((la.length : Nat) : Int) ≤ 9223372036854775807) (hlb : ((lb.length : Nat) : Int) ≤ 9223372036854775807)
    (ha : RdB w A la) (hb : RdB w B lb) (hne : ¬ c0 % 4096 = c1 % 4096) :
    Calls Tryd.prog 9 #[.slice A la.length ca, .slice B lb.length cb, .agg #[.int .i64 c0, .int .i64 c1]] w fun e w' => e = .returned (.bool true) ∧ Upd noBlk w w' := by
  have HA := Lib.hid ha
  have HB := Lib.hid hb
  have hq : (c0 % 4096 == c1 % 4096) = false := by rw [beq_eq_false_iff_ne]; exact hne
  clear ha hb hne
  go_enter Tryd.func9, Tryd.ntmps9
  go_wp2_with (first | (go_at_call 14; refine (sanity_any _).mono ?_; rintro e w1 ⟨rfl, u1⟩; have U1 : Hid (Upd noBlk w w1) := ((Upd.refl noBlk w).alloc _).trans u1; have a0 : w1.cell? ⟨w.heap.size, 0, none⟩ = some (.int .i64 c0) := u1.cell (World.cell?_alloc_new w _ _ 0) id; have a1 : w1.cell? ⟨w.heap.size, 1, none⟩ = some (.int .i64 c1) := u1.cell (World.cell?_alloc_new w _ _ 1) id; clear u1) | (go_at_call 23; refine (NewWriter_any _).mono ?_; rintro e w2 ⟨rfl, rfl⟩))
  all_goals
    have a0' := cell_alloc_keep (.cells wZero 73) a0
    have a1' := cell_alloc_keep (.cells wZero 73) a1
    go_quiet ((go_at_call 21; exact quiet_eq (Mod_any _ 4096 (by decide) (by decide) _)))
    go_wp2_with fail
    have A0 := Lib.hid a0
    have A1 := Lib.hid a1
    clear a0 a1 a0' a1' hq
    go_loopw [10] (fun i wr => ∃ k : Nat, i = .int .i64 k ∧ k ≤ la.length ∧ k ≤ lb.length ∧ k ≤ 100 ∧ ∃ F, WAt w1 wr w1.heap.size (encFrom E.init (turns c0 c1 la lb k)) F) (fun i _ => 100 - (intOf i).toNat)
    case atStart => exact ⟨0, rfl, Nat.zero_le _, Nat.zero_le _, Nat.zero_le _, _, (WAt.make (Upd.refl noBlk w1)).upd (Upd.ofDrewN _ _)⟩
    case round =>
      obtain ⟨k, rfl, hk1, hk2, hk3, F, hd⟩ := hrel
      have HD := Lib.hid hd
      clear hd
      have kb : ((k : Nat) : Int) ≤ 100 := by omega
      by_cases hlt : k < la.length ∧ k < lb.length ∧ k < 100
      · obtain ⟨ba, oa, rfl, ea⟩ := HA.out (by omega)
        obtain ⟨bb, ob, rfl, eb⟩ := HB.out (by omega)
        obtain ⟨h1, h2, h3⟩ := hlt
        have h1' : ((k : Nat) : Int) < ((la.length : Nat) : Int) := by omega
        have h2' : ((k : Nat) : Int) < ((lb.length : Nat) : Int) := by omega
        have h3' : ((k : Nat) : Int) < 100 := by omega
        have c0' : wr.drew.cell? ⟨w.heap.size, 0, none⟩ = some (.int .i64 c0) := HD.out.up.cell A0.out id
        have ca' : wr.drew.cell? ⟨ba, oa + k, none⟩ = some (.bool la[k]) := (U1.out.trans HD.out.up).cell (ea k h1) id
        have hL : Hid ((encFrom E.init (turns c0 c1 la lb k)).done.length + 1 ≤ 1000000) := encFrom_len _ (by rw [turns_length]; omega)
        have hL2 : Hid (((encFrom E.init (turns c0 c1 la lb k)).bit c0 la[k]).done.length + 1 ≤ 1000000) := by
          show _ ≤ _
          have h4 := encFrom_done_length E.init (turns c0 c1 la lb k)
          have h5 := E.bit_done_length (encFrom E.init (turns c0 c1 la lb k)) c0 la[k]
          have h6 : E.init.done.length = 0 := rfl
          rw [turns_length] at h4; omega
        have hN : Hid (encFrom E.init (turns c0 c1 la lb (k + 1)) = ((encFrom E.init (turns c0 c1 la lb k)).bit c0 la[k]).bit c1 lb[k]) := by
          show _ = _
          rw [turns, encFrom_append2]; simp [List.getD, h1, h2]
        have EB := Lib.hid (eb k h2)
        clear ea eb
        go_wp2_with fail
        refine wp_region_ord 7 [(0, true), (1, true), (2, true), (3, true), (4, true), (5, true), (6, true)] (fun w' => w'.cell? ⟨w.heap.size, 0, none⟩ = some (.int .i64 c0) ∧ w'.cell? ⟨ba, oa + k, none⟩ = some (.bool la[k])) (by kernel_rfl) (by kernel_rfl)
          (fun c a d v w h => by cases d <;> exact h) ⟨c0', ca'⟩ ?_
        (apply wpG_sure rfl rfl; focus (intro w' hw'; obtain ⟨g1, g2⟩ := hw'; go_simp; rfl))
        (apply wpG_sure rfl rfl; focus (intro w' hw'; obtain ⟨g1, g2⟩ := hw'; go_simp; rfl))
        (apply wpG_sure rfl rfl; focus (intro w' hw'; obtain ⟨g1, g2⟩ := hw'; go_simp; rfl))
        (apply wpG_sure rfl rfl; focus (intro w' hw'; obtain ⟨g1, g2⟩ := hw'; go_simp; rfl))
        (apply wpG_sure rfl rfl; focus (intro w' hw'; obtain ⟨g1, g2⟩ := hw'; go_simp; rfl))
        (apply wpG_sure rfl rfl; focus (intro w' hw'; obtain ⟨g1, g2⟩ := hw'; go_simp; rfl))
        (apply wpG_sure rfl rfl; focus (intro w' hw'; obtain ⟨g1, g2⟩ := hw'; go_simp; rfl))
        refine wpG_nil ?_
        clear c0' ca'
        go_wp2_with (go_at_call 24; refine (HD.out.drew.bit c0 la[k] hL.out).mono ?_; rintro e w2 ⟨rfl, F2, q2⟩; have HD2 := Lib.hid q2; clear q2)
        have c1' : w2.drew.cell? ⟨w.heap.size, 1, none⟩ = some (.int .i64 c1) := HD2.out.up.cell A1.out id
        have cb' : w2.drew.cell? ⟨bb, ob + k, none⟩ = some (.bool lb[k]) := (U1.out.trans HD2.out.up).cell EB.out id
        refine wp_region_ord 7 [(0, true), (1, true), (2, true), (3, true), (4, true), (5, true), (6, true)] (fun w' => w'.cell? ⟨w.heap.size, 1, none⟩ = some (.int .i64 c1) ∧ w'.cell? ⟨bb, ob + k, none⟩ = some (.bool lb[k])) (by kernel_rfl) (by kernel_rfl)
          (fun c a d v w h => by cases d <;> exact h) ⟨c1', cb'⟩ ?_
        (apply wpG_sure rfl rfl; focus (intro w' hw'; obtain ⟨g1, g2⟩ := hw'; go_simp; rfl))
        (apply wpG_sure rfl rfl; focus (intro w' hw'; obtain ⟨g1, g2⟩ := hw'; go_simp; rfl))
        (apply wpG_sure rfl rfl; focus (intro w' hw'; obtain ⟨g1, g2⟩ := hw'; go_simp; rfl))
        (apply wpG_sure rfl rfl; focus (intro w' hw'; obtain ⟨g1, g2⟩ := hw'; go_simp; rfl))
        (apply wpG_sure rfl rfl; focus (intro w' hw'; obtain ⟨g1, g2⟩ := hw'; go_simp; rfl))
        (apply wpG_sure rfl rfl; focus (intro w' hw'; obtain ⟨g1, g2⟩ := hw'; go_simp; rfl))
        (apply wpG_sure rfl rfl; focus (intro w' hw'; obtain ⟨g1, g2⟩ := hw'; go_simp; rfl))
        refine wpG_nil ?_
        clear c1' cb'
        go_wp2_with (go_at_call 24; refine (HD2.out.drew.bit c1 lb[k] hL2.out).mono ?_; rintro e w3 ⟨rfl, F3, q3⟩; have HD3 := Lib.hid q3; clear q3)
        go_roundw
        case rel => exact ⟨k + 1, by go_num, h1, h2, h3, F3, by rw [hN.out]; exact HD3.out⟩
        case measure => simp [intOf]; omega
      · have hL : Hid ((encFrom E.init (turns c0 c1 la lb k)).done.length + 1 ≤ 1000000) := encFrom_len _ (by rw [turns_length]; omega)
        have hcode : Hid (∀ x, x ∈ encode (turns c0 c1 la lb k) → x < 256) := encode_lt _
        have hX : ∃ j : Nat, j = k := ⟨k, rfl⟩
        go_wp2_with fail
        have h1 : Calls Tryd.prog 25 #[.pointer (some ⟨w1.heap.size, 0, none⟩)] wr fun en w' => en = .returned (.string (str (encode (turns c0 c1 la lb k)))) ∧ WAt w1 w' w1.heap.size (encFrom E.init (turns c0 c1 la lb k)) F := HD.out.finish hL.out
        refine h1.mono ?_
        rintro e w2 ⟨rfl, h2⟩
        have H2 := Lib.hid h2
        clear h1 h2 hX
        go_wp2_with (go_at_call 26; refine (NewReader_any _ _).mono ?_; rintro e w3 ⟨rfl, rfl⟩)
        have h1 : Calls Tryd.prog 25 #[.pointer (some ⟨w1.heap.size, 0, none⟩)] (w2.alloc (.cells (rZero (encode (turns c0 c1 la lb k))) 75)) fun en w' => en = .returned (.string (str (encode (turns c0 c1 la lb k)))) ∧ Upd noBlk (w2.alloc (.cells (rZero (encode (turns c0 c1 la lb k))) 75)) w' :=
          WFinish_any _ _ F _ (H2.out.rep.upd ((Upd.refl noBlk w2).alloc _) (fun _ _ => id)) hL.out
        refine h1.mono ?_
        rintro e w4 ⟨rfl, u4⟩
        have U4 := Lib.hid u4
        clear h1 u4
        go_wp2_with fail
        refine (rNewReader_any _ hcode.out _).mono ?_
        rintro e w5 ⟨rfl, n1, n2⟩
        have HR : Hid (RdAt w1 w5 w2.heap.size w4.heap.size (D.ofCode (encode (turns c0 c1 la lb k))) (D.ofCode (encode (turns c0 c1 la lb k))) 4 (· = w2.heap.size)) := RdAt.make hcode.out H2.out.up U4.out n1 n2
        have HG : Hid (Pc.Good (D.ofCode (encode (turns c0 c1 la lb k))) (turnsFrom c0 c1 la lb 0 k)) := by have := Pc.Good.start (turns c0 c1 la lb k); rwa [← turns_eq]
        clear n1 n2 HD
        go_wp2_with fail
        go_loopw [13, 14, 15] (fun i x y wr => ∃ j : Nat, i = .int .i64 j ∧ j ≤ k ∧ ∃ d F, RdAt w1 wr w2.heap.size w4.heap.size d d (4 + 2 * j) F ∧ Pc.Good d (turnsFrom c0 c1 la lb j (k - j))) (fun i _ _ _ => 100 - (intOf i).toNat)
        case atStart => exact ⟨0, rfl, Nat.zero_le _, _, _, HR.out, HG.out⟩
        case round =>
          obtain ⟨j, rfl, hj, d, F5, hr, hg⟩ := hrel
          have HR2 := Lib.hid hr
          have HG2 := Lib.hid hg
          clear hr hg
          have jb : ((j : Nat) : Int) ≤ 100 := by omega
          by_cases hlt2 : j < k
          · obtain ⟨ba, oa, rfl, ea⟩ := HA.out (by omega)
            obtain ⟨bb, ob, rfl, eb⟩ := HB.out (by omega)
            have h1 : j < la.length := by omega
            have h2 : j < lb.length := by omega
            have h1' : ((j : Nat) : Int) < ((la.length : Nat) : Int) := by omega
            have h2' : ((j : Nat) : Int) < ((lb.length : Nat) : Int) := by omega
            have EA := Lib.hid (ea j h1)
            have EB := Lib.hid (eb j h2)
            have G0 : Pc.Good d ((c0, la[j]) :: (c1, lb[j]) :: turnsFrom c0 c1 la lb (j + 1) (k - (j + 1))) := by
              have := HG2.out
              rw [show k - j = (k - (j + 1)) + 1 by omega, turnsFrom] at this
              simpa [List.getD, h1, h2] using this
            have G1 : Hid (d.one c0 = la[j]) := G0.head.1
            have G2 : Hid ((d.bit c0).one c1 = lb[j]) := G0.head.2.head.1
            have G3 : Hid (Pc.Good ((d.bit c0).bit c1) (turnsFrom c0 c1 la lb (j + 1) (k - (j + 1)))) := G0.head.2.head.2
            have e0 : wr.cell? ⟨w.heap.size, 0, none⟩ = some (.int .i64 c0) := HR2.out.up.cell A0.out id
            clear ea eb G0
            go_wp2_with fail
            refine (HR2.out.cbit c0).mono ?_
            rw [G1.out]
            rintro e w6 ⟨rfl, F6, r6⟩
            have R6 := Lib.hid r6
            have e1 : w6.cell? ⟨w.heap.size, 1, none⟩ = some (.int .i64 c1) := R6.out.up.cell A1.out id
            clear r6 e0
            go_wp2_with fail
            refine (R6.out.cbit c1).mono ?_
            rw [G2.out]
            rintro e w7 ⟨rfl, F7, r7⟩
            have R7 := Lib.hid r7
            have e0 : w7.cell? ⟨w.heap.size, 0, none⟩ = some (.int .i64 c0) := R7.out.up.cell A0.out id
            have ea : w7.cell? ⟨ba, oa + j, none⟩ = some (.bool la[j]) := (U1.out.trans R7.out.up).cell EA.out id
            have eb : w7.cell? ⟨bb, ob + j, none⟩ = some (.bool lb[j]) := (U1.out.trans R7.out.up).cell EB.out id
            clear r7 e1
            go_wp2_with fail
            refine (R7.out.rbit (by omega) c0).mono ?_
            rw [G1.out]
            rintro e w8 ⟨rfl, r8⟩
            have R8 := Lib.hid r8
            have e1 : w8.cell? ⟨w.heap.size, 1, none⟩ = some (.int .i64 c1) := R8.out.up.cell A1.out id
            clear r8 e0 ea eb
            go_wp2_with fail
            refine (R8.out.rbit (by omega) c1).mono ?_
            rw [G2.out]
            rintro e w9 ⟨rfl, r9⟩
            have R9 := Lib.hid r9
            clear r9 e1
            go_wp2
            go_roundw
            case rel => exact ⟨j + 1, by go_num, hlt2, _, _, by rw [show 4 + 2 * (j + 1) = 4 + 2 * j + 1 + 1 by omega]; exact R9.out, G3.out⟩
            case measure => simp [intOf]; omega
          · have hjk : j = k := by omega
            have hge : ¬ (j < la.length ∧ j < lb.length ∧ j < 100) := by omega
            have HF : Hid (Upd noBlk w wr) := U1.out.trans HR2.out.up
            clear hjk
            go_wp2
            go_ret
            exact ⟨rfl, HF.out⟩

set_option maxHeartbeats 2000000 in
theorem lawApart_eq (A B : Option Addr) (ca cb la lb : Nat) (c0 c1 : Int) (w : World) (_hla : ((la : Nat) : Int) ≤ 9223372036854775807) (_hlb : ((lb : Nat) : Int) ≤ 9223372036854775807) (he : c0 % 4096 = c1 % 4096) :
    Calls Tryd.prog 9 #[.slice A la ca, .slice B lb cb, .agg #[.int .i64 c0, .int .i64 c1]] w fun e w' => e = .returned (.bool true) ∧ Upd noBlk w w' := by
  have hq : (c0 % 4096 == c1 % 4096) = true := by rw [beq_iff_eq]; exact he
  clear he
  go_enter Tryd.func9, Tryd.ntmps9
  go_wp2_with (first | (go_at_call 14; refine (sanity_any _).mono ?_; rintro e w1 ⟨rfl, u1⟩; have U1 : Hid (Upd noBlk w w1) := ((Upd.refl noBlk w).alloc _).trans u1; have a0 : w1.cell? ⟨w.heap.size, 0, none⟩ = some (.int .i64 c0) := u1.cell (World.cell?_alloc_new w _ _ 0) id; have a1 : w1.cell? ⟨w.heap.size, 1, none⟩ = some (.int .i64 c1) := u1.cell (World.cell?_alloc_new w _ _ 1) id; clear u1) | (go_at_call 23; refine (NewWriter_any _).mono ?_; rintro e w2 ⟨rfl, rfl⟩))
  all_goals
    have a0' := cell_alloc_keep (.cells wZero 73) a0
    have a1' := cell_alloc_keep (.cells wZero 73) a1
    go_quiet ((go_at_call 21; exact quiet_eq (Mod_any _ 4096 (by decide) (by decide) _)))
    go_wp2
    go_ret
    exact ⟨rfl, (U1.out.alloc _).drewN _⟩

/-- A slice of bools among a law's arguments. -/
def ArgB (w : World) (v : Value) (l : List Bool) : Prop := ∃ A cap, v = .slice A l.length cap ∧ RdB w A l ∧ l.length ≤ maxLen
theorem lawApart (va : Value) (la : List Bool) (vb : Value) (lb : List Bool) (c0 c1 : Int) (w : World) (ha : ArgB w va la) (hb : ArgB w vb lb) (_hc : (Lit.int .i64 c0).wf = true ∧ (Lit.int .i64 c1).wf = true) :
    Calls Tryd.prog 9 #[va, vb, .agg #[.int .i64 c0, .int .i64 c1]] w fun e w' => e = .returned (.bool true) ∧ Upd noBlk w w' := by
  obtain ⟨A, ca, rfl, ra, ma⟩ := ha
  obtain ⟨B, cb, rfl, rb, mb⟩ := hb
  unfold maxLen at ma mb
  by_cases he : c0 % 4096 = c1 % 4096
  · exact lawApart_eq A B ca cb _ _ c0 c1 w (by omega) (by omega) he
  · exact lawApart_ne A B ca cb la lb c0 c1 w (by omega) (by omega) ra rb he
end Go.Proofs.YtadfolnhomongaaDoor
