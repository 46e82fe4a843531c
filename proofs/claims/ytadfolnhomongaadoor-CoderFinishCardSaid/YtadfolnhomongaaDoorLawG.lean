/- Walks of the laws: CoderFinish. -/
import Derived.Test.YtadfolnhomongaaDoorLawC
import Derived.Test.YtadfolnhomongaaDoorWalkL4
import Derived.Test.YtadfolnhomongaaDoorRegionC
namespace Go.Proofs.YtadfolnhomongaaDoor
open Go Go.RowKit Pc
set_option maxRecDepth 100000

/-- The writer behind k bits. -/
structure WAt (w wr : World) (b : Nat) (L : List (Int × Bool)) (F : Nat → Prop) : Prop where
  rep : WRep wr b (encFrom E.init L) F
  new : NewF F w
  up : Upd noBlk w wr

theorem rd_take {w : World} {b off cap k : Nat} {l : List (Int × Bool)} (hk : k ≤ l.length) (hc : ∀ j u, (l.flatMap bitV)[j]? = some u → w.cell? ⟨b, off + j, none⟩ = some u) :
    RdBits w (.slice (some ⟨b, off, none⟩) k cap) (l.take k) :=
  .inr ⟨b, off, cap, by rw [List.length_take, Nat.min_eq_left hk], fun j u hj => hc j u (flat_take l k j u hj)⟩

set_option maxHeartbeats 4000000 in
theorem lawFinish_a (b off n cap : Nat) (l : List (Int × Bool)) (when : Int) (w : World) (h4 : ((n : Nat) : Int) ≤ ((cap : Nat) : Int)) (_h5 : ((cap : Nat) : Int) ≤ 9223372036854775807) (hn : n = l.length)
    (hm : 120 < ((n : Nat) : Int)) (hc : ∀ j u, (l.flatMap bitV)[j]? = some u → w.cell? ⟨b, off + j, none⟩ = some u) (_hw0 : 0 ≤ when) (_hw1 : when ≤ 18446744073709551615) :
    Calls Tryd.prog 8 #[.slice (some ⟨b, off, none⟩) n cap, .int .u64 when] w fun e w' => e = .returned (.bool true) ∧ Upd noBlk w w' := by
  have HC := Lib.hid hc
  have HN := Lib.hid hn
  clear hc hn
  go_enter Tryd.func8, Tryd.ntmps8
  go_wp2_with (first | (go_at_call 14; refine (sanity_any _).mono ?_; rintro e w1 ⟨rfl, u1⟩) | (go_at_call 23; refine (NewWriter_any _).mono ?_; rintro e w2 ⟨rfl, rfl⟩))
  go_loopw [8] (fun i wr => ∃ k : Nat, i = .int .i64 k ∧ k ≤ 120 ∧ k ≤ 120 ∧ k ≤ l.length ∧ ∃ F, WAt w wr w1.heap.size (l.take k) F) (fun i _ => 120 - (intOf i).toNat)
  case atStart => exact ⟨0, rfl, Nat.zero_le _, Nat.zero_le _, Nat.zero_le _, _, NewWriter_rep w1, fun k hk => by subst hk; exact u1.size, u1.alloc _⟩
  case round =>
    obtain ⟨k, rfl, hk, hk2, hk3, F, hd⟩ := hrel
    have HD := Lib.hid hd
    have hkb : ((k : Nat) : Int) ≤ 120 := by omega
    have HL : Hid ((encFrom E.init (l.take k)).done.length + 1 ≤ 1000000) := by
      show _ ≤ _
      have h1 := encFrom_done_length E.init (l.take k)
      have h2 : E.init.done.length = 0 := rfl
      rw [List.length_take] at h1; omega
    clear hd
    by_cases hlt : k < 120
    · have hll : k < l.length := by have := HN.out; omega
      have hkn : k < n := by have := HN.out; omega
      have c0 : wr.cell? ⟨b, off + k * 2, none⟩ = some (.int .i64 l[k].1) := HD.out.up.cell (HC.out _ _ (bitV_get hll).1) id
      have c1 : wr.cell? ⟨b, off + k * 2 + 1, none⟩ = some (.bool l[k].2) := HD.out.up.cell (HC.out _ _ (bitV_get hll).2) id
      have hk' : Hid (encFrom E.init (l.take (k + 1)) = (encFrom E.init (l.take k)).bit l[k].1 l[k].2) := by
        show _ = _; rw [take_snoc hll, encFrom_snoc]
      go_wp2_with fail
      refine wp_region_ord 11 [(0, true), (1, true), (2, true), (3, true), (4, true), (5, true), (6, true), (7, true), (8, true), (9, true), (10, true)] (fun w' => w'.cell? ⟨b, off + k * 2, none⟩ = some (.int .i64 l[k].1) ∧ w'.cell? ⟨b, off + k * 2 + 1, none⟩ = some (.bool l[k].2)) (by kernel_rfl) (by kernel_rfl)
        (fun c a d v w h => by cases d <;> exact h) ⟨c0, c1⟩ ?_
      (apply wpG_sure rfl rfl; focus (intro w' hw'; obtain ⟨g1, g2⟩ := hw'; go_simp; rfl))
      (apply wpG_sure rfl rfl; focus (intro w' hw'; obtain ⟨g1, g2⟩ := hw'; go_simp; rfl))
      (apply wpG_sure rfl rfl; focus (intro w' hw'; obtain ⟨g1, g2⟩ := hw'; go_simp; rfl))
      (apply wpG_sure rfl rfl; focus (intro w' hw'; obtain ⟨g1, g2⟩ := hw'; go_simp; rfl))
      (apply wpG_sure rfl rfl; focus (intro w' hw'; obtain ⟨g1, g2⟩ := hw'; go_simp; rfl))
      (apply wpG_sure rfl rfl; focus (intro w' hw'; obtain ⟨g1, g2⟩ := hw'; go_simp; rfl))
      (apply wpG_sure rfl rfl; focus (intro w' hw'; obtain ⟨g1, g2⟩ := hw'; go_simp; rfl))
      (apply wpG_sure rfl rfl; focus (intro w' hw'; obtain ⟨g1, g2⟩ := hw'; go_simp; rfl))
      (apply wpG_sure rfl rfl; focus (intro w' hw'; obtain ⟨g1, g2⟩ := hw'; go_simp; rfl))
      (apply wpG_sure rfl rfl; focus (intro w' hw'; obtain ⟨g1, g2⟩ := hw'; go_simp; rfl))
      (apply wpG_sure rfl rfl; focus (intro w' hw'; obtain ⟨g1, g2⟩ := hw'; go_simp; rfl))
      refine wpG_nil ?_
      have HL1 : Hid ((encFrom E.init (l.take (k + 1))).done.length + 1 ≤ 1000000) := by
        show _ ≤ _
        have h1 := encFrom_done_length E.init (l.take (k + 1))
        have h2 : E.init.done.length = 0 := rfl
        rw [List.length_take] at h1; omega
      have HLL : Hid ((l.take (k + 1)).length ≤ 100000) := by show _ ≤ _; rw [List.length_take]; omega
      have hkc : ((k : Nat) : Int) + 1 ≤ ((cap : Nat) : Int) := by omega
      have HB : Hid (k + 1 ≤ l.length) := hll
      go_wp2_with (go_at_call 24; refine (WBit_any _ _ _ _ F _ (HD.out.rep.upd (Upd.refl noBlk wr).drew (fun _ _ => id)) HL.out).mono ?_; rintro e w2 ⟨rfl, F', q1, q2, q3⟩; have HW : Hid (WAt w w2 w1.heap.size (l.take (k + 1)) F') := ⟨by rw [hk'.out]; exact q1, fun j hj => (q3 j hj).elim (HD.out.new j) (fun x => Nat.le_trans HD.out.up.size x), upd_new HD.out.up.drew q2 HD.out.new⟩; clear q1 q2 q3)
      · have hcall : Calls Tryd.prog 25 #[.pointer (some ⟨w1.heap.size, 0, none⟩)] w2 fun en w' => en = .returned (.string (str (encode (l.take (k + 1))))) ∧ Upd noBlk w2 w' := WFinish_any _ _ _ _ HW.out.rep HL1.out
        refine hcall.mono ?_
        rintro e w3 ⟨rfl, u3⟩
        have HW3 : Hid (WAt w w3 w1.heap.size (l.take (k + 1)) F') := ⟨HW.out.rep.upd u3 (fun _ _ => id), HW.out.new, HW.out.up.trans u3⟩
        clear HW u3 hcall
        go_wp2_with fail
        refine (rEncode_v _ (l.take (k + 1)) _ (rd_take HB.out (fun j u hj => HW3.out.up.cell (HC.out j u hj) id)) HLL.out).mono ?_
        rintro e w4 ⟨rfl, u4⟩
        have HW4 : Hid (WAt w w4 w1.heap.size (l.take (k + 1)) F') := ⟨HW3.out.rep.upd u4 (fun _ _ => id), HW3.out.new, HW3.out.up.trans u4⟩
        clear HW3 u4
        go_wp2_with fail
        have hcall : Calls Tryd.prog 25 #[.pointer (some ⟨w1.heap.size, 0, none⟩)] w4 fun en w' => en = .returned (.string (str (encode (l.take (k + 1))))) ∧ Upd noBlk w4 w' := WFinish_any _ _ _ _ HW4.out.rep HL1.out
        refine hcall.mono ?_
        rintro e w5 ⟨rfl, u5⟩
        have HW5 : Hid (WAt w w5 w1.heap.size (l.take (k + 1)) F') := ⟨HW4.out.rep.upd u5 (fun _ _ => id), HW4.out.new, HW4.out.up.trans u5⟩
        clear HW4 u5 hcall
        go_wp2
        go_roundw
        case rel => exact ⟨k + 1, by go_num, hlt, by omega, HB.out, F', HW5.out⟩
        case measure => simp [intOf]; omega
      · go_roundw
        case rel => exact ⟨k + 1, by go_num, hlt, by omega, HB.out, F', HW.out⟩
        case measure => simp [intOf]; omega
    · obtain rfl : k = 120 := by omega
      have HLL : Hid ((l.take 120).length ≤ 100000) := by show _ ≤ _; rw [List.length_take]; omega
      have hkc : ((120 : Nat) : Int) ≤ ((cap : Nat) : Int) := by omega
      have HB : Hid (120 ≤ l.length) := hk3
      try push_cast at hkc
      go_wp2_with fail
      refine wp_region_tree 10 (OT.sures [0, 1, 2, 4, 5, 6] (.run 3 (.run 7 (.sure 8 (.sure 9 .nil))))) (fun _ => True) (by kernel_rfl) (by kernel_rfl) (fun c a d v w h => by cases d <;> exact h) trivial ?_
      simp only [OT.sures]
      iterate 2 (refine wpT_sure rfl rfl _ (fun w' _ => by go_simp; rfl) ?_)
      iterate 4 (refine wpT_sureG rfl rfl _ (fun w' _ => by go_simp; rfl) ?_)
      have hcall : Calls Tryd.prog 25 #[.pointer (some ⟨w1.heap.size, 0, none⟩)] wr.drew fun en w' => en = .returned (.string (str (encode (l.take 120)))) ∧ Upd noBlk wr.drew w' := WFinish_any _ _ _ _ (HD.out.rep.upd (Upd.refl noBlk wr).drew (fun _ _ => id)) HL.out
      refine wpT_run (fun _ => True) (fun _ _ => trivial) rfl (fun K hK => ?_)
      go_simp
      refine hcall.mono ?_
      rintro e w3 ⟨rfl, u3⟩
      refine hK _ _ ⟨trivial, ?_⟩
      clear hK K hcall
      have U3 : Hid (Upd noBlk w w3) := HD.out.up.drew.trans u3
      refine wpT_run (fun _ => True) (fun _ _ => trivial) rfl (fun K hK => ?_)
      go_simp
      refine (Encode_v _ (l.take 120) _ (rd_take HB.out (fun j u hj => U3.out.cell (HC.out j u hj) id)) HLL.out).mono ?_
      rintro e w4 ⟨rfl, u4⟩
      refine hK _ _ ⟨trivial, ?_⟩
      clear hK K
      have U4 : Hid (Upd noBlk w w4) := U3.out.trans u4
      refine wpT_sureG rfl rfl _ (fun w' _ => by go_simp; rfl) ?_
      refine wpT_sure rfl rfl _ (fun w' _ => by go_simp; rfl) ?_
      refine wpT_nil ?_
      go_wp2
      go_ret
      exact ⟨rfl, U4.out⟩
set_option maxHeartbeats 4000000 in
theorem lawFinish_b (b off n cap : Nat) (l : List (Int × Bool)) (when : Int) (w : World) (h4 : ((n : Nat) : Int) ≤ ((cap : Nat) : Int)) (_h5 : ((cap : Nat) : Int) ≤ 9223372036854775807) (hn : n = l.length)
    (hm : ((n : Nat) : Int) ≤ 120) (hc : ∀ j u, (l.flatMap bitV)[j]? = some u → w.cell? ⟨b, off + j, none⟩ = some u) (_hw0 : 0 ≤ when) (_hw1 : when ≤ 18446744073709551615) :
    Calls Tryd.prog 8 #[.slice (some ⟨b, off, none⟩) n cap, .int .u64 when] w fun e w' => e = .returned (.bool true) ∧ Upd noBlk w w' := by
  have HC := Lib.hid hc
  have HN := Lib.hid hn
  clear hc hn
  go_enter Tryd.func8, Tryd.ntmps8
  go_wp2_with (first | (go_at_call 14; refine (sanity_any _).mono ?_; rintro e w1 ⟨rfl, u1⟩) | (go_at_call 23; refine (NewWriter_any _).mono ?_; rintro e w2 ⟨rfl, rfl⟩))
  go_loopw [8] (fun i wr => ∃ k : Nat, i = .int .i64 k ∧ k ≤ n ∧ k ≤ 120 ∧ k ≤ l.length ∧ ∃ F, WAt w wr w1.heap.size (l.take k) F) (fun i _ => n - (intOf i).toNat)
  case atStart => exact ⟨0, rfl, Nat.zero_le _, Nat.zero_le _, Nat.zero_le _, _, NewWriter_rep w1, fun k hk => by subst hk; exact u1.size, u1.alloc _⟩
  case round =>
    obtain ⟨k, rfl, hk, hk2, hk3, F, hd⟩ := hrel
    have HD := Lib.hid hd
    have hkb : ((k : Nat) : Int) ≤ 120 := by omega
    have HL : Hid ((encFrom E.init (l.take k)).done.length + 1 ≤ 1000000) := by
      show _ ≤ _
      have h1 := encFrom_done_length E.init (l.take k)
      have h2 : E.init.done.length = 0 := rfl
      rw [List.length_take] at h1; omega
    clear hd
    by_cases hlt : k < n
    · have hll : k < l.length := by have := HN.out; omega
      have hkn : k < n := by have := HN.out; omega
      have c0 : wr.cell? ⟨b, off + k * 2, none⟩ = some (.int .i64 l[k].1) := HD.out.up.cell (HC.out _ _ (bitV_get hll).1) id
      have c1 : wr.cell? ⟨b, off + k * 2 + 1, none⟩ = some (.bool l[k].2) := HD.out.up.cell (HC.out _ _ (bitV_get hll).2) id
      have hk' : Hid (encFrom E.init (l.take (k + 1)) = (encFrom E.init (l.take k)).bit l[k].1 l[k].2) := by
        show _ = _; rw [take_snoc hll, encFrom_snoc]
      go_wp2_with fail
      refine wp_region_ord 11 [(0, true), (1, true), (2, true), (3, true), (4, true), (5, true), (6, true), (7, true), (8, true), (9, true), (10, true)] (fun w' => w'.cell? ⟨b, off + k * 2, none⟩ = some (.int .i64 l[k].1) ∧ w'.cell? ⟨b, off + k * 2 + 1, none⟩ = some (.bool l[k].2)) (by kernel_rfl) (by kernel_rfl)
        (fun c a d v w h => by cases d <;> exact h) ⟨c0, c1⟩ ?_
      (apply wpG_sure rfl rfl; focus (intro w' hw'; obtain ⟨g1, g2⟩ := hw'; go_simp; rfl))
      (apply wpG_sure rfl rfl; focus (intro w' hw'; obtain ⟨g1, g2⟩ := hw'; go_simp; rfl))
      (apply wpG_sure rfl rfl; focus (intro w' hw'; obtain ⟨g1, g2⟩ := hw'; go_simp; rfl))
      (apply wpG_sure rfl rfl; focus (intro w' hw'; obtain ⟨g1, g2⟩ := hw'; go_simp; rfl))
      (apply wpG_sure rfl rfl; focus (intro w' hw'; obtain ⟨g1, g2⟩ := hw'; go_simp; rfl))
      (apply wpG_sure rfl rfl; focus (intro w' hw'; obtain ⟨g1, g2⟩ := hw'; go_simp; rfl))
      (apply wpG_sure rfl rfl; focus (intro w' hw'; obtain ⟨g1, g2⟩ := hw'; go_simp; rfl))
      (apply wpG_sure rfl rfl; focus (intro w' hw'; obtain ⟨g1, g2⟩ := hw'; go_simp; rfl))
      (apply wpG_sure rfl rfl; focus (intro w' hw'; obtain ⟨g1, g2⟩ := hw'; go_simp; rfl))
      (apply wpG_sure rfl rfl; focus (intro w' hw'; obtain ⟨g1, g2⟩ := hw'; go_simp; rfl))
      (apply wpG_sure rfl rfl; focus (intro w' hw'; obtain ⟨g1, g2⟩ := hw'; go_simp; rfl))
      refine wpG_nil ?_
      have HL1 : Hid ((encFrom E.init (l.take (k + 1))).done.length + 1 ≤ 1000000) := by
        show _ ≤ _
        have h1 := encFrom_done_length E.init (l.take (k + 1))
        have h2 : E.init.done.length = 0 := rfl
        rw [List.length_take] at h1; omega
      have HLL : Hid ((l.take (k + 1)).length ≤ 100000) := by show _ ≤ _; rw [List.length_take]; omega
      have hkc : ((k : Nat) : Int) + 1 ≤ ((cap : Nat) : Int) := by omega
      have HB : Hid (k + 1 ≤ l.length) := hll
      go_wp2_with (go_at_call 24; refine (WBit_any _ _ _ _ F _ (HD.out.rep.upd (Upd.refl noBlk wr).drew (fun _ _ => id)) HL.out).mono ?_; rintro e w2 ⟨rfl, F', q1, q2, q3⟩; have HW : Hid (WAt w w2 w1.heap.size (l.take (k + 1)) F') := ⟨by rw [hk'.out]; exact q1, fun j hj => (q3 j hj).elim (HD.out.new j) (fun x => Nat.le_trans HD.out.up.size x), upd_new HD.out.up.drew q2 HD.out.new⟩; clear q1 q2 q3)
      · have hcall : Calls Tryd.prog 25 #[.pointer (some ⟨w1.heap.size, 0, none⟩)] w2 fun en w' => en = .returned (.string (str (encode (l.take (k + 1))))) ∧ Upd noBlk w2 w' := WFinish_any _ _ _ _ HW.out.rep HL1.out
        refine hcall.mono ?_
        rintro e w3 ⟨rfl, u3⟩
        have HW3 : Hid (WAt w w3 w1.heap.size (l.take (k + 1)) F') := ⟨HW.out.rep.upd u3 (fun _ _ => id), HW.out.new, HW.out.up.trans u3⟩
        clear HW u3 hcall
        go_wp2_with fail
        refine (rEncode_v _ (l.take (k + 1)) _ (rd_take HB.out (fun j u hj => HW3.out.up.cell (HC.out j u hj) id)) HLL.out).mono ?_
        rintro e w4 ⟨rfl, u4⟩
        have HW4 : Hid (WAt w w4 w1.heap.size (l.take (k + 1)) F') := ⟨HW3.out.rep.upd u4 (fun _ _ => id), HW3.out.new, HW3.out.up.trans u4⟩
        clear HW3 u4
        go_wp2_with fail
        have hcall : Calls Tryd.prog 25 #[.pointer (some ⟨w1.heap.size, 0, none⟩)] w4 fun en w' => en = .returned (.string (str (encode (l.take (k + 1))))) ∧ Upd noBlk w4 w' := WFinish_any _ _ _ _ HW4.out.rep HL1.out
        refine hcall.mono ?_
        rintro e w5 ⟨rfl, u5⟩
        have HW5 : Hid (WAt w w5 w1.heap.size (l.take (k + 1)) F') := ⟨HW4.out.rep.upd u5 (fun _ _ => id), HW4.out.new, HW4.out.up.trans u5⟩
        clear HW4 u5 hcall
        go_wp2
        go_roundw
        case rel => exact ⟨k + 1, by go_num, hlt, by omega, HB.out, F', HW5.out⟩
        case measure => simp [intOf]; omega
      · go_roundw
        case rel => exact ⟨k + 1, by go_num, hlt, by omega, HB.out, F', HW.out⟩
        case measure => simp [intOf]; omega
    · obtain rfl : n = k := by omega
      have HLL : Hid ((l.take n).length ≤ 100000) := by show _ ≤ _; rw [List.length_take]; omega
      have hkc : ((n : Nat) : Int) ≤ ((cap : Nat) : Int) := by omega
      have HB : Hid (n ≤ l.length) := hk3
      try push_cast at hkc
      go_wp2_with fail
      refine wp_region_tree 10 (OT.sures [0, 1, 2, 4, 5, 6] (.run 3 (.run 7 (.sure 8 (.sure 9 .nil))))) (fun _ => True) (by kernel_rfl) (by kernel_rfl) (fun c a d v w h => by cases d <;> exact h) trivial ?_
      simp only [OT.sures]
      iterate 2 (refine wpT_sure rfl rfl _ (fun w' _ => by go_simp; rfl) ?_)
      iterate 4 (refine wpT_sureG rfl rfl _ (fun w' _ => by go_simp; rfl) ?_)
      have hcall : Calls Tryd.prog 25 #[.pointer (some ⟨w1.heap.size, 0, none⟩)] wr.drew fun en w' => en = .returned (.string (str (encode (l.take n)))) ∧ Upd noBlk wr.drew w' := WFinish_any _ _ _ _ (HD.out.rep.upd (Upd.refl noBlk wr).drew (fun _ _ => id)) HL.out
      refine wpT_run (fun _ => True) (fun _ _ => trivial) rfl (fun K hK => ?_)
      go_simp
      refine hcall.mono ?_
      rintro e w3 ⟨rfl, u3⟩
      refine hK _ _ ⟨trivial, ?_⟩
      clear hK K hcall
      have U3 : Hid (Upd noBlk w w3) := HD.out.up.drew.trans u3
      refine wpT_run (fun _ => True) (fun _ _ => trivial) rfl (fun K hK => ?_)
      go_simp
      refine (Encode_v _ (l.take n) _ (rd_take HB.out (fun j u hj => U3.out.cell (HC.out j u hj) id)) HLL.out).mono ?_
      rintro e w4 ⟨rfl, u4⟩
      refine hK _ _ ⟨trivial, ?_⟩
      clear hK K
      have U4 : Hid (Upd noBlk w w4) := U3.out.trans u4
      refine wpT_sureG rfl rfl _ (fun w' _ => by go_simp; rfl) ?_
      refine wpT_sure rfl rfl _ (fun w' _ => by go_simp; rfl) ?_
      refine wpT_nil ?_
      go_wp2
      go_ret
      exact ⟨rfl, U4.out⟩
end Go.Proofs.YtadfolnhomongaaDoor
