/- Walks of the program of the polygon files: writeBinary. Walks of the program of the polygon files: writePolys. -/
import Derived.Test.YtojdgdeefhndiaaGreatDoorM43
namespace Go.Proofs.YtojdgdeefhndiaaGreatDoor
open Go Go.RowKit Sp Bg
set_option maxRecDepth 100000
theorem u8_ne_poly : ∀ (c : Array Value) (fz : Nat × Nat) (cs : Array Value) (fr : Nat × Nat), (Obj.cells cs 43 fr) ≠ .cells c 5 fz := fun c fz cs fr e => by cases e
set_option maxHeartbeats 1500000 in
theorem pWriteBinary_any (v : Value) (ps : List Poly) (hn : ps.length ≤ 100) (hv : ∀ p, p ∈ ps → validP p.1) (w : World) (h : RdPolys w v ps) :
    Calls Tryz.prog 36 #[v] w fun en w' => strR (write3 ps) w en w' := by
  obtain ⟨A, cap, rfl, hr⟩ := h
  have HR := Lib.hid hr
  have HV := Lib.hid hv
  have hlen : ((ps.length : Nat) : Int) ≤ 100 := by omega
  have HLT : Hid ((write3 ps).length ≤ 100000) := by have := (write3_length ps hv).2; show _ ≤ _; omega
  have HF := Lib.hid (Bld.fresh w)
  have HU0 : Hid (Upd noBlk w (w.alloc (.cells #[.pointer none, .slice none 0 0] 93))) := (Upd.refl _ _).alloc _
  have HB := Lib.hid (fixed_any ps.length 4 (by omega) (by omega) (w.alloc (.cells #[.pointer none, .slice none 0 0] 93)))
  clear hr hv
  go_enter Tryz.func36, Tryz.ntmps36
  go_wp2_with fail
  refine HB.out.mono ?_
  rintro e1 w1 ⟨rfl, u1⟩
  have U1 := Lib.hid (HU0.out.trans u1)
  have HS := Lib.hid (wString_any w.heap.size w.heap.size [] (magic ++ leB 4 ps.length) w1 (HF.out.keep u1) (by simp [leB_length, magic]) U1.out.size)
  rw [← bs_append] at HS
  have hs1 : (bs (leB 4 ps.length)).size ≤ 4 := by rw [bs_size, leB_length]; omega
  clear u1 HB
  go_wp2_with fail
  refine HS.out.mono ?_
  rintro e1 w2 ⟨v2, rfl, b2, k2⟩
  have U2 := Lib.hid (k2.upd U1.out (Nat.le_refl _))
  have B2 := Lib.hid b2
  have H0 : Hid (write3 ps = magic ++ leB 4 ps.length ++ bodyB (ps.drop 0)) := rfl
  clear b2 k2 HS HF
  go_wp2_with fail
  go_loopw [5, 7, 15, 27] (fun _ _ i _ wr => ∃ (k : Nat) (acc : Bytes), i = .int .i64 k ∧ k ≤ ps.length ∧ write3 ps = acc ++ bodyB (ps.drop k) ∧ Bld w.heap.size w.heap.size acc wr ∧ Upd noBlk w wr) (fun _ _ i _ _ => ps.length - (intOf i).toNat)
  case atStart => exact ⟨0, magic ++ leB 4 ps.length, rfl, Nat.zero_le _, H0.out, B2.out, U2.out⟩
  case round =>
    obtain ⟨k, acc, rfl, hk, hsp, hbl, hu⟩ := hrel
    have HU := Lib.hid hu
    have HSP := Lib.hid hsp
    have HBL := Lib.hid hbl
    have HAL : Hid (acc.length ≤ 100000) := by have := HLT.out; rw [HSP.out, List.length_append] at this; show _ ≤ _; omega
    clear hu hsp hbl
    by_cases hlt : k < ps.length
    · have hlt' : ((k : Nat) : Int) < ((ps.length : Nat) : Int) := by omega
      obtain ⟨b, off, rfl, f1⟩ := HR.out (by omega)
      obtain ⟨pv, c10, c11, r1⟩ := f1 k hlt
      have d0 := HU.out.cell c10 id
      have d1 := HU.out.cell c11 id
      have HBD := Lib.hid (bodyB_drop hlt)
      have HVK := Lib.hid (HV.out _ (List.getElem_mem hlt))
      have r2 := r1
      clear f1 c10 c11 r1
      generalize ps[k] = pk at *
      obtain ⟨pts, place⟩ := pk
      obtain ⟨B, cp, rfl, e1⟩ := r2
      have E1 := Lib.hid e1
      clear e1
      simp only at d0 d1
      have hpl : ((pts.length : Nat) : Int) ≤ 64 := by have := HVK.out.2.1; simp only at this; omega
      have HBK : Hid ((wr.alloc (.cells #[.slice B pts.length cp, .int .i64 place] 43)).heap[wr.heap.size]? = some (.cells #[.slice B pts.length cp, .int .i64 place] 43)) := heap_alloc_new _ _
      have HUA : Hid (Upd noBlk wr (wr.alloc (.cells #[.slice B pts.length cp, .int .i64 place] 43))) := (Upd.refl _ _).alloc _
      have HB := Lib.hid (fixed_any pts.length 1 (by omega) (by omega) (wr.alloc (.cells #[.slice B pts.length cp, .int .i64 place] 43)))
      go_wp2_with fail
      refine HB.out.mono ?_
      rintro e1 w3 ⟨rfl, u3⟩
      have HBK3 := Lib.hid (u3.heap HBK.out id)
      have U3 := Lib.hid (HUA.out.trans u3)
      have HS := Lib.hid (wString_any w.heap.size w.heap.size acc (leB 1 pts.length) w3 (HBL.out.keep U3.out) (by rw [leB_length]; have := HAL.out; omega) (Nat.le_trans HU.out.size U3.out.size))
      clear u3 HB HBK
      go_wp2_with fail
      refine HS.out.mono ?_
      rintro e1 w4 ⟨v4, rfl, b4, k4⟩
      have hbk4 := k4.heap HBK3.out (by have := HBL.out.blk.2; omega) (fun c fz => u8_ne_poly c fz _ _)
      have U4 := Lib.hid (k4.upd (HU.out.trans U3.out) (Nat.le_refl _))
      have B4 := Lib.hid b4
      have q0 : w4.cell? ⟨wr.heap.size, 0, none⟩ = some (.slice B pts.length cp) := by simp [World.cell?, hbk4]
      have H1 : Hid (write3 ps = acc ++ leB 1 pts.length ++ (ptsB (pts.drop 0) ++ bodyB (ps.drop (k + 1)))) := by show _ = _; rw [HSP.out, HBD.out, polyB]; simp
      clear b4 k4 HS hbk4
      go_wp2_with fail
      obtain ⟨wo, rfl⟩ : ∃ wo : World, wo = wr := ⟨_, rfl⟩
      go_loopw [7, 27] (fun _ i wr' => ∃ (j : Nat) (acc2 : Bytes), i = .int .i64 j ∧ j ≤ pts.length ∧ write3 ps = acc2 ++ (ptsB (pts.drop j) ++ bodyB (ps.drop (k + 1))) ∧ Bld w.heap.size w.heap.size acc2 wr' ∧ Upd noBlk w wr') (fun _ i _ => pts.length - (intOf i).toNat)
      case atStart => exact ⟨0, acc ++ leB 1 pts.length, rfl, Nat.zero_le _, H1.out, B4.out, U4.out⟩
      case round =>
        obtain ⟨j, acc2, rfl, hj, hsp, hbl, hu⟩ := hrel
        have HU4 := Lib.hid hu
        have HS4 := Lib.hid hsp
        have HBL4 := Lib.hid hbl
        have HAL4 : Hid (acc2.length ≤ 100000) := by have := HLT.out; rw [HS4.out, List.length_append] at this; show _ ≤ _; omega
        clear hu hsp hbl
        by_cases hjt : j < pts.length
        · have hjt' : ((j : Nat) : Int) < ((pts.length : Nat) : Int) := by omega
          obtain ⟨d1, p1, rfl, g1⟩ := E1.out (by omega)
          obtain ⟨x1, x2, x3⟩ := (g1 j hjt).keep HU4.out
          have HPD := Lib.hid (ptsB_drop hjt)
          have hin : inR pts[j] = true := List.all_eq_true.1 HVK.out.2.2 _ (List.getElem_mem hjt)
          clear g1
          generalize pts[j] = pt at *
          obtain ⟨px, py, pz⟩ := pt
          obtain ⟨i1, i2, i3, i4, i5, i6⟩ := (inR_iff _ _ _).1 hin
          obtain ⟨nx, rfl⟩ : ∃ n : Nat, px = n := ⟨px.toNat, by omega⟩
          obtain ⟨ny, rfl⟩ : ∃ n : Nat, py = n := ⟨py.toNat, by omega⟩
          obtain ⟨nz, rfl⟩ : ∃ n : Nat, pz = n := ⟨pz.toNat, by omega⟩
          simp only at x1 x2 x3
          obtain ⟨wc, hwc⟩ : ∃ wc, wc = wr.alloc (.cells #[.int .i64 (nx : Int), .int .i64 (ny : Int), .int .i64 (nz : Int)] 51) := ⟨_, rfl⟩
          have hcb : wc.heap[wr.heap.size]? = some (.cells #[.int .i64 (nx : Int), .int .i64 (ny : Int), .int .i64 (nz : Int)] 51) := by rw [hwc]; exact heap_alloc_new _ _
          have HUC : Hid (Upd noBlk wr wc) := by show Upd _ _ _; rw [hwc]; exact (Upd.refl _ _).alloc _
          have X1 : Hid (wc.cell? ⟨wr.heap.size, 0, none⟩ = some (.int .i64 (nx : Int))) := by show _ = _; simp [World.cell?, hcb]
          have X2 : Hid (wc.cell? ⟨wr.heap.size, 1, none⟩ = some (.int .i64 (ny : Int))) := by show _ = _; simp [World.cell?, hcb]
          have X3 : Hid (wc.cell? ⟨wr.heap.size, 2, none⟩ = some (.int .i64 (nz : Int))) := by show _ = _; simp [World.cell?, hcb]
          clear hin hcb
          go_upto_region 10 with fail
          rw [← hwc]
          clear x1 x2 x3 hwc
          refine wp_region_tree 11 (OT.sures [0, 1, 3, 4, 7, 8] (.run 2 (.run 5 (.sure 6 (.run 9 (.sure 10 .nil)))))) (fun w' => Upd noBlk wc w') (by kernel_rfl) (by kernel_rfl) (fun c a d v w h => by cases d <;> exact h) (Upd.refl _ _).drew ?_
          simp only [OT.sures]
          iterate 6 (apply wpT_sure rfl rfl; focus (intro w' hw'; have y1 := hw'.cell X1.out id; have y2 := hw'.cell X2.out id; have y3 := hw'.cell X3.out id; go_simp; rfl))
          have hs1 : (bs (leB 3 nx)).size ≤ 3 := by rw [bs_size, leB_length]; omega
          have hs2 : (bs (leB 3 ny)).size ≤ 3 := by rw [bs_size, leB_length]; omega
          have hs3 : (bs (leB 3 nz)).size ≤ 3 := by rw [bs_size, leB_length]; omega
          refine wpT_run (fun w' => Upd noBlk wc w') (fun _ h => h) rfl (fun K hK => ?_)
          go_simp
          refine (fixed_any nx 3 (by omega) (by omega) _).mono ?_
          rintro e1 w5 ⟨rfl, u5⟩
          refine hK _ _ ⟨(Upd.refl _ _).drew.trans u5, ?_⟩
          clear hK K
          have U5 := Lib.hid ((Upd.refl noBlk wc).drew.trans u5)
          refine wpT_run (fun w' => Upd noBlk wc w') (fun _ h => h) rfl (fun K hK => ?_)
          go_simp
          refine (fixed_any ny 3 (by omega) (by omega) _).mono ?_
          rintro e1 w6 ⟨rfl, u6⟩
          refine hK _ _ ⟨U5.out.trans u6, ?_⟩
          clear hK K
          have U6 := Lib.hid (U5.out.trans u6)
          refine wpT_sure rfl rfl (.string (bs (leB 3 nx) ++ bs (leB 3 ny))) (fun w' _ => by go_simp; omega) ?_
          refine wpT_run (fun w' => Upd noBlk wc w') (fun _ h => h) rfl (fun K hK => ?_)
          go_simp
          refine (fixed_any nz 3 (by omega) (by omega) _).mono ?_
          rintro e1 w7 ⟨rfl, u7⟩
          refine hK _ _ ⟨U6.out.trans u7, ?_⟩
          clear hK K
          have U7 := Lib.hid (HUC.out.trans (U6.out.trans u7))
          have HS := Lib.hid (wString_any w.heap.size w.heap.size acc2 (ptB ((nx : Int), (ny : Int), (nz : Int))) w7 (HBL4.out.keep U7.out) (by rw [ptB_length]; have := HAL4.out; omega) (Nat.le_trans HU4.out.size U7.out.size))
          have hpt : bs (ptB ((nx : Int), (ny : Int), (nz : Int))) = bs (leB 3 nx) ++ bs (leB 3 ny) ++ bs (leB 3 nz) := by simp only [bs_append, ptB, Int.toNat_natCast]
          rw [hpt] at HS
          refine wpT_sure rfl rfl (.string (bs (leB 3 nx) ++ bs (leB 3 ny) ++ bs (leB 3 nz))) (fun w' _ => by go_simp; omega) ?_
          refine wpT_nil ?_
          simp only [List.drop_succ_cons, List.drop_zero]
          go_wp2_with fail
          refine HS.out.mono ?_
          rintro e1 w8 ⟨v8, rfl, b8, k8⟩
          have U8 := Lib.hid (k8.upd (HU4.out.trans U7.out) (Nat.le_refl _))
          have B8 := Lib.hid b8
          clear b8 k8 HS
          go_wp2_with fail
          refine ⟨⟨j + 1, acc2 ++ ptB ((nx : Int), (ny : Int), (nz : Int)), by go_num, hjt, ?_, B8.out, U8.out⟩, by simp [intOf]; omega⟩
          rw [HS4.out, HPD.out]; simp only [List.append_assoc]
        · obtain rfl : j = pts.length := by omega
          go_wp2_with fail
          refine ⟨⟨k + 1, acc2, by go_num, hlt, ?_, HBL4.out, HU4.out⟩, by simp [intOf]; omega⟩
          rw [HS4.out, List.drop_eq_nil_of_le (Nat.le_refl _)]; rfl
    · obtain rfl : k = ps.length := by omega
      have HS := Lib.hid (bString_any w.heap.size w.heap.size acc wr HBL.out HU.out.size)
      have HE : Hid (acc = write3 ps) := by show _ = _; rw [HSP.out, List.drop_eq_nil_of_le (Nat.le_refl _)]; simp [bodyB]
      go_wp2_with fail
      refine HS.out.mono ?_
      rintro e1 w2 ⟨rfl, u2⟩
      go_wp2_with fail
      go_ret
      exact ⟨by rw [HE.out]; rfl, Upd.ofBelow (HU.out.below.trans u2)⟩
end Go.Proofs.YtojdgdeefhndiaaGreatDoor
namespace Go.Proofs.YtojdgdeefhndiaaGreatDoor
open Go Go.RowKit Sp Bg
set_option maxRecDepth 100000
theorem rdN1 (w : World) (a : Nat) : RdN (w.alloc (.cells #[.int .i64 (a : Int)] 3)) (.slice (some ⟨w.heap.size, 0, none⟩) 1 1) [a] := by
  refine ⟨_, _, rfl, fun _ => ⟨_, _, rfl, fun j hj => ?_⟩⟩
  have hj0 : j = 0 := by simp at hj; omega
  subst hj0
  rw [cell_of_row _ _ _ _ _ _ (heap_alloc_new _ _)]; rfl
theorem rdN3 (w : World) (a b c : Nat) : RdN (w.alloc (.cells #[.int .i64 (a : Int), .int .i64 (b : Int), .int .i64 (c : Int)] 3)) (.slice (some ⟨w.heap.size, 0, none⟩) 3 3) [a, b, c] := by
  refine ⟨_, _, rfl, fun _ => ⟨_, _, rfl, fun j hj => ?_⟩⟩
  have hj0 : j = 0 ∨ j = 1 ∨ j = 2 := by simp at hj; omega
  rcases hj0 with rfl | rfl | rfl <;> (rw [cell_of_row _ _ _ _ _ _ (heap_alloc_new _ _)]; rfl)
set_option maxHeartbeats 1500000 in
theorem pWritePolys_any (v : Value) (ps : List Poly) (hn : ps.length ≤ 100) (hv : ∀ p, p ∈ ps → validP p.1) (w : World) (hp : Pow w) (h : RdPolys w v ps) :
    Calls Tryz.prog 35 #[v] w fun en w' => strR (write2 ps) w en w' := by
  obtain ⟨A, cap, rfl, hr⟩ := h
  have HR := Lib.hid hr
  have HV := Lib.hid hv
  have HP := Lib.hid hp
  have hlen : ((ps.length : Nat) : Int) ≤ 100 := by omega
  have HLT : Hid ((write2 ps).length ≤ 200000) := by have := body2_length ps hv; rw [← write2_body] at this; show _ ≤ _; omega
  have HF := Lib.hid (Bld.fresh w)
  have HU0 : Hid (Upd noBlk w (w.alloc (.cells #[.pointer none, .slice none 0 0] 93))) := (Upd.refl _ _).alloc _
  have H0 : Hid (write2 ps = [] ++ body2 (ps.drop 0)) := write2_body ps
  clear hr hv hp
  go_enter Tryz.func35, Tryz.ntmps35
  go_wp2_with fail
  go_loopw [5, 7, 10, 23] (fun _ _ i _ wr => ∃ (k : Nat) (acc : Bytes), i = .int .i64 k ∧ k ≤ ps.length ∧ write2 ps = acc ++ body2 (ps.drop k) ∧ Bld w.heap.size w.heap.size acc wr ∧ Upd noBlk w wr) (fun _ _ i _ _ => ps.length - (intOf i).toNat)
  case atStart => exact ⟨0, [], rfl, Nat.zero_le _, H0.out, HF.out, HU0.out⟩
  case round =>
    obtain ⟨k, acc, rfl, hk, hsp, hbl, hu⟩ := hrel
    have HU := Lib.hid hu
    have HSP := Lib.hid hsp
    have HBL := Lib.hid hbl
    have HAL : Hid (acc.length ≤ 200000) := by have := HLT.out; rw [HSP.out, List.length_append] at this; show _ ≤ _; omega
    clear hu hsp hbl
    by_cases hlt : k < ps.length
    · have hlt' : ((k : Nat) : Int) < ((ps.length : Nat) : Int) := by omega
      obtain ⟨b, off, rfl, f1⟩ := HR.out (by omega)
      obtain ⟨pv, c10, c11, r1⟩ := f1 k hlt
      have d0 := HU.out.cell c10 id
      have d1 := HU.out.cell c11 id
      have HBD := Lib.hid (body2_drop hlt)
      have HVK := Lib.hid (HV.out _ (List.getElem_mem hlt))
      have r2 := r1
      clear f1 c10 c11 r1
      generalize ps[k] = pk at *
      obtain ⟨pts, place⟩ := pk
      obtain ⟨B, cp, rfl, e1⟩ := r2
      have E1 := Lib.hid e1
      clear e1
      simp only at d0 d1
      have hpl : ((pts.length : Nat) : Int) ≤ 64 := by have := HVK.out.2.1; simp only at this; omega
      obtain ⟨wa, hwa⟩ : ∃ wa, wa = wr.alloc (.cells #[.slice B pts.length cp, .int .i64 place] 43) := ⟨_, rfl⟩
      have HBK : Hid (wa.heap[wr.heap.size]? = some (.cells #[.slice B pts.length cp, .int .i64 place] 43)) := by show _ = _; rw [hwa]; exact heap_alloc_new _ _
      have HUA : Hid (Upd noBlk wr wa) := by show Upd _ _ _; rw [hwa]; exact (Upd.refl _ _).alloc _
      have HUB : Hid (Upd noBlk wr (wa.alloc (.cells #[.int .i64 ((pts.length : Nat) : Int)] 3))) := HUA.out.alloc _
      have HB := Lib.hid (line_any wPoly _ [pts.length] (.inr (.inr (.inr rfl))) (by simp) (fun n hn => by simp at hn; omega) (.inr (by simp)) _ (HP.out.keep (HU.out.trans HUB.out)) (rdN1 wa pts.length))
      have q0 : wa.cell? ⟨wr.heap.size, 0, none⟩ = some (.slice B pts.length cp) := by simp [World.cell?, HBK.out]
      go_upto_region 5 with fail
      rw [← hwa]
      clear hwa
      go_wp2_with fail
      refine HB.out.mono ?_
      rintro e1 w3 ⟨rfl, u3⟩
      have HBK3 := Lib.hid (u3.heap (heap_alloc_keep _ HBK.out) id)
      have U3 := Lib.hid (HUB.out.trans u3)
      have HLL : Hid ((lineB wPoly [pts.length]).length ≤ 100) := by
        have := dec_len (n := pts.length) (by omega)
        show _ ≤ _
        simp [lineB, wordL, joinW, wPoly]; omega
      have HS := Lib.hid (wString_any w.heap.size w.heap.size acc (lineB wPoly [pts.length]) w3 (HBL.out.keep U3.out) (by have := HAL.out; have := HLL.out; omega) (Nat.le_trans HU.out.size U3.out.size))
      clear u3 HB HBK q0
      go_wp2_with fail
      refine HS.out.mono ?_
      rintro e1 w4 ⟨v4, rfl, b4, k4⟩
      have hbk4 := k4.heap HBK3.out (by have := HBL.out.blk.2; omega) (fun c fz => u8_ne_poly c fz _ _)
      have U4 := Lib.hid (k4.upd (HU.out.trans U3.out) (Nat.le_refl _))
      have B4 := Lib.hid b4
      have q0 : w4.cell? ⟨wr.heap.size, 0, none⟩ = some (.slice B pts.length cp) := by simp [World.cell?, hbk4]
      have H1 : Hid (write2 ps = acc ++ lineB wPoly [pts.length] ++ (pts2 (pts.drop 0) ++ body2 (ps.drop (k + 1)))) := by show _ = _; rw [HSP.out, HBD.out]; simp [lineB, wordL, wPoly]
      clear b4 k4 HS hbk4
      go_wp2_with fail
      obtain ⟨wo, rfl⟩ : ∃ wo : World, wo = wr := ⟨_, rfl⟩
      go_loopw [7, 23] (fun _ i wr' => ∃ (j : Nat) (acc2 : Bytes), i = .int .i64 j ∧ j ≤ pts.length ∧ write2 ps = acc2 ++ (pts2 (pts.drop j) ++ body2 (ps.drop (k + 1))) ∧ Bld w.heap.size w.heap.size acc2 wr' ∧ Upd noBlk w wr') (fun _ i _ => pts.length - (intOf i).toNat)
      case atStart => exact ⟨0, acc ++ lineB wPoly [pts.length], rfl, Nat.zero_le _, H1.out, B4.out, U4.out⟩
      case round =>
        obtain ⟨j, acc2, rfl, hj, hsp, hbl, hu⟩ := hrel
        have HU4 := Lib.hid hu
        have HS4 := Lib.hid hsp
        have HBL4 := Lib.hid hbl
        have HAL4 : Hid (acc2.length ≤ 200000) := by have := HLT.out; rw [HS4.out, List.length_append] at this; show _ ≤ _; omega
        clear hu hsp hbl q0
        by_cases hjt : j < pts.length
        · have hjt' : ((j : Nat) : Int) < ((pts.length : Nat) : Int) := by omega
          obtain ⟨d1, p1, rfl, g1⟩ := E1.out (by omega)
          obtain ⟨x1, x2, x3⟩ := (g1 j hjt).keep HU4.out
          have HPD := Lib.hid (pts2_drop hjt)
          have hin : inR pts[j] = true := List.all_eq_true.1 HVK.out.2.2 _ (List.getElem_mem hjt)
          clear g1
          generalize pts[j] = pt at *
          obtain ⟨px, py, pz⟩ := pt
          obtain ⟨i1, i2, i3, i4, i5, i6⟩ := (inR_iff _ _ _).1 hin
          obtain ⟨nx, rfl⟩ : ∃ n : Nat, px = n := ⟨px.toNat, by omega⟩
          obtain ⟨ny, rfl⟩ : ∃ n : Nat, py = n := ⟨py.toNat, by omega⟩
          obtain ⟨nz, rfl⟩ : ∃ n : Nat, pz = n := ⟨pz.toNat, by omega⟩
          simp only at x1 x2 x3
          obtain ⟨wc, hwc⟩ : ∃ wc, wc = wr.alloc (.cells #[.int .i64 (nx : Int), .int .i64 (ny : Int), .int .i64 (nz : Int)] 51) := ⟨_, rfl⟩
          have hcb : wc.heap[wr.heap.size]? = some (.cells #[.int .i64 (nx : Int), .int .i64 (ny : Int), .int .i64 (nz : Int)] 51) := by rw [hwc]; exact heap_alloc_new _ _
          have HUC : Hid (Upd noBlk wr wc) := by show Upd _ _ _; rw [hwc]; exact (Upd.refl _ _).alloc _
          have y1 : wc.cell? ⟨wr.heap.size, 0, none⟩ = some (.int .i64 (nx : Int)) := by simp [World.cell?, hcb]
          have y2 : wc.cell? ⟨wr.heap.size, 1, none⟩ = some (.int .i64 (ny : Int)) := by simp [World.cell?, hcb]
          have y3 : wc.cell? ⟨wr.heap.size, 2, none⟩ = some (.int .i64 (nz : Int)) := by simp [World.cell?, hcb]
          have HUD : Hid (Upd noBlk wr (wc.alloc (.cells #[.int .i64 (nx : Int), .int .i64 (ny : Int), .int .i64 (nz : Int)] 3))) := HUC.out.alloc _
          have HB := Lib.hid (line_any [] _ [nx, ny, nz] (.inl rfl) (by simp) (fun n hn => by simp at hn; omega) (.inr (by simp)) _ (HP.out.keep (HU4.out.trans HUD.out)) (rdN3 wc nx ny nz))
          have HLL : Hid (lineB [] [nx, ny, nz] = joinW (ptW ((nx : Int), (ny : Int), (nz : Int))) ++ [10]) := by show _ = _; simp [lineB, wordL, ptW]
          have HLN : Hid ((lineB [] [nx, ny, nz]).length ≤ 100) := by
            have := dec_len (n := nx) (by omega); have := dec_len (n := ny) (by omega); have := dec_len (n := nz) (by omega)
            show _ ≤ _
            rw [HLL.out, ptW_join]
            simp; omega
          clear hin hcb
          go_upto_region 9 with fail
          rw [← hwc]
          clear x1 x2 x3 hwc
          go_wp2_with fail
          refine HB.out.mono ?_
          rintro e1 w7 ⟨rfl, u7⟩
          have U7 := Lib.hid (HUD.out.trans u7)
          have HS := Lib.hid (wString_any w.heap.size w.heap.size acc2 (lineB [] [nx, ny, nz]) w7 (HBL4.out.keep U7.out) (by have := HAL4.out; have := HLN.out; omega) (Nat.le_trans HU4.out.size U7.out.size))
          clear u7 HB
          go_wp2_with fail
          refine HS.out.mono ?_
          rintro e1 w8 ⟨v8, rfl, b8, k8⟩
          have U8 := Lib.hid (k8.upd (HU4.out.trans U7.out) (Nat.le_refl _))
          have B8 := Lib.hid b8
          clear b8 k8 HS y1 y2 y3
          go_wp2_with fail
          refine ⟨⟨j + 1, acc2 ++ lineB [] [nx, ny, nz], by go_num, hjt, ?_, B8.out, U8.out⟩, by simp [intOf]; omega⟩
          rw [HS4.out, HPD.out, HLL.out]; simp only [List.append_assoc]
        · obtain rfl : j = pts.length := by omega
          go_wp2_with fail
          refine ⟨⟨k + 1, acc2, by go_num, hlt, ?_, HBL4.out, HU4.out⟩, by simp [intOf]; omega⟩
          rw [HS4.out, List.drop_eq_nil_of_le (Nat.le_refl _)]; rfl
    · obtain rfl : k = ps.length := by omega
      have HS := Lib.hid (bString_any w.heap.size w.heap.size acc wr HBL.out HU.out.size)
      have HE : Hid (acc = write2 ps) := by show _ = _; rw [HSP.out, List.drop_eq_nil_of_le (Nat.le_refl _)]; simp [body2]
      go_wp2_with fail
      refine HS.out.mono ?_
      rintro e1 w2 ⟨rfl, u2⟩
      go_wp2_with fail
      go_ret
      exact ⟨by rw [HE.out]; rfl, Upd.ofBelow (HU.out.below.trans u2)⟩
end Go.Proofs.YtojdgdeefhndiaaGreatDoor
