/- Walks of the program of the polygon files: writeFaces. -/
import Derived.Test.YtojdgdeefhndiaaGreatDoorM45
import Derived.Test.YtojdgdeefhndiaaGreatDoorM38
namespace Go.Proofs.YtojdgdeefhndiaaGreatDoor
open Go Go.RowKit Sp Bg
set_option maxRecDepth 100000
theorem OwnN.rd {base : Nat} {w : World} {v : Value} {l : List Nat} (h : OwnN base w v l) : RdN w v l := by
  obtain ⟨A, cap, rfl⟩ := h.form
  refine ⟨A, cap, rfl, fun h0 => ?_⟩
  obtain ⟨g, cp, e, f, _⟩ := h.cells h0
  cases e
  exact ⟨g, 0, rfl, fun j hj => by rw [Nat.zero_add]; exact f j hj⟩
/-- The numbers of corners. -/
def numsF (Q pts : List Pt) : List Nat := pts.map (fun c => Q.idxOf c + 1)
theorem lineB_f (Q pts : List Pt) : lineB wF (numsF Q pts) = fL Q pts ++ [10] := by
  rw [fL_eq]
  unfold lineB fW numsF
  rw [List.map_map]; rfl
theorem lineB_v (p : Pt) : lineB wV [p.1.toNat, p.2.1.toNat, p.2.2.toNat] = [118, 32] ++ joinW (ptW p) ++ [10] := by simp [lineB, wordL, wV, joinW, ptW]
theorem idx1_in {P : List Pt} {p : Pt} (h : p ∈ P) : idx1 P p = P.idxOf p + 1 := by unfold idx1; rw [if_pos h]
theorem idx1_out {P : List Pt} {p : Pt} (h : p ∉ P) : idx1 P p = 0 := by unfold idx1; rw [if_neg h]
set_option maxHeartbeats 2000000 in
theorem pWriteFaces_any (v : Value) (ps : List Poly) (hn : ps.length ≤ 100) (hv : ∀ p, p ∈ ps → validP p.1) (w : World) (hp : Pow w) (h : RdPolys w v ps) :
    Calls Tryz.prog 34 #[v] w fun en w' => strR (write1 ps) w en w' := by
  obtain ⟨A, cap, rfl, hr⟩ := h
  have HR := Lib.hid hr
  have HV := Lib.hid hv
  have HP := Lib.hid hp
  have hlen : ((ps.length : Nat) : Int) ≤ 100 := by omega
  have HLT : Hid ((write1 ps).length ≤ 250000) := by have := write1_length ps [] hv (by simp; omega); show (body1 [] ps).length ≤ _; omega
  have HF := Lib.hid ((Bld.fresh w).keep ((Upd.refl _ _).alloc (.map #[] 0)))
  have HMM : Hid (MapP ((w.alloc (.cells #[.pointer none, .slice none 0 0] 93)).alloc (.map #[] 0)) (w.heap.size + 1) []) := by
    have := MapP.made (w.alloc (.cells #[.pointer none, .slice none 0 0] 93)); rw [World.size_alloc] at this; exact this
  have HU0 : Hid (Upd noBlk w ((w.alloc (.cells #[.pointer none, .slice none 0 0] 93)).alloc (.map #[] 0))) := ((Upd.refl _ _).alloc _).alloc _
  have hmm := @run_makeMap Tryz.prog
  clear hr hv hp
  go_enter Tryz.func34, Tryz.ntmps34
  go_wp2_with fail
  go_loopw [6, 7, 9, 13, 20] (fun _ _ _ i _ wr => ∃ (k : Nat) (P : List Pt) (acc : Bytes), i = .int .i64 k ∧ k ≤ ps.length ∧ write1 ps = acc ++ body1 P (ps.drop k) ∧ MapP wr (w.heap.size + 1) P ∧ P.length ≤ 64 * k ∧ Bld w.heap.size w.heap.size acc wr ∧ Upd noBlk w wr) (fun _ _ _ i _ _ => ps.length - (intOf i).toNat)
  case atStart => exact ⟨0, [], [], rfl, Nat.zero_le _, rfl, HMM.out, Nat.le_refl _, HF.out, HU0.out⟩
  case round =>
    obtain ⟨k, P, acc, rfl, hk, hsp, hmp, hPl, hbl, hu⟩ := hrel
    have HU := Lib.hid hu
    have HSP := Lib.hid hsp
    have HBL := Lib.hid hbl
    have HMP := Lib.hid hmp
    have HAL : Hid (acc.length ≤ 250000) := by have := HLT.out; rw [HSP.out, List.length_append] at this; show _ ≤ _; omega
    clear hu hsp hbl hmp hmm
    by_cases hlt : k < ps.length
    · have hlt' : ((k : Nat) : Int) < ((ps.length : Nat) : Int) := by omega
      obtain ⟨b, off, rfl, f1⟩ := HR.out (by omega)
      obtain ⟨pv, c10, c11, r1⟩ := f1 k hlt
      have d0 := HU.out.cell c10 id
      have d1 := HU.out.cell c11 id
      have HBD := Lib.hid (body1_drop (P := P) hlt)
      have HVK := Lib.hid (HV.out _ (List.getElem_mem hlt))
      have r2 := r1
      clear f1 c10 c11 r1
      generalize ps[k] = pk at *
      obtain ⟨pts, place⟩ := pk
      obtain ⟨B, cp, rfl, e1⟩ := r2
      have E1 := Lib.hid e1
      clear e1
      simp only at d0 d1
      have hpl : ((pts.length : Nat) : Int) ≤ 64 := by have := HVK.out.2.1; simp only at this; omega
      have HUA : Hid (Upd noBlk wr (wr.alloc (.cells #[.slice B pts.length cp, .int .i64 place] 43))) := (Upd.refl _ _).alloc _
      have H1 : Hid (write1 ps = (acc ++ vL (newP P pts)) ++ (fL (P ++ newP P pts) pts ++ [10]) ++ body1 (P ++ newP P pts) (ps.drop (k + 1))) := by show _ = _; rw [HSP.out, HBD.out]; simp
      have HBLA := Lib.hid (HBL.out.keep HUA.out)
      have HMPA := Lib.hid (HMP.out.keep HUA.out)
      have HUWA := Lib.hid (HU.out.trans HUA.out)
      have HPN : Hid (P.length + (newP P pts).length ≤ 7000) := by have := newP_len pts P; show _ ≤ _; omega
      have hq0 : (wr.alloc (.cells #[.slice B pts.length cp, .int .i64 place] 43)).cell? ⟨wr.heap.size, 0, none⟩ = some (.slice B pts.length cp) := by
        rw [cell_of_row _ _ _ _ _ _ (heap_alloc_new _ _)]; rfl
      go_wp2_with fail
      obtain ⟨wo, rfl⟩ : ∃ wo : World, wo = wr := ⟨_, rfl⟩
      go_loopw [7, 9, 20] (fun fv _ i wr' => ∃ j : Nat, i = .int .i64 j ∧ j ≤ pts.length ∧ OwnN w.heap.size wr' fv (numsF (P ++ newP P pts) (pts.take j)) ∧ MapP wr' (w.heap.size + 1) (P ++ newP P (pts.take j)) ∧ Bld w.heap.size w.heap.size (acc ++ vL (newP P (pts.take j))) wr' ∧ Upd noBlk w wr') (fun _ _ i _ => pts.length - (intOf i).toNat)
      case atStart =>
        refine ⟨0, rfl, Nat.zero_le _, OwnN.nil _ _, ?_, ?_, HUWA.out⟩
        · rw [List.take_zero, newP, List.append_nil]; exact HMPA.out
        · rw [List.take_zero, newP]; simp only [vL, List.map_nil, joinL, List.flatMap_nil, List.append_nil]; exact HBLA.out
      case round =>
        obtain ⟨j, rfl, hj, hof, hmp, hbl, hu⟩ := hrel
        have HOF := Lib.hid hof
        have HMJ := Lib.hid hmp
        have HBJ := Lib.hid hbl
        have HUJ := Lib.hid hu
        have HFL : Hid ((numsF (P ++ newP P pts) (pts.take j)).length = j) := by show _ = _; unfold numsF; rw [List.length_map, List.length_take]; omega
        clear hof hmp hbl hu
        by_cases hjt : j < pts.length
        · have hjt' : ((j : Nat) : Int) < ((pts.length : Nat) : Int) := by omega
          obtain ⟨dd1, p1, rfl, g1⟩ := E1.out (by omega)
          obtain ⟨x1, x2, x3⟩ := (g1 j hjt).keep HUJ.out
          have hin : inR pts[j] = true := List.all_eq_true.1 HVK.out.2.2 _ (List.getElem_mem hjt)
          have HTK : Hid (pts.take (j + 1) = pts.take j ++ [pts[j]]) := List.take_succ_eq_append_getElem hjt
          clear g1
          generalize pts[j] = pt at *
          obtain ⟨px, py, pz⟩ := pt
          obtain ⟨i1, i2, i3, i4, i5, i6⟩ := (inR_iff _ _ _).1 hin
          obtain ⟨nx, rfl⟩ : ∃ n : Nat, px = n := ⟨px.toNat, by omega⟩
          obtain ⟨ny, rfl⟩ : ∃ n : Nat, py = n := ⟨py.toNat, by omega⟩
          obtain ⟨nz, rfl⟩ : ∃ n : Nat, pz = n := ⟨pz.toNat, by omega⟩
          have HIN := Lib.hid hin
          have HNS := Lib.hid (newP_snoc P (pts.take j) ((nx : Int), (ny : Int), (nz : Int)))
          simp only at x1 x2 x3
          obtain ⟨wc, hwc⟩ : ∃ wc, wc = wr.alloc (.cells #[.int .i64 (nx : Int), .int .i64 (ny : Int), .int .i64 (nz : Int)] 51) := ⟨_, rfl⟩
          have hcb : wc.heap[wr.heap.size]? = some (.cells #[.int .i64 (nx : Int), .int .i64 (ny : Int), .int .i64 (nz : Int)] 51) := by rw [hwc]; exact heap_alloc_new _ _
          have HUC : Hid (Upd noBlk wr wc) := by show Upd _ _ _; rw [hwc]; exact (Upd.refl _ _).alloc _
          have HCB := Lib.hid hcb
          have y1 : wc.cell? ⟨wr.heap.size, 0, none⟩ = some (.int .i64 (nx : Int)) := by simp [World.cell?, hcb]
          have y2 : wc.cell? ⟨wr.heap.size, 1, none⟩ = some (.int .i64 (ny : Int)) := by simp [World.cell?, hcb]
          have y3 : wc.cell? ⟨wr.heap.size, 2, none⟩ = some (.int .i64 (nz : Int)) := by simp [World.cell?, hcb]
          have HMC := Lib.hid (HMJ.out.keep HUC.out)
          have HOC := Lib.hid (HOF.out.upd HUC.out)
          have HBC := Lib.hid (HBJ.out.keep HUC.out)
          have HWC := Lib.hid (HUJ.out.trans HUC.out)
          clear hin hcb
          by_cases hm : ((nx : Int), (ny : Int), (nz : Int)) ∈ P ++ newP P (pts.take j)
          · have hix := idx1_in hm
            have HST := Lib.hid (idx_stable (P := P) (pts := pts) (j := j) hm)
            have HNP : Hid (newP P (pts.take (j + 1)) = newP P (pts.take j)) := by show _ = _; rw [HTK.out, HNS.out, if_pos hm, List.append_nil]
            have HNF : Hid (numsF (P ++ newP P pts) (pts.take (j + 1)) = numsF (P ++ newP P pts) (pts.take j) ++ [(P ++ newP P (pts.take j)).idxOf ((nx : Int), (ny : Int), (nz : Int)) + 1]) := by
              show _ = _; rw [HTK.out, HST.out]; simp [numsF]
            have hlk : (P ++ newP P (pts.take j)).idxOf ((nx : Int), (ny : Int), (nz : Int)) + 1 ≠ 0 := by omega
            obtain ⟨N, hN⟩ : ∃ N, N = (P ++ newP P (pts.take j)).idxOf ((nx : Int), (ny : Int), (nz : Int)) + 1 := ⟨_, rfl⟩
            rw [← hN] at HNF hix hlk
            have HIX := Lib.hid hix
            obtain ⟨g, cap5, w5, r5, o5, u5⟩ := append_n HWC.out.size HOC.out N (by have := HFL.out; omega)
            have R5 := Lib.hid r5
            have O5 := Lib.hid o5
            have U5 := Lib.hid u5
            have e0 : (((N : Nat) : Int) == 0) = false := by rw [beq_eq_false_iff_ne]; omega
            clear r5 o5 u5 hix hN hlk
            go_upto_region 10 with fail
            rw [← hwc]
            clear hwc x1 x2 x3 hm
            go_wp2_with (first | (at_lookup; refine wp_look rfl _ _ rfl rfl HMC.out (p := ((nx : Int), (ny : Int), (nz : Int))) rfl HIN.out ?_; rw [HIX.out]) | (at_builtin; refine wpList_append_run rfl _ _ _ rfl rfl rfl R5.out ?_))
            refine ⟨⟨j + 1, by go_num, hjt, ?_, ?_, ?_, ?_⟩, by simp [intOf]; omega⟩
            · rw [HNF.out]; exact O5.out
            · rw [HNP.out]; exact HMC.out.appn HOC.out U5.out
            · rw [HNP.out]; exact HBC.out.appn HOC.out U5.out
            · exact HWC.out.then U5.out (fun i hi e => by have := (HOC.out.lt _ e).1; omega)
          · have hix := Lib.hid (idx1_out hm)
            have HNP : Hid (newP P (pts.take (j + 1)) = newP P (pts.take j) ++ [((nx : Int), (ny : Int), (nz : Int))]) := by show _ = _; rw [HTK.out, HNS.out, if_neg hm]
            have HP2 : Hid (P ++ newP P (pts.take (j + 1)) = (P ++ newP P (pts.take j)) ++ [((nx : Int), (ny : Int), (nz : Int))]) := by show _ = _; rw [HNP.out, List.append_assoc]
            have hmem2 : ((nx : Int), (ny : Int), (nz : Int)) ∈ P ++ newP P (pts.take (j + 1)) := by rw [HP2.out]; simp
            have HST := Lib.hid (idx_stable (P := P) (pts := pts) (j := j + 1) hmem2)
            have hix2 := idx1_in hmem2
            have HNF : Hid (numsF (P ++ newP P pts) (pts.take (j + 1)) = numsF (P ++ newP P pts) (pts.take j) ++ [(P ++ newP P (pts.take (j + 1))).idxOf ((nx : Int), (ny : Int), (nz : Int)) + 1]) := by
              show _ = _; rw [HST.out, HTK.out]; simp [numsF]
            obtain ⟨N, hN⟩ : ∃ N, N = (P ++ newP P (pts.take (j + 1))).idxOf ((nx : Int), (ny : Int), (nz : Int)) + 1 := ⟨_, rfl⟩
            rw [← hN] at HNF hix2
            have HIX2 := Lib.hid hix2
            have HVL : Hid (vL (newP P (pts.take (j + 1))) = vL (newP P (pts.take j)) ++ lineB wV [nx, ny, nz]) := by
              show _ = _
              have := lineB_v ((nx : Int), (ny : Int), (nz : Int))
              simp only [Int.toNat_natCast] at this
              rw [HNP.out, vL_snoc, this]; simp only [List.append_assoc]
            have HLP : Hid ((P ++ newP P (pts.take j)).length ≤ 7000) := by
              show _ ≤ _
              obtain ⟨t, ht⟩ := newP_pre P pts j
              have := HPN.out
              rw [ht, List.length_append] at this
              rw [List.length_append]; omega
            have hlp : (((P ++ newP P (pts.take j)).length : Nat) : Int) ≤ 7000 := by have := HLP.out; omega
            have HM := Lib.hid hm
            have HLL : Hid ((lineB wV [nx, ny, nz]).length ≤ 100) := by
              have := dec_len (n := nx) (by omega); have := dec_len (n := ny) (by omega); have := dec_len (n := nz) (by omega)
              have e := lineB_v ((nx : Int), (ny : Int), (nz : Int))
              simp only [Int.toNat_natCast] at e
              show _ ≤ _
              rw [e, ptW_join]
              simp; omega
            have HAC : Hid ((acc ++ vL (newP P (pts.take j))).length ≤ 300000) := by
              have h1 := vL_length (newP P (pts.take j)) (fun c hc => List.all_eq_true.1 HVK.out.2.2 _ (List.mem_of_mem_take (newP_sub _ _ _ hc)))
              have h2 := newP_len (pts.take j) P
              rw [List.length_take] at h2
              have := HAL.out
              show _ ≤ _
              rw [List.length_append]; omega
            clear hix2 hN hmem2 hm
            obtain ⟨P1, hP1⟩ : ∃ P1, P1 = P ++ newP P (pts.take j) := ⟨_, rfl⟩
            rw [← hP1] at HMC HM HP2 HLP hlp hix
            clear hP1
            go_upto_region 10 with fail
            rw [← hwc]
            clear hwc x1 x2 x3
            go_wp2_with (first | (at_lookup; refine wp_look rfl _ _ rfl rfl HMC.out (p := ((nx : Int), (ny : Int), (nz : Int))) rfl HIN.out ?_; rw [hix.out]) | (at_len; refine wp_len rfl _ rfl rfl HMC.out ?_) | (at_mapUpdate; refine wp_upd rfl _ _ _ rfl rfl HMC.out (p := ((nx : Int), (ny : Int), (nz : Int))) rfl HIN.out HM.out (by have := HLP.out; omega) rfl ?_; intro w3 hm3 hu3; have hb3 := hu3.heap HCB.out (fun e => by have h1 : wr.heap.size = w.heap.size + 1 := e; have h2 := HMJ.out.blk; obtain ⟨es, cl, h3⟩ := h2; have := lt_of_heap h3; omega); have z1 : w3.cell? ⟨wr.heap.size, 0, none⟩ = some (.int .i64 (nx : Int)) := (by simp [World.cell?, hb3]); have z2 : w3.cell? ⟨wr.heap.size, 1, none⟩ = some (.int .i64 (ny : Int)) := (by simp [World.cell?, hb3]); have z3 : w3.cell? ⟨wr.heap.size, 2, none⟩ = some (.int .i64 (nz : Int)) := (by simp [World.cell?, hb3]); have HB3 := Lib.hid hb3; have HM3 := Lib.hid hm3; have HU3 := Lib.hid hu3; clear hb3 hm3 hu3 y1 y2 y3))
            refine (line_any wV _ [nx, ny, nz] (.inr (.inl rfl)) (by simp) (fun n hn => by simp at hn; omega) (.inr (by simp)) _ (HP.out.keep ((HWC.out.then HU3.out (fun i hi e => by have e' : i = w.heap.size + 1 := e; omega)).alloc _)) (rdN3 w3 nx ny nz)).mono ?_
            rintro e1 w4 ⟨rfl, u4⟩
            have U4 := Lib.hid (((Upd.refl noBlk w3).alloc _).trans u4)
            have HW3 := Lib.hid (HWC.out.then HU3.out (fun i hi e => by have e' : i = w.heap.size + 1 := e; omega))
            have HW4 := Lib.hid (HW3.out.trans U4.out)
            have HB4 := Lib.hid ((HBC.out.mapupd HMC.out HU3.out).keep U4.out)
            have HO4 := Lib.hid ((HOC.out.mapupd HMC.out HU3.out).upd U4.out)
            have HM4 := Lib.hid (HM3.out.keep U4.out)
            have HC4 := Lib.hid (U4.out.heap HB3.out id)
            have HS := Lib.hid (wString_any w.heap.size w.heap.size _ (lineB wV [nx, ny, nz]) w4 HB4.out (by have := HAC.out; have := HLL.out; omega) HW4.out.size)
            clear u4 z1 z2 z3
            go_wp2_with fail
            refine HS.out.mono ?_
            rintro e1 w5 ⟨v5, rfl, b5, k5⟩
            have HO5 := Lib.hid (HO4.out.bkeep HB4.out k5)
            have HM5 := Lib.hid (HM4.out.bkeep k5 (by omega))
            have HW5 := Lib.hid (k5.upd HW4.out (Nat.le_refl _))
            have hc5 := k5.heap HC4.out (fun e => by have := HBJ.out.blk.2; omega) (fun c fz e => by cases e)
            have B5 := Lib.hid b5
            have y1 : w5.cell? ⟨wr.heap.size, 0, none⟩ = some (.int .i64 (nx : Int)) := by simp [World.cell?, hc5]
            have y2 : w5.cell? ⟨wr.heap.size, 1, none⟩ = some (.int .i64 (ny : Int)) := by simp [World.cell?, hc5]
            have y3 : w5.cell? ⟨wr.heap.size, 2, none⟩ = some (.int .i64 (nz : Int)) := by simp [World.cell?, hc5]
            obtain ⟨g, cap6, w6, r6, o6, u6⟩ := append_n HW5.out.size HO5.out N (by have := HFL.out; omega)
            have R6 := Lib.hid r6
            have O6 := Lib.hid o6
            have U6 := Lib.hid u6
            rw [HP2.out] at HIX2
            clear r6 o6 u6 b5 k5 HS hc5
            go_wp2_with (first | (at_lookup; refine wp_look rfl _ _ rfl rfl HM5.out (p := ((nx : Int), (ny : Int), (nz : Int))) rfl HIN.out ?_; rw [HIX2.out]) | (at_builtin; refine wpList_append_run rfl _ _ _ rfl rfl rfl R6.out ?_))
            refine ⟨⟨j + 1, by go_num, hjt, ?_, ?_, ?_, ?_⟩, by simp [intOf]; omega⟩
            · rw [HNF.out]; exact O6.out
            · rw [HP2.out]; exact HM5.out.appn HO5.out U6.out
            · rw [HVL.out, ← List.append_assoc]; exact B5.out.appn HO5.out U6.out
            · exact HW5.out.then U6.out (fun i hi e => by have := (HO5.out.lt _ e).1; omega)
        · obtain rfl : j = pts.length := by omega
          have HO := HOF.out
          have HM := HMJ.out
          have HB := HBJ.out
          rw [List.take_length] at HO HM HB
          have HO := Lib.hid HO
          have HM := Lib.hid HM
          have HB := Lib.hid HB
          have HNL : Hid ((numsF (P ++ newP P pts) pts).length = pts.length) := by show _ = _; unfold numsF; rw [List.length_map]
          obtain ⟨Af, cf, hff⟩ := HO.out.form
          rw [HNL.out] at hff
          have HLI := Lib.hid (line_any wF _ (numsF (P ++ newP P pts) pts) (.inr (.inr (.inl rfl))) (by rw [HNL.out]; omega) (fun n hn => by
            unfold numsF at hn
            obtain ⟨c, hc, rfl⟩ := List.mem_map.1 hn
            have h1 := List.idxOf_lt_length_iff.2 (newP_mem pts P c hc)
            have := HPN.out
            rw [List.length_append] at h1
            omega) (.inl (by decide)) wr (HP.out.keep HUJ.out) HO.out.rd)
          have HLL : Hid ((lineB wF (numsF (P ++ newP P pts) pts)).length ≤ 1000) := by
            have h1 := fL_length (P ++ newP P pts) (by have := HPN.out; rw [List.length_append]; omega) pts (fun c hc => newP_mem _ _ _ hc)
            show _ ≤ _
            rw [lineB_f, List.length_append]; simp; omega
          have HAC : Hid ((acc ++ vL (newP P pts)).length ≤ 300000) := by
            have := HLT.out
            rw [H1.out] at this
            simp only [List.length_append] at this
            show _ ≤ _
            rw [List.length_append]; omega
          have HS : Hid (∀ w4, Upd noBlk wr w4 → Calls Tryz.prog 56 #[.pointer (some ⟨w.heap.size, 0, none⟩), .string (bs (lineB wF (numsF (P ++ newP P pts) pts)))] w4 fun e w' => ∃ v, e = .returned v ∧ Bld w.heap.size w.heap.size ((acc ++ vL (newP P pts)) ++ lineB wF (numsF (P ++ newP P pts) pts)) w' ∧ BKeep w.heap.size w.heap.size w4 w') := fun w4 u4 =>
            wString_any w.heap.size w.heap.size _ _ w4 (HB.out.keep u4) (by have := HAC.out; have := HLL.out; omega) (Nat.le_trans HUJ.out.size u4.size)
          subst hff
          go_wp2_with fail
          refine HLI.out.mono ?_
          rintro e1 w4 ⟨rfl, u4⟩
          have U4 := Lib.hid u4
          clear u4
          go_wp2_with fail
          refine (HS.out w4 U4.out).mono ?_
          rintro e1 w5 ⟨v5, rfl, b5, k5⟩
          have HW5 := Lib.hid (k5.upd (HUJ.out.trans U4.out) (Nat.le_refl _))
          have HM5 := Lib.hid ((HM.out.keep U4.out).bkeep k5 (by omega))
          have B5 := Lib.hid b5
          clear b5 k5
          go_wp2_with fail
          refine ⟨⟨k + 1, P ++ newP P pts, acc ++ vL (newP P pts) ++ (fL (P ++ newP P pts) pts ++ [10]), by go_num, hlt, ?_, HM5.out, by have := newP_len pts P; rw [List.length_append]; omega, by rw [← lineB_f]; exact B5.out, HW5.out⟩, by simp [intOf]; omega⟩
          exact H1.out
    · obtain rfl : k = ps.length := by omega
      have HS := Lib.hid (bString_any w.heap.size w.heap.size acc wr HBL.out HU.out.size)
      have HE : Hid (acc = write1 ps) := by show _ = _; rw [HSP.out, List.drop_eq_nil_of_le (Nat.le_refl _)]; simp [body1, W1, joinL]
      go_wp2_with fail
      refine HS.out.mono ?_
      rintro e1 w2 ⟨rfl, u2⟩
      go_wp2_with fail
      go_ret
      exact ⟨by rw [HE.out]; rfl, Upd.ofBelow (HU.out.below.trans u2)⟩
end Go.Proofs.YtojdgdeefhndiaaGreatDoor
