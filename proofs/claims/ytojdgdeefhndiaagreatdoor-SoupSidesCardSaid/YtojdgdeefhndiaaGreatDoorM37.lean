/- Walks of the reference of the polygon files: faces; Write, form 1. -/
import Derived.Test.YtojdgdeefhndiaaGreatDoorM36
import Derived.Deep.DeepCutAuto
namespace Go.Proofs.YtojdgdeefhndiaaGreatDoor
open Go Go.RowKit Sp Bg
set_option maxRecDepth 100000

theorem idxI_in {l : List Pt} {p : Pt} (h : p ∈ l) : idxI l p = (l.idxOf p : Nat) := by unfold idxI; rw [if_pos h]
theorem idxI_out {l : List Pt} {p : Pt} (h : p ∉ l) : idxI l p = -1 := by unfold idxI; rw [if_neg h]
theorem vL_length : ∀ (l : List Pt), (∀ c, c ∈ l → inR c = true) → (vL l).length ≤ 29 * l.length
  | [], _ => by simp [vL, joinL]
  | c :: r, h => by
    have ih := vL_length r (fun x hx => h x (by simp [hx]))
    have e : vL (c :: r) = [118, 32] ++ joinW (ptW c) ++ [10] ++ vL r := by simp [vL, joinL, vW, wV, joinW, ptW]
    obtain ⟨h1, h2, h3⟩ := in_lt (h c (by simp))
    have := dec_len h1; have := dec_len h2; have := dec_len h3
    rw [e, ptW_join]
    simp only [List.length_append, List.length_cons, List.length_nil]; omega
theorem fL_length (Q : List Pt) (hQ : Q.length < 16000000) : ∀ (l : List Pt), (∀ c, c ∈ l → c ∈ Q) → (fL Q l).length ≤ 1 + 9 * l.length := by
  intro l
  unfold fL
  rw [List.length_cons]
  induction l with
  | nil => simp
  | cons c r ih =>
    intro h
    have ih' := ih (fun x hx => h x (by simp [hx]))
    have := List.idxOf_lt_length_iff.2 (h c (by simp))
    have := dec_len (n := Q.idxOf c + 1) (by omega)
    rw [List.flatMap_cons, List.length_append, List.length_cons, List.length_cons]
    omega
set_option maxHeartbeats 1500000 in
theorem qfaces_any (v : Value) (ps : List Poly) (hn : ps.length ≤ 100) (hv : ∀ p, p ∈ ps → validP p.1) (w : World) (h : RdPolys w v ps) :
    Calls Tryz.prog 23 #[v] w fun en w' => strR (write1 ps) w en w' := by
  obtain ⟨A, cap, rfl, hr⟩ := h
  have HR := Lib.hid hr
  have HV := Lib.hid hv
  clear hr hv
  go_enter Tryz.func23, Tryz.ntmps23
  go_wp2_with fail
  go_loopw [3, 4, 5, 6, 7, 8] (fun sv pv i _ _ _ wr => ∃ (k : Nat) (P : List Pt) (acc : Bytes), sv = .string (bs acc) ∧ i = .int .i64 k ∧ k ≤ ps.length ∧ write1 ps = acc ++ body1 P (ps.drop k) ∧ OwnPts w.heap.size wr pv P ∧ P.length ≤ 64 * k ∧ acc.length ≤ 3000 * k ∧ Upd noBlk w wr) (fun _ _ i _ _ _ _ => ps.length - (intOf i).toNat)
  case atStart => exact ⟨0, [], [], rfl, rfl, Nat.zero_le _, rfl, OwnPts.nil _ _, Nat.le_refl _, Nat.le_refl _, Upd.refl _ _⟩
  case round =>
    obtain ⟨k, P, acc, rfl, rfl, hk, hsp, hop, hPl, hacc, hu⟩ := hrel
    have HSP := Lib.hid hsp
    have HOP := Lib.hid hop
    have HU := Lib.hid hu
    obtain ⟨Av, cv, hpv⟩ := own_form hop
    subst hpv
    clear hsp hop hu
    by_cases hlt : k < ps.length
    · have hlt' : ((k : Nat) : Int) < ((ps.length : Nat) : Int) := by omega
      obtain ⟨b, off, rfl, f1⟩ := HR.out (by omega)
      obtain ⟨pv, c10, c11, r1⟩ := f1 k hlt
      have HC10 := Lib.hid c10
      have HBD := Lib.hid (body1_drop (P := P) hlt)
      have HVK := Lib.hid (HV.out _ (List.getElem_mem hlt))
      clear f1 c11 c10
      generalize ps[k] = pk at *
      obtain ⟨pts, place⟩ := pk
      simp only at r1 HBD HVK
      obtain ⟨B, cp, rfl, e1⟩ := r1
      have E1 := Lib.hid e1
      have hpl : pts.length ≤ 64 := HVK.out.2.1
      have hQl : Hid ((P ++ newP P pts).length < 16000000) := by show _ < _; have := newP_len pts P; rw [List.length_append]; omega
      clear e1
      go_wp2_with fail
      obtain ⟨wo, rfl⟩ : ∃ wo : World, wo = wr := ⟨_, rfl⟩
      go_loopw [3, 4, 6, 7, 8] (fun sv pv fv j _ wr' => ∃ (j' : Nat) (Q : List Pt), j = .int .i64 j' ∧ j' ≤ pts.length ∧ Q = P ++ newP P (pts.take j') ∧ sv = .string (bs (acc ++ vL (newP P (pts.take j')))) ∧ fv = .string (bs (fL (P ++ newP P pts) (pts.take j'))) ∧ OwnPts w.heap.size wr' pv Q ∧ Upd noBlk w wr') (fun _ _ _ j _ _ => pts.length - (intOf j).toNat)
      case atStart => exact ⟨0, P, rfl, Nat.zero_le _, by simp [newP], by simp [newP, vL, joinL], rfl, HOP.out, HU.out⟩
      case round =>
        obtain ⟨j, Q, rfl, hj, hQ, rfl, rfl, hop2, hu2⟩ := hrel
        have HQ := Lib.hid hQ
        clear hQ
        have HOP2 := Lib.hid hop2
        have HU2 := Lib.hid hu2
        have c10 := hu2.cell HC10.out id
        obtain ⟨Av2, cv2, hpv2⟩ := own_form hop2
        subst hpv2
        clear hop2 hu2
        by_cases hjt : j < pts.length
        · have hjt' : ((j : Nat) : Int) < ((pts.length : Nat) : Int) := by omega
          obtain ⟨d1, p1, rfl, g1⟩ := E1.out (by omega)
          obtain ⟨x1, x2, x3⟩ := (g1 j hjt).keep HU2.out
          have hin : inR pts[j] = true := List.all_eq_true.1 HVK.out.2.2 _ (List.getElem_mem hjt)
          have HTK : Hid (pts.take (j + 1) = pts.take j ++ [pts[j]]) := (List.take_append_getElem hjt).symm
          clear g1
          generalize pts[j] = pt at *
          obtain ⟨px, py, pz⟩ := pt
          obtain ⟨i1, i2, i3, i4, i5, i6⟩ := (inR_iff _ _ _).1 hin
          obtain ⟨nx, rfl⟩ : ∃ n : Nat, px = n := ⟨px.toNat, by omega⟩
          obtain ⟨ny, rfl⟩ : ∃ n : Nat, py = n := ⟨py.toNat, by omega⟩
          obtain ⟨nz, rfl⟩ : ∃ n : Nat, pz = n := ⟨pz.toNat, by omega⟩
          simp only at x1 x2 x3
          have HIN := Lib.hid hin
          have HMT : Hid (((nx : Int), (ny : Int), (nz : Int)) ∈ pts.take (j + 1)) := by show _ ∈ _; rw [HTK.out]; simp
          have hnl : (newP P (pts.take j)).length ≤ j := by have := newP_len (pts.take j) P; rw [List.length_take] at this; omega
          have HLl : Hid (Q.length ≤ 7000) := by show _ ≤ _; rw [HQ.out, List.length_append]; omega
          have hvl : (vL (newP P (pts.take j))).length ≤ 29 * j := by
            have := vL_length (newP P (pts.take j)) (fun c hc => List.all_eq_true.1 HVK.out.2.2 _ (List.mem_of_mem_take (newP_sub _ _ _ hc)))
            omega
          have hfll : (fL (P ++ newP P pts) (pts.take j)).length ≤ 1 + 9 * j := by
            have := fL_length _ hQl.out (pts.take j) (fun c hc => newP_mem _ _ _ (List.mem_of_mem_take hc))
            rw [List.length_take] at this
            omega
          obtain ⟨a, ha⟩ : ∃ a, a = acc ++ vL (newP P (pts.take j)) := ⟨_, rfl⟩
          obtain ⟨fl, hfl⟩ : ∃ f, f = fL (P ++ newP P pts) (pts.take j) := ⟨_, rfl⟩
          rw [← ha, ← hfl]
          have hsa : (bs a).size ≤ 400000 := by rw [bs_size, ha, List.length_append]; omega
          have hsf : (bs fl).size ≤ 1000 := by rw [bs_size, hfl]; omega
          have HA := Lib.hid ha
          have HFL := Lib.hid hfl
          have HI := Lib.hid (index_any _ Q nx ny nz (by have := HLl.out; omega) (wr.alloc (.cells #[.int .i64 nx, .int .i64 ny, .int .i64 nz] 51)) ((HOP2.out.rd).keep ((Upd.refl _ _).alloc _)))
          have HCB : Hid ((wr.alloc (.cells #[.int .i64 nx, .int .i64 ny, .int .i64 nz] 51)).heap[wr.heap.size]? = some (.cells #[.int .i64 nx, .int .i64 ny, .int .i64 nz] 51)) := heap_alloc_new _ _
          clear hin ha hfl hvl hfll hnl
          go_upto_if 36 with fail
          refine HI.out.mono ?_
          rintro e1 w3 ⟨rfl, u3⟩
          have hcb := u3.heap HCB.out id
          have U3 : Hid (Upd noBlk wr w3) := ((Upd.refl _ _).alloc _).trans u3
          have HC3 := Lib.hid hcb
          clear u3 x1 x2 x3 hcb HI
          go_upto_if 36 with fail
          go_cut [3, 4, 36] (fun sv pv _ wx => sv = .string (bs (acc ++ vL (newP P (pts.take (j + 1))))) ∧ (∃ Q', Q' = P ++ newP P (pts.take (j + 1)) ∧ OwnPts w.heap.size wx pv Q') ∧ Upd noBlk w wx ∧ wx.heap[wr.heap.size]? = some (.cells #[.int .i64 nx, .int .i64 ny, .int .i64 nz] 51))
          case first =>
            by_cases hm : ((nx : Int), (ny : Int), (nz : Int)) ∈ Q
            · have hnp : Hid (newP P (pts.take (j + 1)) = newP P (pts.take j)) := by show _ = _; rw [HTK.out, newP_snoc, if_pos (by rw [← HQ.out]; exact hm), List.append_nil]
              have e : ¬ idxI Q ((nx : Int), (ny : Int), (nz : Int)) < 0 := by rw [idxI_in hm]; omega
              clear hm
              go_wp2_with fail
              go_meet
              case rel => exact ⟨by rw [hnp.out, HA.out], ⟨Q, by rw [hnp.out]; exact HQ.out, HOP2.out.upd U3.out⟩, HU2.out.trans U3.out, HC3.out⟩
            · have hnp : Hid (newP P (pts.take (j + 1)) = newP P (pts.take j) ++ [((nx : Int), (ny : Int), (nz : Int))]) := by show _ = _; rw [HTK.out, newP_snoc, if_neg (by rw [← HQ.out]; exact hm)]
              have e : idxI Q ((nx : Int), (ny : Int), (nz : Int)) < 0 := by rw [idxI_out hm]; decide
              obtain ⟨g, cap', w5, r5, o5, v5, _⟩ := append_ptB (w := w3) (base := w.heap.size) (by have := HU2.out.size; have := U3.out.size; omega) (HOP2.out.upd U3.out) ((nx : Int), (ny : Int), (nz : Int)) (by have := HLl.out; omega)
              have hc5 := v5.heap HC3.out (fun e => by have := (HOP2.out.lt _ e).2; omega)
              have k0 := cell_of_row _ _ 0 _ _ _ HC3.out
              have k1 := cell_of_row _ _ 1 _ _ _ HC3.out
              have k2 := cell_of_row _ _ 2 _ _ _ HC3.out
              have m0 := cell_of_row _ _ 0 _ _ _ hc5
              have m1 := cell_of_row _ _ 1 _ _ _ hc5
              have m2 := cell_of_row _ _ 2 _ _ _ hc5
              change _ = some (Value.int .i64 nx) at k0 m0
              change _ = some (Value.int .i64 ny) at k1 m1
              change _ = some (Value.int .i64 nz) at k2 m2
              have U5 : Hid (Upd noBlk w w5) := (HU2.out.trans U3.out).then v5 (fun i hi e => by have := (HOP2.out.lt _ e).1; omega)
              have HC5 := Lib.hid hc5
              have R5 := Lib.hid r5
              have O5 := Lib.hid o5
              have hT := text_any nx ny nz (by omega) (by omega) (by omega) w5
              have hst : (bs (dec nx ++ [32] ++ dec ny ++ [32] ++ dec nz)).size ≤ 26 := by
                rw [bs_size]
                have := dec_len (n := nx) (by omega); have := dec_len (n := ny) (by omega); have := dec_len (n := nz) (by omega)
                simp only [List.length_append, List.length_cons, List.length_nil]; omega
              generalize htx : dec nx ++ [32] ++ dec ny ++ [32] ++ dec nz = tx at *
              have HTX := Lib.hid htx
              have HT := Lib.hid hT
              have q1 : (⟨#[10]⟩ : ByteArray).size = 1 := rfl
              have q2 : (⟨#[118, 32]⟩ : ByteArray).size = 2 := rfl
              clear hm htx hT r5 o5 v5 hc5
              go_wp2_with (at_builtin; refine wpList_append_run rfl _ _ _ rfl rfl rfl R5.out ?_)
              refine HT.out.mono ?_
              rintro e1 w6 ⟨rfl, u6⟩
              have U6 := Lib.hid u6
              clear u6 HT
              go_wp2_with fail
              go_meet
              case rel =>
                refine ⟨?_, ⟨_, by rw [hnp.out, ← List.append_assoc, ← HQ.out], O5.out.upd U6.out⟩, U5.out.trans U6.out, U6.out.heap HC5.out id⟩
                rw [hnp.out, vL_snoc, ptW_join, show (⟨#[10]⟩ : ByteArray) = bs [10] from rfl, show (⟨#[118, 32]⟩ : ByteArray) = bs [118, 32] from rfl, bs_append, bs_append, bs_append, HA.out, ← HTX.out]
                simp
          case rest =>
            obtain ⟨rfl, ⟨Q', hQ', hop3⟩, hu3, hcb3⟩ := hcut
            obtain ⟨Av3, cv3, hpv3⟩ := own_form hop3
            subst hpv3
            have HQ' := Lib.hid hQ'
            have HOP3 := Lib.hid hop3
            have HU3 := Lib.hid hu3
            have HCB3 := Lib.hid hcb3
            have hmQ : Hid (((nx : Int), (ny : Int), (nz : Int)) ∈ Q') := by show _ ∈ _; rw [HQ'.out]; exact newP_mem _ _ _ HMT.out
            have hlQ : Q'.length ≤ 7000 := by
              rw [hQ', List.length_append]
              have := newP_len (pts.take (j + 1)) P
              rw [List.length_take] at this
              omega
            have hix : idxI Q' ((nx : Int), (ny : Int), (nz : Int)) = (Q'.idxOf ((nx : Int), (ny : Int), (nz : Int)) : Nat) := idxI_in hmQ.out
            have hixl : Q'.idxOf ((nx : Int), (ny : Int), (nz : Int)) < Q'.length := List.idxOf_lt_length_iff.2 hmQ.out
            have HIS : Hid (Q'.idxOf ((nx : Int), (ny : Int), (nz : Int)) = (P ++ newP P pts).idxOf ((nx : Int), (ny : Int), (nz : Int))) := by
              show _ = _
              have := hmQ.out
              rw [HQ'.out] at this ⊢
              exact idx_stable this
            have HI2 := index_any _ Q' nx ny nz (by omega) wc hop3.rd
            rw [hix] at HI2
            obtain ⟨ix, hixe⟩ : ∃ ix, ix = Q'.idxOf ((nx : Int), (ny : Int), (nz : Int)) := ⟨_, rfl⟩
            rw [← hixe] at HI2 hixl
            have HIX := Lib.hid hixe
            have HII := Lib.hid HI2
            obtain ⟨m, hm⟩ : ∃ m : Nat, (ix : Int) + 1 = m := ⟨ix + 1, rfl⟩
            have HM : Hid (m = ix + 1) := by show _ = _; omega
            have hmb : (m : Int) ≤ 8000 := by omega
            have k0 := cell_of_row _ _ 0 _ _ _ hcb3
            have k1 := cell_of_row _ _ 1 _ _ _ hcb3
            have k2 := cell_of_row _ _ 2 _ _ _ hcb3
            change _ = some (Value.int .i64 nx) at k0
            change _ = some (Value.int .i64 ny) at k1
            change _ = some (Value.int .i64 nz) at k2
            have q1 : (⟨#[32]⟩ : ByteArray).size = 1 := rfl
            have hsd : (bs (dec m)).size ≤ 8 := by rw [bs_size]; exact dec_len (by omega)
            clear hQ' hop3 hu3 hcb3 hix HI2 hixe
            go_wp2_with fail
            refine HII.out.mono ?_
            rintro e1 w4 ⟨rfl, u4⟩
            have U4 := Lib.hid u4
            have HNU := Lib.hid (number_anyR m (by omega) w4)
            clear u4 HII
            go_wp2_with fail
            refine HNU.out.mono ?_
            rintro e1 w5 ⟨rfl, u5⟩
            have U5 := Lib.hid (U4.out.trans u5)
            clear u5 HNU
            go_wp2_with fail
            refine ⟨⟨j + 1, Q', by go_num, hjt, HQ'.out, rfl, ?_, HOP3.out.upd U5.out, HU3.out.trans U5.out⟩, by simp [intOf]; omega⟩
            rw [HTK.out, fL_snoc, ← HFL.out, ← HIS.out, ← HIX.out, ← HM.out, show (⟨#[32]⟩ : ByteArray) = bs [32] from rfl, bs_append, bs_append]
        · obtain rfl : j = pts.length := by omega
          have ht : pts.take pts.length = pts := List.take_length
          rw [ht] at HQ
          rw [ht]
          have hnl := newP_len pts P
          have hvl : (vL (newP P pts)).length ≤ 29 * pts.length := by
            have := vL_length (newP P pts) (fun c hc => List.all_eq_true.1 HVK.out.2.2 _ (newP_sub _ _ _ hc))
            omega
          have hfll : (fL (P ++ newP P pts) pts).length ≤ 1 + 9 * pts.length := fL_length _ hQl.out pts (fun c hc => newP_mem _ _ _ hc)
          have HNEXT : Hid (write1 ps = acc ++ vL (newP P pts) ++ fL (P ++ newP P pts) pts ++ [10] ++ body1 Q (ps.drop (k + 1))) := by show _ = _; rw [HSP.out, HBD.out, HQ.out]; simp
          obtain ⟨a, ha⟩ : ∃ a, a = acc ++ vL (newP P pts) := ⟨_, rfl⟩
          obtain ⟨fl, hfl⟩ : ∃ f, f = fL (P ++ newP P pts) pts := ⟨_, rfl⟩
          rw [← ha, ← hfl] at HNEXT ⊢
          have hal : a.length ≤ 3000 * k + 1856 := by rw [ha, List.length_append]; omega
          have hflb : fl.length ≤ 577 := by rw [hfl]; omega
          have hsa : (bs a).size ≤ 400000 := by rw [bs_size]; omega
          have hsf : (bs fl).size ≤ 1000 := by rw [bs_size]; omega
          have q1 : (⟨#[10]⟩ : ByteArray).size = 1 := rfl
          have HQL : Hid (Q.length ≤ 64 * (k + 1)) := by show _ ≤ _; rw [HQ.out, List.length_append]; omega
          clear ha hfl ht hvl hfll hnl
          go_wp2_with fail
          refine ⟨⟨k + 1, Q, a ++ fl ++ [10], ?_, by go_num, hlt, HNEXT.out, HOP2.out, HQL.out, ?_, HU2.out⟩, by simp [intOf]; omega⟩
          · rw [show (⟨#[10]⟩ : ByteArray) = bs [10] from rfl, bs_append, bs_append]
          · simp only [List.length_append, List.length_cons, List.length_nil]; omega
    · obtain rfl : k = ps.length := by omega
      go_wp2_with fail
      go_ret
      refine ⟨?_, HU.out⟩
      rw [HSP.out, List.drop_eq_nil_of_le (Nat.le_refl _)]
      simp [body1, W1, joinL]
set_option maxHeartbeats 1500000 in
theorem qWrite1_any (v : Value) (ps : List Poly) (hn : ps.length ≤ 100) (hv : ∀ p, p ∈ ps → validP p.1) (w : World) (h : RdPolys w v ps) :
    Calls Tryz.prog 14 #[.int .i64 1, v] w fun en w' => writeR (write1 ps) 0 w en w' := by
  obtain ⟨A, cap, rfl, hr⟩ := h
  have HR := Lib.hid hr
  have HV := Lib.hid hv
  have hlen : ((ps.length : Nat) : Int) ≤ 100 := by omega
  clear hr hv
  go_enter Tryz.func14, Tryz.ntmps14
  go_wp2_with fail
  go_loopw [6, 7] (fun i _ wr => ∃ k : Nat, i = .int .i64 k ∧ k ≤ ps.length ∧ Upd noBlk w wr) (fun i _ _ => ps.length - (intOf i).toNat)
  case atStart => exact ⟨0, rfl, Nat.zero_le _, Upd.refl _ _⟩
  case round =>
    obtain ⟨k, rfl, hk, hu⟩ := hrel
    have HU := Lib.hid hu
    clear hu
    by_cases hlt : k < ps.length
    · have hlt' : ((k : Nat) : Int) < ((ps.length : Nat) : Int) := by omega
      obtain ⟨b, off, rfl, f1⟩ := HR.out (by omega)
      obtain ⟨pv, c10, c11, r1⟩ := f1 k hlt
      have d0 := HU.out.cell c10 id
      have d1 := HU.out.cell c11 id
      have hw0 := wrongS_valid (HV.out _ (List.getElem_mem hlt))
      have HW := Lib.hid (qwrong_any pv ps[k].2 ps[k].1 wr (r1.keep HU.out))
      rw [hw0] at HW
      clear f1 c10 c11 r1 hw0
      generalize ps[k] = pk at *
      go_wp2_with fail
      refine HW.out.mono ?_
      rintro e1 w2 ⟨rfl, u2⟩
      go_wp2_with fail
      exact ⟨⟨k + 1, by go_num, hlt, HU.out.trans u2⟩, by simp [intOf]; omega⟩
    · obtain rfl : k = ps.length := by omega
      have HB := Lib.hid (qfaces_any _ ps hn HV.out wr ⟨A, cap, rfl, fun h => by obtain ⟨b, off, e, f⟩ := HR.out h; exact ⟨b, off, e, fun j hj => by obtain ⟨pv, g1, g2, g3⟩ := f j hj; exact ⟨pv, HU.out.cell g1 id, HU.out.cell g2 id, g3.keep HU.out⟩⟩⟩)
      go_wp2_with fail
      refine HB.out.mono ?_
      rintro e1 w2 ⟨rfl, u2⟩
      have U2 := Lib.hid (HU.out.trans u2)
      clear u2 HB
      go_wp2_with fail
      go_ret2
      show writeR (write1 ps) 0 w _ _
      exact ⟨rfl, U2.out⟩
end Go.Proofs.YtojdgdeefhndiaaGreatDoor
