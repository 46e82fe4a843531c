/- Walks of the laws of the polygon files: SoupSides. -/
import Derived.Test.YtojdgdeefhndiaaGreatDoorM41
import Derived.Test.YtojdgdeefhndiaaGreatDoorM47
import Derived.Test.YtojdgdeefhndiaaGreatDoorM39
import Derived.Test.YtojdgdeefhndiaaGreatDoorM4
namespace Go.Proofs.YtojdgdeefhndiaaGreatDoor
open Go Go.RowKit Sp Bg
set_option maxRecDepth 100000
def sidesP (n : Nat) : List Pt := (List.range n).map (fun j : Nat => ((j : Int), (1 : Int), (0 : Int)))
theorem sidesP_length (n : Nat) : (sidesP n).length = n := by simp [sidesP]
theorem sidesP_succ (n : Nat) : sidesP (n + 1) = sidesP n ++ [((n : Int), 1, 0)] := by simp [sidesP, List.range_succ]
theorem sidesP_in (n : Nat) (hn : n ≤ 100) : (sidesP n).all inR = true := by
  rw [List.all_eq_true]
  intro p hp
  obtain ⟨j, hj, rfl⟩ := List.mem_map.1 hp
  rw [List.mem_range] at hj
  rw [inR_iff]; omega
theorem wrong_sides (n : Nat) (hn : n ≤ 100) : wrongS (sidesP n) = if n < 3 then 11 else if 64 < n then 2 else 0 := by
  unfold wrongS
  rw [sidesP_length, sidesP_in n hn]; rfl
theorem err_sides (m n : Nat) (hm : m < 3) (hn : n ≤ 100) : errS (1 + (m : Int)) [(sidesP n, 0)] = if n < 3 then 11 else if 64 < n then 2 else 0 := by
  unfold errS
  rw [if_neg (by omega), firstWrong, firstWrong, wrong_sides n hn]
  by_cases h : (if n < 3 then 11 else if 64 < n then 2 else 0) = 0
  · rw [if_pos h, h]
  · rw [if_neg h]
theorem x_row' (w : World) (pv : Value) (pl : Int) : (w.alloc (.cells #[pv, .int .i64 pl] 43)).ownsRow 0 43 2 (.slice (some ⟨w.heap.size, 0, none⟩) 1 1) 1 [pv, .int .i64 pl] := ⟨rfl, .inr ⟨w.heap.size, 1, _, rfl, Nat.zero_le _, heap_alloc_new _ _, Nat.le_refl _, by unfold maxLen; decide, rfl, rfl⟩⟩
theorem rd_one (w : World) (pv : Value) (l : List Pt) (h : RdPts w pv l) : RdPolys (w.alloc (.cells #[pv, .int .i64 0] 43)) (.slice (some ⟨w.heap.size, 0, none⟩) 1 1) [(l, 0)] :=
  rdPolys_of_row (qs := [(pv, (l, 0))]) (x_row' w pv 0) (fun q hq => by rw [List.mem_singleton] at hq; subst hq; exact h.keep ((Upd.refl _ _).alloc _))
theorem pZ_step (d : Bytes) (n : Nat) : d ++ zeros (n + 1) = (d ++ zeros n) ++ [48, 32, 48, 32, 48, 10] := by rw [zeros, List.append_assoc]
set_option maxHeartbeats 2000000 in
theorem lawSoupSides_c (n0 n : Int) (_hf0 : (Lit.int .i64 n0).wf = true) (_hf : (Lit.int .i64 n).wf = true) (w : World) (hsh : w.ShapedOpen Tryz.prog) (hpow : Pow w) :
    Calls Tryz.prog 10 #[.int .i64 n0, .int .i64 n] w fun en w' => en = .returned (.bool true) ∧ Upd noBlk w w' := by
  have HSH := Lib.hid hsh
  have HPW := Lib.hid hpow
  have H1 := Lib.hid (sanity_any w hsh)
  clear hsh hpow
  obtain ⟨s, hs⟩ : ∃ s : Nat, n0 % 70 = s := ⟨(n0 % 70).toNat, by omega⟩
  have hs70 : s < 70 := by omega
  obtain ⟨m, hm⟩ : ∃ m : Nat, n % 3 = m := ⟨(n % 3).toNat, by omega⟩
  have hm' : m < 3 := by omega
  go_enter Tryz.func10, Tryz.ntmps10
  go_wp2_with fail
  refine H1.out.mono ?_
  rintro e1 w1 ⟨rfl, u1⟩
  have U1 := Lib.hid u1
  clear u1
  have HPB : Hid ((w1.alloc (.cells #[.slice none 0 0, .int .i64 0] 43)).heap[w1.heap.size]? = some (.cells #[.slice none 0 0, .int .i64 0] 43)) := heap_alloc_new _ _
  have HUB : Hid (Upd noBlk w (w1.alloc (.cells #[.slice none 0 0, .int .i64 0] 43))) := U1.out.alloc _
  have HNB := Lib.hid (number_anyL s (by omega) (w1.alloc (.cells #[.slice none 0 0, .int .i64 0] 43)))
  have hsd : (bs (dec s)).size ≤ 8 := by rw [bs_size]; exact dec_len (by omega)
  go_wp2_with (go_at_call 16; refine (Mod_any _ _ (by decide) (by decide) _).mono ?_; rintro e1 w1 ⟨rfl, rfl⟩)
  refine HNB.out.mono ?_
  rintro e1 w2 ⟨rfl, u2⟩
  have HP2 := Lib.hid (u2.heap HPB.out id)
  have U2 := Lib.hid (HUB.out.trans u2)
  have hl2 : w1.heap.size < w2.heap.size := lt_of_heap HP2.out
  clear u2 HNB
  obtain ⟨dh, hdh⟩ : ∃ dh : Bytes, dh = [112, 111, 108, 121, 32] ++ dec s ++ [10] := ⟨_, rfl⟩
  have hdl : dh.length ≤ 20 := by rw [hdh]; have := dec_len (n := s) (by omega); simp; omega
  have HD0 : Hid ((⟨#[112, 111, 108, 121, 32]⟩ : ByteArray) ++ bs (dec s) ++ ⟨#[10]⟩ = bs dh) := by
    show _ = _
    rw [hdh, ← bs_append, ← bs_append]; rfl
  have HDZ : Hid (dh ++ zeros s = pZeros s) := by show _ = _; rw [hdh]; rfl
  clear hdh
  go_wp2_with fail
  go_loopw [8, 9, 10] (fun fv gv i wr => ∃ (j : Nat) (pv : Value), i = .int .i64 j ∧ j ≤ s ∧ fv = .string (bs (fOnes j)) ∧ gv = .string (bs (dh ++ zeros j)) ∧ pv.oneCell' = true ∧ wr.heap[w1.heap.size]? = some (.cells #[pv, .int .i64 0] 43) ∧ OwnPts w2.heap.size wr pv (sidesP j) ∧ Upd noBlk w wr ∧ w2.heap.size ≤ wr.heap.size) (fun _ _ i _ => s - (intOf i).toNat)
  case atStart => exact ⟨0, _, rfl, Nat.zero_le _, rfl, by rw [HD0.out, zeros, List.append_nil], rfl, HP2.out, OwnPts.nil _ _, U2.out, Nat.le_refl _⟩
  case round =>
    obtain ⟨j, pv, rfl, hj, rfl, rfl, hpv, hpb, hop, hu, hz⟩ := hrel
    have HPV := Lib.hid hpv
    have HPB := Lib.hid hpb
    have HOP := Lib.hid hop
    have HU := Lib.hid hu
    have hsf : (bs (fOnes j)).size ≤ 200 := by rw [bs_size]; show (ones j).length + 1 ≤ _; rw [ones_length]; omega
    have hsg : (bs (dh ++ zeros j)).size ≤ 600 := by rw [bs_size, List.length_append, zeros_length]; omega
    have hcp : wr.cell? ⟨w1.heap.size, 0, none⟩ = some pv := by simp [World.cell?, hpb]
    clear hpv hop hu
    by_cases hlt : j < s
    · have hlt' : ((j : Nat) : Int) < ((s : Nat) : Int) := by omega
      obtain ⟨g, cap', w5, r5, o5, v5, _⟩ := append_ptB hz HOP.out ((j : Int), 1, 0) (by rw [sidesP_length]; omega)
      have hPB5 : w5.heap[w1.heap.size]? = some (.cells #[pv, .int .i64 0] 43) := v5.heap HPB.out (OwnPts.not_blk HOP.out HPB.out (by decide))
      have hpc : w5.cell? ⟨w1.heap.size, 0, none⟩ = some pv := by simp [World.cell?, hPB5]
      have hpz : w5.frozen? ⟨w1.heap.size, 0, none⟩ = false := by simp [World.frozen?, hPB5]
      have hwl : w.heap.size ≤ w1.heap.size := U1.out.size
      have hU5 : Upd noBlk w w5 := HU.out.then v5 (fun i hi e => by have := (HOP.out.lt _ e).1; omega)
      have HU5 := Lib.hid hU5
      have HP5 := Lib.hid hPB5
      have hz5 : w2.heap.size ≤ w5.heap.size := Nat.le_trans hz v5.size
      rw [sidesP_length] at r5 o5
      have O5 := Lib.hid o5
      have R5 := Lib.hid r5
      clear r5 o5 v5 hPB5 hU5 hpb
      go_wp2_with (at_builtin; refine wpList_append_run rfl _ _ _ rfl rfl rfl R5.out ?_)
      refine ⟨⟨j + 1, .slice (some ⟨g, 0, none⟩) (j + 1) cap', by go_num, hlt, ?_, ?_, rfl, ?_, ?_, HU5.out.setCell (fun h => by simp only at h; omega) _, by simpa using hz5⟩, by simp [intOf]; omega⟩
      · show Value.string (bs (fOnes j) ++ bs [32, 49]) = _
        rw [bs_append]; rfl
      · show Value.string (bs (dh ++ zeros j) ++ bs [48, 32, 48, 32, 48, 10]) = _
        rw [bs_append, pZ_step]
      · rw [heap_setCell_eq _ HP5.out]; rfl
      · rw [sidesP_succ]
        have h1 : w1.heap.size < w2.heap.size := hl2
        exact ownsRow_setCell_other O5.out (OwnPts.not_blk O5.out HP5.out (by decide)) _
    · have hjs : j = s := by omega
      subst hjs
      have X1 : Hid (wr.cell? ⟨w1.heap.size, 0, none⟩ = some pv) := by show _ = _; simp [World.cell?, HPB.out]
      have X2 : Hid (wr.cell? ⟨w1.heap.size, 1, none⟩ = some (.int .i64 0)) := by show _ = _; simp [World.cell?, HPB.out]
      have HWR : Hid (∀ W, Upd noBlk wr W → Calls Tryz.prog 19 #[.int .i64 (1 + (m : Int)), .slice (some ⟨W.heap.size, 0, none⟩) 1 1] (W.alloc (.cells #[pv, .int .i64 0] 43)) fun en w' => writeR (outS (1 + (m : Int)) [(sidesP j, 0)]) (errS (1 + (m : Int)) [(sidesP j, 0)]) (W.alloc (.cells #[pv, .int .i64 0] 43)) en w') := fun W hW =>
        pWrite_any _ _ [(sidesP j, 0)] (by simp) (fun p hp => by rw [List.mem_singleton] at hp; subst hp; simp only; rw [sidesP_length]; omega) _ (HPW.out.keep ((HU.out.trans hW).alloc _)) (rd_one W pv (sidesP j) (HOP.out.rd.keep hW))
      have HES := Lib.hid (err_sides m j hm' (by omega))
      have HR1 : Hid (∀ W r, W.ShapedOpen Tryz.prog → readS (vOne ++ fOnes j) = r → Calls Tryz.prog 17 #[.string ((⟨#[118, 32, 49, 32, 49, 32, 49, 10]⟩ : ByteArray) ++ bs (fOnes j))] W fun en w' => readQ r W en w') := fun W r hW hr => by
        rw [show (⟨#[118, 32, 49, 32, 49, 32, 49, 10]⟩ : ByteArray) = bs vOne from rfl, bs_append]
        exact read_ba _ _ hr (by rw [List.length_append]; show 8 + ((ones j).length + 1) ≤ _; rw [ones_length]; omega) W hW
      have HR2 : Hid (∀ W r, W.ShapedOpen Tryz.prog → readS (pZeros j) = r → Calls Tryz.prog 17 #[.string (bs (dh ++ zeros j))] W fun en w' => readQ r W en w') := fun W r hW hr => by
        rw [HDZ.out]
        exact read_ba _ _ hr (by rw [← HDZ.out, List.length_append, zeros_length]; omega) W hW
      have HA1 : Hid (∀ W, W.ShapedOpen Tryz.prog → Calls Tryz.prog 12 #[.string ((⟨#[118, 32, 49, 32, 49, 32, 49, 10]⟩ : ByteArray) ++ bs (fOnes j))] W fun en w' => en = .returned (.bool true) ∧ Upd noBlk W w') := fun W hW =>
        agrees_ba _ (by rw [ba_size]; show 8 + _ ≤ _; omega) W hW
      have HA2 : Hid (∀ W, W.ShapedOpen Tryz.prog → Calls Tryz.prog 12 #[.string (bs (dh ++ zeros j))] W fun en w' => en = .returned (.bool true) ∧ Upd noBlk W w') := fun W hW =>
        agrees_ba _ (by omega) W hW
      have hcase : j < 3 ∨ (¬ j < 3 ∧ 64 < j) ∨ (¬ j < 3 ∧ ¬ 64 < j) := by omega
      clear hcp hpb hlt
      rcases hcase with hcase | hcase | hcase
      · have d3 : ¬ (3 : Int) ≤ ((j : Nat) : Int) := by omega
        have hev : errS (1 + (m : Int)) [(sidesP j, 0)] = 11 := by rw [HES.out, if_pos hcase]
        have hq1 := Lib.hid (read_fOnes j)
        have hq2 := Lib.hid (read_pZeros j (by omega))
        rw [if_pos hcase] at hq1 hq2
        have hev' := Lib.hid hev
        clear hev
        generalize outS (1 + (m : Int)) [(sidesP j, 0)] = os at *
        go_upto_region 13 with fail
        go_cut [12, 13] (fun sv ev wy => sv = .string (bs os) ∧ ev = .int .i64 11 ∧ Upd noBlk wr wy)
        case first =>
          refine wp_region_tree 10 (OT.sures [0, 3] (.fork 1 (.sure 2 (.run 4 (.run 5 (OT.sures [6, 7, 8, 9] .nil)))) 4 (.run 1 (.sure 2 (.run 5 (OT.sures [6, 7, 8, 9] .nil)))))) (fun w' => Upd noBlk wr w') (by kernel_rfl) (by kernel_rfl) (fun c a d v w h => by cases d <;> exact h) (Upd.refl _ _).drew ?_
          simp only [OT.sures]
          iterate 2 (apply wpT_sure rfl rfl; focus (intro w' hw'; have y1 := hw'.cell X1.out id; have y2 := hw'.cell X2.out id; go_simp; rfl))
          refine wpT_fork (fun w' => Upd noBlk wr w') (fun w' => Upd noBlk wr w') (fun _ h => h) (fun _ h => h) rfl rfl (fun K hK => ?_) (fun K hK => ?_)
          · go_simp
            refine (Mod_any n 3 (by decide) (by decide) _).mono ?_
            rintro e1 w4 ⟨rfl, rfl⟩
            rw [hm]
            refine hK _ _ ⟨(Upd.refl _ _).drew, ?_⟩
            clear hK K
            refine wpT_sure rfl rfl (.int .i64 (1 + (m : Int))) (fun w' _ => by go_simp; rw [IntKind.wrap_i64]; omega) ?_
            refine wpT_run (fun w' => Upd noBlk wr w') (fun _ h => h) rfl (fun K hK => ?_)
            go_simp
            refine hK _ _ ⟨(Upd.refl _ _).drew.alloc _, ?_⟩
            clear hK K
            have HW5 := Lib.hid (HWR.out wr.drew (Upd.refl _ _).drew)
            rw [hev'.out] at HW5
            refine wpT_run (fun w' => Upd noBlk wr w') (fun _ h => h) rfl (fun K hK => ?_)
            go_simp
            refine HW5.out.mono ?_
            rintro e1 w5 ⟨rfl, u5⟩
            have U5 := Lib.hid (((Upd.refl noBlk wr).drew.alloc (.cells #[pv, .int .i64 0] 43)).trans u5)
            refine hK _ _ ⟨U5.out, ?_⟩
            clear hK K u5
            iterate 4 (apply wpT_sure rfl rfl; focus (intro w' hw'; go_simp; rfl))
            refine wpT_nil ?_
            simp only [List.drop_succ_cons, List.drop_zero]
            go_wp2_with fail
            go_meet
            case rel => exact ⟨rfl, rfl, U5.out⟩
          · go_simp
            refine hK _ _ ⟨((Upd.refl _ _).alloc _).drew, ?_⟩
            clear hK K
            refine wpT_run (fun w' => Upd noBlk wr w') (fun _ h => h) rfl (fun K hK => ?_)
            go_simp
            refine (Mod_any n 3 (by decide) (by decide) _).mono ?_
            rintro e1 w4 ⟨rfl, rfl⟩
            rw [hm]
            refine hK _ _ ⟨((Upd.refl _ _).alloc _).drew, ?_⟩
            clear hK K
            refine wpT_sure rfl rfl (.int .i64 (1 + (m : Int))) (fun w' _ => by go_simp; rw [IntKind.wrap_i64]; omega) ?_
            have HW5 := Lib.hid (HWR.out wr.drew (Upd.refl _ _).drew)
            rw [hev'.out] at HW5
            refine wpT_run (fun w' => Upd noBlk wr w') (fun _ h => h) rfl (fun K hK => ?_)
            go_simp
            refine HW5.out.mono ?_
            rintro e1 w5 ⟨rfl, u5⟩
            have U5 := Lib.hid (((Upd.refl noBlk wr).drew.alloc (.cells #[pv, .int .i64 0] 43)).trans u5)
            refine hK _ _ ⟨U5.out, ?_⟩
            clear hK K u5
            iterate 4 (apply wpT_sure rfl rfl; focus (intro w' hw'; go_simp; rfl))
            refine wpT_nil ?_
            simp only [List.drop_succ_cons, List.drop_zero]
            go_wp2_with fail
            go_meet
            case rel => exact ⟨rfl, rfl, U5.out⟩
        case rest =>
          obtain ⟨rfl, rfl, hu5⟩ := hcut
          have U5 := Lib.hid (HU.out.trans hu5)
          clear hu5
          go_wp2_with fail
          refine (HR1.out _ _ (U5.out.shaped HSH.out) hq1.out).mono ?_
          rintro e1 w6 ⟨rfl, u6⟩
          have U6 := Lib.hid (U5.out.trans u6)
          clear u6
          go_wp2_with fail
          refine (HR2.out _ _ (U6.out.shaped HSH.out) hq2.out).mono ?_
          rintro e1 w7 ⟨rfl, u7⟩
          have U7 := Lib.hid (U6.out.trans u7)
          clear u7
          go_wp2_with fail
          refine (HA1.out _ (U7.out.shaped HSH.out)).mono ?_
          rintro e1 w8 ⟨rfl, u8⟩
          have U8 := Lib.hid (U7.out.trans u8)
          clear u8
          go_wp2_with fail
          refine (HA2.out _ (U8.out.shaped HSH.out)).mono ?_
          rintro e1 w9 ⟨rfl, u9⟩
          have U9 := Lib.hid (U8.out.trans u9)
          clear u9
          go_wp2_with fail
          go_ret
          exact ⟨rfl, U9.out⟩
      · have d3 : (3 : Int) ≤ ((j : Nat) : Int) := by omega
        have d64 : ¬ ((j : Nat) : Int) ≤ 64 := by omega
        have hev : errS (1 + (m : Int)) [(sidesP j, 0)] = 2 := by rw [HES.out, if_neg hcase.1, if_pos hcase.2]
        have hq1 := Lib.hid (read_fOnes j)
        have hq2 := Lib.hid (read_pZeros j (by omega))
        rw [if_neg hcase.1, if_pos hcase.2] at hq1 hq2
        have hev' := Lib.hid hev
        clear hev
        generalize outS (1 + (m : Int)) [(sidesP j, 0)] = os at *
        go_upto_region 13 with fail
        go_cut [12, 13] (fun sv ev wy => sv = .string (bs os) ∧ ev = .int .i64 2 ∧ Upd noBlk wr wy)
        case first =>
          refine wp_region_tree 10 (OT.sures [0, 3] (.fork 1 (.sure 2 (.run 4 (.run 5 (OT.sures [6, 7, 8, 9] .nil)))) 4 (.run 1 (.sure 2 (.run 5 (OT.sures [6, 7, 8, 9] .nil)))))) (fun w' => Upd noBlk wr w') (by kernel_rfl) (by kernel_rfl) (fun c a d v w h => by cases d <;> exact h) (Upd.refl _ _).drew ?_
          simp only [OT.sures]
          iterate 2 (apply wpT_sure rfl rfl; focus (intro w' hw'; have y1 := hw'.cell X1.out id; have y2 := hw'.cell X2.out id; go_simp; rfl))
          refine wpT_fork (fun w' => Upd noBlk wr w') (fun w' => Upd noBlk wr w') (fun _ h => h) (fun _ h => h) rfl rfl (fun K hK => ?_) (fun K hK => ?_)
          · go_simp
            refine (Mod_any n 3 (by decide) (by decide) _).mono ?_
            rintro e1 w4 ⟨rfl, rfl⟩
            rw [hm]
            refine hK _ _ ⟨(Upd.refl _ _).drew, ?_⟩
            clear hK K
            refine wpT_sure rfl rfl (.int .i64 (1 + (m : Int))) (fun w' _ => by go_simp; rw [IntKind.wrap_i64]; omega) ?_
            refine wpT_run (fun w' => Upd noBlk wr w') (fun _ h => h) rfl (fun K hK => ?_)
            go_simp
            refine hK _ _ ⟨(Upd.refl _ _).drew.alloc _, ?_⟩
            clear hK K
            have HW5 := Lib.hid (HWR.out wr.drew (Upd.refl _ _).drew)
            rw [hev'.out] at HW5
            refine wpT_run (fun w' => Upd noBlk wr w') (fun _ h => h) rfl (fun K hK => ?_)
            go_simp
            refine HW5.out.mono ?_
            rintro e1 w5 ⟨rfl, u5⟩
            have U5 := Lib.hid (((Upd.refl noBlk wr).drew.alloc (.cells #[pv, .int .i64 0] 43)).trans u5)
            refine hK _ _ ⟨U5.out, ?_⟩
            clear hK K u5
            iterate 4 (apply wpT_sure rfl rfl; focus (intro w' hw'; go_simp; rfl))
            refine wpT_nil ?_
            simp only [List.drop_succ_cons, List.drop_zero]
            go_wp2_with fail
            go_meet
            case rel => exact ⟨rfl, rfl, U5.out⟩
          · go_simp
            refine hK _ _ ⟨((Upd.refl _ _).alloc _).drew, ?_⟩
            clear hK K
            refine wpT_run (fun w' => Upd noBlk wr w') (fun _ h => h) rfl (fun K hK => ?_)
            go_simp
            refine (Mod_any n 3 (by decide) (by decide) _).mono ?_
            rintro e1 w4 ⟨rfl, rfl⟩
            rw [hm]
            refine hK _ _ ⟨((Upd.refl _ _).alloc _).drew, ?_⟩
            clear hK K
            refine wpT_sure rfl rfl (.int .i64 (1 + (m : Int))) (fun w' _ => by go_simp; rw [IntKind.wrap_i64]; omega) ?_
            have HW5 := Lib.hid (HWR.out wr.drew (Upd.refl _ _).drew)
            rw [hev'.out] at HW5
            refine wpT_run (fun w' => Upd noBlk wr w') (fun _ h => h) rfl (fun K hK => ?_)
            go_simp
            refine HW5.out.mono ?_
            rintro e1 w5 ⟨rfl, u5⟩
            have U5 := Lib.hid (((Upd.refl noBlk wr).drew.alloc (.cells #[pv, .int .i64 0] 43)).trans u5)
            refine hK _ _ ⟨U5.out, ?_⟩
            clear hK K u5
            iterate 4 (apply wpT_sure rfl rfl; focus (intro w' hw'; go_simp; rfl))
            refine wpT_nil ?_
            simp only [List.drop_succ_cons, List.drop_zero]
            go_wp2_with fail
            go_meet
            case rel => exact ⟨rfl, rfl, U5.out⟩
        case rest =>
          obtain ⟨rfl, rfl, hu5⟩ := hcut
          have U5 := Lib.hid (HU.out.trans hu5)
          clear hu5
          go_wp2_with fail
          refine (HR1.out _ _ (U5.out.shaped HSH.out) hq1.out).mono ?_
          rintro e1 w6 ⟨rfl, u6⟩
          have U6 := Lib.hid (U5.out.trans u6)
          clear u6
          go_wp2_with fail
          refine (HR2.out _ _ (U6.out.shaped HSH.out) hq2.out).mono ?_
          rintro e1 w7 ⟨rfl, u7⟩
          have U7 := Lib.hid (U6.out.trans u7)
          clear u7
          go_wp2_with fail
          refine (HA1.out _ (U7.out.shaped HSH.out)).mono ?_
          rintro e1 w8 ⟨rfl, u8⟩
          have U8 := Lib.hid (U7.out.trans u8)
          clear u8
          go_wp2_with fail
          refine (HA2.out _ (U8.out.shaped HSH.out)).mono ?_
          rintro e1 w9 ⟨rfl, u9⟩
          have U9 := Lib.hid (U8.out.trans u9)
          clear u9
          go_wp2_with fail
          go_ret
          exact ⟨rfl, U9.out⟩
      · have d3 : (3 : Int) ≤ ((j : Nat) : Int) := by omega
        have d64 : ((j : Nat) : Int) ≤ 64 := by omega
        have hev : errS (1 + (m : Int)) [(sidesP j, 0)] = 0 := by rw [HES.out, if_neg hcase.1, if_neg hcase.2]
        have hq1 := Lib.hid (read_fOnes j)
        have hq2 := Lib.hid (read_pZeros j (by omega))
        rw [if_neg hcase.1, if_neg hcase.2] at hq1 hq2
        have hev' := Lib.hid hev
        clear hev
        generalize outS (1 + (m : Int)) [(sidesP j, 0)] = os at *
        go_upto_region 13 with fail
        go_cut [12, 13] (fun sv ev wy => sv = .string (bs os) ∧ ev = .int .i64 0 ∧ Upd noBlk wr wy)
        case first =>
          refine wp_region_tree 10 (OT.sures [0, 3] (.fork 1 (.sure 2 (.run 4 (.run 5 (OT.sures [6, 7, 8, 9] .nil)))) 4 (.run 1 (.sure 2 (.run 5 (OT.sures [6, 7, 8, 9] .nil)))))) (fun w' => Upd noBlk wr w') (by kernel_rfl) (by kernel_rfl) (fun c a d v w h => by cases d <;> exact h) (Upd.refl _ _).drew ?_
          simp only [OT.sures]
          iterate 2 (apply wpT_sure rfl rfl; focus (intro w' hw'; have y1 := hw'.cell X1.out id; have y2 := hw'.cell X2.out id; go_simp; rfl))
          refine wpT_fork (fun w' => Upd noBlk wr w') (fun w' => Upd noBlk wr w') (fun _ h => h) (fun _ h => h) rfl rfl (fun K hK => ?_) (fun K hK => ?_)
          · go_simp
            refine (Mod_any n 3 (by decide) (by decide) _).mono ?_
            rintro e1 w4 ⟨rfl, rfl⟩
            rw [hm]
            refine hK _ _ ⟨(Upd.refl _ _).drew, ?_⟩
            clear hK K
            refine wpT_sure rfl rfl (.int .i64 (1 + (m : Int))) (fun w' _ => by go_simp; rw [IntKind.wrap_i64]; omega) ?_
            refine wpT_run (fun w' => Upd noBlk wr w') (fun _ h => h) rfl (fun K hK => ?_)
            go_simp
            refine hK _ _ ⟨(Upd.refl _ _).drew.alloc _, ?_⟩
            clear hK K
            have HW5 := Lib.hid (HWR.out wr.drew (Upd.refl _ _).drew)
            rw [hev'.out] at HW5
            refine wpT_run (fun w' => Upd noBlk wr w') (fun _ h => h) rfl (fun K hK => ?_)
            go_simp
            refine HW5.out.mono ?_
            rintro e1 w5 ⟨rfl, u5⟩
            have U5 := Lib.hid (((Upd.refl noBlk wr).drew.alloc (.cells #[pv, .int .i64 0] 43)).trans u5)
            refine hK _ _ ⟨U5.out, ?_⟩
            clear hK K u5
            iterate 4 (apply wpT_sure rfl rfl; focus (intro w' hw'; go_simp; rfl))
            refine wpT_nil ?_
            simp only [List.drop_succ_cons, List.drop_zero]
            go_wp2_with fail
            go_meet
            case rel => exact ⟨rfl, rfl, U5.out⟩
          · go_simp
            refine hK _ _ ⟨((Upd.refl _ _).alloc _).drew, ?_⟩
            clear hK K
            refine wpT_run (fun w' => Upd noBlk wr w') (fun _ h => h) rfl (fun K hK => ?_)
            go_simp
            refine (Mod_any n 3 (by decide) (by decide) _).mono ?_
            rintro e1 w4 ⟨rfl, rfl⟩
            rw [hm]
            refine hK _ _ ⟨((Upd.refl _ _).alloc _).drew, ?_⟩
            clear hK K
            refine wpT_sure rfl rfl (.int .i64 (1 + (m : Int))) (fun w' _ => by go_simp; rw [IntKind.wrap_i64]; omega) ?_
            have HW5 := Lib.hid (HWR.out wr.drew (Upd.refl _ _).drew)
            rw [hev'.out] at HW5
            refine wpT_run (fun w' => Upd noBlk wr w') (fun _ h => h) rfl (fun K hK => ?_)
            go_simp
            refine HW5.out.mono ?_
            rintro e1 w5 ⟨rfl, u5⟩
            have U5 := Lib.hid (((Upd.refl noBlk wr).drew.alloc (.cells #[pv, .int .i64 0] 43)).trans u5)
            refine hK _ _ ⟨U5.out, ?_⟩
            clear hK K u5
            iterate 4 (apply wpT_sure rfl rfl; focus (intro w' hw'; go_simp; rfl))
            refine wpT_nil ?_
            simp only [List.drop_succ_cons, List.drop_zero]
            go_wp2_with fail
            go_meet
            case rel => exact ⟨rfl, rfl, U5.out⟩
        case rest =>
          obtain ⟨rfl, rfl, hu5⟩ := hcut
          have U5 := Lib.hid (HU.out.trans hu5)
          clear hu5
          go_wp2_with fail
          refine (HR1.out _ _ (U5.out.shaped HSH.out) hq1.out).mono ?_
          rintro e1 w6 ⟨v6, rfl, o6, u6⟩
          have U6 := Lib.hid (U5.out.trans u6)
          have RD6 := Lib.hid o6.rd
          clear u6 o6
          go_wp2_with fail
          refine (HR2.out _ _ (U6.out.shaped HSH.out) hq2.out).mono ?_
          rintro e1 w7 ⟨v7, rfl, o7, u7⟩
          have U7 := Lib.hid (U6.out.trans u7)
          have RD6b := Lib.hid (RD6.out.keep u7)
          have RD7 := Lib.hid o7.rd
          clear u7 o7 RD6
          go_wp2_with fail
          refine (HA1.out _ (U7.out.shaped HSH.out)).mono ?_
          rintro e1 w8 ⟨rfl, u8⟩
          have U8 := Lib.hid (U7.out.trans u8)
          have RD6c := Lib.hid (RD6b.out.keep u8)
          have RD7c := Lib.hid (RD7.out.keep u8)
          clear u8 RD6b RD7
          go_wp2_with fail
          refine (HA2.out _ (U8.out.shaped HSH.out)).mono ?_
          rintro e1 w9 ⟨rfl, u9⟩
          have U9 := Lib.hid (U8.out.trans u9)
          obtain ⟨A6, c6, rfl, g6⟩ := RD6c.out.keep u9
          obtain ⟨A7, c7, rfl, g7⟩ := RD7c.out.keep u9
          obtain ⟨b6, o6, rfl, f6⟩ := g6 (by simp)
          obtain ⟨b7, o7, rfl, f7⟩ := g7 (by simp)
          obtain ⟨pv6, d6, _, B6, cp6, rfl, _⟩ := f6 0 (by simp)
          obtain ⟨pv7, d7, _, B7, cp7, rfl, _⟩ := f7 0 (by simp)
          simp only [Nat.zero_mul, Nat.add_zero, List.getElem_cons_zero, List.length_replicate] at d6 d7
          clear u9 g6 g7 f6 f7
          go_wp2_with fail
          go_ret
          exact ⟨rfl, U9.out⟩
end Go.Proofs.YtojdgdeefhndiaaGreatDoor
