/- The law: no string is a packet of two kinds, and what is accepted is the packet of what is returned. No condition. -/
import Derived.Test.YtcikldoaidmnhaaGreatDoorC35
import Derived.Test.YtcikldoaidmnhaaGreatDoorC31
namespace Go.Proofs.YtcikldoaidmnhaaGreatDoor
open Go Go.RowKit Pk Pc
set_option maxRecDepth 100000
theorem str_of (l : List Nat) : str l = bs (l.map UInt8.ofNat) := rfl
theorem shortG_cluster (T : List Tri) : shortG ((clusterN T).map UInt8.ofNat) := by
  unfold clusterN
  split
  · show shortG ((1 :: encode (bitsC (canon T))).map UInt8.ofNat)
    rw [List.map_cons]
    exact shortG_head rfl (by decide)
  · exact shortG_nil
theorem gvOf_ok {l : Bytes} {g : Grp} (h : groupO l = some g) (hs : shortG l) : (gvOf g).Ok := by
  obtain ⟨_, hn, _⟩ := groupO_good h
  exact ⟨by have := hn.1; show g.level < _; omega, by have := hn.2.1; show g.err < _; omega, by have := hn.2.2; show g.total < _; omega, hs g h⟩
theorem group_again {l : Bytes} {g : Grp} (h : grpR l = some g) (hs : shortG l) (vi vo vm : Value) (W : World) (hi : kPart.Rd W vi (g.ins.map p32)) (ho : kHash.Rd W vo (g.outs.map h32)) (hm : kMove.Rd W vm g.moves) :
    Calls Tryz.prog 32 #[.agg #[.int .i64 g.level, vi, vo, vm, .int .i64 g.err, .int .i64 g.total, .bool g.neg, .string (bs g.mag)]] W fun en w' => strR l W en w' := by
  obtain ⟨h1, h2, h3⟩ := grp_some h
  have hk := Group_any (gvOf g) (gvOf_ok h1 hs) vi vo vm W hi ho hm
  rw [gvOf_g (groupO_good h1).1, if_pos h2, h3] at hk
  exact hk
theorem root_again {l : Bytes} {x : List Part} (h : rootR l = some x) (v : Value) (W : World) (hv : kPart.Rd W v (x.map p32)) : Calls Tryz.prog 25 #[.agg #[v]] W fun en w' => strR l W en w' := by
  obtain ⟨h1, h2, h3⟩ := root_some h
  have hk := Root_any v (x.map p32) W hv
  rw [if_neg (by rw [List.length_map]; omega), plain_map h2, h1] at hk
  exact hk
theorem cluster_again {l : Bytes} {T : List Tri} (h : openN (natsB l) = some T) (v : Value) (W : World) (hv : kTri.Rd W v T) : Calls Tryz.prog 16 #[v] W fun en w' => en = .returned (.string (bs l)) ∧ Upd noBlk W w' := by
  obtain ⟨h1, h2, h3⟩ := openN_some h
  have h4 : T.length ≤ 128 := by
    have := (canon_fine h2).2
    rw [h3] at this; exact this
  have h5 : ∀ t, t ∈ T → okT t := fun t ht => by
    have := (canon_fine h2).1.ins
    rw [h3] at this
    exact okT_of (this t ht)
  have hk := Cluster_any v T (by omega) h5 W hv
  rw [h1, str_nats] at hk
  exact hk
set_option maxHeartbeats 8000000 in
theorem lawPackKinds_c (x : SV) (vh : Value) (y : FV) (vi vo vm : Value) (raw : ByteArray) (hx : x.Ok) (hy : y.Ok) (hraw : raw.size ≤ maxLen) (w : World) (h : kInt.Rd w vh x.heights) (hr : y.Rd w vi vo vm) : Calls Tryz.prog 12 #[x.V vh, y.V vi vo vm, .string raw] w fun en w' => en = .returned (.bool true) ∧ Upd noBlk w w' := by
  have HS := fun W => Lib.hid (sanity_any W)
  have HTR : Hid (∀ W, Upd noBlk w W → Calls Tryz.prog 15 #[x.V vh] W fun en w' => ∃ v, en = .returned v ∧ kTri.Rd w' v x.tris ∧ x.tris.length ≤ 200 ∧ Upd noBlk W w') := fun W hW => tris_any x vh W hx (h.keep hW)
  have HSM := Lib.hid x.small
  have HGP : Hid (∀ W, Upd noBlk w W → Calls Tryz.prog 31 #[y.V vi vo vm] W fun en w' => ∃ ui uo um, en = .returned (y.gv.V ui uo um) ∧ kPart.Own W.heap.size w' ui y.gv.ins ∧ kHash.Own W.heap.size w' uo y.gv.outs ∧ kMove.Own W.heap.size w' um y.gv.moves ∧ Upd noBlk W w') := fun W hW => group_any y vi vo vm W hy.ins hy.outs hy.moves hy.mag (hr.ins.keep hW) (hr.outs.keep hW) (hr.moves.keep hW)
  have HPA : Hid (∀ W, Upd noBlk w W → Calls Tryz.prog 24 #[vi] W fun en w' => ∃ v, en = .returned v ∧ kPart.Own W.heap.size w' v ((y.ins.take 10).map partOf) ∧ Upd noBlk W w') := fun W hW => jParts_any vi y.ins W hy.ins (hr.ins.keep hW)
  obtain ⟨hok, l1, l2, l3, l4⟩ := FV.gv_ok hy
  have HOK := Lib.hid hok
  have HL : Hid (y.gv.ins.length ≤ 10 ∧ y.gv.outs.length ≤ 10 ∧ y.gv.moves.length ≤ 10 ∧ y.gv.mag.length ≤ 40) := ⟨l1, l2, l3, l4⟩
  obtain ⟨T, hT⟩ : ∃ T, T = x.tris := ⟨_, rfl⟩
  rw [← hT] at HTR HSM
  obtain ⟨z, hz⟩ : ∃ z, z = y.gv := ⟨_, rfl⟩
  rw [← hz] at HGP HOK HL
  obtain ⟨PL, hPL⟩ : ∃ PL, PL = (y.ins.take 10).map partOf := ⟨_, rfl⟩
  have hPL10 : PL.length ≤ 10 := by rw [hPL, List.length_map, List.length_take]; omega
  have HPL : Hid (PL.length ≤ 10) := hPL10
  rw [← hPL] at HPA
  obtain ⟨RW, hRW⟩ : ∃ RW : Bytes, raw = bs RW := ⟨raw.data.toList, rfl⟩
  subst hRW
  obtain ⟨mn, hmn⟩ : ∃ mn : Nat, min (((bs RW).size : Nat) : Int) 100 = ((mn : Nat) : Int) := ⟨min (bs RW).size 100, by omega⟩
  have hmz : ((mn : Nat) : Int) ≤ (((bs RW).size : Nat) : Int) := by omega
  have hmz2 : mn ≤ (bs RW).size := by omega
  have hcut : (bs RW).extract 0 mn = bs (RW.take mn) := bs_cut RW mn
  have hRL : (RW.take mn).length ≤ 100 := by rw [List.length_take]; omega
  have HRL : Hid ((RW.take mn).length ≤ 100) := hRL
  have hraw' : (((bs RW).size : Nat) : Int) ≤ 9223372036854775807 := by unfold maxLen at hraw; omega
  obtain ⟨Ah, ch, hvh, _⟩ := h
  obtain ⟨Ai, ci, hvi, _⟩ := hr.ins
  obtain ⟨Ao, co, hvo, _⟩ := hr.outs
  obtain ⟨Am, cm, hvm, _⟩ := hr.moves
  subst hvh hvi hvo hvm
  clear hT hx hy hz hok l1 l2 l3 l4 hPL hPL10 hr hraw hRL
  generalize RW.take mn = RC at *
  unfold SV.V FV.V at *
  obtain ⟨w0, hw0⟩ : ∃ w0, w0 = (w.alloc (.cells #[.bool x.op, .int .u32 x.bits, .int .u32 x.side, .slice Ah x.heights.length ch, .int .u8 x.frm, .int .u8 x.many, .int .i64 x.q0, .int .i64 x.q1, .int .i64 x.q2] 26)).alloc (.cells #[.int .i64 y.level, .int .i64 y.err, .int .i64 y.total, .slice Ai y.ins.length ci, .slice Ao y.outs.length co, .slice Am y.moves.length cm, .bool y.neg, .string (bs y.mag)] 62) := ⟨_, rfl⟩
  have HU0 : Hid (Upd noBlk w w0) := by show Upd _ _ _; rw [hw0]; exact ((Upd.refl _ w).alloc _).alloc _
  have HX : Hid (w0.heap[w.heap.size]? = some (.cells #[.bool x.op, .int .u32 x.bits, .int .u32 x.side, .slice Ah x.heights.length ch, .int .u8 x.frm, .int .u8 x.many, .int .i64 x.q0, .int .i64 x.q1, .int .i64 x.q2] 26 (0, 0))) := by show _ = _; rw [hw0]; exact ((Upd.refl noBlk _).alloc _).heap (heap_alloc_new w _) id
  have HY : Hid (w0.heap[w.heap.size + 1]? = some (.cells #[.int .i64 y.level, .int .i64 y.err, .int .i64 y.total, .slice Ai y.ins.length ci, .slice Ao y.outs.length co, .slice Am y.moves.length cm, .bool y.neg, .string (bs y.mag)] 62 (0, 0))) := by
    show _ = _; rw [hw0, ← World.size_alloc w (.cells #[.bool x.op, .int .u32 x.bits, .int .u32 x.side, .slice Ah x.heights.length ch, .int .u8 x.frm, .int .u8 x.many, .int .i64 x.q0, .int .i64 x.q1, .int .i64 x.q2] 26)]; exact heap_alloc_new _ _
  go_enter Tryz.func12, Tryz.ntmps12
  go_upto_region 1 with fail
  rw [← hw0]
  clear hw0
  generalize w.heap.size = xb at *
  obtain ⟨yb, hyb⟩ : ∃ yb, yb = xb + 1 := ⟨_, rfl⟩
  rw [← hyb] at HY ⊢
  clear hyb
  go_wp2_with fail
  refine (HS _).out.mono ?_
  rintro e w1 ⟨rfl, u1⟩
  have U1 := Lib.hid (HU0.out.trans u1)
  have HX1 := Lib.hid (u1.heap HX.out id)
  have HY1 := Lib.hid (u1.heap HY.out id)
  clear u1 HS HX HY HU0
  go_upto_region 3 with fail
  clear hmn hmz hmz2 hcut hraw'
  go_cut [35, 36, 37] (fun s n i wc => ∃ sb L0 L1 L2 L3, s = .slice (some ⟨sb, 0, none⟩) 4 4 ∧ n = .int .i64 4 ∧ i = .int .i64 0 ∧ wc.heap[sb]? = some (.cells #[.string (bs L0), .string (bs L1), .string (bs L2), .string (bs L3)] 9 (0, 0)) ∧ (shortG L0 ∧ shortG L1 ∧ shortG L2 ∧ shortG L3) ∧ Upd noBlk w1 wc)
  case first =>
    refine wp_region_full 15 (OT.sures [0, 3, 6, 7, 11, 14] (.run 1 (.run 2 (.run 4 (.run 5 (.run 8 (OT.sures [9] (.run 10 (.run 12 (OT.sures [13] .nil)))))))))) (fun w' => Upd noBlk w1 w') (by kernel_rfl) (by kernel_rfl) (fun c a d v w h => by cases d <;> exact h) ((Upd.refl noBlk w1).drew) ?_
    simp only [OT.sures]
    iterate 6 (apply wpT_sure rfl rfl; focus (intro w' hw'; obtain ⟨a0, a1, a2, a3, a4, a5, a6, a7, a8⟩ := cells9 (hw'.heap HX1.out id); obtain ⟨b0, b1, b2, b3, b4, b5, b6, b7⟩ := cells8 (hw'.heap HY1.out id); go_simp; rfl))
    refine wpT_run (fun w' => Upd noBlk w1 w') (fun _ h => h) rfl (fun K' hK => ?_)
    go_simp
    refine (HTR.out _ (U1.out.trans (Upd.refl noBlk w1).drew)).mono ?_
    rintro e z1 ⟨vt, rfl, ht, hl, u1⟩
    have V1 := Lib.hid ((Upd.refl noBlk w1).drew.trans u1)
    have HC1 := Lib.hid (Cluster_any vt T (by omega) (fun t ht => smT_ok (HSM.out t ht)) z1 ht)
    refine hK _ _ ⟨V1.out, ?_⟩
    clear hK K' u1 ht hl HTR HSM
    refine wpT_run (fun w' => Upd noBlk w1 w') (fun _ h => h) rfl (fun K' hK => ?_)
    go_simp
    refine HC1.out.mono ?_
    rintro e z2 ⟨rfl, u2⟩
    have V2 := Lib.hid (V1.out.trans u2)
    have HG2 := Lib.hid (HGP.out z2 (U1.out.trans V2.out))
    refine hK _ _ ⟨V2.out, ?_⟩
    clear hK K' u2 HC1 HGP V1
    refine wpT_run (fun w' => Upd noBlk w1 w') (fun _ h => h) rfl (fun K' hK => ?_)
    go_simp
    refine HG2.out.mono ?_
    rintro e z3 ⟨ui, uo, um, rfl, hi, ho, hm, u3⟩
    have V3 := Lib.hid (V2.out.trans u3)
    have HB3 := Lib.hid (Group_any z HOK.out ui uo um z3 hi.rd ho.rd hm.rd)
    refine hK _ _ ⟨V3.out, ?_⟩
    clear hK K' u3 HG2 V2 hi ho hm
    refine wpT_run (fun w' => Upd noBlk w1 w') (fun _ h => h) rfl (fun K' hK => ?_)
    go_simp
    refine HB3.out.mono ?_
    rintro e z4 ⟨rfl, u4⟩
    have V4 := Lib.hid (V3.out.trans u4)
    have HP4 := Lib.hid (HPA.out z4 (U1.out.trans V4.out))
    have HS1 : Hid (shortG (if rightG z.g = true then groupB z.g else [])) := by
      show shortG _
      split
      · rename_i hr
        exact shortG_len (Nat.le_trans (groupB_len HOK.out hr HL.out) (by decide))
      · exact shortG_nil
    refine hK _ _ ⟨V4.out, ?_⟩
    clear hK K' u4 HB3 V3 HPA HOK HL
    generalize (if rightG z.g = true then groupB z.g else []) = L1 at *
    refine wpT_run (fun w' => Upd noBlk w1 w') (fun _ h => h) rfl (fun K' hK => ?_)
    go_simp
    refine HP4.out.mono ?_
    rintro e z5 ⟨vp, rfl, hp, u5⟩
    obtain ⟨Ap, cp, rfl, _⟩ := hp.form
    have V5 := Lib.hid (V4.out.trans u5)
    have HR5 := Lib.hid (Root_any (.slice Ap PL.length cp) PL z5 hp.rd)
    rw [if_neg (by have := HPL.out; omega)] at HR5
    have HS2 : Hid (shortG (rootB (PL.map plainP))) := shortG_head (b := 3) (r := partsB (PL.map plainP)) rfl (by decide)
    refine hK _ _ ⟨V5.out, ?_⟩
    clear hK K' u5 HP4 V4 hp
    generalize rootB (PL.map plainP) = L2 at *
    apply wpT_sure rfl rfl
    focus (intro w' hw'; go_simp; rfl)
    refine wpT_run (fun w' => Upd noBlk w1 w') (fun _ h => h) rfl (fun K' hK => ?_)
    go_simp
    refine HR5.out.mono ?_
    rintro e z6 ⟨rfl, u6⟩
    have V6 := Lib.hid (V5.out.trans u6)
    refine hK _ _ ⟨V6.out, ?_⟩
    clear hK K' u6 HR5 V5
    rw [str_of]
    have HS0 := Lib.hid (shortG_cluster T)
    generalize (clusterN T).map UInt8.ofNat = L0 at *
    refine wpT_run (fun w' => Upd noBlk w1 w') (fun _ h => h) rfl (fun K' hK => ?_)
    go_simp
    have HN : Hid ((z6.alloc (.cells #[.string (bs L0), .string (bs L1), .string (bs L2), .string (bs RC)] 9)).heap[z6.heap.size]? = some (.cells #[.string (bs L0), .string (bs L1), .string (bs L2), .string (bs RC)] 9 (0, 0))) := heap_alloc_new z6 _
    have V7 := Lib.hid (V6.out.alloc (.cells #[.string (bs L0), .string (bs L1), .string (bs L2), .string (bs RC)] 9))
    refine hK _ _ ⟨V7.out, ?_⟩
    clear hK K' V6
    apply wpT_sure rfl rfl
    focus (intro w' hw'; go_simp; rfl)
    refine wpT_nil ?_
    go_wp2_with fail
    go_meet
    exact ⟨_, L0, L1, L2, RC, rfl, rfl, rfl, HN.out, ⟨HS0.out, HS1.out, HS2.out, shortG_len (Nat.le_trans HRL.out (by decide))⟩, V7.out⟩
  case rest =>
    obtain ⟨sb, L0, L1, L2, L3, rfl, rfl, rfl, hsb, hsh, hu⟩ := hcut
    have HSB : Hid (∀ k, k < 4 → ∃ L, wc.cell? ⟨sb, k, none⟩ = some (.string (bs L)) ∧ shortG L) := fun k hk => by
      rw [cell_of_row _ _ k _ 9 (0, 0) hsb]
      rcases (by omega : k = 0 ∨ k = 1 ∨ k = 2 ∨ k = 3) with rfl | rfl | rfl | rfl
      · exact ⟨L0, rfl, hsh.1⟩
      · exact ⟨L1, rfl, hsh.2.1⟩
      · exact ⟨L2, rfl, hsh.2.2.1⟩
      · exact ⟨L3, rfl, hsh.2.2.2⟩
    have UC := Lib.hid (U1.out.trans hu)
    clear hsb hsh hu HTR HSM HGP HPA HOK HL HPL HRL HX1 HY1 U1
    go_wp2_with fail
    go_loopw [37] (fun i wr => ∃ k : Nat, i = .int .i64 k ∧ k ≤ 4 ∧ Upd noBlk wc wr) (fun i _ => 4 - (intOf i).toNat)
    case atStart => exact ⟨0, rfl, by omega, Upd.refl _ _⟩
    case round =>
      obtain ⟨k, rfl, hk, hu⟩ := hrel
      have HU := Lib.hid hu
      clear hu
      by_cases hlt : k < 4
      · have hlt' : ((k : Nat) : Int) < 4 := by omega
        have HK : Hid (k < 4) := hlt
        obtain ⟨L, hc0, hsg⟩ := HSB.out k hlt
        have hc := HU.out.cell hc0 id
        have HSG : Hid (shortG L) := hsg
        have HOC := fun W => Lib.hid (OpenCluster_any (natsB L) (natsB_lt L) W)
        rw [str_nats] at HOC
        have HOG := fun W => Lib.hid (OpenGroup_any2 L hsg W)
        have HOR := fun W => Lib.hid (OpenRoot_any L W)
        have hss : ((bs L).toList == (bs L).toList) = true := by simp
        clear hc0 hsg hlt
        rcases kinds4 L with ⟨k1, k2, k3⟩ | ⟨T', k1, k2, k3, hne⟩ | ⟨g, k1, k2, k3, hne⟩ | ⟨x', k1, k2, k3, hne⟩
        · -- n
          rw [k1] at HOC
          rw [k2] at HOG
          rw [k3] at HOR
          clear k1 k2 k3
          go_wp2_with fail
          refine (HOC _).out.mono ?_
          rintro e w4 ⟨u4, vc, rfl, hvc⟩
          have U4 := Lib.hid (HU.out.trans u4)
          have HVC := Lib.hid hvc
          clear u4 hvc HOC hc
          go_wp2_with fail
          refine (HOG _).out.mono ?_
          rintro e w5 ⟨u5, rfl⟩
          have HN5 : Hid ((w5.alloc (.cells #[.int .i64 0, .slice none 0 0, .slice none 0 0, .slice none 0 0, .int .i64 0, .int .i64 0, .bool false, .string ⟨#[]⟩] 68)).heap[w5.heap.size]? = some (.cells #[.int .i64 0, .slice none 0 0, .slice none 0 0, .slice none 0 0, .int .i64 0, .int .i64 0, .bool false, .string ⟨#[]⟩] 68 (0, 0))) := heap_alloc_new w5 _
          have al5 := (Upd.refl noBlk w5).alloc (.cells #[.int .i64 0, .slice none 0 0, .slice none 0 0, .slice none 0 0, .int .i64 0, .int .i64 0, .bool false, .string ⟨#[]⟩] 68)
          have U5 := Lib.hid ((U4.out.trans u5).trans al5)
          have HVC5 := Lib.hid ((HVC.out.keep u5).keep al5)
          clear u5 al5 HVC U4 HOG
          go_upto_region 8 with fail
          generalize w5.alloc (.cells #[.int .i64 0, .slice none 0 0, .slice none 0 0, .slice none 0 0, .int .i64 0, .int .i64 0, .bool false, .string ⟨#[]⟩] 68) = w6 at *
          generalize w5.heap.size = gb at *
          go_wp2_with fail
          refine (HOR _).out.mono ?_
          rintro e w7 ⟨u7, rfl⟩
          have HN7 : Hid ((w7.alloc (.cells #[.slice none 0 0] 50)).heap[w7.heap.size]? = some (.cells #[.slice none 0 0] 50 (0, 0))) := heap_alloc_new w7 _
          have al7 := (Upd.refl noBlk w7).alloc (.cells #[.slice none 0 0] 50)
          have U7 := Lib.hid ((U5.out.trans u7).trans al7)
          have HVC7 := Lib.hid ((HVC5.out.keep u7).keep al7)
          have HG7 := Lib.hid (al7.heap (u7.heap HN5.out id) id)
          clear u7 al7 HVC5 U5 HOR HN5
          go_upto_region 9 with fail
          generalize w7.alloc (.cells #[.slice none 0 0] 50) = w8 at *
          generalize w7.heap.size = rb at *
          obtain ⟨b0, b1, b2, b3, b4, b5, b6, b7⟩ := cells8 HG7.out
          obtain ⟨c0, _⟩ := cellF1 HN7.out
          by_cases hL : L = []
          · subst hL
            have hbe : bs ([] : Bytes) = ⟨#[]⟩ := rfl
            rw [hbe]
            clear hss
            go_wp2_with fail
            exact ⟨⟨k + 1, by push_cast; rfl, HK.out, U7.out⟩, by simp only [intOf]; have := HK.out; omega⟩
          · have he : (bs L).toList.isEmpty = false := by cases L with | nil => exact absurd rfl hL | cons a r => simp [bs]
            have hz : 0 < (bs L).size := by cases L with | nil => exact absurd rfl hL | cons a r => rw [bs_size]; simp
            have hnz : ¬ bs L = ByteArray.empty := fun h => by rw [h] at hz; cases hz
            clear hL
            go_wp2_with fail
            exact ⟨⟨k + 1, by push_cast; rfl, HK.out, U7.out⟩, by simp only [intOf]; have := HK.out; omega⟩
        · -- c
          rw [k1] at HOC
          rw [k2] at HOG
          rw [k3] at HOR
          have he : (bs L).toList.isEmpty = false := by cases L with | nil => exact absurd rfl hne | cons a r => simp [bs]
          have hz : 0 < (bs L).size := by cases L with | nil => exact absurd rfl hne | cons a r => rw [bs_size]; simp
          have hnz : ¬ bs L = ByteArray.empty := fun h => by rw [h] at hz; cases hz
          clear hne
          have HAG := fun v W hv => Lib.hid (cluster_again k1 v W hv)
          clear k1 k2 k3
          go_wp2_with fail
          refine (HOC _).out.mono ?_
          rintro e w4 ⟨u4, vc, rfl, hvc⟩
          have U4 := Lib.hid (HU.out.trans u4)
          have HVC := Lib.hid hvc
          clear u4 hvc HOC hc
          go_wp2_with fail
          refine (HOG _).out.mono ?_
          rintro e w5 ⟨u5, rfl⟩
          have HN5 : Hid ((w5.alloc (.cells #[.int .i64 0, .slice none 0 0, .slice none 0 0, .slice none 0 0, .int .i64 0, .int .i64 0, .bool false, .string ⟨#[]⟩] 68)).heap[w5.heap.size]? = some (.cells #[.int .i64 0, .slice none 0 0, .slice none 0 0, .slice none 0 0, .int .i64 0, .int .i64 0, .bool false, .string ⟨#[]⟩] 68 (0, 0))) := heap_alloc_new w5 _
          have al5 := (Upd.refl noBlk w5).alloc (.cells #[.int .i64 0, .slice none 0 0, .slice none 0 0, .slice none 0 0, .int .i64 0, .int .i64 0, .bool false, .string ⟨#[]⟩] 68)
          have U5 := Lib.hid ((U4.out.trans u5).trans al5)
          have HVC5 := Lib.hid ((HVC.out.keep u5).keep al5)
          clear u5 al5 HVC U4 HOG
          go_upto_region 8 with fail
          generalize w5.alloc (.cells #[.int .i64 0, .slice none 0 0, .slice none 0 0, .slice none 0 0, .int .i64 0, .int .i64 0, .bool false, .string ⟨#[]⟩] 68) = w6 at *
          generalize w5.heap.size = gb at *
          go_wp2_with fail
          refine (HOR _).out.mono ?_
          rintro e w7 ⟨u7, rfl⟩
          have HN7 : Hid ((w7.alloc (.cells #[.slice none 0 0] 50)).heap[w7.heap.size]? = some (.cells #[.slice none 0 0] 50 (0, 0))) := heap_alloc_new w7 _
          have al7 := (Upd.refl noBlk w7).alloc (.cells #[.slice none 0 0] 50)
          have U7 := Lib.hid ((U5.out.trans u7).trans al7)
          have HVC7 := Lib.hid ((HVC5.out.keep u7).keep al7)
          have HG7 := Lib.hid (al7.heap (u7.heap HN5.out id) id)
          have HA7 := HAG _ _ HVC7.out
          clear HAG
          clear u7 al7 HVC5 U5 HOR HN5
          go_upto_region 9 with fail
          generalize w7.alloc (.cells #[.slice none 0 0] 50) = w8 at *
          generalize w7.heap.size = rb at *
          obtain ⟨b0, b1, b2, b3, b4, b5, b6, b7⟩ := cells8 HG7.out
          obtain ⟨c0, _⟩ := cellF1 HN7.out
          go_wp2_with fail
          refine HA7.out.mono ?_
          rintro e w9 ⟨rfl, u9⟩
          have U9 := Lib.hid (U7.out.trans u9)
          clear u9 HA7 U7 b0 b1 b2 b3 b4 b5 b6 b7 c0
          go_wp2_with fail
          exact ⟨⟨k + 1, by push_cast; rfl, HK.out, U9.out⟩, by simp only [intOf]; have := HK.out; omega⟩
        · -- g
          rw [k1] at HOC
          rw [k2] at HOG
          rw [k3] at HOR
          have he : (bs L).toList.isEmpty = false := by cases L with | nil => exact absurd rfl hne | cons a r => simp [bs]
          have hz : 0 < (bs L).size := by cases L with | nil => exact absurd rfl hne | cons a r => rw [bs_size]; simp
          have hnz : ¬ bs L = ByteArray.empty := fun h => by rw [h] at hz; cases hz
          clear hne
          have HAG := fun a b c W hi ho hm => Lib.hid (group_again k2 HSG.out a b c W hi ho hm)
          clear k1 k2 k3
          go_wp2_with fail
          refine (HOC _).out.mono ?_
          rintro e w4 ⟨u4, vc, rfl, hvc⟩
          have U4 := Lib.hid (HU.out.trans u4)
          have HVC := Lib.hid hvc
          clear u4 hvc HOC hc
          go_wp2_with fail
          refine (HOG _).out.mono ?_
          rintro e w5 ⟨u5, wi, wo, wm, rfl, hat⟩
          have hi := hat.ins
          have ho := hat.outs
          have hm := hat.moves
          rw [List.map_id] at hm
          obtain ⟨Ci, ei, hvi, _⟩ := hi.form
          obtain ⟨Co, eo, hvo, _⟩ := ho.form
          obtain ⟨Cm, em, hvm, _⟩ := hm.form
          rw [List.length_map] at hvi hvo
          subst hvi hvo hvm
          have HI := Lib.hid (hi.mono (Nat.zero_le _))
          have HO := Lib.hid (ho.mono (Nat.zero_le _))
          have HM := Lib.hid (hm.mono (Nat.zero_le _))
          clear hat hi ho hm
          unfold grpC
          have HN5 : Hid ((w5.alloc (.cells #[.int .i64 g.level, .slice Ci g.ins.length ei, .slice Co g.outs.length eo, .slice Cm g.moves.length em, .int .i64 g.err, .int .i64 g.total, .bool g.neg, .string (bs g.mag)] 68)).heap[w5.heap.size]? = some (.cells #[.int .i64 g.level, .slice Ci g.ins.length ei, .slice Co g.outs.length eo, .slice Cm g.moves.length em, .int .i64 g.err, .int .i64 g.total, .bool g.neg, .string (bs g.mag)] 68 (0, 0))) := heap_alloc_new w5 _
          have al5 := (Upd.refl noBlk w5).alloc (.cells #[.int .i64 g.level, .slice Ci g.ins.length ei, .slice Co g.outs.length eo, .slice Cm g.moves.length em, .int .i64 g.err, .int .i64 g.total, .bool g.neg, .string (bs g.mag)] 68)
          have U5 := Lib.hid ((U4.out.trans u5).trans al5)
          have HVC5 := Lib.hid ((HVC.out.keep u5).keep al5)
          have HI5 := Lib.hid (HI.out.upd al5)
          have HO5 := Lib.hid (HO.out.upd al5)
          have HM5 := Lib.hid (HM.out.upd al5)
          clear HI HO HM
          clear u5 al5 HVC U4 HOG
          go_upto_region 8 with fail
          generalize w5.alloc (.cells #[.int .i64 g.level, .slice Ci g.ins.length ei, .slice Co g.outs.length eo, .slice Cm g.moves.length em, .int .i64 g.err, .int .i64 g.total, .bool g.neg, .string (bs g.mag)] 68) = w6 at *
          generalize w5.heap.size = gb at *
          go_wp2_with fail
          refine (HOR _).out.mono ?_
          rintro e w7 ⟨u7, rfl⟩
          have HN7 : Hid ((w7.alloc (.cells #[.slice none 0 0] 50)).heap[w7.heap.size]? = some (.cells #[.slice none 0 0] 50 (0, 0))) := heap_alloc_new w7 _
          have al7 := (Upd.refl noBlk w7).alloc (.cells #[.slice none 0 0] 50)
          have U7 := Lib.hid ((U5.out.trans u7).trans al7)
          have HVC7 := Lib.hid ((HVC5.out.keep u7).keep al7)
          have HG7 := Lib.hid (al7.heap (u7.heap HN5.out id) id)
          have HA7 := HAG _ _ _ _ ((HI5.out.upd u7).upd al7).rd ((HO5.out.upd u7).upd al7).rd ((HM5.out.upd u7).upd al7).rd
          clear HI5 HO5 HM5 HAG
          clear u7 al7 HVC5 U5 HOR HN5
          go_upto_region 9 with fail
          generalize w7.alloc (.cells #[.slice none 0 0] 50) = w8 at *
          generalize w7.heap.size = rb at *
          obtain ⟨b0, b1, b2, b3, b4, b5, b6, b7⟩ := cells8 HG7.out
          obtain ⟨c0, _⟩ := cellF1 HN7.out
          go_wp2_with fail
          refine HA7.out.mono ?_
          rintro e w9 ⟨rfl, u9⟩
          have U9 := Lib.hid (U7.out.trans u9)
          clear u9 HA7 U7 b0 b1 b2 b3 b4 b5 b6 b7 c0
          go_wp2_with fail
          exact ⟨⟨k + 1, by push_cast; rfl, HK.out, U9.out⟩, by simp only [intOf]; have := HK.out; omega⟩
        · -- r
          rw [k1] at HOC
          rw [k2] at HOG
          rw [k3] at HOR
          have he : (bs L).toList.isEmpty = false := by cases L with | nil => exact absurd rfl hne | cons a r => simp [bs]
          have hz : 0 < (bs L).size := by cases L with | nil => exact absurd rfl hne | cons a r => rw [bs_size]; simp
          have hnz : ¬ bs L = ByteArray.empty := fun h => by rw [h] at hz; cases hz
          clear hne
          have HAG := fun v W hv => Lib.hid (root_again k3 v W hv)
          clear k1 k2 k3
          go_wp2_with fail
          refine (HOC _).out.mono ?_
          rintro e w4 ⟨u4, vc, rfl, hvc⟩
          have U4 := Lib.hid (HU.out.trans u4)
          have HVC := Lib.hid hvc
          clear u4 hvc HOC hc
          go_wp2_with fail
          refine (HOG _).out.mono ?_
          rintro e w5 ⟨u5, rfl⟩
          have HN5 : Hid ((w5.alloc (.cells #[.int .i64 0, .slice none 0 0, .slice none 0 0, .slice none 0 0, .int .i64 0, .int .i64 0, .bool false, .string ⟨#[]⟩] 68)).heap[w5.heap.size]? = some (.cells #[.int .i64 0, .slice none 0 0, .slice none 0 0, .slice none 0 0, .int .i64 0, .int .i64 0, .bool false, .string ⟨#[]⟩] 68 (0, 0))) := heap_alloc_new w5 _
          have al5 := (Upd.refl noBlk w5).alloc (.cells #[.int .i64 0, .slice none 0 0, .slice none 0 0, .slice none 0 0, .int .i64 0, .int .i64 0, .bool false, .string ⟨#[]⟩] 68)
          have U5 := Lib.hid ((U4.out.trans u5).trans al5)
          have HVC5 := Lib.hid ((HVC.out.keep u5).keep al5)
          clear u5 al5 HVC U4 HOG
          go_upto_region 8 with fail
          generalize w5.alloc (.cells #[.int .i64 0, .slice none 0 0, .slice none 0 0, .slice none 0 0, .int .i64 0, .int .i64 0, .bool false, .string ⟨#[]⟩] 68) = w6 at *
          generalize w5.heap.size = gb at *
          go_wp2_with fail
          refine (HOR _).out.mono ?_
          rintro e w7 ⟨u7, vr, rfl, hvr⟩
          obtain ⟨Ar, er, hvv, _⟩ := hvr.form
          rw [List.length_map] at hvv
          subst hvv
          have HVR := Lib.hid (hvr.mono (Nat.zero_le _))
          clear hvr
          have HN7 : Hid ((w7.alloc (.cells #[.slice Ar x'.length er] 50)).heap[w7.heap.size]? = some (.cells #[.slice Ar x'.length er] 50 (0, 0))) := heap_alloc_new w7 _
          have al7 := (Upd.refl noBlk w7).alloc (.cells #[.slice Ar x'.length er] 50)
          have U7 := Lib.hid ((U5.out.trans u7).trans al7)
          have HVC7 := Lib.hid ((HVC5.out.keep u7).keep al7)
          have HG7 := Lib.hid (al7.heap (u7.heap HN5.out id) id)
          have HA7 := HAG _ _ (HVR.out.upd al7).rd
          clear HVR HAG
          clear u7 al7 HVC5 U5 HOR HN5
          go_upto_region 9 with fail
          generalize w7.alloc (.cells #[.slice Ar x'.length er] 50) = w8 at *
          generalize w7.heap.size = rb at *
          obtain ⟨b0, b1, b2, b3, b4, b5, b6, b7⟩ := cells8 HG7.out
          obtain ⟨c0, _⟩ := cellF1 HN7.out
          go_wp2_with fail
          refine HA7.out.mono ?_
          rintro e w9 ⟨rfl, u9⟩
          have U9 := Lib.hid (U7.out.trans u9)
          clear u9 HA7 U7 b0 b1 b2 b3 b4 b5 b6 b7 c0
          go_wp2_with fail
          exact ⟨⟨k + 1, by push_cast; rfl, HK.out, U9.out⟩, by simp only [intOf]; have := HK.out; omega⟩
      · obtain rfl : k = 4 := by omega
        go_wp2_with fail
        go_ret
        exact ⟨rfl, UC.out.trans HU.out⟩
end Go.Proofs.YtcikldoaidmnhaaGreatDoor
