/- Parts: The state of the reference's walk in memory: what is known, its triangles and gates. No condition. The triangles of a shape are small. No condition. The triangles of a shape. No condition. Walks of the reference's coder: Mod, split, take. -/
import Derived.Test.YtcikldoaidmnhaaGreatDoorQClus6
import Derived.Test.YtcikldoaidmnhaaGreatDoorQClus9
import Derived.Test.YtcikldoaidmnhaaGreatDoorQClus14
import Derived.Test.YtcikldoaidmnhaaGreatDoorQClus27
namespace Go.Proofs.YtcikldoaidmnhaaGreatDoor
open Go Go.RowKit Pk
set_option maxRecDepth 100000
theorem u32_mask (b : Nat) : bits .and .u32 (b : Int) 134217727 = ((b % 134217728 : Nat) : Int) := by
 have h127 : (BitVec.ofInt 32 134217727).toNat = 2 ^ 27 - 1 := by decide
 have key : (BitVec.ofInt 32 (b : Int) &&& BitVec.ofInt 32 134217727).toNat = b % 2 ^ 27 := by
  rw [BitVec.toNat_and, BitVec.ofInt_natCast, BitVec.toNat_ofNat, h127, Nat.and_two_pow_sub_one_eq_mod]
  omega
 show IntKind.u32.wrap ((BitVec.ofInt 32 (b : Int) &&& BitVec.ofInt 32 134217727).toNat : Nat) = _
 rw [key, IntKind.wrap_u32]
 omega
theorem Kd.Rd.drop {P : Program} {α : Type} {K : Kd P α} {w : World} {A : Option Addr} {n cap : Nat} {l : List α} (h : K.Rd w (.slice A n cap) l) (k : Nat) (hk : k < l.length) : ∃ b off, A = some ⟨b, off, none⟩ ∧ K.Rd w (.slice (some ⟨b, off + k * K.k, none⟩) (l.length - k) (cap - k)) (l.drop k) := by
 obtain ⟨A', cap', e, hc, hx⟩ := h
 cases e
 obtain ⟨b, off, rfl, hx2⟩ := hx (by omega)
 refine ⟨b, off, rfl, _, cap - k, by rw [List.length_drop], by rw [List.length_drop]; omega, fun _ => ⟨b, off + k * K.k, rfl, fun j hj => ?_⟩⟩
 rw [List.getElem_drop]
 have h2 := hx2 (k + j) (by rw [List.length_drop] at hj; omega)
 rw [Nat.add_mul, ← Nat.add_assoc] at h2
 exact h2
theorem Kd.Rd.take {P : Program} {α : Type} {K : Kd P α} {w : World} {A : Option Addr} {n cap : Nat} {l : List α} (h : K.Rd w (.slice A n cap) l) (k : Nat) (hk : k ≤ l.length) : K.Rd w (.slice A k cap) (l.take k) := by
 obtain ⟨A', cap', e, hc, hx⟩ := h
 cases e
 have hlen : (l.take k).length = k := by rw [List.length_take]; omega
 refine ⟨A, cap, by rw [hlen], by rw [hlen]; omega, fun h0 => ?_⟩
 obtain ⟨b, off, rfl, hx2⟩ := hx (by omega)
 refine ⟨b, off, rfl, fun j hj => ?_⟩
 rw [List.getElem_take]
 exact hx2 j (by omega)
set_option maxHeartbeats 4000000 in
theorem tris_any (x : SV) (vh : Value) (w : World) (hx : x.Ok) (h : kInt.Rd w vh x.heights) : Calls Tryz.prog 15 #[x.V vh] w fun en w' => ∃ v, en = .returned v ∧ kTri.Rd w' v x.tris ∧ x.tris.length ≤ 200 ∧ Upd noBlk w w' := by
 obtain ⟨op, bits, side, heights, frm, many, q0, q1, q2⟩ := x
 obtain ⟨T, hT⟩ : ∃ T, T = (SV.mk op bits side heights frm many q0 q1 q2).tris := ⟨_, rfl⟩
 have HT := Lib.hid hT
 rw [← hT]
 clear hT
 have hx1 : bits < 4294967296 := hx.bits
 have hx2 : side < 4294967296 := hx.side
 have hx4 : frm < 256 := hx.frm
 have hx5 : many < 256 := hx.many
 have hx3 : heights.length ≤ 9223372036854775807 := hx.heights
 have hh : kInt.Rd w vh heights := h
 clear hx h
 unfold SV.V
 simp only
 have HVX := fun W => Lib.hid (Voxels_any ((bits % 134217728 : Nat) : Int) (1 + ((side % 600000 : Nat) : Int)) (7, 5, 0) W ⟨by omega, by omega⟩ ⟨by omega, by omega⟩ (by decide) (by decide) (by decide))
 obtain ⟨VT, hVT⟩ : ∃ VT, VT = voxelsT ((bits % 134217728 : Nat) : Int) (1 + ((side % 600000 : Nat) : Int)) (7, 5, 0) := ⟨_, rfl⟩
 rw [← hVT] at HVX
 have HHI : Hid (∀ W A cap, Upd noBlk w W → kInt.Rd W (.slice A (heights.take 49).length cap) (heights.take 49) → Calls Tryz.prog 40 #[.int .i64 ((bits % 6 : Nat) : Int), .int .i64 (1 + ((side % 1000 : Nat) : Int)), .slice A (heights.take 49).length cap] W fun en w' => ∃ v, en = .returned v ∧ kTri.Own W.heap.size w' v (hillsT ((bits % 6 : Nat) : Int) (1 + ((side % 1000 : Nat) : Int)) (heights.take 49)) ∧ (hillsT ((bits % 6 : Nat) : Int) (1 + ((side % 1000 : Nat) : Int)) (heights.take 49)).length ≤ 72 ∧ Upd noBlk W w') := fun W A cap _ hr => Hills_any _ _ _ _ W (by omega) (by omega) (by rw [List.length_take]; omega) hr
 obtain ⟨HTT, hHT⟩ : ∃ HTT, HTT = hillsT ((bits % 6 : Nat) : Int) (1 + ((side % 1000 : Nat) : Int)) (heights.take 49) := ⟨_, rfl⟩
 rw [← hHT] at HHI
 have HBASE : Hid ((SV.mk op bits side heights frm many q0 q1 q2).base = if op then HTT else VT) := by show _ = _; rw [hHT, hVT]; rfl
 clear hVT hHT
 obtain ⟨Ah, ch, rfl, hch, hxh⟩ := hh
 have hh : kInt.Rd w (.slice Ah heights.length ch) heights := ⟨Ah, ch, rfl, hch, hxh⟩
 have HHD : Hid (∀ W, Upd noBlk w W → kInt.Rd W (.slice Ah (heights.take 49).length ch) (heights.take 49)) := fun W hW => by
  have := (hh.keep hW).take (min heights.length 49) (Nat.min_le_left _ _)
  have e : heights.take (min heights.length 49) = heights.take 49 := by
   by_cases h9 : heights.length ≤ 49
   ·rw [Nat.min_eq_left h9, List.take_of_length_le (Nat.le_refl _), List.take_of_length_le h9]
   ·rw [Nat.min_eq_right (by omega)]
  rw [e] at this
  rw [List.length_take, Nat.min_comm]
  exact this
 obtain ⟨mh, hmh⟩ : ∃ mh, mh = (heights.take 49).length := ⟨_, rfl⟩
 rw [← hmh] at HHI HHD
 have hmn : min ((heights.length : Nat) : Int) 49 = ((mh : Nat) : Int) := by rw [hmh, List.length_take]; omega
 have hmc : ((mh : Nat) : Int) ≤ ((ch : Nat) : Int) := by rw [hmh, List.length_take]; omega
 have hhl : ((heights.length : Nat) : Int) ≤ 9223372036854775807 := by omega
 have hm49 : mh ≤ 49 := by rw [hmh, List.length_take]; omega
 clear hmh hxh hh hx3 hch
 have HC := heap_alloc_new w (.cells #[.bool op, .int .u32 bits, .int .u32 side, .slice Ah heights.length ch, .int .u8 frm, .int .u8 many, .int .i64 q0, .int .i64 q1, .int .i64 q2] 26)
 have HX := Lib.hid HC
 have HU0 := Lib.hid ((Upd.refl noBlk w).alloc (.cells #[.bool op, .int .u32 bits, .int .u32 side, .slice Ah heights.length ch, .int .u8 frm, .int .u8 many, .int .i64 q0, .int .i64 q1, .int .i64 q2] 26))
 clear HC
 have hmask := u32_mask bits
 have hr1 : ((side : Nat) : Int) % 600000 = ((side % 600000 : Nat) : Int) := by omega
 have hr2 : ((bits : Nat) : Int) % 6 = ((bits % 6 : Nat) : Int) := by omega
 have hr3 : ((side : Nat) : Int) % 1000 = ((side % 1000 : Nat) : Int) := by omega
 have hr4 : ((bits : Nat) : Int).tmod 6 = ((bits % 6 : Nat) : Int) := by rw [Int.tmod_eq_emod_of_nonneg (by omega)]; omega
 have hr5 : ((side : Nat) : Int).tmod 1000 = ((side % 1000 : Nat) : Int) := by rw [Int.tmod_eq_emod_of_nonneg (by omega)]; omega
 obtain ⟨s6, hs6⟩ : ∃ s, s = side % 600000 := ⟨_, rfl⟩
 obtain ⟨b6, hb6⟩ : ∃ s, s = bits % 6 := ⟨_, rfl⟩
 obtain ⟨s1, hs1⟩ : ∃ s, s = side % 1000 := ⟨_, rfl⟩
 obtain ⟨bm, hbm⟩ : ∃ s, s = bits % 134217728 := ⟨_, rfl⟩
 rw [← hs6] at hr1 HVX
 rw [← hb6] at hr2 hr4 HHI
 rw [← hs1] at hr3 hr5 HHI
 rw [← hbm] at hmask HVX
 have ks6 : ((s6 : Nat) : Int) < 600000 := by omega
 have kb6 : ((b6 : Nat) : Int) < 6 := by omega
 have ks1 : ((s1 : Nat) : Int) < 1000 := by omega
 have kbm : ((bm : Nat) : Int) < 134217728 := by omega
 have v1 : IntKind.i64.wrap ((bm : Nat) : Int) = ((bm : Nat) : Int) := wrapN (by omega) (by omega)
 have v2 : IntKind.i64.wrap ((s6 : Nat) : Int) = ((s6 : Nat) : Int) := wrapN (by omega) (by omega)
 have v3 : IntKind.i64.wrap (1 + ((s6 : Nat) : Int)) = 1 + ((s6 : Nat) : Int) := wrapN (by omega) (by omega)
 have v4 : IntKind.i64.wrap ((b6 : Nat) : Int) = ((b6 : Nat) : Int) := wrapN (by omega) (by omega)
 have v5 : IntKind.i64.wrap ((s1 : Nat) : Int) = ((s1 : Nat) : Int) := wrapN (by omega) (by omega)
 have v6 : IntKind.i64.wrap (1 + ((s1 : Nat) : Int)) = 1 + ((s1 : Nat) : Int) := wrapN (by omega) (by omega)
 clear ks6 kb6 ks1 kbm
 have HF4 : Hid (frm < 256) := hx4
 have HF5 : Hid (many < 256) := hx5
 have HM49 : Hid (mh ≤ 49) := hm49
 clear hs6 hb6 hs1 hbm hx1 hx2 hx4 hx5 hm49
 go_enter Tryz.func15, Tryz.ntmps15
 go_upto_region 1 with fail
 obtain ⟨xb, hxb⟩ : ∃ xb, xb = w.heap.size := ⟨_, rfl⟩
 have HXB : Hid (w.heap.size ≤ xb) := by show _ ≤ _; omega
 rw [← hxb] at HX ⊢
 clear hxb
 generalize w.alloc (.cells #[.bool op, .int .u32 bits, .int .u32 side, .slice Ah heights.length ch, .int .u8 frm, .int .u8 many, .int .i64 q0, .int .i64 q1, .int .i64 q2] 26) = w1 at *
 have HV1 := HVX w1
 obtain ⟨g0, g1, g2, g3, g4, g5, g6, g7, g8⟩ := cells9 HX.out
 go_wp2_with fail
 refine HV1.out.mono ?_
 rintro e w2 ⟨vv, rfl, ov, lv, u2⟩
 have HX2 := Lib.hid (u2.heap HX.out id)
 have HU2 := Lib.hid (HU0.out.trans u2)
 have HOV := Lib.hid (ov.mono (Nat.zero_le _)).rd
 have HLV : Hid (VT.length ≤ 324) := lv
 clear g0 g1 g2 g3 g4 g5 g6 g7 g8 ov lv u2 HV1 HVX HX HU0
 obtain ⟨B, hB⟩ : ∃ B, B = (SV.mk op bits side heights frm many q0 q1 q2).base := ⟨_, rfl⟩
 rw [← hB] at HBASE
 have HTB : Hid (T = if B = [] then [] else spoilT ((B.drop (frm % B.length)).take (many % 141)) q0 q1 q2) := by show _ = _; rw [HT.out, hB]; rfl
 clear hB HT
 obtain ⟨g0, g1, g2, g3, g4, g5, g6, g7, g8⟩ := cells9 HX2.out
 go_upto_if 16 with fail
 clear g0 g1 g2 g3 g4 g5 g6 g7 g8
 go_cut [3, 16] (fun c _ wc => kTri.Rd wc c B ∧ B.length ≤ 324 ∧ Upd noBlk w2 wc)
 case first =>
  cases op with
  | false =>
   have HBV : Hid (B = VT) := HBASE.out
   go_wp2_with fail
   go_meet
   rw [HBV.out]
   exact ⟨HOV.out, HLV.out, Upd.refl _ _⟩
  | true =>
   have HBV : Hid (B = HTT) := HBASE.out
   go_wp2_with fail
   refine wp_region_tree 17 (OT.sures [0, 4, 9, 11, 1, 5, 10, 12, 2, 6, 13, 3, 7, 14, 8, 15] (.run 16 .nil)) (fun w' => Upd noBlk w2 w') (by kernel_rfl) (by kernel_rfl) (fun c a d v w h => by cases d <;> exact h) ((Upd.refl noBlk w2).drew) ?_
   simp only [OT.sures]
   iterate 16 (apply wpT_sure rfl rfl; focus (intro w' hw'; obtain ⟨g0, g1, g2, g3, g4, g5, g6, g7, g8⟩ := cells9 (hw'.heap HX2.out id); go_simp; rfl))
   refine wpT_run (fun w' => Upd noBlk w2 w') (fun _ h => h) rfl (fun K' hK => ?_)
   go_simp
   refine (HHI.out _ Ah ch (HU2.out.trans (Upd.refl noBlk w2).drew) (HHD.out _ (HU2.out.trans (Upd.refl noBlk w2).drew))).mono ?_
   rintro e wz ⟨vz, rfl, oz, lz, uz⟩
   have HOZ := Lib.hid (oz.mono (Nat.zero_le _)).rd
   have HLZ : Hid (HTT.length ≤ 72) := lz
   have HUZ := Lib.hid ((Upd.refl noBlk w2).drew.trans uz)
   refine hK _ _ ⟨HUZ.out, ?_⟩
   clear hK K' oz lz uz
   refine wpT_nil ?_
   go_wp2_with fail
   go_meet
   rw [HBV.out]
   exact ⟨HOZ.out, by have := HLZ.out; omega, HUZ.out⟩
 case rest =>
  obtain ⟨hrd, hl3, hu⟩ := hcut
  have HRB := Lib.hid hrd
  have HU3 := Lib.hid (HU2.out.trans hu)
  have HX3 := Lib.hid (hu.heap HX2.out id)
  have HL3 : Hid (B.length ≤ 324) := hl3
  have hl3' : ((B.length : Nat) : Int) ≤ 324 := by omega
  obtain ⟨AB, cB, rfl, hcB, _⟩ := hrd
  clear hu hl3 HBASE HHI HHD HU2 HX2 HOV HLV v1 v2 v3 v4 v5 v6 hmask hr1 hr2 hr3 hr4 hr5 hmn hmc hhl
  by_cases hB0 : B.length = 0
  ·have hBn : B = [] := List.eq_nil_of_length_eq_zero hB0
   have HTN : Hid (T = []) := by show _ = _; rw [HTB.out, if_pos hBn]
   have hB0' : ((B.length : Nat) : Int) = 0 := by omega
   go_wp2_with fail
   go_ret
   rw [HTN.out]
   exact ⟨_, rfl, Kd.Rd.nil _ _, by simp, HU3.out⟩
  ·obtain ⟨k, hk⟩ : ∃ k, k = frm % B.length := ⟨_, rfl⟩
   have hkl : k < B.length := by rw [hk]; exact Nat.mod_lt _ (by omega)
   obtain ⟨b, off, rfl, hrd2⟩ := HRB.out.drop k hkl
   have HRD2 := Lib.hid hrd2
   have HTS : Hid (T = spoilT ((B.drop k).take (many % 141)) q0 q1 q2) := by show _ = _; rw [HTB.out, if_neg (fun e => hB0 (by rw [e]; rfl)), hk]
   have hne : ¬ ((B.length : Nat) : Int) = 0 := by omega
   have hkm : ((frm : Nat) : Int).tmod ((B.length : Nat) : Int) = ((k : Nat) : Int) := by rw [hk, Int.tmod_eq_emod_of_nonneg (by omega)]; push_cast; rfl
   have hkm2 : ((frm : Nat) : Int) % ((B.length : Nat) : Int) = ((k : Nat) : Int) := by rw [hk]; push_cast; rfl
   have hfw : IntKind.i64.wrap ((frm : Nat) : Int) = ((frm : Nat) : Int) := wrapN (by omega) (by have := HF4.out; omega)
   have hkl' : ((k : Nat) : Int) ≤ ((B.length : Nat) : Int) := by omega
   have hkc' : ((B.length : Nat) : Int) ≤ ((cB : Nat) : Int) := by omega
   have hkc : ¬ k = cB := by omega
   have hkc2 : ¬ cB = k := by omega
   have hadd : (⟨b, off, none⟩ : Addr).add (k * 9) = ⟨b, off + k * 9, none⟩ := Addr.add_mid _ _ _
   have hk9 : kTri.k = 9 := rfl
   have HBL : Hid (k < B.length ∧ B.length ≤ cB) := ⟨hkl, hcB⟩
   obtain ⟨g0, g1, g2, g3, g4, g5, g6, g7, g8⟩ := cells9 HX3.out
   clear hk hrd2 hkl hcB HTB HRB
   go_upto_region 7 with fail
   clear g0 g1 g2 g3 g4 g5 g6 g7 g8
   obtain ⟨d, hd⟩ : ∃ d, d = B.length - k := ⟨_, rfl⟩
   obtain ⟨e, he⟩ : ∃ e, e = cB - k := ⟨_, rfl⟩
   rw [← hd, ← he] at HRD2 ⊢
   obtain ⟨m2, hm2⟩ : ∃ m2, m2 = min d (many % 141) := ⟨_, rfl⟩
   have hmm : min ((d : Nat) : Int) (((many : Nat) : Int) % 141) = ((m2 : Nat) : Int) := by rw [hm2]; omega
   have hmt : min ((d : Nat) : Int) (((many : Nat) : Int).tmod 141) = ((m2 : Nat) : Int) := by rw [Int.tmod_eq_emod_of_nonneg (by omega)]; exact hmm
   have hmw : IntKind.i64.wrap ((many : Nat) : Int) = ((many : Nat) : Int) := wrapN (by omega) (by have := HF5.out; omega)
   have hdl : ((d : Nat) : Int) ≤ 324 := by omega
   have hde : ((d : Nat) : Int) ≤ ((e : Nat) : Int) := by have := HBL.out; omega
   have hm2d : ((m2 : Nat) : Int) ≤ ((e : Nat) : Int) := by rw [hm2]; have := HBL.out; omega
   have hDL : (B.drop k).length = d := by rw [List.length_drop, hd]
   have hr3 := HRD2.out.take m2 (by rw [hDL, hm2]; exact Nat.min_le_left _ _)
   have hte : (B.drop k).take m2 = (B.drop k).take (many % 141) := by
    rw [hm2]
    by_cases h : d ≤ many % 141
    ·rw [Nat.min_eq_left h, List.take_of_length_le (by omega), List.take_of_length_le (by omega)]
    ·rw [Nat.min_eq_right (by omega)]
   rw [hte] at hr3
   have hml : ((B.drop k).take (many % 141)).length ≤ 140 := by rw [List.length_take]; omega
   have HML : Hid (((B.drop k).take (many % 141)).length ≤ 140) := hml
   obtain ⟨PT, hPT⟩ : ∃ PT, PT = (B.drop k).take (many % 141) := ⟨_, rfl⟩
   rw [← hPT] at HTS HML hr3
   have HR3 := Lib.hid hr3
   rw [hk9] at HR3
   have HTL : Hid (T.length ≤ 200) := by show _ ≤ _; rw [HTS.out]; have := spoilT_len PT q0 q1 q2; have := HML.out; omega
   clear hPT hml hte hr3 hDL hd he hm2 HRD2 HBL
   go_wp2_with fail
   refine wp_region_tree 12 (OT.sures [0, 1, 3, 9, 2, 4, 10, 5, 6, 7, 8] (.run 11 .nil)) (fun w' => Upd noBlk wc w') (by kernel_rfl) (by kernel_rfl) (fun c a d v w h => by cases d <;> exact h) ((Upd.refl noBlk wc).drew) ?_
   simp only [OT.sures]
   iterate 11 (apply wpT_sure rfl rfl; focus (intro w' hw'; obtain ⟨g0, g1, g2, g3, g4, g5, g6, g7, g8⟩ := cells9 (hw'.heap HX3.out id); go_simp; rfl))
   refine wpT_run (fun w' => Upd noBlk wc w') (fun _ h => h) rfl (fun K' hK => ?_)
   go_simp
   refine (Spoiled_any _ PT q0 q1 q2 _ (by have := HML.out; omega) (HR3.out.keep (Upd.refl noBlk wc).drew)).mono ?_
   rintro e wz ⟨vz, rfl, oz, uz⟩
   have HOZ := Lib.hid oz
   have HUZ := Lib.hid ((Upd.refl noBlk wc).drew.trans uz)
   refine hK _ _ ⟨HUZ.out, ?_⟩
   clear hK K' oz uz
   refine wpT_nil ?_
   go_wp2_with fail
   go_ret
   rw [HTS.out]
   exact ⟨_, rfl, HOZ.out, by rw [← HTS.out]; exact HTL.out, HU3.out.trans HUZ.out⟩
end Go.Proofs.YtcikldoaidmnhaaGreatDoor
namespace Go.Proofs.YtcikldoaidmnhaaGreatDoor
open Go Go.RowKit Pk
def smP (p : Pt) : Prop := (0 ≤ p.1 ∧ p.1 ≤ 10000000) ∧ (0 ≤ p.2.1 ∧ p.2.1 ≤ 10000000) ∧ (0 ≤ p.2.2 ∧ p.2.2 ≤ 10000000)
def smT (t : Tri) : Prop := smP t.1 ∧ smP t.2.1 ∧ smP t.2.2
theorem smP_z : smP (0, 0, 0) := ⟨⟨by decide, by decide⟩, ⟨by decide, by decide⟩, ⟨by decide, by decide⟩⟩
theorem smT_z : smT z3 := ⟨smP_z, smP_z, smP_z⟩
theorem smT_ok {t : Tri} (h : smT t) : okT t := by
 obtain ⟨⟨a, b, c⟩, ⟨d, e, f⟩, ⟨g, i, j⟩⟩ := h
 refine ⟨⟨?_, ?_, ?_⟩, ⟨?_, ?_, ?_⟩, ⟨?_, ?_, ?_⟩⟩ <;> (first | omega | (constructor <;> omega))
theorem getD_sm {l : List Tri} (h : ∀ t, t ∈ l → smT t) (i : Nat) : smT (l.getD i z3) := by
 rw [List.getD_eq_getElem?_getD]
 cases hg : l[i]? with
 | none => exact smT_z
 | some t => exact h t (List.mem_of_getElem? hg)
theorem quad_sm {a b c d : Pt} (ha : smP a) (hb : smP b) (hc : smP c) (hd : smP d) : ∀ t, t ∈ quadT a b c d → smT t := by
 intro t ht
 simp only [quadT, List.mem_cons, List.not_mem_nil, or_false] at ht
 rcases ht with rfl | rfl
 ·exact ⟨ha, hb, hc⟩
 ·exact ⟨ha, hc, hd⟩
theorem app_sm {a b : List Tri} (ha : ∀ t, t ∈ a → smT t) (hb : ∀ t, t ∈ b → smT t) : ∀ t, t ∈ a ++ b → smT t := fun t ht => (List.mem_append.1 ht).elim (ha t) (hb t)
theorem small_mul {a b s : Int} (ha : 0 ≤ a) (hab : a ≤ b) (hs : 0 ≤ s) (hm : s ≤ 1000000) (hb : b ≤ 8) : 0 ≤ a * s ∧ a * s ≤ 8000000 :=
 ⟨Int.mul_nonneg ha hs, Int.le_trans (Int.mul_le_mul (by omega : a ≤ 8) hm hs (by decide)) (by decide)⟩
theorem cubeP_sm {p : Pt} {s : Int} (hp : (0 ≤ p.1 ∧ p.1 ≤ 1900000) ∧ (0 ≤ p.2.1 ∧ p.2.1 ≤ 1900000) ∧ (0 ≤ p.2.2 ∧ p.2.2 ≤ 1900000)) (h0 : 0 ≤ s) (h1 : s ≤ 1000000) (n : Nat) (hn : n < 8) : smP (cubeP p s n) := by
 obtain ⟨⟨a, b⟩, ⟨c, d⟩, ⟨e, f⟩⟩ := hp
 have k1 := small_mul (a := ((n % 2 : Nat) : Int)) (b := 8) (by omega) (by omega) h0 h1 (by decide)
 have k2 := small_mul (a := ((n / 2 % 2 : Nat) : Int)) (b := 8) (by omega) (by omega) h0 h1 (by decide)
 have k3 := small_mul (a := ((n / 4 : Nat) : Int)) (b := 8) (by omega) (by omega) h0 h1 (by decide)
 unfold cubeP smP
 simp only
 generalize ((n % 2 : Nat) : Int) * s = x at *
 generalize ((n / 2 % 2 : Nat) : Int) * s = y at *
 generalize ((n / 4 : Nat) : Int) * s = z at *
 omega
theorem cube_sm {p : Pt} {s : Int} (hp : (0 ≤ p.1 ∧ p.1 ≤ 1900000) ∧ (0 ≤ p.2.1 ∧ p.2.1 ≤ 1900000) ∧ (0 ≤ p.2.2 ∧ p.2.2 ≤ 1900000)) (h0 : 0 ≤ s) (h1 : s ≤ 1000000) : ∀ t, t ∈ cubeT p s → smT t := by
 have h := fun n hn => cubeP_sm hp h0 h1 n hn
 unfold cubeT
 exact app_sm (app_sm (app_sm (app_sm (app_sm (quad_sm (h 0 (by decide)) (h 2 (by decide)) (h 3 (by decide)) (h 1 (by decide))) (quad_sm (h 4 (by decide)) (h 5 (by decide)) (h 7 (by decide)) (h 6 (by decide)))) (quad_sm (h 0 (by decide)) (h 1 (by decide)) (h 5 (by decide)) (h 4 (by decide)))) (quad_sm (h 2 (by decide)) (h 6 (by decide)) (h 7 (by decide)) (h 3 (by decide)))) (quad_sm (h 0 (by decide)) (h 4 (by decide)) (h 6 (by decide)) (h 2 (by decide)))) (quad_sm (h 1 (by decide)) (h 3 (by decide)) (h 7 (by decide)) (h 5 (by decide)))
theorem voxels_sm {b s : Int} (h0 : 0 ≤ s) (h1 : s ≤ 600000) : ∀ t, t ∈ voxelsT b s (7, 5, 0) → smT t := by
 intro t ht
 obtain ⟨n, hn, ht⟩ := List.mem_flatMap.1 ht
 have hn := List.mem_range.1 hn
 unfold cubeV at ht
 split at ht
 ·obtain ⟨f, _, ht⟩ := List.mem_flatMap.1 ht
  have k1 : 0 ≤ ((n % 3 : Nat) : Int) * s ∧ ((n % 3 : Nat) : Int) * s ≤ 1200000 := ⟨Int.mul_nonneg (by omega) h0, Int.le_trans (Int.mul_le_mul (by omega : ((n % 3 : Nat) : Int) ≤ 2) h1 h0 (by decide)) (by decide)⟩
  have k2 : 0 ≤ ((n / 3 % 3 : Nat) : Int) * s ∧ ((n / 3 % 3 : Nat) : Int) * s ≤ 1200000 := ⟨Int.mul_nonneg (by omega) h0, Int.le_trans (Int.mul_le_mul (by omega : ((n / 3 % 3 : Nat) : Int) ≤ 2) h1 h0 (by decide)) (by decide)⟩
  have k3 : 0 ≤ ((n / 9 : Nat) : Int) * s ∧ ((n / 9 : Nat) : Int) * s ≤ 1200000 := ⟨Int.mul_nonneg (by omega) h0, Int.le_trans (Int.mul_le_mul (by omega : ((n / 9 : Nat) : Int) ≤ 2) h1 h0 (by decide)) (by decide)⟩
  have hc := cube_sm (p := pointV s (7, 5, 0) n) (s := s) (by
   unfold pointV
   simp only
   generalize ((n % 3 : Nat) : Int) * s = x at *
   generalize ((n / 3 % 3 : Nat) : Int) * s = y at *
   generalize ((n / 9 : Nat) : Int) * s = z at *
   omega) h0 (by omega)
  unfold sideV at ht
  split at ht
  ·cases ht
  ·simp only [List.mem_cons, List.not_mem_nil, or_false] at ht
   rcases ht with rfl | rfl
   ·exact getD_sm hc _
   ·exact getD_sm hc _
 ·cases ht
theorem hillP_sm {s : Int} (hs : List Int) (h0 : 0 ≤ s) (h1 : s ≤ 1000) (x y : Nat) (hx : x ≤ 8) (hy : y ≤ 8) : smP (hillP x y s hs) := by
 have k1 := small_mul (a := (x : Int)) (b := 8) (by omega) (by omega) h0 (by omega) (by decide)
 have k2 := small_mul (a := (y : Int)) (b := 8) (by omega) (by omega) h0 (by omega) (by decide)
 have k3 := modI_range (n := hs.getD ((y * 7 + x) % hs.length) 0) (m := 64) (by decide)
 unfold hillP smP
 simp only
 generalize (x : Int) * s = a at *
 generalize (y : Int) * s = b at *
 split <;> omega
theorem hills_sm {n s : Int} (hs : List Int) (h0 : 0 ≤ s) (h1 : s ≤ 1000) : ∀ t, t ∈ hillsT n s hs → smT t := by
 intro t ht
 have h6 := hillsN_le n
 obtain ⟨y, hy, ht⟩ := List.mem_flatMap.1 ht
 obtain ⟨x, hx, ht⟩ := List.mem_flatMap.1 ht
 have hy := List.mem_range.1 hy
 have hx := List.mem_range.1 hx
 exact quad_sm (hillP_sm hs h0 h1 x y (by omega) (by omega)) (hillP_sm hs h0 h1 (x + 1) y (by omega) (by omega)) (hillP_sm hs h0 h1 (x + 1) (y + 1) (by omega) (by omega)) (hillP_sm hs h0 h1 x (y + 1) (by omega) (by omega)) t ht
theorem set_sm {l : List Tri} (h : ∀ t, t ∈ l → smT t) (k : Nat) {x : Tri} (hx : smT x) : ∀ t, t ∈ l.set k x → smT t := fun t ht => (List.mem_or_eq_of_mem_set ht).elim (h t) (fun e => e ▸ hx)
theorem one_sm {x : Tri} (hx : smT x) : ∀ t, t ∈ [x] → smT t := fun t ht => by rw [List.mem_singleton.1 ht]; exact hx
theorem spoil_sm {l : List Tri} (h : ∀ t, t ∈ l → smT t) (q0 q1 q2 : Int) : ∀ t, t ∈ spoilT l q0 q1 q2 → smT t := by
 by_cases hl : l = []
 ·subst hl; intro t ht; cases ht
 ·rw [spoilT_eq _ _ _ _ hl]
  generalize (modI q0 12).toNat = m
  generalize (modI q1 l.length).toNat = k
  generalize (modI q2 l.length).toNat = j
  have hk := getD_sm h k
  have hj := getD_sm h j
  unfold spoilM
  simp only
  generalize l.getD k z3 = u at *
  generalize l.getD j z3 = v at *
  obtain ⟨a, b, c⟩ := hk
  obtain ⟨d, e, f⟩ := hj
  split
  ·exact app_sm (fun t ht => h t (List.mem_of_mem_take ht)) (fun t ht => h t (List.mem_of_mem_drop ht))
  ·exact set_sm h k ⟨a, c, b⟩
  ·exact app_sm h (one_sm ⟨d, e, f⟩)
  ·exact set_sm h k ⟨e, b, c⟩
  ·exact set_sm h k ⟨a, a, c⟩
  ·exact app_sm h (one_sm ⟨a, c, b⟩)
  ·intro t ht
   obtain ⟨s, hs, rfl⟩ := List.mem_map.1 ht
   obtain ⟨x, y, z⟩ := h s hs
   refine ⟨?_, ?_, ?_⟩
   ·show smP (if s.1 = v.2.2 then u.1 else s.1); split; exact a; exact x
   ·show smP (if s.2.1 = v.2.2 then u.1 else s.2.1); split; exact a; exact y
   ·show smP (if s.2.2 = v.2.2 then u.1 else s.2.2); split; exact a; exact z
  ·exact fun t ht => h t (List.mem_of_mem_take ht)
  ·exact set_sm h k ⟨c, a, b⟩
  ·exact h
theorem SV.small (x : SV) : ∀ t, t ∈ x.tris → smT t := by
 have hb : ∀ t, t ∈ x.base → smT t := by
  unfold SV.base
  split
  ·exact hills_sm _ (by omega) (by omega)
  ·exact voxels_sm (by omega) (by omega)
 unfold SV.tris
 split
 ·intro t ht; cases ht
 ·exact spoil_sm (fun t ht => hb t (List.mem_of_mem_drop (List.mem_of_mem_take ht))) _ _ _
theorem SV.okT (x : SV) : ∀ t, t ∈ x.tris → okT t := fun t ht => smT_ok (x.small t ht)
end Go.Proofs.YtcikldoaidmnhaaGreatDoor
namespace Go.Proofs.YtcikldoaidmnhaaGreatDoor
open Go Go.RowKit Pk
set_option maxRecDepth 100000
noncomputable def kGate3 : Kd Tryz.prog Gate := { T := 44, S := 118, k := 9, bytes := 72, enc := triC, len := fun _ => rfl, one := kTri.one, pos := by decide, small := by decide, und := Tryz.underlying118, info := kinfo_of (by kernel_rfl) }
structure JComp (w : World) (S : Wk) (vK vT vG : Value) : Prop where
 known : kPt.Own 0 w vK S.known
 tris : kTri.Own 0 w vT S.tris
 gates : kGate3.Que 0 w vG S.gates
structure JLive (w : World) (b : Nat) (S : Wk) (vK vT vG : Value) : Prop where
 blk : w.heap[b]? = some (.cells #[vK, vT, vG] 120 (0, 0))
 comp : JComp w S vK vT vG
def jFoot (b : Nat) (vK vT vG : Value) : Nat → Prop := fun k => k = b ∨ vK.ownBlock = some k ∨ vT.ownBlock = some k ∨ vG.ownBlock = some k
def JRep (w : World) (b : Nat) (S : Wk) (G : Nat → Prop) : Prop := ∃ vK vT vG, JLive w b S vK vT vG ∧ G = jFoot b vK vT vG
theorem JComp.keepB {w w' : World} {S : Wk} {vK vT vG : Value} (h : JComp w S vK vT vG) (hk : ∀ k, vK.ownBlock = some k ∨ vT.ownBlock = some k ∨ vG.ownBlock = some k → w'.heap[k]? = w.heap[k]?) : JComp w' S vK vT vG :=
 ⟨own_keepB h.known (fun g hg => hk g (.inl hg)), own_keepB h.tris (fun g hg => hk g (.inr (.inl hg))), h.gates.keepB (fun g hg => hk g (.inr (.inr hg)))⟩
theorem JLive.keepB {w w' : World} {b : Nat} {S : Wk} {vK vT vG : Value} (h : JLive w b S vK vT vG) (hk : ∀ k, jFoot b vK vT vG k → w'.heap[k]? = w.heap[k]?) : JLive w' b S vK vT vG :=
 ⟨(hk b (.inl rfl)).trans h.blk, h.comp.keepB (fun k hk' => hk k (.inr hk'))⟩
theorem JRep.keepB {w w' : World} {b : Nat} {S : Wk} {G : Nat → Prop} (h : JRep w b S G) (hk : ∀ k, G k → w'.heap[k]? = w.heap[k]?) : JRep w' b S G := by
 obtain ⟨vK, vT, vG, h1, rfl⟩ := h
 exact ⟨vK, vT, vG, h1.keepB hk, rfl⟩
theorem JLive.lt {w : World} {b : Nat} {S : Wk} {vK vT vG : Value} (h : JLive w b S vK vT vG) : ∀ k, jFoot b vK vT vG k → k < w.heap.size := by
 rintro k (rfl | hk | hk | hk)
 ·exact lt_of_heap h.blk
 ·exact own_lt h.comp.known hk
 ·exact own_lt h.comp.tris hk
 ·exact que_lt h.comp.gates hk
theorem JRep.lt {w : World} {b : Nat} {S : Wk} {G : Nat → Prop} (h : JRep w b S G) : ∀ k, G k → k < w.heap.size := by
 obtain ⟨vK, vT, vG, h1, rfl⟩ := h
 exact h1.lt
theorem JRep.upd {w w' : World} {b : Nat} {S : Wk} {G F : Nat → Prop} (h : JRep w b S G) (hu : Upd F w w') (hd : ∀ k, G k → ¬ F k) : JRep w' b S G := h.keepB (fun k hk => hu.block k (h.lt k hk) (hd k hk))
theorem JLive.upd {w w' : World} {b : Nat} {S : Wk} {vK vT vG : Value} {F : Nat → Prop} (h : JLive w b S vK vT vG) (hu : Upd F w w') (hd : ∀ k, jFoot b vK vT vG k → ¬ F k) : JLive w' b S vK vT vG := h.keepB (fun k hk => hu.block k (h.lt k hk) (hd k hk))
structure JNe (b : Nat) (vK vT vG : Value) : Prop where
 k : vK.ownBlock ≠ some b
 t : vT.ownBlock ≠ some b
 g : vG.ownBlock ≠ some b
 kt : ∀ i, vK.ownBlock = some i → vT.ownBlock ≠ some i
 kg : ∀ i, vK.ownBlock = some i → vG.ownBlock ≠ some i
 gt : ∀ i, vG.ownBlock = some i → vT.ownBlock ≠ some i
theorem JComp.ne {w : World} {b : Nat} {S : Wk} {vK vT vG : Value} (h : JComp w S vK vT vG) {cs : Array Value} (hb : w.heap[b]? = some (.cells cs 120 (0, 0))) : JNe b vK vT vG := by
 have tk : kPt.T = 43 := rfl
 have tg : kGate3.T = 44 := rfl
 have tt : kTri.T = 45 := rfl
 refine ⟨fun e => ?_, fun e => ?_, fun e => ?_, fun i e e' => ?_, fun i e e' => ?_, fun i e e' => ?_⟩
 ·obtain ⟨_, cur, hc⟩ := h.known.blk e; exact ne_obj hc hb (by rw [tk]; simp) rfl
 ·obtain ⟨_, cur, hc⟩ := h.tris.blk e; exact ne_obj hc hb (by rw [tt]; simp) rfl
 ·obtain ⟨_, cur, hc⟩ := h.gates.blk e; exact ne_obj hc hb (by rw [tg]; simp) rfl
 ·obtain ⟨_, cur, hc⟩ := h.known.blk e; obtain ⟨_, cur', hc'⟩ := h.tris.blk e'; exact ne_obj hc hc' (by rw [tk, tt]; simp) rfl
 ·obtain ⟨_, cur, hc⟩ := h.known.blk e; obtain ⟨_, cur', hc'⟩ := h.gates.blk e'; exact ne_obj hc hc' (by rw [tk, tg]; simp) rfl
 ·obtain ⟨_, cur, hc⟩ := h.gates.blk e; obtain ⟨_, cur', hc'⟩ := h.tris.blk e'; exact ne_obj hc hc' (by rw [tg, tt]; simp) rfl
theorem JLive.ne {w : World} {b : Nat} {S : Wk} {vK vT vG : Value} (h : JLive w b S vK vT vG) : JNe b vK vT vG := h.comp.ne h.blk
/-- A field of the state's block is stored. -/
theorem JLive.put {w : World} {b : Nat} {S : Wk} {vK vT vG : Value} {cs : Array Value} (hb : w.heap[b]? = some (.cells cs 120 (0, 0))) (hc : JComp w S vK vT vG) (i : Nat) (v : Value) (hcs : cs.setIfInBounds i v = #[vK, vT, vG]) :
  JLive (w.setCell ⟨b, i, none⟩ v) b S vK vT vG := by
 have hn := hc.ne hb
 refine ⟨by rw [heap_setCell_eq (i := i) v hb, hcs], hc.keepB (fun k hk => ?_)⟩
 refine heap_setCell_other w ⟨b, i, none⟩ k v (fun e => ?_)
 have e' : k = b := e
 subst e'
 rcases hk with h | h | h
 ·exact hn.k h
 ·exact hn.t h
 ·exact hn.g h
/-- What a step on a state leaves. -/
def JPost (G : Nat → Prop) (w w' : World) (b : Nat) (S : Wk) : Prop := ∃ G', JRep w' b S G' ∧ (∀ k, G' k → G k ∨ w.heap.size ≤ k) ∧ Upd G w w'
end Go.Proofs.YtcikldoaidmnhaaGreatDoor
namespace Go.Proofs.YtcikldoaidmnhaaGreatDoor
open Go Go.RowKit Pc
set_option maxRecDepth 100000
theorem tmod_cases (c m : Int) (hm : 0 < m) : c.tmod m = c % m ∨ c.tmod m = c % m - m := by
 rw [Int.tmod_eq_emod]
 split
 ·left; omega
 ·right; omega
theorem mod_eq (c m : Int) (hm : 0 < m) : (c.tmod m + m).tmod m = c % m := by
 have h1 := Int.emod_nonneg c (show m ≠ 0 by omega)
 have h2 := Int.emod_lt_of_pos c hm
 rcases tmod_cases c m hm with h | h
 ·rw [h, Int.tmod_eq_emod_of_nonneg (by omega), Int.add_emod_right, Int.emod_emod_of_dvd _ (Int.dvd_refl m)]
 ·rw [h, Int.tmod_eq_emod_of_nonneg (by omega), Int.sub_add_cancel, Int.emod_emod_of_dvd _ (Int.dvd_refl m)]
theorem mod_wrap (c m : Int) (hm : 0 < m) (hb : m ≤ 1000000) : wrap64 (c.tmod m + m) = c.tmod m + m := by
 have h1 := Int.emod_nonneg c (show m ≠ 0 by omega)
 have h2 := Int.emod_lt_of_pos c hm
 exact IntWalk.wrap64_in _ (by rcases tmod_cases c m hm with h | h <;> rw [h] <;> omega)
set_option maxHeartbeats 400000 in
theorem Mod_any (c m : Int) (hm : 0 < m) (hb : m ≤ 1000000) (w : World) : Calls Tryz.prog 148 #[.int .i64 c, .int .i64 m] w fun e w' => e = .returned (.int .i64 (c % m)) ∧ w = w' := by
 have e1 := mod_wrap c m hm hb
 have e2 := mod_eq c m hm
 have e3 : (m == 0) = false := by rw [beq_eq_false_iff_ne]; omega
 have e4 : ¬ m = -1 := by omega
 have h1 : -9223372036854775808 ≤ c.tmod m ∧ c.tmod m ≤ 9223372036854775807 := by
  have h1 := Int.emod_nonneg c (show m ≠ 0 by omega)
  have h2 := Int.emod_lt_of_pos c hm
  rcases tmod_cases c m hm with h | h <;> rw [h] <;> omega
 go_enter Tryz.func148, Tryz.ntmps148
 go_wp2
 go_ret
 exact ⟨rfl, rfl⟩
/-- The reference's model at a block's head. -/
structure MArr (arr : Array Value) (m : M) : Prop where
 ws : ∀ i, i < 4096 → arr[i]? = some (.int .i64 (((m.p i : Nat) : Int) - 1024))
 sh : arr[4096]? = some (.int .i64 (4294967295 - ((m.size : Nat) : Int)))
theorem MArr.size {arr : Array Value} {m : M} (h : MArr arr m) : 4096 < arr.size := (Array.getElem?_eq_some_iff.1 h.sh).1
theorem MArr.step {arr : Array Value} {m : M} (h : MArr arr m) (i : Nat) (hi : i < 4096) (one : Bool) :
  MArr ((arr.setIfInBounds i (.int .i64 (((m.newp i one : Nat) : Int) - 1024))).setIfInBounds 4096 (.int .i64 (4294967295 - (((m.step i one).size : Nat) : Int)))) (m.step i one) := by
 have hs := h.size
 refine ⟨fun j hj => ?_, ?_⟩
 ·rw [Array.getElem?_setIfInBounds_ne (by omega)]
  show _ = some (Value.int .i64 (((upd m.p i (m.newp i one) j : Nat) : Int) - 1024))
  rw [Array.getElem?_setIfInBounds]
  unfold upd
  by_cases e : i = j
  ·subst e; rw [if_pos rfl, if_pos rfl]; simp; omega
  ·rw [if_neg e, if_neg (fun h => e h.symm)]; exact h.ws j hj
 ·rw [Array.getElem?_setIfInBounds_self_of_lt (by simpa using hs)]
theorem MArr.setFar {arr : Array Value} {m : M} (h : MArr arr m) {j : Nat} (hj : 4096 < j) (v : Value) : MArr (arr.setIfInBounds j v) m :=
 ⟨fun i hi => by rw [Array.getElem?_setIfInBounds_ne (by omega)]; exact h.ws i hi, by rw [Array.getElem?_setIfInBounds_ne (by omega)]; exact h.sh⟩
set_option maxHeartbeats 1000000 in
theorem rsplit_any (c : Int) (b : Nat) (m : M) (hm : m.Wf) (w : World) (arr : Array Value) (T : TypeId) (hb : w.heap[b]? = some (.cells arr T (0, 0))) (h : MArr arr m) :
  Calls Tryz.prog 108 #[.pointer (some ⟨b, 0, none⟩), .int .i64 c] w fun e w' => e = .returned (.int .i64 ((m.split (ctx c) : Nat) : Int)) ∧ ∃ n, w' = w.drewN n := by
 have hc0 : w.cell? ⟨b, ctx c, none⟩ = some (.int .i64 (((m.p (ctx c) : Nat) : Int) - 1024)) := by rw [cell_of_row w b _ _ _ _ hb]; exact h.ws _ (ctx_lt c)
 have hc1 : w.cell? ⟨b, 4096, none⟩ = some (.int .i64 (4294967295 - ((m.size : Nat) : Int))) := by rw [cell_of_row w b _ _ _ _ hb]; exact h.sh
 have hcx := ctx_lt c
 have hct : c % 4096 = ((ctx c : Nat) : Int) := (ctx_cast c).symm
 have s1 := hm.lo
 have s2 := hm.hi
 have s3 := hm.pl _ hcx
 have s4 := hm.ph _ hcx
 have sb := M.split_bd hm hcx
 have a1 : 4294967295 - (4294967295 - ((m.size : Nat) : Int)) = ((m.size : Nat) : Int) := by omega
 have a2 : 1024 + (((m.p (ctx c) : Nat) : Int) - 1024) = ((m.p (ctx c) : Nat) : Int) := by omega
 have a3 : ((m.size : Nat) : Int) / 2048 * ((m.p (ctx c) : Nat) : Int) = ((m.split (ctx c) : Nat) : Int) := by
  unfold M.split; rw [Int.natCast_mul]; rfl
 have b1 : ((m.size : Nat) : Int) ≤ 4294967295 := by omega
 have b2 : ((m.p (ctx c) : Nat) : Int) ≤ 2017 := by omega
 have b3 : ((m.split (ctx c) : Nat) : Int) ≤ 4294967295 := by omega
 clear s1 s2 s3 s4 sb hb h hm
 go_enter Tryz.func108, Tryz.ntmps108
 go_wp2_with (go_at_call 148; refine (Mod_any _ _ (by omega) (by omega) _).mono ?_; rintro e w' ⟨rfl, rfl⟩)
 go_quiet (fail)
 go_wp2
 go_ret
 exact ⟨rfl, _, rfl⟩
def smallV (v : Value) : Nat := if intOf v < 16777216 then 1 else 0
theorem smallV_lt {k k' : IntKind} {a b : Int} (h1 : ¬ a < 16777216) (h2 : b < 16777216) : smallV (.int k a) < smallV (.int k' b) := by
 unfold smallV
 show (if a < 16777216 then 1 else 0) < (if b < 16777216 then 1 else 0)
 rw [if_neg h1, if_pos h2]; omega
def shiftN (b : Bool) : Int := if b then 1 else 0
set_option maxHeartbeats 1000000 in
theorem rtake_any (c : Int) (one : Bool) (b : Nat) (m : M) (hm : m.Wf) (w : World) (arr : Array Value) (T : TypeId) (hb : w.heap[b]? = some (.cells arr T (0, 0))) (h : MArr arr m) :
  Calls Tryz.prog 110 #[.pointer (some ⟨b, 0, none⟩), .int .i64 c, .bool one] w fun e w' => e = .returned (.int .i64 (shiftN (m.shifts (ctx c) one))) ∧
   w'.heap[b]? = some (.cells ((arr.setIfInBounds (ctx c) (.int .i64 (((m.newp (ctx c) one : Nat) : Int) - 1024))).setIfInBounds 4096 (.int .i64 (4294967295 - (((m.step (ctx c) one).size : Nat) : Int)))) T (0, 0)) ∧ Upd (· = b) w w' := by
 have hc0 : w.cell? ⟨b, ctx c, none⟩ = some (.int .i64 (((m.p (ctx c) : Nat) : Int) - 1024)) := by rw [cell_of_row w b _ _ _ _ hb]; exact h.ws _ (ctx_lt c)
 have hc1 : w.cell? ⟨b, 4096, none⟩ = some (.int .i64 (4294967295 - ((m.size : Nat) : Int))) := by rw [cell_of_row w b _ _ _ _ hb]; exact h.sh
 have hf0 := frozen_of_row w b (ctx c) _ _ hb
 have hf1 := frozen_of_row w b 4096 _ _ hb
 have hcx := ctx_lt c
 have hct : c % 4096 = ((ctx c : Nat) : Int) := (ctx_cast c).symm
 have rb := M.raw_bd hm hcx one
 have nb := norm_bd rb.1 rb.2
 have pb := M.newp_bd hm hcx one
 have sb := M.split_bd hm hcx
 have s2 := hm.hi
 have s3 := hm.pl _ hcx
 have s4 := hm.ph _ hcx
 have a1 : 4294967295 - (4294967295 - ((m.size : Nat) : Int)) = ((m.size : Nat) : Int) := by omega
 have a2 : 1024 + (((m.p (ctx c) : Nat) : Int) - 1024) = ((m.p (ctx c) : Nat) : Int) := by omega
 have b1 : ((m.size : Nat) : Int) ≤ 4294967295 := by omega
 have b2 : ((m.p (ctx c) : Nat) : Int) ≤ 2017 := by omega
 have b3 : ((m.split (ctx c) : Nat) : Int) ≤ ((m.size : Nat) : Int) := by omega
 have b4 : ((m.newp (ctx c) one : Nat) : Int) ≤ 2017 := by omega
 have b5 : ((m.raw (ctx c) one : Nat) : Int) ≤ 4294967295 := by omega
 have hfin : Hid (∀ n W, W = (w.drewN n).setCell ⟨b, ctx c, none⟩ (.int .i64 (((m.newp (ctx c) one : Nat) : Int) - 1024)) →
   (W.setCell ⟨b, 4096, none⟩ (.int .i64 (4294967295 - (((m.step (ctx c) one).size : Nat) : Int)))).heap[b]? = some (.cells ((arr.setIfInBounds (ctx c) (.int .i64 (((m.newp (ctx c) one : Nat) : Int) - 1024))).setIfInBounds 4096 (.int .i64 (4294967295 - (((m.step (ctx c) one).size : Nat) : Int)))) T (0, 0)) ∧
   Upd (· = b) w (W.setCell ⟨b, 4096, none⟩ (.int .i64 (4294967295 - (((m.step (ctx c) one).size : Nat) : Int))))) := by
  intro n W hW; subst hW
  exact ⟨heap_setCell_eq (w := (w.drewN n).setCell ⟨b, ctx c, none⟩ _) _ (heap_setCell_eq (w := w.drewN n) _ hb), ((Upd.ofDrewN (F := (· = b)) w n).setCell (fun _ => rfl) _).setCell (fun _ => rfl) _⟩
 have hstep : Hid ((m.step (ctx c) one).size = norm (m.raw (ctx c) one)) := rfl
 have hsh : Hid (m.shifts (ctx c) one = decide (m.raw (ctx c) one < 16777216)) := rfl
 have HB := Lib.hid hb
 have HH := Lib.hid h
 have RB := Lib.hid rb
 have NB := Lib.hid nb
 have hm' := Lib.hid hm
 cases one
 ·have v1 : ((m.p (ctx c) : Nat) : Int) + (2048 - ((m.p (ctx c) : Nat) : Int)) / 32 = ((m.newp (ctx c) false : Nat) : Int) := by unfold M.newp; simp only [Bool.false_eq_true, if_false]; omega
  have v2 := raw_val0 m (ctx c)
  clear s2 s3 s4 sb hb h rb nb pb hm
  go_enter Tryz.func110, Tryz.ntmps110
  go_wp2_with (first | (go_at_call 148; refine (Mod_any _ _ (by omega) (by omega) _).mono ?_; rintro e w' ⟨rfl, rfl⟩) | (go_at_call 108; refine (rsplit_any _ _ _ hm'.out _ _ _ HB.out HH.out).mono ?_; rintro e w' ⟨rfl, n, rfl⟩))
  have hfn := Lib.hid (hfin.out n _ rfl)
  have hcc : w.cell? ⟨b, ctx c, none⟩ = some (.int .i64 (((m.p (ctx c) : Nat) : Int) - 1024)) := hc0
  clear v1 v2 hc0 a2
  go_loop [9, 11] (fun s k => (s = .int .i64 ((m.raw (ctx c) false : Nat) : Int) ∧ k = .int .i64 0) ∨ (m.raw (ctx c) false < 16777216 ∧ s = .int .i64 ((m.raw (ctx c) false : Nat) * 256 : Int) ∧ k = .int .i64 1))
   (fun s _ => smallV s)
  case atStart => exact .inl ⟨rfl, rfl⟩
  case round =>
   rcases hrel with ⟨rfl, rfl⟩ | ⟨hlt, rfl, rfl⟩
   ·by_cases hs : ((m.raw (ctx c) false : Nat) : Int) < 16777216
    ·go_wp2
     go_round
     case rel => exact .inr ⟨by omega, rfl, rfl⟩
     case measure =>
      have := RB.out
      exact smallV_lt (by omega) hs
    ·have e1 : ((m.raw (ctx c) false : Nat) : Int) = (((m.step (ctx c) false).size : Nat) : Int) := by rw [hstep.out]; unfold norm; rw [if_neg (by omega)]
     have e2 : Hid (m.shifts (ctx c) false = false) := by show _ = _; rw [hsh.out]; simp; omega
     have e3 : ((((m.step (ctx c) false).size : Nat) : Int)) ≤ 4294967295 := by rw [← e1]; exact b5
     rw [e1] at hs ⊢
     clear e1 b5
     go_wp2
     go_ret
     refine ⟨by rw [e2.out]; rfl, ?_⟩
     exact hfn.out
   ·have hs : ¬ ((m.raw (ctx c) false : Nat) : Int) * 256 < 16777216 := by have := RB.out; omega
    have e1 : ((m.raw (ctx c) false : Nat) : Int) * 256 = (((m.step (ctx c) false).size : Nat) : Int) := by rw [hstep.out]; unfold norm; rw [if_pos hlt]; omega
    have e2 : Hid (m.shifts (ctx c) false = true) := by show _ = _; rw [hsh.out]; simpa using hlt
    have e3 : ((((m.step (ctx c) false).size : Nat) : Int)) ≤ 4294967295 := by rw [← e1]; omega
    rw [e1] at hs ⊢
    clear hlt e1
    go_wp2
    go_ret
    refine ⟨by rw [e2.out]; rfl, ?_⟩
    exact hfn.out
 ·have v1 : ((m.p (ctx c) : Nat) : Int) - ((m.p (ctx c) : Nat) : Int) / 32 = ((m.newp (ctx c) true : Nat) : Int) := by unfold M.newp; simp only [if_true]; omega
  have v2 : ((m.size : Nat) : Int) - ((m.split (ctx c) : Nat) : Int) = ((m.raw (ctx c) true : Nat) : Int) := by unfold M.raw; simp only [if_true]; omega
  clear s2 s3 s4 sb hb h rb nb pb hm
  go_enter Tryz.func110, Tryz.ntmps110
  go_wp2_with (first | (go_at_call 148; refine (Mod_any _ _ (by omega) (by omega) _).mono ?_; rintro e w' ⟨rfl, rfl⟩) | (go_at_call 108; refine (rsplit_any _ _ _ hm'.out _ _ _ HB.out HH.out).mono ?_; rintro e w' ⟨rfl, n, rfl⟩))
  have hfn := Lib.hid (hfin.out n _ rfl)
  have hcc : w.cell? ⟨b, ctx c, none⟩ = some (.int .i64 (((m.p (ctx c) : Nat) : Int) - 1024)) := hc0
  clear v1 v2 hc0 a2
  go_loop [9, 11] (fun s k => (s = .int .i64 ((m.raw (ctx c) true : Nat) : Int) ∧ k = .int .i64 0) ∨ (m.raw (ctx c) true < 16777216 ∧ s = .int .i64 ((m.raw (ctx c) true : Nat) * 256 : Int) ∧ k = .int .i64 1))
   (fun s _ => smallV s)
  case atStart => exact .inl ⟨rfl, rfl⟩
  case round =>
   rcases hrel with ⟨rfl, rfl⟩ | ⟨hlt, rfl, rfl⟩
   ·by_cases hs : ((m.raw (ctx c) true : Nat) : Int) < 16777216
    ·go_wp2
     go_round
     case rel => exact .inr ⟨by omega, rfl, rfl⟩
     case measure =>
      have := RB.out
      exact smallV_lt (by omega) hs
    ·have e1 : ((m.raw (ctx c) true : Nat) : Int) = (((m.step (ctx c) true).size : Nat) : Int) := by rw [hstep.out]; unfold norm; rw [if_neg (by omega)]
     have e2 : Hid (m.shifts (ctx c) true = false) := by show _ = _; rw [hsh.out]; simp; omega
     have e3 : ((((m.step (ctx c) true).size : Nat) : Int)) ≤ 4294967295 := by rw [← e1]; exact b5
     rw [e1] at hs ⊢
     clear e1 b5
     go_wp2
     go_ret
     refine ⟨by rw [e2.out]; rfl, ?_⟩
     exact hfn.out
   ·have hs : ¬ ((m.raw (ctx c) true : Nat) : Int) * 256 < 16777216 := by have := RB.out; omega
    have e1 : ((m.raw (ctx c) true : Nat) : Int) * 256 = (((m.step (ctx c) true).size : Nat) : Int) := by rw [hstep.out]; unfold norm; rw [if_pos hlt]; omega
    have e2 : Hid (m.shifts (ctx c) true = true) := by show _ = _; rw [hsh.out]; simpa using hlt
    have e3 : ((((m.step (ctx c) true).size : Nat) : Int)) ≤ 4294967295 := by rw [← e1]; omega
    rw [e1] at hs ⊢
    clear hlt e1
    go_wp2
    go_ret
    refine ⟨by rw [e2.out]; rfl, ?_⟩
    exact hfn.out
end Go.Proofs.YtcikldoaidmnhaaGreatDoor
