/- Parts: Walks of the packets' program: a corner is met. No condition. Walks of the reference's meshes: sorted, canonical, the same. No condition. -/
import Derived.Test.YtcikldoaidmnhaaGreatDoorQClus9
import Derived.Test.YtcikldoaidmnhaaGreatDoorQClus10
namespace Go.Proofs.YtcikldoaidmnhaaGreatDoor
open Go Go.RowKit Pk
set_option maxRecDepth 100000
set_option maxHeartbeats 2000000 in
theorem hSort_any : ∀ (n : Nat) (va : Value) (l : List Tri), l.length ≤ n → l.length ≤ 1000000 → ∀ w : World, kTri.Rd w va l →
  Calls Tryz.prog 69 #[va] w fun en w' => ∃ v, en = .returned v ∧ kTri.Rd w' v (l.mergeSort triLe) ∧ Upd noBlk w w'
 | n, va, l, hn, hl, w, h => by
  by_cases h2 : l.length < 2
  ·have hs := sort_few l h2
   rw [hs]
   have HR := Lib.hid h
   obtain ⟨A, cap, rfl, _, _⟩ := id h
   have h2' : ((l.length : Nat) : Int) < 2 := by omega
   clear h hs h2 hl hn
   go_enter Tryz.func69, Tryz.ntmps69
   go_wp2_with fail
   go_ret
   exact ⟨_, rfl, HR.out, Upd.refl _ _⟩
  ·obtain ⟨m, rfl⟩ : ∃ m, n = m + 1 := ⟨n - 1, by omega⟩
   have hs := sort_half l
   obtain ⟨hf, hhf⟩ : ∃ hf, hf = l.length / 2 := ⟨_, rfl⟩
   rw [← hhf] at hs
   have HIH := fun va l' hl' hl2 W hW => Lib.hid (hSort_any m va l' hl' hl2 W hW)
   obtain ⟨M, hM⟩ : ∃ M, M = l.mergeSort triLe := ⟨_, rfl⟩
   rw [← hM] at hs
   rw [← hM]
   have HS := Lib.hid hs
   obtain ⟨A, cap, rfl, hc, hx⟩ := h
   obtain ⟨b, off, rfl, f1⟩ := hx (by omega)
   have hk9 : kTri.k = 9 := rfl
   have HT : Hid (kTri.Rd w (.slice (some ⟨b, off, none⟩) hf cap) (l.take hf)) := by
    refine ⟨_, cap, by rw [List.length_take, Nat.min_eq_left (by omega)], by rw [List.length_take]; omega, fun _ => ⟨b, off, rfl, fun j hj => ?_⟩⟩
    rw [List.getElem_take]
    exact f1 j (by rw [List.length_take] at hj; omega)
   have HD : Hid (kTri.Rd w (.slice (some ⟨b, off + hf * 9, none⟩) (l.length - hf) (cap - hf)) (l.drop hf)) := by
    refine ⟨_, cap - hf, by rw [List.length_drop], by rw [List.length_drop]; omega, fun _ => ⟨b, off + hf * 9, rfl, fun j hj => ?_⟩⟩
    rw [List.getElem_drop]
    have h3 := f1 (hf + j) (by rw [List.length_drop] at hj; omega)
    rw [hk9] at h3 ⊢
    rw [Nat.add_mul, ← Nat.add_assoc] at h3
    exact h3
   have H1 := HIH (.slice (some ⟨b, off, none⟩) hf cap) (l.take hf) (by rw [List.length_take]; omega) (by rw [List.length_take]; omega)
   have H2 := HIH (.slice (some ⟨b, off + hf * 9, none⟩) (l.length - hf) (cap - hf)) (l.drop hf) (by rw [List.length_drop]; omega) (by rw [List.length_drop]; omega)
   have HMG : Hid (∀ va vb W, kTri.Rd W va ((l.take hf).mergeSort triLe) → kTri.Rd W vb ((l.drop hf).mergeSort triLe) → Calls Tryz.prog 118 #[va, vb] W fun en w' => ∃ v, en = .returned v ∧ kTri.Own W.heap.size w' v M ∧ Upd noBlk W w') := fun va vb W h1 h2 => by
    have := hMerge_any va vb _ _ (by rw [List.length_mergeSort, List.length_take]; omega) (by rw [List.length_mergeSort, List.length_drop]; omega) W h1 h2
    rw [hs] at this
    exact this
   have h2' : ¬ ((l.length : Nat) : Int) < 2 := by omega
   have hq : ((l.length : Nat) : Int).tdiv 2 = ((hf : Nat) : Int) := by rw [Int.tdiv_eq_ediv_of_nonneg (by omega)]; omega
   have hq2 : wrap64 (((l.length : Nat) : Int) / 2) = ((hf : Nat) : Int) := by unfold wrap64; omega
   have hq3 : wrap64 ((hf : Nat) : Int) = ((hf : Nat) : Int) := by unfold wrap64; omega
   have hc1 : ¬ cap = hf := by omega
   have hc2 : ((hf : Nat) : Int) ≤ ((cap : Nat) : Int) := by omega
   have hc3 : ((hf : Nat) : Int) ≤ ((l.length : Nat) : Int) := by omega
   have hc4 : ((l.length : Nat) : Int) ≤ ((cap : Nat) : Int) := by omega
   have hadd : (⟨b, off, none⟩ : Addr).add (hf * 9) = ⟨b, off + hf * 9, none⟩ := Addr.add_mid _ _ _
   clear HIH hs hhf hx f1 hk9 hM hl hn h2
   go_enter Tryz.func69, Tryz.ntmps69
   go_upto_region 4 with fail
   refine wp_region_tree 9 (OT.sures [0, 1, 4, 5, 2, 6] (.run 3 (.run 7 (.run 8 .nil)))) (fun _ => True) (by kernel_rfl) (by kernel_rfl) (fun c a d v w h => by cases d <;> exact h) trivial ?_
   simp only [OT.sures]
   iterate 6 (apply wpT_sure rfl rfl; focus (intro w' hw'; go_simp; rfl))
   refine wpT_run _ (fun _ h => h) rfl (fun K' hK => ?_)
   go_simp
   refine (H1 _ (HT.out.keep (Upd.refl noBlk w).drew)).out.mono ?_
   rintro e w1 ⟨v1, rfl, hr1, hu1⟩
   have HR1 := Lib.hid hr1
   have U1 : Hid (Upd noBlk w w1) := (Upd.refl noBlk w).drew.trans hu1
   refine hK _ _ ⟨trivial, ?_⟩
   clear hK K' hr1 hu1 H1 HT
   refine wpT_run _ (fun _ h => h) rfl (fun K' hK => ?_)
   go_simp
   refine (H2 _ (HD.out.keep U1.out)).out.mono ?_
   rintro e w2 ⟨v2, rfl, hr2, hu2⟩
   have HR2 := Lib.hid hr2
   have HR1 := Lib.hid (HR1.out.keep hu2)
   have U2 := Lib.hid (U1.out.trans hu2)
   refine hK _ _ ⟨trivial, ?_⟩
   clear hK K' hr2 hu2 H2 HD
   refine wpT_run _ (fun _ h => h) rfl (fun K' hK => ?_)
   go_simp
   refine (HMG.out v1 v2 w2 HR1.out HR2.out).mono ?_
   rintro e w3 ⟨v3, rfl, ho, hu3⟩
   have HO := Lib.hid ho
   have U3 := Lib.hid (U2.out.trans hu3)
   refine hK _ _ ⟨trivial, ?_⟩
   clear hK K' ho hu3 HMG
   refine wpT_nil ?_
   go_wp2_with fail
   go_ret
   exact ⟨_, rfl, HO.out.rd, U3.out⟩
set_option maxHeartbeats 2000000 in
theorem hCanon_any (v : Value) (l : List Tri) (hn : l.length ≤ 1000000) (w : World) (h : kTri.Rd w v l) :
  Calls Tryz.prog 21 #[v] w fun en w' => ∃ v', en = .returned v' ∧ kTri.Rd w' v' (canon l) ∧ Upd noBlk w w' := by
 have hr := fun t W => Lib.hid (hRotate_any t W)
 obtain ⟨A, cap, rfl, hcap, hx⟩ := h
 have HX := Lib.hid hx
 have hn' : ((l.length : Nat) : Int) ≤ 1000000 := by omega
 have HLE : Hid (l.length ≤ 1000000) := hn
 clear hx hn
 go_enter Tryz.func21, Tryz.ntmps21
 go_wp2_with fail
 go_loopw [3, 4] (fun o i wr => ∃ k : Nat, i = .int .i64 k ∧ k ≤ l.length ∧ kTri.Own w.heap.size wr o ((l.take k).map rot) ∧ Upd noBlk w wr) (fun _ i _ => l.length - (intOf i).toNat)
 case atStart => exact ⟨0, rfl, Nat.zero_le _, Kd.Own.nil _ _ _, Upd.refl _ _⟩
 case round =>
  obtain ⟨k, rfl, hk, ho, hu⟩ := hrel
  have HO := Lib.hid ho
  have HU := Lib.hid hu
  clear ho hu
  by_cases hlt : k < l.length
  ·have hlt' : ((k : Nat) : Int) < ((l.length : Nat) : Int) := by omega
   obtain ⟨b, off, rfl, f1⟩ := HX.out (by omega)
   obtain ⟨g0, g1, g2, g3, g4, g5, g6, g7, g8⟩ := triAt9 ((f1 k hlt).keep HU.out)
   have hk9 : kTri.k = 9 := rfl
   rw [hk9] at g0 g1 g2 g3 g4 g5 g6 g7 g8
   have HT : Hid ((l.take (k + 1)).map rot = (l.take k).map rot ++ [rot l[k]]) := by show _ = _; rw [List.take_succ_eq_append_getElem hlt, List.map_append]; rfl
   have HL : Hid (((l.take k).map rot).length = k) := by show _ = _; rw [List.length_map, List.length_take]; omega
   have HK : Hid (k < l.length) := hlt
   clear f1 hk9
   have hrt := hr l[k]
   generalize l[k] = tk at *
   obtain ⟨⟨a0, a1, a2⟩, ⟨a3, a4, a5⟩, ⟨a6, a7, a8⟩⟩ := tk
   simp only at g0 g1 g2 g3 g4 g5 g6 g7 g8
   have hws : IntKind.i64.wrap ((k : Int) + 1) = (k : Int) + 1 := wrapN (by omega) (by omega)
   go_wp2_with fail
   refine (hrt _).out.mono ?_
   rintro e w2 ⟨rfl, u2⟩
   have U2 := Lib.hid (HU.out.trans u2)
   have O2 := Lib.hid (HO.out.upd u2)
   clear u2
   obtain ⟨g, cap2, w3, r3, o3, v3, _⟩ := O2.out.app1 (Nat.le_trans U2.out.size (Nat.le_refl _)) (rot ((a0, a1, a2), (a3, a4, a5), a6, a7, a8)) (by have := HL.out; have := HK.out; have := HLE.out; omega)
   rw [HL.out] at r3 o3
   have R3 := Lib.hid r3
   have O3 := Lib.hid o3
   have V3 := Lib.hid v3
   have HV : Hid (∀ i, i < w.heap.size → u3.ownBlock = some i → noBlk i) := fun i hi e => absurd hi (by have := (O2.out.blk e).1; omega)
   clear r3 o3 v3
   generalize rot ((a0, a1, a2), (a3, a4, a5), a6, a7, a8) = rt at *
   obtain ⟨⟨c0, c1, c2⟩, ⟨c3, c4, c5⟩, ⟨c6, c7, c8⟩⟩ := rt
   unfold triV triC
   go_wp2_with (at_builtin; refine wpList_append_run rfl _ _ _ rfl rfl rfl R3.out ?_)
   refine ⟨⟨k + 1, by push_cast; rfl, HK.out, ?_, U2.out.then V3.out HV.out⟩, by simp only [intOf]; have := HK.out; omega⟩
   rw [HT.out]
   exact O3.out
  ·obtain rfl : k = l.length := by omega
   have hl2 : ((l.take l.length).map rot) = l.map rot := by rw [List.take_length]
   have hown := HO.out
   rw [hl2] at hown
   have HS := Lib.hid (hSort_any l.length u3 (l.map rot) (by rw [List.length_map]; exact Nat.le_refl _) (by rw [List.length_map]; exact HLE.out) wr hown.rd)
   clear hown hl2
   go_wp2_with fail
   refine HS.out.mono ?_
   rintro e w2 ⟨v2, rfl, r2, u2⟩
   have R2 := Lib.hid r2
   have U2 := Lib.hid (HU.out.trans u2)
   clear r2 u2 HS
   go_wp2_with fail
   go_ret
   exact ⟨_, rfl, R2.out, U2.out⟩
set_option maxHeartbeats 1000000 in
theorem hSame_any (va vb : Value) (a b : List Tri) (ha : a.length ≤ 1000000) (hb : b.length ≤ 1000000) (w : World) (hra : kTri.Rd w va a) (hrb : kTri.Rd w vb b) :
  Calls Tryz.prog 39 #[va, vb] w fun en w' => en = .returned (.bool (decide (canon a = canon b))) ∧ Upd noBlk w w' := by
 have H1 := Lib.hid (hCanon_any va a ha w hra)
 have H2 := fun W hW => Lib.hid (hCanon_any vb b hb W hW)
 have H3 := fun v v' W h1 h2 => Lib.hid (hEqual_any v v' (canon a) (canon b) (by rw [canon_length]; exact ha) W h1 h2)
 have HRB := Lib.hid hrb
 clear hra hrb
 go_enter Tryz.func39, Tryz.ntmps39
 go_wp2_with fail
 refine H1.out.mono ?_
 rintro e w1 ⟨v1, rfl, r1, u1⟩
 have R1 := Lib.hid r1
 have U1 := Lib.hid u1
 have H2' := H2 w1 (HRB.out.keep u1)
 clear r1 u1 H1 H2
 go_wp2_with fail
 refine H2'.out.mono ?_
 rintro e w2 ⟨v2, rfl, r2, u2⟩
 have H3' := H3 v1 v2 w2 (R1.out.keep u2) r2
 have U2 := Lib.hid (U1.out.trans u2)
 clear r2 u2 H2' H3
 go_wp2_with fail
 refine H3'.out.mono ?_
 rintro e w3 ⟨rfl, u3⟩
 have U3 := Lib.hid (U2.out.trans u3)
 clear u3 H3'
 go_wp2_with fail
 go_ret
 exact ⟨rfl, U3.out⟩
end Go.Proofs.YtcikldoaidmnhaaGreatDoor
namespace Go.Proofs.YtcikldoaidmnhaaGreatDoor
open Go Go.RowKit Pk
set_option maxRecDepth 100000
def meetN (known : List Pt) (p : Pt) : Nat := if p ∈ known then known.length - 1 - known.idxOf p else 0
set_option maxHeartbeats 2000000 in
theorem meet_any (b : Nat) (S : Wk) (G : Nat → Prop) (p : Pt) (hp : okP p) (hl : S.known.length ≤ 100000) (w : World) (h : SRep w b S G) :
  Calls Tryz.prog 50 #[.pointer (some ⟨b, 0, none⟩), ptV p] w fun en w' => en = .returned (.tuple #[.int .i64 (meetN S.known p), .bool (decide (p ∈ S.known))]) ∧ SPost G w w' b ⟨meetK S.known p, S.tris, S.gates⟩ := by
 obtain ⟨vK, vG, vT, ba, bu, h, rfl⟩ := h
 have HL := Lib.hid h
 have HN := Lib.hid h.ne
 obtain ⟨p0, p1, p2⟩ := p
 obtain ⟨A, cap, rfl, hcap⟩ := h.comp.known.form
 have hu := (Upd.refl noBlk w).alloc (.cells #[.int .i64 p0, .int .i64 p1, .int .i64 p2] 43)
 have HU := Lib.hid hu
 have HB := Lib.hid (hu.heap h.blk id)
 have HZ := Lib.hid (heap_alloc_new w (.cells #[.int .i64 p0, .int .i64 p1, .int .i64 p2] 43))
 have HA := Lib.hid (h.comp.at_.keep hu)
 have HP := Lib.hid hp
 have HPB : Hid (∀ k, sFoot b (.slice A S.known.length cap) vG vT ba bu k → k ≠ w.heap.size) := fun k hk e => by have := h.lt k hk; omega
 obtain ⟨tr, htr⟩ : ∃ tr, tr = S.tris := ⟨_, rfl⟩
 obtain ⟨K, hK⟩ : ∃ K, K = S.known := ⟨_, rfl⟩
 obtain ⟨gs, hgs⟩ : ∃ gs, gs = S.gates := ⟨_, rfl⟩
 obtain rfl : S = ⟨K, tr, gs⟩ := by rw [htr, hK, hgs]
 simp only at *
 clear htr hK hgs
 have hl' : ((K.length : Nat) : Int) ≤ 100000 := by omega
 have hl0 : Hid (K.length ≤ 100000) := hl
 have HCAP := Lib.hid hcap
 clear h hu hp hl hcap
 unfold ptV
 go_enter Tryz.func50, Tryz.ntmps50
 obtain ⟨wx, hwx⟩ : ∃ wx, wx = w.alloc (.cells #[.int .i64 p0, .int .i64 p1, .int .i64 p2] 43) := ⟨_, rfl⟩
 rw [← hwx] at HU HB HZ HA
 go_upto_region 1 with fail
 rw [← hwx]
 clear hwx
 have hlk := HA.out.lookOkR (a := (p0, p1, p2)) HP.out
 by_cases hm : (p0, p1, p2) ∈ K
 ·have hv : atF K (p0, p1, p2) = some ((K.idxOf (p0, p1, p2) : Nat) : Int) := by unfold atF; rw [if_pos hm]
  have hid := List.idxOf_lt_length_iff.2 hm
  have HR : Hid (meetN K (p0, p1, p2) = K.length - 1 - K.idxOf (p0, p1, p2)) := by show _ = _; unfold meetN; rw [if_pos hm]
  have HD : Hid (decide ((p0, p1, p2) ∈ K) = true) := decide_eq_true hm
  have HM : Hid (meetK K (p0, p1, p2) = K) := by show _ = _; unfold meetK; rw [if_pos hm]
  obtain ⟨j, hj⟩ : ∃ j, j = K.idxOf (p0, p1, p2) := ⟨_, rfl⟩
  rw [← hj] at hv hid HR
  have hid' : ((j : Nat) : Int) < ((K.length : Nat) : Int) := by omega
  have HJ : Hid (j < K.length) := hid
  have HK : Hid (∀ w', Gr wx w' → (Instr.lookup 99 (.map (some ba)) (.agg #[.int .i64 p0, .int .i64 p1, .int .i64 p2]) true).run Tryz.prog w' = .ok (.tuple #[.int .i64 ((j : Nat) : Int), .bool true]) w') := fun w' hw' => by
   have := (HA.out.keep hw'.up).lookOkR (a := (p0, p1, p2)) HP.out
   rw [hv] at this; exact this
  clear hm hv hid hlk hj
  refine wp_region_tree 10 (OT.sures [0, 1, 2, 3, 4, 5, 6, 7, 8, 9] .nil) (fun w' => Gr wx w') (by kernel_rfl) (by kernel_rfl) (fun c a d v w h => by cases d <;> exact h) ((Gr.refl wx).drew) ?_
  simp only [OT.sures]
  iterate 10 (apply wpT_sure rfl rfl; focus (intro w' hw'; have hk := HK.out w' hw'; obtain ⟨⟨k0, k1, k2, k3, k4⟩, _⟩ := cells5 (hw'.heap HB.out id); obtain ⟨a0, a1, a2⟩ := cells3 (hw'.heap HZ.out id); go_simp; rfl))
  refine wpT_nil ?_
  obtain ⟨⟨k0, k1, k2, k3, k4⟩, _⟩ := cells5 HB.out
  go_wp2_with fail
  go_ret2
  refine ⟨?_, ?_⟩
  ·show Ending.returned (Value.tuple #[.int .i64 (((K.length : Nat) : Int) - 1 - ((j : Nat) : Int)), .bool true]) = _
   rw [HD.out, HR.out]
   have e : ((K.length - 1 - j : Nat) : Int) = ((K.length : Nat) : Int) - 1 - ((j : Nat) : Int) := by have := HJ.out; omega
   rw [e]
  ·rw [HM.out]
   have hU := HU.out.drew
   exact ⟨_, ⟨_, _, _, _, _, HL.out.upd hU (fun _ _ => id), rfl⟩, fun k hk => .inl hk, hU.mono (fun _ _ h => h.elim)⟩
 ·have hv : atF K (p0, p1, p2) = none := by unfold atF; rw [if_neg hm]
  have HR : Hid (meetN K (p0, p1, p2) = 0) := by show _ = _; unfold meetN; rw [if_neg hm]
  have HD : Hid (decide ((p0, p1, p2) ∈ K) = false) := decide_eq_false hm
  have HM : Hid (meetK K (p0, p1, p2) = K ++ [(p0, p1, p2)]) := by show _ = _; unfold meetK; rw [if_neg hm]
  have HNW := Lib.hid (atF_new hm)
  have HK : Hid (∀ w', Gr wx w' → (Instr.lookup 99 (.map (some ba)) (.agg #[.int .i64 p0, .int .i64 p1, .int .i64 p2]) true).run Tryz.prog w' = .ok (.tuple #[.int .i64 0, .bool false]) w') := fun w' hw' => by
   have := (HA.out.keep hw'.up).lookOkR (a := (p0, p1, p2)) HP.out
   rw [hv] at this; exact this
  clear hm hv hlk
  refine wp_region_tree 10 (OT.sures [0, 1, 2, 3, 4, 5, 6, 7, 8, 9] .nil) (fun w' => Gr wx w') (by kernel_rfl) (by kernel_rfl) (fun c a d v w h => by cases d <;> exact h) ((Gr.refl wx).drew) ?_
  simp only [OT.sures]
  iterate 10 (apply wpT_sure rfl rfl; focus (intro w' hw'; have hk := HK.out w' hw'; obtain ⟨⟨k0, k1, k2, k3, k4⟩, _⟩ := cells5 (hw'.heap HB.out id); obtain ⟨a0, a1, a2⟩ := cells3 (hw'.heap HZ.out id); go_simp; rfl))
  refine wpT_nil ?_
  clear HK
  obtain ⟨x1, hx1⟩ : ∃ x1, x1 = wx.drew := ⟨_, rfl⟩
  have hU1 : Upd noBlk wx x1 := by rw [hx1]; exact (Upd.refl _ wx).drew
  have HU1 := Lib.hid (HU.out.trans hU1)
  have HB1 := Lib.hid (hU1.heap HB.out id)
  have HZ1 := Lib.hid (hU1.heap HZ.out id)
  have HA1 := Lib.hid (HA.out.keep hU1)
  rw [← hx1]
  clear hx1 hU1 HU HB HZ HA
  go_wp2_with fail
  refine wp_region_tree 10 (OT.sures [0, 1, 2, 3, 4, 5, 6, 7, 8, 9] .nil) (fun w' => Gr x1 w') (by kernel_rfl) (by kernel_rfl) (fun c a d v w h => by cases d <;> exact h) ((Gr.refl x1).drew) ?_
  simp only [OT.sures]
  iterate 10 (apply wpT_sure rfl rfl; focus (intro w' hw'; obtain ⟨⟨k0, k1, k2, k3, k4⟩, _⟩ := cells5 (hw'.heap HB1.out id); obtain ⟨a0, a1, a2⟩ := cells3 (hw'.heap HZ1.out id); go_simp; rfl))
  refine wpT_nil ?_
  obtain ⟨y, hr, hy, hu⟩ := (HA1.out.keep (Upd.refl noBlk x1).drew).put (by have := hl0.out; unfold maxLen; omega) (a := (p0, p1, p2)) HP.out (v := ((K.length : Nat) : Int)) trivial
  rw [HNW.out] at hy
  have HY := Lib.hid hy
  have hu1 : Upd (fun k => k = ba) x1 y := (Upd.refl _ x1).drew.trans hu
  have HN' := HN.out
  have HUY := Lib.hid (HU1.out.mono (G := sFoot b (.slice A K.length cap) vG vT ba bu) (fun _ _ h => h.elim))
  have HBY := Lib.hid (hu1.heap HB1.out (fun e => HN'.nba e.symm))
  have HZY := Lib.hid (hu1.heap HZ1.out (fun e => HPB.out ba (.inr (.inl rfl)) e.symm))
  have HWY : Hid (Upd (fun k => k = ba) w y) := (HU1.out.mono (fun _ _ h => h.elim)).trans hu1
  have HRU : (Instr.mapUpdate 99 (.map (some ba)) (.agg #[.int .i64 p0, .int .i64 p1, .int .i64 p2]) (.int .i64 ((K.length : Nat) : Int))).run Tryz.prog x1.drew = .ok () y := hr
  clear hr hy hu hu1 HN'
  go_wp2_with fail
  clear HRU HB1 HZ1 HA1 HU1
  have HN' := HN.out
  have hL := HL.out
  have hd1 : Upd noBlk y y.drew := (Upd.refl _ y).drew
  have hown : kPt.Own 0 y.drew (.slice A K.length cap) K := (hL.comp.known.other HWY.out (fun g hg e => HN'.ka (by rw [hg, e]))).upd hd1
  obtain ⟨g, cap3, w3, r3, o3, u3, a3⟩ := hown.app1 (Nat.zero_le _) (p0, p1, p2) (by have := hl0.out; omega)
  have HG : Hid ((Value.slice A K.length cap).ownBlock = some g ∨ y.heap.size < g) := a3
  have HU3 := Lib.hid (hd1.mono (G := fun k => (Value.slice A K.length cap).ownBlock = some k) (fun _ _ h => h.elim) |>.trans u3)
  have HB3 := Lib.hid (HU3.out.heap HBY.out HN'.k)
  have HC3 : Hid (SComp w3 ⟨K ++ [(p0, p1, p2)], tr, gs⟩ (.slice (some ⟨g, 0, none⟩) (K.length + 1) cap3) vG vT ba bu) := by
   refine ⟨?_, ?_, o3, ?_, ?_, hL.comp.ab⟩
   ·have := HY.out.other HU3.out HN'.ka
    simpa using this
   ·exact (hL.comp.used.other HWY.out (fun e => hL.comp.ab e.symm)).other HU3.out HN'.ku
   ·exact (hL.comp.gates.other HWY.out (fun i hi e => HN'.ga (by rw [hi, e]))).other HU3.out (fun i hi e => HN'.kg i e hi)
   ·exact (hL.comp.tris.other HWY.out (fun i hi e => HN'.ta (by rw [hi, e]))).other HU3.out (fun i hi e => HN'.kt i e hi)
  have HAPP : (Builtin.append_ #[98, 98] 98 #[.slice A K.length cap, .slice (some ⟨y.heap.size, 0, none⟩) 1 1]).run Tryz.prog (y.drew.alloc (.cells #[.int .i64 p0, .int .i64 p1, .int .i64 p2] 43)) = .ok (.slice (some ⟨g, 0, none⟩) (K.length + 1) cap3) w3 := r3
  have HAB : Hid ((y.drew.alloc (.cells #[.int .i64 p0, .int .i64 p1, .int .i64 p2] 43)).heap[b]? = some (.cells #[.slice A K.length cap, .map (some ba), .map (some bu), vG, vT] 103 (0, 0)) ∧ (y.drew.alloc (.cells #[.int .i64 p0, .int .i64 p1, .int .i64 p2] 43)).heap[w.heap.size]? = some (.cells #[.int .i64 p0, .int .i64 p1, .int .i64 p2] 43 (0, 0))) := ⟨(hd1.alloc _).heap HBY.out id, (hd1.alloc _).heap HZY.out id⟩
  have HZ3 := Lib.hid (HU3.out.heap HZY.out (fun e => HPB.out _ (.inr (.inr (.inr (.inl e)))) rfl))
  clear hown r3 o3 u3 a3 hL HN' hd1
  refine wp_region_tree 8 (OT.sures [0, 1, 5, 2, 3, 4] (.run 6 (.run 7 .nil))) (fun w' => w'.heap[b]? = some (.cells #[.slice A K.length cap, .map (some ba), .map (some bu), vG, vT] 103 (0, 0)) ∧ w'.heap[w.heap.size]? = some (.cells #[.int .i64 p0, .int .i64 p1, .int .i64 p2] 43 (0, 0))) (by kernel_rfl) (by kernel_rfl) (fun c a d v w h => by cases d <;> exact h) ⟨HBY.out, HZY.out⟩ ?_
  simp only [OT.sures]
  iterate 6 (apply wpT_sure rfl rfl; focus (intro w' hw'; obtain ⟨⟨k0, k1, k2, k3, k4⟩, _⟩ := cells5 hw'.1; obtain ⟨a0, a1, a2⟩ := cells3 hw'.2; go_simp; rfl))
  refine wpT_run _ (fun _ h => h) rfl (fun K' hK => ?_)
  go_simp
  refine hK _ _ ⟨HAB.out, ?_⟩
  clear hK K'
  refine wpT_run _ (fun _ h => h) rfl (fun K' hK => ?_)
  rw [if_pos (by rfl)]
  refine wp_append_run _ _ _ rfl rfl rfl HAPP ?_
  refine hK _ _ ⟨⟨HB3.out, HZ3.out⟩, ?_⟩
  clear hK K' HAPP
  refine wpT_nil ?_
  obtain ⟨⟨k0, k1, k2, k3, k4⟩, ⟨f0, f1, f2, f3, f4⟩⟩ := cells5 HB3.out
  go_wp2_with fail
  go_ret2
  refine ⟨?_, ?_⟩
  ·rw [HD.out, HR.out]; rfl
  ·rw [HM.out]
   have hlive := SLive.put HB3.out HC3.out 0 (.slice (some ⟨g, 0, none⟩) (K.length + 1) cap3) rfl
   refine ⟨_, ⟨_, _, _, _, _, hlive, rfl⟩, fun k hk => ?_, ?_⟩
   ·rcases hk with h | h | h | h | h | h
    ·exact .inl (.inl h)
    ·exact .inl (.inr (.inl h))
    ·exact .inl (.inr (.inr (.inl h)))
    ·have e : g = k := by simpa [Value.ownBlock] using h
     subst e
     rcases HG.out with h2 | h2
     ·exact .inl (.inr (.inr (.inr (.inl h2))))
     ·exact .inr (by have := HWY.out.size; omega)
    ·exact .inl (.inr (.inr (.inr (.inr (.inl h)))))
    ·exact .inl (.inr (.inr (.inr (.inr (.inr h)))))
   ·exact ((HWY.out.mono (G := sFoot b (.slice A K.length cap) vG vT ba bu) (fun k _ e => .inr (.inl e))).trans (HU3.out.mono (fun k _ e => .inr (.inr (.inr (.inl e)))))).setCell (p := ⟨b, 0, none⟩) (fun _ => .inl rfl) _
end Go.Proofs.YtcikldoaidmnhaaGreatDoor
