/- The law: neither the order of the triangles nor which corner comes first plays a part. No condition. What a reading of an argument tells (packets): a slice of bytes. No condition. -/
import Derived.Test.YtcikldoaidmnhaaGreatDoorC31
import Derived.Test.YtcikldoaidmnhaaGreatDoorC32
namespace Go.Proofs.YtcikldoaidmnhaaGreatDoor
open Go Go.RowKit Pk
set_option maxRecDepth 100000
noncomputable def kByte : Kd Tryz.prog UInt8 := { T := 5, S := 41, k := 1, bytes := 1, enc := fun c => [.int .u8 (c.toNat : Nat)], len := fun _ => rfl, one := fun n v hv => by rw [List.mem_singleton.1 hv]; rfl, pos := by decide, small := by decide, und := Tryz.underlying41, info := kinfo_of (by kernel_rfl) }
theorem alike_set {L : List Tri} {k : Nat} {x : Tri} (hk : k < L.length) (h : RotE x L[k]) : Pk.Alike (L.set k x) L := by
  unfold Pk.Alike
  rw [List.map_set, nrm_eq h]
  have : (L.map nrm).set k (nrm L[k]) = L.map nrm := by
    apply List.ext_getElem?
    intro i
    rw [List.getElem?_set]
    by_cases e : k = i
    · subst e
      rw [if_pos rfl, if_pos (by simpa using hk), List.getElem?_map, List.getElem?_eq_getElem hk]; rfl
    · rw [if_neg e]
  rw [this]
theorem swap_perm (L : List Tri) (k j : Nat) (hk : k < L.length) (hj : j < L.length) : ((L.set k L[j]).set j L[k]).Perm L := List.set_set_perm hk hj
theorem set_sm2 {l : List Tri} (h : ∀ t, t ∈ l → smT t) (k : Nat) {x : Tri} (hx : smT x) : ∀ t, t ∈ l.set k x → smT t := set_sm h k hx
/-- One step of the shuffling. -/
def shufS (L : List Tri) (k j r : Nat) : List Tri :=
  let L2 := (L.set k (L.getD j z3)).set j (L.getD k z3)
  L2.set k (cornP (L2.getD k z3) r, cornP (L2.getD k z3) ((r + 1) % 3), cornP (L2.getD k z3) ((r + 2) % 3))
theorem shufS_len (L : List Tri) (k j r : Nat) : (shufS L k j r).length = L.length := by simp [shufS]
theorem getD_lt {L : List Tri} {k : Nat} (hk : k < L.length) : L.getD k z3 = L[k] := by rw [List.getD_eq_getElem?_getD, List.getElem?_eq_getElem hk]; rfl
theorem shufS_alike {L : List Tri} {k j r : Nat} (hk : k < L.length) (hj : j < L.length) (hr : r < 3) : Pk.Alike (shufS L k j r) L := by
  unfold shufS
  simp only
  have h1 : ((L.set k (L.getD j z3)).set j (L.getD k z3)).Perm L := by rw [getD_lt hk, getD_lt hj]; exact swap_perm L k j hk hj
  have hlen : k < ((L.set k (L.getD j z3)).set j (L.getD k z3)).length := by simpa using hk
  generalize (L.set k (L.getD j z3)).set j (L.getD k z3) = L2 at *
  refine (alike_set hlen ?_).trans (Pk.Alike.of_perm h1)
  rw [getD_lt hlen]
  rcases (by omega : r = 0 ∨ r = 1 ∨ r = 2) with rfl | rfl | rfl
  · exact .inl rfl
  · exact .inr (.inl rfl)
  · exact .inr (.inr rfl)
theorem shufS_sm {L : List Tri} (h : ∀ t, t ∈ L → smT t) (k j r : Nat) : ∀ t, t ∈ shufS L k j r → smT t := by
  unfold shufS
  simp only
  have h2 := set_sm (set_sm h k (getD_sm h j)) j (getD_sm h k)
  generalize (L.set k (L.getD j z3)).set j (L.getD k z3) = L2 at *
  have h3 := getD_sm h2 k
  have hc : ∀ c, smP (cornP (L2.getD k z3) c) := fun c => by
    obtain ⟨p, q, s⟩ := h3
    unfold cornP
    split
    · exact p
    · exact q
    · exact s
  exact set_sm h2 k ⟨hc _, hc _, hc _⟩
set_option maxHeartbeats 16000000 in
theorem lawPackShuffled_c (x : SV) (vh : Value) (vo : Value) (ord : List UInt8) (hx : x.Ok) (hol : ord.length ≤ 9223372036854775807) (w : World) (h : kInt.Rd w vh x.heights) (ho : kByte.Rd w vo ord) : Calls Tryz.prog 6 #[x.V vh, vo] w fun en w' => en = .returned (.bool true) ∧ Upd noBlk w w' := by
  have HS := fun W => Lib.hid (sanity_any W)
  have HTR : Hid (∀ W, Upd noBlk w W → Calls Tryz.prog 15 #[x.V vh] W fun en w' => ∃ v, en = .returned v ∧ kTri.Rd w' v x.tris ∧ x.tris.length ≤ 200 ∧ Upd noBlk W w') := fun W hW => tris_any x vh W hx (h.keep hW)
  have HSM := Lib.hid x.small
  obtain ⟨T, hT⟩ : ∃ T, T = x.tris := ⟨_, rfl⟩
  rw [← hT] at HTR HSM
  obtain ⟨Ah, ch, hvh, _⟩ := h
  obtain ⟨Ao, co, hvo, hoc, hox⟩ := ho
  have HOX := Lib.hid hox
  have hol' : ((ord.length : Nat) : Int) ≤ 9223372036854775807 := by omega
  subst hvh hvo
  clear hT hx hox hol
  unfold SV.V at *
  go_enter Tryz.func6, Tryz.ntmps6
  have HX : Hid ((w.alloc (.cells #[.bool x.op, .int .u32 x.bits, .int .u32 x.side, .slice Ah x.heights.length ch, .int .u8 x.frm, .int .u8 x.many, .int .i64 x.q0, .int .i64 x.q1, .int .i64 x.q2] 26)).heap[w.heap.size]? = some (.cells #[.bool x.op, .int .u32 x.bits, .int .u32 x.side, .slice Ah x.heights.length ch, .int .u8 x.frm, .int .u8 x.many, .int .i64 x.q0, .int .i64 x.q1, .int .i64 x.q2] 26 (0, 0))) := heap_alloc_new w _
  have HU0 : Hid (Upd noBlk w (w.alloc (.cells #[.bool x.op, .int .u32 x.bits, .int .u32 x.side, .slice Ah x.heights.length ch, .int .u8 x.frm, .int .u8 x.many, .int .i64 x.q0, .int .i64 x.q1, .int .i64 x.q2] 26))) := (Upd.refl _ w).alloc _
  go_upto_region 1 with fail
  generalize w.heap.size = xb at *
  generalize w.alloc (.cells #[.bool x.op, .int .u32 x.bits, .int .u32 x.side, .slice Ah x.heights.length ch, .int .u8 x.frm, .int .u8 x.many, .int .i64 x.q0, .int .i64 x.q1, .int .i64 x.q2] 26) = w0 at *
  go_wp2_with fail
  refine (HS _).out.mono ?_
  rintro e w1 ⟨rfl, u1⟩
  have U1 := Lib.hid (HU0.out.trans u1)
  have HX1 := Lib.hid (u1.heap HX.out id)
  have HT1 := Lib.hid (HTR.out w1 U1.out)
  clear u1 HS HTR HX HU0
  obtain ⟨x0, x1, x2, x3, x4, x5, x6, x7, x8⟩ := cells9 HX1.out
  go_wp2_with fail
  refine HT1.out.mono ?_
  rintro e w2 ⟨vt, rfl, hr, hl, u2⟩
  have U2 := Lib.hid (U1.out.trans u2)
  have HR2 := Lib.hid hr
  have HL2 : Hid (T.length ≤ 200) := hl
  obtain ⟨At, ct, rfl, hct, hxt⟩ := hr
  have hl' : ((T.length : Nat) : Int) ≤ 200 := by omega
  clear x0 x1 x2 x3 x4 x5 x6 x7 x8 u2 hl HT1 HX1 U1
  have hn0 : (w2.alloc (.cells #[] 45)).heap[w2.heap.size]? = some (.cells #[] 45 (0, 0)) := heap_alloc_new w2 _
  have hal := (Upd.refl noBlk w2).alloc (.cells #[] 45)
  have HCL : Hid (∀ v L W, Pk.Alike L T → (∀ t, t ∈ L → smT t) → kTri.Rd W v L → Calls Tryz.prog 16 #[v] W fun en w' => en = .returned (.string (str (clusterN T))) ∧ Upd noBlk W w') := fun v L W ha hs hv => by
    have := Cluster_any v L (by rw [ha.length]; have := HL2.out; omega) (fun t ht => smT_ok (hs t ht)) W hv
    rw [ha.cluster] at this
    exact this
  have hss : ((str (clusterN T)).toList == (str (clusterN T)).toList) = true := by simp
  generalize clusterN T = CN at *
  by_cases hT0 : T.length = 0
  · have hTn : T = [] := List.eq_nil_of_length_eq_zero hT0
    have hown : kTri.Own w2.heap.size (w2.alloc (.cells #[] 45)) (.slice (some ⟨w2.heap.size, 0, none⟩) 0 0) [] := Kd.Own.lit (K := kTri) [] hn0 rfl (Nat.le_refl _) (by decide)
    have R0 := Lib.hid (hown.app0 At ct)
    have HR3 := Lib.hid (HR2.out.keep hal)
    have U3 := Lib.hid (U2.out.trans hal)
    subst hTn
    clear hn0 hxt hT0 hct
    simp only [List.length_nil] at HR3 ⊢
    have HN := Lib.hid hown.rd
    clear hown hal HR2 U2
    go_upto_region 4 with (at_builtin; refine wpList_append_run rfl _ _ _ rfl rfl rfl R0.out ?_)
    clear R0
    generalize w2.alloc (.cells #[] 45) = w3 at *
    generalize w2.heap.size = G at *
    have HC3 := HCL.out _ _ w3 (Pk.Alike.refl _) HSM.out HN.out
    go_wp2_with fail
    refine (wp_loop_rounds 1 ?_)
    rw [rounds_succ]
    go_wp2_with fail
    refine HC3.mono ?_
    rintro e w4 ⟨rfl, u4⟩
    have U4 := Lib.hid (U3.out.trans u4)
    have HC4 := HCL.out _ _ w4 (Pk.Alike.refl _) HSM.out (HR3.out.keep u4)
    clear u4 HC3
    go_wp2_with fail
    refine HC4.mono ?_
    rintro e w5 ⟨rfl, u5⟩
    have U5 := Lib.hid (U4.out.trans u5)
    clear u5 HC4
    go_wp2_with fail
    go_ret
    exact ⟨rfl, U5.out⟩
  · obtain ⟨bt, ot, rfl, hat⟩ := hxt (by omega)
    have hat2 : ∀ j (hj : j < T.length), kTri.At (w2.alloc (.cells #[] 45)) bt (ot + j * kTri.k) T[j] := fun j hj => (hat j hj).keep hal
    obtain ⟨c3, w3, r3, o3, u3⟩ := Kd.Rd.appFull (K := kTri) (w := w2.alloc (.cells #[] 45)) (A := some ⟨w2.heap.size, 0, none⟩) (l := []) ⟨_, 0, rfl, Nat.le_refl _, fun h => absurd h (by simp)⟩ (c := ct) T hat2 (by have := HL2.out; simp only [List.length_nil]; omega) (by omega)
    rw [List.length_nil, Nat.zero_add] at r3 o3
    rw [List.nil_append] at o3
    rw [World.size_alloc] at r3 o3
    obtain ⟨G, hG⟩ : ∃ G, G = w2.heap.size + 1 := ⟨_, rfl⟩
    rw [← hG] at r3 o3
    have R3 := Lib.hid r3
    have U3 := Lib.hid ((U2.out.trans hal).trans u3)
    have HR3 := Lib.hid ((HR2.out.keep hal).keep u3)
    obtain ⟨g, gc, hgg, _, hgc, hra⟩ := rowAt_of_own o3 (by omega)
    cases hgg
    have HRA := Lib.hid hra
    have HGC : Hid (T.length ≤ c3) := hgc
    have HGW : Hid (w.heap.size ≤ G) := by show _ ≤ _; have := U2.out.size; omega
    have HGL : Hid (∀ b, b < w2.heap.size → b < G) := fun b hb => by omega
    have HBT : Hid (¬ bt = G) := by show ¬ _; have := cell_lt (hat 0 (by omega) 0 _ rfl); omega
    have hpos : 0 < T.length := by omega
    clear hG hn0 hat hat2 r3 u3 o3 hra hgc HR2 hal hT0 hct
    go_upto_region 4 with (at_builtin; refine wpList_append_run rfl _ _ _ rfl rfl rfl R3.out ?_)
    clear R3
    go_wp2_with fail
    go_loopw [8] (fun i wr => ∃ k : Nat, i = .int .i64 k ∧ 1 ≤ k ∧ (∃ L, L.length = T.length ∧ Pk.Alike L T ∧ (∀ t, t ∈ L → smT t) ∧ RowAt wr G L) ∧ Upd (fun b => b = G) w3 wr) (fun i _ => T.length - (intOf i).toNat)
    case atStart => exact ⟨1, rfl, Nat.le_refl _, ⟨T, rfl, Pk.Alike.refl _, HSM.out, HRA.out⟩, Upd.refl _ _⟩
    case round =>
      obtain ⟨k, rfl, hk1, ⟨L, hLL, hLA, hLS, hLR⟩, hu⟩ := hrel
      have HLL : Hid (L.length = T.length) := hLL
      have HLA := Lib.hid hLA
      have HLS := Lib.hid hLS
      have HLR := Lib.hid hLR
      have HU := Lib.hid hu
      have HRT : Hid (kTri.Rd wr (.slice (some ⟨bt, ot, none⟩) T.length ct) T) := by
        obtain ⟨A', c', e', hc', hx'⟩ := HR3.out
        cases e'
        refine ⟨_, _, rfl, hc', fun h0 => ?_⟩
        obtain ⟨b', o', e2, hx2⟩ := hx' h0
        cases e2
        exact ⟨_, _, rfl, fun j hj => (hx2 j hj).keepF HU.out HBT.out⟩
      have HEND : Hid (Upd noBlk w wr) := U3.out.then HU.out (fun i hi e => by have e' : i = G := e; have := HGW.out; omega)
      clear hLL hLA hLS hLR hu
      by_cases hlk : k < T.length
      · have hlk' : ((k : Nat) : Int) < ((T.length : Nat) : Int) := by omega
        by_cases ho0 : 0 < ord.length
        · have ho0' : (0 : Int) < ((ord.length : Nat) : Int) := by omega
          obtain ⟨m, hm0⟩ : ∃ m, m = k % ord.length := ⟨_, rfl⟩
          have hml : m < ord.length := by rw [hm0]; exact Nat.mod_lt _ ho0
          obtain ⟨bo, oo, rfl, hob⟩ := HOX.out ho0
          obtain ⟨n, hn⟩ : ∃ n, n = (ord[m]).toNat := ⟨_, rfl⟩
          have hn255 : n < 256 := by rw [hn]; exact (ord[m]).toNat_lt
          have hoc1 : wr.cell? ⟨bo, oo + m, none⟩ = some (.int .u8 ((n : Nat) : Int)) := by
            have h := (hob m hml).keep HEND.out 0 _ rfl
            rw [show kByte.k = 1 from rfl, Nat.mul_one, Nat.add_zero] at h
            rw [h, hn]
          have hr1 : ((k : Nat) : Int).tmod ((ord.length : Nat) : Int) = ((m : Nat) : Int) := by rw [hm0, Int.tmod_eq_emod_of_nonneg (by omega)]; exact (Int.natCast_emod _ _).symm
          have hr2 : ((k : Nat) : Int) % ((ord.length : Nat) : Int) = ((m : Nat) : Int) := by rw [hm0]; exact (Int.natCast_emod _ _).symm
          have hml' : ((m : Nat) : Int) < ((ord.length : Nat) : Int) := by omega
          have hnz : ¬ ((ord.length : Nat) : Int) = 0 := by omega
          have hkw : IntKind.i64.wrap (((k : Nat) : Int) + 1) = ((k : Nat) : Int) + 1 := wrapN (by omega) (by omega)
          obtain ⟨j, hj0⟩ : ∃ j, j = n % (k + 1) := ⟨_, rfl⟩
          have hjk : j ≤ k := by have := Nat.mod_lt n (show 0 < k + 1 by omega); omega
          have hj1 : ((n : Nat) : Int).tmod (((k : Nat) : Int) + 1) = ((j : Nat) : Int) := by rw [hj0, Int.tmod_eq_emod_of_nonneg (by omega)]; exact (Int.natCast_emod _ _).symm
          have hj2 : ((n : Nat) : Int) % (((k : Nat) : Int) + 1) = ((j : Nat) : Int) := by rw [hj0]; exact (Int.natCast_emod _ _).symm
          have hkz : ¬ ((k : Nat) : Int) + 1 = 0 := by omega
          have hjl' : ((j : Nat) : Int) < ((T.length : Nat) : Int) := by omega
          obtain ⟨r, hr⟩ : ∃ r, r = n % 3 := ⟨_, rfl⟩
          obtain ⟨r1, hra⟩ : ∃ r1, r1 = (n + 1) % 3 := ⟨_, rfl⟩
          obtain ⟨r2, hrb⟩ : ∃ r2, r2 = (n + 2) % 3 := ⟨_, rfl⟩
          have HR3 : Hid (r < 3 ∧ r1 = (r + 1) % 3 ∧ r2 = (r + 2) % 3 ∧ r1 < 3 ∧ r2 < 3) := by refine ⟨?_, ?_, ?_, ?_, ?_⟩ <;> omega
          have hnw1 : IntKind.i64.wrap (((n : Nat) : Int) + 1) = ((n : Nat) : Int) + 1 := wrapN (by omega) (by omega)
          have hnw2 : IntKind.i64.wrap (((n : Nat) : Int) + 2) = ((n : Nat) : Int) + 2 := wrapN (by omega) (by omega)
          have ht0 : ((n : Nat) : Int).tmod 3 = ((r : Nat) : Int) := by rw [Int.tmod_eq_emod_of_nonneg (by omega)]; omega
          have ht1 : (((n : Nat) : Int) + 1).tmod 3 = ((r1 : Nat) : Int) := by rw [Int.tmod_eq_emod_of_nonneg (by omega)]; omega
          have ht2 : (((n : Nat) : Int) + 2).tmod 3 = ((r2 : Nat) : Int) := by rw [Int.tmod_eq_emod_of_nonneg (by omega)]; omega
          have hl0 : ((r : Nat) : Int) < 3 := by omega
          have hl1 : ((r1 : Nat) : Int) < 3 := by omega
          have hl2 : ((r2 : Nat) : Int) < 3 := by omega
          have HJK : Hid (j ≤ k ∧ k < T.length) := ⟨hjk, hlk⟩
          have HXP : Hid (shufS L k j r = shufS L k j r) := rfl
          clear hm0 hml hob hn hj0 hr hra hrb hlk
          have HKL : Hid (k < L.length ∧ j < L.length) := by show _ ∧ _; have := HLL.out; have := HJK.out; omega
          obtain ⟨La, hLa⟩ : ∃ La, La = L.getD k z3 := ⟨_, rfl⟩
          obtain ⟨Lb, hLb⟩ : ∃ Lb, Lb = L.getD j z3 := ⟨_, rfl⟩
          have HLa := Lib.hid hLa
          have HLb := Lib.hid hLb
          have hca := HLR.out.cells HKL.out.1
          have hcb := HLR.out.cells HKL.out.2
          rw [← getD_lt HKL.out.1, ← hLa] at hca
          rw [← getD_lt HKL.out.2, ← hLb] at hcb
          clear hLa hLb
          obtain ⟨⟨a0, a1, a2⟩, ⟨a3, a4, a5⟩, ⟨a6, a7, a8⟩⟩ := La
          obtain ⟨⟨b0, b1, b2⟩, ⟨b3, b4, b5⟩, ⟨b6, b7, b8⟩⟩ := Lb
          have HCA := Lib.hid hca
          have HCB := Lib.hid hcb
          clear hca hcb
          go_upto_region 9 with fail
          clear hoc1 hr1 hr2 hml' hnz
          -- region 9: two triangles exchanged
          obtain ⟨x0, hx0⟩ : ∃ x0, x0 = wr.drew := ⟨_, rfl⟩
          have hu0 : Upd noBlk wr x0 := by rw [hx0]; exact (Upd.refl _ wr).drew
          have HR0 := Lib.hid (HLR.out.keep hu0 id)
          have HU0 := Lib.hid (HU.out.trans (hu0.mono (fun _ _ h => h.elim)))
          have HCA0 := Lib.hid (HCA.out.keep hu0)
          have HCB0 := Lib.hid (HCB.out.keep hu0)
          obtain ⟨x1, hx1⟩ : ∃ x1, x1 = (((((((((x0.setCell ⟨G, k * 9, none⟩ (.int .i64 b0)).setCell ⟨G, k * 9 + 1, none⟩ (.int .i64 b1)).setCell ⟨G, k * 9 + 2, none⟩ (.int .i64 b2)).setCell ⟨G, k * 9 + 3, none⟩ (.int .i64 b3)).setCell ⟨G, k * 9 + 4, none⟩ (.int .i64 b4)).setCell ⟨G, k * 9 + 5, none⟩ (.int .i64 b5)).setCell ⟨G, k * 9 + 6, none⟩ (.int .i64 b6)).setCell ⟨G, k * 9 + 7, none⟩ (.int .i64 b7)).setCell ⟨G, k * 9 + 8, none⟩ (.int .i64 b8)) := ⟨_, rfl⟩
          have HR1 : Hid (RowAt x1 G (L.set k ((b0, b1, b2), (b3, b4, b5), (b6, b7, b8)))) := by show RowAt _ _ _; rw [hx1]; exact HR0.out.put9 HKL.out.1 b0 b1 b2 b3 b4 b5 b6 b7 b8
          have HU1 : Hid (Upd (fun b => b = G) w3 x1) := by show Upd _ _ _; rw [hx1]; exact HU0.out.trans (upd_put9 (.int .i64 b0) (.int .i64 b1) (.int .i64 b2) (.int .i64 b3) (.int .i64 b4) (.int .i64 b5) (.int .i64 b6) (.int .i64 b7) (.int .i64 b8))
          have HC1 := Lib.hid (HR1.out.cells (k := j) (by rw [List.length_set]; exact HKL.out.2))
          obtain ⟨c9, hc9⟩ : ∃ c9, c9 = (L.set k ((b0, b1, b2), (b3, b4, b5), (b6, b7, b8)))[j]'(by rw [List.length_set]; exact HKL.out.2) := ⟨_, rfl⟩
          rw [← hc9] at HC1
          clear hc9
          obtain ⟨x2, hx2⟩ : ∃ x2, x2 = (((((((((x1.setCell ⟨G, j * 9, none⟩ (.int .i64 a0)).setCell ⟨G, j * 9 + 1, none⟩ (.int .i64 a1)).setCell ⟨G, j * 9 + 2, none⟩ (.int .i64 a2)).setCell ⟨G, j * 9 + 3, none⟩ (.int .i64 a3)).setCell ⟨G, j * 9 + 4, none⟩ (.int .i64 a4)).setCell ⟨G, j * 9 + 5, none⟩ (.int .i64 a5)).setCell ⟨G, j * 9 + 6, none⟩ (.int .i64 a6)).setCell ⟨G, j * 9 + 7, none⟩ (.int .i64 a7)).setCell ⟨G, j * 9 + 8, none⟩ (.int .i64 a8)) := ⟨_, rfl⟩
          have HR2 : Hid (RowAt x2 G ((L.set k ((b0, b1, b2), (b3, b4, b5), (b6, b7, b8))).set j ((a0, a1, a2), (a3, a4, a5), (a6, a7, a8)))) := by show RowAt _ _ _; rw [hx2]; exact HR1.out.put9 (by rw [List.length_set]; exact HKL.out.2) a0 a1 a2 a3 a4 a5 a6 a7 a8
          have HU2 : Hid (Upd (fun b => b = G) w3 x2) := by show Upd _ _ _; rw [hx2]; exact HU1.out.trans (upd_put9 (.int .i64 a0) (.int .i64 a1) (.int .i64 a2) (.int .i64 a3) (.int .i64 a4) (.int .i64 a5) (.int .i64 a6) (.int .i64 a7) (.int .i64 a8))
          refine wp_region_tree 14 (OT.sures [0, 1, 2, 3, 4, 5, 8, 9, 6, 10] (.fork 7 (.run 11 (OT.sures [12] (.run 13 .nil))) 11 (.run 7 (OT.sures [12] (.run 13 .nil))))) (fun _ => True) (by kernel_rfl) (by kernel_rfl) (fun c a d v w h => by cases d <;> exact h) trivial ?_
          simp only [OT.sures]
          rw [← hx0]
          iterate 10 (apply wpT_sure rfl rfl; focus (intro w' hw'; go_simp; rfl))
          clear hx0 hu0
          obtain ⟨g0, g1, g2, g3, g4, g5, g6, g7, g8⟩ := triAt9 HCA0.out
          obtain ⟨k0, k1, k2, k3, k4, k5, k6, k7, k8⟩ := triAt9 HCB0.out
          simp only at g0 g1 g2 g3 g4 g5 g6 g7 g8 k0 k1 k2 k3 k4 k5 k6 k7 k8
          have f0 := HR0.out.free (k * 9)
          have f1 := HR0.out.free (k * 9 + 1)
          have f2 := HR0.out.free (k * 9 + 2)
          have f3 := HR0.out.free (k * 9 + 3)
          have f4 := HR0.out.free (k * 9 + 4)
          have f5 := HR0.out.free (k * 9 + 5)
          have f6 := HR0.out.free (k * 9 + 6)
          have f7 := HR0.out.free (k * 9 + 7)
          have f8 := HR0.out.free (k * 9 + 8)
          refine wpT_fork (fun _ => True) (fun _ => True) (fun _ h => h) (fun _ h => h) rfl rfl (fun K' hK => ?_) (fun K' hK => ?_)
          all_goals go_simp
          all_goals refine hK _ _ ⟨trivial, ?_⟩
          all_goals clear hK K'
          all_goals refine wpT_run (fun _ => True) (fun _ h => h) rfl (fun K' hK => ?_)
          all_goals go_simp
          all_goals refine hK _ _ ⟨trivial, ?_⟩
          all_goals clear hK K'
          all_goals (apply wpT_sure rfl rfl; focus (intro w' hw'; go_simp; rfl))
          all_goals refine wpT_run (fun _ => True) (fun _ h => h) rfl (fun K' hK => ?_)
          all_goals go_simp
          all_goals refine hK _ _ ⟨trivial, ?_⟩
          all_goals clear hK K'
          all_goals rw [← hx1]
          all_goals clear hx1 g0 g1 g2 g3 g4 g5 g6 g7 g8 k0 k1 k2 k3 k4 k5 k6 k7 k8 f0 f1 f2 f3 f4 f5 f6 f7 f8 HR0 HU0 HCA0 HCB0 HCA HCB
          all_goals refine wpT_nil ?_
          all_goals obtain ⟨g0, g1, g2, g3, g4, g5, g6, g7, g8⟩ := triAt9 HC1.out
          all_goals have f0 := HR1.out.free (j * 9)
          all_goals have f1 := HR1.out.free (j * 9 + 1)
          all_goals have f2 := HR1.out.free (j * 9 + 2)
          all_goals have f3 := HR1.out.free (j * 9 + 3)
          all_goals have f4 := HR1.out.free (j * 9 + 4)
          all_goals have f5 := HR1.out.free (j * 9 + 5)
          all_goals have f6 := HR1.out.free (j * 9 + 6)
          all_goals have f7 := HR1.out.free (j * 9 + 7)
          all_goals have f8 := HR1.out.free (j * 9 + 8)
          all_goals go_upto_region 10 with fail
          all_goals rw [← hx2]
          all_goals clear hx2 g0 g1 g2 g3 g4 g5 g6 g7 g8 f0 f1 f2 f3 f4 f5 f6 f7 f8 HR1 HU1 HC1
          all_goals obtain ⟨L2, hL2⟩ : ∃ L2, L2 = (L.set k ((b0, b1, b2), (b3, b4, b5), (b6, b7, b8))).set j ((a0, a1, a2), (a3, a4, a5), (a6, a7, a8)) := ⟨_, rfl⟩
          all_goals have HLS2 : Hid (L2.length = L.length) := by show _ = _; rw [hL2, List.length_set, List.length_set]
          all_goals have HE2 : Hid (shufS L k j r = L2.set k (cornP (L2.getD k z3) r, cornP (L2.getD k z3) r1, cornP (L2.getD k z3) r2)) := by show _ = _; rw [hL2, HR3.out.2.1, HR3.out.2.2.1]; unfold shufS; simp only; rw [← HLa.out, ← HLb.out]
          all_goals rw [← hL2] at HR2
          all_goals clear hL2 HLa HLb
          all_goals have hk2 : k < L2.length := by rw [HLS2.out]; exact HKL.out.1
          all_goals have HP0 : Hid (∀ w', Gr x2 w' → (w'.cell? ⟨G, k * 9 + r * 3, none⟩ = some (.int .i64 (cornP (L2.getD k z3) r).1) ∧ w'.cell? ⟨G, k * 9 + r * 3 + 1, none⟩ = some (.int .i64 (cornP (L2.getD k z3) r).2.1) ∧ w'.cell? ⟨G, k * 9 + r * 3 + 2, none⟩ = some (.int .i64 (cornP (L2.getD k z3) r).2.2)) ∧ (w'.cell? ⟨G, k * 9 + r1 * 3, none⟩ = some (.int .i64 (cornP (L2.getD k z3) r1).1) ∧ w'.cell? ⟨G, k * 9 + r1 * 3 + 1, none⟩ = some (.int .i64 (cornP (L2.getD k z3) r1).2.1) ∧ w'.cell? ⟨G, k * 9 + r1 * 3 + 2, none⟩ = some (.int .i64 (cornP (L2.getD k z3) r1).2.2)) ∧ (w'.cell? ⟨G, k * 9 + r2 * 3, none⟩ = some (.int .i64 (cornP (L2.getD k z3) r2).1) ∧ w'.cell? ⟨G, k * 9 + r2 * 3 + 1, none⟩ = some (.int .i64 (cornP (L2.getD k z3) r2).2.1) ∧ w'.cell? ⟨G, k * 9 + r2 * 3 + 2, none⟩ = some (.int .i64 (cornP (L2.getD k z3) r2).2.2))) := fun w' hw' => by have hrw := HR2.out.keep hw'.up id; exact ⟨hrw.corner hk2 HR3.out.1, hrw.corner hk2 HR3.out.2.2.2.1, hrw.corner hk2 HR3.out.2.2.2.2⟩
          all_goals have HCE := Lib.hid ((HR2.out.keep (Upd.refl noBlk x2).drew id).cells hk2)
          all_goals obtain ⟨c9, hc9⟩ : ∃ c9, c9 = L2[k]'hk2 := ⟨_, rfl⟩
          all_goals rw [← hc9] at HCE
          all_goals clear hc9
          all_goals have HK2 := Lib.hid hk2
          all_goals clear hk2
          all_goals generalize cornP (L2.getD k z3) r = Q0 at *
          all_goals generalize cornP (L2.getD k z3) r1 = Q1 at *
          all_goals generalize cornP (L2.getD k z3) r2 = Q2 at *
          all_goals obtain ⟨p0, p1, p2⟩ := Q0
          all_goals obtain ⟨q0, q1, q2⟩ := Q1
          all_goals obtain ⟨s0, s1, s2⟩ := Q2
          all_goals refine wp_region_tree 26 (OT.sures [0, 1, 2, 3, 4, 9, 10, 11, 17, 18, 19, 5, 6, 12, 14, 20, 22, 7, 13, 21, 8, 15, 23, 16, 24, 25] .nil) (fun w' => Gr x2 w') (by kernel_rfl) (by kernel_rfl) (fun c a d v w h => by cases d <;> exact h) ((Gr.refl x2).drew) ?_
          all_goals simp only [OT.sures]
          all_goals iterate 26 (apply wpT_sure rfl rfl; focus (intro w' hw'; obtain ⟨⟨m0, m1, m2⟩, ⟨m3, m4, m5⟩, ⟨m6, m7, m8⟩⟩ := HP0.out w' hw'; go_simp; rfl))
          all_goals refine wpT_nil ?_
          all_goals obtain ⟨x3, hx3⟩ : ∃ x3, x3 = x2.drew := ⟨_, rfl⟩
          all_goals have HR3' : Hid (RowAt x3 G L2) := by show RowAt _ _ _; rw [hx3]; exact HR2.out.keep (Upd.refl noBlk x2).drew id
          all_goals have HU3 : Hid (Upd (fun b => b = G) w3 x3) := by show Upd _ _ _; rw [hx3]; exact HU2.out.drew
          all_goals rw [← hx3] at HCE
          all_goals obtain ⟨g0, g1, g2, g3, g4, g5, g6, g7, g8⟩ := triAt9 HCE.out
          all_goals have f0 := HR3'.out.free (k * 9)
          all_goals have f1 := HR3'.out.free (k * 9 + 1)
          all_goals have f2 := HR3'.out.free (k * 9 + 2)
          all_goals have f3 := HR3'.out.free (k * 9 + 3)
          all_goals have f4 := HR3'.out.free (k * 9 + 4)
          all_goals have f5 := HR3'.out.free (k * 9 + 5)
          all_goals have f6 := HR3'.out.free (k * 9 + 6)
          all_goals have f7 := HR3'.out.free (k * 9 + 7)
          all_goals have f8 := HR3'.out.free (k * 9 + 8)
          all_goals obtain ⟨x4, hx4⟩ : ∃ x4, x4 = (((((((((x3.setCell ⟨G, k * 9, none⟩ (.int .i64 p0)).setCell ⟨G, k * 9 + 1, none⟩ (.int .i64 p1)).setCell ⟨G, k * 9 + 2, none⟩ (.int .i64 p2)).setCell ⟨G, k * 9 + 3, none⟩ (.int .i64 q0)).setCell ⟨G, k * 9 + 4, none⟩ (.int .i64 q1)).setCell ⟨G, k * 9 + 5, none⟩ (.int .i64 q2)).setCell ⟨G, k * 9 + 6, none⟩ (.int .i64 s0)).setCell ⟨G, k * 9 + 7, none⟩ (.int .i64 s1)).setCell ⟨G, k * 9 + 8, none⟩ (.int .i64 s2)) := ⟨_, rfl⟩
          all_goals have HR4 : Hid (RowAt x4 G (L2.set k ((p0, p1, p2), (q0, q1, q2), (s0, s1, s2)))) := by show RowAt _ _ _; rw [hx4]; exact HR3'.out.put9 HK2.out p0 p1 p2 q0 q1 q2 s0 s1 s2
          all_goals have HU4 : Hid (Upd (fun b => b = G) w3 x4) := by show Upd _ _ _; rw [hx4]; exact HU3.out.trans (upd_put9 (.int .i64 p0) (.int .i64 p1) (.int .i64 p2) (.int .i64 q0) (.int .i64 q1) (.int .i64 q2) (.int .i64 s0) (.int .i64 s1) (.int .i64 s2))
          all_goals rw [← HE2.out] at HR4
          all_goals have HEND2 : Hid ((shufS L k j r).length = T.length ∧ Pk.Alike (shufS L k j r) T ∧ ∀ t, t ∈ shufS L k j r → smT t) := ⟨by rw [shufS_len, HLL.out], (shufS_alike HKL.out.1 HKL.out.2 HR3.out.1).trans HLA.out, shufS_sm HLS.out k j r⟩
          all_goals rw [← hx3]
          all_goals clear hx3 HR2 HU2 HR3' HU3 HP0 HCE HRT HEND HLR HLA HLS
          all_goals go_wp2_with fail
          all_goals rw [← hx4]
          all_goals exact ⟨⟨k + 1, by push_cast; rfl, by omega, ⟨shufS L k j r, HEND2.out.1, HEND2.out.2.1, HEND2.out.2.2, HR4.out⟩, HU4.out⟩, by simp only [intOf]; have := HJK.out; omega⟩
        · have ho0' : ¬ (0 : Int) < ((ord.length : Nat) : Int) := by omega
          have ho1 : ((ord.length : Nat) : Int) = 0 := by omega
          have HRS := Lib.hid (HLR.out.rd (cap := c3) (by rw [HLL.out]; exact HGC.out))
          rw [HLL.out] at HRS
          have HC3 := HCL.out _ _ wr HLA.out HLS.out HRS.out
          go_wp2_with fail
          refine HC3.mono ?_
          rintro e w4 ⟨rfl, u4⟩
          have U4 := Lib.hid (HEND.out.trans u4)
          have HC4 := HCL.out _ _ w4 (Pk.Alike.refl _) HSM.out (HRT.out.keep u4)
          clear u4 HC3
          go_wp2_with fail
          refine HC4.mono ?_
          rintro e w5 ⟨rfl, u5⟩
          have U5 := Lib.hid (U4.out.trans u5)
          clear u5 HC4
          go_wp2_with fail
          go_ret
          exact ⟨rfl, U5.out⟩
      · have hlk' : ¬ ((k : Nat) : Int) < ((T.length : Nat) : Int) := by omega
        have HRS := Lib.hid (HLR.out.rd (cap := c3) (by rw [HLL.out]; exact HGC.out))
        rw [HLL.out] at HRS
        have HC3 := HCL.out _ _ wr HLA.out HLS.out HRS.out
        go_wp2_with fail
        refine HC3.mono ?_
        rintro e w4 ⟨rfl, u4⟩
        have U4 := Lib.hid (HEND.out.trans u4)
        have HC4 := HCL.out _ _ w4 (Pk.Alike.refl _) HSM.out (HRT.out.keep u4)
        clear u4 HC3
        go_wp2_with fail
        refine HC4.mono ?_
        rintro e w5 ⟨rfl, u5⟩
        have U5 := Lib.hid (U4.out.trans u5)
        clear u5 HC4
        go_wp2_with fail
        go_ret
        exact ⟨rfl, U5.out⟩
end Go.Proofs.YtcikldoaidmnhaaGreatDoor
namespace Go.Proofs.YtcikldoaidmnhaaGreatDoor
open Go Go.RowKit Go.ChangeShapes Go.WideShapes Go.ChangeAt
set_option maxRecDepth 100000
theorem argY_of_reading {H : Type} {enc : TypeId × Value → H} {W : World} {d : DataW H} {p : List MemPlace} {v : Value}
    (hval : Value.okWide Tryz.prog W .any 0 41 v) (h : DataW.Trod enc Tryz.prog W 0 (fun _ => true) true 41 v d p) : ∃ (l : List UInt8), kByte.Rd W v l ∧ l.length ≤ 9223372036854775807 := by
  obtain ⟨l, A, cap, rfl, h1, h2, h3⟩ := argL_of_reading (size := 1) (by decide) (fun cs (c : UInt8) => cs = [.int .u8 ((c.toNat : Nat) : Int)]) Tryz.underlying41 (by kernel_rfl) (fun n cs x hx => by
    obtain ⟨z, e, _, w⟩ := DataW.trod_int Tryz.underlying5 hx
    obtain ⟨c, rfl, hc⟩ := u8_wf2 w
    exact ⟨UInt8.ofNat c, by rw [e]; simp; omega⟩) hval h
  refine ⟨l, ⟨A, cap, rfl, h2, fun h0 => ?_⟩, by unfold maxLen at h3; omega⟩
  obtain ⟨b, off, e, h4⟩ := h1 h0
  refine ⟨b, off, e, fun j hj => ?_⟩
  obtain ⟨cs, _, rfl, h5⟩ := h4 j hj
  exact h5
end Go.Proofs.YtcikldoaidmnhaaGreatDoor
