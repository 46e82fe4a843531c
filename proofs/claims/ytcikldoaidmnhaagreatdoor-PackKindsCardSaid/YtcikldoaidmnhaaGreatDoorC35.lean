/- Opening group packets, whatever their length; no string is a packet of two kinds. No condition. Parts as plain bytes and back. No condition. The packet of the group that fields determine: how long it is, and that it reads back. No condition. A region that draws its order, walked whole along a tree of orders. No condition. -/
import Derived.Test.YtcikldoaidmnhaaGreatDoorC27
import Derived.Test.YtcikldoaidmnhaaGreatDoorC21
import Derived.Test.YtcikldoaidmnhaaGreatDoorC20
import Derived.Test.YtcikldoaidmnhaaGreatDoorC24
import Derived.Test.YtcikldoaidmnhaaGreatDoorC34
import Derived.Test.YtcikldoaidmnhaaGreatDoorC5
namespace Go.Proofs.YtcikldoaidmnhaaGreatDoor
open Go Go.RowKit Pk Pc
set_option maxRecDepth 100000
set_option maxHeartbeats 4000000 in
theorem OpenGroup_any2 (s : Bytes) (hs : ∀ g, groupO s = some g → g.mag.length ≤ 1152921504606846976) (w : World) :
    Calls Tryz.prog 35 #[.string (bs s)] w fun en w' => groupP (grpR s) w en w' := by
  have HOP := fun W => Lib.hid (openGroup_any s W)
  obtain ⟨tgt, htgt⟩ : ∃ t, t = grpR s := ⟨_, rfl⟩
  rw [← htgt]
  have HT := Lib.hid htgt
  have HSL : Hid (∀ g, groupO s = some g → g.mag.length ≤ 1152921504606846976) := hs
  clear htgt hs
  have HX : Hid ((w.alloc (.cells #[.int .i64 0, .slice none 0 0, .slice none 0 0, .slice none 0 0, .int .i64 0, .int .i64 0, .bool false, .string ⟨#[]⟩] 68)).heap[w.heap.size]? = some (.cells #[.int .i64 0, .slice none 0 0, .slice none 0 0, .slice none 0 0, .int .i64 0, .int .i64 0, .bool false, .string ⟨#[]⟩] 68 (0, 0))) := heap_alloc_new w _
  have HU0 : Hid (Upd noBlk w (w.alloc (.cells #[.int .i64 0, .slice none 0 0, .slice none 0 0, .slice none 0 0, .int .i64 0, .int .i64 0, .bool false, .string ⟨#[]⟩] 68))) := (Upd.refl _ w).alloc _
  go_enter Tryz.func35, Tryz.ntmps35
  go_upto_region 1 with fail
  obtain ⟨xb, hxb⟩ : ∃ xb, xb = w.heap.size := ⟨_, rfl⟩
  have HXB : Hid (w.heap.size ≤ xb) := by show _ ≤ _; omega
  rw [← hxb] at HX
  rw [← hxb]
  clear hxb
  generalize w.alloc (.cells #[.int .i64 0, .slice none 0 0, .slice none 0 0, .slice none 0 0, .int .i64 0, .int .i64 0, .bool false, .string ⟨#[]⟩] 68) = w1 at *
  have HOP1 := HOP w1
  clear HOP
  go_wp2_with fail
  refine HOP1.out.mono ?_
  rintro e w2 ⟨hu, hv⟩
  have HU2 := Lib.hid (HU0.out.trans hu)
  have HX2 := Lib.hid (hu.heap HX.out id)
  rcases hm : groupO s with _ | g
  · rw [hm] at hv
    obtain ⟨c, rfl, hc8, hc1⟩ := hv
    have HTN : Hid (tgt = none) := by show _ = _; rw [HT.out, grpR_of, hm]
    obtain ⟨W, hst, _, hw⟩ := store_row (P := Tryz.prog) (heap_alloc_new w2 (.cells #[.int .i64 0, .slice none 0 0, .slice none 0 0, .slice none 0 0, .int .i64 0, .int .i64 0, .bool false, .string ⟨#[]⟩] 68)) (vs := c) (by rw [hc8]; rfl) hc1
    have HWX := Lib.hid (hw.heap (((Upd.refl noBlk w2).alloc (.cells #[.int .i64 0, .slice none 0 0, .slice none 0 0, .slice none 0 0, .int .i64 0, .int .i64 0, .bool false, .string ⟨#[]⟩] 68)).heap HX2.out id) (by have := lt_of_heap HX2.out; omega))
    have HWU := Lib.hid (upd_newE (HU2.out.alloc (.cells #[.int .i64 0, .slice none 0 0, .slice none 0 0, .slice none 0 0, .int .i64 0, .int .i64 0, .bool false, .string ⟨#[]⟩] 68)) hw (Nat.le_trans HU2.out.size (Nat.le_refl _)))
    clear HT HOP1 hu hm HX HU0 hw HX2 HU2 hc1
    obtain ⟨_, ⟨f0, f1, f2, f3, f4, f5, f6, f7⟩⟩ := cellsF8 HWX.out
    go_wp2_with fail
    obtain ⟨hsx, hsu⟩ := same8 HWX.out
    (try simp only [Exit.inBlock, Exit.then])
    refine bodyPost_ret (results_cell_tmp1 rfl _ rfl (load_group hsx)) rfl ?_
    rw [HTN.out]
    exact ⟨HWU.out.trans hsu, rfl⟩
  · rw [hm] at hv
    obtain ⟨vi, vo, vm, rfl, hat⟩ := hv
    have HTS : Hid (tgt = if rightG g = true ∧ groupB g = s then some g else none) := by show _ = _; rw [HT.out, grpR_of, hm]
    obtain ⟨hgood, hnum, hmag⟩ := groupO_good hm
    obtain ⟨Ai, capi, hvi, _⟩ := hat.ins.form
    obtain ⟨Ao, capo, hvo, _⟩ := hat.outs.form
    obtain ⟨Am, capm, hvm, _⟩ := hat.moves.form
    rw [List.length_map] at hvi hvo hvm
    subst hvi hvo hvm
    have hA : Upd noBlk w2 (w2.alloc (.cells #[.int .i64 g.level, .slice Ai g.ins.length capi, .slice Ao g.outs.length capo, .slice Am g.moves.length capm, .int .i64 g.err, .int .i64 g.total, .bool g.neg, .string (bs g.mag)] 68)) := (Upd.refl _ w2).alloc _
    have HOI := Lib.hid (hat.ins.upd hA)
    have HOO := Lib.hid (hat.outs.upd hA)
    have hom := hat.moves.upd hA
    rw [List.map_id] at hom
    have HOM := Lib.hid hom
    have HXA := Lib.hid (hA.heap HX2.out id)
    have HTA : Hid ((w2.alloc (.cells #[.int .i64 g.level, .slice Ai g.ins.length capi, .slice Ao g.outs.length capo, .slice Am g.moves.length capm, .int .i64 g.err, .int .i64 g.total, .bool g.neg, .string (bs g.mag)] 68)).heap[w2.heap.size]? = some (.cells #[.int .i64 g.level, .slice Ai g.ins.length capi, .slice Ao g.outs.length capo, .slice Am g.moves.length capm, .int .i64 g.err, .int .i64 g.total, .bool g.neg, .string (bs g.mag)] 68 (0, 0))) := heap_alloc_new w2 _
    have HUA := Lib.hid (HU2.out.trans hA)
    have HS1 : Hid (xb < w1.heap.size) := lt_of_heap HX.out
    have hok : (gvOf g).Ok := ⟨by have := hnum.1; show g.level < _; omega, by have := hnum.2.1; show g.err < _; omega, by have := hnum.2.2; show g.total < _; omega, HSL.out g hm⟩
    have hsn : s ≠ [] := by rintro rfl; cases hm
    have hgr := Group_any (gvOf g) hok (.slice Ai g.ins.length capi) (.slice Ao g.outs.length capo) (.slice Am g.moves.length capm) _ HOI.out.rd HOO.out.rd HOM.out.rd
    rw [gvOf_g hgood] at hgr
    have HGR : Hid (Calls Tryz.prog 32 #[.agg #[.int .i64 g.level, .slice Ai g.ins.length capi, .slice Ao g.outs.length capo, .slice Am g.moves.length capm, .int .i64 g.err, .int .i64 g.total, .bool g.neg, .string (bs g.mag)]] (w2.alloc (.cells #[.int .i64 g.level, .slice Ai g.ins.length capi, .slice Ao g.outs.length capo, .slice Am g.moves.length capm, .int .i64 g.err, .int .i64 g.total, .bool g.neg, .string (bs g.mag)] 68)) fun en w' => strR (if rightG g = true then groupB g else []) (w2.alloc (.cells #[.int .i64 g.level, .slice Ai g.ins.length capi, .slice Ao g.outs.length capo, .slice Am g.moves.length capm, .int .i64 g.err, .int .i64 g.total, .bool g.neg, .string (bs g.mag)] 68)) en w') := hgr
    clear HT HOP1 hu hm hA HX HU0 HX2 HU2 hat hgr hok hnum hmag hgood hom
    unfold grpC
    go_upto_region 2 with fail
    generalize w2.heap.size = tb at *
    generalize w2.alloc (.cells #[.int .i64 g.level, .slice Ai g.ins.length capi, .slice Ao g.outs.length capo, .slice Am g.moves.length capm, .int .i64 g.err, .int .i64 g.total, .bool g.neg, .string (bs g.mag)] 68) = w3 at *
    obtain ⟨_, ⟨f0, f1, f2, f3, f4, f5, f6, f7⟩⟩ := cellsF8 HXA.out
    obtain ⟨⟨g0, g1, g2, g3, g4, g5, g6, g7⟩, _⟩ := cellsF8 HTA.out
    by_cases hc : rightG g = true ∧ groupB g = s
    · have HTN : Hid (tgt = some g) := by show _ = _; rw [HTS.out]; exact if_pos hc
      obtain ⟨hc1, hc2⟩ := hc
      rw [if_pos hc1, hc2] at HGR
      clear HTS hc1 hc2
      go_wp2_with fail
      refine HGR.out.mono ?_
      rintro e w4 ⟨rfl, u4⟩
      have HX4 := Lib.hid (u4.heap HXA.out id)
      have HT4 := Lib.hid (u4.heap HTA.out id)
      have HOI4 := Lib.hid (HOI.out.upd u4)
      have HOO4 := Lib.hid (HOO.out.upd u4)
      have HOM4 := Lib.hid (HOM.out.upd u4)
      have HU4 := Lib.hid (HUA.out.trans u4)
      clear u4 f0 f1 f2 f3 f4 f5 f6 f7 g0 g1 g2 g3 g4 g5 g6 g7 HGR
      obtain ⟨_, ⟨f0, f1, f2, f3, f4, f5, f6, f7⟩⟩ := cellsF8 HX4.out
      obtain ⟨⟨g0, g1, g2, g3, g4, g5, g6, g7⟩, _⟩ := cellsF8 HT4.out
      go_wp2_with fail
      obtain ⟨hz, hset⟩ := set8 (y0 := .int .i64 g.level) (y1 := .slice Ai g.ins.length capi) (y2 := .slice Ao g.outs.length capo) (y3 := .slice Am g.moves.length capm) (y4 := .int .i64 g.err) (y5 := .int .i64 g.total) (y6 := .bool g.neg) (y7 := .string (bs g.mag)) HX4.out
      (try simp only [Exit.inBlock, Exit.then])
      refine bodyPost_ret (results_cell_tmp1 rfl _ rfl (load_group hz)) rfl ?_
      rw [HTN.out]
      have hs1 := HS1.out
      have hxb := HXB.out
      refine ⟨upd_newE HU4.out hset hxb, _, _, _, rfl, ⟨(HOI4.out.fresh hset hs1).mono (by omega), (HOO4.out.fresh hset hs1).mono (by omega), ?_⟩⟩
      rw [List.map_id]
      exact (HOM4.out.fresh hset hs1).mono (by omega)
    · have HTN : Hid (tgt = none) := by show _ = _; rw [HTS.out]; exact if_neg hc
      have hne : ((bs (if rightG g = true then groupB g else [])).toList == (bs s).toList) = false := by
        rw [beq_eq_false_iff_ne, bs_toList, bs_toList]
        by_cases h1 : rightG g = true
        · rw [if_pos h1]; exact fun e => hc ⟨h1, e⟩
        · rw [if_neg h1]; exact fun e => hsn e.symm
      clear HTS hc
      generalize (if rightG g = true then groupB g else []) = z at *
      go_wp2_with fail
      refine HGR.out.mono ?_
      rintro e w4 ⟨rfl, u4⟩
      have HX4 := Lib.hid (u4.heap HXA.out id)
      have HU4 := Lib.hid (HUA.out.trans u4)
      clear u4 f0 f1 f2 f3 f4 f5 f6 f7 g0 g1 g2 g3 g4 g5 g6 g7 HGR
      obtain ⟨_, ⟨f0, f1, f2, f3, f4, f5, f6, f7⟩⟩ := cellsF8 HX4.out
      go_wp2_with fail
      obtain ⟨hsx, hsu⟩ := same8 HX4.out
      (try simp only [Exit.inBlock, Exit.then])
      refine bodyPost_ret (results_cell_tmp1 rfl _ rfl (load_group hsx)) rfl ?_
      rw [HTN.out]
      exact ⟨HU4.out.trans hsu, rfl⟩
def natsB (l : Bytes) : List Nat := l.map (·.toNat)
theorem str_nats (l : Bytes) : str (natsB l) = bs l := by
  unfold str natsB bs
  rw [List.map_map]
  congr 2
  have : l.map (UInt8.ofNat ∘ fun x : UInt8 => x.toNat) = l.map id := List.map_congr_left (fun x _ => by simp)
  rw [this, List.map_id]
theorem natsB_lt (l : Bytes) : ∀ d, d ∈ natsB l → d < 256 := fun d hd => by
  obtain ⟨x, _, rfl⟩ := List.mem_map.1 hd
  exact x.toNat_lt
theorem open_head {l : Bytes} {T : List Tri} (h : openN (natsB l) = some T) : ∃ r, l = 1 :: r := by
  obtain ⟨h1, h2, _⟩ := openN_some h
  have h3 : clusterN T = 1 :: encode (bitsC (canon T)) := by unfold clusterN; rw [h2]; rfl
  rw [h3] at h1
  cases l with
  | nil => cases h1
  | cons x r =>
    have : 1 = x.toNat := (List.cons.inj h1).1
    exact ⟨r, by rw [show x = 1 from UInt8.toNat_inj.1 (by rw [← this]; rfl)]⟩
theorem grp_head {l : Bytes} {g : Grp} (h : grpR l = some g) : ∃ r, l = 2 :: r := by
  unfold grpR at h
  cases l with
  | nil => cases h
  | cons b r =>
    simp only at h
    split at h
    · cases h
    · rename_i hb
      exact ⟨r, by rw [show b = 2 from Classical.not_not.1 hb]⟩
theorem root_head {l : Bytes} {x : List Part} (h : rootR l = some x) : ∃ r, l = 3 :: r := by
  unfold rootR at h
  cases l with
  | nil => cases h
  | cons b r =>
    simp only at h
    split at h
    · cases h
    · rename_i hb
      exact ⟨r, by rw [show b = 3 from Classical.not_not.1 hb]⟩
theorem kinds4 (l : Bytes) : (openN (natsB l) = none ∧ grpR l = none ∧ rootR l = none) ∨ (∃ T, openN (natsB l) = some T ∧ grpR l = none ∧ rootR l = none ∧ l ≠ []) ∨ (∃ g, openN (natsB l) = none ∧ grpR l = some g ∧ rootR l = none ∧ l ≠ []) ∨ (∃ x, openN (natsB l) = none ∧ grpR l = none ∧ rootR l = some x ∧ l ≠ []) := by
  rcases h1 : openN (natsB l) with _ | T
  · rcases h2 : grpR l with _ | g
    · rcases h3 : rootR l with _ | x
      · exact .inl ⟨rfl, rfl, rfl⟩
      · obtain ⟨r, hr⟩ := root_head h3
        exact .inr (.inr (.inr ⟨x, rfl, rfl, rfl, by rw [hr]; simp⟩))
    · obtain ⟨r, hr⟩ := grp_head h2
      rcases h3 : rootR l with _ | x
      · exact .inr (.inr (.inl ⟨g, rfl, rfl, rfl, by rw [hr]; simp⟩))
      · obtain ⟨r2, hr2⟩ := root_head h3
        rw [hr] at hr2
        have := (List.cons.inj hr2).1
        exact absurd this (by decide)
  · obtain ⟨r, hr⟩ := open_head h1
    rcases h2 : grpR l with _ | g
    · rcases h3 : rootR l with _ | x
      · exact .inr (.inl ⟨T, rfl, rfl, rfl, by rw [hr]; simp⟩)
      · obtain ⟨r2, hr2⟩ := root_head h3
        rw [hr] at hr2
        have := (List.cons.inj hr2).1
        exact absurd this (by decide)
    · obtain ⟨r2, hr2⟩ := grp_head h2
      rw [hr] at hr2
      have := (List.cons.inj hr2).1
      exact absurd this (by decide)
/-- What is returned is what was read. -/
theorem grp_some {l : Bytes} {g : Grp} (h : grpR l = some g) : groupO l = some g ∧ rightG g = true ∧ groupB g = l := by
  rw [grpR_of] at h
  rcases hg : groupO l with _ | g'
  · rw [hg] at h; cases h
  · rw [hg] at h
    simp only at h
    split at h
    · rename_i hc
      cases h
      exact ⟨rfl, hc.1, hc.2⟩
    · cases h
theorem root_some {l : Bytes} {x : List Part} (h : rootR l = some x) : rootB x = l ∧ (∀ p, p ∈ x → goodPart p) ∧ x.length ≤ 65536 := by
  unfold rootR at h
  cases l with
  | nil => cases h
  | cons b r =>
    simp only at h
    split at h
    · cases h
    · rcases hm : manyR partR r with _ | ⟨y, r2⟩
      · rw [hm] at h; cases h
      · rw [hm] at h
        simp only at h
        split at h
        · rename_i he
          cases h
          obtain ⟨h1, h2⟩ := manyR_all (fun s x r e => (partR_good e).1) hm
          exact ⟨he, h1, h2⟩
        · cases h
/-- A group's record may be long only where the first byte says so. -/
def shortG (l : Bytes) : Prop := ∀ g, groupO l = some g → g.mag.length ≤ 1152921504606846976
theorem shortG_len {l : Bytes} (h : l.length ≤ 1152921504606846976) : shortG l := fun _ hg => Nat.le_trans (groupO_good hg).2.2 h
theorem shortG_head {l : Bytes} {b : UInt8} {r : Bytes} (h : l = b :: r) (hb : b ≠ 2) : shortG l := fun _ hg => by
  exfalso
  subst h
  unfold groupO kindM at hg
  have hn : ¬ b.toNat = 2 := fun e => hb (UInt8.toNat_inj.1 (by rw [e]; rfl))
  simp only [if_neg hn] at hg
  cases hg
theorem shortG_nil : shortG [] := shortG_len (by decide)
end Go.Proofs.YtcikldoaidmnhaaGreatDoor
namespace Go.Proofs.YtcikldoaidmnhaaGreatDoor
open Go Go.RowKit Pk
theorem p32_plain (l : List P32) : (l.map plainP).map p32 = l := by
  rw [List.map_map]
  have : l.map (p32 ∘ plainP) = l.map id := List.map_congr_left (fun p _ => by
    show (h32 p.1.1, h32 p.2.1) = p
    rw [h32_mk p.1.2, h32_mk p.2.2])
  rw [this, List.map_id]
theorem good_plain (l : List P32) : ∀ p, p ∈ l.map plainP → goodPart p := fun p hp => by
  obtain ⟨x, _, rfl⟩ := List.mem_map.1 hp
  exact ⟨x.1.2, x.2.2⟩
end Go.Proofs.YtcikldoaidmnhaaGreatDoor
namespace Go.Proofs.YtcikldoaidmnhaaGreatDoor
open Go Go.RowKit Pk
set_option maxRecDepth 100000
theorem hash_plain (l : List H32) : (l.map (·.1)).map h32 = l := by
  rw [List.map_map]
  have : l.map (h32 ∘ (fun p : H32 => p.1)) = l.map id := List.map_congr_left (fun p _ => h32_mk p.2)
  rw [this, List.map_id]
theorem GV.good (y : GV) : goodG y.g := ⟨fun p hp => good_plain y.ins p hp, fun h hh => by
  obtain ⟨p, _, rfl⟩ := List.mem_map.1 hh
  exact p.2⟩
theorem FV.gv_ok {x : FV} (h : x.Ok) : x.gv.Ok ∧ x.gv.ins.length ≤ 10 ∧ x.gv.outs.length ≤ 10 ∧ x.gv.moves.length ≤ 10 ∧ x.gv.mag.length ≤ 40 := by
  have hm : x.gv.mag.length ≤ 40 := by show (x.mag.take 40).length ≤ 40; rw [List.length_take]; omega
  refine ⟨⟨?_, ?_, ?_, by omega⟩, ?_, ?_, ?_, hm⟩
  · show x.level < _; have := h.level; omega
  · show x.err < _; have := h.err; omega
  · show x.total < _; have := h.total; omega
  · show ((x.ins.take 10).map partOf).length ≤ 10; rw [List.length_map, List.length_take]; omega
  · show (((x.outs.take 10).map partOf).map (·.1)).length ≤ 10; rw [List.length_map, List.length_map, List.length_take]; omega
  · show ((x.moves.take 10).map moveOf).length ≤ 10; rw [List.length_map, List.length_take]; omega
theorem GV.back {y : GV} (hy : y.Ok) (hm : y.mag.length ≤ 40) (hr : rightG y.g = true) : grpR (groupB y.g) = some y.g :=
  group_back hr y.good ⟨by have h : y.level < 9223372036854775808 := hy.level; show y.level ≤ _; omega, by have h : y.err < 9223372036854775808 := hy.err; show y.err ≤ _; omega, by have h : y.total < 9223372036854775808 := hy.total; show y.total ≤ _; omega⟩ (by show y.mag.length < _; omega)
theorem flat_le {α : Type} (f : α → Bytes) (b : Nat) : ∀ l : List α, (∀ x, x ∈ l → (f x).length ≤ b) → (l.flatMap f).length ≤ l.length * b
  | [], _ => by simp
  | x :: l, h => by
    have h1 := h x (by simp)
    have h2 := flat_le f b l (fun y hy => h y (List.mem_cons_of_mem _ hy))
    rw [List.flatMap_cons, List.length_append, List.length_cons, Nat.add_mul]
    omega
theorem groupB_len {y : GV} (hy : y.Ok) (hr : rightG y.g = true) (hl : y.ins.length ≤ 10 ∧ y.outs.length ≤ 10 ∧ y.moves.length ≤ 10 ∧ y.mag.length ≤ 40) : (groupB y.g).length ≤ 10000 := by
  obtain ⟨l1, l2, l3, l4⟩ := hl
  obtain ⟨_, _, hm⟩ := right_parts hr
  have e1 : (digB y.level.toNat).length ≤ 10 := digB_ten (by have h : y.level < 9223372036854775808 := hy.level; omega)
  have e2 : (digB y.err.toNat).length ≤ 10 := digB_ten (by have h : y.err < 9223372036854775808 := hy.err; omega)
  have e3 : (digB y.total.toNat).length ≤ 10 := digB_ten (by have h : y.total < 9223372036854775808 := hy.total; omega)
  have e4 : (digB y.outs.length).length ≤ 10 := digB_ten (by omega)
  have e5 : (digB y.moves.length).length ≤ 10 := digB_ten (by omega)
  have e6 : (digB (sizeG y.g)).length ≤ 10 := digB_ten (by unfold sizeG; show 2 * y.mag.length + _ < _; split <;> omega)
  have e7 := partsB_len y.ins (by omega)
  have e8 : ((y.outs.map (·.1)).flatten).length ≤ 320 := by
    rw [flatten_flatMap]
    have := flat_le id 32 (y.outs.map (·.1)) (fun h hh => by obtain ⟨p, _, rfl⟩ := List.mem_map.1 hh; exact Nat.le_of_eq p.2)
    rw [List.length_map] at this
    omega
  have e9 : (y.moves.flatMap (fun m => (coordsM m).flatMap (fun n => digB n.toNat))).length ≤ 600 := by
    have h2 := flat_le (fun m : Mv => (coordsM m).flatMap (fun n => digB n.toNat)) 60 y.moves (fun m hm2 => by
      have h3 := flat_le (fun n : Int => digB n.toNat) 10 (coordsM m) (fun n hn => digB_ten (by
        have h4 := List.all_eq_true.1 (List.all_eq_true.1 hm m hm2) n hn
        unfold insideC at h4
        have h5 := of_decide_eq_true h4
        omega))
      have h6 : (coordsM m).length = 6 := rfl
      rw [h6] at h3
      exact h3)
    exact Nat.le_trans h2 (Nat.le_trans (Nat.mul_le_mul_right _ l3) (by decide))
  have hg : groupB y.g = 2 :: (digB y.level.toNat ++ partsB (y.ins.map plainP) ++ (digB (y.outs.map (·.1)).length ++ (y.outs.map (·.1)).flatten) ++ (digB y.moves.length ++ y.moves.flatMap (fun m => (coordsM m).flatMap (fun n => digB n.toNat))) ++ digB y.err.toNat ++ digB y.total.toNat ++ digB (sizeG y.g) ++ y.mag) := rfl
  rw [hg, List.length_map]
  simp only [List.length_cons, List.length_append]
  omega
theorem grpC_g (y : GV) (a b c : Value) : grpC y.g a b c = #[.int .i64 y.level, a, b, c, .int .i64 y.err, .int .i64 y.total, .bool y.neg, .string (bs y.mag)] := rfl
end Go.Proofs.YtcikldoaidmnhaaGreatDoor
namespace Go.Proofs.YtcikldoaidmnhaaGreatDoor
open Go Go.RowKit
section
variable {P : Program} {ops : Array Oper} {md : Region.Mode} {C : World → Prop} {Q : Exit → Act → World → Prop}
theorem wpAnyG_firstF {n i : Nat} {oi : Oper} {v : Value} {L : Array Bool → Act → World → Prop} (hi : ops[i]? = some oi) (hsel : ∀ (j : Nat) (o : Oper) cs b, ops[j]? = some o → o.op ≠ .select cs b)
    (hQ : ∀ c a w, Q (.panic c) (a.put oi.dst v) w → Q (.panic c) a w)
    (hn : n = ops.size) (hin : i < n)
    (hdone : ∀ listed a w, L listed a w → ∀ j ∈ Region.ready md ops listed, n ≤ j) :
    ∀ (f : Nat) (listed : Array Bool) (a : Act) (w : World), HeadInv md ops n listed → C w →
      (∀ j oj, ops[j]? = some oj → j ≠ i → listed.getD j true = false → (∀ e ∈ oj.after, Region.binds md e = true → e.on ≠ i) → oi.apart ops oj = true) →
      i ∈ Region.ready md ops listed → Sure P ops C oi v a →
      wpAnyG P md ops Q C n L f (listed.setIfInBounds i true) (a.put oi.dst v) w → wpAnyG P md ops Q C n L (f + 1) listed a w := by
  intro f
  induction f with
  | zero =>
    intro listed a w inv hC _ hr hy H
    have hun := (mem_ready.1 hr).1
    refine ⟨fun h => (by rw [h] at hr; cases hr), fun j hj => ?_⟩
    have hjn : j < n := by
      obtain ⟨_, ojn, hojn, _⟩ := mem_ready.1 hj
      have := (Array.getElem?_eq_some_iff.1 hojn).1
      omega
    refine ⟨hjn, ?_⟩
    by_cases hji : j = i
    · subst hji; exact hy.wpOp hi hC ⟨hC, H⟩
    · have := hdone _ _ _ H j (ready_mono hj hji)
      omega
  | succ f ih =>
    intro listed a w inv hC hfree hr hy H
    have hun := (mem_ready.1 hr).1
    refine ⟨fun h => (by rw [h] at hr; cases hr), fun j hj => ?_⟩
    have hjn : j < n := by
      obtain ⟨_, ojn, hojn, _⟩ := mem_ready.1 hj
      have := (Array.getElem?_eq_some_iff.1 hojn).1
      omega
    refine ⟨hjn, ?_⟩
    by_cases hji : j = i
    · subst hji; exact hy.wpOp hi hC ⟨hC, H⟩
    · have h1 := (H.2 j (ready_mono hj hji)).2
      obtain ⟨hjun, oj, hoj, hall⟩ := mem_ready.1 hj
      have hnot : ∀ e ∈ oj.after, Region.binds md e = true → e.on ≠ i := fun e he hb heq => by
        have h1 := hall e he hb
        rw [heq, getD_both hun] at h1
        cases h1
      have h2 := wpOp_putSure hoj (hfree j oj hoj hji hjun hnot) (fun cs b => hsel i oi cs b hi) (fun cs b => hsel j oj cs b hoj) hQ hy h1
      have hfree' : ∀ k ok, ops[k]? = some ok → k ≠ i → (listed.setIfInBounds j true).getD k true = false →
          (∀ e ∈ ok.after, Region.binds md e = true → e.on ≠ i) → oi.apart ops ok = true := fun k ok hk hki hun hno => by
        refine hfree k ok hk hki ?_ hno
        by_cases hjk : j = k
        · subst hjk; exact hjun
        · rw [getD_set_ne true hjk] at hun; exact hun
      refine wpOp_mono (fun a' w' h3 => ⟨h3.2.1, ih (listed.setIfInBounds j true) a' w' (inv.set hj hjn) h3.2.1 hfree' (ready_mono hr (Ne.symm hji)) h3.1 ?_⟩) h2
      rw [Array.setIfInBounds_comm _ _ hji]
      exact h3.2.2

theorem wpAnyG_treeF {n : Nat} {Lq : Act → World → Prop} (hsel : Region.noSelect ops = true) (hQ : ∀ c a d v w, Q (.panic c) (Act.put a d v) w → Q (.panic c) a w)
    (hn : n = ops.size) :
    ∀ (f : Nat) (t : OT) (C : World → Prop) (listed : Array Bool) (a : Act) (w : World), C w → HeadInv md ops n listed → treeB md ops n f t listed = true → wpT P ops Q Lq t C a w →
    wpAnyG P md ops Q C n (fun listed' a' w' => Region.seqB md ops (ops.size - n) n listed' = true ∧ Lq a' w') f listed a w
  | 0, .nil, C, listed, a, w, _, inv, hB, h => ⟨by simpa [treeB] using hB, h⟩
  | f + 1, .sure i r, C, listed, a, w, hC, inv, hB, h => by
    obtain ⟨o, v, h0, hy, hK⟩ := h
    simp only [treeB, Bool.and_eq_true, decide_eq_true_eq] at hB
    obtain ⟨⟨⟨hin, hr⟩, hf⟩, hB'⟩ := hB
    have hr' : i ∈ Region.ready md ops listed := by simpa using hr
    exact wpAnyG_firstF h0 (Region.noSelect_spec hsel) (fun c a w => hQ c a _ _ w) hn hin (fun listed' a' w' hL => fun j hj => by
      have h1 := hL.1
      rw [hn, Nat.sub_self] at h1
      simp only [Region.seqB, List.isEmpty_iff] at h1
      rw [h1] at hj; cases hj) f listed a w inv hC (Region.free_spec h0 hf) hr' hy
      (wpAnyG_treeF hsel hQ hn f r C _ _ w hC (inv.set hr' hin) hB' hK)
  | f + 1, .run i r, C, listed, a, w, hC, inv, hB, h => by
    obtain ⟨C', hCC, h⟩ := h
    simp only [treeB, Bool.and_eq_true, decide_eq_true_eq] at hB
    obtain ⟨⟨hin, hr⟩, hB'⟩ := hB
    have hr' : i ∈ Region.ready md ops listed := by rw [hr]; simp
    refine ⟨fun h0 => (by rw [h0] at hr; cases hr), fun j hj => ?_⟩
    rw [hr] at hj
    obtain rfl : j = i := by simpa using hj
    exact ⟨hin, wpOp_mono (fun a' w' h' => ⟨hCC _ h'.1, wpAnyG_mono hCC f _ _ _ (wpAnyG_treeF hsel hQ hn f r C' _ a' w' h'.1 (inv.set hr' hin) hB' h'.2)⟩) h⟩
  | f + 1, .fork i ri j rj, C, listed, a, w, hC, inv, hB, h => by
    obtain ⟨⟨C1, hC1, h1⟩, ⟨C2, hC2, h2⟩⟩ := h
    simp only [treeB, Bool.and_eq_true, decide_eq_true_eq] at hB
    obtain ⟨⟨⟨⟨hin, hjn⟩, hr⟩, hB1⟩, hB2⟩ := hB
    have hri : i ∈ Region.ready md ops listed := by rw [hr]; simp
    have hrj : j ∈ Region.ready md ops listed := by rw [hr]; simp
    refine ⟨fun h0 => (by rw [h0] at hr; cases hr), fun k hk => ?_⟩
    rw [hr] at hk
    rcases (by simpa using hk : k = i ∨ k = j) with rfl | rfl
    · exact ⟨hin, wpOp_mono (fun a' w' h' => ⟨hC1 _ h'.1, wpAnyG_mono hC1 f _ _ _ (wpAnyG_treeF hsel hQ hn f ri C1 _ a' w' h'.1 (inv.set hri hin) hB1 h'.2)⟩) h1⟩
    · exact ⟨hjn, wpOp_mono (fun a' w' h' => ⟨hC2 _ h'.1, wpAnyG_mono hC2 f _ _ _ (wpAnyG_treeF hsel hQ hn f rj C2 _ a' w' h'.1 (inv.set hrj hjn) hB2 h'.2)⟩) h2⟩
  | 0, .sure _ _, _, _, _, _, _, _, hB, _ => by simp [treeB] at hB
  | 0, .run _ _, _, _, _, _, _, _, hB, _ => by simp [treeB] at hB
  | 0, .fork _ _ _ _, _, _, _, _, _, _, hB, _ => by simp [treeB] at hB
  | _ + 1, .nil, _, _, _, _, _, _, hB, _ => by simp [treeB] at hB
def treeFullB (md : Region.Mode) (ops : Array Oper) (n : Nat) (t : OT) : Bool :=
  Region.noSelect ops && decide (n = ops.size) && treeB md ops n n t (Array.replicate ops.size false)
/-- The law. -/
theorem wp_region_full {id : Nat} {a : Act} {w : World} {l : List Oper} (n : Nat) (t : OT) (C : World → Prop) (hm : P.follows .mixedOrders = true) (hB : treeFullB .any l.toArray n t = true)
    (hQ : ∀ c a d v w, Q (.panic c) (Act.put a d v) w → Q (.panic c) a w) (hC : C w.drew)
    (h : wpT P l.toArray Q (fun a' w' => wpList P l.toArray Q [] a' w') t C a w.drew) : (Code.region id l.toArray true).wp P Q a w := by
  simp only [treeFullB, Bool.and_eq_true, decide_eq_true_eq] at hB
  obtain ⟨⟨hsel, hn⟩, hlex⟩ := hB
  have inv0 : HeadInv .any l.toArray n (Array.replicate l.toArray.size false) :=
    ⟨by simp, fun j oj _ hl => (by rw [getD_replicate_false] at hl; cases hl), fun t _ ht => getD_in (by simpa using ht) (getD_replicate_false _ _)⟩
  have H := wpAnyG_treeF (md := .any) hsel hQ hn n t C _ a w.drew hC inv0 hlex h
  refine wp_region_any hm ?_
  have := wpAny_of_G (g := 0) (fun listed a' w' hL => by
    have h1 := hL.1
    rw [hn, Nat.sub_self] at h1
    exact wpAny_of_seq (md := .any) (Q' := Q) [] n listed a' w' (fun j => by
      rw [hn]; symm
      simp) h1 hL.2) _ _ _ _ H
  rw [Nat.add_zero, hn] at this
  exact this
end
end Go.Proofs.YtcikldoaidmnhaaGreatDoor
