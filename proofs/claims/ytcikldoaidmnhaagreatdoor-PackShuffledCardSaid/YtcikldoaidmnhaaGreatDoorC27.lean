/- Walks of the packets' program: OpenGroup. No condition. The examples of the document: every law of the packets begins with them. No condition. -/
import Derived.Test.YtcikldoaidmnhaaGreatDoorC26
import Derived.Test.YtcikldoaidmnhaaGreatDoorC11
import Derived.Test.YtcikldoaidmnhaaGreatDoorC21
namespace Go.Proofs.YtcikldoaidmnhaaGreatDoor
open Go Go.RowKit Pk Pc
set_option maxRecDepth 100000
theorem listR_len {α : Type} {one : Bytes → Option (α × Bytes)} (h : ∀ s x r, one s = some (x, r) → r.length ≤ s.length) : ∀ (k : Nat) (s : Bytes) (l : List α) (r : Bytes), listR one k s = some (l, r) → r.length ≤ s.length
  | 0, s, l, r, e => by cases e; exact Nat.le_refl _
  | k + 1, s, l, r, e => by
    rw [listR_step] at e
    rcases hm : one s with _ | ⟨x, r1⟩
    · rw [hm] at e; cases e
    · rw [hm] at e
      simp only at e
      rcases hm2 : listR one k r1 with _ | ⟨l2, r2⟩
      · rw [hm2] at e; cases e
      · rw [hm2] at e
        cases e
        exact Nat.le_trans (listR_len h k _ _ _ hm2) (h _ _ _ hm)
theorem manyR_len {α : Type} {one : Bytes → Option (α × Bytes)} (h : ∀ s x r, one s = some (x, r) → r.length ≤ s.length) {s : Bytes} {l : List α} {r : Bytes} (e : manyR one s = some (l, r)) : r.length ≤ s.length := by
  unfold manyR at e
  rcases hm : readNum s with _ | ⟨n, r1⟩
  · rw [hm] at e; cases e
  · rw [hm] at e
    simp only at e
    split at e
    · cases e
    · exact Nat.le_trans (listR_len h _ _ _ _ e) (Nat.le_of_lt (readNum_len hm))
theorem moveR_len (s : Bytes) (x : Mv) (r : Bytes) (h : moveR s = some (x, r)) : r.length ≤ s.length := by
  unfold moveR at h
  split at h
  · rename_i hm
    cases h
    exact listR_len (fun s x r h => Nat.le_of_lt (readNum_len h)) _ _ _ _ hm
  · cases h
theorem grpF_len {s : Bytes} {g : Grp} {size : Nat} (h : grpF s = some (g, size)) : g.mag.length ≤ s.length := by
  unfold grpF at h
  split at h
  · cases h
  · rename_i h1
    split at h
    · cases h
    · rename_i h2
      split at h
      · cases h
      · rename_i h3
        split at h
        · cases h
        · rename_i h4
          split at h
          · cases h
          · rename_i h5
            split at h
            · cases h
            · rename_i h6
              split at h
              · cases h
              · rename_i sz s7 h7
                obtain ⟨rfl, rfl⟩ := Prod.mk.inj (Option.some.inj h)
                have a1 := readNum_len h1
                have a2 := manyR_len (fun s x r h => Nat.le_of_lt (partR_good h).2) h2
                have a3 := manyR_len (fun s x r h => by have := (takeR_len h).2; omega) h3
                have a4 := manyR_len moveR_len h4
                have a5 := readNum_len h5
                have a6 := readNum_len h6
                have a7 := readNum_len h7
                show s7.length ≤ s.length
                omega
def gvOf (g : Grp) : GV := ⟨g.level, g.ins.map p32, g.outs.map h32, g.moves, g.err, g.total, g.neg, g.mag⟩
theorem gvOf_g {g : Grp} (h : goodG g) : (gvOf g).g = g := by
  obtain ⟨lv, ins, outs, moves, er, tot, neg, mag⟩ := g
  unfold gvOf GV.g
  simp only
  rw [plain_map h.1]
  have e : (outs.map h32).map (·.1) = outs := by
    rw [List.map_map]
    have : outs.map ((fun x : H32 => x.1) ∘ h32) = outs.map id := List.map_congr_left (fun p hp => h32_len (h.2 p hp))
    rw [this, List.map_id]
  rw [e]
theorem groupO_good {s : Bytes} {g : Grp} (h : groupO s = some g) : goodG g ∧ (g.level ≤ 9223372036854775807 ∧ g.err ≤ 9223372036854775807 ∧ g.total ≤ 9223372036854775807) ∧ g.mag.length ≤ s.length := by
  unfold groupO at h
  rcases hk : kindM 2 s with _ | r
  · rw [hk] at h; cases h
  · rw [hk] at h
    simp only at h
    have hr : r.length ≤ s.length := by
      unfold kindM at hk
      split at hk
      · cases hk
      · split at hk
        · cases hk; simp
        · cases hk
    rcases hf : grpF r with _ | ⟨g', size⟩
    · rw [hf] at h; cases h
    · rw [hf] at h
      simp only at h
      rcases ht : takeR (size / 2) g'.mag with _ | ⟨m, r2⟩
      · rw [ht] at h; cases h
      · rw [ht] at h
        cases h
        obtain ⟨h1, h2, _⟩ := grpF_good hf
        have h3 := grpF_len hf
        have h4 := takeR_len ht
        refine ⟨h1, h2, ?_⟩
        show m.length ≤ _
        omega
theorem grpR_of (s : Bytes) : grpR s = match groupO s with
    | none => none
    | some g => if rightG g = true ∧ groupB g = s then some g else none := by
  unfold grpR groupO kindM
  cases s with
  | nil => rfl
  | cons c r =>
    have hc : c.toNat = 2 ↔ c = 2 := ⟨fun h => UInt8.toNat_inj.1 (by rw [h]; rfl), fun h => by rw [h]; rfl⟩
    by_cases h : c = 2
    · subst h
      simp only [ne_eq, not_true_eq_false, if_false]
      rw [if_pos (by decide)]
      simp only
      rcases grpF r with _ | ⟨g, size⟩
      · rfl
      · simp only
        by_cases hm : g.mag.length < size / 2
        · rw [if_pos hm, takeR_short hm]
        · rw [if_neg hm, takeR_good hm]
    · have h2 : ¬ c.toNat = 2 := fun e => h (hc.1 e)
      simp only [ne_eq, h, not_false_eq_true, if_true, if_neg h2]
set_option maxHeartbeats 2000000 in
theorem set8 {w : World} {xb : Nat} {c0 c1 c2 c3 c4 c5 c6 c7 y0 y1 y2 y3 y4 y5 y6 y7 : Value} {t : TypeId} (h : w.heap[xb]? = some (.cells #[c0, c1, c2, c3, c4, c5, c6, c7] t (0, 0))) :
    ((((((((w.setCell ⟨xb, 0, none⟩ y0).setCell ⟨xb, 1, none⟩ y1).setCell ⟨xb, 2, none⟩ y2).setCell ⟨xb, 3, none⟩ y3).setCell ⟨xb, 4, none⟩ y4).setCell ⟨xb, 5, none⟩ y5).setCell ⟨xb, 6, none⟩ y6).setCell ⟨xb, 7, none⟩ y7).heap[xb]? = some (.cells #[y0, y1, y2, y3, y4, y5, y6, y7] t (0, 0)) ∧ Upd (fun k => k = xb) w ((((((((w.setCell ⟨xb, 0, none⟩ y0).setCell ⟨xb, 1, none⟩ y1).setCell ⟨xb, 2, none⟩ y2).setCell ⟨xb, 3, none⟩ y3).setCell ⟨xb, 4, none⟩ y4).setCell ⟨xb, 5, none⟩ y5).setCell ⟨xb, 6, none⟩ y6).setCell ⟨xb, 7, none⟩ y7) := by
  have h0 : (w.setCell ⟨xb, 0, none⟩ y0).heap[xb]? = some (.cells #[y0, c1, c2, c3, c4, c5, c6, c7] t (0, 0)) := heap_setCell_eq (i := 0) y0 h
  have h1 : ((w.setCell ⟨xb, 0, none⟩ y0).setCell ⟨xb, 1, none⟩ y1).heap[xb]? = some (.cells #[y0, y1, c2, c3, c4, c5, c6, c7] t (0, 0)) := heap_setCell_eq (i := 1) y1 h0
  have h2 : (((w.setCell ⟨xb, 0, none⟩ y0).setCell ⟨xb, 1, none⟩ y1).setCell ⟨xb, 2, none⟩ y2).heap[xb]? = some (.cells #[y0, y1, y2, c3, c4, c5, c6, c7] t (0, 0)) := heap_setCell_eq (i := 2) y2 h1
  have h3 : ((((w.setCell ⟨xb, 0, none⟩ y0).setCell ⟨xb, 1, none⟩ y1).setCell ⟨xb, 2, none⟩ y2).setCell ⟨xb, 3, none⟩ y3).heap[xb]? = some (.cells #[y0, y1, y2, y3, c4, c5, c6, c7] t (0, 0)) := heap_setCell_eq (i := 3) y3 h2
  have h4 : (((((w.setCell ⟨xb, 0, none⟩ y0).setCell ⟨xb, 1, none⟩ y1).setCell ⟨xb, 2, none⟩ y2).setCell ⟨xb, 3, none⟩ y3).setCell ⟨xb, 4, none⟩ y4).heap[xb]? = some (.cells #[y0, y1, y2, y3, y4, c5, c6, c7] t (0, 0)) := heap_setCell_eq (i := 4) y4 h3
  have h5 : ((((((w.setCell ⟨xb, 0, none⟩ y0).setCell ⟨xb, 1, none⟩ y1).setCell ⟨xb, 2, none⟩ y2).setCell ⟨xb, 3, none⟩ y3).setCell ⟨xb, 4, none⟩ y4).setCell ⟨xb, 5, none⟩ y5).heap[xb]? = some (.cells #[y0, y1, y2, y3, y4, y5, c6, c7] t (0, 0)) := heap_setCell_eq (i := 5) y5 h4
  have h6 : (((((((w.setCell ⟨xb, 0, none⟩ y0).setCell ⟨xb, 1, none⟩ y1).setCell ⟨xb, 2, none⟩ y2).setCell ⟨xb, 3, none⟩ y3).setCell ⟨xb, 4, none⟩ y4).setCell ⟨xb, 5, none⟩ y5).setCell ⟨xb, 6, none⟩ y6).heap[xb]? = some (.cells #[y0, y1, y2, y3, y4, y5, y6, c7] t (0, 0)) := heap_setCell_eq (i := 6) y6 h5
  have h7 : ((((((((w.setCell ⟨xb, 0, none⟩ y0).setCell ⟨xb, 1, none⟩ y1).setCell ⟨xb, 2, none⟩ y2).setCell ⟨xb, 3, none⟩ y3).setCell ⟨xb, 4, none⟩ y4).setCell ⟨xb, 5, none⟩ y5).setCell ⟨xb, 6, none⟩ y6).setCell ⟨xb, 7, none⟩ y7).heap[xb]? = some (.cells #[y0, y1, y2, y3, y4, y5, y6, y7] t (0, 0)) := heap_setCell_eq (i := 7) y7 h6
  exact ⟨h7, (((((((((Upd.refl (fun k => k = xb) w).setCell (p := ⟨xb, 0, none⟩) (fun _ => rfl) y0).setCell (p := ⟨xb, 1, none⟩) (fun _ => rfl) y1).setCell (p := ⟨xb, 2, none⟩) (fun _ => rfl) y2).setCell (p := ⟨xb, 3, none⟩) (fun _ => rfl) y3).setCell (p := ⟨xb, 4, none⟩) (fun _ => rfl) y4).setCell (p := ⟨xb, 5, none⟩) (fun _ => rfl) y5).setCell (p := ⟨xb, 6, none⟩) (fun _ => rfl) y6).setCell (p := ⟨xb, 7, none⟩) (fun _ => rfl) y7)⟩
def groupP (o : Option Grp) (w : World) (en : Ending) (w' : World) : Prop := Upd noBlk w w' ∧ match o with
  | some g => ∃ vi vo vm, en = .returned (.tuple #[.agg (grpC g vi vo vm), .int .i64 0]) ∧ GrpAt w.heap.size w' g vi vo vm
  | none => en = .returned (.tuple #[.agg #[.int .i64 0, .slice none 0 0, .slice none 0 0, .slice none 0 0, .int .i64 0, .int .i64 0, .bool false, .string ⟨#[]⟩], .int .i64 13])
set_option maxHeartbeats 4000000 in
theorem OpenGroup_any (s : Bytes) (hs : s.length ≤ 1152921504606846976) (w : World) :
    Calls Tryz.prog 35 #[.string (bs s)] w fun en w' => groupP (grpR s) w en w' := by
  have HOP := fun W => Lib.hid (openGroup_any s W)
  obtain ⟨tgt, htgt⟩ : ∃ t, t = grpR s := ⟨_, rfl⟩
  rw [← htgt]
  have HT := Lib.hid htgt
  have HSL : Hid (s.length ≤ 1152921504606846976) := hs
  clear htgt hs
  have HX : Hid ((w.alloc (.cells #[.int .i64 0, .slice none 0 0, .slice none 0 0, .slice none 0 0, .int .i64 0, .int .i64 0, .bool false, .string ⟨#[]⟩] 68)).heap[w.heap.size]? = some (.cells #[.int .i64 0, .slice none 0 0, .slice none 0 0, .slice none 0 0, .int .i64 0, .int .i64 0, .bool false, .string ⟨#[]⟩] 68 (0, 0))) := heap_alloc_new w _
  have HU0 : Hid (Upd noBlk w (w.alloc (.cells #[.int .i64 0, .slice none 0 0, .slice none 0 0, .slice none 0 0, .int .i64 0, .int .i64 0, .bool false, .string ⟨#[]⟩] 68))) := (Upd.refl _ w).alloc _
  go_enter Tryz.func35, Tryz.ntmps35
  go_upto_region 1 with fail
  obtain ⟨xb, hxb⟩ : ∃ xb, xb = w.heap.size := ⟨_, rfl⟩
  have HXB : Hid (w.heap.size ≤ xb) := by show _ ≤ _; omega
  rw [← hxb] at HX
  rw [← hxb]
  clear hxb
  generalize w.alloc (.cells #[.int .i64 0, .slice none 0 0, .slice none 0 0, .slice none 0 0, .int .i64 0, .int .i64 0, .bool false, .string ⟨#[]⟩] 68) = w1 at *
  have HOP1 := HOP w1
  clear HOP
  go_wp2_with fail
  refine HOP1.out.mono ?_
  rintro e w2 ⟨hu, hv⟩
  have HU2 := Lib.hid (HU0.out.trans hu)
  have HX2 := Lib.hid (hu.heap HX.out id)
  rcases hm : groupO s with _ | g
  · rw [hm] at hv
    obtain ⟨c, rfl, hc8, hc1⟩ := hv
    have HTN : Hid (tgt = none) := by show _ = _; rw [HT.out, grpR_of, hm]
    obtain ⟨W, hst, _, hw⟩ := store_row (P := Tryz.prog) (heap_alloc_new w2 (.cells #[.int .i64 0, .slice none 0 0, .slice none 0 0, .slice none 0 0, .int .i64 0, .int .i64 0, .bool false, .string ⟨#[]⟩] 68)) (vs := c) (by rw [hc8]; rfl) hc1
    have HWX := Lib.hid (hw.heap (((Upd.refl noBlk w2).alloc (.cells #[.int .i64 0, .slice none 0 0, .slice none 0 0, .slice none 0 0, .int .i64 0, .int .i64 0, .bool false, .string ⟨#[]⟩] 68)).heap HX2.out id) (by have := lt_of_heap HX2.out; omega))
    have HWU := Lib.hid (upd_newE (HU2.out.alloc (.cells #[.int .i64 0, .slice none 0 0, .slice none 0 0, .slice none 0 0, .int .i64 0, .int .i64 0, .bool false, .string ⟨#[]⟩] 68)) hw (Nat.le_trans HU2.out.size (Nat.le_refl _)))
    clear HT HOP1 hu hm HX HU0 hw HX2 HU2 hc1
    obtain ⟨_, ⟨f0, f1, f2, f3, f4, f5, f6, f7⟩⟩ := cellsF8 HWX.out
    go_wp2_with fail
    obtain ⟨hsx, hsu⟩ := same8 HWX.out
    (try simp only [Exit.inBlock, Exit.then])
    refine bodyPost_ret (results_cell_tmp1 rfl _ rfl (load_group hsx)) rfl ?_
    rw [HTN.out]
    exact ⟨HWU.out.trans hsu, rfl⟩
  · rw [hm] at hv
    obtain ⟨vi, vo, vm, rfl, hat⟩ := hv
    have HTS : Hid (tgt = if rightG g = true ∧ groupB g = s then some g else none) := by show _ = _; rw [HT.out, grpR_of, hm]
    obtain ⟨hgood, hnum, hmag⟩ := groupO_good hm
    obtain ⟨Ai, capi, hvi, _⟩ := hat.ins.form
    obtain ⟨Ao, capo, hvo, _⟩ := hat.outs.form
    obtain ⟨Am, capm, hvm, _⟩ := hat.moves.form
    rw [List.length_map] at hvi hvo hvm
    subst hvi hvo hvm
    have hA : Upd noBlk w2 (w2.alloc (.cells #[.int .i64 g.level, .slice Ai g.ins.length capi, .slice Ao g.outs.length capo, .slice Am g.moves.length capm, .int .i64 g.err, .int .i64 g.total, .bool g.neg, .string (bs g.mag)] 68)) := (Upd.refl _ w2).alloc _
    have HOI := Lib.hid (hat.ins.upd hA)
    have HOO := Lib.hid (hat.outs.upd hA)
    have hom := hat.moves.upd hA
    rw [List.map_id] at hom
    have HOM := Lib.hid hom
    have HXA := Lib.hid (hA.heap HX2.out id)
    have HTA : Hid ((w2.alloc (.cells #[.int .i64 g.level, .slice Ai g.ins.length capi, .slice Ao g.outs.length capo, .slice Am g.moves.length capm, .int .i64 g.err, .int .i64 g.total, .bool g.neg, .string (bs g.mag)] 68)).heap[w2.heap.size]? = some (.cells #[.int .i64 g.level, .slice Ai g.ins.length capi, .slice Ao g.outs.length capo, .slice Am g.moves.length capm, .int .i64 g.err, .int .i64 g.total, .bool g.neg, .string (bs g.mag)] 68 (0, 0))) := heap_alloc_new w2 _
    have HUA := Lib.hid (HU2.out.trans hA)
    have HS1 : Hid (xb < w1.heap.size) := lt_of_heap HX.out
    have hok : (gvOf g).Ok := ⟨by have := hnum.1; show g.level < _; omega, by have := hnum.2.1; show g.err < _; omega, by have := hnum.2.2; show g.total < _; omega, by have := HSL.out; show g.mag.length ≤ _; omega⟩
    have hsn : s ≠ [] := by rintro rfl; cases hm
    have hgr := Group_any (gvOf g) hok (.slice Ai g.ins.length capi) (.slice Ao g.outs.length capo) (.slice Am g.moves.length capm) _ HOI.out.rd HOO.out.rd HOM.out.rd
    rw [gvOf_g hgood] at hgr
    have HGR : Hid (Calls Tryz.prog 32 #[.agg #[.int .i64 g.level, .slice Ai g.ins.length capi, .slice Ao g.outs.length capo, .slice Am g.moves.length capm, .int .i64 g.err, .int .i64 g.total, .bool g.neg, .string (bs g.mag)]] (w2.alloc (.cells #[.int .i64 g.level, .slice Ai g.ins.length capi, .slice Ao g.outs.length capo, .slice Am g.moves.length capm, .int .i64 g.err, .int .i64 g.total, .bool g.neg, .string (bs g.mag)] 68)) fun en w' => strR (if rightG g = true then groupB g else []) (w2.alloc (.cells #[.int .i64 g.level, .slice Ai g.ins.length capi, .slice Ao g.outs.length capo, .slice Am g.moves.length capm, .int .i64 g.err, .int .i64 g.total, .bool g.neg, .string (bs g.mag)] 68)) en w') := hgr
    clear HT HOP1 hu hm hA HX HU0 HX2 HU2 hat hgr hok hnum hmag hgood hom
    unfold grpC
    go_upto_region 2 with fail
    generalize w2.heap.size = tb at *
    generalize w2.alloc (.cells #[.int .i64 g.level, .slice Ai g.ins.length capi, .slice Ao g.outs.length capo, .slice Am g.moves.length capm, .int .i64 g.err, .int .i64 g.total, .bool g.neg, .string (bs g.mag)] 68) = w3 at *
    obtain ⟨_, ⟨f0, f1, f2, f3, f4, f5, f6, f7⟩⟩ := cellsF8 HXA.out
    obtain ⟨⟨g0, g1, g2, g3, g4, g5, g6, g7⟩, _⟩ := cellsF8 HTA.out
    by_cases hc : rightG g = true ∧ groupB g = s
    · have HTN : Hid (tgt = some g) := by show _ = _; rw [HTS.out]; exact if_pos hc
      obtain ⟨hc1, hc2⟩ := hc
      rw [if_pos hc1, hc2] at HGR
      clear HTS hc1 hc2
      go_wp2_with fail
      refine HGR.out.mono ?_
      rintro e w4 ⟨rfl, u4⟩
      have HX4 := Lib.hid (u4.heap HXA.out id)
      have HT4 := Lib.hid (u4.heap HTA.out id)
      have HOI4 := Lib.hid (HOI.out.upd u4)
      have HOO4 := Lib.hid (HOO.out.upd u4)
      have HOM4 := Lib.hid (HOM.out.upd u4)
      have HU4 := Lib.hid (HUA.out.trans u4)
      clear u4 f0 f1 f2 f3 f4 f5 f6 f7 g0 g1 g2 g3 g4 g5 g6 g7 HGR
      obtain ⟨_, ⟨f0, f1, f2, f3, f4, f5, f6, f7⟩⟩ := cellsF8 HX4.out
      obtain ⟨⟨g0, g1, g2, g3, g4, g5, g6, g7⟩, _⟩ := cellsF8 HT4.out
      go_wp2_with fail
      obtain ⟨hz, hset⟩ := set8 (y0 := .int .i64 g.level) (y1 := .slice Ai g.ins.length capi) (y2 := .slice Ao g.outs.length capo) (y3 := .slice Am g.moves.length capm) (y4 := .int .i64 g.err) (y5 := .int .i64 g.total) (y6 := .bool g.neg) (y7 := .string (bs g.mag)) HX4.out
      (try simp only [Exit.inBlock, Exit.then])
      refine bodyPost_ret (results_cell_tmp1 rfl _ rfl (load_group hz)) rfl ?_
      rw [HTN.out]
      have hs1 := HS1.out
      have hxb := HXB.out
      refine ⟨upd_newE HU4.out hset hxb, _, _, _, rfl, ⟨(HOI4.out.fresh hset hs1).mono (by omega), (HOO4.out.fresh hset hs1).mono (by omega), ?_⟩⟩
      rw [List.map_id]
      exact (HOM4.out.fresh hset hs1).mono (by omega)
    · have HTN : Hid (tgt = none) := by show _ = _; rw [HTS.out]; exact if_neg hc
      have hne : ((bs (if rightG g = true then groupB g else [])).toList == (bs s).toList) = false := by
        rw [beq_eq_false_iff_ne, bs_toList, bs_toList]
        by_cases h1 : rightG g = true
        · rw [if_pos h1]; exact fun e => hc ⟨h1, e⟩
        · rw [if_neg h1]; exact fun e => hsn e.symm
      clear HTS hc
      generalize (if rightG g = true then groupB g else []) = z at *
      go_wp2_with fail
      refine HGR.out.mono ?_
      rintro e w4 ⟨rfl, u4⟩
      have HX4 := Lib.hid (u4.heap HXA.out id)
      have HU4 := Lib.hid (HUA.out.trans u4)
      clear u4 f0 f1 f2 f3 f4 f5 f6 f7 g0 g1 g2 g3 g4 g5 g6 g7 HGR
      obtain ⟨_, ⟨f0, f1, f2, f3, f4, f5, f6, f7⟩⟩ := cellsF8 HX4.out
      go_wp2_with fail
      obtain ⟨hsx, hsu⟩ := same8 HX4.out
      (try simp only [Exit.inBlock, Exit.then])
      refine bodyPost_ret (results_cell_tmp1 rfl _ rfl (load_group hsx)) rfl ?_
      rw [HTN.out]
      exact ⟨HU4.out.trans hsu, rfl⟩
end Go.Proofs.YtcikldoaidmnhaaGreatDoor
namespace Go.Proofs.YtcikldoaidmnhaaGreatDoor
open Go Go.RowKit Pk
set_option maxRecDepth 100000
namespace Pk
theorem openN_back {l : List Tri} (h : packable l = true) : openN (clusterN l) = some (canon l) := by
  obtain ⟨T, h1, h2, _⟩ := open_cluster false h
  unfold openN
  rw [h1]
  show (if clusterN (canon T) = clusterN l then some (canon T) else none) = _
  rw [h2, if_pos (canon_alike l).cluster]
theorem digB_small {n : Nat} (h : n < 128) : digB n = [UInt8.ofNat n] := by rw [digB, dif_pos h]
theorem digB_two {n : Nat} (h : ¬ n < 128) : digB n = UInt8.ofNat (n % 128 + 128) :: digB (n / 128) := by rw [digB, dif_neg h]
theorem root_a : rootR [3, 128, 0] = none := by
  simp [rootR, manyR, readNum, numR, listR, rootB, partsB, digB_small]
theorem root_b : rootR [3, 0, 0] = none := by
  simp [rootR, manyR, readNum, numR, listR, rootB, partsB, digB_small]
theorem root_nil : rootB [] = [3, 0] := by simp [rootB, partsB, digB_small]
def gEx : GV := ⟨1, [], [], [((1, 2, 3), (4, 5, 300))], 7, 200, true, [5]⟩
theorem right_ex : rightG gEx.g = true := by decide
theorem group_ex : groupB gEx.g = [2, 1, 0, 0, 1, 1, 2, 3, 4, 5, 172, 2, 7, 200, 1, 3, 5] := by
  simp [gEx, GV.g, groupB, partsB, movesB, coordsM, sizeG, digB_small, digB_two]
def tEx : Tri := ((0, 0, 0), (1, 0, 0), (0, 1, 0))
theorem ok_ex : okT tEx := by
  simp only [okT, okP, ok64, tEx]
  decide
theorem ok_ex1 : ∀ t, t ∈ [tEx] → okT t := fun t h => by rw [List.mem_singleton.1 h]; exact ok_ex
theorem ok_ex2 : ∀ t, t ∈ [tEx, tEx] → okT t := fun t h => by
  rcases List.mem_cons.1 h with h | h
  · rw [h]; exact ok_ex
  · rw [List.mem_singleton.1 h]; exact ok_ex
theorem ok_gEx : gEx.Ok := ⟨by decide, by decide, by decide, by decide⟩
theorem pack_ex : packable [tEx] = true := by decide
theorem pack_ex2 : clusterN [tEx, tEx] = [] := by
  unfold clusterN
  rw [if_neg]
  decide
end Pk
theorem tri_rd {w : World} {N : Nat} {ts : List Tri} {cs : Array Value} {fr : Nat × Nat} (h : w.heap[N]? = some (.cells cs 45 fr)) (hc : cs.toList = ts.flatMap triC) : kTri.Rd w (.slice (some ⟨N, 0, none⟩) ts.length ts.length) ts := by
  refine ⟨some ⟨N, 0, none⟩, ts.length, rfl, Nat.le_refl _, fun _ => ⟨N, 0, rfl, fun j hj i v hv => ?_⟩⟩
  have hg := kTri.flat_get ts j hj i (by have := (List.getElem?_eq_some_iff.1 hv).1; rw [kTri.len] at this; exact this)
  have hf : cs.toList[j * kTri.k + i]? = some v := by rw [hc]; exact hg.trans hv
  have hs : cs[j * kTri.k + i]? = some v := by rw [← Array.getElem?_toList]; exact hf
  show w.cell? ⟨N, 0 + j * kTri.k + i, none⟩ = some v
  rw [Nat.zero_add]
  simp [World.cell?, h, hs]
theorem mv_rd {w : World} {N : Nat} {fr : Nat × Nat} (h : w.heap[N]? = some (.cells #[.int .i64 1, .int .i64 2, .int .i64 3, .int .i64 4, .int .i64 5, .int .i64 300] 79 fr)) : kMove.Rd w (.slice (some ⟨N, 0, none⟩) 1 1) [((1, 2, 3), (4, 5, 300))] := by
  refine ⟨some ⟨N, 0, none⟩, 1, rfl, Nat.le_refl _, fun _ => ⟨N, 0, rfl, fun j hj i v hv => ?_⟩⟩
  have hj0 : j = 0 := by simp at hj; exact hj
  subst hj0
  have hv' : (#[.int .i64 1, .int .i64 2, .int .i64 3, .int .i64 4, .int .i64 5, .int .i64 300] : Array Value).toList[i]? = some v := hv
  show w.cell? ⟨N, 0 + 0 * kMove.k + i, none⟩ = some v
  rw [Nat.zero_mul, Nat.zero_add]
  have hs : (#[.int .i64 1, .int .i64 2, .int .i64 3, .int .i64 4, .int .i64 5, .int .i64 300] : Array Value)[i]? = some v := by rw [← Array.getElem?_toList]; exact hv'
  simp only [World.cell?, h]
  simpa using hs
theorem size_alloc1 (w : World) (o : Obj) : (w.alloc o).heap.size = w.heap.size + 1 := Array.size_push ..
set_option maxHeartbeats 4000000 in
theorem sanity_any (w : World) : Calls Tryz.prog 14 #[] w fun en w' => en = .returned (.bool true) ∧ Upd noBlk w w' := by
  have HRA := fun W => Lib.hid (OpenRoot_any [3, 128, 0] W)
  have HRB := fun W => Lib.hid (OpenRoot_any [3, 0, 0] W)
  rw [root_a] at HRA
  rw [root_b] at HRB
  go_enter Tryz.func14, Tryz.ntmps14
  go_upto_region 2 with fail
  have HX0 : Hid (((w.alloc (.cells #[.int .i64 1, .int .i64 2, .int .i64 3, .int .i64 4, .int .i64 5, .int .i64 300] 79)).alloc (.cells #[.int .i64 1, .slice none 0 0, .slice none 0 0, .slice (some ⟨w.heap.size, 0, none⟩) 1 1, .int .i64 7, .int .i64 200, .bool true, .string ⟨#[5]⟩] 68)).heap[w.heap.size]? = some (.cells #[.int .i64 1, .int .i64 2, .int .i64 3, .int .i64 4, .int .i64 5, .int .i64 300] 79 (0, 0))) := ((Upd.refl noBlk _).alloc _).heap (heap_alloc_new w _) id
  have HX1 : Hid (((w.alloc (.cells #[.int .i64 1, .int .i64 2, .int .i64 3, .int .i64 4, .int .i64 5, .int .i64 300] 79)).alloc (.cells #[.int .i64 1, .slice none 0 0, .slice none 0 0, .slice (some ⟨w.heap.size, 0, none⟩) 1 1, .int .i64 7, .int .i64 200, .bool true, .string ⟨#[5]⟩] 68)).heap[w.heap.size + 1]? = some (.cells #[.int .i64 1, .slice none 0 0, .slice none 0 0, .slice (some ⟨w.heap.size, 0, none⟩) 1 1, .int .i64 7, .int .i64 200, .bool true, .string ⟨#[5]⟩] 68 (0, 0))) := by
    have h := heap_alloc_new (w.alloc (.cells #[.int .i64 1, .int .i64 2, .int .i64 3, .int .i64 4, .int .i64 5, .int .i64 300] 79)) (.cells #[.int .i64 1, .slice none 0 0, .slice none 0 0, .slice (some ⟨w.heap.size, 0, none⟩) 1 1, .int .i64 7, .int .i64 200, .bool true, .string ⟨#[5]⟩] 68)
    rw [size_alloc1] at h
    exact h
  have HU1 : Hid (Upd noBlk w ((w.alloc (.cells #[.int .i64 1, .int .i64 2, .int .i64 3, .int .i64 4, .int .i64 5, .int .i64 300] 79)).alloc (.cells #[.int .i64 1, .slice none 0 0, .slice none 0 0, .slice (some ⟨w.heap.size, 0, none⟩) 1 1, .int .i64 7, .int .i64 200, .bool true, .string ⟨#[5]⟩] 68))) := ((Upd.refl noBlk w).alloc _).alloc _
  generalize (w.alloc (.cells #[.int .i64 1, .int .i64 2, .int .i64 3, .int .i64 4, .int .i64 5, .int .i64 300] 79)).alloc (.cells #[.int .i64 1, .slice none 0 0, .slice none 0 0, .slice (some ⟨w.heap.size, 0, none⟩) 1 1, .int .i64 7, .int .i64 200, .bool true, .string ⟨#[5]⟩] 68) = w1 at *
  generalize w.heap.size = b0 at *
  have HRA1 := HRA w1
  clear HRA
  go_wp2_with fail
  refine HRA1.out.mono ?_
  rintro e w2 ⟨u2, rfl⟩
  have HY0 := Lib.hid (u2.heap HX0.out id)
  have HY1 := Lib.hid (u2.heap HX1.out id)
  have HU2 := Lib.hid (HU1.out.trans u2)
  clear HRA1 u2 HU1 HX0 HX1
  have HAL : Hid (Upd noBlk w2 (w2.alloc (.cells #[.slice none 0 0] 50))) := (Upd.refl _ w2).alloc _
  go_upto_region 3 with fail
  generalize w2.heap.size = b1 at *
  have HX0 := Lib.hid (HAL.out.heap HY0.out id)
  have HX1 := Lib.hid (HAL.out.heap HY1.out id)
  have HU3 := Lib.hid (HU2.out.trans HAL.out)
  generalize w2.alloc (.cells #[.slice none 0 0] 50) = w3 at *
  clear HAL HY0 HY1 HU2
  have HRB1 := HRB w3
  clear HRB
  go_wp2_with fail
  refine HRB1.out.mono ?_
  rintro e w4 ⟨u4, rfl⟩
  have HY0 := Lib.hid (u4.heap HX0.out id)
  have HY1 := Lib.hid (u4.heap HX1.out id)
  have HU4 := Lib.hid (HU3.out.trans u4)
  clear HRB1 u4 HU3 HX0 HX1
  have HAL : Hid (Upd noBlk w4 (w4.alloc (.cells #[.slice none 0 0] 50))) := (Upd.refl _ w4).alloc _
  go_upto_region 4 with fail
  generalize w4.heap.size = b2 at *
  have HX0 := Lib.hid (HAL.out.heap HY0.out id)
  have HX1 := Lib.hid (HAL.out.heap HY1.out id)
  have HU5 := Lib.hid (HU4.out.trans HAL.out)
  generalize w4.alloc (.cells #[.slice none 0 0] 50) = w5 at *
  clear HAL HY0 HY1 HU4
  have HAL : Hid (Upd noBlk w5 (w5.alloc (.cells #[.int .i64 0, .int .i64 0, .int .i64 0, .int .i64 1, .int .i64 0, .int .i64 0, .int .i64 0, .int .i64 1, .int .i64 0] 45))) := (Upd.refl _ w5).alloc _
  have HT : Hid ((w5.alloc (.cells #[.int .i64 0, .int .i64 0, .int .i64 0, .int .i64 1, .int .i64 0, .int .i64 0, .int .i64 0, .int .i64 1, .int .i64 0] 45)).heap[w5.heap.size]? = some (.cells #[.int .i64 0, .int .i64 0, .int .i64 0, .int .i64 1, .int .i64 0, .int .i64 0, .int .i64 0, .int .i64 1, .int .i64 0] 45 (0, 0))) := heap_alloc_new w5 _
  go_upto_region 5 with fail
  generalize w5.heap.size = b3 at *
  have HY0 := Lib.hid (HAL.out.heap HX0.out id)
  have HY1 := Lib.hid (HAL.out.heap HX1.out id)
  have HU6 := Lib.hid (HU5.out.trans HAL.out)
  generalize w5.alloc (.cells #[.int .i64 0, .int .i64 0, .int .i64 0, .int .i64 1, .int .i64 0, .int .i64 0, .int .i64 0, .int .i64 1, .int .i64 0] 45) = w6 at *
  clear HAL HX0 HX1 HU5
  have HAL : Hid (Upd noBlk w6 (w6.alloc (.cells #[.int .i64 0, .int .i64 0, .int .i64 0, .int .i64 1, .int .i64 0, .int .i64 0, .int .i64 0, .int .i64 1, .int .i64 0] 45))) := (Upd.refl _ w6).alloc _
  have HR : Hid ((w6.alloc (.cells #[.int .i64 0, .int .i64 0, .int .i64 0, .int .i64 1, .int .i64 0, .int .i64 0, .int .i64 0, .int .i64 1, .int .i64 0] 45)).heap[w6.heap.size]? = some (.cells #[.int .i64 0, .int .i64 0, .int .i64 0, .int .i64 1, .int .i64 0, .int .i64 0, .int .i64 0, .int .i64 1, .int .i64 0] 45 (0, 0))) := heap_alloc_new w6 _
  have HCL := Lib.hid (Cluster_any _ [tEx] (by decide) ok_ex1 _ (tri_rd HR.out rfl))
  have HOC := fun W => Lib.hid (OpenCluster_any (clusterN [tEx]) (clusterN_lt _) W)
  rw [openN_back pack_ex] at HOC
  have HU7 := Lib.hid (HU6.out.trans HAL.out)
  have HX0 := Lib.hid (HAL.out.heap HY0.out id)
  have HX1 := Lib.hid (HAL.out.heap HY1.out id)
  have HT1 := Lib.hid (HAL.out.heap HT.out id)
  obtain ⟨⟨c0, c1, c2, c3, c4, c5, c6, c7, c8⟩, ⟨f0, f1, f2, f3, f4, f5, f6, f7, f8⟩⟩ := cellsF9 HT.out
  clear HR HY0 HY1 HT HU6 HAL
  go_wp2_with fail
  clear c0 c1 c2 c3 c4 c5 c6 c7 c8 f0 f1 f2 f3 f4 f5 f6 f7 f8
  refine HCL.out.mono ?_
  rintro e w7 ⟨rfl, u7⟩
  have HY0 := Lib.hid (u7.heap HX0.out id)
  have HY1 := Lib.hid (u7.heap HX1.out id)
  have HT := Lib.hid (u7.heap HT1.out id)
  have HU8 := Lib.hid (HU7.out.trans u7)
  have HOC1 := HOC w7
  clear HX0 HX1 HT1 HU7 u7 HCL HOC
  go_wp2_with fail
  refine HOC1.out.mono ?_
  rintro e w8 ⟨u8, v, rfl, hv⟩
  have HX0 := Lib.hid (u8.heap HY0.out id)
  have HX1 := Lib.hid (u8.heap HY1.out id)
  have HT1 := Lib.hid (u8.heap HT.out id)
  have HU9 := Lib.hid (HU8.out.trans u8)
  have HV := Lib.hid hv
  clear HY0 HY1 HT HU8 u8 HOC1 hv
  go_upto_region 6 with fail
  have HRN : Hid (Calls Tryz.prog 25 #[.agg #[.slice none 0 0]] w8 fun en w' => strR [3, 0] w8 en w') := by
    show Calls _ _ _ _ _
    have h := Root_any (.slice none 0 0) [] w8 (Kd.Rd.nil kPart w8)
    rw [if_neg (by decide), show (([] : List P32).map plainP) = [] from rfl, root_nil] at h
    exact h
  have HGR := fun W hW => Lib.hid (Group_any gEx ok_gEx (.slice none 0 0) (.slice none 0 0) (.slice (some ⟨b0, 0, none⟩) 1 1) W (Kd.Rd.nil kPart W) (Kd.Rd.nil kHash W) (mv_rd (fr := (0, 0)) hW))
  rw [if_pos right_ex, group_ex] at HGR
  have HC2 := fun W v hW => Lib.hid (Cluster_any v [tEx, tEx] (by decide) ok_ex2 W hW)
  rw [pack_ex2] at HC2
  have HSM := fun W v' h1 h2 => Lib.hid (hSame_any v v' (canon [tEx]) [tEx] (by rw [canon_length]; decide) (by decide) W h1 h2)
  have hce : decide (canon (canon [tEx]) = canon [tEx]) = true := by rw [canon_idem]; exact decide_eq_true rfl
  rw [hce] at HSM
  clear hce
  have hs1 : (bs [3, 0]).toList = [3, 0] := bs_toList _
  go_wp2_with fail
  refine HRN.out.mono ?_
  rintro e w9 ⟨rfl, u9⟩
  have HY0 := Lib.hid (u9.heap HX0.out id)
  have HY1 := Lib.hid (u9.heap HX1.out id)
  have HT := Lib.hid (u9.heap HT1.out id)
  have HU10 := Lib.hid (HU9.out.trans u9)
  have HV1 := Lib.hid (HV.out.keep u9)
  have HGR1 := HGR w9 HY0.out
  obtain ⟨⟨c0, c1, c2, c3, c4, c5, c6, c7⟩, ⟨f0, f1, f2, f3, f4, f5, f6, f7⟩⟩ := cellsF8 HY1.out
  clear HX0 HX1 HT1 HU9 u9 HRN HGR HV HY0 HY1
  have hs2 : (bs [2, 1, 0, 0, 1, 1, 2, 3, 4, 5, 172, 2, 7, 200, 1, 3, 5]).toList = [2, 1, 0, 0, 1, 1, 2, 3, 4, 5, 172, 2, 7, 200, 1, 3, 5] := bs_toList _
  go_wp2_with fail
  clear c0 c1 c2 c3 c4 c5 c6 c7 f0 f1 f2 f3 f4 f5 f6 f7 hs1
  refine HGR1.out.mono ?_
  rintro e w10 ⟨rfl, u10⟩
  have HT1 := Lib.hid (u10.heap HT.out id)
  have HU11 := Lib.hid (HU10.out.trans u10)
  have HV := Lib.hid (HV1.out.keep u10)
  obtain ⟨⟨c0, c1, c2, c3, c4, c5, c6, c7, c8⟩, ⟨f0, f1, f2, f3, f4, f5, f6, f7, f8⟩⟩ := cellsF9 HT1.out
  clear HT HU10 HV1 HGR1 u10
  have HAL : Hid (Upd noBlk w10 (w10.alloc (.cells #[.int .i64 0, .int .i64 0, .int .i64 0, .int .i64 1, .int .i64 0, .int .i64 0, .int .i64 0, .int .i64 1, .int .i64 0, .int .i64 0, .int .i64 0, .int .i64 0, .int .i64 1, .int .i64 0, .int .i64 0, .int .i64 0, .int .i64 1, .int .i64 0] 45))) := (Upd.refl _ w10).alloc _
  have HR := heap_alloc_new w10 (.cells #[.int .i64 0, .int .i64 0, .int .i64 0, .int .i64 1, .int .i64 0, .int .i64 0, .int .i64 0, .int .i64 1, .int .i64 0, .int .i64 0, .int .i64 0, .int .i64 0, .int .i64 1, .int .i64 0, .int .i64 0, .int .i64 0, .int .i64 1, .int .i64 0] 45)
  have HC3 := HC2 _ _ (tri_rd (ts := [tEx, tEx]) HR rfl)
  have HY := Lib.hid (HAL.out.heap HT1.out id)
  have HV1 := Lib.hid (HV.out.keep HAL.out)
  have HU12 := Lib.hid (HU11.out.trans HAL.out)
  have hs1 : (str []).toList = [] := str_toList _
  clear HR HC2 HV HT1 HU11 HAL
  go_wp2_with fail
  clear c0 c1 c2 c3 c4 c5 c6 c7 c8 f0 f1 f2 f3 f4 f5 f6 f7 f8
  refine HC3.out.mono ?_
  rintro e w11 ⟨rfl, u11⟩
  have HT := Lib.hid (u11.heap HY.out id)
  have HU13 := Lib.hid (HU12.out.trans u11)
  have HV := Lib.hid (HV1.out.keep u11)
  obtain ⟨⟨c0, c1, c2, c3, c4, c5, c6, c7, c8⟩, ⟨f0, f1, f2, f3, f4, f5, f6, f7, f8⟩⟩ := cellsF9 HT.out
  have HAL : Hid (Upd noBlk w11 (w11.alloc (.cells #[.int .i64 0, .int .i64 0, .int .i64 0, .int .i64 1, .int .i64 0, .int .i64 0, .int .i64 0, .int .i64 1, .int .i64 0] 45))) := (Upd.refl _ w11).alloc _
  have HR := heap_alloc_new w11 (.cells #[.int .i64 0, .int .i64 0, .int .i64 0, .int .i64 1, .int .i64 0, .int .i64 0, .int .i64 0, .int .i64 1, .int .i64 0] 45)
  have HSM1 := HSM _ _ (HV.out.keep HAL.out) (tri_rd (ts := [tEx]) HR rfl)
  have HU14 := Lib.hid (HU13.out.trans HAL.out)
  clear HR HSM HV HT HU13 HAL HC3 HV1 HU12 HY u11 hs2
  go_wp2_with fail
  refine HSM1.out.mono ?_
  rintro e w12 ⟨rfl, u12⟩
  have HU15 := Lib.hid (HU14.out.trans u12)
  clear HU14 u12 HSM1
  go_wp2_with fail
  go_ret
  exact ⟨rfl, HU15.out⟩
end Go.Proofs.YtcikldoaidmnhaaGreatDoor
