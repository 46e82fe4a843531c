/- Walks of the reference of the polygon files: add. -/
import Derived.Test.YtojdgdeefhndiaaGreatDoorM13
namespace Go.Proofs.YtojdgdeefhndiaaGreatDoor
open Go Go.RowKit Sp
set_option maxRecDepth 100000

def addR (R base : Nat) (vl pv : Value) (pl e place : Nat) (qs : List (Value × Poly)) (pts : List Pt) (w : World) (en : Ending) (w' : World) : Prop :=
  en = .returned (.tuple #[]) ∧ ∃ vl', w'.heap[R]? = some (resO vl' (if e = 0 ∧ 65536 ≤ qs.length then place else pl) (if e = 0 ∧ 65536 ≤ qs.length then 2 else e)) ∧
    OwnQs base w' vl' (qs ++ [(pv, (pts, place))]) ∧ Upd (fun k => k = R ∨ vl.ownBlock = some k) w w'
set_option maxHeartbeats 2000000 in
theorem qadd_any (R base : Nat) (vl pv : Value) (pl e place : Nat) (qs : List (Value × Poly)) (pts : List Pt) (hql : qs.length ≤ 1000000) (w : World) (h : w.heap[R]? = some (resO vl pl e)) (hq : OwnQs base w vl qs) (hp : OwnPts base w pv pts) (hv : pv.oneCell' = true) (hb : base ≤ w.heap.size) :
    Calls Tryz.prog 66 #[.pointer (some ⟨R, 0, none⟩), .agg #[pv, .int .i64 place]] w fun en w' => addR R base vl pv pl e place qs pts w en w' := by
  obtain ⟨Al, cpl, rfl⟩ := hq.len
  have hRl := Lib.hid (lt_of_heap h)
  have HR := Lib.hid h
  have HQ := Lib.hid hq
  have HP := Lib.hid hp
  have HV := Lib.hid hv
  have c0 : (w.alloc (.cells #[pv, .int .i64 place] 43)).cell? ⟨R, 0, none⟩ = some (.slice Al qs.length cpl) := by simp [World.cell?, heap_alloc_keep _ h, resO]
  have c3 : (w.alloc (.cells #[pv, .int .i64 place] 43)).cell? ⟨w.heap.size, 1, none⟩ = some (.int .i64 place) := by
    have := heap_alloc_new w (.cells #[pv, .int .i64 place] 43); simp only [World.cell?, this]; rfl
  have HNB : Hid (¬ (Value.slice Al qs.length cpl).ownBlock = some w.heap.size) := fun e => by have := (hq.2.lt _ e).2; omega
  have hr0 : Hid ((w.alloc (.cells #[pv, .int .i64 place] 43)).heap[R]? = some (resO (.slice Al qs.length cpl) pl e)) := heap_alloc_keep _ h
  have HB := Lib.hid hb
  have HL := Lib.hid hql
  clear h hq hp hv hb hql
  by_cases hlen : qs.length < 65536
  · have hl' : ¬ (65536 : Int) ≤ ((qs.length : Nat) : Int) := by omega
    have HLN := Lib.hid hlen
    clear hlen
    go_enter Tryz.func66, Tryz.ntmps66
    go_wp2_with fail
    obtain ⟨w1, hw1⟩ : ∃ x, x = w.alloc (.cells #[pv, .int .i64 place] 43) := ⟨_, rfl⟩
    have hu1 : Upd (fun k => k = R) (w.alloc (.cells #[pv, .int .i64 place] 43)) w1 := by rw [hw1]; exact Upd.refl _ _
    have hr1 := hr0.out
    rw [← hw1] at hr1 ⊢
    obtain ⟨pl1, hpl1⟩ : ∃ x, x = pl := ⟨_, rfl⟩
    obtain ⟨e1, he1⟩ : ∃ x, x = e := ⟨_, rfl⟩
    rw [← hpl1, ← he1] at hr1
    have hif1 : Hid ((if e = 0 ∧ 65536 ≤ qs.length then place else pl) = pl1) := (if_neg (by have := HLN.out; omega)).trans hpl1.symm
    have hif2 : Hid ((if e = 0 ∧ 65536 ≤ qs.length then 2 else e) = e1) := (if_neg (by have := HLN.out; omega)).trans he1.symm
    have hql := HL.out
    have hb := HB.out
    clear hw1 c0 c3 hr0 hpl1 he1
    have hU1 : Upd (fun k => k = R) (w.alloc (.cells #[pv, .int .i64 place] 43)) w1 := hu1
    have hUw : Upd (fun k => k = R) w w1 := ((Upd.refl _ _).alloc _).trans hU1
    have hq1 : OwnQs base w1 (.slice Al qs.length cpl) qs := HQ.out.keep hUw (fun k hk e => by subst hk; obtain ⟨c, hc⟩ := ownsRow_type HQ.out.2 e; rw [HR.out] at hc; cases hc) (fun q hq k hk e => by subst hk; obtain ⟨c, hc⟩ := OwnPts.blk (HQ.out.1 q hq) e; rw [HR.out] at hc; cases hc)
    have hp1 : OwnPts base w1 pv pts := ownsRow_other HP.out hUw (fun k hk _ => by subst hk; exact ⟨_, _, _, HR.out, by decide⟩)
    have hb1 : base ≤ w1.heap.size := by have := hUw.size; omega
    have hbx : w1.heap[w.heap.size]? = some (.cells #[pv, .int .i64 place] 43) := hU1.heap (heap_alloc_new _ _) (by have := lt_of_heap HR.out; omega)
    obtain ⟨g, cap, w6, r6, o6, v6, hat⟩ := append_polyQ (w := w1.drew) (base := base) (q := (pts, place)) hb1 (hq1.keep (Upd.refl noBlk w1).drew (fun k hk => hk.elim) (fun q hq k hk => hk.elim)) (OwnPts.upd hp1 (Upd.refl noBlk w1).drew) (by omega) HV.out
    have hR6 : w6.heap[R]? = some (resO (.slice Al qs.length cpl) pl1 e1) := v6.heap hr1 (fun e => by obtain ⟨c, hc⟩ := ownsRow_type hq1.2 e; rw [hr1] at hc; cases hc)
    have cR0 : w6.cell? ⟨R, 0, none⟩ = some (.slice Al qs.length cpl) := by simp [World.cell?, hR6, resO]
    have zR0 : w6.frozen? ⟨R, 0, none⟩ = false := by simp [World.frozen?, hR6, resO]
    have hR7 : (w6.setCell ⟨R, 0, none⟩ (.slice (some ⟨g, 0, none⟩) (qs.length + 1) cap)).heap[R]? = some (resO (.slice (some ⟨g, 0, none⟩) (qs.length + 1) cap) pl1 e1) := (heap_setCell_eq (i := 0) _ hR6).trans rfl
    have HR7 := Lib.hid hR7
    have HR1 := Lib.hid hr1
    have HBX := Lib.hid hbx
    have R6 := Lib.hid r6
    have V6 : Hid (Upd (fun k => (Value.slice Al qs.length cpl).ownBlock = some k) w1 w6) := (Upd.refl _ w1).drew.trans v6
    have HNA : Hid (¬ (Value.slice Al qs.length cpl).ownBlock = some R) := fun e => by obtain ⟨c, hc⟩ := ownsRow_type hq1.2 e; rw [hr1] at hc; cases hc
    have hq7 : OwnQs base (w6.setCell ⟨R, 0, none⟩ (.slice (some ⟨g, 0, none⟩) (qs.length + 1) cap)) (.slice (some ⟨g, 0, none⟩) (qs.length + 1) cap) (qs ++ [(pv, (pts, place))]) :=
      o6.keep ((Upd.refl (fun k => k = R) w6).setCell (p := ⟨R, 0, none⟩) (fun _ => rfl) _) (fun k hk e => by subst hk; obtain ⟨c, hc⟩ := ownsRow_type o6.2 e; rw [hR6] at hc; cases hc) (fun q hq k hk e => by subst hk; obtain ⟨c, hc⟩ := OwnPts.blk (o6.1 q hq) e; rw [hR6] at hc; cases hc)
    have HQ7 := Lib.hid hq7
    have hUF : Upd (fun k => k = R ∨ (Value.slice Al qs.length cpl).ownBlock = some k) w (w6.setCell ⟨R, 0, none⟩ (.slice (some ⟨g, 0, none⟩) (qs.length + 1) cap)) :=
      (((hUw.mono (fun _ _ h => .inl h)).drew).trans (v6.mono (fun _ _ h => .inr h))).setCell (p := ⟨R, 0, none⟩) (fun _ => .inl rfl) _
    have HUF := Lib.hid hUF
    clear hU1 hUw hq1 hp1 hbx r6 o6 v6 hR6 hR7 hq7 hUF hr1 hu1
    refine wp_region_tree 8 (OT.sures [0, 1, 2, 3, 4, 5] (.run 6 (.run 7 .nil))) (fun w' => Upd (fun k => (Value.slice Al qs.length cpl).ownBlock = some k) w1 w') (by kernel_rfl) (by kernel_rfl) (fun c a d v w h => by cases d <;> exact h) (Upd.refl _ _).drew ?_
    simp only [OT.sures]
    iterate 6 (apply wpT_sure rfl rfl; focus (intro w' hw'; have g0 := hw'.heap HR1.out HNA.out; have g1 := hw'.heap HBX.out HNB.out; have c0 : w'.cell? ⟨R, 0, none⟩ = some (.slice Al qs.length cpl) := (by simp [World.cell?, g0, resO]); have c1 : w'.cell? ⟨w.heap.size, 0, none⟩ = some pv := (by simp [World.cell?, g1]); have c2 : w'.cell? ⟨w.heap.size, 1, none⟩ = some (.int .i64 place) := (by simp [World.cell?, g1]); go_simp; rfl))
    refine wpT_run (fun w' => Upd (fun k => (Value.slice Al qs.length cpl).ownBlock = some k) w1 w') (fun _ h => h) rfl (fun K hK => ?_)
    go_simp
    refine hK _ _ ⟨((Upd.refl _ _).alloc _).drew, ?_⟩
    clear hK K
    refine wpT_run (fun w' => Upd (fun k => (Value.slice Al qs.length cpl).ownBlock = some k) w1 w') (fun _ h => h) rfl (fun K hK => ?_)
    rw [if_pos (by rfl)]
    refine wp_append_run _ _ _ rfl rfl rfl R6.out (hK _ _ ⟨V6.out, ?_⟩)
    clear hK K
    refine wpT_nil ?_
    simp only [List.drop_succ_cons, List.drop_zero]
    go_wp2_with fail
    go_end0
    refine ⟨rfl, _, ?_, HQ7.out, HUF.out⟩
    rw [hif1.out, hif2.out]
    exact HR7.out
  · have hl' : (65536 : Int) ≤ ((qs.length : Nat) : Int) := by omega
    by_cases he : e = 0
    · have HLN := Lib.hid hlen
      have HE0 := Lib.hid he
      have HF := Lib.hid (qfail_set R _ pl place 2 _ (by have := hr0.out; rw [he] at this; exact this))
      clear he
      clear hlen
      go_enter Tryz.func66, Tryz.ntmps66
      go_wp2_with fail
      refine HF.out.mono ?_
      rintro en w1 ⟨rfl, hu1, hr1⟩
      have HU1 := Lib.hid hu1
      have HRR := Lib.hid hr1
      clear hu1 hr1 HF
      go_wp2_with fail
      have hu1 := HU1.out
      have hr1 := HRR.out
      obtain ⟨pl1, hpl1⟩ : ∃ x, x = place := ⟨_, rfl⟩
      obtain ⟨e1, he1⟩ : ∃ x, x = 2 := ⟨_, rfl⟩
      rw [← hpl1, ← he1] at hr1
      have hif1 : Hid ((if e = 0 ∧ 65536 ≤ qs.length then place else pl) = pl1) := (if_pos ⟨HE0.out, by have := HLN.out; omega⟩).trans hpl1.symm
      have hif2 : Hid ((if e = 0 ∧ 65536 ≤ qs.length then 2 else e) = e1) := (if_pos ⟨HE0.out, by have := HLN.out; omega⟩).trans he1.symm
      have hql := HL.out
      have hb := HB.out
      clear c0 c3 hr0 hpl1 he1 HU1 HRR
      have hU1 : Upd (fun k => k = R) (w.alloc (.cells #[pv, .int .i64 place] 43)) w1 := hu1
      have hUw : Upd (fun k => k = R) w w1 := ((Upd.refl _ _).alloc _).trans hU1
      have hq1 : OwnQs base w1 (.slice Al qs.length cpl) qs := HQ.out.keep hUw (fun k hk e => by subst hk; obtain ⟨c, hc⟩ := ownsRow_type HQ.out.2 e; rw [HR.out] at hc; cases hc) (fun q hq k hk e => by subst hk; obtain ⟨c, hc⟩ := OwnPts.blk (HQ.out.1 q hq) e; rw [HR.out] at hc; cases hc)
      have hp1 : OwnPts base w1 pv pts := ownsRow_other HP.out hUw (fun k hk _ => by subst hk; exact ⟨_, _, _, HR.out, by decide⟩)
      have hb1 : base ≤ w1.heap.size := by have := hUw.size; omega
      have hbx : w1.heap[w.heap.size]? = some (.cells #[pv, .int .i64 place] 43) := hU1.heap (heap_alloc_new _ _) (by have := lt_of_heap HR.out; omega)
      obtain ⟨g, cap, w6, r6, o6, v6, hat⟩ := append_polyQ (w := w1.drew) (base := base) (q := (pts, place)) hb1 (hq1.keep (Upd.refl noBlk w1).drew (fun k hk => hk.elim) (fun q hq k hk => hk.elim)) (OwnPts.upd hp1 (Upd.refl noBlk w1).drew) (by omega) HV.out
      have hR6 : w6.heap[R]? = some (resO (.slice Al qs.length cpl) pl1 e1) := v6.heap hr1 (fun e => by obtain ⟨c, hc⟩ := ownsRow_type hq1.2 e; rw [hr1] at hc; cases hc)
      have cR0 : w6.cell? ⟨R, 0, none⟩ = some (.slice Al qs.length cpl) := by simp [World.cell?, hR6, resO]
      have zR0 : w6.frozen? ⟨R, 0, none⟩ = false := by simp [World.frozen?, hR6, resO]
      have hR7 : (w6.setCell ⟨R, 0, none⟩ (.slice (some ⟨g, 0, none⟩) (qs.length + 1) cap)).heap[R]? = some (resO (.slice (some ⟨g, 0, none⟩) (qs.length + 1) cap) pl1 e1) := (heap_setCell_eq (i := 0) _ hR6).trans rfl
      have HR7 := Lib.hid hR7
      have HR1 := Lib.hid hr1
      have HBX := Lib.hid hbx
      have R6 := Lib.hid r6
      have V6 : Hid (Upd (fun k => (Value.slice Al qs.length cpl).ownBlock = some k) w1 w6) := (Upd.refl _ w1).drew.trans v6
      have HNA : Hid (¬ (Value.slice Al qs.length cpl).ownBlock = some R) := fun e => by obtain ⟨c, hc⟩ := ownsRow_type hq1.2 e; rw [hr1] at hc; cases hc
      have hq7 : OwnQs base (w6.setCell ⟨R, 0, none⟩ (.slice (some ⟨g, 0, none⟩) (qs.length + 1) cap)) (.slice (some ⟨g, 0, none⟩) (qs.length + 1) cap) (qs ++ [(pv, (pts, place))]) :=
        o6.keep ((Upd.refl (fun k => k = R) w6).setCell (p := ⟨R, 0, none⟩) (fun _ => rfl) _) (fun k hk e => by subst hk; obtain ⟨c, hc⟩ := ownsRow_type o6.2 e; rw [hR6] at hc; cases hc) (fun q hq k hk e => by subst hk; obtain ⟨c, hc⟩ := OwnPts.blk (o6.1 q hq) e; rw [hR6] at hc; cases hc)
      have HQ7 := Lib.hid hq7
      have hUF : Upd (fun k => k = R ∨ (Value.slice Al qs.length cpl).ownBlock = some k) w (w6.setCell ⟨R, 0, none⟩ (.slice (some ⟨g, 0, none⟩) (qs.length + 1) cap)) :=
        (((hUw.mono (fun _ _ h => .inl h)).drew).trans (v6.mono (fun _ _ h => .inr h))).setCell (p := ⟨R, 0, none⟩) (fun _ => .inl rfl) _
      have HUF := Lib.hid hUF
      clear hU1 hUw hq1 hp1 hbx r6 o6 v6 hR6 hR7 hq7 hUF hr1 hu1
      refine wp_region_tree 8 (OT.sures [0, 1, 2, 3, 4, 5] (.run 6 (.run 7 .nil))) (fun w' => Upd (fun k => (Value.slice Al qs.length cpl).ownBlock = some k) w1 w') (by kernel_rfl) (by kernel_rfl) (fun c a d v w h => by cases d <;> exact h) (Upd.refl _ _).drew ?_
      simp only [OT.sures]
      iterate 6 (apply wpT_sure rfl rfl; focus (intro w' hw'; have g0 := hw'.heap HR1.out HNA.out; have g1 := hw'.heap HBX.out HNB.out; have c0 : w'.cell? ⟨R, 0, none⟩ = some (.slice Al qs.length cpl) := (by simp [World.cell?, g0, resO]); have c1 : w'.cell? ⟨w.heap.size, 0, none⟩ = some pv := (by simp [World.cell?, g1]); have c2 : w'.cell? ⟨w.heap.size, 1, none⟩ = some (.int .i64 place) := (by simp [World.cell?, g1]); go_simp; rfl))
      refine wpT_run (fun w' => Upd (fun k => (Value.slice Al qs.length cpl).ownBlock = some k) w1 w') (fun _ h => h) rfl (fun K hK => ?_)
      go_simp
      refine hK _ _ ⟨((Upd.refl _ _).alloc _).drew, ?_⟩
      clear hK K
      refine wpT_run (fun w' => Upd (fun k => (Value.slice Al qs.length cpl).ownBlock = some k) w1 w') (fun _ h => h) rfl (fun K hK => ?_)
      rw [if_pos (by rfl)]
      refine wp_append_run _ _ _ rfl rfl rfl R6.out (hK _ _ ⟨V6.out, ?_⟩)
      clear hK K
      refine wpT_nil ?_
      simp only [List.drop_succ_cons, List.drop_zero]
      go_wp2_with fail
      go_end0
      refine ⟨rfl, _, ?_, HQ7.out, HUF.out⟩
      rw [hif1.out, hif2.out]
      exact HR7.out
    · have HE0 := Lib.hid he
      have HF := Lib.hid (qfail_keep R _ pl e place 2 he _ hr0.out)
      clear hlen he
      go_enter Tryz.func66, Tryz.ntmps66
      go_wp2_with fail
      refine HF.out.mono ?_
      rintro en w1 ⟨rfl, rfl⟩
      clear HF
      go_wp2_with fail
      obtain ⟨w1, hw1⟩ : ∃ x, x = w.alloc (.cells #[pv, .int .i64 place] 43) := ⟨_, rfl⟩
      have hu1 : Upd (fun k => k = R) (w.alloc (.cells #[pv, .int .i64 place] 43)) w1 := by rw [hw1]; exact Upd.refl _ _
      have hr1 := hr0.out
      rw [← hw1] at hr1 ⊢
      obtain ⟨pl1, hpl1⟩ : ∃ x, x = pl := ⟨_, rfl⟩
      obtain ⟨e1, he1⟩ : ∃ x, x = e := ⟨_, rfl⟩
      rw [← hpl1, ← he1] at hr1
      have hif1 : Hid ((if e = 0 ∧ 65536 ≤ qs.length then place else pl) = pl1) := (if_neg (fun h => HE0.out h.1)).trans hpl1.symm
      have hif2 : Hid ((if e = 0 ∧ 65536 ≤ qs.length then 2 else e) = e1) := (if_neg (fun h => HE0.out h.1)).trans he1.symm
      have hql := HL.out
      have hb := HB.out
      clear hw1 c0 c3 hr0 hpl1 he1
      have hU1 : Upd (fun k => k = R) (w.alloc (.cells #[pv, .int .i64 place] 43)) w1 := hu1
      have hUw : Upd (fun k => k = R) w w1 := ((Upd.refl _ _).alloc _).trans hU1
      have hq1 : OwnQs base w1 (.slice Al qs.length cpl) qs := HQ.out.keep hUw (fun k hk e => by subst hk; obtain ⟨c, hc⟩ := ownsRow_type HQ.out.2 e; rw [HR.out] at hc; cases hc) (fun q hq k hk e => by subst hk; obtain ⟨c, hc⟩ := OwnPts.blk (HQ.out.1 q hq) e; rw [HR.out] at hc; cases hc)
      have hp1 : OwnPts base w1 pv pts := ownsRow_other HP.out hUw (fun k hk _ => by subst hk; exact ⟨_, _, _, HR.out, by decide⟩)
      have hb1 : base ≤ w1.heap.size := by have := hUw.size; omega
      have hbx : w1.heap[w.heap.size]? = some (.cells #[pv, .int .i64 place] 43) := hU1.heap (heap_alloc_new _ _) (by have := lt_of_heap HR.out; omega)
      obtain ⟨g, cap, w6, r6, o6, v6, hat⟩ := append_polyQ (w := w1.drew) (base := base) (q := (pts, place)) hb1 (hq1.keep (Upd.refl noBlk w1).drew (fun k hk => hk.elim) (fun q hq k hk => hk.elim)) (OwnPts.upd hp1 (Upd.refl noBlk w1).drew) (by omega) HV.out
      have hR6 : w6.heap[R]? = some (resO (.slice Al qs.length cpl) pl1 e1) := v6.heap hr1 (fun e => by obtain ⟨c, hc⟩ := ownsRow_type hq1.2 e; rw [hr1] at hc; cases hc)
      have cR0 : w6.cell? ⟨R, 0, none⟩ = some (.slice Al qs.length cpl) := by simp [World.cell?, hR6, resO]
      have zR0 : w6.frozen? ⟨R, 0, none⟩ = false := by simp [World.frozen?, hR6, resO]
      have hR7 : (w6.setCell ⟨R, 0, none⟩ (.slice (some ⟨g, 0, none⟩) (qs.length + 1) cap)).heap[R]? = some (resO (.slice (some ⟨g, 0, none⟩) (qs.length + 1) cap) pl1 e1) := (heap_setCell_eq (i := 0) _ hR6).trans rfl
      have HR7 := Lib.hid hR7
      have HR1 := Lib.hid hr1
      have HBX := Lib.hid hbx
      have R6 := Lib.hid r6
      have V6 : Hid (Upd (fun k => (Value.slice Al qs.length cpl).ownBlock = some k) w1 w6) := (Upd.refl _ w1).drew.trans v6
      have HNA : Hid (¬ (Value.slice Al qs.length cpl).ownBlock = some R) := fun e => by obtain ⟨c, hc⟩ := ownsRow_type hq1.2 e; rw [hr1] at hc; cases hc
      have hq7 : OwnQs base (w6.setCell ⟨R, 0, none⟩ (.slice (some ⟨g, 0, none⟩) (qs.length + 1) cap)) (.slice (some ⟨g, 0, none⟩) (qs.length + 1) cap) (qs ++ [(pv, (pts, place))]) :=
        o6.keep ((Upd.refl (fun k => k = R) w6).setCell (p := ⟨R, 0, none⟩) (fun _ => rfl) _) (fun k hk e => by subst hk; obtain ⟨c, hc⟩ := ownsRow_type o6.2 e; rw [hR6] at hc; cases hc) (fun q hq k hk e => by subst hk; obtain ⟨c, hc⟩ := OwnPts.blk (o6.1 q hq) e; rw [hR6] at hc; cases hc)
      have HQ7 := Lib.hid hq7
      have hUF : Upd (fun k => k = R ∨ (Value.slice Al qs.length cpl).ownBlock = some k) w (w6.setCell ⟨R, 0, none⟩ (.slice (some ⟨g, 0, none⟩) (qs.length + 1) cap)) :=
        (((hUw.mono (fun _ _ h => .inl h)).drew).trans (v6.mono (fun _ _ h => .inr h))).setCell (p := ⟨R, 0, none⟩) (fun _ => .inl rfl) _
      have HUF := Lib.hid hUF
      clear hU1 hUw hq1 hp1 hbx r6 o6 v6 hR6 hR7 hq7 hUF hr1 hu1
      refine wp_region_tree 8 (OT.sures [0, 1, 2, 3, 4, 5] (.run 6 (.run 7 .nil))) (fun w' => Upd (fun k => (Value.slice Al qs.length cpl).ownBlock = some k) w1 w') (by kernel_rfl) (by kernel_rfl) (fun c a d v w h => by cases d <;> exact h) (Upd.refl _ _).drew ?_
      simp only [OT.sures]
      iterate 6 (apply wpT_sure rfl rfl; focus (intro w' hw'; have g0 := hw'.heap HR1.out HNA.out; have g1 := hw'.heap HBX.out HNB.out; have c0 : w'.cell? ⟨R, 0, none⟩ = some (.slice Al qs.length cpl) := (by simp [World.cell?, g0, resO]); have c1 : w'.cell? ⟨w.heap.size, 0, none⟩ = some pv := (by simp [World.cell?, g1]); have c2 : w'.cell? ⟨w.heap.size, 1, none⟩ = some (.int .i64 place) := (by simp [World.cell?, g1]); go_simp; rfl))
      refine wpT_run (fun w' => Upd (fun k => (Value.slice Al qs.length cpl).ownBlock = some k) w1 w') (fun _ h => h) rfl (fun K hK => ?_)
      go_simp
      refine hK _ _ ⟨((Upd.refl _ _).alloc _).drew, ?_⟩
      clear hK K
      refine wpT_run (fun w' => Upd (fun k => (Value.slice Al qs.length cpl).ownBlock = some k) w1 w') (fun _ h => h) rfl (fun K hK => ?_)
      rw [if_pos (by rfl)]
      refine wp_append_run _ _ _ rfl rfl rfl R6.out (hK _ _ ⟨V6.out, ?_⟩)
      clear hK K
      refine wpT_nil ?_
      simp only [List.drop_succ_cons, List.drop_zero]
      go_wp2_with fail
      go_end0
      refine ⟨rfl, _, ?_, HQ7.out, HUF.out⟩
      rw [hif1.out, hif2.out]
      exact HR7.out
end Go.Proofs.YtojdgdeefhndiaaGreatDoor
