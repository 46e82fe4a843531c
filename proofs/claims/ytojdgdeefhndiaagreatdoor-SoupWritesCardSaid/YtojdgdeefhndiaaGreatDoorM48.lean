/- Walks of the laws of the polygon files: SoupWrites. -/
import Derived.Test.YtojdgdeefhndiaaGreatDoorM47
import Derived.Test.YtojdgdeefhndiaaGreatDoorM39
import Derived.Test.YtojdgdeefhndiaaGreatDoorM4
namespace Go.Proofs.YtojdgdeefhndiaaGreatDoor
open Go Go.RowKit Sp Bg
set_option maxRecDepth 100000
theorem e_row (w : World) {base : Nat} (hb : base ≤ w.heap.size) : (w.alloc (.cells #[] 43)).ownsRow base 43 2 (.slice (some ⟨w.heap.size, 0, none⟩) 0 0) 0 [] := ⟨rfl, .inr ⟨w.heap.size, 0, _, rfl, hb, heap_alloc_new _ _, Nat.le_refl _, Nat.zero_le _, rfl, rfl⟩⟩
theorem x_row (w : World) {base : Nat} (hb : base ≤ w.heap.size) (pv : Value) (pl : Int) : (w.alloc (.cells #[pv, .int .i64 pl] 43)).ownsRow base 43 2 (.slice (some ⟨w.heap.size, 0, none⟩) 1 1) 1 [pv, .int .i64 pl] := ⟨rfl, .inr ⟨w.heap.size, 1, _, rfl, hb, heap_alloc_new _ _, Nat.le_refl _, by unfold maxLen; decide, rfl, rfl⟩⟩
theorem rdPts_take {w : World} {A : Option Addr} {cap no : Nat} {l : List Pt} (h : RdPts w (.slice A l.length cap) l) (hn : no ≤ l.length) : RdPts w (.slice A no cap) (l.take no) := by
  obtain ⟨A', cap', e, f⟩ := h
  cases e
  refine ⟨A, cap, by rw [List.length_take, Nat.min_eq_left hn], fun h0 => ?_⟩
  rw [List.length_take] at h0
  obtain ⟨b, off, e, g⟩ := f (by omega)
  refine ⟨b, off, e, fun j hj => ?_⟩
  rw [List.getElem_take]
  exact g j (by rw [List.length_take] at hj; omega)
theorem grown_row {w w' : World} {base base' n : Nat} {v u : Value} {xs : List Value} (h : w.ownsRow base 43 2 v n xs) (hg : w.grownBy w' u.ownBlock) (hne : ∀ k, v.ownBlock = some k → u.ownBlock = some k → False) (_hb : base' ≤ base) : w'.ownsRow base 43 2 v n xs :=
  ownsRow_keep h (fun g hv => hg.block g (h.lt g hv).2 (fun e => hne g hv e.symm))
theorem upd_grown_own {wx w w' : World} {n : Nat} {v : Value} {xs : List Value} (hu : Upd noBlk wx w) (h : w.ownsRow wx.heap.size 43 2 v n xs) (hg : w.grownBy w' v.ownBlock) : Upd noBlk wx w' :=
  hu.then (upd_of_grown (F := fun k => v.ownBlock = some k) hg (fun k hk _ => hk)) (fun i hi e => by have := (h.lt i e).1; omega)
set_option maxHeartbeats 3000000 in
theorem lawSoupWrites_c (A : Option Addr) (cap : Nat) (l : List Quad) (n : Int) (A2 : Option Addr) (cap2 : Nat) (odd : List Pt) (hl : l.length ≤ cap) (hc : cap ≤ maxLen) (_hf : (Lit.int .i64 n).wf = true) (hl2 : odd.length ≤ cap2) (hc2 : cap2 ≤ maxLen) (w : World) (hsh : w.ShapedOpen Tryz.prog) (hpow : Pow w) (h : RdQ w A l) (h2 : RdPts w (.slice A2 odd.length cap2) odd) :
    Calls Tryz.prog 9 #[.slice A l.length cap, .int .i64 n, .slice A2 odd.length cap2] w fun en w' => en = .returned (.bool true) ∧ Upd noBlk w w' := by
  have H := Lib.hid h
  have H2 := Lib.hid h2
  have HSH := Lib.hid hsh
  have HC := Lib.hid hc
  have HPW := Lib.hid hpow
  have H1 := Lib.hid (sanity_any w hsh)
  have hcap2 : ((cap2 : Nat) : Int) ≤ 9223372036854775807 := by unfold maxLen at hc2; omega
  have hoc : ((odd.length : Nat) : Int) ≤ ((cap2 : Nat) : Int) := by omega
  obtain ⟨no, hno⟩ : ∃ no : Nat, no = min odd.length 70 := ⟨_, rfl⟩
  have hmin : min ((odd.length : Nat) : Int) 70 = ((no : Nat) : Int) := by omega
  have hnoc : ((no : Nat) : Int) ≤ ((cap2 : Nat) : Int) := by omega
  clear h h2 hsh hc hpow
  go_enter Tryz.func9, Tryz.ntmps9
  go_wp2_with fail
  refine H1.out.mono ?_
  rintro e1 w1 ⟨rfl, u1⟩
  have U1 := Lib.hid u1
  clear u1
  go_wp2_with fail
  refine (qMade_any A cap l hl HC.out w1 (H.out.keep U1.out)).mono ?_
  rintro e1 w2 ⟨v, ps, rfl, hps, hg, ho, u2⟩
  have U2 := Lib.hid (U1.out.trans u2)
  have HG := Lib.hid (goodPs_valid hg)
  obtain ⟨qs, hqs, ho2⟩ := ho
  have HO := Lib.hid ho2
  obtain ⟨Av, cv, hv⟩ := own_form ho2.2
  subst hv
  clear u2 hg ho2
  obtain ⟨m, hm⟩ : ∃ m : Nat, n % 3 = m := ⟨(n % 3).toNat, by omega⟩
  have hm' : m < 3 := by omega
  have hql : qs.length ≤ 20 := by rw [← hqs, List.length_map] at hps; exact hps
  obtain ⟨k, hk⟩ : ∃ k : Nat, k = qs.length / 2 := ⟨_, rfl⟩
  have hdiv : ((qs.length : Nat) : Int).tdiv 2 = ((k : Nat) : Int) := by rw [Int.tdiv_eq_ediv_of_nonneg (by omega)]; omega
  have hkq : ((k : Nat) : Int) ≤ ((qs.length : Nat) : Int) := by omega
  have hkn : k ≤ qs.length := by omega
  have hnc : qs.length ≤ cv := by
    rcases HO.out.2.2 with ⟨e, h0⟩ | ⟨g, cp, cur, e, _, _, h1, _⟩
    · have e' := e; simp only [Value.slice.injEq] at e'; omega
    · simp only [Value.slice.injEq] at e; omega
  have hkc : k ≤ cv := by omega
  clear hk hno
  obtain ⟨wx, hwx⟩ : ∃ wx, wx = w2.alloc (.cells #[.slice A2 no cap2, .int .i64 5] 43) := ⟨_, rfl⟩
  have hbx : wx.heap[w2.heap.size]? = some (.cells #[.slice A2 no cap2, .int .i64 5] 43) := by rw [hwx]; exact heap_alloc_new _ _
  have HUX : Hid (Upd noBlk w2 wx) := by show Upd _ _ _; rw [hwx]; exact (Upd.refl _ _).alloc _
  have X1 : Hid (wx.cell? ⟨w2.heap.size, 0, none⟩ = some (.slice A2 no cap2)) := by show _ = _; simp [World.cell?, hbx]
  have X2 : Hid (wx.cell? ⟨w2.heap.size, 1, none⟩ = some (.int .i64 5)) := by show _ = _; simp [World.cell?, hbx]
  clear hbx
  have HXU := Lib.hid HUX.out
  have HQX : Hid (wx.ownsRow w1.heap.size 43 2 (.slice Av qs.length cv) qs.length (polyVs qs)) := Lib.hid (ownsRow_upd HO.out.2 HUX.out)
  have HONE : Hid (∀ u ∈ polyVs qs, u.oneCell' = true) := one_polys HO.out.2 (fun q hq => by obtain ⟨A, c, e⟩ := own_form (HO.out.1 q hq); rw [e]; rfl)
  have HONET : Hid (∀ u ∈ polyVs (qs.take k), u.oneCell' = true) := fun u hu => HONE.out u (by rw [← polyVs_take hkn] at hu; exact List.mem_of_mem_take hu)
  have HOX1 : Hid (∀ u ∈ ([.slice A2 no cap2, .int .i64 5] : List Value), u.oneCell' = true) := fun u hu => by
    simp only [List.mem_cons, List.not_mem_nil, or_false] at hu
    rcases hu with rfl | rfl <;> rfl
  have HFIN : Hid (∀ (W : World) (v7 : Value), W.ownsRow wx.heap.size 43 2 v7 (k + 1 + (qs.length - k)) (polyVs (qs.take k) ++ [.slice A2 no cap2, .int .i64 5] ++ polyVs (qs.drop k)) → Upd noBlk wx W → RdPolys W v7 (ps.take k ++ [(odd.take no, 5)] ++ ps.drop k)) := fun W v7 ho hu => by
    have e1 : polyVs (qs.take k) ++ [.slice A2 no cap2, .int .i64 5] ++ polyVs (qs.drop k) = polyVs (qs.take k ++ [(.slice A2 no cap2, (odd.take no, 5))] ++ qs.drop k) := by rw [polyVs_app, polyVs_app]; rfl
    have e2 : k + 1 + (qs.length - k) = (qs.take k ++ [((.slice A2 no cap2 : Value), ((odd.take no, 5) : Poly))] ++ qs.drop k).length := by simp; omega
    rw [e1, e2] at ho
    have := rdPolys_of_row ho (fun q hq => by
      have hold : ∀ q, q ∈ qs → RdPts W q.1 q.2.1 := fun q hq => ((HO.out.1 q hq).rd).keep (HXU.out.trans hu)
      simp only [List.mem_append, List.mem_singleton] at hq
      rcases hq with (hq | rfl) | hq
      · exact hold q (List.mem_of_mem_take hq)
      · exact (rdPts_take H2.out (by omega)).keep (((U2.out.trans HXU.out)).trans hu)
      · exact hold q (List.mem_of_mem_drop hq))
    simp only [List.map_append, List.map_take, List.map_drop, List.map_cons, List.map_nil, hqs] at this
    exact this
  go_upto_region 5 with fail
  rw [← hwx]
  clear hwx
  go_cut [11] (fun c wy => RdPolys wy c (ps.take k ++ [(odd.take no, 5)] ++ ps.drop k) ∧ Upd noBlk wx wy)
  case first =>
    refine wp_region_tree 11 (OT.sures [1, 2, 3, 5, 8, 9, 10] (.fork 0 (.fork 4 (.run 6 (.run 7 .nil)) 6 (.run 4 (.run 7 .nil))) 6 (.run 0 (.run 4 (.run 7 .nil))))) (fun w' => Upd noBlk wx w') (by kernel_rfl) (by kernel_rfl) (fun c a d v w h => by cases d <;> exact h) (Upd.refl _ _).drew ?_
    simp only [OT.sures]
    iterate 7 (apply wpT_sure rfl rfl; focus (intro w' hw'; have y1 := hw'.cell X1.out id; have y2 := hw'.cell X2.out id; go_simp; rfl))
    refine wpT_fork (fun w' => Upd noBlk wx w') (fun w' => Upd noBlk wx w') (fun _ h => h) (fun _ h => h) rfl rfl (fun K hK => ?_) (fun K hK => ?_)
    · go_simp
      have hE := e_row wx (Nat.le_refl _)
      have hU0 : Upd noBlk wx (wx.alloc (.cells #[] 43)).drew := ((Upd.refl _ _).alloc _).drew
      refine hK _ _ ⟨hU0, ?_⟩
      clear hK K
      obtain ⟨W0, hW0⟩ : ∃ W0, W0 = (wx.alloc (.cells #[] 43)).drew := ⟨_, rfl⟩
      have hE0 : W0.ownsRow wx.heap.size 43 2 (.slice (some ⟨wx.heap.size, 0, none⟩) 0 0) 0 [] := by rw [hW0]; exact hE
      rw [← hW0] at hU0
      rw [← hW0]
      clear hW0 hE
      refine wpT_fork (fun w' => Upd noBlk wx w') (fun w' => Upd noBlk wx w') (fun _ h => h) (fun _ h => h) rfl rfl (fun K hK => ?_) (fun K hK => ?_)
      · obtain ⟨v4, W4, r4, o4, g4⟩ := app_rows hE0 hU0.size (row_take (ownsRow_upd HQX.out hU0) rfl hkn) HONET.out (by omega)
        have u4 := upd_grown_own hU0 hE0 g4
        rw [if_pos (by rfl)]
        refine wp_append_run _ _ _ rfl rfl rfl r4 ?_
        refine hK _ _ ⟨u4, ?_⟩
        clear hK K
        refine wpT_run (fun w' => Upd noBlk wx w') (fun _ h => h) rfl (fun K hK => ?_)
        go_simp
        refine hK _ _ ⟨u4.alloc _, ?_⟩
        clear hK K
        obtain ⟨v7, W7, r7, o7, g7⟩ := app_rows (o4.alloc (.cells #[.slice A2 no cap2, .int .i64 5] 43)) (u4.alloc _).size (x_row W4 (Nat.le_refl _) (.slice A2 no cap2) 5) HOX1.out (by omega)
        have u7 := upd_grown_own (u4.alloc _) (o4.alloc _) g7
        refine wpT_run (fun w' => Upd noBlk wx w') (fun _ h => h) rfl (fun K hK => ?_)
        rw [if_pos (by rfl)]
        refine wp_append_run _ _ _ rfl rfl rfl r7 ?_
        refine hK _ _ ⟨u7, ?_⟩
        clear hK K
        obtain ⟨v9, W9, r9, o9, g9⟩ := app_drop o7 u7.size (ownsRow_upd HQX.out u7) rfl hkn HONE.out (by omega)
        have u9 := upd_grown_own u7 o7 g9
        have R9 := Lib.hid r9
        have HF9 := Lib.hid (HFIN.out W9 v9 (by rw [Nat.zero_add, List.nil_append] at o9; exact o9) u9)
        have U9 := Lib.hid u9
        clear r4 o4 g4 u4 r7 o7 g7 u7 r9 o9 g9 u9 hE0 hU0
        obtain ⟨S2, hS2⟩ : ∃ S2, S2 = Value.slice (if cv = k then Av else Option.map (fun x => x.add (k * 2)) Av) (qs.length - k) (cv - k) := ⟨_, rfl⟩
        rw [← hS2] at R9
        rw [← hS2]
        clear hS2
        refine wpT_nil ?_
        simp only [List.drop_succ_cons, List.drop_zero]
        go_wp2_with (at_builtin; refine wpList_append_run rfl _ _ _ rfl rfl rfl R9.out ?_)
        go_meet
        case rel => exact ⟨HF9.out, U9.out⟩
      · go_simp
        have hX := x_row W0 (Nat.le_refl _) (.slice A2 no cap2) 5
        have u6 : Upd noBlk wx (W0.alloc (.cells #[.slice A2 no cap2, .int .i64 5] 43)) := hU0.alloc _
        refine hK _ _ ⟨u6, ?_⟩
        clear hK K
        obtain ⟨v4, W4, r4, o4, g4⟩ := app_rows (hE0.alloc (.cells #[.slice A2 no cap2, .int .i64 5] 43)) u6.size (row_take (ownsRow_upd HQX.out u6) rfl hkn) HONET.out (by omega)
        have u4 := upd_grown_own u6 (hE0.alloc _) g4
        have hX4 := grown_row hX g4 (fun k h1 h2 => by
          have e1 : some W0.heap.size = some k := h1
          have e2 : some wx.heap.size = some k := h2
          have := (hE0.lt wx.heap.size rfl).2
          exact absurd (Option.some.inj e1) (by have := Option.some.inj e2; omega)) (Nat.le_refl _)
        refine wpT_run (fun w' => Upd noBlk wx w') (fun _ h => h) rfl (fun K hK => ?_)
        rw [if_pos (by rfl)]
        refine wp_append_run _ _ _ rfl rfl rfl r4 ?_
        refine hK _ _ ⟨u4, ?_⟩
        clear hK K
        obtain ⟨v7, W7, r7, o7, g7⟩ := app_rows o4 u4.size hX4 HOX1.out (by omega)
        have u7 := upd_grown_own u4 o4 g7
        refine wpT_run (fun w' => Upd noBlk wx w') (fun _ h => h) rfl (fun K hK => ?_)
        rw [if_pos (by rfl)]
        refine wp_append_run _ _ _ rfl rfl rfl r7 ?_
        refine hK _ _ ⟨u7, ?_⟩
        clear hK K
        obtain ⟨v9, W9, r9, o9, g9⟩ := app_drop o7 u7.size (ownsRow_upd HQX.out u7) rfl hkn HONE.out (by omega)
        have u9 := upd_grown_own u7 o7 g9
        have R9 := Lib.hid r9
        have HF9 := Lib.hid (HFIN.out W9 v9 (by rw [Nat.zero_add, List.nil_append] at o9; exact o9) u9)
        have U9 := Lib.hid u9
        clear r4 o4 g4 u4 r7 o7 g7 u7 r9 o9 g9 u9 hE0 hU0 hX hX4 u6
        obtain ⟨S2, hS2⟩ : ∃ S2, S2 = Value.slice (if cv = k then Av else Option.map (fun x => x.add (k * 2)) Av) (qs.length - k) (cv - k) := ⟨_, rfl⟩
        rw [← hS2] at R9
        rw [← hS2]
        clear hS2
        refine wpT_nil ?_
        simp only [List.drop_succ_cons, List.drop_zero]
        go_wp2_with (at_builtin; refine wpList_append_run rfl _ _ _ rfl rfl rfl R9.out ?_)
        go_meet
        case rel => exact ⟨HF9.out, U9.out⟩
    · go_simp
      have hX := x_row wx (Nat.le_refl _) (.slice A2 no cap2) 5
      have hU0 : Upd noBlk wx (wx.alloc (.cells #[.slice A2 no cap2, .int .i64 5] 43)).drew := ((Upd.refl _ _).alloc _).drew
      refine hK _ _ ⟨hU0, ?_⟩
      clear hK K
      obtain ⟨W0, hW0⟩ : ∃ W0, W0 = (wx.alloc (.cells #[.slice A2 no cap2, .int .i64 5] 43)).drew := ⟨_, rfl⟩
      have hX0 : W0.ownsRow wx.heap.size 43 2 (.slice (some ⟨wx.heap.size, 0, none⟩) 1 1) 1 [.slice A2 no cap2, .int .i64 5] := by rw [hW0]; exact hX
      rw [← hW0] at hU0
      rw [← hW0]
      clear hW0 hX
      refine wpT_run (fun w' => Upd noBlk wx w') (fun _ h => h) rfl (fun K hK => ?_)
      go_simp
      have hE0 := e_row W0 hU0.size
      have u6 : Upd noBlk wx (W0.alloc (.cells #[] 43)) := hU0.alloc _
      refine hK _ _ ⟨u6, ?_⟩
      clear hK K
      obtain ⟨v4, W4, r4, o4, g4⟩ := app_rows hE0 u6.size (row_take (ownsRow_upd HQX.out u6) rfl hkn) HONET.out (by omega)
      have u4 := upd_grown_own u6 hE0 g4
      have hX4 := grown_row (hX0.alloc (.cells #[] 43)) g4 (fun k h1 h2 => by
        have e1 : some wx.heap.size = some k := h1
        have e2 : some W0.heap.size = some k := h2
        have := (hX0.lt wx.heap.size rfl).2
        exact absurd (Option.some.inj e1) (by have := Option.some.inj e2; omega)) (Nat.le_refl _)
      refine wpT_run (fun w' => Upd noBlk wx w') (fun _ h => h) rfl (fun K hK => ?_)
      rw [if_pos (by rfl)]
      refine wp_append_run _ _ _ rfl rfl rfl r4 ?_
      refine hK _ _ ⟨u4, ?_⟩
      clear hK K
      obtain ⟨v7, W7, r7, o7, g7⟩ := app_rows o4 u4.size hX4 HOX1.out (by omega)
      have u7 := upd_grown_own u4 o4 g7
      refine wpT_run (fun w' => Upd noBlk wx w') (fun _ h => h) rfl (fun K hK => ?_)
      rw [if_pos (by rfl)]
      refine wp_append_run _ _ _ rfl rfl rfl r7 ?_
      refine hK _ _ ⟨u7, ?_⟩
      clear hK K
      obtain ⟨v9, W9, r9, o9, g9⟩ := app_drop o7 u7.size (ownsRow_upd HQX.out u7) rfl hkn HONE.out (by omega)
      have u9 := upd_grown_own u7 o7 g9
      have R9 := Lib.hid r9
      have HF9 := Lib.hid (HFIN.out W9 v9 (by rw [Nat.zero_add, List.nil_append] at o9; exact o9) u9)
      have U9 := Lib.hid u9
      clear r4 o4 g4 u4 r7 o7 g7 u7 r9 o9 g9 u9 hE0 hU0 hX0 hX4 u6
      obtain ⟨S2, hS2⟩ : ∃ S2, S2 = Value.slice (if cv = k then Av else Option.map (fun x => x.add (k * 2)) Av) (qs.length - k) (cv - k) := ⟨_, rfl⟩
      rw [← hS2] at R9
      rw [← hS2]
      clear hS2
      refine wpT_nil ?_
      simp only [List.drop_succ_cons, List.drop_zero]
      go_wp2_with (at_builtin; refine wpList_append_run rfl _ _ _ rfl rfl rfl R9.out ?_)
      go_meet
      case rel => exact ⟨HF9.out, U9.out⟩
  case rest =>
    obtain ⟨hrd, hu5⟩ := hcut
    have HRD := Lib.hid hrd
    have UX := Lib.hid ((U2.out.trans HXU.out).trans hu5)
    have HRP : Hid (RdPolys wc (.slice Av qs.length cv) ps) := by
      have := OwnPolys.rd ⟨qs, hqs, HO.out⟩
      exact this.keep (HXU.out.trans hu5)
    have HQL : Hid ((ps.take k ++ [(odd.take no, 5)] ++ ps.drop k).length ≤ 100) := by
      show _ ≤ _
      rw [List.length_append, List.length_append, List.length_take, List.length_drop]; simp; omega
    have HPL1 : Hid (∀ p, p ∈ ps → p.1.length ≤ 4294967296) := fun p hp => by have := (HG.out p hp).2.1; omega
    have HPL2 : Hid (∀ p, p ∈ ps.take k ++ [(odd.take no, 5)] ++ ps.drop k → p.1.length ≤ 4294967296) := fun p hp => by
      simp only [List.mem_append, List.mem_singleton] at hp
      rcases hp with (hp | rfl) | hp
      · exact HPL1.out p (List.mem_of_mem_take hp)
      · simp; omega
      · exact HPL1.out p (List.mem_of_mem_drop hp)
    have hp100 : ps.length ≤ 100 := by omega
    generalize ps.take k ++ [((odd.take no, 5) : Poly)] ++ ps.drop k = ps2 at *
    obtain ⟨v2, cq, Aq, lq, hv2⟩ : ∃ (v2 : Value) (cq : Nat) (Aq : Option Addr) (lq : Nat), u11 = .slice Aq lq cq := by
      obtain ⟨A, c, e, _⟩ := HRD.out
      exact ⟨.nilIface, _, _, _, e⟩
    subst hv2
    have HARR : Hid ((wc.alloc (.cells #[.int .i64 n, .int .i64 (1 + (m : Int))] 47)).heap[wc.heap.size]? = some (.cells #[.int .i64 n, .int .i64 (1 + (m : Int))] 47)) := heap_alloc_new _ _
    have HUW : Hid (Upd noBlk wc (wc.alloc (.cells #[.int .i64 n, .int .i64 (1 + (m : Int))] 47))) := (Upd.refl _ _).alloc _
    clear hrd hu5
    go_wp2_with (go_at_call 16; refine (Mod_any _ _ (by decide) (by decide) _).mono ?_; rintro e1 w1 ⟨rfl, rfl⟩)
    go_loopw [13, 14, 15, 16, 17, 18, 19, 20, 21] (fun i _ _ _ _ _ _ _ _ wr => ∃ j : Nat, i = .int .i64 j ∧ j ≤ 2 ∧ wr.heap[wc.heap.size]? = some (.cells #[.int .i64 n, .int .i64 (1 + (m : Int))] 47) ∧ Upd noBlk wc wr) (fun i _ _ _ _ _ _ _ _ _ => 2 - (intOf i).toNat)
    case atStart => exact ⟨0, rfl, Nat.zero_le _, HARR.out, HUW.out⟩
    case round =>
      obtain ⟨j, rfl, hj, hb, hu⟩ := hrel
      have HB := Lib.hid hb
      have HU := Lib.hid hu
      clear hu
      by_cases hlt : j < 2
      · have hlt' : ((j : Nat) : Int) < 2 := by omega
        obtain ⟨z, hz⟩ : ∃ z : Int, (#[Value.int .i64 n, .int .i64 (1 + (m : Int))] : Array Value)[j]? = some (.int .i64 z) := by
          have hc : j = 0 ∨ j = 1 := by omega
          rcases hc with rfl | rfl
          · exact ⟨_, rfl⟩
          · exact ⟨_, rfl⟩
        have HZ := Lib.hid hz
        have z1 : wr.cell? ⟨wc.heap.size, j, none⟩ = some (.int .i64 z) := by rw [cell_of_row _ _ _ _ _ _ hb]; exact hz
        have HC1 := Lib.hid (pWrite_any z _ ps hp100 HPL1.out wr (HPW.out.keep (UX.out.trans HU.out)) (HRP.out.keep HU.out))
        clear hb hz
        go_wp2_with fail
        refine HC1.out.mono ?_
        rintro e1 w5 ⟨rfl, u5⟩
        have U5 := Lib.hid (HU.out.trans u5)
        have hb5 := u5.heap HB.out id
        have HB5 := Lib.hid hb5
        have z5 : w5.cell? ⟨wc.heap.size, j, none⟩ = some (.int .i64 z) := by rw [cell_of_row _ _ _ _ _ _ hb5]; exact HZ.out
        have HC2 := Lib.hid (qWrite_any z _ ps hp100 w5 (HRP.out.keep U5.out))
        clear hb5 u5 z1
        go_wp2_with fail
        refine HC2.out.mono ?_
        rintro e1 w6 ⟨rfl, u6⟩
        have U6 := Lib.hid (U5.out.trans u6)
        have hb6 := u6.heap HB5.out id
        have HB6 := Lib.hid hb6
        have z6 : w6.cell? ⟨wc.heap.size, j, none⟩ = some (.int .i64 z) := by rw [cell_of_row _ _ _ _ _ _ hb6]; exact HZ.out
        have HC3 := Lib.hid (pWrite_any z _ ps2 HQL.out HPL2.out w6 (HPW.out.keep (UX.out.trans U6.out)) (HRD.out.keep U6.out))
        clear hb6 u6 z5
        go_wp2_with fail
        refine HC3.out.mono ?_
        rintro e1 w7 ⟨rfl, u7⟩
        have U7 := Lib.hid (U6.out.trans u7)
        have hb7 := u7.heap HB6.out id
        have HB7 := Lib.hid hb7
        have z7 : w7.cell? ⟨wc.heap.size, j, none⟩ = some (.int .i64 z) := by rw [cell_of_row _ _ _ _ _ _ hb7]; exact HZ.out
        have HC4 := Lib.hid (qWrite_any z _ ps2 HQL.out w7 (HRD.out.keep U7.out))
        clear hb7 u7 z6
        go_wp2_with fail
        refine HC4.out.mono ?_
        rintro e1 w8 ⟨rfl, u8⟩
        have U8 := Lib.hid (U7.out.trans u8)
        have HB8 := Lib.hid (u8.heap HB7.out id)
        clear u8 z7
        go_wp2_with fail
        exact ⟨⟨j + 1, by go_num, hlt, HB8.out, U8.out⟩, by simp [intOf]; omega⟩
      · obtain rfl : j = 2 := by omega
        go_wp2_with fail
        go_ret
        exact ⟨rfl, UX.out.trans HU.out⟩
end Go.Proofs.YtojdgdeefhndiaaGreatDoor
