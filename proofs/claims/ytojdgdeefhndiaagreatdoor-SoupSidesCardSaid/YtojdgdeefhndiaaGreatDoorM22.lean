/- Walks of the reference of the polygon files: three. -/
import Derived.Test.YtojdgdeefhndiaaGreatDoorM21
namespace Go.Proofs.YtojdgdeefhndiaaGreatDoor
open Go Go.RowKit Sp
set_option maxRecDepth 100000

theorem three_bad {s : Bytes} {p e : Nat} (h : numS s 4 4 65536 2 = .bad p e) : threeS s = .bad p e := by unfold threeS; rw [h]
theorem three_ok {s : Bytes} {n : Nat} (h : numS s 4 4 65536 2 = .ok n) : threeS s = polysB s 8 n [] := by unfold threeS; rw [h]
theorem OutI.end1 {s : Bytes} {many at_ k : Nat} {ps : List Poly} {pl e : Nat} (h : OutI s many at_ k ps pl e) (hlt : ¬ (k < many ∧ e = 0)) (hk : k ≤ many) (ha : at_ < s.length) :
    threeS s = .bad (if e = 0 then at_ else pl) (if e = 0 then 13 else e) ∧ (if e = 0 then 13 else e) ≠ 0 := by
  rcases h with ⟨rfl, h1, h2, h3⟩ | ⟨he, h⟩
  · obtain rfl : k = many := by
      by_cases c : k < many
      · exact absurd ⟨c, rfl⟩ hlt
      · omega
    simp only [if_true]
    rw [h3, Nat.sub_self]
    unfold polysB
    rw [if_neg (by omega)]
    exact ⟨rfl, by decide⟩
  · rw [if_neg he, if_neg he]
    exact ⟨h, he⟩
theorem OutI.end2 {s : Bytes} {many at_ k : Nat} {ps : List Poly} {pl e : Nat} (h : OutI s many at_ k ps pl e) (hlt : ¬ (k < many ∧ e = 0)) (hk : k ≤ many) (ha : ¬ at_ < s.length) :
    (e = 0 ∧ threeS s = .ok ps) ∨ (e ≠ 0 ∧ threeS s = .bad pl e) := by
  rcases h with ⟨rfl, h1, h2, h3⟩ | ⟨he, h⟩
  · obtain rfl : k = many := by
      by_cases c : k < many
      · exact absurd ⟨c, rfl⟩ hlt
      · omega
    refine .inl ⟨rfl, ?_⟩
    rw [h3, Nat.sub_self]
    unfold polysB
    rw [if_pos (by omega)]
  · exact .inr ⟨he, h⟩
set_option maxHeartbeats 1500000 in
theorem qthree_any (s : Bytes) (hs : s.length ≤ 4294967290) (w : World) :
    Calls Tryz.prog 39 #[.string (bs s)] w fun en w' => resR (threeS s) w en w' := by
  have hb : (bs s).size = s.length := bs_size s
  have HF0 := Lib.hid (qfixed_any s 4 4 (by omega) (by omega) (by omega) (w.alloc (resO (.slice none 0 0) 0 0)))
  have HR0 : Hid ((w.alloc (resO (.slice none 0 0) 0 0)).heap[w.heap.size]? = some (resO (.slice none 0 0) 0 0)) := heap_alloc_new _ _
  have HU0 : Hid (Upd noBlk w (w.alloc (resO (.slice none 0 0) 0 0))) := (Upd.refl _ _).alloc _
  by_cases c1 : s.length < 4 + 4
  · obtain ⟨f1, f2⟩ := fixI_short (most := 65536) (e := 2) c1
    have hsp := Lib.hid (three_bad f2)
    rw [f1] at HF0
    have HF1 := Lib.hid (qfail_any w.heap.size (.slice none 0 0) 0 0 s.length 12 _ HR0.out)
    clear f1 f2 c1
    go_enter Tryz.func39, Tryz.ntmps39
    go_wp2_with fail
    refine HF0.out.mono ?_
    rintro e1 w1 ⟨rfl, rfl⟩
    go_wp2_with fail
    refine HF1.out.mono ?_
    rintro e1 w2 ⟨rfl, u2, hr2⟩
    have U2 := Lib.hid (HU0.out.then u2 (fun i hi e => by omega))
    have HR2 : Hid (w2.heap[w.heap.size]? = some (resO (.slice none 0 0) s.length 12)) := hr2
    clear u2 hr2 HF1 HF0
    go_wp2_with fail
    go_loopw [5, 6, 7, 8, 9, 10, 11] (fun v i _ _ _ _ _ wr => v = .int .i64 8 ∧ i = .int .i64 0 ∧ wr = w2) (fun _ _ _ _ _ _ _ _ => 0)
    case atStart => exact ⟨rfl, rfl, rfl⟩
    case round =>
      obtain ⟨rfl, rfl, rfl⟩ := hrel
      have HF2 := Lib.hid (qfail_keep w.heap.size (.slice none 0 0) s.length 12 8 13 (by decide) _ HR2.out)
      by_cases h8 : (8 : Int) < ((s.length : Nat) : Int)
      · go_wp2_with fail
        refine HF2.out.mono ?_
        rintro e1 w3 ⟨rfl, rfl⟩
        go_wp2_with fail
        go_ret
        exact ⟨_, _, s.length, 12, rfl, HR2.out, U2.out, by rw [hsp.out]; exact ⟨rfl, rfl, by decide⟩⟩
      · go_wp2_with fail
        go_ret
        exact ⟨_, _, s.length, 12, rfl, HR2.out, U2.out, by rw [hsp.out]; exact ⟨rfl, rfl, by decide⟩⟩
  · by_cases c2 : 65536 < leNat ((s.drop 4).take 4)
    · obtain ⟨f1, f2⟩ := fixI_much (e := 2) c1 c2
      have hsp := Lib.hid (three_bad f2)
      rw [f1] at HF0
      generalize leNat ((s.drop 4).take 4) = many at *
      have c2' : (65536 : Int) < ((many : Nat) : Int) := by omega
      have c3 : ¬ ((many : Nat) : Int) < 0 := by omega
      have HF1 := Lib.hid (qfail_any w.heap.size (.slice none 0 0) 0 0 4 2 _ HR0.out)
      clear f1 f2 c1 c2
      go_enter Tryz.func39, Tryz.ntmps39
      go_wp2_with fail
      refine HF0.out.mono ?_
      rintro e1 w1 ⟨rfl, rfl⟩
      go_wp2_with fail
      refine HF1.out.mono ?_
      rintro e1 w2 ⟨rfl, u2, hr2⟩
      have U2 := Lib.hid (HU0.out.then u2 (fun i hi e => by omega))
      have HR2 : Hid (w2.heap[w.heap.size]? = some (resO (.slice none 0 0) 4 2)) := hr2
      have ce : w2.cell? ⟨w.heap.size, 2, none⟩ = some (.int .i64 (2 : Nat)) := by simp [World.cell?, hr2, resO]
      have CE := Lib.hid ce
      clear ce u2 hr2 HF1 HF0
      go_wp2_with fail
      go_loopw [5, 6, 7, 8, 9, 10, 11] (fun v i _ _ _ _ _ wr => v = .int .i64 8 ∧ i = .int .i64 0 ∧ wr = w2) (fun _ _ _ _ _ _ _ _ => 0)
      case atStart => exact ⟨rfl, rfl, rfl⟩
      case round =>
        obtain ⟨rfl, rfl, rfl⟩ := hrel
        have ce := CE.out
        have c4 : (0 : Int) < ((many : Nat) : Int) := by omega
        have HF2 := Lib.hid (qfail_keep w.heap.size (.slice none 0 0) 4 2 8 13 (by decide) _ HR2.out)
        by_cases h8 : (8 : Int) < ((s.length : Nat) : Int)
        · go_wp2_with fail
          refine HF2.out.mono ?_
          rintro e1 w3 ⟨rfl, rfl⟩
          go_wp2_with fail
          go_ret
          exact ⟨_, _, 4, 2, rfl, HR2.out, U2.out, by rw [hsp.out]; exact ⟨rfl, rfl, by decide⟩⟩
        · go_wp2_with fail
          go_ret
          exact ⟨_, _, 4, 2, rfl, HR2.out, U2.out, by rw [hsp.out]; exact ⟨rfl, rfl, by decide⟩⟩
    · obtain ⟨f1, f2⟩ := fixI_ok (e := 2) c1 c2
      have hsp := Lib.hid (three_ok f2)
      rw [f1] at HF0
      have h8 : 8 ≤ s.length := by omega
      generalize leNat ((s.drop 4).take 4) = many at *
      have c2' : ¬ (65536 : Int) < ((many : Nat) : Int) := by omega
      have c3 : ¬ ((many : Nat) : Int) < 0 := by omega
      have HM : Hid (many ≤ 65536) := by show _ ≤ _; omega
      have HI : Hid (OutI s many 8 0 [] 0 0) := .inl ⟨rfl, h8, by omega, hsp.out⟩
      clear f1 f2 c1 c2 h8
      go_enter Tryz.func39, Tryz.ntmps39
      go_wp2_with fail
      refine HF0.out.mono ?_
      rintro e1 w1 ⟨rfl, rfl⟩
      clear HF0
      go_wp2_with fail
      go_loopw [5, 6, 7, 8, 9, 10, 11] (fun v i _ _ _ _ _ wr => ∃ (k at_ : Nat) (vl : Value) (qs : List (Value × Poly)) (pl e : Nat), v = .int .i64 at_ ∧ i = .int .i64 k ∧ k ≤ many ∧ qs.length = k ∧ wr.heap[w.heap.size]? = some (resO vl pl e) ∧ OwnQs w.heap.size wr vl qs ∧ Upd noBlk w wr ∧ OutI s many at_ k (qs.map (·.2)) pl e) (fun _ i _ _ _ _ _ _ => many - (intOf i).toNat)
      case atStart => exact ⟨0, 8, _, [], 0, 0, rfl, rfl, Nat.zero_le _, rfl, HR0.out, ⟨fun q h => (by cases h), World.ownsRow_nil _ _ _ _⟩, HU0.out, HI.out⟩
      case round =>
        obtain ⟨k, at_, vl, qs, pl, e, rfl, rfl, hk, hql, hr, hq, hu, hI⟩ := hrel
        have ce : wr.cell? ⟨w.heap.size, 2, none⟩ = some (.int .i64 e) := by simp [World.cell?, hr, resO]
        have HR := Lib.hid hr
        have HQ := Lib.hid hq
        have HU := Lib.hid hu
        have HIK := Lib.hid hI
        clear hr hq hu hI
        by_cases hlt : k < many ∧ e = 0
        · obtain ⟨hkm, rfl⟩ := hlt
          have hkm' : ((k : Nat) : Int) < ((many : Nat) : Int) := by omega
          have hcur : Hid (at_ ≤ s.length ∧ threeS s = polysB s at_ (many - k) (qs.map (·.2))) := by
            rcases HIK.out with ⟨_, ha, _, hsp3⟩ | ⟨h, _⟩
            · exact ⟨ha, hsp3⟩
            · exact absurd rfl h
          have hst : Hid (many - k = (many - (k + 1)) + 1) := by show _ = _; omega
          have HF1 := Lib.hid (qfixed_any s at_ 1 (by omega) (by have := hcur.out.1; omega) (by omega) wr)
          obtain ⟨Al, cpl, rfl⟩ := HQ.out.len
          have HQL := Lib.hid hql
          clear hql
          have hatb : ((at_ : Nat) : Int) ≤ 4294967296 := by have := hcur.out.1; omega
          by_cases d1 : s.length < at_ + 1
          · obtain ⟨f1, f2⟩ := fixI_short (most := 64) (e := 2) d1
            have hbad : Hid (threeS s = .bad s.length 12) := by show _ = _; rw [hcur.out.2, hst.out]; exact polysB_short f2
            rw [f1] at HF1
            have HFA := Lib.hid (qfail_any w.heap.size (.slice Al qs.length cpl) pl 0 s.length 12 wr HR.out)
            clear f1 f2
            go_wp2_with fail
            refine HF1.out.mono ?_
            rintro e1 w2 ⟨rfl, rfl⟩
            go_wp2_with fail
            refine HFA.out.mono ?_
            rintro e1 w2 ⟨rfl, u2, hr2⟩
            have UF := Lib.hid u2
            have HR2 : Hid (w2.heap[w.heap.size]? = some (resO (.slice Al qs.length cpl) s.length 12)) := hr2
            clear u2 hr2 HFA
            go_wp2_with fail
            obtain ⟨w3, hw3⟩ : ∃ x, x = w2.alloc (.cells #[.slice none 0 0, .int .i64 at_] 43) := ⟨_, rfl⟩
            have hr3 : w3.heap[w.heap.size]? = some (resO (.slice Al qs.length cpl) s.length 12) := by rw [hw3]; exact heap_alloc_keep _ HR2.out
            have hp3 : w3.heap[w2.heap.size]? = some (.cells #[.slice none 0 0, .int .i64 at_] 43) := by rw [hw3]; exact heap_alloc_new _ _
            have hu3 : Upd (fun k => k = w.heap.size) wr w3 := by rw [hw3]; exact UF.out.alloc _
            rw [← hw3]
            clear hw3
            have ce3 : w3.cell? ⟨w.heap.size, 2, none⟩ = some (.int .i64 (12 : Nat)) := by simp [World.cell?, hr3, resO]
            have CE3 := Lib.hid ce3
            have HR3 := Lib.hid hr3
            have HP3 := Lib.hid hp3
            have HU3 := Lib.hid hu3
            clear ce3 hr3 hp3 hu3
            obtain ⟨wo, rfl⟩ : ∃ wo : World, wo = wr := ⟨_, rfl⟩
            go_loopw [5, 9, 10, 11] (fun v j _ _ wr' => v = .int .i64 ((at_ : Int) + 1) ∧ j = .int .i64 0 ∧ w3 = wr') (fun _ _ _ _ _ => 0)
            case atStart => exact ⟨rfl, rfl, rfl⟩
            case round =>
              obtain ⟨rfl, rfl, rfl⟩ := hrel
              have ce3 := CE3.out
              go_wp2_with fail
              have hr1 := HR3.out
              have hbx := HP3.out
              have hql' : qs.length < 65537 := by have := HQL.out; have := HM.out; omega
              have hq1 : OwnQs w.heap.size w3 (.slice Al qs.length cpl) qs := HQ.out.keep HU3.out (fun k hk e => by subst hk; obtain ⟨c, hc⟩ := ownsRow_type HQ.out.2 e; rw [HR.out] at hc; cases hc) (fun q hq k hk e => by subst hk; obtain ⟨c, hc⟩ := OwnPts.blk (HQ.out.1 q hq) e; rw [HR.out] at hc; cases hc)
              have hp1 : OwnPts w.heap.size w3 (.slice none 0 0) [] := OwnPts.nil _ _
              have hb1 : w.heap.size ≤ w3.heap.size := by have := HU.out.size; have := HU3.out.size; omega
              obtain ⟨g, cap, w6, r6, o6, v6, hat⟩ := append_polyQ (w := w3.drew) (base := w.heap.size) (q := ([], at_)) hb1 (hq1.keep (Upd.refl noBlk w3).drew (fun k hk => hk.elim) (fun q hq k hk => hk.elim)) (OwnPts.upd hp1 (Upd.refl noBlk w3).drew) (by omega) rfl
              have hNR : ¬ (Value.slice Al qs.length cpl).ownBlock = some w.heap.size := fun e => by obtain ⟨c, hc⟩ := ownsRow_type hq1.2 e; rw [hr1] at hc; cases hc
              have hNB : ¬ (Value.slice Al qs.length cpl).ownBlock = some w2.heap.size := fun e => by have := (HQ.out.2.lt _ e).2; have := UF.out.size; omega
              have hR6 : w6.heap[w.heap.size]? = some (resO (.slice Al qs.length cpl) s.length 12) := v6.heap hr1 hNR
              have cR0 : w6.cell? ⟨w.heap.size, 0, none⟩ = some (.slice Al qs.length cpl) := by simp [World.cell?, hR6, resO]
              have zR0 : w6.frozen? ⟨w.heap.size, 0, none⟩ = false := by simp [World.frozen?, hR6, resO]
              have HR6 := Lib.hid hR6
              have HNR := Lib.hid hNR
              have HNB := Lib.hid hNB
              have R6 := Lib.hid r6
              have O6 := Lib.hid o6
              have V6 : Hid (Upd (fun k => (Value.slice Al qs.length cpl).ownBlock = some k) w3 w6) := (Upd.refl _ w3).drew.trans v6
              clear hr1 hbx hq1 hp1 r6 o6 v6 hat hNR hNB hR6
              refine wp_region_tree 8 (OT.sures [0, 1, 2, 3, 4, 5] (.run 6 (.run 7 .nil))) (fun w' => Upd (fun k => (Value.slice Al qs.length cpl).ownBlock = some k) w3 w') (by kernel_rfl) (by kernel_rfl) (fun c a d v w h => by cases d <;> exact h) (Upd.refl _ _).drew ?_
              simp only [OT.sures]
              iterate 6 (apply wpT_sure rfl rfl; focus (intro w' hw'; have g0 := hw'.heap HR3.out HNR.out; have g1 := hw'.heap HP3.out HNB.out; have c0 : w'.cell? ⟨w.heap.size, 0, none⟩ = some (.slice Al qs.length cpl) := (by simp [World.cell?, g0, resO]); have c1 : w'.cell? ⟨w2.heap.size, 0, none⟩ = some (.slice none 0 0) := (by simp [World.cell?, g1]); have c2 : w'.cell? ⟨w2.heap.size, 1, none⟩ = some (.int .i64 at_) := (by simp [World.cell?, g1]); go_simp; rfl))
              refine wpT_run (fun w' => Upd (fun k => (Value.slice Al qs.length cpl).ownBlock = some k) w3 w') (fun _ h => h) rfl (fun K hK => ?_)
              go_simp
              refine hK _ _ ⟨((Upd.refl _ _).alloc _).drew, ?_⟩
              clear hK K
              refine wpT_run (fun w' => Upd (fun k => (Value.slice Al qs.length cpl).ownBlock = some k) w3 w') (fun _ h => h) rfl (fun K hK => ?_)
              rw [if_pos (by rfl)]
              refine wp_append_run _ _ _ rfl rfl rfl R6.out (hK _ _ ⟨V6.out, ?_⟩)
              clear hK K
              refine wpT_nil ?_
              simp only [List.drop_succ_cons, List.drop_zero]
              go_wp2_with fail
              refine ⟨⟨k + 1, at_ + 1, .slice (some ⟨g, 0, none⟩) (qs.length + 1) cap, qs ++ [(.slice none 0 0, ([], at_))], s.length, 12, by go_num, by go_num, hkm, by rw [List.length_append, HQL.out]; rfl, (heap_setCell_eq (i := 0) _ HR6.out).trans rfl, ?_, ?_, .inr ⟨by decide, hbad.out⟩⟩, by simp [intOf]; omega⟩
              · exact O6.out.keep ((Upd.refl (fun k => k = w.heap.size) w6).setCell (p := ⟨w.heap.size, 0, none⟩) (fun _ => rfl) _) (fun k hk e => by subst hk; obtain ⟨c, hc⟩ := ownsRow_type O6.out.2 e; rw [HR6.out] at hc; cases hc) (fun q hq k hk e => by subst hk; obtain ⟨c, hc⟩ := OwnPts.blk (O6.out.1 q hq) e; rw [HR6.out] at hc; cases hc)
              · exact HU.out.then (((HU3.out.mono (fun _ _ h => .inl h)).trans (V6.out.mono (fun _ _ h => .inr h))).setCell (F := fun k => k = w.heap.size ∨ (Value.slice Al qs.length cpl).ownBlock = some k) (p := ⟨w.heap.size, 0, none⟩) (fun _ => .inl rfl) _) (fun i hi e => by
                  rcases e with rfl | e
                  · omega
                  · have := (HQ.out.2.lt _ e).1; omega)
          · by_cases d2 : 64 < leNat ((s.drop at_).take 1)
            · obtain ⟨f1, f2⟩ := fixI_much (e := 2) d1 d2
              have hbad : Hid (threeS s = .bad at_ 2) := by show _ = _; rw [hcur.out.2, hst.out]; exact polysB_short f2
              rw [f1] at HF1
              have HFA := Lib.hid (qfail_any w.heap.size (.slice Al qs.length cpl) pl 0 at_ 2 wr HR.out)
              generalize leNat ((s.drop at_).take 1) = n at *
              have d3 : ¬ ((n : Nat) : Int) < 0 := by omega
              have d4 : (64 : Int) < ((n : Nat) : Int) := by omega
              have d5 : (0 : Int) < ((n : Nat) : Int) := by omega
              clear d1 d2
              clear f1 f2
              go_wp2_with fail
              refine HF1.out.mono ?_
              rintro e1 w2 ⟨rfl, rfl⟩
              go_wp2_with fail
              refine HFA.out.mono ?_
              rintro e1 w2 ⟨rfl, u2, hr2⟩
              have UF := Lib.hid u2
              have HR2 : Hid (w2.heap[w.heap.size]? = some (resO (.slice Al qs.length cpl) at_ 2)) := hr2
              clear u2 hr2 HFA
              go_wp2_with fail
              obtain ⟨w3, hw3⟩ : ∃ x, x = w2.alloc (.cells #[.slice none 0 0, .int .i64 at_] 43) := ⟨_, rfl⟩
              have hr3 : w3.heap[w.heap.size]? = some (resO (.slice Al qs.length cpl) at_ 2) := by rw [hw3]; exact heap_alloc_keep _ HR2.out
              have hp3 : w3.heap[w2.heap.size]? = some (.cells #[.slice none 0 0, .int .i64 at_] 43) := by rw [hw3]; exact heap_alloc_new _ _
              have hu3 : Upd (fun k => k = w.heap.size) wr w3 := by rw [hw3]; exact UF.out.alloc _
              rw [← hw3]
              clear hw3
              have ce3 : w3.cell? ⟨w.heap.size, 2, none⟩ = some (.int .i64 (2 : Nat)) := by simp [World.cell?, hr3, resO]
              have CE3 := Lib.hid ce3
              have HR3 := Lib.hid hr3
              have HP3 := Lib.hid hp3
              have HU3 := Lib.hid hu3
              clear ce3 hr3 hp3 hu3
              obtain ⟨wo, rfl⟩ : ∃ wo : World, wo = wr := ⟨_, rfl⟩
              go_loopw [5, 9, 10, 11] (fun v j _ _ wr' => v = .int .i64 ((at_ : Int) + 1) ∧ j = .int .i64 0 ∧ w3 = wr') (fun _ _ _ _ _ => 0)
              case atStart => exact ⟨rfl, rfl, rfl⟩
              case round =>
                obtain ⟨rfl, rfl, rfl⟩ := hrel
                have ce3 := CE3.out
                go_wp2_with fail
                have hr1 := HR3.out
                have hbx := HP3.out
                have hql' : qs.length < 65537 := by have := HQL.out; have := HM.out; omega
                have hq1 : OwnQs w.heap.size w3 (.slice Al qs.length cpl) qs := HQ.out.keep HU3.out (fun k hk e => by subst hk; obtain ⟨c, hc⟩ := ownsRow_type HQ.out.2 e; rw [HR.out] at hc; cases hc) (fun q hq k hk e => by subst hk; obtain ⟨c, hc⟩ := OwnPts.blk (HQ.out.1 q hq) e; rw [HR.out] at hc; cases hc)
                have hp1 : OwnPts w.heap.size w3 (.slice none 0 0) [] := OwnPts.nil _ _
                have hb1 : w.heap.size ≤ w3.heap.size := by have := HU.out.size; have := HU3.out.size; omega
                obtain ⟨g, cap, w6, r6, o6, v6, hat⟩ := append_polyQ (w := w3.drew) (base := w.heap.size) (q := ([], at_)) hb1 (hq1.keep (Upd.refl noBlk w3).drew (fun k hk => hk.elim) (fun q hq k hk => hk.elim)) (OwnPts.upd hp1 (Upd.refl noBlk w3).drew) (by omega) rfl
                have hNR : ¬ (Value.slice Al qs.length cpl).ownBlock = some w.heap.size := fun e => by obtain ⟨c, hc⟩ := ownsRow_type hq1.2 e; rw [hr1] at hc; cases hc
                have hNB : ¬ (Value.slice Al qs.length cpl).ownBlock = some w2.heap.size := fun e => by have := (HQ.out.2.lt _ e).2; have := UF.out.size; omega
                have hR6 : w6.heap[w.heap.size]? = some (resO (.slice Al qs.length cpl) at_ 2) := v6.heap hr1 hNR
                have cR0 : w6.cell? ⟨w.heap.size, 0, none⟩ = some (.slice Al qs.length cpl) := by simp [World.cell?, hR6, resO]
                have zR0 : w6.frozen? ⟨w.heap.size, 0, none⟩ = false := by simp [World.frozen?, hR6, resO]
                have HR6 := Lib.hid hR6
                have HNR := Lib.hid hNR
                have HNB := Lib.hid hNB
                have R6 := Lib.hid r6
                have O6 := Lib.hid o6
                have V6 : Hid (Upd (fun k => (Value.slice Al qs.length cpl).ownBlock = some k) w3 w6) := (Upd.refl _ w3).drew.trans v6
                clear hr1 hbx hq1 hp1 r6 o6 v6 hat hNR hNB hR6
                refine wp_region_tree 8 (OT.sures [0, 1, 2, 3, 4, 5] (.run 6 (.run 7 .nil))) (fun w' => Upd (fun k => (Value.slice Al qs.length cpl).ownBlock = some k) w3 w') (by kernel_rfl) (by kernel_rfl) (fun c a d v w h => by cases d <;> exact h) (Upd.refl _ _).drew ?_
                simp only [OT.sures]
                iterate 6 (apply wpT_sure rfl rfl; focus (intro w' hw'; have g0 := hw'.heap HR3.out HNR.out; have g1 := hw'.heap HP3.out HNB.out; have c0 : w'.cell? ⟨w.heap.size, 0, none⟩ = some (.slice Al qs.length cpl) := (by simp [World.cell?, g0, resO]); have c1 : w'.cell? ⟨w2.heap.size, 0, none⟩ = some (.slice none 0 0) := (by simp [World.cell?, g1]); have c2 : w'.cell? ⟨w2.heap.size, 1, none⟩ = some (.int .i64 at_) := (by simp [World.cell?, g1]); go_simp; rfl))
                refine wpT_run (fun w' => Upd (fun k => (Value.slice Al qs.length cpl).ownBlock = some k) w3 w') (fun _ h => h) rfl (fun K hK => ?_)
                go_simp
                refine hK _ _ ⟨((Upd.refl _ _).alloc _).drew, ?_⟩
                clear hK K
                refine wpT_run (fun w' => Upd (fun k => (Value.slice Al qs.length cpl).ownBlock = some k) w3 w') (fun _ h => h) rfl (fun K hK => ?_)
                rw [if_pos (by rfl)]
                refine wp_append_run _ _ _ rfl rfl rfl R6.out (hK _ _ ⟨V6.out, ?_⟩)
                clear hK K
                refine wpT_nil ?_
                simp only [List.drop_succ_cons, List.drop_zero]
                go_wp2_with fail
                refine ⟨⟨k + 1, at_ + 1, .slice (some ⟨g, 0, none⟩) (qs.length + 1) cap, qs ++ [(.slice none 0 0, ([], at_))], at_, 2, by go_num, by go_num, hkm, by rw [List.length_append, HQL.out]; rfl, (heap_setCell_eq (i := 0) _ HR6.out).trans rfl, ?_, ?_, .inr ⟨by decide, hbad.out⟩⟩, by simp [intOf]; omega⟩
                · exact O6.out.keep ((Upd.refl (fun k => k = w.heap.size) w6).setCell (p := ⟨w.heap.size, 0, none⟩) (fun _ => rfl) _) (fun k hk e => by subst hk; obtain ⟨c, hc⟩ := ownsRow_type O6.out.2 e; rw [HR6.out] at hc; cases hc) (fun q hq k hk e => by subst hk; obtain ⟨c, hc⟩ := OwnPts.blk (O6.out.1 q hq) e; rw [HR6.out] at hc; cases hc)
                · exact HU.out.then (((HU3.out.mono (fun _ _ h => .inl h)).trans (V6.out.mono (fun _ _ h => .inr h))).setCell (F := fun k => k = w.heap.size ∨ (Value.slice Al qs.length cpl).ownBlock = some k) (p := ⟨w.heap.size, 0, none⟩) (fun _ => .inl rfl) _) (fun i hi e => by
                    rcases e with rfl | e
                    · omega
                    · have := (HQ.out.2.lt _ e).1; omega)
            · obtain ⟨f1, f2⟩ := fixI_ok (e := 2) d1 d2
              by_cases d6 : leNat ((s.drop at_).take 1) < 3
              · have hbad : Hid (threeS s = .bad at_ 11) := by show _ = _; rw [hcur.out.2, hst.out]; exact polysB_few f2 d6
                rw [f1] at HF1
                have HFA := Lib.hid (qfail_any w.heap.size (.slice Al qs.length cpl) pl 0 at_ 11 wr HR.out)
                generalize leNat ((s.drop at_).take 1) = n at *
                have d3 : ¬ ((n : Nat) : Int) < 0 := by omega
                have d4 : ¬ (64 : Int) < ((n : Nat) : Int) := by omega
                have d7 : ((n : Nat) : Int) < 3 := by omega
                by_cases d8 : n = 0
                · have D5 : Hid (¬ (0 : Int) < ((n : Nat) : Int)) := by show ¬ _; omega
                  clear d1 d2 d6 d8
                  clear f1 f2
                  go_wp2_with fail
                  refine HF1.out.mono ?_
                  rintro e1 w2 ⟨rfl, rfl⟩
                  go_wp2_with fail
                  refine HFA.out.mono ?_
                  rintro e1 w2 ⟨rfl, u2, hr2⟩
                  have UF := Lib.hid u2
                  have HR2 : Hid (w2.heap[w.heap.size]? = some (resO (.slice Al qs.length cpl) at_ 11)) := hr2
                  clear u2 hr2 HFA
                  go_wp2_with fail
                  obtain ⟨w3, hw3⟩ : ∃ x, x = w2.alloc (.cells #[.slice none 0 0, .int .i64 at_] 43) := ⟨_, rfl⟩
                  have hr3 : w3.heap[w.heap.size]? = some (resO (.slice Al qs.length cpl) at_ 11) := by rw [hw3]; exact heap_alloc_keep _ HR2.out
                  have hp3 : w3.heap[w2.heap.size]? = some (.cells #[.slice none 0 0, .int .i64 at_] 43) := by rw [hw3]; exact heap_alloc_new _ _
                  have hu3 : Upd (fun k => k = w.heap.size) wr w3 := by rw [hw3]; exact UF.out.alloc _
                  rw [← hw3]
                  clear hw3
                  have ce3 : w3.cell? ⟨w.heap.size, 2, none⟩ = some (.int .i64 (11 : Nat)) := by simp [World.cell?, hr3, resO]
                  have CE3 := Lib.hid ce3
                  have HR3 := Lib.hid hr3
                  have HP3 := Lib.hid hp3
                  have HU3 := Lib.hid hu3
                  clear ce3 hr3 hp3 hu3
                  obtain ⟨wo, rfl⟩ : ∃ wo : World, wo = wr := ⟨_, rfl⟩
                  go_loopw [5, 9, 10, 11] (fun v j _ _ wr' => v = .int .i64 ((at_ : Int) + 1) ∧ j = .int .i64 0 ∧ w3 = wr') (fun _ _ _ _ _ => 0)
                  case atStart => exact ⟨rfl, rfl, rfl⟩
                  case round =>
                    obtain ⟨rfl, rfl, rfl⟩ := hrel
                    have ce3 := CE3.out
                    have d5 := D5.out
                    go_wp2_with fail
                    have hr1 := HR3.out
                    have hbx := HP3.out
                    have hql' : qs.length < 65537 := by have := HQL.out; have := HM.out; omega
                    have hq1 : OwnQs w.heap.size w3 (.slice Al qs.length cpl) qs := HQ.out.keep HU3.out (fun k hk e => by subst hk; obtain ⟨c, hc⟩ := ownsRow_type HQ.out.2 e; rw [HR.out] at hc; cases hc) (fun q hq k hk e => by subst hk; obtain ⟨c, hc⟩ := OwnPts.blk (HQ.out.1 q hq) e; rw [HR.out] at hc; cases hc)
                    have hp1 : OwnPts w.heap.size w3 (.slice none 0 0) [] := OwnPts.nil _ _
                    have hb1 : w.heap.size ≤ w3.heap.size := by have := HU.out.size; have := HU3.out.size; omega
                    obtain ⟨g, cap, w6, r6, o6, v6, hat⟩ := append_polyQ (w := w3.drew) (base := w.heap.size) (q := ([], at_)) hb1 (hq1.keep (Upd.refl noBlk w3).drew (fun k hk => hk.elim) (fun q hq k hk => hk.elim)) (OwnPts.upd hp1 (Upd.refl noBlk w3).drew) (by omega) rfl
                    have hNR : ¬ (Value.slice Al qs.length cpl).ownBlock = some w.heap.size := fun e => by obtain ⟨c, hc⟩ := ownsRow_type hq1.2 e; rw [hr1] at hc; cases hc
                    have hNB : ¬ (Value.slice Al qs.length cpl).ownBlock = some w2.heap.size := fun e => by have := (HQ.out.2.lt _ e).2; have := UF.out.size; omega
                    have hR6 : w6.heap[w.heap.size]? = some (resO (.slice Al qs.length cpl) at_ 11) := v6.heap hr1 hNR
                    have cR0 : w6.cell? ⟨w.heap.size, 0, none⟩ = some (.slice Al qs.length cpl) := by simp [World.cell?, hR6, resO]
                    have zR0 : w6.frozen? ⟨w.heap.size, 0, none⟩ = false := by simp [World.frozen?, hR6, resO]
                    have HR6 := Lib.hid hR6
                    have HNR := Lib.hid hNR
                    have HNB := Lib.hid hNB
                    have R6 := Lib.hid r6
                    have O6 := Lib.hid o6
                    have V6 : Hid (Upd (fun k => (Value.slice Al qs.length cpl).ownBlock = some k) w3 w6) := (Upd.refl _ w3).drew.trans v6
                    clear hr1 hbx hq1 hp1 r6 o6 v6 hat hNR hNB hR6
                    refine wp_region_tree 8 (OT.sures [0, 1, 2, 3, 4, 5] (.run 6 (.run 7 .nil))) (fun w' => Upd (fun k => (Value.slice Al qs.length cpl).ownBlock = some k) w3 w') (by kernel_rfl) (by kernel_rfl) (fun c a d v w h => by cases d <;> exact h) (Upd.refl _ _).drew ?_
                    simp only [OT.sures]
                    iterate 6 (apply wpT_sure rfl rfl; focus (intro w' hw'; have g0 := hw'.heap HR3.out HNR.out; have g1 := hw'.heap HP3.out HNB.out; have c0 : w'.cell? ⟨w.heap.size, 0, none⟩ = some (.slice Al qs.length cpl) := (by simp [World.cell?, g0, resO]); have c1 : w'.cell? ⟨w2.heap.size, 0, none⟩ = some (.slice none 0 0) := (by simp [World.cell?, g1]); have c2 : w'.cell? ⟨w2.heap.size, 1, none⟩ = some (.int .i64 at_) := (by simp [World.cell?, g1]); go_simp; rfl))
                    refine wpT_run (fun w' => Upd (fun k => (Value.slice Al qs.length cpl).ownBlock = some k) w3 w') (fun _ h => h) rfl (fun K hK => ?_)
                    go_simp
                    refine hK _ _ ⟨((Upd.refl _ _).alloc _).drew, ?_⟩
                    clear hK K
                    refine wpT_run (fun w' => Upd (fun k => (Value.slice Al qs.length cpl).ownBlock = some k) w3 w') (fun _ h => h) rfl (fun K hK => ?_)
                    rw [if_pos (by rfl)]
                    refine wp_append_run _ _ _ rfl rfl rfl R6.out (hK _ _ ⟨V6.out, ?_⟩)
                    clear hK K
                    refine wpT_nil ?_
                    simp only [List.drop_succ_cons, List.drop_zero]
                    go_wp2_with fail
                    refine ⟨⟨k + 1, at_ + 1, .slice (some ⟨g, 0, none⟩) (qs.length + 1) cap, qs ++ [(.slice none 0 0, ([], at_))], at_, 11, by go_num, by go_num, hkm, by rw [List.length_append, HQL.out]; rfl, (heap_setCell_eq (i := 0) _ HR6.out).trans rfl, ?_, ?_, .inr ⟨by decide, hbad.out⟩⟩, by simp [intOf]; omega⟩
                    · exact O6.out.keep ((Upd.refl (fun k => k = w.heap.size) w6).setCell (p := ⟨w.heap.size, 0, none⟩) (fun _ => rfl) _) (fun k hk e => by subst hk; obtain ⟨c, hc⟩ := ownsRow_type O6.out.2 e; rw [HR6.out] at hc; cases hc) (fun q hq k hk e => by subst hk; obtain ⟨c, hc⟩ := OwnPts.blk (O6.out.1 q hq) e; rw [HR6.out] at hc; cases hc)
                    · exact HU.out.then (((HU3.out.mono (fun _ _ h => .inl h)).trans (V6.out.mono (fun _ _ h => .inr h))).setCell (F := fun k => k = w.heap.size ∨ (Value.slice Al qs.length cpl).ownBlock = some k) (p := ⟨w.heap.size, 0, none⟩) (fun _ => .inl rfl) _) (fun i hi e => by
                        rcases e with rfl | e
                        · omega
                        · have := (HQ.out.2.lt _ e).1; omega)
                · have D5 : Hid ((0 : Int) < ((n : Nat) : Int)) := by show _ < _; omega
                  clear d1 d2 d6 d8
                  clear f1 f2
                  go_wp2_with fail
                  refine HF1.out.mono ?_
                  rintro e1 w2 ⟨rfl, rfl⟩
                  go_wp2_with fail
                  refine HFA.out.mono ?_
                  rintro e1 w2 ⟨rfl, u2, hr2⟩
                  have UF := Lib.hid u2
                  have HR2 : Hid (w2.heap[w.heap.size]? = some (resO (.slice Al qs.length cpl) at_ 11)) := hr2
                  clear u2 hr2 HFA
                  go_wp2_with fail
                  obtain ⟨w3, hw3⟩ : ∃ x, x = w2.alloc (.cells #[.slice none 0 0, .int .i64 at_] 43) := ⟨_, rfl⟩
                  have hr3 : w3.heap[w.heap.size]? = some (resO (.slice Al qs.length cpl) at_ 11) := by rw [hw3]; exact heap_alloc_keep _ HR2.out
                  have hp3 : w3.heap[w2.heap.size]? = some (.cells #[.slice none 0 0, .int .i64 at_] 43) := by rw [hw3]; exact heap_alloc_new _ _
                  have hu3 : Upd (fun k => k = w.heap.size) wr w3 := by rw [hw3]; exact UF.out.alloc _
                  rw [← hw3]
                  clear hw3
                  have ce3 : w3.cell? ⟨w.heap.size, 2, none⟩ = some (.int .i64 (11 : Nat)) := by simp [World.cell?, hr3, resO]
                  have CE3 := Lib.hid ce3
                  have HR3 := Lib.hid hr3
                  have HP3 := Lib.hid hp3
                  have HU3 := Lib.hid hu3
                  clear ce3 hr3 hp3 hu3
                  obtain ⟨wo, rfl⟩ : ∃ wo : World, wo = wr := ⟨_, rfl⟩
                  go_loopw [5, 9, 10, 11] (fun v j _ _ wr' => v = .int .i64 ((at_ : Int) + 1) ∧ j = .int .i64 0 ∧ w3 = wr') (fun _ _ _ _ _ => 0)
                  case atStart => exact ⟨rfl, rfl, rfl⟩
                  case round =>
                    obtain ⟨rfl, rfl, rfl⟩ := hrel
                    have ce3 := CE3.out
                    have d5 := D5.out
                    go_wp2_with fail
                    have hr1 := HR3.out
                    have hbx := HP3.out
                    have hql' : qs.length < 65537 := by have := HQL.out; have := HM.out; omega
                    have hq1 : OwnQs w.heap.size w3 (.slice Al qs.length cpl) qs := HQ.out.keep HU3.out (fun k hk e => by subst hk; obtain ⟨c, hc⟩ := ownsRow_type HQ.out.2 e; rw [HR.out] at hc; cases hc) (fun q hq k hk e => by subst hk; obtain ⟨c, hc⟩ := OwnPts.blk (HQ.out.1 q hq) e; rw [HR.out] at hc; cases hc)
                    have hp1 : OwnPts w.heap.size w3 (.slice none 0 0) [] := OwnPts.nil _ _
                    have hb1 : w.heap.size ≤ w3.heap.size := by have := HU.out.size; have := HU3.out.size; omega
                    obtain ⟨g, cap, w6, r6, o6, v6, hat⟩ := append_polyQ (w := w3.drew) (base := w.heap.size) (q := ([], at_)) hb1 (hq1.keep (Upd.refl noBlk w3).drew (fun k hk => hk.elim) (fun q hq k hk => hk.elim)) (OwnPts.upd hp1 (Upd.refl noBlk w3).drew) (by omega) rfl
                    have hNR : ¬ (Value.slice Al qs.length cpl).ownBlock = some w.heap.size := fun e => by obtain ⟨c, hc⟩ := ownsRow_type hq1.2 e; rw [hr1] at hc; cases hc
                    have hNB : ¬ (Value.slice Al qs.length cpl).ownBlock = some w2.heap.size := fun e => by have := (HQ.out.2.lt _ e).2; have := UF.out.size; omega
                    have hR6 : w6.heap[w.heap.size]? = some (resO (.slice Al qs.length cpl) at_ 11) := v6.heap hr1 hNR
                    have cR0 : w6.cell? ⟨w.heap.size, 0, none⟩ = some (.slice Al qs.length cpl) := by simp [World.cell?, hR6, resO]
                    have zR0 : w6.frozen? ⟨w.heap.size, 0, none⟩ = false := by simp [World.frozen?, hR6, resO]
                    have HR6 := Lib.hid hR6
                    have HNR := Lib.hid hNR
                    have HNB := Lib.hid hNB
                    have R6 := Lib.hid r6
                    have O6 := Lib.hid o6
                    have V6 : Hid (Upd (fun k => (Value.slice Al qs.length cpl).ownBlock = some k) w3 w6) := (Upd.refl _ w3).drew.trans v6
                    clear hr1 hbx hq1 hp1 r6 o6 v6 hat hNR hNB hR6
                    refine wp_region_tree 8 (OT.sures [0, 1, 2, 3, 4, 5] (.run 6 (.run 7 .nil))) (fun w' => Upd (fun k => (Value.slice Al qs.length cpl).ownBlock = some k) w3 w') (by kernel_rfl) (by kernel_rfl) (fun c a d v w h => by cases d <;> exact h) (Upd.refl _ _).drew ?_
                    simp only [OT.sures]
                    iterate 6 (apply wpT_sure rfl rfl; focus (intro w' hw'; have g0 := hw'.heap HR3.out HNR.out; have g1 := hw'.heap HP3.out HNB.out; have c0 : w'.cell? ⟨w.heap.size, 0, none⟩ = some (.slice Al qs.length cpl) := (by simp [World.cell?, g0, resO]); have c1 : w'.cell? ⟨w2.heap.size, 0, none⟩ = some (.slice none 0 0) := (by simp [World.cell?, g1]); have c2 : w'.cell? ⟨w2.heap.size, 1, none⟩ = some (.int .i64 at_) := (by simp [World.cell?, g1]); go_simp; rfl))
                    refine wpT_run (fun w' => Upd (fun k => (Value.slice Al qs.length cpl).ownBlock = some k) w3 w') (fun _ h => h) rfl (fun K hK => ?_)
                    go_simp
                    refine hK _ _ ⟨((Upd.refl _ _).alloc _).drew, ?_⟩
                    clear hK K
                    refine wpT_run (fun w' => Upd (fun k => (Value.slice Al qs.length cpl).ownBlock = some k) w3 w') (fun _ h => h) rfl (fun K hK => ?_)
                    rw [if_pos (by rfl)]
                    refine wp_append_run _ _ _ rfl rfl rfl R6.out (hK _ _ ⟨V6.out, ?_⟩)
                    clear hK K
                    refine wpT_nil ?_
                    simp only [List.drop_succ_cons, List.drop_zero]
                    go_wp2_with fail
                    refine ⟨⟨k + 1, at_ + 1, .slice (some ⟨g, 0, none⟩) (qs.length + 1) cap, qs ++ [(.slice none 0 0, ([], at_))], at_, 11, by go_num, by go_num, hkm, by rw [List.length_append, HQL.out]; rfl, (heap_setCell_eq (i := 0) _ HR6.out).trans rfl, ?_, ?_, .inr ⟨by decide, hbad.out⟩⟩, by simp [intOf]; omega⟩
                    · exact O6.out.keep ((Upd.refl (fun k => k = w.heap.size) w6).setCell (p := ⟨w.heap.size, 0, none⟩) (fun _ => rfl) _) (fun k hk e => by subst hk; obtain ⟨c, hc⟩ := ownsRow_type O6.out.2 e; rw [HR6.out] at hc; cases hc) (fun q hq k hk e => by subst hk; obtain ⟨c, hc⟩ := OwnPts.blk (O6.out.1 q hq) e; rw [HR6.out] at hc; cases hc)
                    · exact HU.out.then (((HU3.out.mono (fun _ _ h => .inl h)).trans (V6.out.mono (fun _ _ h => .inr h))).setCell (F := fun k => k = w.heap.size ∨ (Value.slice Al qs.length cpl).ownBlock = some k) (p := ⟨w.heap.size, 0, none⟩) (fun _ => .inl rfl) _) (fun i hi e => by
                        rcases e with rfl | e
                        · omega
                        · have := (HQ.out.2.lt _ e).1; omega)
              · have hn1 : at_ + 1 ≤ s.length := by omega
                have h4 : Hid (∀ p e, cornersB s (at_ + 1) (leNat ((s.drop at_).take 1)) [] = .bad p e → threeS s = .bad p e) := fun p e hc => by rw [hcur.out.2, hst.out]; exact polysB_bad f2 d6 hc
                have h5 : Hid (∀ l, cornersB s (at_ + 1) (leNat ((s.drop at_).take 1)) [] = .ok l → threeS s = polysB s (at_ + 1 + 9 * leNat ((s.drop at_).take 1)) (many - (k + 1)) (qs.map (·.2) ++ [(l, at_)])) := fun l hc => by rw [hcur.out.2, hst.out]; exact polysB_ok f2 d6 hc
                rw [f1] at HF1
                clear f1 f2
                generalize leNat ((s.drop at_).take 1) = n at *
                have d3 : ¬ ((n : Nat) : Int) < 0 := by omega
                have d4 : ¬ (64 : Int) < ((n : Nat) : Int) := by omega
                have d7 : ¬ ((n : Nat) : Int) < 3 := by omega
                have HN64 : Hid (n ≤ 64) := by show _ ≤ _; omega
                clear d1 d2 d6
                go_wp2_with fail
                refine HF1.out.mono ?_
                rintro e1 w2 ⟨rfl, rfl⟩
                clear HF1
                go_wp2_with fail
                obtain ⟨w3, hw3⟩ : ∃ x, x = wr.alloc (.cells #[.slice none 0 0, .int .i64 at_] 43) := ⟨_, rfl⟩
                have hr3 : w3.heap[w.heap.size]? = some (resO (.slice Al qs.length cpl) pl 0) := by rw [hw3]; exact heap_alloc_keep _ HR.out
                have hp3 : w3.heap[wr.heap.size]? = some (.cells #[.slice none 0 0, .int .i64 at_] 43) := by rw [hw3]; exact heap_alloc_new _ _
                have hu3 : Upd (fun k => k = w.heap.size) wr w3 := by rw [hw3]; exact (Upd.refl _ _).alloc _
                rw [← hw3]
                clear hw3
                have HR3 := Lib.hid hr3
                have HP3 := Lib.hid hp3
                have HU3 := Lib.hid hu3
                clear hr3 hp3 hu3 ce
                obtain ⟨wo, rfl⟩ : ∃ wo : World, wo = wr := ⟨_, rfl⟩
                go_loopw [5, 9, 10, 11] (fun v j _ _ wr' => ∃ (jj at2 : Nat) (pts : List Pt) (pv : Value) (pl2 e2 : Nat), v = .int .i64 at2 ∧ j = .int .i64 jj ∧ jj ≤ n ∧ at2 = at_ + 1 + 9 * jj ∧ pts.length = jj ∧ wr'.heap[w.heap.size]? = some (resO (.slice Al qs.length cpl) pl2 e2) ∧ wr'.heap[wo.heap.size]? = some (.cells #[pv, .int .i64 at_] 43) ∧ OwnPts wo.heap.size wr' pv pts ∧ pv.oneCell' = true ∧ Upd (fun k => k = w.heap.size) wo wr' ∧ MidI s at_ n at2 jj pts pl2 e2) (fun _ j _ _ _ => n - (intOf j).toNat)
                case atStart => exact ⟨0, at_ + 1, [], .slice none 0 0, pl, 0, by go_num, rfl, Nat.zero_le _, rfl, rfl, HR3.out, HP3.out, OwnPts.nil _ _, rfl, HU3.out, .inl ⟨rfl, hn1, Nat.zero_le _, rfl⟩⟩
                case round =>
                  obtain ⟨jj, at2, pts, pv, pl2, e2, rfl, rfl, hj, ha2, hpl, hr, hp, hop, hpv, hup, hmi⟩ := hrel
                  have ce2 : wr.cell? ⟨w.heap.size, 2, none⟩ = some (.int .i64 e2) := by simp [World.cell?, hr, resO]
                  have HA2 := Lib.hid ha2
                  have HPL := Lib.hid hpl
                  have HRM := Lib.hid hr
                  have HPM := Lib.hid hp
                  have HOP := Lib.hid hop
                  have HPV := Lib.hid hpv
                  have HUP := Lib.hid hup
                  have HMI := Lib.hid hmi
                  clear ha2 hpl hr hp hop hpv hup hmi
                  by_cases hgo : jj < n ∧ e2 = 0
                  · obtain ⟨hjn, rfl⟩ := hgo
                    have hjn' : ((jj : Nat) : Int) < ((n : Nat) : Int) := by omega
                    have hcur2 : Hid (at2 ≤ s.length ∧ cornersB s (at_ + 1) n [] = cornersB s at2 (n - jj) pts) := by
                      rcases HMI.out with ⟨_, ha, _, hsp3⟩ | ⟨h, _⟩
                      · exact ⟨ha, hsp3⟩
                      · exact absurd rfl h
                    have hst2 : Hid (n - jj = (n - (jj + 1)) + 1) := by show _ = _; omega
                    have hbad2 : Hid (∀ p e', numsB s at2 3 [] = .bad p e' → threeS s = .bad p e') := fun p e' h => h4.out p e' (by rw [hcur2.out.2, hst2.out]; exact cornersB_bad h)
                    have hatb2 : ((at2 : Nat) : Int) ≤ 4294967296 := by have := hcur2.out.1; omega
                    obtain ⟨wm, rfl⟩ : ∃ wm : World, wm = wr := ⟨_, rfl⟩
                    have hlm : Hid (w.heap.size < wm.heap.size) := lt_of_heap HRM.out
                    have hlo : Hid (wo.heap.size < wm.heap.size) := lt_of_heap HPM.out
                    have hne : Hid (wm.heap.size ≠ w.heap.size) := by show _ ≠ _; have := hlm.out; omega
                    go_wp2_with fail
                    go_loopw [5, 11] (fun v j wr' => ∃ (p : Nat) (xs : List Int) (pl3 e3 : Nat), v = .int .i64 p ∧ p = at2 + 3 * xs.length ∧ j = .int .i64 xs.length ∧ xs.length ≤ 3 ∧ wr'.heap[w.heap.size]? = some (resO (.slice Al qs.length cpl) pl3 e3) ∧ wr'.heap[wm.heap.size]? = some (.cells (c3i xs) 27) ∧ Upd (fun k => k = w.heap.size) wm wr' ∧ InnI s at2 xs pl3 e3) (fun _ j _ => 3 - (intOf j).toNat)
                    case atStart => exact ⟨at2, [], pl2, 0, rfl, rfl, rfl, Nat.zero_le _, heap_alloc_keep _ HRM.out, heap_alloc_new _ _, (Upd.refl _ _).alloc _, .inl ⟨rfl, hcur2.out.1, [], rfl, rfl⟩⟩
                    case round =>
                      obtain ⟨p, xs, pl3, e3, rfl, hpx, rfl, hx3, hr, hc, hu, hI⟩ := hrel
                      have HPX := Lib.hid hpx
                      have HRI := Lib.hid hr
                      have HC3 := Lib.hid hc
                      have HUI := Lib.hid hu
                      have HII := Lib.hid hI
                      clear hr hc hu hI
                      by_cases hxl : xs.length < 3
                      · have hxl' : ((xs.length : Nat) : Int) < 3 := by omega
                        have h01 : (0 : Int) ≤ ((xs.length : Nat) : Int) := by omega
                        have hpb : ((p : Nat) : Int) ≤ 4294967300 := by have := hcur2.out.1; omega
                        have HFX := Lib.hid (qfixed_any s p 3 (by omega) (by omega) (by omega) wr)
                        have HST : Hid (InnI s at2 (xs ++ [fixI s p 3]) (if e3 = 0 then (match numS s p 3 2097151 3 with | .ok _ => pl3 | .bad p _ => p) else pl3) (if e3 = 0 then (match numS s p 3 2097151 3 with | .ok _ => 0 | .bad _ e' => e') else e3)) := by
                          show InnI _ _ _ _ _
                          rw [hpx]
                          exact HII.out.step hxl (fun p e' h _ => hbad2.out p e' h)
                        obtain ⟨u, hu'⟩ := c3i_get hxl
                        have cc : wr.cell? ⟨wm.heap.size, xs.length, none⟩ = some u := by simp only [World.cell?, HC3.out]; exact hu'
                        have zz : wr.frozen? ⟨wm.heap.size, xs.length, none⟩ = false := by simp [World.frozen?, HC3.out]
                        clear hu' hpx
                        by_cases d8 : s.length < p + 3
                        · obtain ⟨f1, f2⟩ := fixI_short (most := 2097151) (e := 3) d8
                          have hst9 := HST.out
                          rw [f2] at hst9
                          rw [f1] at hst9 HFX
                          have hst8 : InnI s at2 (xs ++ [(-1)]) (if e3 = 0 then s.length else pl3) (if e3 = 0 then 12 else e3) := hst9
                          have HS8 := Lib.hid hst8
                          clear hst9 hst8 f1 f2 d8 HST
                          have hcS : (wr.setCell ⟨wm.heap.size, xs.length, none⟩ (.int .i64 (-1))).heap[wm.heap.size]? = some (.cells (c3i (xs ++ [(-1)])) 27) := by rw [heap_setCell_eq _ HC3.out, c3i_snoc hxl]
                          have hrS : (wr.setCell ⟨wm.heap.size, xs.length, none⟩ (.int .i64 (-1))).heap[w.heap.size]? = some (resO (.slice Al qs.length cpl) pl3 e3) := heap_setCell_ne _ HRI.out (Ne.symm hne.out)
                          have huS : Upd (fun k => k = w.heap.size) wm (wr.setCell ⟨wm.heap.size, xs.length, none⟩ (.int .i64 (-1))) := HUI.out.setCell (fun h => absurd h (Nat.lt_irrefl _)) _
                          have hcc : (wr.setCell ⟨wm.heap.size, xs.length, none⟩ (.int .i64 (-1))).cell? ⟨wm.heap.size, xs.length, none⟩ = some (.int .i64 (-1)) := by simp only [World.cell?, hcS]; exact c3i_at hxl _
                          have HCS := Lib.hid hcS
                          have HRS := Lib.hid hrS
                          have HUS := Lib.hid huS
                          clear hcS hrS huS
                          have HFA := Lib.hid (qfail_any w.heap.size (.slice Al qs.length cpl) pl3 e3 s.length 12 _ HRS.out)
                          go_wp2_with fail
                          refine HFX.out.mono ?_
                          rintro e1 w4 ⟨rfl, rfl⟩
                          clear HFX
                          go_wp2_with fail
                          refine HFA.out.mono ?_
                          rintro e1 w5 ⟨rfl, u5, hr5⟩
                          have hc5 : w5.heap[wm.heap.size]? = some (.cells (c3i (xs ++ [(-1)])) 27) := u5.heap HCS.out hne.out
                          have hcc5 : w5.cell? ⟨wm.heap.size, xs.length, none⟩ = some (.int .i64 (-1)) := by simp only [World.cell?, hc5]; exact c3i_at hxl _
                          have HR5 := Lib.hid hr5
                          have HC5 := Lib.hid hc5
                          have HU5 := Lib.hid (HUS.out.trans u5)
                          clear hr5 hc5 u5 HFA hcc
                          go_wp2_with fail
                          exact ⟨⟨p + 3, xs ++ [(-1)], _, _, by go_num, by rw [List.length_append, HPX.out]; show _ = at2 + 3 * (xs.length + 1); omega, by rw [List.length_append]; go_num, by rw [List.length_append]; exact hxl, HR5.out, HC5.out, HU5.out, HS8.out⟩, by simp [intOf]; omega⟩
                        · by_cases d9 : 2097151 < leNat ((s.drop p).take 3)
                          · obtain ⟨f1, f2⟩ := fixI_much (e := 3) d8 d9
                            have hst9 := HST.out
                            rw [f2] at hst9
                            rw [f1] at hst9 HFX
                            generalize leNat ((s.drop p).take 3) = x at *
                            have dd1 : ¬ ((x : Nat) : Int) < 0 := by omega
                            have dd2 : (2097151 : Int) < ((x : Nat) : Int) := by omega
                            have hst8 : InnI s at2 (xs ++ [((x : Nat) : Int)]) (if e3 = 0 then p else pl3) (if e3 = 0 then 3 else e3) := hst9
                            have HS8 := Lib.hid hst8
                            clear hst9 hst8 f1 f2 d8 d9 HST
                            have hcS : (wr.setCell ⟨wm.heap.size, xs.length, none⟩ (.int .i64 ((x : Nat) : Int))).heap[wm.heap.size]? = some (.cells (c3i (xs ++ [((x : Nat) : Int)])) 27) := by rw [heap_setCell_eq _ HC3.out, c3i_snoc hxl]
                            have hrS : (wr.setCell ⟨wm.heap.size, xs.length, none⟩ (.int .i64 ((x : Nat) : Int))).heap[w.heap.size]? = some (resO (.slice Al qs.length cpl) pl3 e3) := heap_setCell_ne _ HRI.out (Ne.symm hne.out)
                            have huS : Upd (fun k => k = w.heap.size) wm (wr.setCell ⟨wm.heap.size, xs.length, none⟩ (.int .i64 ((x : Nat) : Int))) := HUI.out.setCell (fun h => absurd h (Nat.lt_irrefl _)) _
                            have hcc : (wr.setCell ⟨wm.heap.size, xs.length, none⟩ (.int .i64 ((x : Nat) : Int))).cell? ⟨wm.heap.size, xs.length, none⟩ = some (.int .i64 ((x : Nat) : Int)) := by simp only [World.cell?, hcS]; exact c3i_at hxl _
                            have HCS := Lib.hid hcS
                            have HRS := Lib.hid hrS
                            have HUS := Lib.hid huS
                            clear hcS hrS huS
                            have HFA := Lib.hid (qfail_any w.heap.size (.slice Al qs.length cpl) pl3 e3 p 3 _ HRS.out)
                            go_wp2_with fail
                            refine HFX.out.mono ?_
                            rintro e1 w4 ⟨rfl, rfl⟩
                            clear HFX
                            go_wp2_with fail
                            refine HFA.out.mono ?_
                            rintro e1 w5 ⟨rfl, u5, hr5⟩
                            have hc5 : w5.heap[wm.heap.size]? = some (.cells (c3i (xs ++ [((x : Nat) : Int)])) 27) := u5.heap HCS.out hne.out
                            have hcc5 : w5.cell? ⟨wm.heap.size, xs.length, none⟩ = some (.int .i64 ((x : Nat) : Int)) := by simp only [World.cell?, hc5]; exact c3i_at hxl _
                            have HR5 := Lib.hid hr5
                            have HC5 := Lib.hid hc5
                            have HU5 := Lib.hid (HUS.out.trans u5)
                            clear hr5 hc5 u5 HFA hcc
                            go_wp2_with fail
                            exact ⟨⟨p + 3, xs ++ [((x : Nat) : Int)], _, _, by go_num, by rw [List.length_append, HPX.out]; show _ = at2 + 3 * (xs.length + 1); omega, by rw [List.length_append]; go_num, by rw [List.length_append]; exact hxl, HR5.out, HC5.out, HU5.out, HS8.out⟩, by simp [intOf]; omega⟩
                          · obtain ⟨f1, f2⟩ := fixI_ok (e := 3) d8 d9
                            have hst9 := HST.out
                            rw [f2] at hst9
                            rw [f1] at hst9 HFX
                            generalize leNat ((s.drop p).take 3) = x at *
                            have dd1 : ¬ ((x : Nat) : Int) < 0 := by omega
                            have dd2 : ¬ (2097151 : Int) < ((x : Nat) : Int) := by omega
                            have hst8 : InnI s at2 (xs ++ [((x : Nat) : Int)]) pl3 e3 := by
                              by_cases he : e3 = 0
                              · simp only [if_pos he] at hst9; rw [he]; exact hst9
                              · simp only [if_neg he] at hst9; exact hst9
                            have HS8 := Lib.hid hst8
                            clear hst9 hst8 f1 f2 d8 d9 HST
                            have hcS : (wr.setCell ⟨wm.heap.size, xs.length, none⟩ (.int .i64 ((x : Nat) : Int))).heap[wm.heap.size]? = some (.cells (c3i (xs ++ [((x : Nat) : Int)])) 27) := by rw [heap_setCell_eq _ HC3.out, c3i_snoc hxl]
                            have hrS : (wr.setCell ⟨wm.heap.size, xs.length, none⟩ (.int .i64 ((x : Nat) : Int))).heap[w.heap.size]? = some (resO (.slice Al qs.length cpl) pl3 e3) := heap_setCell_ne _ HRI.out (Ne.symm hne.out)
                            have huS : Upd (fun k => k = w.heap.size) wm (wr.setCell ⟨wm.heap.size, xs.length, none⟩ (.int .i64 ((x : Nat) : Int))) := HUI.out.setCell (fun h => absurd h (Nat.lt_irrefl _)) _
                            have hcc : (wr.setCell ⟨wm.heap.size, xs.length, none⟩ (.int .i64 ((x : Nat) : Int))).cell? ⟨wm.heap.size, xs.length, none⟩ = some (.int .i64 ((x : Nat) : Int)) := by simp only [World.cell?, hcS]; exact c3i_at hxl _
                            have HCS := Lib.hid hcS
                            have HRS := Lib.hid hrS
                            have HUS := Lib.hid huS
                            clear hcS hrS huS
                            go_wp2_with fail
                            refine HFX.out.mono ?_
                            rintro e1 w4 ⟨rfl, rfl⟩
                            clear HFX
                            go_wp2_with fail
                            exact ⟨⟨p + 3, xs ++ [((x : Nat) : Int)], _, _, by go_num, by rw [List.length_append, HPX.out]; show _ = at2 + 3 * (xs.length + 1); omega, by rw [List.length_append]; go_num, by rw [List.length_append]; exact hxl, HRS.out, HCS.out, HUS.out, HS8.out⟩, by simp [intOf]; omega⟩
                      · obtain ⟨x, y, z, rfl⟩ : ∃ x y z, xs = [x, y, z] := by
                          match xs, hx3, hxl with
                          | [x, y, z], _, _ => exact ⟨x, y, z, rfl⟩
                          | [], _, h => exact absurd (by simp) h
                          | [_], _, h => exact absurd (by simp) h
                          | [_, _], _, h => exact absurd (by simp) h
                          | _ :: _ :: _ :: _ :: _, h, _ => simp at h
                        have hmi2 : Hid (MidI s at_ n (at2 + 9) (jj + 1) (pts ++ [(x, y, z)]) pl3 e3) := by
                          show MidI _ _ _ _ _ _ _ _
                          rcases HII.out with ⟨he, hl, ys, hys, hn⟩ | h
                          · refine .inl ⟨he, hl, by omega, ?_⟩
                            match ys, hys with
                            | [a, b, c], hys =>
                              simp only [List.map_cons, List.map_nil, List.cons.injEq, and_true] at hys
                              obtain ⟨rfl, rfl, rfl⟩ := hys
                              rw [hcur2.out.2, hst2.out]
                              exact cornersB_ok (by rw [hn]; rfl)
                          · exact .inr h
                        have hp9 : ((p : Nat) : Int) = ((at2 + 9 : Nat) : Int) := by rw [hpx]; rfl
                        have k0 : wr.cell? ⟨wm.heap.size, 0, none⟩ = some (.int .i64 x) := by simp [World.cell?, HC3.out, c3i]
                        have k1 : wr.cell? ⟨wm.heap.size, 1, none⟩ = some (.int .i64 y) := by simp [World.cell?, HC3.out, c3i]
                        have k2 : wr.cell? ⟨wm.heap.size, 2, none⟩ = some (.int .i64 z) := by simp [World.cell?, HC3.out, c3i]
                        have hPB3 : wr.heap[wo.heap.size]? = some (.cells #[pv, .int .i64 at_] 43) := HUI.out.heap HPM.out (by have := HU.out.size; have := lt_of_heap HR.out; omega)
                        have hcp : wr.cell? ⟨wo.heap.size, 0, none⟩ = some pv := by simp [World.cell?, hPB3]
                        have hOP : OwnPts wo.heap.size wr pv pts := ownsRow_other HOP.out HUI.out (fun k hk _ => by subst hk; exact ⟨_, _, _, HRM.out, by decide⟩)
                        have hszo : wo.heap.size ≤ wr.heap.size := by have := HUI.out.size; have := hlo.out; omega
                        obtain ⟨g, cap, w5, r5, o5, v5, _⟩ := append_ptB hszo hOP (x, y, z) (by rw [HPL.out]; omega)
                        have hPB5 : w5.heap[wo.heap.size]? = some (.cells #[pv, .int .i64 at_] 43) := v5.heap hPB3 (OwnPts.not_blk hOP hPB3 (by decide))
                        have hR5 : w5.heap[w.heap.size]? = some (resO (.slice Al qs.length cpl) pl3 e3) := v5.heap HRI.out (OwnPts.not_blk hOP HRI.out (by decide))
                        have hpc : w5.cell? ⟨wo.heap.size, 0, none⟩ = some pv := by simp [World.cell?, hPB5]
                        have hpz : w5.frozen? ⟨wo.heap.size, 0, none⟩ = false := by simp [World.frozen?, hPB5]
                        have hU5 : Upd (fun k => k = w.heap.size) wo w5 := (HUP.out.trans HUI.out).then v5 (fun i hi e => by have := (HOP.out.lt _ e).1; omega)
                        have HU5 := Lib.hid hU5
                        have HP5 := Lib.hid hPB5
                        have HR5 := Lib.hid hR5
                        have O5 := Lib.hid o5
                        have R5 := Lib.hid r5
                        have HP9 := Lib.hid hp9
                        clear hxl hPB3 hOP r5 o5 v5 hPB5 hR5 hU5 hp9 hpx
                        go_wp2_with (at_builtin; refine wpList_append_run rfl _ _ _ rfl rfl rfl R5.out ?_)
                        have hne2 : Hid (w.heap.size ≠ wo.heap.size) := by show _ ≠ _; have := lt_of_heap HR.out; omega
                        refine ⟨⟨jj + 1, at2 + 9, pts ++ [(x, y, z)], .slice (some ⟨g, 0, none⟩) (pts.length + 1) cap, pl3, e3, by rw [HP9.out], by go_num, hjn, by rw [HA2.out]; omega, by rw [List.length_append, HPL.out]; rfl, ?_, ?_, ?_, rfl, HU5.out.setCell (fun h => absurd h (Nat.lt_irrefl _)) _, hmi2.out⟩, by simp [intOf]; omega⟩
                        · exact heap_setCell_ne _ HR5.out hne2.out
                        · rw [heap_setCell_eq _ HP5.out]; rfl
                        · exact ownsRow_setCell_other O5.out (OwnPts.not_blk O5.out HP5.out (by decide)) _
                  · have HOUT : Hid (OutI s many at2 (k + 1) (qs.map (·.2) ++ [(pts, at_)]) pl2 e2) := by
                      show OutI _ _ _ _ _ _ _
                      rcases HMI.out with ⟨he, hl, hj2, hc⟩ | h
                      · refine .inl ⟨he, hl, hkm, ?_⟩
                        have hjn : jj = n := by
                          by_cases c : jj < n
                          · exact absurd ⟨c, he⟩ hgo
                          · omega
                        rw [hjn, Nat.sub_self] at hc
                        rw [h5.out pts (by rw [hc]; rfl), HA2.out, hjn]
                      · exact .inr h
                    have HBLK := HPM
                    have hszp : Hid (wo.heap.size < wr.heap.size) := lt_of_heap HPM.out
                    by_cases hjn : jj < n
                    · have he : e2 ≠ 0 := fun h => hgo ⟨hjn, h⟩
                      have he' : (((e2 : Nat) : Int) == 0) = false := by rw [beq_eq_false_iff_ne]; omega
                      have hjn' : ((jj : Nat) : Int) < ((n : Nat) : Int) := by omega
                      clear hgo he
                      go_wp2_with fail
                      have hr1 := HRM.out
                      have hbx := HPM.out
                      have hql' : qs.length < 65537 := by have := HQL.out; have := HM.out; omega
                      have hq1 : OwnQs w.heap.size wr (.slice Al qs.length cpl) qs := HQ.out.keep HUP.out (fun k hk e => by subst hk; obtain ⟨c, hc⟩ := ownsRow_type HQ.out.2 e; rw [HR.out] at hc; cases hc) (fun q hq k hk e => by subst hk; obtain ⟨c, hc⟩ := OwnPts.blk (HQ.out.1 q hq) e; rw [HR.out] at hc; cases hc)
                      have hp1 : OwnPts w.heap.size wr pv pts := ownsRow_base HOP.out (by have := HU.out.size; omega)
                      have hb1 : w.heap.size ≤ wr.heap.size := by have := HU.out.size; have := HUP.out.size; omega
                      obtain ⟨g, cap, w6, r6, o6, v6, hat⟩ := append_polyQ (w := wr.drew) (base := w.heap.size) (q := (pts, at_)) hb1 (hq1.keep (Upd.refl noBlk wr).drew (fun k hk => hk.elim) (fun q hq k hk => hk.elim)) (OwnPts.upd hp1 (Upd.refl noBlk wr).drew) (by omega) HPV.out
                      have hNR : ¬ (Value.slice Al qs.length cpl).ownBlock = some w.heap.size := fun e => by obtain ⟨c, hc⟩ := ownsRow_type hq1.2 e; rw [hr1] at hc; cases hc
                      have hNB : ¬ (Value.slice Al qs.length cpl).ownBlock = some wo.heap.size := fun e => by have := (HQ.out.2.lt _ e).2; omega
                      have hR6 : w6.heap[w.heap.size]? = some (resO (.slice Al qs.length cpl) pl2 e2) := v6.heap hr1 hNR
                      have cR0 : w6.cell? ⟨w.heap.size, 0, none⟩ = some (.slice Al qs.length cpl) := by simp [World.cell?, hR6, resO]
                      have zR0 : w6.frozen? ⟨w.heap.size, 0, none⟩ = false := by simp [World.frozen?, hR6, resO]
                      have HR6 := Lib.hid hR6
                      have HNR := Lib.hid hNR
                      have HNB := Lib.hid hNB
                      have R6 := Lib.hid r6
                      have O6 := Lib.hid o6
                      have V6 : Hid (Upd (fun k => (Value.slice Al qs.length cpl).ownBlock = some k) wr w6) := (Upd.refl _ wr).drew.trans v6
                      clear hr1 hbx hq1 hp1 r6 o6 v6 hat hNR hNB hR6
                      refine wp_region_tree 8 (OT.sures [0, 1, 2, 3, 4, 5] (.run 6 (.run 7 .nil))) (fun w' => Upd (fun k => (Value.slice Al qs.length cpl).ownBlock = some k) wr w') (by kernel_rfl) (by kernel_rfl) (fun c a d v w h => by cases d <;> exact h) (Upd.refl _ _).drew ?_
                      simp only [OT.sures]
                      iterate 6 (apply wpT_sure rfl rfl; focus (intro w' hw'; have g0 := hw'.heap HRM.out HNR.out; have g1 := hw'.heap HPM.out HNB.out; have c0 : w'.cell? ⟨w.heap.size, 0, none⟩ = some (.slice Al qs.length cpl) := (by simp [World.cell?, g0, resO]); have c1 : w'.cell? ⟨wo.heap.size, 0, none⟩ = some pv := (by simp [World.cell?, g1]); have c2 : w'.cell? ⟨wo.heap.size, 1, none⟩ = some (.int .i64 at_) := (by simp [World.cell?, g1]); go_simp; rfl))
                      refine wpT_run (fun w' => Upd (fun k => (Value.slice Al qs.length cpl).ownBlock = some k) wr w') (fun _ h => h) rfl (fun K hK => ?_)
                      go_simp
                      refine hK _ _ ⟨((Upd.refl _ _).alloc _).drew, ?_⟩
                      clear hK K
                      refine wpT_run (fun w' => Upd (fun k => (Value.slice Al qs.length cpl).ownBlock = some k) wr w') (fun _ h => h) rfl (fun K hK => ?_)
                      rw [if_pos (by rfl)]
                      refine wp_append_run _ _ _ rfl rfl rfl R6.out (hK _ _ ⟨V6.out, ?_⟩)
                      clear hK K
                      refine wpT_nil ?_
                      simp only [List.drop_succ_cons, List.drop_zero]
                      go_wp2_with fail
                      refine ⟨⟨k + 1, at2, .slice (some ⟨g, 0, none⟩) (qs.length + 1) cap, qs ++ [(pv, (pts, at_))], pl2, e2, rfl, by go_num, hkm, by rw [List.length_append, HQL.out]; rfl, (heap_setCell_eq (i := 0) _ HR6.out).trans rfl, ?_, ?_, by rw [List.map_append]; exact HOUT.out⟩, by simp [intOf]; omega⟩
                      · exact O6.out.keep ((Upd.refl (fun k => k = w.heap.size) w6).setCell (p := ⟨w.heap.size, 0, none⟩) (fun _ => rfl) _) (fun k hk e => by subst hk; obtain ⟨c, hc⟩ := ownsRow_type O6.out.2 e; rw [HR6.out] at hc; cases hc) (fun q hq k hk e => by subst hk; obtain ⟨c, hc⟩ := OwnPts.blk (O6.out.1 q hq) e; rw [HR6.out] at hc; cases hc)
                      · exact HU.out.then (((HUP.out.mono (fun _ _ h => .inl h)).trans (V6.out.mono (fun _ _ h => .inr h))).setCell (F := fun k => k = w.heap.size ∨ (Value.slice Al qs.length cpl).ownBlock = some k) (p := ⟨w.heap.size, 0, none⟩) (fun _ => .inl rfl) _) (fun i hi e => by
                          rcases e with rfl | e
                          · omega
                          · have := (HQ.out.2.lt _ e).1; omega)
                    · have hjn' : ¬ ((jj : Nat) : Int) < ((n : Nat) : Int) := by omega
                      clear hgo
                      go_wp2_with fail
                      have hr1 := HRM.out
                      have hbx := HPM.out
                      have hql' : qs.length < 65537 := by have := HQL.out; have := HM.out; omega
                      have hq1 : OwnQs w.heap.size wr (.slice Al qs.length cpl) qs := HQ.out.keep HUP.out (fun k hk e => by subst hk; obtain ⟨c, hc⟩ := ownsRow_type HQ.out.2 e; rw [HR.out] at hc; cases hc) (fun q hq k hk e => by subst hk; obtain ⟨c, hc⟩ := OwnPts.blk (HQ.out.1 q hq) e; rw [HR.out] at hc; cases hc)
                      have hp1 : OwnPts w.heap.size wr pv pts := ownsRow_base HOP.out (by have := HU.out.size; omega)
                      have hb1 : w.heap.size ≤ wr.heap.size := by have := HU.out.size; have := HUP.out.size; omega
                      obtain ⟨g, cap, w6, r6, o6, v6, hat⟩ := append_polyQ (w := wr.drew) (base := w.heap.size) (q := (pts, at_)) hb1 (hq1.keep (Upd.refl noBlk wr).drew (fun k hk => hk.elim) (fun q hq k hk => hk.elim)) (OwnPts.upd hp1 (Upd.refl noBlk wr).drew) (by omega) HPV.out
                      have hNR : ¬ (Value.slice Al qs.length cpl).ownBlock = some w.heap.size := fun e => by obtain ⟨c, hc⟩ := ownsRow_type hq1.2 e; rw [hr1] at hc; cases hc
                      have hNB : ¬ (Value.slice Al qs.length cpl).ownBlock = some wo.heap.size := fun e => by have := (HQ.out.2.lt _ e).2; omega
                      have hR6 : w6.heap[w.heap.size]? = some (resO (.slice Al qs.length cpl) pl2 e2) := v6.heap hr1 hNR
                      have cR0 : w6.cell? ⟨w.heap.size, 0, none⟩ = some (.slice Al qs.length cpl) := by simp [World.cell?, hR6, resO]
                      have zR0 : w6.frozen? ⟨w.heap.size, 0, none⟩ = false := by simp [World.frozen?, hR6, resO]
                      have HR6 := Lib.hid hR6
                      have HNR := Lib.hid hNR
                      have HNB := Lib.hid hNB
                      have R6 := Lib.hid r6
                      have O6 := Lib.hid o6
                      have V6 : Hid (Upd (fun k => (Value.slice Al qs.length cpl).ownBlock = some k) wr w6) := (Upd.refl _ wr).drew.trans v6
                      clear hr1 hbx hq1 hp1 r6 o6 v6 hat hNR hNB hR6
                      refine wp_region_tree 8 (OT.sures [0, 1, 2, 3, 4, 5] (.run 6 (.run 7 .nil))) (fun w' => Upd (fun k => (Value.slice Al qs.length cpl).ownBlock = some k) wr w') (by kernel_rfl) (by kernel_rfl) (fun c a d v w h => by cases d <;> exact h) (Upd.refl _ _).drew ?_
                      simp only [OT.sures]
                      iterate 6 (apply wpT_sure rfl rfl; focus (intro w' hw'; have g0 := hw'.heap HRM.out HNR.out; have g1 := hw'.heap HPM.out HNB.out; have c0 : w'.cell? ⟨w.heap.size, 0, none⟩ = some (.slice Al qs.length cpl) := (by simp [World.cell?, g0, resO]); have c1 : w'.cell? ⟨wo.heap.size, 0, none⟩ = some pv := (by simp [World.cell?, g1]); have c2 : w'.cell? ⟨wo.heap.size, 1, none⟩ = some (.int .i64 at_) := (by simp [World.cell?, g1]); go_simp; rfl))
                      refine wpT_run (fun w' => Upd (fun k => (Value.slice Al qs.length cpl).ownBlock = some k) wr w') (fun _ h => h) rfl (fun K hK => ?_)
                      go_simp
                      refine hK _ _ ⟨((Upd.refl _ _).alloc _).drew, ?_⟩
                      clear hK K
                      refine wpT_run (fun w' => Upd (fun k => (Value.slice Al qs.length cpl).ownBlock = some k) wr w') (fun _ h => h) rfl (fun K hK => ?_)
                      rw [if_pos (by rfl)]
                      refine wp_append_run _ _ _ rfl rfl rfl R6.out (hK _ _ ⟨V6.out, ?_⟩)
                      clear hK K
                      refine wpT_nil ?_
                      simp only [List.drop_succ_cons, List.drop_zero]
                      go_wp2_with fail
                      refine ⟨⟨k + 1, at2, .slice (some ⟨g, 0, none⟩) (qs.length + 1) cap, qs ++ [(pv, (pts, at_))], pl2, e2, rfl, by go_num, hkm, by rw [List.length_append, HQL.out]; rfl, (heap_setCell_eq (i := 0) _ HR6.out).trans rfl, ?_, ?_, by rw [List.map_append]; exact HOUT.out⟩, by simp [intOf]; omega⟩
                      · exact O6.out.keep ((Upd.refl (fun k => k = w.heap.size) w6).setCell (p := ⟨w.heap.size, 0, none⟩) (fun _ => rfl) _) (fun k hk e => by subst hk; obtain ⟨c, hc⟩ := ownsRow_type O6.out.2 e; rw [HR6.out] at hc; cases hc) (fun q hq k hk e => by subst hk; obtain ⟨c, hc⟩ := OwnPts.blk (O6.out.1 q hq) e; rw [HR6.out] at hc; cases hc)
                      · exact HU.out.then (((HUP.out.mono (fun _ _ h => .inl h)).trans (V6.out.mono (fun _ _ h => .inr h))).setCell (F := fun k => k = w.heap.size ∨ (Value.slice Al qs.length cpl).ownBlock = some k) (p := ⟨w.heap.size, 0, none⟩) (fun _ => .inl rfl) _) (fun i hi e => by
                          rcases e with rfl | e
                          · omega
                          · have := (HQ.out.2.lt _ e).1; omega)
        · have HF := Lib.hid (qfail_any w.heap.size vl pl e at_ 13 wr HR.out)
          have hend1 : Hid (at_ < s.length → threeS s = .bad (if e = 0 then at_ else pl) (if e = 0 then 13 else e) ∧ (if e = 0 then 13 else e) ≠ 0) := fun h => HIK.out.end1 hlt hk h
          have hend2 : Hid (¬ at_ < s.length → (e = 0 ∧ threeS s = .ok (qs.map (·.2))) ∨ (e ≠ 0 ∧ threeS s = .bad pl e)) := fun h => HIK.out.end2 hlt hk h
          by_cases hkm : k < many
          · have he : e ≠ 0 := fun h => hlt ⟨hkm, h⟩
            have he' : (((e : Nat) : Int) == 0) = false := by rw [beq_eq_false_iff_ne]; omega
            have hkm' : ((k : Nat) : Int) < ((many : Nat) : Int) := by omega
            clear hlt
            by_cases h8 : ((at_ : Nat) : Int) < ((s.length : Nat) : Int)
            · go_wp2_with fail
              refine HF.out.mono ?_
              rintro e1 w3 ⟨rfl, u3, hr3⟩
              have U3 := Lib.hid u3
              have HR3 := Lib.hid hr3
              clear u3 hr3 HF
              go_wp2_with fail
              go_ret
              exact ⟨_, _, _, _, rfl, HR3.out, HU.out.then U3.out (fun i hi e => by omega), by rw [(hend1.out (by omega)).1]; exact ⟨rfl, rfl, (hend1.out (by omega)).2⟩⟩
            · go_wp2_with fail
              go_ret
              refine ⟨_, _, pl, e, rfl, HR.out, HU.out, ?_⟩
              rcases hend2.out (by omega) with ⟨h1, h2⟩ | ⟨h1, h2⟩
              · rw [h2]; exact ⟨h1, OwnQs.polys HQ.out⟩
              · rw [h2]; exact ⟨rfl, rfl, h1⟩
          · have hkm' : ¬ ((k : Nat) : Int) < ((many : Nat) : Int) := by omega
            clear hlt
            by_cases h8 : ((at_ : Nat) : Int) < ((s.length : Nat) : Int)
            · go_wp2_with fail
              refine HF.out.mono ?_
              rintro e1 w3 ⟨rfl, u3, hr3⟩
              have U3 := Lib.hid u3
              have HR3 := Lib.hid hr3
              clear u3 hr3 HF
              go_wp2_with fail
              go_ret
              exact ⟨_, _, _, _, rfl, HR3.out, HU.out.then U3.out (fun i hi e => by omega), by rw [(hend1.out (by omega)).1]; exact ⟨rfl, rfl, (hend1.out (by omega)).2⟩⟩
            · go_wp2_with fail
              go_ret
              refine ⟨_, _, pl, e, rfl, HR.out, HU.out, ?_⟩
              rcases hend2.out (by omega) with ⟨h1, h2⟩ | ⟨h1, h2⟩
              · rw [h2]; exact ⟨h1, OwnQs.polys HQ.out⟩
              · rw [h2]; exact ⟨rfl, rfl, h1⟩
end Go.Proofs.YtojdgdeefhndiaaGreatDoor
