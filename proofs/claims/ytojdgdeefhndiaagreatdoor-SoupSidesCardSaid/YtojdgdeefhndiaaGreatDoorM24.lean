/- Walks of the reference of the polygon files: Read. -/
import Derived.Test.YtojdgdeefhndiaaGreatDoorM22
import Derived.Test.YtojdgdeefhndiaaGreatDoorM23
import Derived.OwnWalk
namespace Go.Proofs.YtojdgdeefhndiaaGreatDoor
open Go Go.RowKit Sp
set_option maxRecDepth 100000

theorem flush_mem {cur x : Bytes} (h : x ∈ flush cur) : x ≠ [] := by
  unfold flush at h
  by_cases c : cur = []
  · rw [if_pos c] at h; cases h
  · rw [if_neg c, List.mem_singleton] at h; rw [h]; exact c
theorem fieldsGo_mem : ∀ (l cur x : Bytes), x ∈ fieldsGo cur l → x ≠ []
  | [], cur, x, h => flush_mem (by simpa [fieldsGo] using h)
  | c :: r, cur, x, h => by
    rw [fieldsGo] at h
    split at h
    · rw [List.mem_append] at h
      rcases h with h | h
      · exact flush_mem h
      · exact fieldsGo_mem r [] x h
    · exact fieldsGo_mem r _ x h
theorem words_ne {l x : Bytes} {r : List Bytes} (h : wordsOf l = x :: r) : x ≠ [] := fieldsGo_mem (Sp.ahead l) [] x (by unfold wordsOf at h; rw [h]; simp)
theorem firstWord_step1 {l : Bytes} {r : List Bytes} (h : wordsOf l = []) : firstWord (l :: r) = firstWord r := by rw [firstWord, h]
theorem firstWord_step2 {l x : Bytes} {r t : List Bytes} (h : wordsOf l = x :: t) : firstWord (l :: r) = x := by rw [firstWord, h]
/-- What holds between the lines: nothing found, or the first word. -/
def firstI (ls : List Bytes) (k : Nat) (f : Bytes) : Prop := (f = [] ∧ firstWord ls = firstWord (ls.drop k)) ∨ (f ≠ [] ∧ firstWord ls = f)
theorem magic_len {s : Bytes} (h : magic.isPrefixOf s = true) : 4 ≤ s.length := by
  have := List.IsPrefix.length_le (List.isPrefixOf_iff_prefix.1 h)
  simpa [magic] using this
theorem magic_take {s : Bytes} (_h : 4 ≤ s.length) : magic.isPrefixOf s = (s.take 4 == magic) := by
  rw [Bool.eq_iff_iff]
  constructor
  · intro h
    rw [List.isPrefixOf_iff_prefix] at h
    obtain ⟨t, rfl⟩ := h
    rfl
  · intro h
    have h2 := beq_iff_eq.1 h
    exact List.isPrefixOf_iff_prefix.2 ⟨s.drop 4, by rw [← h2]; exact List.take_append_drop 4 s⟩
theorem magic_yes {s : Bytes} (h : magic.isPrefixOf s = true) : (((bs s).extract 0 4).toList == [83, 79, 85, 80]) = true := by
  have h4 := magic_len h
  rw [bs_extract, bs_toList, List.drop_zero, ← h, magic_take h4]; rfl
theorem magic_no {s : Bytes} (h : magic.isPrefixOf s = false) : ¬ (4 : Int) ≤ ((s.length : Nat) : Int) ∨ (((bs s).extract 0 4).toList == [83, 79, 85, 80]) = false := by
  by_cases h4 : 4 ≤ s.length
  · right
    rw [bs_extract, bs_toList, List.drop_zero, ← h, magic_take h4]; rfl
  · left; omega
theorem linesGo_len : ∀ (r cur : Bytes), (linesGo cur r).length ≤ r.length + 1 ∧ ∀ x, x ∈ linesGo cur r → x.length ≤ cur.length + r.length
  | [], cur => by simp [linesGo]
  | c :: r, cur => by
    rw [linesGo]
    split
    · obtain ⟨h1, h2⟩ := linesGo_len r []
      refine ⟨by simp; omega, fun x hx => ?_⟩
      rw [List.mem_cons] at hx
      rcases hx with rfl | hx
      · omega
      · have := h2 x hx; simp at this ⊢; omega
    · obtain ⟨h1, h2⟩ := linesGo_len r (cur ++ [c])
      refine ⟨by simp; omega, fun x hx => ?_⟩
      have := h2 x hx; simp at this ⊢; omega
theorem linesOf_len (s : Bytes) : (linesOf s).length ≤ s.length + 1 ∧ ∀ x, x ∈ linesOf s → x.length ≤ s.length := by
  obtain ⟨h1, h2⟩ := linesGo_len s []
  exact ⟨h1, fun x hx => by have := h2 x hx; simpa using this⟩
theorem rdW_own {w : World} {base n : Nat} {A : Option Addr} {cap : Nat} {ls : List Bytes} (h : w.ownsRow base 9 1 (.slice A n cap) ls.length (wsV ls)) : RdW w A ls := by
  intro h0
  rcases h.2 with ⟨_, h1⟩ | ⟨g, c, cur, e, _⟩
  · omega
  · cases e
    refine ⟨g, 0, rfl, fun j hj => ?_⟩
    rw [Nat.zero_add, World.ownsRow.cellAt h j (by omega)]
    unfold wsV
    rw [List.getElem?_map, List.getElem?_eq_getElem hj]; rfl
set_option maxHeartbeats 1500000 in
theorem qRead_any (s : Bytes) (hs : s.length ≤ 4294967280) (w : World) :
    Calls Tryz.prog 21 #[.string (bs s)] w fun en w' => readQ (readS s) w en w' := by
  have hb : (bs s).size = s.length := bs_size s
  by_cases hp : magic.isPrefixOf s = true
  · have HSP : Hid (readS s = threeS s) := readS_three hp
    have e4 : (((bs s).extract 0 4).toList == [83, 79, 85, 80]) = true := magic_yes hp
    have h4 : (4 : Int) ≤ ((s.length : Nat) : Int) := by have := magic_len hp; omega
    have h4' : 4 ≤ s.length := by omega
    have HF := Lib.hid (qthree_any s (by omega) (w.alloc (resO (.slice none 0 0) 0 0)))
    clear hp
    go_enter Tryz.func21, Tryz.ntmps21
    go_wp2_with fail
    refine HF.out.mono ?_
    rintro e1 w2 ⟨R, vl, pl, e, rfl, hR, hu, hm⟩
    have hU : Upd noBlk w w2 := ((Upd.refl noBlk w).alloc _).trans hu
    have hbs : w.heap.size ≤ (w.alloc (resO (.slice none 0 0) 0 0)).heap.size := by simp
    clear HF hu
    have hm2 : (e = 0 ∧ ∃ ps, readS s = .ok ps ∧ OwnPolys w.heap.size w2 vl ps) ∨ (e ≠ 0 ∧ readS s = .bad pl e) := by
      rw [HSP.out]
      rcases hq : threeS s with ps | ⟨p, e'⟩
      · rw [hq] at hm; exact .inl ⟨hm.1, ps, rfl, hm.2.mono hbs⟩
      · rw [hq] at hm; obtain ⟨h1, h2, h3⟩ := hm; exact .inr ⟨by rw [h1]; exact h3, by rw [h1, h2]⟩
    obtain ⟨c0, c1, c2⟩ := resO_cell hR
    have HUW := Lib.hid hU
    have C1 := Lib.hid c1
    have C2 := Lib.hid c2
    clear hR hU hm
    rcases hm2 with ⟨rfl, ps, hs1, ho⟩ | ⟨he, hs1⟩
    · have HO := Lib.hid ho
      have HS1 := Lib.hid hs1
      clear ho hs1
      go_wp2_with fail
      go_ret3
      show readQ (readS s) w _ _
      rw [HS1.out]
      exact ⟨vl, rfl, HO.out, HUW.out⟩
    · have he' : (((e : Nat) : Int) != 0) = true := by rw [bne_iff_ne]; omega
      have HS1 := Lib.hid hs1
      clear he hs1
      go_wp2_with fail
      refine wp_region_tree 10 (OT.sures [0, 1, 2, 3, 4, 5, 6, 7, 8, 9] .nil) (fun w' => w'.cell? ⟨R, 1, none⟩ = some (.int .i64 pl) ∧ w'.cell? ⟨R, 2, none⟩ = some (.int .i64 e)) (by kernel_rfl) (by kernel_rfl) (fun c a d v w h => by cases d <;> exact h) ⟨C1.out, C2.out⟩ ?_
      simp only [OT.sures]
      iterate 10 (apply wpT_sure rfl rfl; focus (intro w' hw'; have g1 := hw'.1; have g2 := hw'.2; go_simp; rfl))
      refine wpT_nil ?_
      simp only [List.drop_succ_cons, List.drop_zero]
      go_wp2_with fail
      go_ret3
      show readQ (readS s) w _ _
      rw [HS1.out]
      exact ⟨rfl, HUW.out.drew⟩
  · have hp : magic.isPrefixOf s = false := Bool.eq_false_iff.2 hp
    have HP := Lib.hid hp
    have e4 : ¬ (4 : Int) ≤ ((s.length : Nat) : Int) ∨ (((bs s).extract 0 4).toList == [83, 79, 85, 80]) = false := magic_no hp
    have HLN := Lib.hid (qlines_any s (by omega) (w.alloc (resO (.slice none 0 0) 0 0)))
    have HLL := Lib.hid (linesOf_len s).1
    have HLX := Lib.hid (linesOf_len s).2
    have hll : (((linesOf s).length : Nat) : Int) ≤ 4294967290 := by have := HLL.out; omega
    clear hp
    by_cases h4 : (4 : Int) ≤ ((s.length : Nat) : Int)
    · have e4 : (((bs s).extract 0 4).toList == [83, 79, 85, 80]) = false := by
        rcases e4 with h | h
        · exact absurd h4 h
        · exact h
      have h4' : 4 ≤ s.length := by omega
      go_enter Tryz.func21, Tryz.ntmps21
      go_wp2_with fail
      refine HLN.out.mono ?_
      rintro e1 w1 ⟨vL, rfl, ov, u1⟩
      obtain ⟨Al, cl, rfl⟩ := own_form ov
      have U1 : Hid (Upd noBlk w w1) := ((Upd.refl noBlk w).alloc _).trans u1
      have HRD1 : Hid (RdW w1 Al (linesOf s)) := rdW_own ov
      clear ov u1 HLN
      go_wp2_with fail
      go_loopw [7, 8, 9] (fun fv i _ wr => ∃ (k : Nat) (f : Bytes), fv = .string (bs f) ∧ i = .int .i64 k ∧ k ≤ (linesOf s).length ∧ firstI (linesOf s) k f ∧ Upd noBlk w wr ∧ RdW wr Al (linesOf s)) (fun _ i _ _ => (linesOf s).length - (intOf i).toNat)
      case atStart => exact ⟨0, [], rfl, rfl, Nat.zero_le _, .inl ⟨rfl, rfl⟩, U1.out, HRD1.out⟩
      case round =>
        obtain ⟨k, f, rfl, rfl, hk, hf, hu0, hrd⟩ := hrel
        have HU0 := Lib.hid hu0
        have HRD := Lib.hid hrd
        have HFI := Lib.hid hf
        clear hu0 hrd U1 HRD1
        by_cases hgo : k < (linesOf s).length ∧ f = []
        · obtain ⟨hlt, rfl⟩ := hgo
          have hlt' : ((k : Nat) : Int) < (((linesOf s).length : Nat) : Int) := by omega
          have ef : (bs []).toList.isEmpty = true := by rw [bs_toList]; rfl
          obtain ⟨b, off, rfl, ea⟩ := HRD.out (by omega)
          have c0 : wr.cell? ⟨b, off + k, none⟩ = some (.string (bs (linesOf s)[k])) := ea k hlt
          have hlk := HLX.out (linesOf s)[k] (List.getElem_mem hlt)
          have HDK : Hid ((linesOf s).drop k = (linesOf s)[k] :: (linesOf s).drop (k + 1)) := List.drop_eq_getElem_cons hlt
          have hfi : Hid (firstWord (linesOf s) = firstWord ((linesOf s).drop k)) := by
            rcases HFI.out with ⟨_, h⟩ | ⟨h, _⟩
            · exact h
            · exact absurd rfl h
          clear ea hf
          generalize (linesOf s)[k] = lk at *
          have HW := Lib.hid (qwords_any lk (by omega) wr)
          rcases hw : wordsOf lk with _ | ⟨wd, wt⟩
          · rw [hw] at HW
            have HN : Hid (firstI (linesOf s) (k + 1) []) := .inl ⟨rfl, by rw [hfi.out, HDK.out, firstWord_step1 hw]⟩
            clear hw
            go_wp2_with fail
            refine HW.out.mono ?_
            rintro e1 w2 ⟨v, rfl, ov, u2⟩
            obtain ⟨Av, cv, rfl⟩ := own_form ov
            have U2 := Lib.hid u2
            clear ov u2
            go_wp2_with fail
            exact ⟨⟨k + 1, [], rfl, by go_num, hlt, HN.out, HU0.out.trans U2.out, HRD.out.keep U2.out⟩, by simp [intOf]; omega⟩
          · rw [hw] at HW
            have HN : Hid (firstI (linesOf s) (k + 1) wd) := .inr ⟨words_ne hw, by rw [hfi.out, HDK.out, firstWord_step2 hw]⟩
            clear hw
            go_wp2_with fail
            refine HW.out.mono ?_
            rintro e1 w2 ⟨v, rfl, ov, u2⟩
            obtain ⟨g, cv, rfl, cw, hrd, hcv, hcv1⟩ := own_words ov
            have U2 := Lib.hid u2
            have hl0 : (0 : Int) < ((wt.length : Nat) : Int) + 1 := by omega
            clear ov u2 hrd hcv hcv1
            go_wp2_with fail
            exact ⟨⟨k + 1, wd, rfl, by go_num, hlt, HN.out, HU0.out.trans U2.out, HRD.out.keep U2.out⟩, by simp [intOf]; omega⟩
        · have hff : Hid (firstWord (linesOf s) = f) := by
            rcases HFI.out with ⟨h1, h2⟩ | ⟨_, h⟩
            · show _ = _
              rw [h2, h1, List.drop_eq_nil_of_le (by
                by_cases c : k < (linesOf s).length
                · exact absurd ⟨c, h1⟩ hgo
                · omega)]; rfl
            · exact h
          clear hf
          have hp := HP.out
          by_cases hlt : k < (linesOf s).length
          · have hlt' : ((k : Nat) : Int) < (((linesOf s).length : Nat) : Int) := by omega
            have hfe : f ≠ [] := fun h => hgo ⟨hlt, h⟩
            have ef : (bs f).toList.isEmpty = false := by rw [bs_toList]; exact List.isEmpty_eq_false_iff.2 hfe
            clear hgo hfe
            by_cases hfp : f = wPoly
            · have HSP : Hid (readS s = twoGo 1 (linesOf s) 0 []) := by show _ = _; unfold readS; rw [if_neg (by rw [hp]; simp), if_pos (hff.out.trans hfp)]
              have HF := Lib.hid (qtwo_any Al cl (linesOf s) (by have := HLL.out; omega) (fun x hx => by have := HLX.out x hx; omega) wr HRD.out)
              have ep : ((bs f).toList == [112, 111, 108, 121]) = true := by rw [hfp, bs_toList]; rfl
              clear hfp hp
              go_wp2_with fail
              refine HF.out.mono ?_
              rintro e1 w2 ⟨R, vl, pl, e, rfl, hR, hu, hm⟩
              have hU : Upd noBlk w w2 := HU0.out.trans hu
              have hbs : w.heap.size ≤ wr.heap.size := HU0.out.size
              clear HF hu
              have hm2 : (e = 0 ∧ ∃ ps, readS s = .ok ps ∧ OwnPolys w.heap.size w2 vl ps) ∨ (e ≠ 0 ∧ readS s = .bad pl e) := by
                rw [HSP.out]
                rcases hq : twoGo 1 (linesOf s) 0 [] with ps | ⟨p, e'⟩
                · rw [hq] at hm; exact .inl ⟨hm.1, ps, rfl, hm.2.mono hbs⟩
                · rw [hq] at hm; obtain ⟨h1, h2, h3⟩ := hm; exact .inr ⟨by rw [h1]; exact h3, by rw [h1, h2]⟩
              obtain ⟨c0, c1, c2⟩ := resO_cell hR
              have HUW := Lib.hid hU
              have C1 := Lib.hid c1
              have C2 := Lib.hid c2
              clear hR hU hm
              rcases hm2 with ⟨rfl, ps, hs1, ho⟩ | ⟨he, hs1⟩
              · have HO := Lib.hid ho
                have HS1 := Lib.hid hs1
                clear ho hs1
                go_wp2_with fail
                go_ret3
                show readQ (readS s) w _ _
                rw [HS1.out]
                exact ⟨vl, rfl, HO.out, HUW.out⟩
              · have he' : (((e : Nat) : Int) != 0) = true := by rw [bne_iff_ne]; omega
                have HS1 := Lib.hid hs1
                clear he hs1
                go_wp2_with fail
                refine wp_region_tree 10 (OT.sures [0, 1, 2, 3, 4, 5, 6, 7, 8, 9] .nil) (fun w' => w'.cell? ⟨R, 1, none⟩ = some (.int .i64 pl) ∧ w'.cell? ⟨R, 2, none⟩ = some (.int .i64 e)) (by kernel_rfl) (by kernel_rfl) (fun c a d v w h => by cases d <;> exact h) ⟨C1.out, C2.out⟩ ?_
                simp only [OT.sures]
                iterate 10 (apply wpT_sure rfl rfl; focus (intro w' hw'; have g1 := hw'.1; have g2 := hw'.2; go_simp; rfl))
                refine wpT_nil ?_
                simp only [List.drop_succ_cons, List.drop_zero]
                go_wp2_with fail
                go_ret3
                show readQ (readS s) w _ _
                rw [HS1.out]
                exact ⟨rfl, HUW.out.drew⟩
            · have HSP : Hid (readS s = oneGo 1 (linesOf s) [] []) := by show _ = _; unfold readS; rw [if_neg (by rw [hp]; simp), if_neg (fun h => hfp (hff.out.symm.trans h))]
              have HF := Lib.hid (qone_any Al cl (linesOf s) (by have := HLL.out; omega) (fun x hx => by have := HLX.out x hx; omega) wr HRD.out)
              have ep : ((bs f).toList == [112, 111, 108, 121]) = false := by rw [bs_toList]; rw [beq_eq_false_iff_ne]; exact hfp
              clear hfp hp
              go_wp2_with fail
              refine HF.out.mono ?_
              rintro e1 w2 ⟨R, vl, pl, e, rfl, hR, hu, hm⟩
              have hU : Upd noBlk w w2 := HU0.out.trans hu
              have hbs : w.heap.size ≤ wr.heap.size := HU0.out.size
              clear HF hu
              have hm2 : (e = 0 ∧ ∃ ps, readS s = .ok ps ∧ OwnPolys w.heap.size w2 vl ps) ∨ (e ≠ 0 ∧ readS s = .bad pl e) := by
                rw [HSP.out]
                rcases hq : oneGo 1 (linesOf s) [] [] with ps | ⟨p, e'⟩
                · rw [hq] at hm; exact .inl ⟨hm.1, ps, rfl, hm.2.mono hbs⟩
                · rw [hq] at hm; obtain ⟨h1, h2, h3⟩ := hm; exact .inr ⟨by rw [h1]; exact h3, by rw [h1, h2]⟩
              obtain ⟨c0, c1, c2⟩ := resO_cell hR
              have HUW := Lib.hid hU
              have C1 := Lib.hid c1
              have C2 := Lib.hid c2
              clear hR hU hm
              rcases hm2 with ⟨rfl, ps, hs1, ho⟩ | ⟨he, hs1⟩
              · have HO := Lib.hid ho
                have HS1 := Lib.hid hs1
                clear ho hs1
                go_wp2_with fail
                go_ret3
                show readQ (readS s) w _ _
                rw [HS1.out]
                exact ⟨vl, rfl, HO.out, HUW.out⟩
              · have he' : (((e : Nat) : Int) != 0) = true := by rw [bne_iff_ne]; omega
                have HS1 := Lib.hid hs1
                clear he hs1
                go_wp2_with fail
                refine wp_region_tree 10 (OT.sures [0, 1, 2, 3, 4, 5, 6, 7, 8, 9] .nil) (fun w' => w'.cell? ⟨R, 1, none⟩ = some (.int .i64 pl) ∧ w'.cell? ⟨R, 2, none⟩ = some (.int .i64 e)) (by kernel_rfl) (by kernel_rfl) (fun c a d v w h => by cases d <;> exact h) ⟨C1.out, C2.out⟩ ?_
                simp only [OT.sures]
                iterate 10 (apply wpT_sure rfl rfl; focus (intro w' hw'; have g1 := hw'.1; have g2 := hw'.2; go_simp; rfl))
                refine wpT_nil ?_
                simp only [List.drop_succ_cons, List.drop_zero]
                go_wp2_with fail
                go_ret3
                show readQ (readS s) w _ _
                rw [HS1.out]
                exact ⟨rfl, HUW.out.drew⟩
          · have hlt' : ¬ ((k : Nat) : Int) < (((linesOf s).length : Nat) : Int) := by omega
            clear hgo
            by_cases hfp : f = wPoly
            · have HSP : Hid (readS s = twoGo 1 (linesOf s) 0 []) := by show _ = _; unfold readS; rw [if_neg (by rw [hp]; simp), if_pos (hff.out.trans hfp)]
              have HF := Lib.hid (qtwo_any Al cl (linesOf s) (by have := HLL.out; omega) (fun x hx => by have := HLX.out x hx; omega) wr HRD.out)
              have ep : ((bs f).toList == [112, 111, 108, 121]) = true := by rw [hfp, bs_toList]; rfl
              clear hfp hp
              go_wp2_with fail
              refine HF.out.mono ?_
              rintro e1 w2 ⟨R, vl, pl, e, rfl, hR, hu, hm⟩
              have hU : Upd noBlk w w2 := HU0.out.trans hu
              have hbs : w.heap.size ≤ wr.heap.size := HU0.out.size
              clear HF hu
              have hm2 : (e = 0 ∧ ∃ ps, readS s = .ok ps ∧ OwnPolys w.heap.size w2 vl ps) ∨ (e ≠ 0 ∧ readS s = .bad pl e) := by
                rw [HSP.out]
                rcases hq : twoGo 1 (linesOf s) 0 [] with ps | ⟨p, e'⟩
                · rw [hq] at hm; exact .inl ⟨hm.1, ps, rfl, hm.2.mono hbs⟩
                · rw [hq] at hm; obtain ⟨h1, h2, h3⟩ := hm; exact .inr ⟨by rw [h1]; exact h3, by rw [h1, h2]⟩
              obtain ⟨c0, c1, c2⟩ := resO_cell hR
              have HUW := Lib.hid hU
              have C1 := Lib.hid c1
              have C2 := Lib.hid c2
              clear hR hU hm
              rcases hm2 with ⟨rfl, ps, hs1, ho⟩ | ⟨he, hs1⟩
              · have HO := Lib.hid ho
                have HS1 := Lib.hid hs1
                clear ho hs1
                go_wp2_with fail
                go_ret3
                show readQ (readS s) w _ _
                rw [HS1.out]
                exact ⟨vl, rfl, HO.out, HUW.out⟩
              · have he' : (((e : Nat) : Int) != 0) = true := by rw [bne_iff_ne]; omega
                have HS1 := Lib.hid hs1
                clear he hs1
                go_wp2_with fail
                refine wp_region_tree 10 (OT.sures [0, 1, 2, 3, 4, 5, 6, 7, 8, 9] .nil) (fun w' => w'.cell? ⟨R, 1, none⟩ = some (.int .i64 pl) ∧ w'.cell? ⟨R, 2, none⟩ = some (.int .i64 e)) (by kernel_rfl) (by kernel_rfl) (fun c a d v w h => by cases d <;> exact h) ⟨C1.out, C2.out⟩ ?_
                simp only [OT.sures]
                iterate 10 (apply wpT_sure rfl rfl; focus (intro w' hw'; have g1 := hw'.1; have g2 := hw'.2; go_simp; rfl))
                refine wpT_nil ?_
                simp only [List.drop_succ_cons, List.drop_zero]
                go_wp2_with fail
                go_ret3
                show readQ (readS s) w _ _
                rw [HS1.out]
                exact ⟨rfl, HUW.out.drew⟩
            · have HSP : Hid (readS s = oneGo 1 (linesOf s) [] []) := by show _ = _; unfold readS; rw [if_neg (by rw [hp]; simp), if_neg (fun h => hfp (hff.out.symm.trans h))]
              have HF := Lib.hid (qone_any Al cl (linesOf s) (by have := HLL.out; omega) (fun x hx => by have := HLX.out x hx; omega) wr HRD.out)
              have ep : ((bs f).toList == [112, 111, 108, 121]) = false := by rw [bs_toList]; rw [beq_eq_false_iff_ne]; exact hfp
              clear hfp hp
              go_wp2_with fail
              refine HF.out.mono ?_
              rintro e1 w2 ⟨R, vl, pl, e, rfl, hR, hu, hm⟩
              have hU : Upd noBlk w w2 := HU0.out.trans hu
              have hbs : w.heap.size ≤ wr.heap.size := HU0.out.size
              clear HF hu
              have hm2 : (e = 0 ∧ ∃ ps, readS s = .ok ps ∧ OwnPolys w.heap.size w2 vl ps) ∨ (e ≠ 0 ∧ readS s = .bad pl e) := by
                rw [HSP.out]
                rcases hq : oneGo 1 (linesOf s) [] [] with ps | ⟨p, e'⟩
                · rw [hq] at hm; exact .inl ⟨hm.1, ps, rfl, hm.2.mono hbs⟩
                · rw [hq] at hm; obtain ⟨h1, h2, h3⟩ := hm; exact .inr ⟨by rw [h1]; exact h3, by rw [h1, h2]⟩
              obtain ⟨c0, c1, c2⟩ := resO_cell hR
              have HUW := Lib.hid hU
              have C1 := Lib.hid c1
              have C2 := Lib.hid c2
              clear hR hU hm
              rcases hm2 with ⟨rfl, ps, hs1, ho⟩ | ⟨he, hs1⟩
              · have HO := Lib.hid ho
                have HS1 := Lib.hid hs1
                clear ho hs1
                go_wp2_with fail
                go_ret3
                show readQ (readS s) w _ _
                rw [HS1.out]
                exact ⟨vl, rfl, HO.out, HUW.out⟩
              · have he' : (((e : Nat) : Int) != 0) = true := by rw [bne_iff_ne]; omega
                have HS1 := Lib.hid hs1
                clear he hs1
                go_wp2_with fail
                refine wp_region_tree 10 (OT.sures [0, 1, 2, 3, 4, 5, 6, 7, 8, 9] .nil) (fun w' => w'.cell? ⟨R, 1, none⟩ = some (.int .i64 pl) ∧ w'.cell? ⟨R, 2, none⟩ = some (.int .i64 e)) (by kernel_rfl) (by kernel_rfl) (fun c a d v w h => by cases d <;> exact h) ⟨C1.out, C2.out⟩ ?_
                simp only [OT.sures]
                iterate 10 (apply wpT_sure rfl rfl; focus (intro w' hw'; have g1 := hw'.1; have g2 := hw'.2; go_simp; rfl))
                refine wpT_nil ?_
                simp only [List.drop_succ_cons, List.drop_zero]
                go_wp2_with fail
                go_ret3
                show readQ (readS s) w _ _
                rw [HS1.out]
                exact ⟨rfl, HUW.out.drew⟩
    · clear e4
      go_enter Tryz.func21, Tryz.ntmps21
      go_wp2_with fail
      refine HLN.out.mono ?_
      rintro e1 w1 ⟨vL, rfl, ov, u1⟩
      obtain ⟨Al, cl, rfl⟩ := own_form ov
      have U1 : Hid (Upd noBlk w w1) := ((Upd.refl noBlk w).alloc _).trans u1
      have HRD1 : Hid (RdW w1 Al (linesOf s)) := rdW_own ov
      clear ov u1 HLN
      go_wp2_with fail
      go_loopw [7, 8, 9] (fun fv i _ wr => ∃ (k : Nat) (f : Bytes), fv = .string (bs f) ∧ i = .int .i64 k ∧ k ≤ (linesOf s).length ∧ firstI (linesOf s) k f ∧ Upd noBlk w wr ∧ RdW wr Al (linesOf s)) (fun _ i _ _ => (linesOf s).length - (intOf i).toNat)
      case atStart => exact ⟨0, [], rfl, rfl, Nat.zero_le _, .inl ⟨rfl, rfl⟩, U1.out, HRD1.out⟩
      case round =>
        obtain ⟨k, f, rfl, rfl, hk, hf, hu0, hrd⟩ := hrel
        have HU0 := Lib.hid hu0
        have HRD := Lib.hid hrd
        have HFI := Lib.hid hf
        clear hu0 hrd U1 HRD1
        by_cases hgo : k < (linesOf s).length ∧ f = []
        · obtain ⟨hlt, rfl⟩ := hgo
          have hlt' : ((k : Nat) : Int) < (((linesOf s).length : Nat) : Int) := by omega
          have ef : (bs []).toList.isEmpty = true := by rw [bs_toList]; rfl
          obtain ⟨b, off, rfl, ea⟩ := HRD.out (by omega)
          have c0 : wr.cell? ⟨b, off + k, none⟩ = some (.string (bs (linesOf s)[k])) := ea k hlt
          have hlk := HLX.out (linesOf s)[k] (List.getElem_mem hlt)
          have HDK : Hid ((linesOf s).drop k = (linesOf s)[k] :: (linesOf s).drop (k + 1)) := List.drop_eq_getElem_cons hlt
          have hfi : Hid (firstWord (linesOf s) = firstWord ((linesOf s).drop k)) := by
            rcases HFI.out with ⟨_, h⟩ | ⟨h, _⟩
            · exact h
            · exact absurd rfl h
          clear ea hf
          generalize (linesOf s)[k] = lk at *
          have HW := Lib.hid (qwords_any lk (by omega) wr)
          rcases hw : wordsOf lk with _ | ⟨wd, wt⟩
          · rw [hw] at HW
            have HN : Hid (firstI (linesOf s) (k + 1) []) := .inl ⟨rfl, by rw [hfi.out, HDK.out, firstWord_step1 hw]⟩
            clear hw
            go_wp2_with fail
            refine HW.out.mono ?_
            rintro e1 w2 ⟨v, rfl, ov, u2⟩
            obtain ⟨Av, cv, rfl⟩ := own_form ov
            have U2 := Lib.hid u2
            clear ov u2
            go_wp2_with fail
            exact ⟨⟨k + 1, [], rfl, by go_num, hlt, HN.out, HU0.out.trans U2.out, HRD.out.keep U2.out⟩, by simp [intOf]; omega⟩
          · rw [hw] at HW
            have HN : Hid (firstI (linesOf s) (k + 1) wd) := .inr ⟨words_ne hw, by rw [hfi.out, HDK.out, firstWord_step2 hw]⟩
            clear hw
            go_wp2_with fail
            refine HW.out.mono ?_
            rintro e1 w2 ⟨v, rfl, ov, u2⟩
            obtain ⟨g, cv, rfl, cw, hrd, hcv, hcv1⟩ := own_words ov
            have U2 := Lib.hid u2
            have hl0 : (0 : Int) < ((wt.length : Nat) : Int) + 1 := by omega
            clear ov u2 hrd hcv hcv1
            go_wp2_with fail
            exact ⟨⟨k + 1, wd, rfl, by go_num, hlt, HN.out, HU0.out.trans U2.out, HRD.out.keep U2.out⟩, by simp [intOf]; omega⟩
        · have hff : Hid (firstWord (linesOf s) = f) := by
            rcases HFI.out with ⟨h1, h2⟩ | ⟨_, h⟩
            · show _ = _
              rw [h2, h1, List.drop_eq_nil_of_le (by
                by_cases c : k < (linesOf s).length
                · exact absurd ⟨c, h1⟩ hgo
                · omega)]; rfl
            · exact h
          clear hf
          have hp := HP.out
          by_cases hlt : k < (linesOf s).length
          · have hlt' : ((k : Nat) : Int) < (((linesOf s).length : Nat) : Int) := by omega
            have hfe : f ≠ [] := fun h => hgo ⟨hlt, h⟩
            have ef : (bs f).toList.isEmpty = false := by rw [bs_toList]; exact List.isEmpty_eq_false_iff.2 hfe
            clear hgo hfe
            by_cases hfp : f = wPoly
            · have HSP : Hid (readS s = twoGo 1 (linesOf s) 0 []) := by show _ = _; unfold readS; rw [if_neg (by rw [hp]; simp), if_pos (hff.out.trans hfp)]
              have HF := Lib.hid (qtwo_any Al cl (linesOf s) (by have := HLL.out; omega) (fun x hx => by have := HLX.out x hx; omega) wr HRD.out)
              have ep : ((bs f).toList == [112, 111, 108, 121]) = true := by rw [hfp, bs_toList]; rfl
              clear hfp hp
              go_wp2_with fail
              refine HF.out.mono ?_
              rintro e1 w2 ⟨R, vl, pl, e, rfl, hR, hu, hm⟩
              have hU : Upd noBlk w w2 := HU0.out.trans hu
              have hbs : w.heap.size ≤ wr.heap.size := HU0.out.size
              clear HF hu
              have hm2 : (e = 0 ∧ ∃ ps, readS s = .ok ps ∧ OwnPolys w.heap.size w2 vl ps) ∨ (e ≠ 0 ∧ readS s = .bad pl e) := by
                rw [HSP.out]
                rcases hq : twoGo 1 (linesOf s) 0 [] with ps | ⟨p, e'⟩
                · rw [hq] at hm; exact .inl ⟨hm.1, ps, rfl, hm.2.mono hbs⟩
                · rw [hq] at hm; obtain ⟨h1, h2, h3⟩ := hm; exact .inr ⟨by rw [h1]; exact h3, by rw [h1, h2]⟩
              obtain ⟨c0, c1, c2⟩ := resO_cell hR
              have HUW := Lib.hid hU
              have C1 := Lib.hid c1
              have C2 := Lib.hid c2
              clear hR hU hm
              rcases hm2 with ⟨rfl, ps, hs1, ho⟩ | ⟨he, hs1⟩
              · have HO := Lib.hid ho
                have HS1 := Lib.hid hs1
                clear ho hs1
                go_wp2_with fail
                go_ret3
                show readQ (readS s) w _ _
                rw [HS1.out]
                exact ⟨vl, rfl, HO.out, HUW.out⟩
              · have he' : (((e : Nat) : Int) != 0) = true := by rw [bne_iff_ne]; omega
                have HS1 := Lib.hid hs1
                clear he hs1
                go_wp2_with fail
                refine wp_region_tree 10 (OT.sures [0, 1, 2, 3, 4, 5, 6, 7, 8, 9] .nil) (fun w' => w'.cell? ⟨R, 1, none⟩ = some (.int .i64 pl) ∧ w'.cell? ⟨R, 2, none⟩ = some (.int .i64 e)) (by kernel_rfl) (by kernel_rfl) (fun c a d v w h => by cases d <;> exact h) ⟨C1.out, C2.out⟩ ?_
                simp only [OT.sures]
                iterate 10 (apply wpT_sure rfl rfl; focus (intro w' hw'; have g1 := hw'.1; have g2 := hw'.2; go_simp; rfl))
                refine wpT_nil ?_
                simp only [List.drop_succ_cons, List.drop_zero]
                go_wp2_with fail
                go_ret3
                show readQ (readS s) w _ _
                rw [HS1.out]
                exact ⟨rfl, HUW.out.drew⟩
            · have HSP : Hid (readS s = oneGo 1 (linesOf s) [] []) := by show _ = _; unfold readS; rw [if_neg (by rw [hp]; simp), if_neg (fun h => hfp (hff.out.symm.trans h))]
              have HF := Lib.hid (qone_any Al cl (linesOf s) (by have := HLL.out; omega) (fun x hx => by have := HLX.out x hx; omega) wr HRD.out)
              have ep : ((bs f).toList == [112, 111, 108, 121]) = false := by rw [bs_toList]; rw [beq_eq_false_iff_ne]; exact hfp
              clear hfp hp
              go_wp2_with fail
              refine HF.out.mono ?_
              rintro e1 w2 ⟨R, vl, pl, e, rfl, hR, hu, hm⟩
              have hU : Upd noBlk w w2 := HU0.out.trans hu
              have hbs : w.heap.size ≤ wr.heap.size := HU0.out.size
              clear HF hu
              have hm2 : (e = 0 ∧ ∃ ps, readS s = .ok ps ∧ OwnPolys w.heap.size w2 vl ps) ∨ (e ≠ 0 ∧ readS s = .bad pl e) := by
                rw [HSP.out]
                rcases hq : oneGo 1 (linesOf s) [] [] with ps | ⟨p, e'⟩
                · rw [hq] at hm; exact .inl ⟨hm.1, ps, rfl, hm.2.mono hbs⟩
                · rw [hq] at hm; obtain ⟨h1, h2, h3⟩ := hm; exact .inr ⟨by rw [h1]; exact h3, by rw [h1, h2]⟩
              obtain ⟨c0, c1, c2⟩ := resO_cell hR
              have HUW := Lib.hid hU
              have C1 := Lib.hid c1
              have C2 := Lib.hid c2
              clear hR hU hm
              rcases hm2 with ⟨rfl, ps, hs1, ho⟩ | ⟨he, hs1⟩
              · have HO := Lib.hid ho
                have HS1 := Lib.hid hs1
                clear ho hs1
                go_wp2_with fail
                go_ret3
                show readQ (readS s) w _ _
                rw [HS1.out]
                exact ⟨vl, rfl, HO.out, HUW.out⟩
              · have he' : (((e : Nat) : Int) != 0) = true := by rw [bne_iff_ne]; omega
                have HS1 := Lib.hid hs1
                clear he hs1
                go_wp2_with fail
                refine wp_region_tree 10 (OT.sures [0, 1, 2, 3, 4, 5, 6, 7, 8, 9] .nil) (fun w' => w'.cell? ⟨R, 1, none⟩ = some (.int .i64 pl) ∧ w'.cell? ⟨R, 2, none⟩ = some (.int .i64 e)) (by kernel_rfl) (by kernel_rfl) (fun c a d v w h => by cases d <;> exact h) ⟨C1.out, C2.out⟩ ?_
                simp only [OT.sures]
                iterate 10 (apply wpT_sure rfl rfl; focus (intro w' hw'; have g1 := hw'.1; have g2 := hw'.2; go_simp; rfl))
                refine wpT_nil ?_
                simp only [List.drop_succ_cons, List.drop_zero]
                go_wp2_with fail
                go_ret3
                show readQ (readS s) w _ _
                rw [HS1.out]
                exact ⟨rfl, HUW.out.drew⟩
          · have hlt' : ¬ ((k : Nat) : Int) < (((linesOf s).length : Nat) : Int) := by omega
            clear hgo
            by_cases hfp : f = wPoly
            · have HSP : Hid (readS s = twoGo 1 (linesOf s) 0 []) := by show _ = _; unfold readS; rw [if_neg (by rw [hp]; simp), if_pos (hff.out.trans hfp)]
              have HF := Lib.hid (qtwo_any Al cl (linesOf s) (by have := HLL.out; omega) (fun x hx => by have := HLX.out x hx; omega) wr HRD.out)
              have ep : ((bs f).toList == [112, 111, 108, 121]) = true := by rw [hfp, bs_toList]; rfl
              clear hfp hp
              go_wp2_with fail
              refine HF.out.mono ?_
              rintro e1 w2 ⟨R, vl, pl, e, rfl, hR, hu, hm⟩
              have hU : Upd noBlk w w2 := HU0.out.trans hu
              have hbs : w.heap.size ≤ wr.heap.size := HU0.out.size
              clear HF hu
              have hm2 : (e = 0 ∧ ∃ ps, readS s = .ok ps ∧ OwnPolys w.heap.size w2 vl ps) ∨ (e ≠ 0 ∧ readS s = .bad pl e) := by
                rw [HSP.out]
                rcases hq : twoGo 1 (linesOf s) 0 [] with ps | ⟨p, e'⟩
                · rw [hq] at hm; exact .inl ⟨hm.1, ps, rfl, hm.2.mono hbs⟩
                · rw [hq] at hm; obtain ⟨h1, h2, h3⟩ := hm; exact .inr ⟨by rw [h1]; exact h3, by rw [h1, h2]⟩
              obtain ⟨c0, c1, c2⟩ := resO_cell hR
              have HUW := Lib.hid hU
              have C1 := Lib.hid c1
              have C2 := Lib.hid c2
              clear hR hU hm
              rcases hm2 with ⟨rfl, ps, hs1, ho⟩ | ⟨he, hs1⟩
              · have HO := Lib.hid ho
                have HS1 := Lib.hid hs1
                clear ho hs1
                go_wp2_with fail
                go_ret3
                show readQ (readS s) w _ _
                rw [HS1.out]
                exact ⟨vl, rfl, HO.out, HUW.out⟩
              · have he' : (((e : Nat) : Int) != 0) = true := by rw [bne_iff_ne]; omega
                have HS1 := Lib.hid hs1
                clear he hs1
                go_wp2_with fail
                refine wp_region_tree 10 (OT.sures [0, 1, 2, 3, 4, 5, 6, 7, 8, 9] .nil) (fun w' => w'.cell? ⟨R, 1, none⟩ = some (.int .i64 pl) ∧ w'.cell? ⟨R, 2, none⟩ = some (.int .i64 e)) (by kernel_rfl) (by kernel_rfl) (fun c a d v w h => by cases d <;> exact h) ⟨C1.out, C2.out⟩ ?_
                simp only [OT.sures]
                iterate 10 (apply wpT_sure rfl rfl; focus (intro w' hw'; have g1 := hw'.1; have g2 := hw'.2; go_simp; rfl))
                refine wpT_nil ?_
                simp only [List.drop_succ_cons, List.drop_zero]
                go_wp2_with fail
                go_ret3
                show readQ (readS s) w _ _
                rw [HS1.out]
                exact ⟨rfl, HUW.out.drew⟩
            · have HSP : Hid (readS s = oneGo 1 (linesOf s) [] []) := by show _ = _; unfold readS; rw [if_neg (by rw [hp]; simp), if_neg (fun h => hfp (hff.out.symm.trans h))]
              have HF := Lib.hid (qone_any Al cl (linesOf s) (by have := HLL.out; omega) (fun x hx => by have := HLX.out x hx; omega) wr HRD.out)
              have ep : ((bs f).toList == [112, 111, 108, 121]) = false := by rw [bs_toList]; rw [beq_eq_false_iff_ne]; exact hfp
              clear hfp hp
              go_wp2_with fail
              refine HF.out.mono ?_
              rintro e1 w2 ⟨R, vl, pl, e, rfl, hR, hu, hm⟩
              have hU : Upd noBlk w w2 := HU0.out.trans hu
              have hbs : w.heap.size ≤ wr.heap.size := HU0.out.size
              clear HF hu
              have hm2 : (e = 0 ∧ ∃ ps, readS s = .ok ps ∧ OwnPolys w.heap.size w2 vl ps) ∨ (e ≠ 0 ∧ readS s = .bad pl e) := by
                rw [HSP.out]
                rcases hq : oneGo 1 (linesOf s) [] [] with ps | ⟨p, e'⟩
                · rw [hq] at hm; exact .inl ⟨hm.1, ps, rfl, hm.2.mono hbs⟩
                · rw [hq] at hm; obtain ⟨h1, h2, h3⟩ := hm; exact .inr ⟨by rw [h1]; exact h3, by rw [h1, h2]⟩
              obtain ⟨c0, c1, c2⟩ := resO_cell hR
              have HUW := Lib.hid hU
              have C1 := Lib.hid c1
              have C2 := Lib.hid c2
              clear hR hU hm
              rcases hm2 with ⟨rfl, ps, hs1, ho⟩ | ⟨he, hs1⟩
              · have HO := Lib.hid ho
                have HS1 := Lib.hid hs1
                clear ho hs1
                go_wp2_with fail
                go_ret3
                show readQ (readS s) w _ _
                rw [HS1.out]
                exact ⟨vl, rfl, HO.out, HUW.out⟩
              · have he' : (((e : Nat) : Int) != 0) = true := by rw [bne_iff_ne]; omega
                have HS1 := Lib.hid hs1
                clear he hs1
                go_wp2_with fail
                refine wp_region_tree 10 (OT.sures [0, 1, 2, 3, 4, 5, 6, 7, 8, 9] .nil) (fun w' => w'.cell? ⟨R, 1, none⟩ = some (.int .i64 pl) ∧ w'.cell? ⟨R, 2, none⟩ = some (.int .i64 e)) (by kernel_rfl) (by kernel_rfl) (fun c a d v w h => by cases d <;> exact h) ⟨C1.out, C2.out⟩ ?_
                simp only [OT.sures]
                iterate 10 (apply wpT_sure rfl rfl; focus (intro w' hw'; have g1 := hw'.1; have g2 := hw'.2; go_simp; rfl))
                refine wpT_nil ?_
                simp only [List.drop_succ_cons, List.drop_zero]
                go_wp2_with fail
                go_ret3
                show readQ (readS s) w _ _
                rw [HS1.out]
                exact ⟨rfl, HUW.out.drew⟩
end Go.Proofs.YtojdgdeefhndiaaGreatDoor
