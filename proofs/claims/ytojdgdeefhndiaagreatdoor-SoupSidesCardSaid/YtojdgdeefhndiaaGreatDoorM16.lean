/- Walks of the reference of the polygon files: one. -/
import Derived.Test.YtojdgdeefhndiaaGreatDoorM14
import Derived.Test.YtojdgdeefhndiaaGreatDoorM15
namespace Go.Proofs.YtojdgdeefhndiaaGreatDoor
open Go Go.RowKit Sp
set_option maxRecDepth 100000

theorem corner_e {ws : List Bytes} {e : Nat} (h : cornerS ws = .bad e) : e ≠ 0 := by
  unfold cornerS at h
  split at h
  · split at h
    · rename_i e' h2; cases h; have := numbersS_e h2; omega
    · split at h
      · cases h
      · cases h; decide
  · cases h; decide
theorem pick_e {cs : List Pt} : ∀ {zs : List Int} {e : Nat}, pick cs zs = .bad e → e ≠ 0
  | [], e, h => by cases h
  | z :: r, e, h => by
    rw [pick] at h
    generalize (if z < 0 then (cs.length : Int) + z else z - 1) = m at h
    cases hg : cs[m.toNat]? with
    | none => rw [hg] at h; cases h; decide
    | some p =>
      rw [hg] at h
      simp only at h
      by_cases hm : m < 0
      · rw [if_pos hm] at h; cases h; decide
      · rw [if_neg hm] at h
        cases hp : pick cs r with
        | bad e' => rw [hp] at h; cases h; exact pick_e hp
        | ok l => rw [hp] at h; cases h
theorem face_e {cs : List Pt} {ws : List Bytes} {e : Nat} (h : faceS cs ws = .bad e) : e ≠ 0 := by
  unfold faceS at h
  split at h
  · cases h; decide
  · split at h
    · cases h; decide
    · split at h
      · cases h; decide
      · exact pick_e h
/-- What the three readers of the reference come to. -/
def resR (r : Out) (w : World) (en : Ending) (w' : World) : Prop :=
  ∃ (R : Nat) (vl : Value) (pl e : Nat), en = .returned (.pointer (some ⟨R, 0, none⟩)) ∧ w'.heap[R]? = some (resO vl pl e) ∧ Upd noBlk w w' ∧
    match r with
    | .ok ps => e = 0 ∧ OwnPolys w.heap.size w' vl ps
    | .bad p e' => e = e' ∧ pl = p ∧ e' ≠ 0
def GoodI (w : World) (vc : Value) (cs : List Pt) (vl : Value) (qs : List (Value × Poly)) (k : Nat) (wr : World) : Prop :=
  OwnQs w.heap.size wr vl qs ∧ OwnPts w.heap.size wr vc cs ∧ cs.length ≤ k ∧ qs.length ≤ 65536 ∧ (∀ q, q ∈ qs → ∀ g, q.1.ownBlock = some g → vc.ownBlock ≠ some g)
/-- What holds between the rounds of one. -/
def OneI (w : World) (ls : List Bytes) (k : Nat) (vc : Value) (wr : World) : Prop :=
  ∃ (vl : Value) (pl e : Nat), wr.heap[w.heap.size]? = some (resO vl pl e) ∧ Upd noBlk w wr ∧
    ((e = 0 ∧ ∃ cs qs, GoodI w vc cs vl qs k wr ∧ oneGo 1 ls [] [] = oneGo (k + 1) (ls.drop k) cs (qs.map (·.2))) ∨ (e ≠ 0 ∧ oneGo 1 ls [] [] = .bad pl e))
theorem oneGo_cons {i : Nat} {l : Bytes} {r : List Bytes} {cs : List Pt} {ps : List Poly} {w : Bytes} {ws : List Bytes} (h : wordsOf l = w :: ws) : oneGo i (l :: r) cs ps =
    if w = wV then (match cornerS ws with
      | .bad e => .bad i e
      | .ok p => oneGo (i + 1) r (cs ++ [p]) ps)
    else if w = wF then (match faceS cs ws with
      | .bad e => .bad i e
      | .ok c => if 65536 ≤ ps.length then .bad i 2 else oneGo (i + 1) r cs (ps ++ [(c, i)]))
    else .bad i 10 := by
  rw [oneGo, h]
  simp only
  cases cornerS ws <;> cases faceS cs ws <;> rfl
theorem oneGo_nil {i : Nat} {l : Bytes} {r : List Bytes} {cs : List Pt} {ps : List Poly} (h : wordsOf l = []) : oneGo i (l :: r) cs ps = oneGo (i + 1) r cs ps := by rw [oneGo, h]
theorem GoodI.keep {w wr w2 : World} {vc vl : Value} {cs : List Pt} {qs : List (Value × Poly)} {k : Nat} (h : GoodI w vc cs vl qs k wr) (hu : Upd noBlk wr w2) : GoodI w vc cs vl qs (k + 1) w2 :=
  ⟨h.1.keep hu (fun _ h => h.elim) (fun _ _ _ h => h.elim), h.2.1.upd hu, by have := h.2.2.1; omega, h.2.2.2.1, h.2.2.2.2⟩
/-- A corner more. -/
theorem GoodI.corner {w wr w2 w6 : World} {vc vl : Value} {cs : List Pt} {qs : List (Value × Poly)} {k g cap : Nat} {p : Pt} (h : GoodI w vc cs vl qs k wr) (hu : Upd noBlk wr w2) (v6 : Upd (fun k => vc.ownBlock = some k) w2 w6)
    (o6 : OwnPts w.heap.size w6 (.slice (some ⟨g, 0, none⟩) (cs.length + 1) cap) (cs ++ [p])) (hat : vc.ownBlock = some g ∨ g = w2.heap.size + 1) : GoodI w (.slice (some ⟨g, 0, none⟩) (cs.length + 1) cap) (cs ++ [p]) vl qs (k + 1) w6 := by
  obtain ⟨h1, h2, h3, h4, h5⟩ := h
  have h1' := h1.keep hu (fun _ h => h.elim) (fun _ _ _ h => h.elim)
  have h2' := h2.upd hu
  refine ⟨h1'.keep v6 (fun k hk e => ?_) (fun q hq k hk e => h5 q hq k e hk), o6, by rw [List.length_append]; simp; omega, h4, fun q hq g' hg' e => ?_⟩
  · obtain ⟨c1, a1⟩ := h2'.blk hk
    obtain ⟨c2, a2⟩ := ownsRow_type h1'.2 e
    rw [a1] at a2; cases a2
  · have hgg : g = g' := by simpa [Value.ownBlock] using e
    subst hgg
    rcases hat with a | a
    · exact h5 q hq g hg' a
    · have := ((h1.1 q hq).lt g hg').2; have := hu.size; omega
theorem own_form {w : World} {base n : Nat} {T : TypeId} {s : Nat} {v : Value} {xs : List Value} (h : w.ownsRow base T s v n xs) : ∃ A cap, v = .slice A n cap := by
  rcases h.2 with ⟨rfl, h0⟩ | ⟨g, cap, cur, rfl, _⟩
  · exact ⟨none, 0, by rw [h0]⟩
  · exact ⟨_, _, rfl⟩
/-- The words of a line, and those behind the first. -/
theorem own_words {w : World} {base : Nat} {v : Value} {wd : Bytes} {wt : List Bytes} (h : w.ownsRow base 9 1 v (wd :: wt).length (wsV (wd :: wt))) :
    ∃ g cap, v = .slice (some ⟨g, 0, none⟩) (wt.length + 1) cap ∧ w.cell? ⟨g, 0, none⟩ = some (.string (bs wd)) ∧ RdW w (some ⟨g, 1, none⟩) wt ∧ (cap = 1 → wt = []) ∧ 1 ≤ cap := by
  rcases h.2 with ⟨_, h0⟩ | ⟨g, cap, cur, rfl, _, _, hn, _⟩
  · simp at h0
  · have hg : ∀ j (hj : j < (wd :: wt).length), w.cell? ⟨g, j, none⟩ = some (.string (bs (wd :: wt)[j])) := fun j hj => by
      rw [World.ownsRow.cellAt h j (by omega)]
      unfold wsV
      rw [List.getElem?_map, List.getElem?_eq_getElem hj]; rfl
    refine ⟨g, cap, rfl, hg 0 (by simp), fun h0 => ⟨g, 1, rfl, fun j hj => ?_⟩, fun h1 => ?_, ?_⟩
    · have := hg (j + 1) (by simp; omega)
      rw [Nat.add_comm 1 j]
      simpa using this
    · cases wt with
      | nil => rfl
      | cons a r => simp at hn; omega
    · simp at hn; omega
theorem resO_cell {w : World} {R : Nat} {vl : Value} {pl e : Nat} (h : w.heap[R]? = some (resO vl pl e)) : w.cell? ⟨R, 0, none⟩ = some vl ∧ w.cell? ⟨R, 1, none⟩ = some (.int .i64 pl) ∧ w.cell? ⟨R, 2, none⟩ = some (.int .i64 e) := by
  simp [World.cell?, h, resO]
set_option maxHeartbeats 1500000 in
theorem qone_any (A : Option Addr) (cap : Nat) (ls : List Bytes) (hl : ls.length ≤ 4294967295) (hs : ∀ x, x ∈ ls → x.length ≤ 4294967290) (w : World) (h : RdW w A ls) :
    Calls Tryz.prog 43 #[.slice A ls.length cap] w fun en w' => resR (oneGo 1 ls [] []) w en w' := by
  have H := Lib.hid h
  have HS := Lib.hid hs
  clear h hs
  have h0 : OneI w ls 0 (.slice none 0 0) (w.alloc (resO (.slice none 0 0) 0 0)) := ⟨_, 0, 0, heap_alloc_new _ _, (Upd.refl _ _).alloc _, .inl ⟨rfl, [], [], ⟨⟨fun q h => (by cases h), World.ownsRow_nil _ _ _ _⟩, OwnPts.nil _ _, Nat.le_refl _, by simp, fun q h => (by cases h)⟩, rfl⟩⟩
  have H0 := Lib.hid h0
  clear h0
  go_enter Tryz.func43, Tryz.ntmps43
  go_wp2_with fail
  go_loopw [4, 5, 6, 7, 8, 9, 10] (fun vc i _ _ _ _ _ wr => ∃ k : Nat, i = .int .i64 k ∧ k ≤ ls.length ∧ OneI w ls k vc wr) (fun _ i _ _ _ _ _ _ => ls.length - (intOf i).toNat)
  case atStart => exact ⟨0, rfl, Nat.zero_le _, H0.out⟩
  case round =>
    obtain ⟨k, rfl, hk, hI⟩ := hrel
    obtain ⟨vl, pl, e, hR, hup, hcase⟩ := hI
    have ce : wr.cell? ⟨w.heap.size, 2, none⟩ = some (.int .i64 e) := by simp [World.cell?, hR, resO]
    have HR := Lib.hid hR
    have HU := Lib.hid hup
    clear hR hup
    by_cases hlt : k < ls.length
    · have hlt' : ((k : Nat) : Int) < ((ls.length : Nat) : Int) := by omega
      by_cases he : e = 0
      · subst he
        rcases hcase with ⟨_, cs, qs, hg, hsp⟩ | ⟨h, _⟩
        case inr => exact absurd rfl h
        have HG := Lib.hid hg
        have HSPC := Lib.hid hsp
        obtain ⟨b, off, rfl, ea⟩ := H.out (by omega)
        have c0 : wr.cell? ⟨b, off + k, none⟩ = some (.string (bs ls[k])) := HU.out.cell (ea k hlt) id
        have hlk := HS.out ls[k] (List.getElem_mem hlt)
        have HDK : Hid (ls.drop k = ls[k] :: ls.drop (k + 1)) := List.drop_eq_getElem_cons hlt
        clear ea hg hsp
        generalize ls[k] = lk at *
        have HW := Lib.hid (qwords_any lk (by omega) wr)
        have hwl := wordsOf_len lk
        have HWL := Lib.hid hwl
        clear hwl
        rcases hw : wordsOf lk with _ | ⟨wd, wt⟩
        · rw [hw] at HW
          have HWD := Lib.hid hw
          clear hw
          go_wp2_with fail
          refine HW.out.mono ?_
          rintro e1 w2 ⟨v, rfl, ov, u2⟩
          obtain ⟨Av, cv, rfl⟩ := own_form ov
          have U2 := Lib.hid u2
          clear ov u2
          go_wp2_with fail
          exact ⟨⟨k + 1, by go_num, hlt, vl, pl, 0, U2.out.heap HR.out id, HU.out.trans U2.out, .inl ⟨rfl, cs, qs, HG.out.keep U2.out, by rw [HSPC.out, HDK.out, oneGo_nil HWD.out]⟩⟩, by simp [intOf]; omega⟩
        · rw [hw] at HW
          have HWD := Lib.hid hw
          have HLW : Hid ((wd :: wt).length ≤ lk.length) := by show _ ≤ _; rw [← hw]; exact HWL.out.1
          have HSW : Hid (short (wd :: wt)) := fun x hx => by rw [← hw] at hx; have := HWL.out.2 x hx; omega
          clear hw
          go_wp2_with fail
          refine HW.out.mono ?_
          rintro e1 w2 ⟨v, rfl, ov, u2⟩
          obtain ⟨g, cv, rfl, cw, hrd, hcv, hcv1⟩ := own_words ov
          have U2 := Lib.hid u2
          have HRD := Lib.hid hrd
          have hl0 : (((wt.length : Nat) : Int) + 1 == 0) = false := by rw [beq_eq_false_iff_ne]; omega
          have hle : (1 : Int) ≤ ((wt.length : Nat) : Int) + 1 := by omega
          clear ov u2 hrd HW
          by_cases hv : wd = wV
          · subst hv
            have e1 : ((bs wV).toList == [118]) = true := by rw [bs_toList]; rfl
            by_cases hc1 : cv = 1
            · obtain rfl := hcv hc1
              subst hc1
              have HCN := Lib.hid (qcorner_any (some ⟨g, 0, none⟩) 0 [] (by simp) (fun x hx => by cases hx) w2 (fun h => absurd h (Nat.lt_irrefl _)))
              rcases hcs : cornerS [] with p | e0
              · rw [hcs] at HCN
                go_wp2_with fail
                refine HCN.out.mono ?_
                rintro e1 w3 ⟨rfl, u3⟩
                have hU3 : Upd noBlk wr w3 := U2.out.trans u3
                have hU4 : Upd noBlk wr (w3.alloc (.cells #[.int .i64 p.1, .int .i64 p.2.1, .int .i64 p.2.2] 51)) := hU3.alloc _
                obtain ⟨gg, cq, w6, r6, o6, v6, hat⟩ := append_ptB (w := w3.alloc (.cells #[.int .i64 p.1, .int .i64 p.2.1, .int .i64 p.2.2] 51)) (base := w.heap.size) (by have := HU.out.size; have := hU4.size; omega) (HG.out.2.1.upd hU4) p (by have := HG.out.2.2.1; omega)
                have hnext : Hid (OneI w ls (k + 1) (.slice (some ⟨gg, 0, none⟩) (cs.length + 1) cq) w6) := by
                  refine ⟨vl, pl, 0, v6.heap (hU4.heap HR.out id) (OwnPts.not_blk (HG.out.2.1.upd hU4) (hU4.heap HR.out id) (by decide)), (HU.out.trans hU4).then v6 (fun i hi e => by have := (HG.out.2.1.lt _ e).1; omega), .inl ⟨rfl, cs ++ [p], qs, HG.out.corner hU4 v6 o6 hat, ?_⟩⟩
                  rw [HSPC.out, HDK.out, oneGo_cons HWD.out, if_pos rfl, hcs]
                rw [World.size_alloc] at r6
                have R6 := Lib.hid r6
                clear r6 o6 v6 hat u3 hU3 hU4 HCN
                unfold ptV
                go_wp2_with (at_builtin; refine wpList_append_run rfl _ _ _ rfl rfl rfl R6.out ?_)
                refine ⟨⟨k + 1, by go_num, hlt, hnext.out⟩, by simp [intOf]; omega⟩
              · have he0 : e0 ≠ 0 := corner_e hcs
                have hne0 : (((e0 : Nat) : Int) != 0) = true := by rw [bne_iff_ne]; omega
                rw [hcs] at HCN
                have hspb : Hid (oneGo 1 ls [] [] = .bad (k + 1) e0) := by show _ = _; rw [HSPC.out, HDK.out, oneGo_cons HWD.out, if_pos rfl, hcs]
                go_wp2_with fail
                refine HCN.out.mono ?_
                rintro e1 w3 ⟨rfl, u3⟩
                have hU4 : Upd noBlk wr (w3.alloc (.cells #[.int .i64 0, .int .i64 0, .int .i64 0] 51)) := (U2.out.trans u3).alloc _
                have hF := qfail_set w.heap.size vl pl (k + 1) e0 (w3.alloc (.cells #[.int .i64 0, .int .i64 0, .int .i64 0] 51)) (hU4.heap HR.out id)
                rw [show (((k + 1 : Nat)) : Int) = (k : Int) + 1 by omega] at hF
                have HF := Lib.hid hF
                have HU4 := Lib.hid hU4
                have hPb : Hid ((w3.alloc (.cells #[.int .i64 0, .int .i64 0, .int .i64 0] 51)).heap[w3.heap.size]? = some (.cells #[.int .i64 0, .int .i64 0, .int .i64 0] 51)) := heap_alloc_new _ _
                have hNR : Hid (w.heap.size < w3.heap.size) := by show _ < _; have := lt_of_heap HR.out; have := U2.out.size; have := u3.size; omega
                have HE0 := Lib.hid he0
                clear hF hU4 u3 HCN he0
                unfold ptV
                go_wp2_with fail
                refine HF.out.mono ?_
                rintro e1 w5 ⟨rfl, u5, hr5⟩
                have hU5 : Upd (fun k => k = w.heap.size) wr w5 := (HU4.out.mono (fun _ _ h => h.elim)).trans u5
                have hvc5 : OwnPts w.heap.size w5 u4 cs := ownsRow_other HG.out.2.1 hU5 (fun k hk _ => by subst hk; exact ⟨_, _, _, HR.out, by decide⟩)
                obtain ⟨gg, cq, w6, r6, o6, v6, hat⟩ := append_ptB (w := w5) (base := w.heap.size) (by have := HU.out.size; have := hU5.size; omega) hvc5 (0, 0, 0) (by have := HG.out.2.2.1; omega)
                have hpb5 := u5.heap hPb.out (by have := hNR.out; omega)
                have p0 : w5.cell? ⟨w3.heap.size, 0, none⟩ = some (.int .i64 0) := by simp [World.cell?, hpb5]
                have p1 : w5.cell? ⟨w3.heap.size, 1, none⟩ = some (.int .i64 0) := by simp [World.cell?, hpb5]
                have p2 : w5.cell? ⟨w3.heap.size, 2, none⟩ = some (.int .i64 0) := by simp [World.cell?, hpb5]
                have hnext : Hid (OneI w ls (k + 1) (.slice (some ⟨gg, 0, none⟩) (cs.length + 1) cq) w6) := by
                  refine ⟨vl, k + 1, e0, v6.heap hr5 (OwnPts.not_blk hvc5 hr5 (by decide)), (HU.out.then hU5 (fun i hi e => by omega)).then v6 (fun i hi e => by have := (HG.out.2.1.lt _ e).1; omega), .inr ⟨HE0.out, hspb.out⟩⟩
                have R6 := Lib.hid r6
                clear r6 o6 v6 hat hU5 hvc5 u5 hr5 hpb5 HF
                go_wp2_with (at_builtin; refine wpList_append_run rfl _ _ _ rfl rfl rfl R6.out ?_)
                refine ⟨⟨k + 1, by go_num, hlt, hnext.out⟩, by simp [intOf]; omega⟩
            · clear hcv
              have HCN := Lib.hid (qcorner_any (some ⟨g, 1, none⟩) (cv - 1) wt (by have := HLW.out; simp at this; omega) (fun x hx => HSW.out x (List.mem_cons_of_mem _ hx)) w2 (HRD.out))
              rcases hcs : cornerS wt with p | e0
              · rw [hcs] at HCN
                go_wp2_with fail
                refine HCN.out.mono ?_
                rintro e1 w3 ⟨rfl, u3⟩
                have hU3 : Upd noBlk wr w3 := U2.out.trans u3
                have hU4 : Upd noBlk wr (w3.alloc (.cells #[.int .i64 p.1, .int .i64 p.2.1, .int .i64 p.2.2] 51)) := hU3.alloc _
                obtain ⟨gg, cq, w6, r6, o6, v6, hat⟩ := append_ptB (w := w3.alloc (.cells #[.int .i64 p.1, .int .i64 p.2.1, .int .i64 p.2.2] 51)) (base := w.heap.size) (by have := HU.out.size; have := hU4.size; omega) (HG.out.2.1.upd hU4) p (by have := HG.out.2.2.1; omega)
                have hnext : Hid (OneI w ls (k + 1) (.slice (some ⟨gg, 0, none⟩) (cs.length + 1) cq) w6) := by
                  refine ⟨vl, pl, 0, v6.heap (hU4.heap HR.out id) (OwnPts.not_blk (HG.out.2.1.upd hU4) (hU4.heap HR.out id) (by decide)), (HU.out.trans hU4).then v6 (fun i hi e => by have := (HG.out.2.1.lt _ e).1; omega), .inl ⟨rfl, cs ++ [p], qs, HG.out.corner hU4 v6 o6 hat, ?_⟩⟩
                  rw [HSPC.out, HDK.out, oneGo_cons HWD.out, if_pos rfl, hcs]
                rw [World.size_alloc] at r6
                have R6 := Lib.hid r6
                clear r6 o6 v6 hat u3 hU3 hU4 HCN
                unfold ptV
                go_wp2_with (at_builtin; refine wpList_append_run rfl _ _ _ rfl rfl rfl R6.out ?_)
                refine ⟨⟨k + 1, by go_num, hlt, hnext.out⟩, by simp [intOf]; omega⟩
              · have he0 : e0 ≠ 0 := corner_e hcs
                have hne0 : (((e0 : Nat) : Int) != 0) = true := by rw [bne_iff_ne]; omega
                rw [hcs] at HCN
                have hspb : Hid (oneGo 1 ls [] [] = .bad (k + 1) e0) := by show _ = _; rw [HSPC.out, HDK.out, oneGo_cons HWD.out, if_pos rfl, hcs]
                go_wp2_with fail
                refine HCN.out.mono ?_
                rintro e1 w3 ⟨rfl, u3⟩
                have hU4 : Upd noBlk wr (w3.alloc (.cells #[.int .i64 0, .int .i64 0, .int .i64 0] 51)) := (U2.out.trans u3).alloc _
                have hF := qfail_set w.heap.size vl pl (k + 1) e0 (w3.alloc (.cells #[.int .i64 0, .int .i64 0, .int .i64 0] 51)) (hU4.heap HR.out id)
                rw [show (((k + 1 : Nat)) : Int) = (k : Int) + 1 by omega] at hF
                have HF := Lib.hid hF
                have HU4 := Lib.hid hU4
                have hPb : Hid ((w3.alloc (.cells #[.int .i64 0, .int .i64 0, .int .i64 0] 51)).heap[w3.heap.size]? = some (.cells #[.int .i64 0, .int .i64 0, .int .i64 0] 51)) := heap_alloc_new _ _
                have hNR : Hid (w.heap.size < w3.heap.size) := by show _ < _; have := lt_of_heap HR.out; have := U2.out.size; have := u3.size; omega
                have HE0 := Lib.hid he0
                clear hF hU4 u3 HCN he0
                unfold ptV
                go_wp2_with fail
                refine HF.out.mono ?_
                rintro e1 w5 ⟨rfl, u5, hr5⟩
                have hU5 : Upd (fun k => k = w.heap.size) wr w5 := (HU4.out.mono (fun _ _ h => h.elim)).trans u5
                have hvc5 : OwnPts w.heap.size w5 u4 cs := ownsRow_other HG.out.2.1 hU5 (fun k hk _ => by subst hk; exact ⟨_, _, _, HR.out, by decide⟩)
                obtain ⟨gg, cq, w6, r6, o6, v6, hat⟩ := append_ptB (w := w5) (base := w.heap.size) (by have := HU.out.size; have := hU5.size; omega) hvc5 (0, 0, 0) (by have := HG.out.2.2.1; omega)
                have hpb5 := u5.heap hPb.out (by have := hNR.out; omega)
                have p0 : w5.cell? ⟨w3.heap.size, 0, none⟩ = some (.int .i64 0) := by simp [World.cell?, hpb5]
                have p1 : w5.cell? ⟨w3.heap.size, 1, none⟩ = some (.int .i64 0) := by simp [World.cell?, hpb5]
                have p2 : w5.cell? ⟨w3.heap.size, 2, none⟩ = some (.int .i64 0) := by simp [World.cell?, hpb5]
                have hnext : Hid (OneI w ls (k + 1) (.slice (some ⟨gg, 0, none⟩) (cs.length + 1) cq) w6) := by
                  refine ⟨vl, k + 1, e0, v6.heap hr5 (OwnPts.not_blk hvc5 hr5 (by decide)), (HU.out.then hU5 (fun i hi e => by omega)).then v6 (fun i hi e => by have := (HG.out.2.1.lt _ e).1; omega), .inr ⟨HE0.out, hspb.out⟩⟩
                have R6 := Lib.hid r6
                clear r6 o6 v6 hat hU5 hvc5 u5 hr5 hpb5 HF
                go_wp2_with (at_builtin; refine wpList_append_run rfl _ _ _ rfl rfl rfl R6.out ?_)
                refine ⟨⟨k + 1, by go_num, hlt, hnext.out⟩, by simp [intOf]; omega⟩
          · by_cases hf : wd = wF
            · subst hf
              have e1 : ((bs wF).toList == [118]) = false := by rw [bs_toList]; rfl
              have e2 : ((bs wF).toList == [102]) = true := by rw [bs_toList]; rfl
              by_cases hc1 : cv = 1
              · obtain rfl := hcv hc1
                subst hc1
                have HFC := Lib.hid (qface_any (some ⟨g, 0, none⟩) 0 [] w.heap.size u4 cs (by simp) (by have := HG.out.2.2.1; omega) (fun x hx => by cases hx) w2 (fun h => absurd h (Nat.lt_irrefl _)) (HG.out.2.1.upd U2.out))
                rcases hfs : faceS cs [] with pts | e0
                · rw [hfs] at HFC
                  go_wp2_with fail
                  refine HFC.out.mono ?_
                  rintro e1 w3 ⟨v, rfl, ov, hv1, u3⟩
                  obtain ⟨Av, cvv, rfl⟩ := ov.len
                  have hU3 : Upd noBlk wr w3 := U2.out.trans u3
                  have hb3 : w.heap.size ≤ w2.heap.size := by have := HU.out.size; have := U2.out.size; omega
                  have hA := qadd_any w.heap.size w.heap.size vl (.slice Av pts.length cvv) pl 0 (k + 1) qs pts (by have := HG.out.2.2.2.1; omega) w3 (hU3.heap HR.out id) (HG.out.1.keep hU3 (fun _ h => h.elim) (fun _ _ _ h => h.elim)) (ownsRow_base ov hb3) hv1 (by have := HU.out.size; have := hU3.size; omega)
                  rw [show (((k + 1 : Nat)) : Int) = (k : Int) + 1 by omega] at hA
                  have HA := Lib.hid hA
                  have HU3 := Lib.hid hU3
                  have HOV := Lib.hid ov
                  clear hA hU3 ov hv1 u3 HFC
                  go_wp2_with fail
                  refine HA.out.mono ?_
                  rintro e1 w4 ⟨rfl, vl', hr4, hq4, u4'⟩
                  have hUw4 : Upd noBlk w w4 := (HU.out.trans HU3.out).then u4' (fun i hi e => by
                    rcases e with rfl | e
                    · omega
                    · have := (HG.out.1.2.lt _ e).1; omega)
                  have hnext : Hid (OneI w ls (k + 1) u4 w4) := by
                    by_cases h65 : 65536 ≤ qs.length
                    · rw [if_pos ⟨rfl, h65⟩, if_pos ⟨rfl, h65⟩] at hr4
                      refine ⟨vl', k + 1, 2, hr4, hUw4, .inr ⟨by decide, ?_⟩⟩
                      rw [HSPC.out, HDK.out, oneGo_cons HWD.out, if_neg (by decide), if_pos rfl, hfs]
                      simp only [List.length_map]
                      rw [if_pos h65]
                    · rw [if_neg (fun h => h65 h.2), if_neg (fun h => h65 h.2)] at hr4
                      refine ⟨vl', pl, 0, hr4, hUw4, .inl ⟨rfl, cs, qs ++ [(.slice Av pts.length cvv, (pts, k + 1))], ⟨hq4, ?_, by have := HG.out.2.2.1; omega, by rw [List.length_append]; simp; omega, fun q hq g' hg' e => ?_⟩, ?_⟩⟩
                      · refine ownsRow_other (HG.out.2.1.upd HU3.out) u4' (fun k hk hl => ?_)
                        rcases hk with rfl | hk
                        · exact ⟨_, _, _, HU3.out.heap HR.out id, by decide⟩
                        · obtain ⟨c, hc⟩ := ownsRow_type (HG.out.1.keep HU3.out (fun _ h => h.elim) (fun _ _ _ h => h.elim)).2 hk
                          exact ⟨c, _, _, hc, by decide⟩
                      · rw [List.mem_append, List.mem_singleton] at hq
                        rcases hq with hq | rfl
                        · exact HG.out.2.2.2.2 q hq g' hg' e
                        · have h1 := (World.ownsRow.lt HOV.out g' hg').1
                          have h2 := (HG.out.2.1.lt g' e).2
                          have := U2.out.size; omega
                      · rw [HSPC.out, HDK.out, oneGo_cons HWD.out, if_neg (by decide), if_pos rfl, hfs]
                        simp only [List.length_map, List.map_append, List.map_cons, List.map_nil]
                        rw [if_neg h65]
                  clear hr4 hq4 u4' hUw4 HA
                  go_wp2_with fail
                  refine ⟨⟨k + 1, by go_num, hlt, hnext.out⟩, by simp [intOf]; omega⟩
                · have he0 : e0 ≠ 0 := face_e hfs
                  have hne0 : (((e0 : Nat) : Int) != 0) = true := by rw [bne_iff_ne]; omega
                  rw [hfs] at HFC
                  have hspb : Hid (oneGo 1 ls [] [] = .bad (k + 1) e0) := by show _ = _; rw [HSPC.out, HDK.out, oneGo_cons HWD.out, if_neg (by decide), if_pos rfl, hfs]
                  have HE0 := Lib.hid he0
                  clear he0
                  go_wp2_with fail
                  refine HFC.out.mono ?_
                  rintro e1 w3 ⟨rfl, u3⟩
                  have hU3 : Upd noBlk wr w3 := U2.out.trans u3
                  have hF := qfail_set w.heap.size vl pl (k + 1) e0 w3 (hU3.heap HR.out id)
                  rw [show (((k + 1 : Nat)) : Int) = (k : Int) + 1 by omega] at hF
                  have HF := Lib.hid hF
                  have HU3 := Lib.hid hU3
                  clear hF hU3 u3 HFC
                  go_wp2_with fail
                  refine HF.out.mono ?_
                  rintro e1 w5 ⟨rfl, u5, hr5⟩
                  have hU5 : Upd (fun k => k = w.heap.size) wr w5 := (HU3.out.mono (fun _ _ h => h.elim)).trans u5
                  have hq5 : OwnQs w.heap.size w5 vl qs := HG.out.1.keep hU5 (fun k hk e => by subst hk; obtain ⟨c, hc⟩ := ownsRow_type HG.out.1.2 e; rw [HR.out] at hc; cases hc) (fun q hq k hk e => by subst hk; obtain ⟨c, hc⟩ := OwnPts.blk (HG.out.1.1 q hq) e; rw [HR.out] at hc; cases hc)
                  have hA := qadd_any w.heap.size w.heap.size vl (.slice none 0 0) (k + 1) e0 (k + 1) qs [] (by have := HG.out.2.2.2.1; omega) w5 hr5 hq5 (OwnPts.nil _ _) rfl (by have := HU.out.size; have := hU5.size; omega)
                  rw [show (((k + 1 : Nat)) : Int) = (k : Int) + 1 by omega] at hA
                  have HA := Lib.hid hA
                  have HU5 := Lib.hid hU5
                  clear hA hU5 hq5 u5 hr5 HF
                  go_wp2_with fail
                  refine HA.out.mono ?_
                  rintro e1 w6 ⟨rfl, vl', hr6, _, u6⟩
                  have hnext : Hid (OneI w ls (k + 1) u4 w6) := by
                    rw [if_neg (fun h => HE0.out h.1), if_neg (fun h => HE0.out h.1)] at hr6
                    refine ⟨vl', k + 1, e0, hr6, (HU.out.then HU5.out (fun i hi e => by omega)).then u6 (fun i hi e => by
                      rcases e with rfl | e
                      · omega
                      · have := (HG.out.1.2.lt _ e).1; omega), .inr ⟨HE0.out, hspb.out⟩⟩
                  clear hr6 u6 HA
                  go_wp2_with fail
                  refine ⟨⟨k + 1, by go_num, hlt, hnext.out⟩, by simp [intOf]; omega⟩
              · clear hcv
                have HFC := Lib.hid (qface_any (some ⟨g, 1, none⟩) (cv - 1) wt w.heap.size u4 cs (by have := HLW.out; simp at this; omega) (by have := HG.out.2.2.1; omega) (fun x hx => HSW.out x (List.mem_cons_of_mem _ hx)) w2 (HRD.out) (HG.out.2.1.upd U2.out))
                rcases hfs : faceS cs wt with pts | e0
                · rw [hfs] at HFC
                  go_wp2_with fail
                  refine HFC.out.mono ?_
                  rintro e1 w3 ⟨v, rfl, ov, hv1, u3⟩
                  obtain ⟨Av, cvv, rfl⟩ := ov.len
                  have hU3 : Upd noBlk wr w3 := U2.out.trans u3
                  have hb3 : w.heap.size ≤ w2.heap.size := by have := HU.out.size; have := U2.out.size; omega
                  have hA := qadd_any w.heap.size w.heap.size vl (.slice Av pts.length cvv) pl 0 (k + 1) qs pts (by have := HG.out.2.2.2.1; omega) w3 (hU3.heap HR.out id) (HG.out.1.keep hU3 (fun _ h => h.elim) (fun _ _ _ h => h.elim)) (ownsRow_base ov hb3) hv1 (by have := HU.out.size; have := hU3.size; omega)
                  rw [show (((k + 1 : Nat)) : Int) = (k : Int) + 1 by omega] at hA
                  have HA := Lib.hid hA
                  have HU3 := Lib.hid hU3
                  have HOV := Lib.hid ov
                  clear hA hU3 ov hv1 u3 HFC
                  go_wp2_with fail
                  refine HA.out.mono ?_
                  rintro e1 w4 ⟨rfl, vl', hr4, hq4, u4'⟩
                  have hUw4 : Upd noBlk w w4 := (HU.out.trans HU3.out).then u4' (fun i hi e => by
                    rcases e with rfl | e
                    · omega
                    · have := (HG.out.1.2.lt _ e).1; omega)
                  have hnext : Hid (OneI w ls (k + 1) u4 w4) := by
                    by_cases h65 : 65536 ≤ qs.length
                    · rw [if_pos ⟨rfl, h65⟩, if_pos ⟨rfl, h65⟩] at hr4
                      refine ⟨vl', k + 1, 2, hr4, hUw4, .inr ⟨by decide, ?_⟩⟩
                      rw [HSPC.out, HDK.out, oneGo_cons HWD.out, if_neg (by decide), if_pos rfl, hfs]
                      simp only [List.length_map]
                      rw [if_pos h65]
                    · rw [if_neg (fun h => h65 h.2), if_neg (fun h => h65 h.2)] at hr4
                      refine ⟨vl', pl, 0, hr4, hUw4, .inl ⟨rfl, cs, qs ++ [(.slice Av pts.length cvv, (pts, k + 1))], ⟨hq4, ?_, by have := HG.out.2.2.1; omega, by rw [List.length_append]; simp; omega, fun q hq g' hg' e => ?_⟩, ?_⟩⟩
                      · refine ownsRow_other (HG.out.2.1.upd HU3.out) u4' (fun k hk hl => ?_)
                        rcases hk with rfl | hk
                        · exact ⟨_, _, _, HU3.out.heap HR.out id, by decide⟩
                        · obtain ⟨c, hc⟩ := ownsRow_type (HG.out.1.keep HU3.out (fun _ h => h.elim) (fun _ _ _ h => h.elim)).2 hk
                          exact ⟨c, _, _, hc, by decide⟩
                      · rw [List.mem_append, List.mem_singleton] at hq
                        rcases hq with hq | rfl
                        · exact HG.out.2.2.2.2 q hq g' hg' e
                        · have h1 := (World.ownsRow.lt HOV.out g' hg').1
                          have h2 := (HG.out.2.1.lt g' e).2
                          have := U2.out.size; omega
                      · rw [HSPC.out, HDK.out, oneGo_cons HWD.out, if_neg (by decide), if_pos rfl, hfs]
                        simp only [List.length_map, List.map_append, List.map_cons, List.map_nil]
                        rw [if_neg h65]
                  clear hr4 hq4 u4' hUw4 HA
                  go_wp2_with fail
                  refine ⟨⟨k + 1, by go_num, hlt, hnext.out⟩, by simp [intOf]; omega⟩
                · have he0 : e0 ≠ 0 := face_e hfs
                  have hne0 : (((e0 : Nat) : Int) != 0) = true := by rw [bne_iff_ne]; omega
                  rw [hfs] at HFC
                  have hspb : Hid (oneGo 1 ls [] [] = .bad (k + 1) e0) := by show _ = _; rw [HSPC.out, HDK.out, oneGo_cons HWD.out, if_neg (by decide), if_pos rfl, hfs]
                  have HE0 := Lib.hid he0
                  clear he0
                  go_wp2_with fail
                  refine HFC.out.mono ?_
                  rintro e1 w3 ⟨rfl, u3⟩
                  have hU3 : Upd noBlk wr w3 := U2.out.trans u3
                  have hF := qfail_set w.heap.size vl pl (k + 1) e0 w3 (hU3.heap HR.out id)
                  rw [show (((k + 1 : Nat)) : Int) = (k : Int) + 1 by omega] at hF
                  have HF := Lib.hid hF
                  have HU3 := Lib.hid hU3
                  clear hF hU3 u3 HFC
                  go_wp2_with fail
                  refine HF.out.mono ?_
                  rintro e1 w5 ⟨rfl, u5, hr5⟩
                  have hU5 : Upd (fun k => k = w.heap.size) wr w5 := (HU3.out.mono (fun _ _ h => h.elim)).trans u5
                  have hq5 : OwnQs w.heap.size w5 vl qs := HG.out.1.keep hU5 (fun k hk e => by subst hk; obtain ⟨c, hc⟩ := ownsRow_type HG.out.1.2 e; rw [HR.out] at hc; cases hc) (fun q hq k hk e => by subst hk; obtain ⟨c, hc⟩ := OwnPts.blk (HG.out.1.1 q hq) e; rw [HR.out] at hc; cases hc)
                  have hA := qadd_any w.heap.size w.heap.size vl (.slice none 0 0) (k + 1) e0 (k + 1) qs [] (by have := HG.out.2.2.2.1; omega) w5 hr5 hq5 (OwnPts.nil _ _) rfl (by have := HU.out.size; have := hU5.size; omega)
                  rw [show (((k + 1 : Nat)) : Int) = (k : Int) + 1 by omega] at hA
                  have HA := Lib.hid hA
                  have HU5 := Lib.hid hU5
                  clear hA hU5 hq5 u5 hr5 HF
                  go_wp2_with fail
                  refine HA.out.mono ?_
                  rintro e1 w6 ⟨rfl, vl', hr6, _, u6⟩
                  have hnext : Hid (OneI w ls (k + 1) u4 w6) := by
                    rw [if_neg (fun h => HE0.out h.1), if_neg (fun h => HE0.out h.1)] at hr6
                    refine ⟨vl', k + 1, e0, hr6, (HU.out.then HU5.out (fun i hi e => by omega)).then u6 (fun i hi e => by
                      rcases e with rfl | e
                      · omega
                      · have := (HG.out.1.2.lt _ e).1; omega), .inr ⟨HE0.out, hspb.out⟩⟩
                  clear hr6 u6 HA
                  go_wp2_with fail
                  refine ⟨⟨k + 1, by go_num, hlt, hnext.out⟩, by simp [intOf]; omega⟩
            · skip
              have e1 : ((bs wd).toList == [118]) = false := by rw [bs_toList, beq_eq_false_iff_ne]; exact hv
              have e2 : ((bs wd).toList == [102]) = false := by rw [bs_toList, beq_eq_false_iff_ne]; exact hf
              have hspb : Hid (oneGo 1 ls [] [] = .bad (k + 1) 10) := by show _ = _; rw [HSPC.out, HDK.out, oneGo_cons HWD.out, if_neg hv, if_neg hf]
              have hF := qfail_set w.heap.size vl pl (k + 1) 10 w2 (U2.out.heap HR.out id)
              rw [show (((k + 1 : Nat)) : Int) = (k : Int) + 1 by omega] at hF
              have HF := Lib.hid hF
              clear hF hv hf hcv
              go_wp2_with fail
              refine HF.out.mono ?_
              rintro e1 w5 ⟨rfl, u5, hr5⟩
              have hnext : Hid (OneI w ls (k + 1) u4 w5) := ⟨vl, k + 1, 10, hr5, (HU.out.trans U2.out).then u5 (fun i hi e => by omega), .inr ⟨by decide, hspb.out⟩⟩
              clear u5 hr5 HF
              go_wp2_with fail
              refine ⟨⟨k + 1, by go_num, hlt, hnext.out⟩, by simp [intOf]; omega⟩
      · have he' : (((e : Nat) : Int) == 0) = false := by rw [beq_eq_false_iff_ne]; omega
        have hbad : Hid (oneGo 1 ls [] [] = .bad pl e) := by
          rcases hcase with ⟨h, _⟩ | ⟨_, h⟩
          · exact absurd h he
          · exact h
        have HE := Lib.hid he
        clear hcase he
        go_wp2_with fail
        go_ret
        exact ⟨_, vl, pl, e, rfl, HR.out, HU.out, by rw [hbad.out]; exact ⟨rfl, rfl, HE.out⟩⟩
    · have hlt' : ¬ ((k : Nat) : Int) < ((ls.length : Nat) : Int) := by omega
      have HCASE := Lib.hid hcase
      have hdk : ls.drop k = [] := List.drop_eq_nil_of_le (by omega)
      clear hcase
      have HDK := Lib.hid hdk
      clear hdk
      go_wp2_with fail
      go_ret
      refine ⟨_, vl, pl, e, rfl, HR.out, HU.out, ?_⟩
      rcases HCASE.out with ⟨h1, cs, qs, hg, hsp⟩ | ⟨h1, hsp⟩
      · rw [hsp, HDK.out, oneGo]
        exact ⟨h1, OwnQs.polys hg.1⟩
      · rw [hsp]
        exact ⟨rfl, rfl, h1⟩
end Go.Proofs.YtojdgdeefhndiaaGreatDoor
