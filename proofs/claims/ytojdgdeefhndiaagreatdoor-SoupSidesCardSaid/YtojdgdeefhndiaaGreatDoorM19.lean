/- Walks of the reference of the polygon files: two. -/
import Derived.Test.YtojdgdeefhndiaaGreatDoorM16
import Derived.Test.YtojdgdeefhndiaaGreatDoorM18
namespace Go.Proofs.YtojdgdeefhndiaaGreatDoor
open Go Go.RowKit Sp
set_option maxRecDepth 100000

def GoodT (w : World) (left : Nat) (vl : Value) (qs : List (Value × Poly)) (k : Nat) (wr : World) : Prop :=
  OwnQs w.heap.size wr vl qs ∧ left ≤ 64 ∧ (left ≠ 0 → qs ≠ []) ∧ qs.length ≤ 65536 ∧ (∀ q, q ∈ qs → q.2.1.length ≤ k ∧ q.1.oneCell' = true) ∧ apartQ qs
/-- What holds between the rounds of two. -/
def TwoI (w : World) (ls : List Bytes) (k left : Nat) (wr : World) : Prop :=
  ∃ (vl : Value) (pl e : Nat), wr.heap[w.heap.size]? = some (resO vl pl e) ∧ Upd noBlk w wr ∧
    ((e = 0 ∧ ∃ qs, GoodT w left vl qs k wr ∧ twoGo 1 ls 0 [] = twoGo (k + 1) (ls.drop k) left (qs.map (·.2))) ∨ (e ≠ 0 ∧ twoGo 1 ls 0 [] = .bad pl e))
theorem twoGo_nil {i left : Nat} {l : Bytes} {r : List Bytes} {ps : List Poly} (h : wordsOf l = []) : twoGo i (l :: r) left ps = twoGo (i + 1) r left ps := by rw [twoGo, h]
theorem twoGo_head {i : Nat} {l : Bytes} {r : List Bytes} {ps : List Poly} {ws : List Bytes} (h : wordsOf l = ws) (hn : ws ≠ []) : twoGo i (l :: r) 0 ps = match headS ws with | .bad e => .bad i e | .ok n => if 65536 ≤ ps.length then .bad i 2 else twoGo (i + 1) r n (ps ++ [([], i)]) := by
  cases ws with
  | nil => exact absurd rfl hn
  | cons a b =>
    rw [twoGo, h]
    simp only
    rw [if_pos trivial]
    cases headS (a :: b) <;> rfl
theorem twoGo_corner {i left : Nat} {l : Bytes} {r : List Bytes} {ps : List Poly} {ws : List Bytes} (h : wordsOf l = ws) (hn : ws ≠ []) (hl : left ≠ 0) : twoGo i (l :: r) left ps = match cornerS ws with | .bad e => .bad i e | .ok p => twoGo (i + 1) r (left - 1) (addLast ps p) := by
  cases ws with
  | nil => exact absurd rfl hn
  | cons a b =>
    rw [twoGo, h]
    simp only
    rw [if_neg hl]
    cases cornerS (a :: b) <;> rfl
theorem head_e {ws : List Bytes} {e : Nat} (h : headS ws = .bad e) : e ≠ 0 := by
  unfold headS at h
  split at h
  · split at h
    · split at h
      · cases h; decide
      · split at h
        · cases h; decide
        · cases h
    · cases h; decide
  · cases h; decide
theorem head_le {ws : List Bytes} {n : Nat} (h : headS ws = .ok n) : n ≤ 64 := by
  unfold headS at h
  split at h
  · split at h
    · split at h
      · cases h
      · split at h
        · cases h
        · cases h; omega
    · cases h
  · cases h
theorem GoodT.keep {w wr w2 : World} {left : Nat} {vl : Value} {qs : List (Value × Poly)} {k : Nat} (h : GoodT w left vl qs k wr) (hu : Upd noBlk wr w2) : GoodT w left vl qs (k + 1) w2 :=
  ⟨h.1.keep hu (fun _ h => h.elim) (fun _ _ _ h => h.elim), h.2.1, h.2.2.1, h.2.2.2.1, fun q hq => ⟨by have := (h.2.2.2.2.1 q hq).1; omega, (h.2.2.2.2.1 q hq).2⟩, h.2.2.2.2.2⟩
theorem two_v {base : Nat} {w3 w5 : World} {pv : Value} {pts : List Pt} {qi : List (Value × Poly)} {go capo pq g cap k : Nat} {p : Pt} (hoo : OwnQs base w3 (.slice (some ⟨go, 0, none⟩) (qi.length + 1) capo) (qi ++ [(pv, (pts, pq))]))
    (hqq : ∀ q, q ∈ qi ++ [(pv, (pts, pq))] → q.2.1.length ≤ k ∧ q.1.oneCell' = true) (hav : apartQ (qi ++ [(pv, (pts, pq))])) (v5 : Upd (fun k => pv.ownBlock = some k) w3 w5)
    (o5 : OwnPts base w5 (.slice (some ⟨g, 0, none⟩) (pts.length + 1) cap) (pts ++ [p])) (hat : pv.ownBlock = some g ∨ g = w3.heap.size + 1) :
    Upd (fun k => pv.ownBlock = some k ∨ k = go) w3 (w5.setCell ⟨go, qi.length * 2, none⟩ (.slice (some ⟨g, 0, none⟩) (pts.length + 1) cap)) ∧
    OwnQs base (w5.setCell ⟨go, qi.length * 2, none⟩ (.slice (some ⟨g, 0, none⟩) (pts.length + 1) cap)) (.slice (some ⟨go, 0, none⟩) (qi.length + 1) capo) (qi ++ [(.slice (some ⟨g, 0, none⟩) (pts.length + 1) cap, (pts ++ [p], pq))]) ∧
    (∀ q, q ∈ qi ++ [((.slice (some ⟨g, 0, none⟩) (pts.length + 1) cap : Value), (pts ++ [p], pq))] → q.2.1.length ≤ k + 1 ∧ q.1.oneCell' = true) ∧ apartQ (qi ++ [(.slice (some ⟨g, 0, none⟩) (pts.length + 1) cap, (pts ++ [p], pq))]) := by
  obtain ⟨new, hnew⟩ : ∃ new : Value, new = .slice (some ⟨g, 0, none⟩) (pts.length + 1) cap := ⟨_, rfl⟩
  rw [← hnew] at o5 ⊢
  have hlast := hoo.1 (pv, (pts, pq)) (by simp)
  obtain ⟨cgo, hcgo⟩ := ownsRow_type hoo.2 (g := go) rfl
  have hpvt : ∀ k, pv.ownBlock = some k → ∃ c, w3.heap[k]? = some (.cells c 51 (0, 0)) := fun k hk => hlast.blk hk
  have hU : Upd (fun k => pv.ownBlock = some k ∨ k = go) w3 (w5.setCell ⟨go, qi.length * 2, none⟩ new) := (v5.mono (fun _ _ h => .inl h)).setCell (fun _ => .inr rfl) _
  have hpt : ¬ pv.ownBlock = some go := fun e => by obtain ⟨c, hc⟩ := hpvt go e; rw [hcgo] at hc; cases hc
  have hrow5 : w5.ownsRow base 43 2 (.slice (some ⟨go, 0, none⟩) (qi.length + 1) capo) (qi.length + 1) (polyVs (qi ++ [(pv, (pts, pq))])) := by
    have h := ownsRow_other hoo.2 v5 (fun k hk _ => by obtain ⟨c, hc⟩ := hpvt k hk; exact ⟨c, _, _, hc, by decide⟩)
    rw [List.length_append] at h
    exact h
  have hav' := List.pairwise_append.1 hav
  refine ⟨hU, ⟨fun q hq => ?_, ?_⟩, fun q hq => ?_, ?_⟩
  · rw [List.mem_append, List.mem_singleton] at hq
    rcases hq with hq | rfl
    · refine ownsRow_keep (hoo.1 q (by simp [hq])) (fun k hk => hU.block k ((hoo.1 q (by simp [hq])).lt k hk).2 ?_)
      rintro (h | rfl)
      · exact hav'.2.2 q hq (pv, (pts, pq)) (by simp) k hk h
      · obtain ⟨c, hc⟩ := OwnPts.blk (hoo.1 q (by simp [hq])) hk; rw [hcgo] at hc; cases hc
    · have hgo5 : w5.heap[go]? = some (.cells cgo 43 (0, 0)) := v5.heap hcgo hpt
      exact ownsRow_setCell_other o5 (OwnPts.not_blk o5 hgo5 (by decide)) _
  · have h1 := (World.ownsRow.stored hrow5 (qi.length * 2) new).1
    have e : (polyVs (qi ++ [(pv, (pts, pq))])).set (qi.length * 2) new = polyVs (qi ++ [(new, (pts ++ [p], pq))]) := by
      rw [polyVs_snoc, polyVs_snoc, List.set_append_right _ _ (by rw [polyVs_len]; omega), polyVs_len]
      rw [show qi.length * 2 - 2 * qi.length = 0 by omega]
      rfl
    rw [e] at h1
    rw [List.length_append]
    exact h1
  · rw [List.mem_append, List.mem_singleton] at hq
    have hb := hqq (pv, (pts, pq)) (by simp)
    rcases hq with hq | rfl
    · have := hqq q (by simp [hq])
      exact ⟨by omega, this.2⟩
    · refine ⟨?_, by rw [hnew]; rfl⟩
      simp only [List.length_append, List.length_cons, List.length_nil] at hb ⊢
      omega
  · unfold apartQ
    rw [List.pairwise_append]
    refine ⟨hav'.1, List.pairwise_singleton _ _, fun a ha b hb g' hg' e => ?_⟩
    rw [List.mem_singleton] at hb
    subst hb
    have hgg : g = g' := by rw [hnew] at e; simpa [Value.ownBlock] using e
    subst hgg
    rcases hat with h | h
    · exact hav'.2.2 a ha (pv, (pts, pq)) (by simp) g hg' h
    · have := ((hoo.1 a (by simp [ha])).lt g hg').2; omega
set_option maxHeartbeats 1500000 in
theorem qtwo_any (A : Option Addr) (cap : Nat) (ls : List Bytes) (hl : ls.length ≤ 4294967290) (hs : ∀ x, x ∈ ls → x.length ≤ 4294967290) (w : World) (h : RdW w A ls) :
    Calls Tryz.prog 42 #[.slice A ls.length cap] w fun en w' => resR (twoGo 1 ls 0 []) w en w' := by
  have H := Lib.hid h
  have HS := Lib.hid hs
  clear h hs
  have h0 : TwoI w ls 0 0 (w.alloc (resO (.slice none 0 0) 0 0)) := ⟨_, 0, 0, heap_alloc_new _ _, (Upd.refl _ _).alloc _, .inl ⟨rfl, [], ⟨⟨fun q h => (by cases h), World.ownsRow_nil _ _ _ _⟩, by omega, fun h => absurd rfl h, by simp, fun q h => (by cases h), List.Pairwise.nil⟩, rfl⟩⟩
  have H0 := Lib.hid h0
  clear h0
  go_enter Tryz.func42, Tryz.ntmps42
  go_wp2_with fail
  go_loopw [4, 5, 6, 7, 8, 9, 10, 11] (fun lv i _ _ _ _ _ _ wr => ∃ k left : Nat, i = .int .i64 k ∧ lv = .int .i64 left ∧ k ≤ ls.length ∧ TwoI w ls k left wr) (fun _ i _ _ _ _ _ _ _ => ls.length - (intOf i).toNat)
  case atStart => exact ⟨0, 0, rfl, rfl, Nat.zero_le _, H0.out⟩
  case round =>
    obtain ⟨k, left, rfl, rfl, hk, hI⟩ := hrel
    obtain ⟨vl, pl, e, hR, hup, hcase⟩ := hI
    have ce : wr.cell? ⟨w.heap.size, 2, none⟩ = some (.int .i64 e) := by simp [World.cell?, hR, resO]
    have HR := Lib.hid hR
    have HU := Lib.hid hup
    clear hR hup
    by_cases hlt : k < ls.length
    · have hlt' : ((k : Nat) : Int) < ((ls.length : Nat) : Int) := by omega
      by_cases he : e = 0
      · subst he
        rcases hcase with ⟨_, qs, hg, hsp⟩ | ⟨h, _⟩
        case inr => exact absurd rfl h
        have HG := Lib.hid hg
        have HSPC := Lib.hid hsp
        obtain ⟨b, off, rfl, ea⟩ := H.out (by omega)
        have c0 : wr.cell? ⟨b, off + k, none⟩ = some (.string (bs ls[k])) := HU.out.cell (ea k hlt) id
        have hlk := HS.out ls[k] (List.getElem_mem hlt)
        have HDK : Hid (ls.drop k = ls[k] :: ls.drop (k + 1)) := List.drop_eq_getElem_cons hlt
        clear ea hg hsp
        generalize ls[k] = lk at *
        have HW := Lib.hid (qwords_any lk (by omega) wr)
        have hwl := wordsOf_len lk
        have HWL := Lib.hid hwl
        clear hwl
        rcases hw : wordsOf lk with _ | ⟨wd, wt⟩
        · rw [hw] at HW
          have HWD := Lib.hid hw
          clear hw
          go_wp2_with fail
          refine HW.out.mono ?_
          rintro e1 w2 ⟨v, rfl, ov, u2⟩
          obtain ⟨Av, cv, rfl⟩ := own_form ov
          have U2 := Lib.hid u2
          clear ov u2
          go_wp2_with fail
          exact ⟨⟨k + 1, left, by go_num, rfl, hlt, vl, pl, 0, U2.out.heap HR.out id, HU.out.trans U2.out, .inl ⟨rfl, qs, HG.out.keep U2.out, by rw [HSPC.out, HDK.out, twoGo_nil HWD.out]⟩⟩, by simp [intOf]; omega⟩
        · rw [hw] at HW
          have HWD := Lib.hid hw
          have HLW : Hid ((wd :: wt).length ≤ lk.length) := by show _ ≤ _; rw [← hw]; exact HWL.out.1
          have HSW : Hid (short (wd :: wt)) := fun x hx => by rw [← hw] at hx; have := HWL.out.2 x hx; omega
          clear hw
          go_wp2_with fail
          refine HW.out.mono ?_
          rintro e1 w2 ⟨v, rfl, ov, u2⟩
          obtain ⟨g, cv, rfl, _, _, _, _⟩ := own_words ov
          have HRD : Hid (RdW w2 (some ⟨g, 0, none⟩) (wd :: wt)) := RdW.ofOwn (n := wt.length + 1) ov
          have U2 := Lib.hid u2
          have hl0 : (((wt.length : Nat) : Int) + 1 == 0) = false := by rw [beq_eq_false_iff_ne]; omega
          clear ov u2 HW
          by_cases hlf : left = 0
          · subst hlf
            have HHC := Lib.hid (qhead_any (some ⟨g, 0, none⟩) cv (wd :: wt) (by have := HLW.out; omega) HSW.out w2 HRD.out)
            rcases hhs : headS (wd :: wt) with n | e0
            · rw [hhs] at HHC
              have hA := qadd_any w.heap.size w.heap.size vl (.slice none 0 0) pl 0 (k + 1) qs [] (by have := HG.out.2.2.2.1; omega) w2 (U2.out.heap HR.out id) (HG.out.1.keep U2.out (fun _ h => h.elim) (fun _ _ _ h => h.elim)) (OwnPts.nil _ _) rfl (by have := HU.out.size; have := U2.out.size; omega)
              rw [show (((k + 1 : Nat)) : Int) = (k : Int) + 1 by omega] at hA
              have HA := Lib.hid hA
              clear hA
              go_wp2_with fail
              refine HHC.out.mono ?_
              rintro e1 w3 ⟨rfl, rfl⟩
              go_wp2_with fail
              refine HA.out.mono ?_
              rintro e1 w4 ⟨rfl, vl', hr4, hq4, u4'⟩
              have hUw4 : Upd noBlk w w4 := (HU.out.trans U2.out).then u4' (fun i hi e => by
                rcases e with rfl | e
                · omega
                · have := (HG.out.1.2.lt _ e).1; omega)
              have hnext : Hid (TwoI w ls (k + 1) n w4) := by
                by_cases h65 : 65536 ≤ qs.length
                · rw [if_pos ⟨rfl, h65⟩, if_pos ⟨rfl, h65⟩] at hr4
                  refine ⟨vl', k + 1, 2, hr4, hUw4, .inr ⟨by decide, ?_⟩⟩
                  rw [HSPC.out, HDK.out, twoGo_head HWD.out (by simp), hhs]
                  simp only [List.length_map]
                  rw [if_pos h65]
                · rw [if_neg (fun h => h65 h.2), if_neg (fun h => h65 h.2)] at hr4
                  refine ⟨vl', pl, 0, hr4, hUw4, .inl ⟨rfl, qs ++ [(.slice none 0 0, ([], k + 1))], ⟨hq4, head_le hhs, fun _ => by simp, by rw [List.length_append]; simp; omega, fun q hq => ?_, ?_⟩, ?_⟩⟩
                  · rw [List.mem_append, List.mem_singleton] at hq
                    rcases hq with hq | rfl
                    · have := HG.out.2.2.2.2.1 q hq; exact ⟨by omega, this.2⟩
                    · exact ⟨by simp, rfl⟩
                  · unfold apartQ
                    rw [List.pairwise_append]
                    refine ⟨HG.out.2.2.2.2.2, List.pairwise_singleton _ _, fun a ha b hb g' hg' e => ?_⟩
                    rw [List.mem_singleton] at hb
                    subst hb
                    simp [Value.ownBlock] at e
                  · rw [HSPC.out, HDK.out, twoGo_head HWD.out (by simp), hhs]
                    simp only [List.length_map, List.map_append, List.map_cons, List.map_nil]
                    rw [if_neg h65]
              clear hr4 hq4 u4' hUw4 HA HHC
              go_wp2_with fail
              exact ⟨⟨k + 1, n, by go_num, rfl, hlt, hnext.out⟩, by simp [intOf]; omega⟩
            · have he0 : e0 ≠ 0 := head_e hhs
              have hne0 : (((e0 : Nat) : Int) != 0) = true := by rw [bne_iff_ne]; omega
              rw [hhs] at HHC
              have hspb : Hid (twoGo 1 ls 0 [] = .bad (k + 1) e0) := by show _ = _; rw [HSPC.out, HDK.out, twoGo_head HWD.out (by simp), hhs]
              have HE0 := Lib.hid he0
              have hF := qfail_set w.heap.size vl pl (k + 1) e0 w2 (U2.out.heap HR.out id)
              rw [show (((k + 1 : Nat)) : Int) = (k : Int) + 1 by omega] at hF
              have HF := Lib.hid hF
              clear hF he0
              go_wp2_with fail
              refine HHC.out.mono ?_
              rintro e1 w3 ⟨rfl, rfl⟩
              go_wp2_with fail
              refine HF.out.mono ?_
              rintro e1 w5 ⟨rfl, u5, hr5⟩
              have hU5 : Upd (fun k => k = w.heap.size) wr w5 := (U2.out.mono (fun _ _ h => h.elim)).trans u5
              have hq5 : OwnQs w.heap.size w5 vl qs := HG.out.1.keep hU5 (fun k hk e => by subst hk; obtain ⟨c, hc⟩ := ownsRow_type HG.out.1.2 e; rw [HR.out] at hc; cases hc) (fun q hq k hk e => by subst hk; obtain ⟨c, hc⟩ := OwnPts.blk (HG.out.1.1 q hq) e; rw [HR.out] at hc; cases hc)
              have hA := qadd_any w.heap.size w.heap.size vl (.slice none 0 0) (k + 1) e0 (k + 1) qs [] (by have := HG.out.2.2.2.1; omega) w5 hr5 hq5 (OwnPts.nil _ _) rfl (by have := HU.out.size; have := hU5.size; omega)
              rw [show (((k + 1 : Nat)) : Int) = (k : Int) + 1 by omega] at hA
              have HA := Lib.hid hA
              have HU5 := Lib.hid hU5
              clear hA hU5 hq5 u5 hr5 HF HHC
              go_wp2_with fail
              refine HA.out.mono ?_
              rintro e1 w6 ⟨rfl, vl', hr6, _, u6⟩
              have hnext : Hid (TwoI w ls (k + 1) 0 w6) := by
                rw [if_neg (fun h => HE0.out h.1), if_neg (fun h => HE0.out h.1)] at hr6
                refine ⟨vl', k + 1, e0, hr6, (HU.out.then HU5.out (fun i hi e => by omega)).then u6 (fun i hi e => by
                  rcases e with rfl | e
                  · omega
                  · have := (HG.out.1.2.lt _ e).1; omega), .inr ⟨HE0.out, hspb.out⟩⟩
              clear hr6 u6 HA
              go_wp2_with fail
              exact ⟨⟨k + 1, 0, by go_num, rfl, hlt, hnext.out⟩, by simp [intOf]; omega⟩
          · have hls : Hid (qs ≠ []) := HG.out.2.2.1 hlf
            obtain ⟨qi, ⟨pv, pts, pq⟩, rfl⟩ : ∃ qi q, qs = qi ++ [q] := ⟨qs.dropLast, qs.getLast hls.out, (List.dropLast_concat_getLast hls.out).symm⟩
            obtain ⟨go, capo, rfl⟩ : ∃ go capo, vl = .slice (some ⟨go, 0, none⟩) (qi.length + 1) capo := by
              have h3 := HG.out.1.2
              rw [List.length_append] at h3
              rcases h3.2 with ⟨_, h0⟩ | ⟨g, cap, cur, rfl, _⟩
              · simp at h0
              · exact ⟨g, cap, rfl⟩
            have hlf0 : (((left : Nat) : Int) == 0) = false := by rw [beq_eq_false_iff_ne]; omega
            have HLF := Lib.hid hlf
            have HCC := Lib.hid (qcorner_any (some ⟨g, 0, none⟩) cv (wd :: wt) (by have := HLW.out; omega) HSW.out w2 HRD.out)
            have hq2 := Lib.hid (HG.out.1.keep U2.out (fun _ h => h.elim) (fun _ _ _ h => h.elim))
            have hr2 := Lib.hid (U2.out.heap HR.out id)
            have hqb : ((qi.length : Nat) : Int) ≤ 65536 := by have := HG.out.2.2.2.1; simp at this; omega
            clear hls hlf
            rcases hcs : cornerS (wd :: wt) with p | e0
            · rw [hcs] at HCC
              have HCS := Lib.hid hcs
              clear hcs
              go_wp2_with fail
              refine HCC.out.mono ?_
              rintro e1 w3 ⟨rfl, u3⟩
              have U3 := Lib.hid u3
              have hR3 := Lib.hid (heap_alloc_keep (.cells #[.int .i64 p.1, .int .i64 p.2.1, .int .i64 p.2.2] 51) (U3.out.heap hr2.out id))
              have c30 : (w3.alloc (.cells #[.int .i64 p.1, .int .i64 p.2.1, .int .i64 p.2.2] 51)).cell? ⟨w.heap.size, 0, none⟩ = some (.slice (some ⟨go, 0, none⟩) (qi.length + 1) capo) := by simp [World.cell?, hR3.out, resO]
              clear u3 HCC
              unfold ptV
              go_wp2_with fail
              obtain ⟨w4, hw4⟩ : ∃ x, x = w3.alloc (.cells #[.int .i64 p.1, .int .i64 p.2.1, .int .i64 p.2.2] 51) := ⟨_, rfl⟩
              have hr4 := hR3.out
              have hu4 : Upd noBlk w2 w4 := by rw [hw4]; exact U3.out.alloc _
              have hb4 : w4.heap[w3.heap.size]? = some (.cells #[.int .i64 p.1, .int .i64 p.2.1, .int .i64 p.2.2] 51) := by rw [hw4]; exact heap_alloc_new _ _
              have h23 := U3.out.size
              rw [← hw4] at hr4 ⊢
              clear hw4 c30 hR3 U3
              have hq4 := hq2.out.keep hu4 (fun _ h => h.elim) (fun _ _ _ h => h.elim)
              have hlast : OwnPts w.heap.size w4 pv pts := hq4.1 (pv, (pts, pq)) (by simp)
              obtain ⟨cgo, hcgo⟩ := ownsRow_type hq4.2 (g := go) rfl
              have hrow : w4.ownsRow w.heap.size 43 2 (.slice (some ⟨go, 0, none⟩) (qi.length + 1) capo) (qi.length + 1) (polyVs (qi ++ [(pv, (pts, pq))])) := by
                have h := hq4.2; rw [List.length_append] at h; exact h
              have k0 : w4.cell? ⟨go, qi.length * 2, none⟩ = some pv := by
                rw [World.ownsRow.cellAt hrow _ (by omega), polyVs_snoc, List.getElem?_append_right (by rw [polyVs_len]; omega), polyVs_len, show qi.length * 2 - 2 * qi.length = 0 by omega]; rfl
              have HGO := Lib.hid (hq4.2.lt go rfl)
              have HNG : Hid (¬ w.heap.size = go) := fun e => by rw [e] at hr4; rw [hcgo] at hr4; cases hr4
              have HPG := Lib.hid (OwnPts.not_blk hlast hcgo (by decide))
              have HNR : Hid (¬ pv.ownBlock = some w.heap.size) := OwnPts.not_blk hlast hr4 (by decide)
              have HNX : Hid (¬ pv.ownBlock = some w3.heap.size) := fun e => by
                have h1 := ((hq2.out.1 (pv, (pts, pq)) (by simp)).lt _ e).2
                omega
              have hidx : ((qi.length : Nat) : Int) < (qi.length : Int) + 1 := by omega
              have hptl : pts.length ≤ k := (HG.out.2.2.2.2.1 (pv, (pts, pq)) (by simp)).1
              have hb0 : w.heap.size ≤ w4.heap.size := by have := HU.out.size; have := U2.out.size; have := hu4.size; omega
              obtain ⟨g2, cap2, w5, r5, o5, v5, hat⟩ := append_ptB (w := w4.drew) (base := w.heap.size) hb0 (hlast.upd (Upd.refl noBlk w4).drew) p (by omega)
              have V5 : Hid (Upd (fun k => pv.ownBlock = some k) w4 w5) := (Upd.refl _ w4).drew.trans v5
              have hcg5 := V5.out.heap hcgo HPG.out
              have kk : w5.cell? ⟨go, qi.length * 2, none⟩ = some pv := V5.out.cell k0 HPG.out
              have kz : w5.frozen? ⟨go, qi.length * 2, none⟩ = false := by simp [World.frozen?, hcg5]
              have O5 := Lib.hid o5
              have HAT := Lib.hid hat
              have HR4 := Lib.hid hr4
              have HB4 := Lib.hid hb4
              have HK0 := Lib.hid k0
              have HQ4 := Lib.hid hq4
              have HU4 := Lib.hid hu4
              have HLAST := Lib.hid hlast
              have R5 := Lib.hid r5
              clear hlast hcgo hrow k0 hr4 hb4 hq4 hu4 o5 v5 hat r5 hcg5
              have hl64 : ((left : Nat) : Int) ≤ 64 := by have := HG.out.2.1; omega
              refine wp_region_tree 16 (OT.sures [0, 1, 2, 3, 4, 5, 6, 7, 8, 9, 10, 11, 12, 13] (.run 14 (.run 15 .nil))) (fun w' => Upd (fun k => pv.ownBlock = some k) w4 w') (by kernel_rfl) (by kernel_rfl) (fun c a d v w h => by cases d <;> exact h) (Upd.refl _ _).drew ?_
              simp only [OT.sures]
              iterate 14 (apply wpT_sure rfl rfl; focus (intro w' hw'; have g0 := hw'.heap HR4.out HNR.out; have g1 := hw'.heap HB4.out HNX.out; have g2 := hw'.cell HK0.out HPG.out; have c0 : w'.cell? ⟨w.heap.size, 0, none⟩ = some (.slice (some ⟨go, 0, none⟩) (qi.length + 1) capo) := (by simp [World.cell?, g0, resO]); have c1 : w'.cell? ⟨w3.heap.size, 0, none⟩ = some (.int .i64 p.1) := (by simp [World.cell?, g1]); have c2 : w'.cell? ⟨w3.heap.size, 1, none⟩ = some (.int .i64 p.2.1) := (by simp [World.cell?, g1]); have c3 : w'.cell? ⟨w3.heap.size, 2, none⟩ = some (.int .i64 p.2.2) := (by simp [World.cell?, g1]); go_simp; (try rw [if_pos hidx]); (try rfl)))
              refine wpT_run (fun w' => Upd (fun k => pv.ownBlock = some k) w4 w') (fun _ h => h) rfl (fun K hK => ?_)
              go_simp
              refine hK _ _ ⟨((Upd.refl _ _).alloc _).drew, ?_⟩
              clear hK K
              refine wpT_run (fun w' => Upd (fun k => pv.ownBlock = some k) w4 w') (fun _ h => h) rfl (fun K hK => ?_)
              rw [if_pos (by rfl)]
              refine wp_append_run _ _ _ rfl rfl rfl R5.out (hK _ _ ⟨V5.out, ?_⟩)
              clear hK K
              refine wpT_nil ?_
              simp only [List.drop_succ_cons, List.drop_zero]
              go_wp2_with fail
              have hnext : Hid (TwoI w ls (k + 1) (left - 1) (w5.setCell ⟨go, qi.length * 2, none⟩ (.slice (some ⟨g2, 0, none⟩) (pts.length + 1) cap2))) := by
                obtain ⟨t1, t2, t3, t4⟩ := two_v HQ4.out HG.out.2.2.2.2.1 HG.out.2.2.2.2.2 V5.out O5.out HAT.out
                refine ⟨_, pl, 0, t1.heap HR4.out (by
                    rintro (h | h)
                    · exact HNR.out h
                    · exact HNG.out h), (HU.out.trans (U2.out.trans HU4.out)).then t1 (fun i hi e => by
                    rcases e with e | rfl
                    · have := (HLAST.out.lt _ e).1; omega
                    · have := HGO.out.1; omega), .inl ⟨rfl, _, ⟨t2, by have := HG.out.2.1; omega, fun _ => by simp, by have := HG.out.2.2.2.1; simpa using this, t3, t4⟩, ?_⟩⟩
                rw [HSPC.out, HDK.out, twoGo_corner HWD.out (by simp) HLF.out, HCS.out]
                simp only [List.map_append, List.map_cons, List.map_nil]
                rw [addLast_snoc]
              exact ⟨⟨k + 1, left - 1, by go_num, by rw [show ((left - 1 : Nat) : Int) = (left : Int) - 1 by have := HLF.out; omega], hlt, hnext.out⟩, by simp [intOf]; omega⟩
            · have he0 : e0 ≠ 0 := corner_e hcs
              rw [hcs] at HCC
              have hspb : Hid (twoGo 1 ls 0 [] = .bad (k + 1) e0) := by show _ = _; rw [HSPC.out, HDK.out, twoGo_corner HWD.out (by simp) HLF.out, hcs]
              have hne0 : (((e0 : Nat) : Int) != 0) = true := by rw [bne_iff_ne]; omega
              have HE0 := Lib.hid he0
              clear he0 hcs
              go_wp2_with fail
              refine HCC.out.mono ?_
              obtain ⟨p, hp⟩ : ∃ p : Pt, p = (0, 0, 0) := ⟨_, rfl⟩
              rintro e1 w3 ⟨rfl, u3⟩
              rw [show ptV (0, 0, 0) = ptV p by rw [hp]]
              clear hp
              have U3 := Lib.hid u3
              have hF := qfail_set w.heap.size (.slice (some ⟨go, 0, none⟩) (qi.length + 1) capo) pl (k + 1) e0 (w3.alloc (.cells #[.int .i64 p.1, .int .i64 p.2.1, .int .i64 p.2.2] 51)) (heap_alloc_keep _ (U3.out.heap hr2.out id))
              rw [show (((k + 1 : Nat)) : Int) = (k : Int) + 1 by omega] at hF
              have HF := Lib.hid hF
              clear u3 HCC hF
              unfold ptV
              go_wp2_with fail
              refine HF.out.mono ?_
              rintro e1 w4 ⟨rfl, u4, hr4⟩
              have hu4 : Upd (fun k => k = w.heap.size) w2 w4 := ((U3.out.mono (fun _ _ h => h.elim)).alloc _).trans u4
              have hb4 : w4.heap[w3.heap.size]? = some (.cells #[.int .i64 p.1, .int .i64 p.2.1, .int .i64 p.2.2] 51) := u4.heap (heap_alloc_new _ _) (by have := lt_of_heap hr2.out; have := U3.out.size; omega)
              have h23 := U3.out.size
              have hq4 := hq2.out.keep hu4 (fun k hk e => by subst hk; obtain ⟨c, hc⟩ := ownsRow_type hq2.out.2 e; rw [hr2.out] at hc; cases hc) (fun q hq k hk e => by subst hk; obtain ⟨c, hc⟩ := OwnPts.blk (hq2.out.1 q hq) e; rw [hr2.out] at hc; cases hc)
              have c30 : w4.cell? ⟨w.heap.size, 0, none⟩ = some (.slice (some ⟨go, 0, none⟩) (qi.length + 1) capo) := by simp [World.cell?, hr4, resO]
              have HR4' := Lib.hid hr4
              have HU4' := Lib.hid hu4
              have HB4' := Lib.hid hb4
              have HQ4' := Lib.hid hq4
              clear u4 HF U3 hr4 hu4 hb4 hq4
              go_wp2_with fail
              have hr4 := HR4'.out
              have hu4 := HU4'.out
              have hb4 := HB4'.out
              have hq4 := HQ4'.out
              clear HR4' HU4' HB4' HQ4' c30
              have hlast : OwnPts w.heap.size w4 pv pts := hq4.1 (pv, (pts, pq)) (by simp)
              obtain ⟨cgo, hcgo⟩ := ownsRow_type hq4.2 (g := go) rfl
              have hrow : w4.ownsRow w.heap.size 43 2 (.slice (some ⟨go, 0, none⟩) (qi.length + 1) capo) (qi.length + 1) (polyVs (qi ++ [(pv, (pts, pq))])) := by
                have h := hq4.2; rw [List.length_append] at h; exact h
              have k0 : w4.cell? ⟨go, qi.length * 2, none⟩ = some pv := by
                rw [World.ownsRow.cellAt hrow _ (by omega), polyVs_snoc, List.getElem?_append_right (by rw [polyVs_len]; omega), polyVs_len, show qi.length * 2 - 2 * qi.length = 0 by omega]; rfl
              have HGO := Lib.hid (hq4.2.lt go rfl)
              have HNG : Hid (¬ w.heap.size = go) := fun e => by rw [e] at hr4; rw [hcgo] at hr4; cases hr4
              have HPG := Lib.hid (OwnPts.not_blk hlast hcgo (by decide))
              have HNR : Hid (¬ pv.ownBlock = some w.heap.size) := OwnPts.not_blk hlast hr4 (by decide)
              have HNX : Hid (¬ pv.ownBlock = some w3.heap.size) := fun e => by
                have h1 := ((hq2.out.1 (pv, (pts, pq)) (by simp)).lt _ e).2
                omega
              have hidx : ((qi.length : Nat) : Int) < (qi.length : Int) + 1 := by omega
              have hptl : pts.length ≤ k := (HG.out.2.2.2.2.1 (pv, (pts, pq)) (by simp)).1
              have hb0 : w.heap.size ≤ w4.heap.size := by have := HU.out.size; have := U2.out.size; have := hu4.size; omega
              obtain ⟨g2, cap2, w5, r5, o5, v5, hat⟩ := append_ptB (w := w4.drew) (base := w.heap.size) hb0 (hlast.upd (Upd.refl noBlk w4).drew) p (by omega)
              have V5 : Hid (Upd (fun k => pv.ownBlock = some k) w4 w5) := (Upd.refl _ w4).drew.trans v5
              have hcg5 := V5.out.heap hcgo HPG.out
              have kk : w5.cell? ⟨go, qi.length * 2, none⟩ = some pv := V5.out.cell k0 HPG.out
              have kz : w5.frozen? ⟨go, qi.length * 2, none⟩ = false := by simp [World.frozen?, hcg5]
              have O5 := Lib.hid o5
              have HAT := Lib.hid hat
              have HR4 := Lib.hid hr4
              have HB4 := Lib.hid hb4
              have HK0 := Lib.hid k0
              have HQ4 := Lib.hid hq4
              have HU4 := Lib.hid hu4
              have HLAST := Lib.hid hlast
              have R5 := Lib.hid r5
              clear hlast hcgo hrow k0 hr4 hb4 hq4 hu4 o5 v5 hat r5 hcg5
              have hl64 : ((left : Nat) : Int) ≤ 64 := by have := HG.out.2.1; omega
              refine wp_region_tree 16 (OT.sures [0, 1, 2, 3, 4, 5, 6, 7, 8, 9, 10, 11, 12, 13] (.run 14 (.run 15 .nil))) (fun w' => Upd (fun k => pv.ownBlock = some k) w4 w') (by kernel_rfl) (by kernel_rfl) (fun c a d v w h => by cases d <;> exact h) (Upd.refl _ _).drew ?_
              simp only [OT.sures]
              iterate 14 (apply wpT_sure rfl rfl; focus (intro w' hw'; have g0 := hw'.heap HR4.out HNR.out; have g1 := hw'.heap HB4.out HNX.out; have g2 := hw'.cell HK0.out HPG.out; have c0 : w'.cell? ⟨w.heap.size, 0, none⟩ = some (.slice (some ⟨go, 0, none⟩) (qi.length + 1) capo) := (by simp [World.cell?, g0, resO]); have c1 : w'.cell? ⟨w3.heap.size, 0, none⟩ = some (.int .i64 p.1) := (by simp [World.cell?, g1]); have c2 : w'.cell? ⟨w3.heap.size, 1, none⟩ = some (.int .i64 p.2.1) := (by simp [World.cell?, g1]); have c3 : w'.cell? ⟨w3.heap.size, 2, none⟩ = some (.int .i64 p.2.2) := (by simp [World.cell?, g1]); go_simp; (try rw [if_pos hidx]); (try rfl)))
              refine wpT_run (fun w' => Upd (fun k => pv.ownBlock = some k) w4 w') (fun _ h => h) rfl (fun K hK => ?_)
              go_simp
              refine hK _ _ ⟨((Upd.refl _ _).alloc _).drew, ?_⟩
              clear hK K
              refine wpT_run (fun w' => Upd (fun k => pv.ownBlock = some k) w4 w') (fun _ h => h) rfl (fun K hK => ?_)
              rw [if_pos (by rfl)]
              refine wp_append_run _ _ _ rfl rfl rfl R5.out (hK _ _ ⟨V5.out, ?_⟩)
              clear hK K
              refine wpT_nil ?_
              simp only [List.drop_succ_cons, List.drop_zero]
              go_wp2_with fail
              have hnext : Hid (TwoI w ls (k + 1) (left - 1) (w5.setCell ⟨go, qi.length * 2, none⟩ (.slice (some ⟨g2, 0, none⟩) (pts.length + 1) cap2))) := by
                obtain ⟨t1, t2, t3, t4⟩ := two_v HQ4.out HG.out.2.2.2.2.1 HG.out.2.2.2.2.2 V5.out O5.out HAT.out
                exact ⟨_, k + 1, e0, t1.heap HR4.out (by
                    rintro (h | h)
                    · exact HNR.out h
                    · exact HNG.out h), ((HU.out.trans U2.out).then HU4.out (fun i hi e => by omega)).then t1 (fun i hi e => by
                    rcases e with e | rfl
                    · have := (HLAST.out.lt _ e).1; omega
                    · have := HGO.out.1; omega), .inr ⟨HE0.out, hspb.out⟩⟩
              exact ⟨⟨k + 1, left - 1, by go_num, by rw [show ((left - 1 : Nat) : Int) = (left : Int) - 1 by have := HLF.out; omega], hlt, hnext.out⟩, by simp [intOf]; omega⟩
      · have he' : (((e : Nat) : Int) == 0) = false := by rw [beq_eq_false_iff_ne]; omega
        have hbad : Hid (twoGo 1 ls 0 [] = .bad pl e) := by
          rcases hcase with ⟨h, _⟩ | ⟨_, h⟩
          · exact absurd h he
          · exact h
        have HE := Lib.hid he
        have hF := qfail_keep w.heap.size vl pl e ls.length 12 he wr HR.out
        have HF := Lib.hid hF
        clear hcase he hF
        by_cases hl0 : left = 0
        · subst hl0
          go_wp2_with fail
          go_ret
          exact ⟨_, vl, pl, e, rfl, HR.out, HU.out, by rw [hbad.out]; exact ⟨rfl, rfl, HE.out⟩⟩
        · have hl1 : (0 : Int) < ((left : Nat) : Int) := by omega
          clear hl0
          go_wp2_with fail
          refine HF.out.mono ?_
          rintro e1 w2 ⟨rfl, rfl⟩
          go_wp2_with fail
          go_ret
          exact ⟨_, vl, pl, e, rfl, HR.out, HU.out, by rw [hbad.out]; exact ⟨rfl, rfl, HE.out⟩⟩
    · have hlt' : ¬ ((k : Nat) : Int) < ((ls.length : Nat) : Int) := by omega
      have hkk : k = ls.length := by omega
      have HCASE := Lib.hid hcase
      have HDK : Hid (ls.drop k = []) := List.drop_eq_nil_of_le (by omega)
      have HKK := Lib.hid hkk
      clear hcase hkk
      by_cases hl0 : left = 0
      · subst hl0
        go_wp2_with fail
        go_ret
        refine ⟨_, vl, pl, e, rfl, HR.out, HU.out, ?_⟩
        rcases HCASE.out with ⟨h1, qs, hg, hsp⟩ | ⟨h1, hsp⟩
        · rw [hsp, HDK.out, twoGo, if_pos rfl]
          exact ⟨h1, OwnQs.polys hg.1⟩
        · rw [hsp]
          exact ⟨rfl, rfl, h1⟩
      · have hl1 : (0 : Int) < ((left : Nat) : Int) := by omega
        by_cases he : e = 0
        · subst he
          have HF := Lib.hid (qfail_set w.heap.size vl pl ls.length 12 wr HR.out)
          have hsp : Hid (twoGo 1 ls 0 [] = .bad ls.length 12) := by
            rcases HCASE.out with ⟨_, qs, hg, hsp⟩ | ⟨h1, _⟩
            · show _ = _
              rw [hsp, HDK.out, twoGo, if_neg hl0, HKK.out]; rfl
            · exact absurd rfl h1
          clear hl0
          go_wp2_with fail
          refine HF.out.mono ?_
          rintro e1 w2 ⟨rfl, u2, hr2⟩
          have U2 := Lib.hid u2
          have HR2 := Lib.hid hr2
          clear u2 hr2 HF
          go_wp2_with fail
          go_ret
          exact ⟨_, vl, ls.length, 12, rfl, HR2.out, HU.out.then U2.out (fun i hi e => by omega), by rw [hsp.out]; exact ⟨rfl, rfl, by decide⟩⟩
        · have HE := Lib.hid he
          have HF := Lib.hid (qfail_keep w.heap.size vl pl e ls.length 12 he wr HR.out)
          have hsp : Hid (twoGo 1 ls 0 [] = .bad pl e) := by
            rcases HCASE.out with ⟨h1, _⟩ | ⟨_, h1⟩
            · exact absurd h1 he
            · exact h1
          clear hl0 he
          go_wp2_with fail
          refine HF.out.mono ?_
          rintro e1 w2 ⟨rfl, rfl⟩
          go_wp2_with fail
          go_ret
          exact ⟨_, vl, pl, e, rfl, HR.out, HU.out, by rw [hsp.out]; exact ⟨rfl, rfl, HE.out⟩⟩
end Go.Proofs.YtojdgdeefhndiaaGreatDoor
