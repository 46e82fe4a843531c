/- Parts: Walks of the reference of packets: lists of parts compared. No condition. Walks of the reference of packets: right. No condition. Walks of the reference of packets: whether a list can be packed. No condition. Walks of the reference's meshes: what is wrong with a list. No condition. -/
import Derived.Test.YtcikldoaidmnhaaGreatDoorQClus6
import Derived.Test.YtcikldoaidmnhaaGreatDoorQClus21
import Derived.Test.YtcikldoaidmnhaaGreatDoorQClus22
import Derived.Test.YtcikldoaidmnhaaGreatDoorQClus34
namespace Go.Proofs.YtcikldoaidmnhaaGreatDoor
open Go Go.RowKit Pk
set_option maxRecDepth 100000
def checkX (op : Bool) (nb : Nat) (l : List Tri) : Nat := if l.any flatT then 20 else if (edgesL l).any (fun e => decide (1 < (edgesL l).count e)) then 21 else if op = false ∧ 0 < nb then 22 else if (cornersL l).any (pinchedAt l) then 23 else 0
theorem Kd.Rd.form2 {P : Program} {α : Type} {K : Kd P α} {w : World} {v : Value} {l : List α} (h : K.Rd w v l) : ∃ A cap, v = .slice A l.length cap ∧ l.length ≤ cap := by
 obtain ⟨A, cap, e, hc, _⟩ := h
 exact ⟨A, cap, e, hc⟩
theorem any_no {α : Type} {f : α → Bool} {l : List α} (h : ∀ k (hk : k < l.length), f l[k] = false) : l.any f = false := by
 rw [List.any_eq_false]
 intro x hx
 obtain ⟨k, hk, rfl⟩ := List.getElem_of_mem hx
 rw [h k hk]; simp
theorem any_yes {α : Type} {f : α → Bool} {l : List α} {k : Nat} (hk : k < l.length) (h : f l[k] = true) : l.any f = true := List.any_eq_true.2 ⟨_, List.getElem_mem hk, h⟩
set_option maxHeartbeats 4000000 in
theorem hcheck_gen (op : Bool) (nb : Nat) (v : Value) (l : List Tri) (hn : l.length ≤ 100000) (w : World) (h : kTri.Rd w v l)
  (hB : op = false → ∀ W, Upd noBlk w W → Calls Tryz.prog 128 #[v] W fun en w' => ∃ A c, en = .returned (.slice A nb c) ∧ Upd noBlk W w') :
  Calls Tryz.prog 77 #[v, .bool op] w fun en w' => en = .returned (.int .i64 (checkX op nb l : Nat)) ∧ Upd noBlk w w' := by
 obtain ⟨R, hR⟩ : ∃ R, R = checkX op nb l := ⟨_, rfl⟩
 rw [← hR]
 have H20 : Hid (l.any flatT = true → R = 20) := fun h => by rw [hR]; unfold checkX; rw [if_pos h]
 have H21 : Hid (l.any flatT = false → (edgesL l).any (fun e => decide (1 < (edgesL l).count e)) = true → R = 21) := fun h1 h2 => by rw [hR]; unfold checkX; rw [if_neg (by rw [h1]; simp), if_pos h2]
 have H22 : Hid (l.any flatT = false → (edgesL l).any (fun e => decide (1 < (edgesL l).count e)) = false → op = false → 0 < nb → R = 22) := fun h1 h2 h3 h4 => by rw [hR]; unfold checkX; rw [if_neg (by rw [h1]; simp), if_neg (by rw [h2]; simp), if_pos ⟨h3, h4⟩]
 have H23 : Hid (l.any flatT = false → (edgesL l).any (fun e => decide (1 < (edgesL l).count e)) = false → ¬ (op = false ∧ 0 < nb) → (cornersL l).any (pinchedAt l) = true → R = 23) := fun h1 h2 h3 h4 => by rw [hR]; unfold checkX; rw [if_neg (by rw [h1]; simp), if_neg (by rw [h2]; simp), if_neg h3, if_pos h4]
 have H0 : Hid (l.any flatT = false → (edgesL l).any (fun e => decide (1 < (edgesL l).count e)) = false → ¬ (op = false ∧ 0 < nb) → (cornersL l).any (pinchedAt l) = false → R = 0) := fun h1 h2 h3 h4 => by rw [hR]; unfold checkX; rw [if_neg (by rw [h1]; simp), if_neg (by rw [h2]; simp), if_neg h3, if_neg (by rw [h4]; simp)]
 have HED : Hid (∀ W, Upd noBlk w W → Calls Tryz.prog 126 #[v] W fun en w' => ∃ v', en = .returned v' ∧ kPair.Own W.heap.size w' v' (edgesL l) ∧ Upd noBlk W w') := fun W hW => hEdges_any v l (by omega) W (h.keep hW)
 have HCO : Hid (∀ W, Upd noBlk w W → Calls Tryz.prog 129 #[v] W fun en w' => ∃ v', en = .returned v' ∧ kPt.Rd w' v' (cornersL l) ∧ Upd noBlk W w') := fun W hW => hCorners_any v l (by omega) W (h.keep hW)
 have HPI : Hid (∀ p W, Upd noBlk w W → Calls Tryz.prog 130 #[v, ptV p] W fun en w' => en = .returned (.bool (pinchedAt l p)) ∧ Upd noBlk W w') := fun p W hW => hPinched_any v l p (by omega) W (h.keep hW)
 have HBO := Lib.hid hB
 have HCN := fun v' e W r => Lib.hid (hcount_any v' (edgesL l) e (by rw [edgesL_length]; omega) W r)
 have HEL : Hid ((edgesL l).length ≤ 300000) := by show _ ≤ _; rw [edgesL_length]; omega
 have HCL : Hid ((cornersL l).length ≤ 300000) := by have := cornersL_len l; show _ ≤ _; omega
 obtain ⟨A, cap, rfl, hcap, hx⟩ := h
 have HX := Lib.hid hx
 have hn' : ((l.length : Nat) : Int) ≤ 100000 := by omega
 clear hx hn hB hR hcap
 go_enter Tryz.func77, Tryz.ntmps77
 go_wp2_with fail
 go_loopw [5] (fun i wr => ∃ k : Nat, i = .int .i64 k ∧ k ≤ l.length ∧ (∀ a (h : a < l.length), a < k → flatT l[a] = false) ∧ Upd noBlk w wr) (fun i _ => l.length - (intOf i).toNat)
 case atStart => exact ⟨0, rfl, Nat.zero_le _, fun a _ h => absurd h (Nat.not_lt_zero _), Upd.refl _ _⟩
 case round =>
  obtain ⟨k, rfl, hk, hb, hu⟩ := hrel
  have HB := Lib.hid hb
  have HU := Lib.hid hu
  clear hb hu
  by_cases hlt : k < l.length
  ·have hlt' : ((k : Nat) : Int) < ((l.length : Nat) : Int) := by omega
   obtain ⟨b, off, rfl, f1⟩ := HX.out (by omega)
   have hat := f1 k hlt
   rw [show kTri.k = 9 from rfl] at hat
   have HAT := Lib.hid (hat.keep HU.out)
   have HF1 : Hid (flatT l[k] = true → R = 20) := fun h => H20.out (any_yes hlt h)
   have HF0 : Hid (flatT l[k] = false → ∀ a (h : a < l.length), a < k + 1 → flatT l[a] = false) := fun h a ha hak => by
    rcases (by omega : a < k ∨ a = k) with h' | rfl
    ·exact HB.out a ha h'
    ·exact h
   have HK : Hid (k < l.length) := hlt
   have hkw : IntKind.i64.wrap (((k : Nat) : Int) + 1) = ((k : Nat) : Int) + 1 := wrapN (by omega) (by omega)
   clear hat f1 hk HB H20 H21 H22 H23 H0 HED HCO HPI HBO HCN
   generalize l[k] = t at *
   clear hlt
   obtain ⟨⟨a0, a1, a2⟩, ⟨a3, a4, a5⟩, ⟨a6, a7, a8⟩⟩ := t
   go_wp2_with fail
   have HFL : Hid (flatT ((a0, a1, a2), (a3, a4, a5), (a6, a7, a8)) = decide (((a0, a1, a2) : Pt) = (a3, a4, a5) ∨ ((a3, a4, a5) : Pt) = (a6, a7, a8) ∨ ((a6, a7, a8) : Pt) = (a0, a1, a2))) := rfl
   refine wp_region_tree 36 (OT.sures [0, 1, 2, 3, 4, 5, 6, 7, 8, 9, 10, 11, 12, 13, 14, 15, 16, 17, 18, 19, 20, 21, 22, 23, 24, 25, 26, 27, 28, 29, 30, 31, 32, 33, 34, 35] .nil) (fun w' => Gr wr w') (by kernel_rfl) (by kernel_rfl) (fun c a d v w h => by cases d <;> exact h) ((Gr.refl wr).drew) ?_
   simp only [OT.sures]
   iterate 10 (apply wpT_sure rfl rfl; focus (intro w' hw'; obtain ⟨g0, g1, g2, g3, g4, g5, g6, g7, g8⟩ := triAt9 (HAT.out.keep hw'.up); go_simp; rfl))
   by_cases e0 : ((a0, a1, a2) : Pt) = (a3, a4, a5)
   ·have HF := Lib.hid (HF1.out (HFL.out.trans (decide_eq_true (.inl e0))))
    cases e0
    clear HF0 HF1 HFL
    refine wpT_sure rfl rfl (.bool true) (fun w' hw' => by go_simp; try rfl) ?_
    apply wpT_sure rfl rfl; focus (intro w' hw'; go_simp; rfl)
    iterate 11 (refine wpT_skip rfl (by go_simp) ?_)
    iterate 2 (apply wpT_sure rfl rfl; focus (intro w' hw'; go_simp; rfl))
    iterate 11 (refine wpT_skip rfl (by go_simp) ?_)
    refine wpT_nil ?_
    go_wp2_with fail
    go_ret
    exact ⟨by rw [HF.out]; rfl, HU.out.drew⟩
   ·refine wpT_sure rfl rfl (.bool false) (fun w' hw' => by rcases pt_ne e0 with e0 | ⟨rfl, e1⟩ | ⟨rfl, rfl, e2⟩ <;> (go_simp; try rfl)) ?_
    apply wpT_sure rfl rfl; focus (intro w' hw'; go_simp; rfl)
    iterate 10 (refine wpT_sureG rfl (by go_simp) _ (fun w' hw' => by obtain ⟨g0, g1, g2, g3, g4, g5, g6, g7, g8⟩ := triAt9 (HAT.out.keep hw'.up); go_simp; rfl) ?_)
    by_cases e1 : ((a3, a4, a5) : Pt) = (a6, a7, a8)
    ·have HF := Lib.hid (HF1.out (HFL.out.trans (decide_eq_true (.inr (.inl e1)))))
     cases e1
     clear HF0 HF1 HFL
     refine wpT_sureG rfl (by go_simp) (.bool true) (fun w' hw' => by go_simp; try rfl) ?_
     iterate 2 (apply wpT_sure rfl rfl; focus (intro w' hw'; go_simp; rfl))
     iterate 11 (refine wpT_skip rfl (by go_simp) ?_)
     refine wpT_nil ?_
     go_wp2_with fail
     go_ret
     exact ⟨by rw [HF.out]; rfl, HU.out.drew⟩
    ·refine wpT_sureG rfl (by go_simp) (.bool false) (fun w' hw' => by rcases pt_ne e1 with e0 | ⟨rfl, e1⟩ | ⟨rfl, rfl, e2⟩ <;> (go_simp; try rfl)) ?_
     iterate 2 (apply wpT_sure rfl rfl; focus (intro w' hw'; go_simp; rfl))
     iterate 10 (refine wpT_sureG rfl (by go_simp) _ (fun w' hw' => by obtain ⟨g0, g1, g2, g3, g4, g5, g6, g7, g8⟩ := triAt9 (HAT.out.keep hw'.up); go_simp; rfl) ?_)
     by_cases e2 : ((a6, a7, a8) : Pt) = (a0, a1, a2)
     ·have HF := Lib.hid (HF1.out (HFL.out.trans (decide_eq_true (.inr (.inr e2)))))
      cases e2
      clear HF0 HF1 HFL
      refine wpT_sureG rfl (by go_simp) (.bool true) (fun w' hw' => by go_simp; try rfl) ?_
      refine wpT_nil ?_
      go_wp2_with fail
      go_ret
      exact ⟨by rw [HF.out]; rfl, HU.out.drew⟩
     ·have HF := Lib.hid (HF0.out (HFL.out.trans (decide_eq_false (fun h => h.elim e0 (fun h => h.elim e1 e2)))))
      refine wpT_sureG rfl (by go_simp) (.bool false) (fun w' hw' => by rcases pt_ne e2 with e0 | ⟨rfl, e1⟩ | ⟨rfl, rfl, e2⟩ <;> (go_simp; try rfl)) ?_
      clear HF0 HF1 HFL e0 e1 e2 HAT
      refine wpT_nil ?_
      go_wp2_with fail
      exact ⟨⟨k + 1, by push_cast; rfl, HK.out, HF.out, HU.out.drew⟩, by simp only [intOf]; have := HK.out; omega⟩
  ·obtain rfl : k = l.length := by omega
   have HNF : Hid (l.any flatT = false) := any_no (fun a h => HB.out a h h)
   have HED' := Lib.hid (HED.out wr HU.out)
   clear HB H20 HED
   go_wp2_with fail
   refine HED'.out.mono ?_
   rintro e x1 ⟨ve, rfl, oe, u1⟩
   have OE := Lib.hid oe.rd
   have U1 := Lib.hid (HU.out.trans u1)
   have heI : (((edgesL l).length : Nat) : Int) ≤ 300000 := by have := HEL.out; omega
   have H21' := Lib.hid (H21.out HNF.out)
   have H22' := Lib.hid (H22.out HNF.out)
   have H23' := Lib.hid (H23.out HNF.out)
   have H0' := Lib.hid (H0.out HNF.out)
   obtain ⟨AE, cE, rfl, _⟩ := oe.form
   clear oe u1 HED' HU H21 H22 H23 H0 HNF HX
   generalize edgesL l = E at *
   go_wp2_with fail
   go_loopw [7] (fun i wr => ∃ k : Nat, i = .int .i64 k ∧ k ≤ E.length ∧ (∀ a (h : a < E.length), a < k → decide (1 < E.count E[a]) = false) ∧ Upd noBlk x1 wr) (fun i _ => E.length - (intOf i).toNat)
   case atStart => exact ⟨0, rfl, Nat.zero_le _, fun a _ h => absurd h (Nat.not_lt_zero _), Upd.refl _ _⟩
   case round =>
    obtain ⟨k, rfl, hk, hb, hu⟩ := hrel
    have HB := Lib.hid hb
    have HU := Lib.hid hu
    clear hb hu
    by_cases hlt : k < E.length
    ·have hlt' : ((k : Nat) : Int) < ((E.length : Nat) : Int) := by omega
     obtain ⟨AE', cE', e, _, hx⟩ := OE.out
     cases e
     obtain ⟨b, off, rfl, f1⟩ := hx (by omega)
     have hat := (f1 k hlt).keep HU.out
     rw [show kPair.k = 6 from rfl] at hat
     have HAT := Lib.hid hat
     have HF1 : Hid (1 < E.count E[k] → R = 21) := fun h => H21'.out (any_yes (f := fun e => decide (1 < E.count e)) hlt (decide_eq_true h))
     have HF0 : Hid (¬ 1 < E.count E[k] → ∀ a (h : a < E.length), a < k + 1 → decide (1 < E.count E[a]) = false) := fun h a ha hak => by
      rcases (by omega : a < k ∨ a = k) with h' | rfl
      ·exact HB.out a ha h'
      ·exact decide_eq_false h
     have HCW := Lib.hid (HCN _ E[k] wr (OE.out.keep HU.out)).out
     have HK : Hid (k < E.length) := hlt
     have hkw : IntKind.i64.wrap (((k : Nat) : Int) + 1) = ((k : Nat) : Int) + 1 := wrapN (by omega) (by omega)
     clear hat f1 hk hx HB H21' H22' H23' H0' HPI HCN HBO HCO OE
     generalize E[k] = q at *
     clear hlt
     generalize E.count q = m at *
     obtain ⟨⟨q0, q1, q2⟩, ⟨q3, q4, q5⟩⟩ := q
     unfold prC at HCW
     obtain ⟨d0, d1, d2, d3, d4, d5⟩ := prAt6 HAT.out
     go_wp2_with fail
     refine HCW.out.mono ?_
     rintro e w4 ⟨rfl, u4⟩
     have U4 := Lib.hid (HU.out.trans u4)
     clear u4 HCW d0 d1 d2 d3 d4 d5 HAT
     by_cases hm : 1 < m
     ·have HF := Lib.hid (HF1.out hm)
      have hm' : (1 : Int) < ((m : Nat) : Int) := by omega
      clear HF0 HF1 hm
      go_wp2_with fail
      go_ret
      exact ⟨by rw [HF.out]; rfl, U1.out.trans U4.out⟩
     ·have HF := Lib.hid (HF0.out hm)
      have hm' : ¬ (1 : Int) < ((m : Nat) : Int) := by omega
      clear HF0 HF1 hm
      go_wp2_with fail
      exact ⟨⟨k + 1, by push_cast; rfl, HK.out, HF.out, U4.out⟩, by simp only [intOf]; have := HK.out; omega⟩
    ·obtain rfl : k = E.length := by omega
     have HNE : Hid (E.any (fun e => decide (1 < E.count e)) = false) := any_no (fun a h => HB.out a h h)
     have H22 := Lib.hid (H22'.out HNE.out)
     have H23 := Lib.hid (H23'.out HNE.out)
     have H0 := Lib.hid (H0'.out HNE.out)
     have UB := Lib.hid (U1.out.trans HU.out)
     clear HB H21' H22' H23' H0' HNE HCN OE U1 HU
     cases op with
     | true =>
      have H23 := Lib.hid (H23.out (fun h => by cases h.1))
      have H0 := Lib.hid (H0.out (fun h => by cases h.1))
      have UC := UB
      clear H22 HBO UB
      have HCO' := Lib.hid (HCO.out _ UC.out)
      clear HCO
      go_wp2_with fail
      refine HCO'.out.mono ?_
      rintro e x3 ⟨vc, rfl, oc, u3⟩
      have OC := Lib.hid oc
      have U3 := Lib.hid (UC.out.trans u3)
      clear oc u3 HCO'
      have hcI : (((cornersL l).length : Nat) : Int) ≤ 300000 := by have := HCL.out; omega
      generalize cornersL l = C at *
      obtain ⟨AC, cC, rfl, hcC⟩ := OC.out.form2
      go_wp2_with fail
      go_loopw [9] (fun i wr => ∃ k : Nat, i = .int .i64 k ∧ k ≤ C.length ∧ (∀ a (h : a < C.length), a < k → pinchedAt l C[a] = false) ∧ Upd noBlk x3 wr) (fun i _ => C.length - (intOf i).toNat)
      case atStart => exact ⟨0, rfl, Nat.zero_le _, fun a _ h => absurd h (Nat.not_lt_zero _), Upd.refl _ _⟩
      case round =>
       obtain ⟨k, rfl, hk, hb, hu⟩ := hrel
       have HB := Lib.hid hb
       have HU := Lib.hid hu
       clear hb hu
       by_cases hlt : k < C.length
       ·have hlt' : ((k : Nat) : Int) < ((C.length : Nat) : Int) := by omega
        obtain ⟨AC', cC', e, _, hx⟩ := OC.out
        cases e
        obtain ⟨b, off, rfl, f1⟩ := hx (by omega)
        have hat := (f1 k hlt).keep HU.out
        rw [show kPt.k = 3 from rfl] at hat
        have HAT := Lib.hid hat
        have HF1 : Hid (pinchedAt l C[k] = true → R = 23) := fun h => H23.out (any_yes hlt h)
        have HF0 : Hid (pinchedAt l C[k] = false → ∀ a (h : a < C.length), a < k + 1 → pinchedAt l C[a] = false) := fun h a ha hak => by
         rcases (by omega : a < k ∨ a = k) with h' | rfl
         ·exact HB.out a ha h'
         ·exact h
        have HPW := Lib.hid (HPI.out C[k] wr (U3.out.trans HU.out))
        have HK : Hid (k < C.length) := hlt
        have hkw : IntKind.i64.wrap (((k : Nat) : Int) + 1) = ((k : Nat) : Int) + 1 := wrapN (by omega) (by omega)
        clear hat f1 hk hx HB H23 H0 HPI
        generalize C[k] = q at *
        clear hlt
        obtain ⟨q0, q1, q2⟩ := q
        unfold ptV at HPW
        obtain ⟨d0, d1, d2⟩ := ptAt3 HAT.out
        go_wp2_with fail
        refine HPW.out.mono ?_
        rintro e w4 ⟨rfl, u4⟩
        have U4 := Lib.hid (HU.out.trans u4)
        clear u4 HPW d0 d1 d2 HAT
        rcases hp : pinchedAt l (q0, q1, q2) with _ | _
        ·have HF := Lib.hid (HF0.out hp)
         clear HF0 HF1 hp
         go_wp2_with fail
         exact ⟨⟨k + 1, by push_cast; rfl, HK.out, HF.out, U4.out⟩, by simp only [intOf]; have := HK.out; omega⟩
        ·have HF := Lib.hid (HF1.out hp)
         clear HF0 HF1 hp
         go_wp2_with fail
         go_ret
         exact ⟨by rw [HF.out]; rfl, U3.out.trans U4.out⟩
       ·obtain rfl : k = C.length := by omega
        have HF := Lib.hid (H0.out (any_no (fun a h => HB.out a h h)))
        clear HB H23 H0
        go_wp2_with fail
        go_ret
        exact ⟨by rw [HF.out]; rfl, U3.out.trans HU.out⟩
     | false =>
      have HBB := Lib.hid (HBO.out rfl wr UB.out)
      clear HBO
      go_wp2_with fail
      refine HBB.out.mono ?_
      rintro e w5 ⟨Ab, cb, rfl, u5⟩
      have UC := Lib.hid (UB.out.trans u5)
      clear u5 HBB UB
      by_cases hnb : 0 < nb
      ·have HF := Lib.hid (H22.out (by first | rfl | trivial) hnb)
       have hnb' : (0 : Int) < ((nb : Nat) : Int) := by omega
       clear H22 H23 H0 hnb
       go_wp2_with fail
       go_ret
       exact ⟨by rw [HF.out]; rfl, UC.out⟩
      ·have H23 := Lib.hid (H23.out (fun h => hnb h.2))
       have H0 := Lib.hid (H0.out (fun h => hnb h.2))
       have hnb' : ¬ (0 : Int) < ((nb : Nat) : Int) := by omega
       have hnb'' : nb = 0 := by omega
       clear H22 hnb
       have HCO' := Lib.hid (HCO.out _ UC.out)
       clear HCO
       go_wp2_with fail
       refine HCO'.out.mono ?_
       rintro e x3 ⟨vc, rfl, oc, u3⟩
       have OC := Lib.hid oc
       have U3 := Lib.hid (UC.out.trans u3)
       clear oc u3 HCO'
       have hcI : (((cornersL l).length : Nat) : Int) ≤ 300000 := by have := HCL.out; omega
       generalize cornersL l = C at *
       obtain ⟨AC, cC, rfl, hcC⟩ := OC.out.form2
       go_wp2_with fail
       go_loopw [9] (fun i wr => ∃ k : Nat, i = .int .i64 k ∧ k ≤ C.length ∧ (∀ a (h : a < C.length), a < k → pinchedAt l C[a] = false) ∧ Upd noBlk x3 wr) (fun i _ => C.length - (intOf i).toNat)
       case atStart => exact ⟨0, rfl, Nat.zero_le _, fun a _ h => absurd h (Nat.not_lt_zero _), Upd.refl _ _⟩
       case round =>
        obtain ⟨k, rfl, hk, hb, hu⟩ := hrel
        have HB := Lib.hid hb
        have HU := Lib.hid hu
        clear hb hu
        by_cases hlt : k < C.length
        ·have hlt' : ((k : Nat) : Int) < ((C.length : Nat) : Int) := by omega
         obtain ⟨AC', cC', e, _, hx⟩ := OC.out
         cases e
         obtain ⟨b, off, rfl, f1⟩ := hx (by omega)
         have hat := (f1 k hlt).keep HU.out
         rw [show kPt.k = 3 from rfl] at hat
         have HAT := Lib.hid hat
         have HF1 : Hid (pinchedAt l C[k] = true → R = 23) := fun h => H23.out (any_yes hlt h)
         have HF0 : Hid (pinchedAt l C[k] = false → ∀ a (h : a < C.length), a < k + 1 → pinchedAt l C[a] = false) := fun h a ha hak => by
          rcases (by omega : a < k ∨ a = k) with h' | rfl
          ·exact HB.out a ha h'
          ·exact h
         have HPW := Lib.hid (HPI.out C[k] wr (U3.out.trans HU.out))
         have HK : Hid (k < C.length) := hlt
         have hkw : IntKind.i64.wrap (((k : Nat) : Int) + 1) = ((k : Nat) : Int) + 1 := wrapN (by omega) (by omega)
         clear hat f1 hk hx HB H23 H0 HPI
         generalize C[k] = q at *
         clear hlt
         obtain ⟨q0, q1, q2⟩ := q
         unfold ptV at HPW
         obtain ⟨d0, d1, d2⟩ := ptAt3 HAT.out
         go_wp2_with fail
         refine HPW.out.mono ?_
         rintro e w4 ⟨rfl, u4⟩
         have U4 := Lib.hid (HU.out.trans u4)
         clear u4 HPW d0 d1 d2 HAT
         rcases hp : pinchedAt l (q0, q1, q2) with _ | _
         ·have HF := Lib.hid (HF0.out hp)
          clear HF0 HF1 hp
          go_wp2_with fail
          exact ⟨⟨k + 1, by push_cast; rfl, HK.out, HF.out, U4.out⟩, by simp only [intOf]; have := HK.out; omega⟩
         ·have HF := Lib.hid (HF1.out hp)
          clear HF0 HF1 hp
          go_wp2_with fail
          go_ret
          exact ⟨by rw [HF.out]; rfl, U3.out.trans U4.out⟩
        ·obtain rfl : k = C.length := by omega
         have HF := Lib.hid (H0.out (any_no (fun a h => HB.out a h h)))
         clear HB H23 H0
         go_wp2_with fail
         go_ret
         exact ⟨by rw [HF.out]; rfl, U3.out.trans HU.out⟩
end Go.Proofs.YtcikldoaidmnhaaGreatDoor
namespace Go.Proofs.YtcikldoaidmnhaaGreatDoor
open Go Go.RowKit Pk
set_option maxRecDepth 100000
theorem st1 : Tryz.prog.underlying 83 = some (.struct (Tryz.prog.fieldsOf 83)) := by kernel_rfl
theorem st2 : Tryz.prog.stoodInHeld 83 = false := by kernel_rfl
end Go.Proofs.YtcikldoaidmnhaaGreatDoor
namespace Go.Proofs.YtcikldoaidmnhaaGreatDoor
open Go Go.RowKit Pk
set_option maxRecDepth 100000
theorem jinside_any (n : Int) (w : World) : Calls Tryz.prog 65 #[.int .i64 n] w fun en w' => en = .returned (.bool (insideC n)) ∧ Upd noBlk w w' := by
 go_enter Tryz.func65, Tryz.ntmps65
 by_cases h0 : 0 ≤ n
 ·by_cases h1 : n ≤ 2097151
  ·have h : insideC n = true := decide_eq_true ⟨h0, h1⟩
   rw [h]
   go_wp2_with fail
   go_ret
   exact ⟨rfl, Upd.refl _ _⟩
  ·have h : insideC n = false := decide_eq_false (fun e => h1 e.2)
   rw [h]
   go_wp2_with fail
   go_ret
   exact ⟨rfl, Upd.refl _ _⟩
 ·have h : insideC n = false := decide_eq_false (fun e => h0 e.1)
  rw [h]
  go_wp2_with fail
  go_ret
  exact ⟨rfl, Upd.refl _ _⟩
end Go.Proofs.YtcikldoaidmnhaaGreatDoor
namespace Go.Proofs.YtcikldoaidmnhaaGreatDoor
open Go Go.RowKit Pk
set_option maxRecDepth 100000
theorem checkX_open (l : List Tri) : checkX true 0 l = checkO l := by
 rw [← check_ref]
 unfold checkX
 simp
theorem hCheckOpen_any (v : Value) (l : List Tri) (hn : l.length ≤ 100000) (w : World) (h : kTri.Rd w v l) :
  Calls Tryz.prog 66 #[v] w fun en w' => en = .returned (.int .i64 (checkO l : Nat)) ∧ Upd noBlk w w' := by
 have hc := hcheck_gen true 0 v l hn w h (fun e => by cases e)
 rw [checkX_open] at hc
 have HC := Lib.hid hc
 clear hc
 go_enter Tryz.func66, Tryz.ntmps66
 go_wp2_with fail
 refine HC.out.mono ?_
 rintro e w1 ⟨rfl, u1⟩
 have U1 := Lib.hid u1
 clear u1 HC
 go_wp2_with fail
 go_ret
 exact ⟨rfl, U1.out⟩
def insideP (p : Pt) : Bool := insideC p.1 && insideC p.2.1 && insideC p.2.2
theorem insideP_iff (p : Pt) : insideP p = decide (0 ≤ p.1 ∧ p.1 ≤ 2097151 ∧ 0 ≤ p.2.1 ∧ p.2.1 ≤ 2097151 ∧ 0 ≤ p.2.2 ∧ p.2.2 ≤ 2097151) := by
 unfold insideP insideC
 rw [Bool.eq_iff_iff]
 simp only [Bool.and_eq_true, decide_eq_true_eq]
 omega
theorem coordT_corners (t : Tri) : coordT t = true ↔ ∀ j, j < 3 → insideP (cornAt t j) = true := by
 unfold coordT
 rw [List.all_eq_true]
 constructor
 ·intro h j hj
  rw [insideP_iff]
  rcases (by omega : j = 0 ∨ j = 1 ∨ j = 2) with rfl | rfl | rfl
  ·exact h t.1 (by simp)
  ·exact h t.2.1 (by simp)
  ·exact h t.2.2 (by simp)
 ·intro h p hp
  rw [← insideP_iff]
  simp only [List.mem_cons, List.not_mem_nil, or_false] at hp
  rcases hp with rfl | rfl | rfl
  ·exact h 0 (by omega)
  ·exact h 1 (by omega)
  ·exact h 2 (by omega)
set_option maxHeartbeats 4000000 in
theorem jPackable_any (v : Value) (l : List Tri) (hn : l.length ≤ 100000) (w : World) (h : kTri.Rd w v l) :
  Calls Tryz.prog 18 #[v] w fun en w' => en = .returned (.bool (packable l)) ∧ Upd noBlk w w' := by
 obtain ⟨R, hR⟩ : ∃ R, R = packable l := ⟨_, rfl⟩
 rw [← hR]
 have HBIG : Hid (¬ l.length ≤ 128 → R = false) := fun h => by rw [hR]; unfold packable; rw [decide_eq_false h]; simp
 have HBAD : Hid (∀ k (h : k < l.length), coordT l[k] = false → R = false) := fun k h e => by
  rw [hR]; unfold packable
  have : l.all coordT = false := by
   rw [List.all_eq_false]
   exact ⟨_, List.getElem_mem h, by rw [e]; simp⟩
  rw [this]; rfl
 have HEND : Hid (l.length ≤ 128 → (∀ k (h : k < l.length), coordT l[k] = true) → R = decide (checkO l = 0)) := fun h1 h2 => by
  rw [hR]; unfold packable
  have : l.all coordT = true := by
   rw [List.all_eq_true]
   intro x hx
   obtain ⟨k, hk, rfl⟩ := List.getElem_of_mem hx
   exact h2 k hk
  rw [this, decide_eq_true h1]; rfl
 have HCO : Hid (∀ W, Upd noBlk w W → Calls Tryz.prog 66 #[v] W fun en w' => en = .returned (.int .i64 (checkO l : Nat)) ∧ Upd noBlk W w') := fun W hW => hCheckOpen_any v l hn W (h.keep hW)
 have HIN := fun n W => Lib.hid (jinside_any n W)
 obtain ⟨A, cap, rfl, hcap, hx⟩ := h
 have HX := Lib.hid hx
 have hn' : ((l.length : Nat) : Int) ≤ 100000 := by omega
 clear hx hn hR hcap
 by_cases hbig : l.length ≤ 128
 ·have hb' : ¬ (128 : Int) < ((l.length : Nat) : Int) := by omega
  have HEND := Lib.hid (HEND.out hbig)
  clear HBIG hbig
  go_enter Tryz.func18, Tryz.ntmps18
  go_wp2_with fail
  go_loopw [3] (fun i wr => ∃ k : Nat, i = .int .i64 k ∧ k ≤ l.length ∧ (∀ a (h : a < l.length), a < k → coordT l[a] = true) ∧ Upd noBlk w wr) (fun i _ => l.length - (intOf i).toNat)
  case atStart => exact ⟨0, rfl, Nat.zero_le _, fun a _ h => absurd h (Nat.not_lt_zero _), Upd.refl _ _⟩
  case round =>
   obtain ⟨k, rfl, hk, hb, hu⟩ := hrel
   have HB := Lib.hid hb
   have HU := Lib.hid hu
   clear hb hu
   by_cases hlt : k < l.length
   ·have hlt' : ((k : Nat) : Int) < ((l.length : Nat) : Int) := by omega
    obtain ⟨b, off, rfl, f1⟩ := HX.out (by omega)
    have hat := f1 k hlt
    rw [show kTri.k = 9 from rfl] at hat
    have HAT := Lib.hid hat
    have HF1 : Hid (coordT l[k] = false → R = false) := HBAD.out k hlt
    have HF0 : Hid (coordT l[k] = true → ∀ a (h : a < l.length), a < k + 1 → coordT l[a] = true) := fun h a ha hak => by
     rcases (by omega : a < k ∨ a = k) with h' | rfl
     ·exact HB.out a ha h'
     ·exact h
    have HK : Hid (k < l.length) := hlt
    have hkw : IntKind.i64.wrap (((k : Nat) : Int) + 1) = ((k : Nat) : Int) + 1 := wrapN (by omega) (by omega)
    clear hat f1 hk HB HBAD HEND HCO
    generalize l[k] = t at *
    clear hlt
    go_wp2_with fail
    go_loopw [4] (fun i wz => ∃ j : Nat, i = .int .i64 j ∧ j ≤ 3 ∧ (∀ a, a < j → insideP (cornAt t a) = true) ∧ Upd noBlk w wz) (fun i _ => 3 - (intOf i).toNat)
    case atStart => exact ⟨0, rfl, Nat.zero_le _, fun a h => absurd h (Nat.not_lt_zero _), HU.out⟩
    case round =>
     obtain ⟨j, rfl, hj, hb, hu⟩ := hrel
     have HB := Lib.hid hb
     have HU := Lib.hid hu
     clear hb hu
     by_cases hj3 : j < 3
     ·have hj3' : ((j : Nat) : Int) < 3 := by omega
      have hjw : IntKind.i64.wrap (((j : Nat) : Int) + 1) = ((j : Nat) : Int) + 1 := wrapN (by omega) (by omega)
      have HC := fun W hW => Lib.hid (tri_corner (HAT.out.keep (w' := W) hW) hj3)
      have HG0 : Hid (insideP (cornAt t j) = false → R = false) := fun h => HF1.out (by
       cases e : coordT t
       ·rfl
       ·rw [(coordT_corners t).1 e j hj3] at h; cases h)
      have HG1 : Hid (insideP (cornAt t j) = true → ∀ a, a < j + 1 → insideP (cornAt t a) = true) := fun h a ha => by
       rcases (by omega : a < j ∨ a = j) with h' | rfl
       ·exact HB.out a h'
       ·exact h
      have HJ : Hid (j < 3) := hj3
      clear hj hj3 HB HF0 HF1
      generalize cornAt t j = q at *
      obtain ⟨q0, q1, q2⟩ := q
      have hip : insideP (q0, q1, q2) = (insideC q0 && insideC q1 && insideC q2) := rfl
      rw [hip] at HG0 HG1
      clear hip
      obtain ⟨c0, c1, c2⟩ := (HC wr HU.out).out
      go_wp2_with fail
      refine (HIN _ _).out.mono ?_
      rintro e w1 ⟨rfl, u1⟩
      have U1 := Lib.hid (HU.out.trans u1)
      clear u1 c0 c1 c2
      obtain ⟨c0, c1, c2⟩ := (HC w1 U1.out).out
      go_wp2_with fail
      refine (HIN _ _).out.mono ?_
      rintro e w2 ⟨rfl, u2⟩
      have U2 := Lib.hid (U1.out.trans u2)
      clear u2 c0 c1 c2
      obtain ⟨c0, c1, c2⟩ := (HC w2 U2.out).out
      go_wp2_with fail
      refine (HIN _ _).out.mono ?_
      rintro e w3 ⟨rfl, u3⟩
      have U3 := Lib.hid (U2.out.trans u3)
      clear u3 c0 c1 c2 HIN HC U1 U2 HU
      generalize insideC q0 = i0 at *
      generalize insideC q1 = i1 at *
      generalize insideC q2 = i2 at *
      cases i0
      case false =>
       have HF := Lib.hid (HG0.out rfl)
       clear HG0 HG1
       go_wp2_with fail
       go_ret
       exact ⟨by rw [HF.out]; rfl, U3.out⟩
      cases i1
      case false =>
       have HF := Lib.hid (HG0.out rfl)
       clear HG0 HG1
       go_wp2_with fail
       go_ret
       exact ⟨by rw [HF.out]; rfl, U3.out⟩
      cases i2
      case false =>
       have HF := Lib.hid (HG0.out rfl)
       clear HG0 HG1
       go_wp2_with fail
       go_ret
       exact ⟨by rw [HF.out]; rfl, U3.out⟩
      have HF := Lib.hid (HG1.out rfl)
      clear HG0 HG1
      go_wp2_with fail
      exact ⟨⟨j + 1, by push_cast; rfl, HJ.out, HF.out, U3.out⟩, by simp only [intOf]; have := HJ.out; omega⟩
     ·obtain rfl : j = 3 := by omega
      have HF := Lib.hid (HF0.out ((coordT_corners t).2 HB.out))
      clear HF0 HF1 HB
      go_wp2_with fail
      exact ⟨⟨k + 1, by push_cast; rfl, HK.out, HF.out, HU.out⟩, by simp only [intOf]; have := HK.out; omega⟩
   ·obtain rfl : k = l.length := by omega
    have HF := Lib.hid (HEND.out (fun a h => HB.out a h h))
    have HC := Lib.hid (HCO.out wr HU.out)
    clear HB HBAD HEND HCO HIN
    generalize checkO l = c at *
    go_wp2_with fail
    refine HC.out.mono ?_
    rintro e w1 ⟨rfl, u1⟩
    have U1 := Lib.hid (HU.out.trans u1)
    clear u1 HC
    by_cases h0 : c = 0
    ·have hR : Hid (R = true) := by show _ = _; rw [HF.out]; exact decide_eq_true h0
     subst h0
     go_wp2_with fail
     go_ret
     exact ⟨by rw [hR.out]; rfl, U1.out⟩
    ·have hR : Hid (R = false) := by show _ = _; rw [HF.out]; exact decide_eq_false h0
     have h0' : ¬ ((c : Nat) : Int) = 0 := by omega
     have h1' : (((c : Nat) : Int) == 0) = false := beq_eq_false_iff_ne.2 h0'
     go_wp2_with fail
     go_ret
     exact ⟨by rw [hR.out]; rfl, U1.out⟩
 ·have hb' : (128 : Int) < ((l.length : Nat) : Int) := by omega
  have HF := Lib.hid (HBIG.out hbig)
  clear HBIG HBAD HEND HCO HIN HX hbig
  go_enter Tryz.func18, Tryz.ntmps18
  go_wp2_with fail
  go_ret
  exact ⟨by rw [HF.out]; rfl, Upd.refl _ _⟩
end Go.Proofs.YtcikldoaidmnhaaGreatDoor
