/- Walks of the reference of the polygon files: wrong. Walks of the reference of the polygon files: Made. The polygon files' texts as plain functions. No condition. -/
import Derived.Test.YtojdgdeefhndiaaGreatDoorM27
import Derived.Deep.DeepCutAuto
import Derived.Deep.RegionHeld3
namespace Go.Proofs.YtojdgdeefhndiaaGreatDoor
open Go Go.RowKit Sp
set_option maxRecDepth 100000

/-- What is wrong with corners. -/
def wrongS (l : List Pt) : Nat := if l.length < 3 then 11 else if 64 < l.length then 2 else if l.all inR then 0 else 3
theorem inR_iff (x y z : Int) : inR (x, y, z) = true ↔ (0 ≤ x ∧ x ≤ 2097151 ∧ 0 ≤ y ∧ y ≤ 2097151 ∧ 0 ≤ z ∧ z ≤ 2097151) := by unfold inR maxCoord; simp
theorem inR_not (x y z : Int) : (decide (min x (min y z) < 0) || decide (2097151 < max x (max y z))) = !inR (x, y, z) := by
  rw [Bool.eq_iff_iff, Bool.or_eq_true, decide_eq_true_eq, decide_eq_true_eq, Bool.not_eq_true', Bool.eq_false_iff, ne_eq, inR_iff]
  omega
set_option maxHeartbeats 800000 in
theorem qwrong_any (pv : Value) (place : Int) (pts : List Pt) (w : World) (h : RdPts w pv pts) :
    Calls Tryz.prog 22 #[.agg #[pv, .int .i64 place]] w fun en w' => en = .returned (.int .i64 (wrongS pts)) ∧ Upd noBlk w w' := by
  obtain ⟨A, cap, rfl, hc⟩ := h
  have HC := Lib.hid hc
  clear hc
  have HU0 : Hid (Upd noBlk w (w.alloc (.cells #[.slice A pts.length cap, .int .i64 place] 43))) := (Upd.refl _ _).alloc _
  have HB0 : Hid ((w.alloc (.cells #[.slice A pts.length cap, .int .i64 place] 43)).heap[w.heap.size]? = some (.cells #[.slice A pts.length cap, .int .i64 place] 43)) := heap_alloc_new _ _
  by_cases h3 : pts.length < 3
  · have hs : Hid (wrongS pts = 11) := by show _ = _; unfold wrongS; rw [if_pos h3]
    have h3' : ((pts.length : Nat) : Int) < 3 := by omega
    clear h3
    go_enter Tryz.func22, Tryz.ntmps22
    go_wp2_with fail
    go_ret
    exact ⟨by rw [hs.out]; rfl, HU0.out⟩
  · by_cases h64 : 64 < pts.length
    · have hs : Hid (wrongS pts = 2) := by show _ = _; unfold wrongS; rw [if_neg h3, if_pos h64]
      have h3' : ¬ ((pts.length : Nat) : Int) < 3 := by omega
      have h64' : (64 : Int) < ((pts.length : Nat) : Int) := by omega
      clear h3 h64
      go_enter Tryz.func22, Tryz.ntmps22
      go_wp2_with fail
      go_ret
      exact ⟨by rw [hs.out]; rfl, HU0.out⟩
    · have hs : Hid (wrongS pts = if pts.all inR then 0 else 3) := by show _ = _; unfold wrongS; rw [if_neg h3, if_neg h64]
      have h3' : ¬ ((pts.length : Nat) : Int) < 3 := by omega
      have h64' : ¬ (64 : Int) < ((pts.length : Nat) : Int) := by omega
      clear h3
      go_enter Tryz.func22, Tryz.ntmps22
      go_wp2_with fail
      go_loopw [3, 4] (fun i _ wr => ∃ k : Nat, i = .int .i64 k ∧ k ≤ pts.length ∧ (pts.take k).all inR = true ∧ Upd noBlk w wr ∧ wr.heap[w.heap.size]? = some (.cells #[.slice A pts.length cap, .int .i64 place] 43)) (fun i _ _ => pts.length - (intOf i).toNat)
      case atStart => exact ⟨0, rfl, Nat.zero_le _, rfl, HU0.out, HB0.out⟩
      case round =>
        obtain ⟨k, rfl, hk, hall, hu, hb⟩ := hrel
        have HALL := Lib.hid hall
        have HU := Lib.hid hu
        have HB := Lib.hid hb
        have c0 : wr.cell? ⟨w.heap.size, 0, none⟩ = some (.slice A pts.length cap) := by simp [World.cell?, hb]
        clear hall hu hb
        by_cases hlt : k < pts.length
        · have hlt' : ((k : Nat) : Int) < ((pts.length : Nat) : Int) := by omega
          obtain ⟨b, off, rfl, ea⟩ := HC.out (by omega)
          obtain ⟨x1, x2, x3⟩ := (ea k hlt).keep HU.out
          have HTK : Hid (pts.take (k + 1) = pts.take k ++ [pts[k]]) := (List.take_append_getElem hlt).symm
          have HMEM : Hid (pts[k] ∈ pts) := List.getElem_mem hlt
          clear ea
          generalize pts[k] = pt at *
          obtain ⟨x, y, z⟩ := pt
          simp only at x1 x2 x3
          go_upto_region 9 with fail
          obtain ⟨w1, hw1⟩ : ∃ v, v = wr.alloc (.cells #[.int .i64 x, .int .i64 y, .int .i64 z] 51) := ⟨_, rfl⟩
          have hb1 : w1.heap[w.heap.size]? = some (.cells #[.slice (some ⟨b, off, none⟩) pts.length cap, .int .i64 place] 43) := by rw [hw1]; exact heap_alloc_keep _ HB.out
          have hq1 : w1.heap[wr.heap.size]? = some (.cells #[.int .i64 x, .int .i64 y, .int .i64 z] 51) := by rw [hw1]; exact heap_alloc_new _ _
          have hu1 : Upd noBlk w w1 := by rw [hw1]; exact HU.out.alloc _
          rw [← hw1]
          clear hw1 x1 x2 x3 c0
          have q0 : w1.cell? ⟨wr.heap.size, 0, none⟩ = some (.int .i64 x) := by simp [World.cell?, hq1]
          have q1 : w1.cell? ⟨wr.heap.size, 1, none⟩ = some (.int .i64 y) := by simp [World.cell?, hq1]
          have q2 : w1.cell? ⟨wr.heap.size, 2, none⟩ = some (.int .i64 z) := by simp [World.cell?, hq1]
          have HB1 := Lib.hid hb1
          have HU1 := Lib.hid hu1
          clear hb1 hq1 hu1
          go_cut [44] (fun t wx => w1 = wx ∧ t = .bool (!inR (x, y, z)))
          case first =>
            go_wp2_with fail
            · go_meet
              case rel => exact ⟨rfl, congrArg Value.bool (inR_not x y z)⟩
            · rename_i hmn
              go_meet
              case rel => exact ⟨rfl, congrArg Value.bool (by rw [← inR_not, decide_eq_true hmn]; rfl)⟩
          case rest =>
            obtain ⟨rfl, rfl⟩ := hcut
            rcases hin : inR (x, y, z) with _ | _
            · go_wp2_with fail
              go_ret
              refine ⟨?_, HU1.out⟩
              rw [hs.out, if_neg (fun h => by have := List.all_eq_true.1 h _ HMEM.out; rw [hin] at this; cases this)]; rfl
            · go_wp2_with fail
              exact ⟨⟨k + 1, by go_num, hlt, by rw [HTK.out, List.all_append, HALL.out]; simp [hin], HU1.out, HB1.out⟩, by simp [intOf]; omega⟩
        · obtain rfl : k = pts.length := by omega
          go_wp2_with fail
          go_ret
          refine ⟨?_, HU.out⟩
          have := HALL.out
          rw [List.take_length] at this
          rw [hs.out, if_pos this]; rfl
end Go.Proofs.YtojdgdeefhndiaaGreatDoor
namespace Go.Proofs.YtojdgdeefhndiaaGreatDoor
open Go Go.RowKit Sp
set_option maxRecDepth 100000

/-- A polygon that can be written. -/
def validP (l : List Pt) : Prop := 3 ≤ l.length ∧ l.length ≤ 64 ∧ l.all inR = true
def goodPs (ps : List Poly) : Prop := ∀ p, p ∈ ps → p.2 = 0 ∧ validP p.1
/-- What Made comes to: at most so many valid polygons. -/
def madeR (w : World) (en : Ending) (w' : World) : Prop := ∃ v ps, en = .returned v ∧ ps.length ≤ 20 ∧ goodPs ps ∧ OwnPolys w.heap.size w' v ps ∧ Upd noBlk w w'
set_option maxHeartbeats 1500000 in
theorem qMade_any (A : Option Addr) (cap : Nat) (l : List Quad) (_hl : l.length ≤ cap) (_hc : cap ≤ maxLen) (w : World) (h : RdQ w A l) :
    Calls Tryz.prog 15 #[.slice A l.length cap] w fun en w' => madeR w en w' := by
  unfold maxLen at _hc
  have H := Lib.hid h
  clear h
  go_enter Tryz.func15, Tryz.ntmps15
  go_wp2_with fail
  go_loopw [3, 4, 5, 6, 7, 8, 9] (fun v i _ _ _ _ _ wr => ∃ ps : List Poly, i = .int .i64 ps.length ∧ ps.length ≤ l.length ∧ ps.length ≤ 20 ∧ goodPs ps ∧ OwnPolys w.heap.size wr v ps ∧ Upd noBlk w wr) (fun _ i _ _ _ _ _ _ => 20 - (intOf i).toNat)
  case atStart => exact ⟨[], rfl, Nat.zero_le _, Nat.zero_le _, fun p hp => (by cases hp), OwnPolys.nil _ _, Upd.refl _ _⟩
  case round =>
    obtain ⟨ps, rfl, hk, hk20, hg, ho, hu⟩ := hrel
    have HG := Lib.hid hg
    have HO := Lib.hid ho
    have HU := Lib.hid hu
    clear hg ho hu
    by_cases hgo : ps.length < l.length ∧ ps.length < 20
    · obtain ⟨hlt, hl20⟩ := hgo
      have hlt' : ((ps.length : Nat) : Int) < ((l.length : Nat) : Int) := by omega
      have hl20' : ((ps.length : Nat) : Int) < 20 := by omega
      obtain ⟨bb, off, rfl, ea⟩ := H.out (by omega)
      obtain ⟨hq, hf⟩ := ea ps.length hlt
      obtain ⟨q0, q1, q2, q3⟩ := hq.keep HU.out
      clear ea hq
      generalize l[ps.length] = q at *
      obtain ⟨x0, x1, x2, x3⟩ := q
      simp only at q0 q1 q2 q3
      have HF := Lib.hid hf
      clear hf
      obtain ⟨m4, hm4⟩ : ∃ m : Nat, x0 % 4 = m := ⟨(x0 % 4).toNat, by omega⟩
      have hm4' : m4 < 4 := by omega
      go_upto_if 31 with (go_at_call 16; refine (Mod_any _ _ (by decide) (by decide) _).mono ?_; rintro e1 w1 ⟨rfl, rfl⟩)
      obtain ⟨w1, hw1⟩ : ∃ x, x = (wr.alloc (.cells #[.int .i64 x0, .int .i64 x1, .int .i64 x2, .int .i64 x3] 53)).alloc (.cells #[.slice none 0 0, .int .i64 0] 43) := ⟨_, rfl⟩
      have hq1 : w1.heap[wr.heap.size]? = some (.cells #[.int .i64 x0, .int .i64 x1, .int .i64 x2, .int .i64 x3] 53) := by rw [hw1]; exact heap_alloc_keep _ (heap_alloc_new _ _)
      have hp1 : w1.heap[wr.heap.size + 1]? = some (.cells #[.slice none 0 0, .int .i64 0] 43) := by rw [hw1]; have := heap_alloc_new (wr.alloc (.cells #[.int .i64 x0, .int .i64 x1, .int .i64 x2, .int .i64 x3] 53)) (.cells #[.slice none 0 0, .int .i64 0] 43); rw [World.size_alloc] at this; exact this
      have hu1 : Upd noBlk wr w1 := by rw [hw1]; exact ((Upd.refl _ _).alloc _).alloc _
      rw [← hw1]
      clear hw1 q0 q1 q2 q3
      have c0 : w1.cell? ⟨wr.heap.size, 0, none⟩ = some (.int .i64 x0) := by simp [World.cell?, hq1]
      have HQ1 := Lib.hid hq1
      have HP1 := Lib.hid hp1
      have HU1 := Lib.hid hu1
      clear hq1 hp1 hu1
      go_cut [7, 31] (fun n _ wx => w1 = wx ∧ ∃ nn : Nat, n = .int .i64 nn ∧ 3 ≤ nn ∧ nn ≤ 64)
      case first =>
        cases h19 : (x0.tmod 19 == 0) with
        | true =>
          obtain ⟨m2, hm2⟩ : ∃ m : Nat, wrap64 (x0.tdiv 19) % 2 = m := ⟨(wrap64 (x0.tdiv 19) % 2).toNat, by omega⟩
          have hm2' : m2 < 2 := by omega
          go_wp2_with (go_at_call 16; refine (Mod_any _ _ (by decide) (by decide) _).mono ?_; rintro e1 w1 ⟨rfl, rfl⟩)
          go_meet
          case rel => exact ⟨rfl, 64 - m2, by go_num, by omega, by omega⟩
        | false =>
          go_wp2_with fail
          go_meet
          case rel => exact ⟨rfl, 3 + m4, by go_num, by omega, by omega⟩
      case rest =>
        obtain ⟨rfl, nn, rfl, hn3, hn64⟩ := hcut
        clear c0
        go_wp2_with fail
        obtain ⟨wo, rfl⟩ : ∃ wo : World, wo = wr := ⟨_, rfl⟩
        go_loopw [8, 9] (fun i _ wr' => ∃ (pts : List Pt) (pv : Value), i = .int .i64 pts.length ∧ pts.length ≤ nn ∧ pts.all inR = true ∧ wr'.heap[wo.heap.size + 1]? = some (.cells #[pv, .int .i64 0] 43) ∧ wr'.heap[wo.heap.size]? = some (.cells #[.int .i64 x0, .int .i64 x1, .int .i64 x2, .int .i64 x3] 53) ∧ OwnPts (wo.heap.size + 2) wr' pv pts ∧ pv.oneCell' = true ∧ Upd noBlk wo wr') (fun i _ _ => nn - (intOf i).toNat)
        case atStart => exact ⟨[], _, rfl, Nat.zero_le _, rfl, HP1.out, HQ1.out, OwnPts.nil _ _, rfl, HU1.out⟩
        case round =>
          obtain ⟨pts, pv, rfl, hj, hall, hp, hq, hop, hpv, hup⟩ := hrel
          have HALL := Lib.hid hall
          have HP := Lib.hid hp
          have HQ := Lib.hid hq
          have HOP := Lib.hid hop
          have HPV := Lib.hid hpv
          have HUP := Lib.hid hup
          clear hall hp hop hpv hup
          by_cases hjn : pts.length < nn
          · have hjn' : ((pts.length : Nat) : Int) < ((nn : Nat) : Int) := by omega
            have c0 : wr.cell? ⟨wo.heap.size, 0, none⟩ = some (.int .i64 x0) := by simp [World.cell?, hq]
            have c1 : wr.cell? ⟨wo.heap.size, 1, none⟩ = some (.int .i64 x1) := by simp [World.cell?, hq]
            have c2 : wr.cell? ⟨wo.heap.size, 2, none⟩ = some (.int .i64 x2) := by simp [World.cell?, hq]
            have c3 : wr.cell? ⟨wo.heap.size, 3, none⟩ = some (.int .i64 x3) := by simp [World.cell?, hq]
            have hlq : wo.heap.size < wr.heap.size := lt_of_heap hq
            clear hq
            go_upto_region 13 with fail
            go_cut [9] (fun c wx => c = .pointer (some ⟨wr.heap.size, 0, none⟩) ∧ ∃ px py pz : Int, inR (px, py, pz) = true ∧ wx.heap[wr.heap.size]? = some (.cells #[.int .i64 px, .int .i64 py, .int .i64 pz] 51) ∧ Upd noBlk wr wx)
            case first =>
              go_region_held3 (fun w' => w'.cell? ⟨wo.heap.size, 1, none⟩ = some (.int .i64 x1) ∧ w'.cell? ⟨wo.heap.size, 2, none⟩ = some (.int .i64 x2) ∧ w'.cell? ⟨wo.heap.size, 3, none⟩ = some (.int .i64 x3))
                (go_keep)
                ((go_at_call 16; refine (Mod_any _ _ (by decide) (by decide) _).mono ?_; rintro e1 w1 ⟨rfl, rfl⟩))
              all_goals
                go_wp2_with fail
                go_meet
                case rel => exact ⟨rfl, _, _, _, (inR_iff _ _ _).2 ⟨by omega, by omega, by omega, by omega, by omega, by omega⟩, heap_alloc_new _ _, ((Upd.refl _ _).alloc _).drew⟩
            case rest =>
              obtain ⟨rfl, px, py, pz, hin, hcb, hu2⟩ := hcut
              obtain ⟨wd, rfl⟩ : ∃ wd : World, wd = wc := ⟨_, rfl⟩
              clear c0 c1 c2 c3
              have hqc := hu2.heap HQ.out id
              have c1 : wd.cell? ⟨wo.heap.size, 1, none⟩ = some (.int .i64 x1) := by simp [World.cell?, hqc]
              have c3 : wd.cell? ⟨wo.heap.size, 3, none⟩ = some (.int .i64 x3) := by simp [World.cell?, hqc]
              have d0 : wd.cell? ⟨wr.heap.size, 0, none⟩ = some (.int .i64 px) := by simp [World.cell?, hcb]
              have z0 : wd.frozen? ⟨wr.heap.size, 0, none⟩ = false := by simp [World.frozen?, hcb]
              have HQC := Lib.hid hqc
              have HCB := Lib.hid hcb
              have HU2 := Lib.hid hu2
              have HIN := Lib.hid hin
              clear hqc hcb hu2 hin
              go_upto_if 68 with fail
              go_cut [68] (fun _ wx => ∃ px py pz : Int, inR (px, py, pz) = true ∧ wx.heap[wr.heap.size]? = some (.cells #[.int .i64 px, .int .i64 py, .int .i64 pz] 51) ∧ Upd noBlk wr wx)
              case first =>
                have hin := (inR_iff _ _ _).1 HIN.out
                obtain ⟨m3, hm3⟩ : ∃ m : Nat, x1 % 3 = m := ⟨(x1 % 3).toNat, by omega⟩
                have hm3' : m3 < 3 := by omega
                cases h7 : ((wrap64 (x3 + (pts.length : Int))).tmod 7 == 0) with
                | true =>
                  go_wp2_with (go_at_call 16; refine (Mod_any _ _ (by decide) (by decide) _).mono ?_; rintro e1 w1 ⟨rfl, rfl⟩)
                  go_meet
                  case rel => exact ⟨2097151 - m3, py, pz, (inR_iff _ _ _).2 ⟨by omega, by omega, hin.2.2⟩, (heap_setCell_eq (i := 0) _ HCB.out).trans rfl, HU2.out.setCell (fun h => absurd h (Nat.lt_irrefl _)) _⟩
                | false =>
                  go_wp2_with fail
                  go_meet
                  case rel => exact ⟨px, py, pz, HIN.out, HCB.out, HU2.out⟩
              case rest =>
                clear c1 c3 d0 z0 HCB HU2 HIN px py pz
                obtain ⟨px, py, pz, hin, hcb, hu2⟩ := hcut
                have k0 : wc.cell? ⟨wr.heap.size, 0, none⟩ = some (.int .i64 px) := by simp [World.cell?, hcb]
                have k1 : wc.cell? ⟨wr.heap.size, 1, none⟩ = some (.int .i64 py) := by simp [World.cell?, hcb]
                have k2 : wc.cell? ⟨wr.heap.size, 2, none⟩ = some (.int .i64 pz) := by simp [World.cell?, hcb]
                have hPB3 : wc.heap[wo.heap.size + 1]? = some (.cells #[pv, .int .i64 0] 43) := hu2.heap HP.out id
                have hcp : wc.cell? ⟨wo.heap.size + 1, 0, none⟩ = some pv := by simp [World.cell?, hPB3]
                have hOP : OwnPts (wo.heap.size + 2) wc pv pts := HOP.out.upd hu2
                have hlp := lt_of_heap HP.out
                have hszo : wo.heap.size + 2 ≤ wc.heap.size := by have := hu2.size; omega
                obtain ⟨g, cap', w5, r5, o5, v5, _⟩ := append_ptB hszo hOP (px, py, pz) (by omega)
                have hPB5 : w5.heap[wo.heap.size + 1]? = some (.cells #[pv, .int .i64 0] 43) := v5.heap hPB3 (OwnPts.not_blk hOP hPB3 (by decide))
                have hQ5 : w5.heap[wo.heap.size]? = some (.cells #[.int .i64 x0, .int .i64 x1, .int .i64 x2, .int .i64 x3] 53) := v5.heap (hu2.heap HQ.out id) (OwnPts.not_blk hOP (hu2.heap HQ.out id) (by decide))
                have hpc : w5.cell? ⟨wo.heap.size + 1, 0, none⟩ = some pv := by simp [World.cell?, hPB5]
                have hpz : w5.frozen? ⟨wo.heap.size + 1, 0, none⟩ = false := by simp [World.frozen?, hPB5]
                have hU5 : Upd noBlk wo w5 := (HUP.out.trans hu2).then v5 (fun i hi e => by have := (hOP.lt _ e).1; omega)
                have HU5 := Lib.hid hU5
                have HP5 := Lib.hid hPB5
                have HQ5 := Lib.hid hQ5
                have O5 := Lib.hid o5
                have R5 := Lib.hid r5
                have HIN := Lib.hid hin
                clear hPB3 hOP r5 o5 v5 hPB5 hQ5 hU5 hcb hu2 hin
                go_wp2_with (at_builtin; refine wpList_append_run rfl _ _ _ rfl rfl rfl R5.out ?_)
                refine ⟨⟨pts ++ [(px, py, pz)], .slice (some ⟨g, 0, none⟩) (pts.length + 1) cap', by rw [List.length_append]; go_num, by rw [List.length_append]; exact hjn, by rw [List.all_append, HALL.out]; simp [HIN.out], ?_, ?_, ?_, rfl, HU5.out.setCell (fun h => by simp only at h; omega) _⟩, by simp [intOf]; omega⟩
                · rw [heap_setCell_eq _ HP5.out]; rfl
                · exact heap_setCell_ne _ HQ5.out (by omega)
                · exact ownsRow_setCell_other O5.out (OwnPts.not_blk O5.out HP5.out (by decide)) _
          · obtain rfl : pts.length = nn := by omega
            have hP3 := HP.out
            have hlp := lt_of_heap HP.out
            have k0 : wr.cell? ⟨wo.heap.size + 1, 0, none⟩ = some pv := by simp [World.cell?, hP3]
            have k1 : wr.cell? ⟨wo.heap.size + 1, 1, none⟩ = some (.int .i64 0) := by simp [World.cell?, hP3]
            have hUw := HU.out.trans HUP.out
            have hO2 : OwnPolys w.heap.size wr u3 ps := HO.out.upd HUP.out
            have hP2 : OwnPts w.heap.size wr pv pts := ownsRow_base HOP.out (by have := HU.out.size; omega)
            obtain ⟨g, cap', w6, r6, o6, u6, v6⟩ := append_poly (q := (pts, 0)) hUw hO2 hP2 (by omega) HPV.out
            have HNX : Hid (goodPs (ps ++ [(pts, 0)])) := fun p hp => by
              rw [List.mem_append, List.mem_singleton] at hp
              rcases hp with hp | rfl
              · exact HG.out p hp
              · exact ⟨rfl, hn3, hn64, HALL.out⟩
            obtain ⟨Av, cv, hv⟩ := hO2.len
            subst hv
            have R6 := Lib.hid r6
            have O6 := Lib.hid o6
            have U6 := Lib.hid u6
            clear hP3 hUw hO2 hP2 r6 o6 u6 v6 hq
            go_wp2_with (at_builtin; refine wpList_append_run rfl _ _ _ rfl rfl rfl R6.out ?_)
            exact ⟨⟨ps ++ [(pts, 0)], by rw [List.length_append]; go_num, by rw [List.length_append]; exact hlt, by rw [List.length_append]; exact hl20, HNX.out, O6.out, U6.out⟩, by simp [intOf]; omega⟩
    · by_cases hlt : ps.length < l.length
      · have hlt' : ((ps.length : Nat) : Int) < ((l.length : Nat) : Int) := by omega
        have hl20' : ¬ ((ps.length : Nat) : Int) < 20 := by omega
        obtain ⟨Av, cv, rfl⟩ := HO.out.len
        go_wp2_with fail
        go_ret
        exact ⟨_, ps, rfl, hk20, HG.out, HO.out, HU.out⟩
      · have hlt' : ¬ ((ps.length : Nat) : Int) < ((l.length : Nat) : Int) := by omega
        obtain ⟨Av, cv, rfl⟩ := HO.out.len
        go_wp2_with fail
        go_ret
        exact ⟨_, ps, rfl, hk20, HG.out, HO.out, HU.out⟩
end Go.Proofs.YtojdgdeefhndiaaGreatDoor
namespace Go.Proofs.YtojdgdeefhndiaaGreatDoor
open Go Go.RowKit Sp

theorem bs_append (a b : Bytes) : bs a ++ bs b = bs (a ++ b) := by apply ByteArray.ext; simp [bs]
/-- The first error of polygons. -/
def firstWrong : List Poly → Nat
  | [] => 0
  | p :: r => if wrongS p.1 = 0 then firstWrong r else wrongS p.1
theorem wrongS_valid {l : List Pt} (h : validP l) : wrongS l = 0 := by
  obtain ⟨h1, h2, h3⟩ := h
  unfold wrongS; rw [if_neg (by omega), if_neg (by omega), if_pos h3]
theorem valid_wrongS {l : List Pt} (h : wrongS l = 0) : validP l := by
  unfold wrongS at h
  split at h
  · omega
  · split at h
    · omega
    · split at h
      · rename_i h1 h2 h3; exact ⟨by omega, by omega, h3⟩
      · omega
theorem firstWrong_good : ∀ {ps : List Poly}, (∀ p, p ∈ ps → validP p.1) → firstWrong ps = 0
  | [], _ => rfl
  | p :: r, h => by rw [firstWrong, if_pos (wrongS_valid (h p (by simp)))]; exact firstWrong_good (fun q hq => h q (by simp [hq]))
theorem good_firstWrong : ∀ {ps : List Poly}, firstWrong ps = 0 → ∀ p, p ∈ ps → validP p.1
  | p :: r, h, q, hq => by
    rw [firstWrong] at h
    split at h
    · rename_i h1
      rw [List.mem_cons] at hq
      rcases hq with rfl | hq
      · exact valid_wrongS h1
      · exact good_firstWrong h q hq
    · rename_i h1; exact absurd h h1
/-- A corner, a polygon, polygons in form 3. -/
def ptB (p : Pt) : Bytes := leB 3 p.1.toNat ++ leB 3 p.2.1.toNat ++ leB 3 p.2.2.toNat
def ptsB (l : List Pt) : Bytes := l.flatMap ptB
def polyB (p : Poly) : Bytes := leB 1 p.1.length ++ ptsB p.1
def bodyB (ps : List Poly) : Bytes := ps.flatMap polyB
def write3 (ps : List Poly) : Bytes := magic ++ leB 4 ps.length ++ bodyB ps
theorem ptB_length (p : Pt) : (ptB p).length = 9 := by simp [ptB, leB_length]
theorem ptsB_length (l : List Pt) : (ptsB l).length = 9 * l.length := by
  induction l with
  | nil => rfl
  | cons a r ih =>
    have e : ptsB (a :: r) = ptB a ++ ptsB r := rfl
    rw [e, List.length_append, ptB_length, ih, List.length_cons]; omega
theorem bodyB_length : ∀ (ps : List Poly), (∀ p, p ∈ ps → validP p.1) → (bodyB ps).length ≤ 577 * ps.length
  | [], _ => Nat.le_refl _
  | p :: r, h => by
    have e : bodyB (p :: r) = polyB p ++ bodyB r := rfl
    have h1 := bodyB_length r (fun q hq => h q (by simp [hq]))
    have h2 := (h p (by simp)).2.1
    rw [e, List.length_append, polyB, List.length_append, leB_length, ptsB_length, List.length_cons]; omega
theorem write3_length (ps : List Poly) (h : ∀ p, p ∈ ps → validP p.1) : 8 ≤ (write3 ps).length ∧ (write3 ps).length ≤ 8 + 577 * ps.length := by
  have := bodyB_length ps h
  unfold write3
  rw [List.length_append, List.length_append, leB_length]
  have : magic.length = 4 := rfl
  omega
theorem bodyB_drop {ps : List Poly} {k : Nat} (h : k < ps.length) : bodyB (ps.drop k) = polyB ps[k] ++ bodyB (ps.drop (k + 1)) := by
  rw [List.drop_eq_getElem_cons h]; rfl
theorem ptsB_drop {l : List Pt} {k : Nat} (h : k < l.length) : ptsB (l.drop k) = ptB l[k] ++ ptsB (l.drop (k + 1)) := by
  rw [List.drop_eq_getElem_cons h]; rfl
theorem firstWrong_drop {ps : List Poly} {k : Nat} (h : k < ps.length) (h0 : wrongS ps[k].1 = 0) : firstWrong (ps.drop k) = firstWrong (ps.drop (k + 1)) := by
  rw [List.drop_eq_getElem_cons h, firstWrong, if_pos h0]
theorem firstWrong_at {ps : List Poly} {k : Nat} (h : k < ps.length) (h0 : wrongS ps[k].1 ≠ 0) : firstWrong (ps.drop k) = wrongS ps[k].1 := by
  rw [List.drop_eq_getElem_cons h, firstWrong, if_neg h0]
/-- What Write comes to. -/
def writeR (s : Bytes) (e : Nat) (w : World) (en : Ending) (w' : World) : Prop := en = .returned (.tuple #[.string (bs s), .int .i64 e]) ∧ Upd noBlk w w'
end Go.Proofs.YtojdgdeefhndiaaGreatDoor
