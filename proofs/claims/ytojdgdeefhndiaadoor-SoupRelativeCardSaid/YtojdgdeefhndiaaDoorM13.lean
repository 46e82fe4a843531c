/- Plain laws of the third form's numbers. No condition. Walks of the program of the polygon files: binary. -/
import Derived.Test.YtojdgdeefhndiaaDoorM11
import Derived.Test.YtojdgdeefhndiaaDoorM8
import Derived.Outline
namespace Go.Proofs.YtojdgdeefhndiaaDoor
open Go Go.RowKit Sp
namespace Sp
inductive L where
  | ok (l : List Nat)
  | bad (place e : Nat)
/-- k coordinates, one after the other. -/
def numsB (s : Bytes) : Nat → Nat → List Nat → L
  | _, 0, acc => .ok acc
  | at_, k + 1, acc => match numS s at_ 3 2097151 3 with
    | .bad p e => .bad p e
    | .ok x => numsB s (at_ + 3) k (acc ++ [x])
theorem cornersB_bad {s : Bytes} {at_ k : Nat} {acc : List Pt} {p e : Nat} (h : numsB s at_ 3 [] = .bad p e) : cornersB s at_ (k + 1) acc = .bad p e := by
  unfold cornersB
  unfold numsB at h
  split at h
  · rename_i h1; rw [h1]; cases h; rfl
  · rename_i x h1
    rw [h1]
    unfold numsB at h
    split at h
    · rename_i h2; simp only [h2]; cases h; rfl
    · rename_i y h2
      simp only [h2]
      unfold numsB at h
      split at h
      · rename_i h3; simp only [Nat.add_assoc] at h3; simp only [h3]; cases h; rfl
      · unfold numsB at h; cases h
theorem cornersB_ok {s : Bytes} {at_ k : Nat} {acc : List Pt} {x y z : Nat} (h : numsB s at_ 3 [] = .ok [x, y, z]) : cornersB s at_ (k + 1) acc = cornersB s (at_ + 9) k (acc ++ [((x : Int), (y : Int), (z : Int))]) := by
  rw [cornersB]
  unfold numsB at h
  split at h
  · cases h
  · rename_i x' h1
    rw [h1]
    unfold numsB at h
    split at h
    · cases h
    · rename_i y' h2
      simp only [h2]
      unfold numsB at h
      split at h
      · cases h
      · rename_i z' h3
        simp only [Nat.add_assoc] at h3
        simp only [h3]
        unfold numsB at h
        cases h
        rfl
theorem numS_ok {s : Bytes} {p n most e v : Nat} (h : numS s p n most e = .ok v) : p + n ≤ s.length ∧ v ≤ most := by
  unfold numS at h
  split at h
  · cases h
  · split at h
    · cases h
    · cases h; omega
theorem polysB_short {s : Bytes} {at_ k : Nat} {acc : List Poly} {p e : Nat} (h : numS s at_ 1 64 2 = .bad p e) : polysB s at_ (k + 1) acc = .bad p e := by rw [polysB, h]
theorem polysB_few {s : Bytes} {at_ k : Nat} {acc : List Poly} {n : Nat} (h : numS s at_ 1 64 2 = .ok n) (hn : n < 3) : polysB s at_ (k + 1) acc = .bad at_ 11 := by rw [polysB, h]; simp only; rw [if_pos hn]
theorem polysB_bad {s : Bytes} {at_ k : Nat} {acc : List Poly} {n p e : Nat} (h : numS s at_ 1 64 2 = .ok n) (hn : ¬ n < 3) (hc : cornersB s (at_ + 1) n [] = .bad p e) : polysB s at_ (k + 1) acc = .bad p e := by
  rw [polysB, h]; simp only; rw [if_neg hn, hc]
theorem polysB_ok {s : Bytes} {at_ k : Nat} {acc : List Poly} {n : Nat} {l : List Pt} (h : numS s at_ 1 64 2 = .ok n) (hn : ¬ n < 3) (hc : cornersB s (at_ + 1) n [] = .ok l) : polysB s at_ (k + 1) acc = polysB s (at_ + 1 + 9 * n) k (acc ++ [(l, at_)]) := by
  rw [polysB, h]; simp only; rw [if_neg hn, hc]
theorem numsB_bad {s : Bytes} {at_ k : Nat} {acc : List Nat} {p e : Nat} (h : numS s at_ 3 2097151 3 = .bad p e) : numsB s at_ (k + 1) acc = .bad p e := by rw [numsB, h]
theorem numsB_ok {s : Bytes} {at_ k : Nat} {acc : List Nat} {x : Nat} (h : numS s at_ 3 2097151 3 = .ok x) : numsB s at_ (k + 1) acc = numsB s (at_ + 3) k (acc ++ [x]) := by rw [numsB, h]
end Sp
def c3 (xs : List Nat) : Array Value := #[.int .i64 (xs.getD 0 0 : Nat), .int .i64 (xs.getD 1 0 : Nat), .int .i64 (xs.getD 2 0 : Nat)]
theorem c3_snoc {xs : List Nat} (h : xs.length < 3) (x : Nat) : (c3 xs).setIfInBounds xs.length (.int .i64 (x : Int)) = c3 (xs ++ [x]) := by
  match xs, h with
  | [], _ => rfl
  | [a], _ => rfl
  | [a, b], _ => rfl
theorem c3_get {xs : List Nat} (h : xs.length < 3) : ∃ u, (c3 xs)[xs.length]? = some u := by
  match xs, h with
  | [], _ => exact ⟨_, rfl⟩
  | [a], _ => exact ⟨_, rfl⟩
  | [a, b], _ => exact ⟨_, rfl⟩
theorem Upd.toTwo {F G : Nat → Prop} {w w' : World} (h : Upd F w w') (hg : ∀ k, F k → k < w.heap.size → G k) : Upd G w w' := h.mono (fun k hk hf => hg k hf hk)
end Go.Proofs.YtojdgdeefhndiaaDoor
namespace Go.Proofs.YtojdgdeefhndiaaDoor
open Go Go.RowKit Sp
set_option maxRecDepth 100000

def rdO (s : Bytes) (p : Nat) : Obj := .cells #[.string (bs s), .int .i64 p] 55 (0, 0)
set_option maxHeartbeats 400000 in
theorem binary_any (s : Bytes) (hs : s.length ≤ 4294967296) (hm : 4 ≤ s.length) (w : World) :
    Calls Tryd.prog 12 #[.string (bs s)] w fun en w' => polysQ (threeS s) w en w' := by
  have hnum := number_any s 4 4 65536 2 w.heap.size 55 hs hm (by omega) (w.alloc (rdO s 4)) (heap_alloc_new _ _)
  have hn' : Calls Tryd.prog 20 #[.pointer (some ⟨w.heap.size, 0, none⟩), .int .i64 4, .int .i64 65536, .int .i64 2] (w.alloc (.cells #[.string (bs s), .int .i64 4] 55)) fun en w' => numQ (numS s 4 4 65536 2) w.heap.size 55 s 4 4 (w.alloc (rdO s 4)) en w' := hnum
  have HN := Lib.hid hn'
  clear hnum hn'
  go_enter Tryd.func12, Tryd.ntmps12
  go_wp2_with fail
  refine HN.out.mono ?_
  rcases hr : numS s 4 4 65536 2 with many | ⟨p, e⟩
  · obtain ⟨hm1, hm2⟩ := numS_ok hr
    have h3 : Hid (threeS s = polysB s 8 many []) := by show _ = _; unfold threeS; rw [hr]
    rintro e w1 ⟨rfl, u1, b1⟩
    have U1 : Hid (Upd noBlk w w1) := ((Upd.refl noBlk w).alloc _).then u1 (fun i hi e => by omega)
    have B1 : Hid (w1.heap[w.heap.size]? = some (rdO s 8)) := b1
    clear u1 b1 hr HN
    go_wp2_with fail
    go_loopw [3, 7, 8, 9, 10, 11, 21] (fun v _ _ _ _ _ i wr => ∃ (k at_ : Nat) (acc : List Poly), i = .int .i64 k ∧ k ≤ many ∧ at_ ≤ s.length ∧ acc.length = k ∧ threeS s = polysB s at_ (many - k) acc ∧ OwnPolys w.heap.size wr v acc ∧ Upd noBlk w wr ∧ wr.heap[w.heap.size]? = some (rdO s at_)) (fun _ _ _ _ _ _ i _ => many - (intOf i).toNat)
    case atStart => exact ⟨0, 8, [], rfl, Nat.zero_le _, hm1, rfl, h3.out, OwnPolys.nil _ _, U1.out, B1.out⟩
    case round =>
      obtain ⟨k, at_, acc, rfl, hk, hat, hacc, hspec, hown, hup, hblk⟩ := hrel
      have HA := Lib.hid hacc
      have HS := Lib.hid hspec
      have HO := Lib.hid hown
      have HU := Lib.hid hup
      have HB := Lib.hid hblk
      clear hacc hspec hown hup hblk h3 U1 B1
      by_cases hlt : k < many
      · have hlt' : ((k : Nat) : Int) < ((many : Nat) : Int) := by omega
        have hn1 : Calls Tryd.prog 20 #[.pointer (some ⟨w.heap.size, 0, none⟩), .int .i64 1, .int .i64 64, .int .i64 2] wr fun en w' => numQ (numS s at_ 1 64 2) w.heap.size 55 s at_ 1 wr en w' := number_any s at_ 1 64 2 w.heap.size 55 hs hat (by omega) wr HB.out
        have HN1 := Lib.hid hn1
        clear hn1
        have hstep : Hid (many - k = (many - (k + 1)) + 1) := by show _ = _; omega
        go_wp2_with fail
        refine HN1.out.mono ?_
        rcases hr : numS s at_ 1 64 2 with n | ⟨p, e⟩
        · rintro e w2 ⟨rfl, u2, b2⟩
          obtain ⟨hn1, hn2⟩ := numS_ok hr
          by_cases hn3 : n < 3
          · have h4 : Hid (threeS s = .bad at_ 11) := by show _ = _; rw [HS.out, hstep.out]; exact polysB_few hr hn3
            have hd : decide ((n : Int) ≥ 3) = false := by simp; omega
            have U2 : Hid (Upd noBlk w w2) := HU.out.then u2 (fun i hi e => by omega)
            clear hr u2 b2 HN1
            go_wp2_with fail
            refine (check_bad _ _ _).mono ?_
            rintro e w3 ⟨rfl, rfl⟩
            refine ⟨rfl, ?_⟩
            show polysQ (threeS s) w _ _
            rw [h4.out]
            exact ⟨rfl, U2.out⟩
          · have h4 : Hid (∀ p e, cornersB s (at_ + 1) n [] = .bad p e → threeS s = .bad p e) := fun p e hc => by rw [HS.out, hstep.out]; exact polysB_bad hr hn3 hc
            have h5 : Hid (∀ l, cornersB s (at_ + 1) n [] = .ok l → threeS s = polysB s (at_ + 1 + 9 * n) (many - (k + 1)) (acc ++ [(l, at_)])) := fun l hc => by rw [HS.out, hstep.out]; exact polysB_ok hr hn3 hc
            have hd : decide ((n : Int) ≥ 3) = true := by simp; omega
            have UR2 := Lib.hid u2
            have B2 : Hid (w2.heap[w.heap.size]? = some (rdO s (at_ + 1))) := b2
            have OP2 : Hid (OwnPolys w.heap.size w2 u3 acc) := HO.out.other u2 (fun k hk _ => by subst hk; exact ⟨_, _, _, HB.out, by decide, by decide⟩)
            have U2 : Hid (Upd noBlk w w2) := HU.out.then u2 (fun i hi e => by omega)
            have hsz : Hid (w.heap.size < w2.heap.size) := lt_of_heap b2
            clear hr u2 b2 HN1 HB
            go_wp2_with fail
            refine (check_ok _ _ _).mono ?_
            rintro e w3 ⟨rfl, rfl⟩
            go_wp2_with fail
            obtain ⟨wo, rfl⟩ : ∃ wo : World, wo = wr := ⟨_, rfl⟩
            go_loopw [10, 11, 35] (fun _ _ i wr => ∃ (j at2 : Nat) (pts : List Pt) (pv : Value), i = .int .i64 j ∧ j ≤ n ∧ at2 = at_ + 1 + 9 * j ∧ at2 ≤ s.length ∧ pts.length = j ∧ cornersB s (at_ + 1) n [] = cornersB s at2 (n - j) pts ∧ pv.oneCell' = true ∧ OwnPts w2.heap.size wr pv pts ∧ Upd (fun k => k = w.heap.size) w2 wr ∧ wr.heap[w.heap.size]? = some (rdO s at2) ∧ wr.heap[w2.heap.size]? = some (.cells #[pv, .int .i64 at_] 32 (0, 0))) (fun _ _ i _ => n - (intOf i).toNat)
            case atStart => exact ⟨0, at_ + 1, [], .slice none 0 0, rfl, Nat.zero_le _, rfl, hn1, rfl, rfl, rfl, OwnPts.nil _ _, ((Upd.refl _ _).alloc _), Upd.heap (F := noBlk) ((Upd.refl _ _).alloc _) B2.out id, heap_alloc_new _ _⟩
            case round =>
              obtain ⟨j, at2, pts, pv, rfl, hj, ha2, hat2, hpl, hcs, hpv, hown, hup, hblk, hpb⟩ := hrel
              have HA2 := Lib.hid ha2
              have HPL := Lib.hid hpl
              have HCS := Lib.hid hcs
              have HPV := Lib.hid hpv
              have HOP := Lib.hid hown
              have HUP := Lib.hid hup
              have HBK := Lib.hid hblk
              have HPB := Lib.hid hpb
              clear ha2 hpl hcs hpv hown hup hblk hpb
              by_cases hjn : j < n
              · have hjn' : ((j : Nat) : Int) < ((n : Nat) : Int) := by omega
                have hstep2 : Hid (n - j = (n - (j + 1)) + 1) := by show _ = _; omega
                obtain ⟨wm, rfl⟩ : ∃ wm : World, wm = wr := ⟨_, rfl⟩
                have hszm : Hid (w2.heap.size < wm.heap.size) := lt_of_heap HPB.out
                go_wp2_with fail
                go_loopw [11, 37] (fun _ i wr => ∃ xs : List Nat, i = .int .i64 xs.length ∧ xs.length ≤ 3 ∧ at2 + 3 * xs.length ≤ s.length ∧ numsB s at2 3 [] = numsB s (at2 + 3 * xs.length) (3 - xs.length) xs ∧ Upd (fun k => k = w.heap.size) wm wr ∧ wr.heap[w.heap.size]? = some (rdO s (at2 + 3 * xs.length)) ∧ wr.heap[wm.heap.size]? = some (.cells (c3 xs) 59 (0, 0))) (fun _ i _ => 3 - (intOf i).toNat)
                case atStart => exact ⟨[], rfl, Nat.zero_le _, hat2, rfl, ((Upd.refl _ _).alloc _), Upd.heap (F := noBlk) ((Upd.refl _ _).alloc _) HBK.out id, heap_alloc_new _ _⟩
                case round =>
                  obtain ⟨xs, rfl, hx3, hat3, hns, hup, hblk, hcb⟩ := hrel
                  have HNS := Lib.hid hns
                  have HU3 := Lib.hid hup
                  have HB3 := Lib.hid hblk
                  have HC3 := Lib.hid hcb
                  clear hns hup hblk hcb
                  by_cases hxl : xs.length < 3
                  · have hxl' : ((xs.length : Nat) : Int) < 3 := by omega
                    have hstep3 : Hid (3 - xs.length = (3 - (xs.length + 1)) + 1) := by show _ = _; omega
                    have hn2 : Calls Tryd.prog 20 #[.pointer (some ⟨w.heap.size, 0, none⟩), .int .i64 3, .int .i64 2097151, .int .i64 3] wr fun en w' => numQ (numS s (at2 + 3 * xs.length) 3 2097151 3) w.heap.size 55 s (at2 + 3 * xs.length) 3 wr en w' := number_any s (at2 + 3 * xs.length) 3 2097151 3 w.heap.size 55 hs hat3 (by omega) wr HB3.out
                    have HN2 := Lib.hid hn2
                    clear hn2
                    go_wp2_with fail
                    refine HN2.out.mono ?_
                    rcases hr2 : numS s (at2 + 3 * xs.length) 3 2097151 3 with x | ⟨p, e⟩
                    · rintro e w4 ⟨rfl, u4, b4⟩
                      obtain ⟨hq1, hq2⟩ := numS_ok hr2
                      have hne : Hid (wm.heap.size ≠ w.heap.size) := by show _ ≠ _; have := hsz.out; have := hszm.out; omega
                      have hC4 := u4.heap HC3.out hne.out
                      obtain ⟨u, hu⟩ := c3_get hxl
                      have cc : w4.cell? ⟨wm.heap.size, xs.length, none⟩ = some u := by simp only [World.cell?, hC4]; exact hu
                      have zz : w4.frozen? ⟨wm.heap.size, xs.length, none⟩ = false := by simp [World.frozen?, hC4]
                      have H4 := Lib.hid hC4
                      have HR2 := Lib.hid hr2
                      have U4 := Lib.hid (HU3.out.trans u4)
                      have B4 := Lib.hid b4
                      have h01 : (0 : Int) ≤ ((xs.length : Nat) : Int) := by omega
                      clear hC4 hu hr2 u4 b4 HN2
                      go_wp2_with fail
                      refine ⟨⟨xs ++ [x], by rw [List.length_append]; go_num, by rw [List.length_append]; exact hxl, by rw [List.length_append]; show at2 + 3 * (xs.length + 1) ≤ _; omega, ?_, U4.out.setCell (fun h => absurd h (Nat.lt_irrefl _)) _, ?_, ?_⟩, by simp [intOf]; omega⟩
                      · rw [HNS.out, hstep3.out, numsB_ok HR2.out, List.length_append]; rfl
                      · rw [heap_setCell_ne _ B4.out (Ne.symm hne.out), List.length_append]; rfl
                      · rw [heap_setCell_eq _ H4.out, c3_snoc hxl]
                    · rintro e w4 ⟨rfl, u4⟩
                      have h6 : Hid (threeS s = .bad p e) := h4.out p e (by rw [HCS.out, hstep2.out]; exact cornersB_bad (by rw [HNS.out, hstep3.out]; exact numsB_bad hr2))
                      refine ⟨rfl, ?_⟩
                      show polysQ (threeS s) w _ _
                      rw [h6.out]
                      exact ⟨rfl, U2.out.then ((HUP.out.trans (HU3.out.then (F := fun k => k = w.heap.size) (G := fun k => k = w.heap.size) (Upd.refl _ _) (fun _ _ h => h))).trans (u4.mono (fun _ _ h => h.elim))) (fun i hi e => by omega)⟩
                  · obtain ⟨x, y, z, rfl⟩ : ∃ x y z, xs = [x, y, z] := by
                      match xs, hx3, hxl with
                      | [x, y, z], _, _ => exact ⟨x, y, z, rfl⟩
                      | [], _, h => exact absurd (by simp) h
                      | [_], _, h => exact absurd (by simp) h
                      | [_, _], _, h => exact absurd (by simp) h
                      | _ :: _ :: _ :: _ :: _, h, _ => simp at h
                    have hc2 : Hid (cornersB s (at_ + 1) n [] = cornersB s (at2 + 9) (n - (j + 1)) (pts ++ [((x : Int), (y : Int), (z : Int))])) := by show _ = _; rw [HCS.out, hstep2.out]; exact cornersB_ok (by rw [HNS.out]; rfl)
                    have k0 : wr.cell? ⟨wm.heap.size, 0, none⟩ = some (.int .i64 (x : Nat)) := by simp [World.cell?, HC3.out, c3]
                    have k1 : wr.cell? ⟨wm.heap.size, 1, none⟩ = some (.int .i64 (y : Nat)) := by simp [World.cell?, HC3.out, c3]
                    have k2 : wr.cell? ⟨wm.heap.size, 2, none⟩ = some (.int .i64 (z : Nat)) := by simp [World.cell?, HC3.out, c3]
                    have hPB3 : wr.heap[w2.heap.size]? = some (.cells #[pv, .int .i64 at_] 32 (0, 0)) := HU3.out.heap HPB.out (by have := hsz.out; omega)
                    have hcp : wr.cell? ⟨w2.heap.size, 0, none⟩ = some pv := by simp [World.cell?, hPB3]
                    have hU23 : Upd (fun k => k = w.heap.size) w2 wr := HUP.out.trans HU3.out
                    have hOP : OwnPts w2.heap.size wr pv pts := ownsRow_other HOP.out HU3.out (fun k hk _ => by subst hk; exact ⟨_, _, _, HBK.out, by decide⟩)
                    obtain ⟨g, cap, w5, r5, o5, u5, v5, _⟩ := append_pt hU23 hOP ((x : Int), (y : Int), (z : Int)) (by rw [HPL.out]; omega)
                    have hPB5 : w5.heap[w2.heap.size]? = some (.cells #[pv, .int .i64 at_] 32 (0, 0)) := v5.heap hPB3 (OwnPts.not_blk hOP hPB3 (by decide))
                    have hR5 : w5.heap[w.heap.size]? = some (rdO s (at2 + 3 * [x, y, z].length)) := v5.heap HB3.out (OwnPts.not_blk hOP HB3.out (by decide))
                    have hpc : w5.cell? ⟨w2.heap.size, 0, none⟩ = some pv := by simp [World.cell?, hPB5]
                    have hpz : w5.frozen? ⟨w2.heap.size, 0, none⟩ = false := by simp [World.frozen?, hPB5]
                    have hU5 := Lib.hid u5
                    have HP5 := Lib.hid hPB5
                    have HR5 := Lib.hid hR5
                    have O5 := Lib.hid o5
                    have R5 := Lib.hid r5
                    clear hxl hPB3 hU23 hOP r5 o5 u5 v5 hPB5 hR5
                    go_wp2_with (at_builtin; refine wpList_append_run rfl _ _ _ rfl rfl rfl R5.out ?_)
                    have hne2 : Hid (w.heap.size ≠ w2.heap.size) := by show _ ≠ _; have := hsz.out; omega
                    refine ⟨⟨j + 1, at2 + 9, pts ++ [((x : Int), (y : Int), (z : Int))], .slice (some ⟨g, 0, none⟩) (pts.length + 1) cap, by go_num, hjn, by rw [HA2.out]; omega, hat3, by rw [List.length_append, HPL.out]; rfl, hc2.out, rfl, ?_, hU5.out.setCell (fun h => absurd h (Nat.lt_irrefl _)) _, ?_, ?_⟩, by simp [intOf]; omega⟩
                    · exact ownsRow_setCell_other O5.out (OwnPts.not_blk O5.out HP5.out (by decide)) _
                    · rw [heap_setCell_ne _ HR5.out hne2.out]; rfl
                    · rw [heap_setCell_eq _ HP5.out]; rfl
              · obtain rfl : j = n := by omega
                have h6 : Hid (threeS s = polysB s at2 (many - (k + 1)) (acc ++ [(pts, at_)])) := by
                  have := h5.out pts (by rw [HCS.out, Nat.sub_self]; rfl)
                  show _ = _
                  rw [this, HA2.out]
                have hO : OwnPolys w.heap.size wr u3 acc := OP2.out.other HUP.out (fun k hk _ => by subst hk; exact ⟨_, _, _, B2.out, by decide, by decide⟩)
                have hUw : Upd noBlk w wr := U2.out.then HUP.out (fun i hi e => by omega)
                obtain ⟨g, cap, w6, r6, o6, u6, v6⟩ := append_poly (q := (pts, at_)) hUw hO (ownsRow_base HOP.out (by have := hsz.out; omega)) (by rw [HA.out]; omega) HPV.out
                have hR6 := v6.heap HBK.out (OwnPolys.not_blk hO HBK.out (by decide))
                have hp0 : wr.cell? ⟨w2.heap.size, 0, none⟩ = some pv := by simp [World.cell?, HPB.out]
                have hp1 : wr.cell? ⟨w2.heap.size, 1, none⟩ = some (.int .i64 at_) := by simp [World.cell?, HPB.out]
                obtain ⟨A, cp, hv⟩ := hO.len
                have O6 := Lib.hid o6
                have U6 := Lib.hid u6
                have R6 := Lib.hid r6
                have HR6 := Lib.hid hR6
                clear hO hUw r6 o6 u6 v6 hR6 hv
                go_wp2_with (at_builtin; refine wpList_append_run rfl _ _ _ rfl rfl rfl R6.out ?_)
                refine ⟨⟨k + 1, at2, acc ++ [(pts, at_)], by go_num, hlt, hat2, by rw [List.length_append, HA.out]; rfl, h6.out, O6.out, U6.out, HR6.out⟩, by simp [intOf]; omega⟩
        · have h4 : Hid (threeS s = .bad p e) := by show _ = _; rw [HS.out, hstep.out]; exact polysB_short hr
          rintro e w2 ⟨rfl, u2⟩
          refine ⟨rfl, ?_⟩
          show polysQ (threeS s) w _ _
          rw [h4.out]
          exact ⟨rfl, HU.out.trans u2⟩
      · obtain rfl : k = many := by omega
        have c0 : wr.cell? ⟨w.heap.size, 0, none⟩ = some (.string (bs s)) := by simp [World.cell?, HB.out, rdO]
        have c1 : wr.cell? ⟨w.heap.size, 1, none⟩ = some (.int .i64 at_) := by simp [World.cell?, HB.out, rdO]
        have C0 := Lib.hid c0
        have C1 := Lib.hid c1
        have hb : (bs s).size = s.length := bs_size s
        clear c0 c1 hlt
        by_cases he : at_ = s.length
        · have h6 : Hid (threeS s = .ok acc) := by show _ = _; rw [HS.out, Nat.sub_self]; unfold polysB; rw [if_pos he]
          go_wp2_with fail
          refine wp_region_tree 11 (OT.sures [0, 1, 2, 3, 4, 5, 6, 7, 8, 9, 10] .nil) (fun w' => w'.cell? ⟨w.heap.size, 0, none⟩ = some (.string (bs s)) ∧ w'.cell? ⟨w.heap.size, 1, none⟩ = some (.int .i64 at_)) (by kernel_rfl) (by kernel_rfl) (fun c a d v w h => by cases d <;> exact h) ⟨C0.out, C1.out⟩ ?_
          simp only [OT.sures]
          iterate 11 (first | (apply wpT_sure rfl rfl; focus (intro w' hw'; have g1 := hw'.1; have g2 := hw'.2; go_simp; rfl)) | (refine wpT_sureG rfl (by go_simp) _ (fun w' hw' => by have g1 := hw'; go_simp; rfl) ?_))
          refine wpT_nil ?_
          go_wp2_with fail
          refine (check_ok _ _ _).mono ?_
          rintro e w2 ⟨rfl, rfl⟩
          go_wp2_with fail
          go_ret
          show polysQ (threeS s) w _ _
          rw [h6.out]
          exact ⟨_, rfl, HO.out.upd (Upd.refl _ _).drew, HU.out.drew⟩
        · have h6 : Hid (threeS s = .bad at_ 13) := by show _ = _; rw [HS.out, Nat.sub_self]; unfold polysB; rw [if_neg he]
          have he' : (((at_ : Nat) : Int) == ((s.length : Nat) : Int)) = false := by rw [beq_eq_false_iff_ne]; omega
          clear he
          go_wp2_with fail
          refine wp_region_tree 11 (OT.sures [0, 1, 2, 3, 4, 5, 6, 7, 8, 9, 10] .nil) (fun w' => w'.cell? ⟨w.heap.size, 0, none⟩ = some (.string (bs s)) ∧ w'.cell? ⟨w.heap.size, 1, none⟩ = some (.int .i64 at_)) (by kernel_rfl) (by kernel_rfl) (fun c a d v w h => by cases d <;> exact h) ⟨C0.out, C1.out⟩ ?_
          simp only [OT.sures]
          iterate 11 (first | (apply wpT_sure rfl rfl; focus (intro w' hw'; have g1 := hw'.1; have g2 := hw'.2; go_simp; rfl)) | (refine wpT_sureG rfl (by go_simp) _ (fun w' hw' => by have g1 := hw'; go_simp; rfl) ?_))
          refine wpT_nil ?_
          go_wp2_with fail
          refine (check_bad _ _ _).mono ?_
          rintro e w2 ⟨rfl, rfl⟩
          refine ⟨rfl, ?_⟩
          show polysQ (threeS s) w _ _
          rw [h6.out]
          exact ⟨rfl, HU.out.drew⟩
  · have h3 : threeS s = .bad p e := by unfold threeS; rw [hr]
    rintro e w1 ⟨rfl, u1⟩
    refine ⟨rfl, ?_⟩
    show polysQ (threeS s) w _ _
    rw [h3]
    exact ⟨rfl, ((Upd.refl noBlk w).alloc _).trans u1⟩
end Go.Proofs.YtojdgdeefhndiaaDoor
