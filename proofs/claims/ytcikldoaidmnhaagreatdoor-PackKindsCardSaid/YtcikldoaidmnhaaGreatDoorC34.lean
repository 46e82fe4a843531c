/- Walks of the reference of packets: numbers modulo others, moves that numbers determine. No condition. The group packet that fields determine. No condition. What a reading of an argument tells (packets): the fields of a group packet. No condition. -/
import Derived.Test.YtcikldoaidmnhaaGreatDoorC33
import Derived.Test.YtcikldoaidmnhaaGreatDoorC28
import Derived.Test.YtcikldoaidmnhaaGreatDoorC23
import Derived.Test.YtcikldoaidmnhaaGreatDoorC27
import Derived.Test.YtcikldoaidmnhaaGreatDoorC32
namespace Go.Proofs.YtcikldoaidmnhaaGreatDoor
open Go Go.RowKit Pk
set_option maxRecDepth 100000
def sixI (n : Int) : Int := modI n 2097153 - (if n < 0 then 1 else 0)
def moveOf (m : Mv) : Mv := ((sixI m.1.1, sixI m.1.2.1, sixI m.1.2.2), (sixI m.2.1, sixI m.2.2.1, sixI m.2.2.2))
theorem sixI_range (n : Int) : -1 ≤ sixI n ∧ sixI n ≤ 2097152 := by
  unfold sixI
  have := modI_range (n := n) (m := 2097153) (by decide)
  split <;> omega
noncomputable def kSix : Kd Tryz.prog Mv := { T := 142, S := 60, k := 6, bytes := 48, enc := mvC, len := fun _ => rfl, one := fun x v hv => by simp [mvC] at hv; rcases hv with rfl | rfl | rfl | rfl | rfl | rfl <;> rfl, pos := by decide, small := by decide, und := Tryz.underlying60, info := kinfo_of (by kernel_rfl) }
def sixTo (m : Mv) (k : Nat) : Array Value := ((List.range 6).map (fun j => Value.int .i64 (if j < k then sixI (coordAt m j) else 0))).toArray
theorem sixTo_get (m : Mv) (k j : Nat) (h : j < 6) : (sixTo m k)[j]? = some (.int .i64 (if j < k then sixI (coordAt m j) else 0)) := by simp [sixTo, h]
theorem sixTo_set (m : Mv) (k : Nat) (hk : k < 6) : (sixTo m k).setIfInBounds k (.int .i64 (sixI (coordAt m k))) = sixTo m (k + 1) := by
  apply Array.ext_getElem?
  intro j
  rw [Array.getElem?_setIfInBounds]
  by_cases h : j < 6
  · rw [sixTo_get m k j h, sixTo_get m (k + 1) j h]
    by_cases e : k = j
    · subst e
      rw [if_pos rfl, if_pos (by simpa [sixTo] using h), if_pos (by omega)]
    · rw [if_neg e]
      by_cases h2 : j < k
      · rw [if_pos h2, if_pos (by omega)]
      · rw [if_neg h2, if_neg (by omega)]
  · have h1 : ∀ q, (sixTo m q)[j]? = none := fun q => by simp [sixTo]; omega
    rw [h1, h1, if_neg (by omega)]
theorem sixTo_all (m : Mv) : sixTo m 6 = (mvC (moveOf m)).toArray := by
  obtain ⟨⟨a0, a1, a2⟩, ⟨a3, a4, a5⟩⟩ := m
  rfl
set_option maxHeartbeats 2000000 in
theorem jMoves_any (v : Value) (l : List Mv) (w : World) (hlen : l.length ≤ 9223372036854775807) (h : kSix.Rd w v l) : Calls Tryz.prog 78 #[v] w fun en w' => ∃ v, en = .returned v ∧ kMove.Own w.heap.size w' v ((l.take 10).map moveOf) ∧ Upd noBlk w w' := by
  obtain ⟨A, cap, rfl, hcap, hx⟩ := h
  have HX := Lib.hid hx
  have hl' : ((l.length : Nat) : Int) ≤ 9223372036854775807 := by omega
  have HM := fun n W => Lib.hid (hMod_any n 2097153 (by decide) (by decide) W)
  clear hx hlen
  go_enter Tryz.func78, Tryz.ntmps78
  go_wp2_with fail
  go_loopw [3, 4] (fun o i wr => ∃ k : Nat, i = .int .i64 k ∧ k ≤ l.length ∧ k ≤ 10 ∧ kMove.Own w.heap.size wr o ((l.take k).map moveOf) ∧ Upd noBlk w wr) (fun _ i _ => l.length - (intOf i).toNat)
  case atStart => exact ⟨0, rfl, Nat.zero_le _, by omega, Kd.Own.nil _ _ _, Upd.refl _ _⟩
  case round =>
    obtain ⟨k, rfl, hk, hk10, ho, hu⟩ := hrel
    have HO := Lib.hid ho
    have HU := Lib.hid hu
    clear ho hu
    by_cases hlt : k < l.length
    · have hlt' : ((k : Nat) : Int) < ((l.length : Nat) : Int) := by omega
      by_cases hlt10 : k < 10
      · have hlt10' : ((k : Nat) : Int) < 10 := by omega
        obtain ⟨b, off, rfl, f1⟩ := HX.out (by omega)
        have hat := (f1 k hlt).keep HU.out
        have hk6 : kSix.k = 6 := rfl
        rw [hk6] at hat
        have HTK : Hid ((l.take (k + 1)).map moveOf = (l.take k).map moveOf ++ [moveOf l[k]]) := by
          show _ = _
          rw [List.take_succ_eq_append_getElem hlt, List.map_append]; rfl
        have HLN : Hid (((l.take k).map moveOf).length = k) := by show _ = _; rw [List.length_map, List.length_take]; omega
        have HAT : Hid (∀ j, j < 6 → wr.cell? ⟨b, off + k * 6 + j, none⟩ = some (.int .i64 (coordAt l[k] j))) := fun j hj => by
          refine hat j _ ?_
          generalize l[k] = m
          obtain ⟨⟨a0, a1, a2⟩, ⟨a3, a4, a5⟩⟩ := m
          rcases (by omega : j = 0 ∨ j = 1 ∨ j = 2 ∨ j = 3 ∨ j = 4 ∨ j = 5) with rfl | rfl | rfl | rfl | rfl | rfl <;> rfl
        clear f1 hat hk6 HX
        generalize l[k] = pm at *
        go_upto_region 6 with fail
        have HB : Hid ((wr.alloc (.cells #[.int .i64 0, .int .i64 0, .int .i64 0, .int .i64 0, .int .i64 0, .int .i64 0] 142)).heap[wr.heap.size]? = some (.cells (sixTo pm 0) 142 (0, 0))) := heap_alloc_new wr _
        have HA := Lib.hid ((Upd.refl noBlk wr).alloc (.cells #[.int .i64 0, .int .i64 0, .int .i64 0, .int .i64 0, .int .i64 0, .int .i64 0] 142))
        have HAT1 : Hid (∀ j, j < 6 → (wr.alloc (.cells #[.int .i64 0, .int .i64 0, .int .i64 0, .int .i64 0, .int .i64 0, .int .i64 0] 142)).cell? ⟨b, off + k * 6 + j, none⟩ = some (.int .i64 (coordAt pm j)) ∧ b < wr.heap.size) := fun j hj => ⟨HA.out.cell (HAT.out j hj) id, cell_lt (HAT.out j hj)⟩
        have HU1 := Lib.hid (HU.out.trans HA.out)
        have HO1 := Lib.hid (HO.out.upd HA.out)
        have HOB : Hid (∀ g, u3.ownBlock = some g → g < wr.heap.size) := fun g hg => (HO.out.lt g hg).2
        have HWN : Hid (w.heap.size ≤ wr.heap.size) := HU.out.size
        clear HA HAT HU HO
        generalize wr.heap.size = N at *
        generalize wr.alloc (.cells #[.int .i64 0, .int .i64 0, .int .i64 0, .int .i64 0, .int .i64 0, .int .i64 0] 142) = w1 at *
        go_wp2_with fail
        go_loopw [6] (fun i wz => ∃ j : Nat, i = .int .i64 j ∧ j ≤ 6 ∧ wz.heap[N]? = some (.cells (sixTo pm j) 142 (0, 0)) ∧ Upd (fun b => b = N) w1 wz) (fun i _ => 6 - (intOf i).toNat)
        case atStart => exact ⟨0, rfl, by omega, HB.out, Upd.refl _ _⟩
        case round =>
          obtain ⟨j, rfl, hj, hb, hu⟩ := hrel
          have HB2 := Lib.hid hb
          have HU2 := Lib.hid hu
          clear hb hu
          by_cases hlt2 : j < 6
          · have hlt3 : ((j : Nat) : Int) < 6 := by omega
            have HJ : Hid (j < 6) := hlt2
            have hcj : wr.cell? ⟨b, off + k * 6 + j, none⟩ = some (.int .i64 (coordAt pm j)) := HU2.out.cell (HAT1.out j hlt2).1 (fun e => by have h1 := (HAT1.out j hlt2).2; have e' : b = N := e; omega)
            have HCJ := Lib.hid hcj
            have hc : wr.cell? ⟨N, j, none⟩ = some (.int .i64 0) := by rw [cell_of_row _ _ j _ 142 (0, 0) HB2.out, sixTo_get pm j j hlt2, if_neg (by omega)]
            have hf : wr.frozen? ⟨N, j, none⟩ = false := by simp [World.frozen?, HB2.out]
            have HS := sixTo_set pm j hlt2
            unfold sixI at HS
            have HSS := Lib.hid HS
            have HNB : Hid (¬ b = N) := by show ¬ _; have := (HAT1.out j hlt2).2; omega
            clear HS hlt2
            generalize coordAt pm j = q at *
            have HMQ := HM q wr
            have HR := modI_range (n := q) (m := 2097153) (by decide)
            generalize modI q 2097153 = md at *
            obtain ⟨hr1, hr2⟩ := HR
            go_wp2_with fail
            refine HMQ.out.mono ?_
            rintro e w2 ⟨rfl, rfl⟩
            clear HMQ
            go_upto_region 10 with fail
            have HB3 : Hid ((w2.setCell ⟨N, j, none⟩ (.int .i64 md)).heap[N]? = some (.cells ((sixTo pm j).setIfInBounds j (.int .i64 md)) 142 (0, 0))) := heap_setCell_eq (i := j) (.int .i64 md) HB2.out
            have hset := (Upd.refl (fun k => k = N) w2).setCell (p := ⟨N, j, none⟩) (fun _ => rfl) (.int .i64 md)
            have hcj2 := hset.cell HCJ.out (HNB.out)
            have HU3 := Lib.hid (HU2.out.trans hset)
            have hsz : (sixTo pm j).size = 6 := by simp [sixTo]
            have hc2 : (w2.setCell ⟨N, j, none⟩ (.int .i64 md)).cell? ⟨N, j, none⟩ = some (.int .i64 md) := by
              rw [cell_of_row _ _ j _ 142 (0, 0) HB3.out, Array.getElem?_setIfInBounds, if_pos rfl, if_pos (by rw [hsz]; exact HJ.out)]
            have hf2 : (w2.setCell ⟨N, j, none⟩ (.int .i64 md)).frozen? ⟨N, j, none⟩ = false := by simp [World.frozen?, HB3.out]
            clear hset HU2 HB2 hcj hc hf hsz
            generalize w2.setCell ⟨N, j, none⟩ (.int .i64 md) = w3 at *
            by_cases hq : q < 0
            · rw [if_pos hq] at HSS
              go_wp2_with fail
              have HB4 := heap_setCell_eq (i := j) (.int .i64 (md - 1)) HB3.out
              rw [Array.setIfInBounds_setIfInBounds, HSS.out] at HB4
              refine ⟨⟨j + 1, by push_cast; rfl, HJ.out, HB4, HU3.out.setCell (p := ⟨N, j, none⟩) (fun _ => rfl) _⟩, ?_⟩
              simp only [intOf]; have := HJ.out; omega
            · rw [if_neg hq, Int.sub_zero] at HSS
              rw [HSS.out] at HB3
              go_wp2_with fail
              refine ⟨⟨j + 1, by push_cast; rfl, HJ.out, HB3.out, HU3.out⟩, ?_⟩
              simp only [intOf]; have := HJ.out; omega
          · obtain rfl : j = 6 := by omega
            have HB3 : Hid (wr.heap[N]? = some (.cells (mvC (moveOf pm)).toArray 142 (0, 0))) := by show _ = _; rw [← sixTo_all]; exact HB2.out
            have HU4 := Lib.hid (HU1.out.then HU2.out (fun i hi e => by have e' : i = N := e; have := HWN.out; omega))
            have HO4 := Lib.hid (HO1.out.other HU2.out (fun g hg e => by have := HOB.out g hg; have e' : g = N := e; omega))
            clear HB2 HU2 HAT1 HU1 HO1 hj hlt2 HM
            generalize moveOf pm = mv at *
            obtain ⟨g, cap2, w3, r3, o3, v3, _⟩ := HO4.out.app1 HU4.out.size mv (by rw [HLN.out]; omega)
            rw [HLN.out] at r3 o3
            rw [← HTK.out] at o3
            have O3 := Lib.hid o3
            have HU5 := Lib.hid (HU4.out.then v3 (fun i hi e => absurd hi (by have := (HO4.out.blk e).1; omega)))
            have hlt11 := Lib.hid hlt
            obtain ⟨⟨a0, a1, a2⟩, ⟨a3, a4, a5⟩⟩ := mv
            have R3 := Lib.hid r3
            clear r3 o3 v3
            have HB5 : wr.heap[N]? = some (.cells #[.int .i64 a0, .int .i64 a1, .int .i64 a2, .int .i64 a3, .int .i64 a4, .int .i64 a5] 142 (0, 0)) := HB3.out
            obtain ⟨⟨f0, f1, f2, f3, f4, f5⟩, _⟩ := cellsF6 HB5
            clear HB5
            go_wp2_with (at_builtin; refine wpList_append_run rfl _ _ _ rfl rfl rfl R3.out ?_)
            exact ⟨⟨k + 1, by push_cast; rfl, hlt11.out, hlt10, O3.out, HU5.out⟩, by simp only [intOf]; have := hlt11.out; omega⟩
      · obtain rfl : k = 10 := by omega
        go_wp2_with fail
        go_ret
        exact ⟨_, rfl, HO.out, HU.out⟩
    · obtain rfl : k = l.length := by omega
      have HTK : Hid (l.take 10 = l.take l.length) := by
        show _ = _
        rw [List.take_length, List.take_of_length_le hk10]
      go_wp2_with fail
      go_ret
      exact ⟨_, rfl, by rw [HTK.out]; exact HO.out, HU.out⟩
end Go.Proofs.YtcikldoaidmnhaaGreatDoor
namespace Go.Proofs.YtcikldoaidmnhaaGreatDoor
open Go Go.RowKit Pk
set_option maxRecDepth 100000
structure FV where
  level : Int
  err : Int
  total : Int
  ins : List Int
  outs : List Int
  moves : List Mv
  neg : Bool
  mag : Bytes
def FV.V (x : FV) (vi vo vm : Value) : Value := .agg #[.int .i64 x.level, .int .i64 x.err, .int .i64 x.total, vi, vo, vm, .bool x.neg, .string (bs x.mag)]
def FV.gv (x : FV) : GV := ⟨x.level, (x.ins.take 10).map partOf, ((x.outs.take 10).map partOf).map (·.1), (x.moves.take 10).map moveOf, x.err, x.total, x.neg, x.mag.take 40⟩
theorem bs_cut (s : Bytes) (m : Nat) : (bs s).extract 0 m = bs (s.take m) := by
  apply ByteArray.ext
  simp [bs]
set_option maxHeartbeats 4000000 in
theorem group_any (x : FV) (vi vo vm : Value) (w : World) (hl1 : x.ins.length ≤ 9223372036854775807) (hl2 : x.outs.length ≤ 9223372036854775807) (hl3 : x.moves.length ≤ 9223372036854775807) (hl4 : x.mag.length ≤ 9223372036854775807) (hi : kInt.Rd w vi x.ins) (ho : kInt.Rd w vo x.outs) (hm : kSix.Rd w vm x.moves) :
    Calls Tryz.prog 31 #[x.V vi vo vm] w fun en w' => ∃ ui uo um, en = .returned (x.gv.V ui uo um) ∧ kPart.Own w.heap.size w' ui x.gv.ins ∧ kHash.Own w.heap.size w' uo x.gv.outs ∧ kMove.Own w.heap.size w' um x.gv.moves ∧ Upd noBlk w w' := by
  obtain ⟨lv, er, tot, ins, outs, moves, neg, mag⟩ := x
  simp only at hi ho hm hl1 hl2 hl3 hl4
  unfold FV.gv FV.V GV.V
  simp only
  have HPI : Hid (∀ W, Upd noBlk w W → Calls Tryz.prog 24 #[vi] W fun en w' => ∃ v, en = .returned v ∧ kPart.Own W.heap.size w' v ((ins.take 10).map partOf) ∧ Upd noBlk W w') := fun W hW => jParts_any vi ins W hl1 (hi.keep hW)
  have HPO : Hid (∀ W, Upd noBlk w W → Calls Tryz.prog 24 #[vo] W fun en w' => ∃ v, en = .returned v ∧ kPart.Own W.heap.size w' v ((outs.take 10).map partOf) ∧ Upd noBlk W w') := fun W hW => jParts_any vo outs W hl2 (ho.keep hW)
  have HMO : Hid (∀ W, Upd noBlk w W → Calls Tryz.prog 78 #[vm] W fun en w' => ∃ v, en = .returned v ∧ kMove.Own W.heap.size w' v ((moves.take 10).map moveOf) ∧ Upd noBlk W w') := fun W hW => jMoves_any vm moves W hl3 (hm.keep hW)
  have HL1 : Hid (((ins.take 10).map partOf).length ≤ 10) := by show _ ≤ _; rw [List.length_map, List.length_take]; omega
  have HL2 : Hid (((outs.take 10).map partOf).length ≤ 10) := by show _ ≤ _; rw [List.length_map, List.length_take]; omega
  have HL3 : Hid (((moves.take 10).map moveOf).length ≤ 10) := by show _ ≤ _; rw [List.length_map, List.length_take]; omega
  generalize (ins.take 10).map partOf = pis at *
  generalize (outs.take 10).map partOf = pos at *
  generalize (moves.take 10).map moveOf = pms at *
  have hex : ∃ mn : Nat, (min (((bs mag).size : Nat) : Int) 40 = ((mn : Nat) : Int)) ∧ mn ≤ (bs mag).size ∧ (bs mag).extract 0 mn = bs (mag.take 40) := by
    refine ⟨min (bs mag).size 40, by omega, Nat.min_le_left _ _, ?_⟩
    rw [bs_cut, bs_size]
    congr 1
    by_cases h : mag.length ≤ 40
    · rw [Nat.min_eq_left h, List.take_of_length_le h, List.take_of_length_le (Nat.le_refl _)]
    · rw [Nat.min_eq_right (by omega)]
  obtain ⟨mn, hmn, hmz, hme⟩ := hex
  have HME := Lib.hid hme
  have HMN := Lib.hid hmn
  have HMZ : Hid (mn ≤ (bs mag).size) := hmz
  have hsz64 : (((bs mag).size : Nat) : Int) ≤ 9223372036854775807 := by rw [bs_size]; omega
  have HS64 := Lib.hid hsz64
  generalize mag.take 40 = mg at *
  clear hi ho hm hl1 hl2 hl3 hl4 hmn hmz hme hsz64
  obtain ⟨w1, hw1⟩ : ∃ w1, w1 = (w.alloc (.cells #[.int .i64 lv, .int .i64 er, .int .i64 tot, vi, vo, vm, .bool neg, .string (bs mag)] 62)).alloc (.cells #[.int .i64 0, .slice none 0 0, .slice none 0 0, .slice none 0 0, .int .i64 0, .int .i64 0, .bool false, .string ⟨#[]⟩] 68) := ⟨_, rfl⟩
  have HU : Hid (Upd noBlk w w1) := by show Upd _ _ _; rw [hw1]; exact ((Upd.refl _ w).alloc _).alloc _
  have HA : Hid (w1.heap[w.heap.size]? = some (.cells #[.int .i64 lv, .int .i64 er, .int .i64 tot, vi, vo, vm, .bool neg, .string (bs mag)] 62 (0, 0))) := by show _ = _; rw [hw1]; exact ((Upd.refl noBlk _).alloc _).heap (heap_alloc_new w _) id
  have HB : Hid (w1.heap[w.heap.size + 1]? = some (.cells #[.int .i64 0, .slice none 0 0, .slice none 0 0, .slice none 0 0, .int .i64 0, .int .i64 0, .bool false, .string ⟨#[]⟩] 68 (0, 0))) := by
    show _ = _; rw [hw1]
    have := heap_alloc_new (w.alloc (.cells #[.int .i64 lv, .int .i64 er, .int .i64 tot, vi, vo, vm, .bool neg, .string (bs mag)] 62)) (.cells #[.int .i64 0, .slice none 0 0, .slice none 0 0, .slice none 0 0, .int .i64 0, .int .i64 0, .bool false, .string ⟨#[]⟩] 68)
    rwa [World.size_alloc] at this
  go_enter Tryz.func31, Tryz.ntmps31
  go_upto_region 1 with fail
  rw [← hw1]
  clear hw1
  obtain ⟨ba, hba⟩ : ∃ ba, ba = w.heap.size := ⟨_, rfl⟩
  rw [← hba] at HA HB ⊢
  have HWA : Hid (w.heap.size ≤ ba) := by show _ ≤ _; omega
  clear hba
  obtain ⟨bb, hbb⟩ : ∃ bb, bb = ba + 1 := ⟨_, rfl⟩
  have HBB : Hid (bb = ba + 1) := hbb
  rw [← hbb] at HB ⊢
  clear hbb
  have HBW : Hid (bb < w1.heap.size) := lt_of_heap HB.out
  go_cut [3] (fun c wc => ∃ nb ui um, c = .pointer (some ⟨nb, 0, none⟩) ∧ w1.heap.size ≤ nb ∧ wc.heap[nb]? = some (.cells #[.int .i64 lv, ui, .slice none 0 0, um, .int .i64 er, .int .i64 tot, .bool neg, .string (bs mg)] 68 (0, 0)) ∧ kPart.Own w1.heap.size wc ui pis ∧ kMove.Own w1.heap.size wc um pms ∧ (∀ g, ui.ownBlock = some g → g ≠ nb) ∧ (∀ g, um.ownBlock = some g → g ≠ nb) ∧ Upd noBlk w1 wc)
  case first =>
    refine wp_region_tree 24 (OT.sures [0, 2, 5, 8, 10, 12, 14, 16, 1, 3, 6, 9, 11, 13, 15, 17, 18, 19, 20, 21] (.fork 4 (.fork 7 (.sure 22 (.run 23 .nil)) 23 (.run 7 (.sure 22 .nil))) 23 (.run 4 (.run 7 (.sure 22 .nil))))) (fun w' => Upd noBlk w1 w') (by kernel_rfl) (by kernel_rfl) (fun c a d v w h => by cases d <;> exact h) ((Upd.refl noBlk w1).drew) ?_
    simp only [OT.sures]
    iterate 20 (apply wpT_sure rfl rfl; focus (intro w' hw'; obtain ⟨a0, a1, a2, a3, a4, a5, a6, a7⟩ := cells8 (hw'.heap HA.out id); have h1 := HMN.out; have h2 := HMZ.out; have h3 := HME.out; have h4 := HS64.out; go_simp; rfl))
    refine wpT_fork (fun w' => Upd noBlk w1 w') (fun w' => Upd noBlk w1 w') (fun _ h => h) (fun _ h => h) rfl rfl (fun K' hK => ?_) (fun K' hK => ?_)
    · skip
      go_simp
      refine (HPI.out _ (HU.out.trans (Upd.refl noBlk w1).drew)).mono ?_
      rintro e zi ⟨ui, rfl, hoi, uzi⟩
      obtain ⟨Ai, ci, rfl, _⟩ := hoi.form
      have VI := Lib.hid ((Upd.refl noBlk w1).drew.trans uzi)
      have HOI := Lib.hid (hoi.mono (base' := w1.heap.size) (Upd.size (Upd.refl noBlk w1).drew))
      refine hK _ _ ⟨VI.out, ?_⟩
      clear hK K' uzi hoi
      refine wpT_fork (fun w' => Upd noBlk w1 w') (fun w' => Upd noBlk w1 w') (fun _ h => h) (fun _ h => h) rfl rfl (fun K' hK => ?_) (fun K' hK => ?_)
      · skip
        go_simp
        refine (HMO.out _ (HU.out.trans VI.out)).mono ?_
        rintro e zm ⟨um, rfl, hom, uzm⟩
        obtain ⟨Am, cm, rfl, _⟩ := hom.form
        have VM := Lib.hid (VI.out.trans uzm)
        have HOM := Lib.hid (hom.mono (base' := w1.heap.size) (Upd.size VI.out))
        have HOI2 := Lib.hid (HOI.out.upd uzm)
        refine hK _ _ ⟨VM.out, ?_⟩
        clear hK K' uzm hom HOI
        (apply wpT_sure rfl rfl; focus (intro w' hw'; go_simp; rfl))
        refine wpT_run (fun w' => Upd noBlk w1 w') (fun _ h => h) rfl (fun K' hK => ?_)
        go_simp
        have HN : Hid ((zm.alloc (.cells #[.int .i64 0, .slice none 0 0, .slice none 0 0, .slice none 0 0, .int .i64 0, .int .i64 0, .bool false, .string ⟨#[]⟩] 68)).heap[zm.heap.size]? = some (.cells #[.int .i64 0, .slice none 0 0, .slice none 0 0, .slice none 0 0, .int .i64 0, .int .i64 0, .bool false, .string ⟨#[]⟩] 68 (0, 0))) := heap_alloc_new zm _
        have hal := (Upd.refl noBlk zm).alloc (.cells #[.int .i64 0, .slice none 0 0, .slice none 0 0, .slice none 0 0, .int .i64 0, .int .i64 0, .bool false, .string ⟨#[]⟩] 68)
        have HV := Lib.hid (VM.out.trans hal)
        have HOIF := Lib.hid (HOI2.out.upd hal)
        have HOMF := Lib.hid (HOM.out.upd hal)
        have HDI : Hid (∀ g, (Value.slice Ai pis.length ci).ownBlock = some g → g ≠ zm.heap.size) := fun g hg e => by have := (HOI2.out.lt g hg).2; omega
        have HDM : Hid (∀ g, (Value.slice Am pms.length cm).ownBlock = some g → g ≠ zm.heap.size) := fun g hg e => by have := (HOM.out.lt g hg).2; omega
        have HNB : Hid (w1.heap.size ≤ zm.heap.size) := VM.out.size
        refine hK _ _ ⟨HV.out, ?_⟩
        clear hK K' hal HOI2 HOM VM VI
        generalize zm.alloc (.cells #[.int .i64 0, .slice none 0 0, .slice none 0 0, .slice none 0 0, .int .i64 0, .int .i64 0, .bool false, .string ⟨#[]⟩] 68) = z3 at *
        generalize zm.heap.size = nb at *
        refine wpT_nil ?_
        obtain ⟨_, ⟨f0, f1, f2, f3, f4, f5, f6, f7⟩⟩ := cellsF8 HN.out
        go_wp2_with fail
        go_meet
        obtain ⟨hz, hset⟩ := set8 (y0 := .int .i64 lv) (y1 := .slice Ai pis.length ci) (y2 := .slice none 0 0) (y3 := .slice Am pms.length cm) (y4 := .int .i64 er) (y5 := .int .i64 tot) (y6 := .bool neg) (y7 := .string (bs mg)) HN.out
        exact ⟨_, _, _, rfl, HNB.out, hz, HOIF.out.other hset (fun g hg e => HDI.out g hg e), HOMF.out.other hset (fun g hg e => HDM.out g hg e), HDI.out, HDM.out, upd_newE HV.out hset HNB.out⟩
      · skip
        go_simp
        have hn0 : (zi.alloc (.cells #[.int .i64 0, .slice none 0 0, .slice none 0 0, .slice none 0 0, .int .i64 0, .int .i64 0, .bool false, .string ⟨#[]⟩] 68)).heap[zi.heap.size]? = some (.cells #[.int .i64 0, .slice none 0 0, .slice none 0 0, .slice none 0 0, .int .i64 0, .int .i64 0, .bool false, .string ⟨#[]⟩] 68 (0, 0)) := heap_alloc_new zi _
        have hal := (Upd.refl noBlk zi).alloc (.cells #[.int .i64 0, .slice none 0 0, .slice none 0 0, .slice none 0 0, .int .i64 0, .int .i64 0, .bool false, .string ⟨#[]⟩] 68)
        have HV0 := Lib.hid (VI.out.trans hal)
        have HOI0 := Lib.hid (HOI.out.upd hal)
        have HDI : Hid (∀ g, (Value.slice Ai pis.length ci).ownBlock = some g → g ≠ zi.heap.size) := fun g hg e => by have := (HOI.out.lt g hg).2; omega
        have HNB : Hid (w1.heap.size ≤ zi.heap.size) := VI.out.size
        have HNL : Hid (zi.heap.size < (zi.alloc (.cells #[.int .i64 0, .slice none 0 0, .slice none 0 0, .slice none 0 0, .int .i64 0, .int .i64 0, .bool false, .string ⟨#[]⟩] 68)).heap.size) := by show _ < _; rw [World.size_alloc]; omega
        refine hK _ _ ⟨HV0.out, ?_⟩
        have HN0 := Lib.hid hn0
        clear hK K' hal HOI VI hn0
        generalize zi.alloc (.cells #[.int .i64 0, .slice none 0 0, .slice none 0 0, .slice none 0 0, .int .i64 0, .int .i64 0, .bool false, .string ⟨#[]⟩] 68) = z3 at *
        generalize zi.heap.size = nb at *
        have HOI := HOI0
        refine wpT_run (fun w' => Upd noBlk w1 w') (fun _ h => h) rfl (fun K' hK => ?_)
        go_simp
        refine (HMO.out _ (HU.out.trans HV0.out)).mono ?_
        rintro e zm ⟨um, rfl, hom, uzm⟩
        obtain ⟨Am, cm, rfl, _⟩ := hom.form
        have VM := Lib.hid (HV0.out.trans uzm)
        have HOM := Lib.hid (hom.mono (base' := w1.heap.size) (Upd.size HV0.out))
        have HOI2 := Lib.hid (HOI.out.upd uzm)
        have HN := Lib.hid (uzm.heap HN0.out id)
        have HV := VM
        have HOIF := HOI2
        have HOMF := HOM
        have HDM : Hid (∀ g, (Value.slice Am pms.length cm).ownBlock = some g → g ≠ nb) := fun g hg e => by have h1 := (hom.blk hg).1; have := HNL.out; omega
        refine hK _ _ ⟨VM.out, ?_⟩
        clear hK K' uzm hom HOI HOI0 HN0 HNL
        (apply wpT_sure rfl rfl; focus (intro w' hw'; go_simp; rfl))
        refine wpT_nil ?_
        obtain ⟨_, ⟨f0, f1, f2, f3, f4, f5, f6, f7⟩⟩ := cellsF8 HN.out
        go_wp2_with fail
        go_meet
        obtain ⟨hz, hset⟩ := set8 (y0 := .int .i64 lv) (y1 := .slice Ai pis.length ci) (y2 := .slice none 0 0) (y3 := .slice Am pms.length cm) (y4 := .int .i64 er) (y5 := .int .i64 tot) (y6 := .bool neg) (y7 := .string (bs mg)) HN.out
        exact ⟨_, _, _, rfl, HNB.out, hz, HOIF.out.other hset (fun g hg e => HDI.out g hg e), HOMF.out.other hset (fun g hg e => HDM.out g hg e), HDI.out, HDM.out, upd_newE HV.out hset HNB.out⟩
    · skip
      go_simp
      have hn0 : (w1.alloc (.cells #[.int .i64 0, .slice none 0 0, .slice none 0 0, .slice none 0 0, .int .i64 0, .int .i64 0, .bool false, .string ⟨#[]⟩] 68)).drew.heap[w1.heap.size]? = some (.cells #[.int .i64 0, .slice none 0 0, .slice none 0 0, .slice none 0 0, .int .i64 0, .int .i64 0, .bool false, .string ⟨#[]⟩] 68 (0, 0)) := heap_alloc_new w1 _
      have hal := ((Upd.refl noBlk w1).alloc (.cells #[.int .i64 0, .slice none 0 0, .slice none 0 0, .slice none 0 0, .int .i64 0, .int .i64 0, .bool false, .string ⟨#[]⟩] 68)).drew
      have HV0 := Lib.hid hal
      have HNB0 : Hid (w1.heap.size ≤ w1.heap.size) := Nat.le_refl _
      have HNL : Hid (w1.heap.size < (w1.alloc (.cells #[.int .i64 0, .slice none 0 0, .slice none 0 0, .slice none 0 0, .int .i64 0, .int .i64 0, .bool false, .string ⟨#[]⟩] 68)).drew.heap.size) := by show w1.heap.size < (w1.alloc (.cells #[.int .i64 0, .slice none 0 0, .slice none 0 0, .slice none 0 0, .int .i64 0, .int .i64 0, .bool false, .string ⟨#[]⟩] 68)).heap.size; rw [World.size_alloc]; omega
      have HN0 := Lib.hid hn0
      refine hK _ _ ⟨?_, ?_⟩
      · exact HV0.out
      clear hK K' hal hn0
      obtain ⟨nb, hnb⟩ : ∃ nb, nb = w1.heap.size := ⟨_, rfl⟩
      have HNB : Hid (w1.heap.size ≤ nb) := by show _ ≤ _; omega
      rw [← hnb] at HN0 HNL ⊢
      clear hnb HNB0
      generalize (w1.alloc (.cells #[.int .i64 0, .slice none 0 0, .slice none 0 0, .slice none 0 0, .int .i64 0, .int .i64 0, .bool false, .string ⟨#[]⟩] 68)).drew = z3 at *
      refine wpT_run (fun w' => Upd noBlk w1 w') (fun _ h => h) rfl (fun K' hK => ?_)
      go_simp
      refine (HPI.out _ (HU.out.trans HV0.out)).mono ?_
      rintro e zi ⟨ui, rfl, hoi, uzi⟩
      obtain ⟨Ai, ci, rfl, _⟩ := hoi.form
      have VI := Lib.hid (HV0.out.trans uzi)
      have HOI := Lib.hid (hoi.mono (base' := w1.heap.size) (Upd.size HV0.out))
      have HN1 := Lib.hid (uzi.heap HN0.out id)
      have HDI : Hid (∀ g, (Value.slice Ai pis.length ci).ownBlock = some g → g ≠ nb) := fun g hg e => by have h1 := (hoi.blk hg).1; have := HNL.out; omega
      have HNL2 : Hid (nb < zi.heap.size) := by show _ < _; have := HNL.out; have := uzi.size; omega
      refine hK _ _ ⟨VI.out, ?_⟩
      clear hK K' uzi hoi HN0 HV0
      refine wpT_run (fun w' => Upd noBlk w1 w') (fun _ h => h) rfl (fun K' hK => ?_)
      go_simp
      refine (HMO.out _ (HU.out.trans VI.out)).mono ?_
      rintro e zm ⟨um, rfl, hom, uzm⟩
      obtain ⟨Am, cm, rfl, _⟩ := hom.form
      have VM := Lib.hid (VI.out.trans uzm)
      have HOM := Lib.hid (hom.mono (base' := w1.heap.size) (Upd.size VI.out))
      have HOI2 := Lib.hid (HOI.out.upd uzm)
      have HN := Lib.hid (uzm.heap HN1.out id)
      have HV := VM
      have HOIF := HOI2
      have HOMF := HOM
      have HDM : Hid (∀ g, (Value.slice Am pms.length cm).ownBlock = some g → g ≠ nb) := fun g hg e => by have h1 := (hom.blk hg).1; have := HNL2.out; omega
      refine hK _ _ ⟨VM.out, ?_⟩
      clear hK K' uzm hom HOI HN1 HNL HNL2
      (apply wpT_sure rfl rfl; focus (intro w' hw'; go_simp; rfl))
      refine wpT_nil ?_
      obtain ⟨_, ⟨f0, f1, f2, f3, f4, f5, f6, f7⟩⟩ := cellsF8 HN.out
      go_wp2_with fail
      go_meet
      obtain ⟨hz, hset⟩ := set8 (y0 := .int .i64 lv) (y1 := .slice Ai pis.length ci) (y2 := .slice none 0 0) (y3 := .slice Am pms.length cm) (y4 := .int .i64 er) (y5 := .int .i64 tot) (y6 := .bool neg) (y7 := .string (bs mg)) HN.out
      exact ⟨_, _, _, rfl, HNB.out, hz, HOIF.out.other hset (fun g hg e => HDI.out g hg e), HOMF.out.other hset (fun g hg e => HDM.out g hg e), HDI.out, HDM.out, upd_newE HV.out hset HNB.out⟩
  case rest =>
    obtain ⟨nb, ui, um, rfl, hnb, hb, hoi, hom, hdi, hdm, hu⟩ := hcut
    obtain ⟨Ai, ci, rfl, _⟩ := hoi.form
    obtain ⟨Am, cm, rfl, _⟩ := hom.form
    have HNB : Hid (w1.heap.size ≤ nb) := hnb
    have HPO2 := Lib.hid (HPO.out wc (HU.out.trans hu))
    have HOI := Lib.hid hoi
    have HOM := Lib.hid hom
    have HDI : Hid (∀ g, (Value.slice Ai pis.length ci).ownBlock = some g → g ≠ nb) := hdi
    have HDM : Hid (∀ g, (Value.slice Am pms.length cm).ownBlock = some g → g ≠ nb) := hdm
    have HUC := Lib.hid (HU.out.trans hu)
    have HN := Lib.hid hb
    have HB2 := Lib.hid (hu.heap HB.out id)
    obtain ⟨a0, a1, a2, a3, a4, a5, a6, a7⟩ := cells8 (hu.heap HA.out id)
    clear hu hb hoi hom hdi hdm hnb HPO HPI HMO HB HME HMN HMZ HS64
    go_wp2_with fail
    refine HPO2.out.mono ?_
    rintro e w2 ⟨v, rfl, ho, u2⟩
    obtain ⟨Ap, cp, rfl, _⟩ := ho.form
    have HNC : Hid (nb < wc.heap.size) := lt_of_heap HN.out
    have HNW : Hid (nb < w2.heap.size) := Nat.lt_of_lt_of_le (lt_of_heap HN.out) u2.size
    have HXP := Lib.hid ho
    have HOI2 := Lib.hid (HOI.out.upd u2)
    have HOM2 := Lib.hid (HOM.out.upd u2)
    have HN2 := Lib.hid (u2.heap HN.out id)
    have HU2 := Lib.hid (HUC.out.trans u2)
    have HB3 := Lib.hid (u2.heap HB2.out id)
    clear ho u2 HPO2 HOI HOM HN HUC HB2 a0 a1 a2 a3 a4 a5 a6 a7
    have hpl : ((pos.length : Nat) : Int) ≤ 10 := by have := HL2.out; omega
    go_wp2_with fail
    go_loopw [33] (fun i wr => ∃ k : Nat, i = .int .i64 k ∧ k ≤ pos.length ∧ (∃ uo, wr.heap[nb]? = some (.cells #[.int .i64 lv, .slice Ai pis.length ci, uo, .slice Am pms.length cm, .int .i64 er, .int .i64 tot, .bool neg, .string (bs mg)] 68 (0, 0)) ∧ kHash.Own w2.heap.size wr uo ((pos.take k).map (·.1))) ∧ Upd (fun b => b = nb) w2 wr) (fun i _ => pos.length - (intOf i).toNat)
    case atStart => exact ⟨0, rfl, Nat.zero_le _, ⟨_, HN2.out, Kd.Own.nil _ _ _⟩, Upd.refl _ _⟩
    case round =>
      obtain ⟨k, rfl, hk, ⟨uo, hb, ho⟩, hu⟩ := hrel
      have HN3 := Lib.hid hb
      have HO := Lib.hid ho
      have HU3 := Lib.hid hu
      obtain ⟨Ao, co, hform, _⟩ := ho.form
      have hlk : ((pos.take k).map (·.1)).length = k := by rw [List.length_map, List.length_take]; omega
      rw [hlk] at hform
      subst hform
      have HLK := Lib.hid hlk
      clear hb ho hu hlk
      by_cases hlt : k < pos.length
      · have hlt' : ((k : Nat) : Int) < ((pos.length : Nat) : Int) := by omega
        have HK : Hid (k < pos.length) := hlt
        obtain ⟨A', cap', e', _, hx⟩ := (HXP.out.fresh HU3.out HNC.out).rd
        cases e'
        obtain ⟨b, off, rfl, f1⟩ := hx (by omega)
        have hat := f1 k hlt
        have hk64 : kPart.k = 64 := rfl
        rw [hk64] at hat
        have HAT := Lib.hid hat
        have HTK : Hid ((pos.take (k + 1)).map (·.1) = (pos.take k).map (·.1) ++ [(pos[k]).1]) := by
          show _ = _
          rw [List.take_succ_eq_append_getElem hlt, List.map_append]; rfl
        clear f1 hat hk64 hx
        generalize pos[k] = pk at *
        clear hlt
        have HI : Hid ((Tryz.prog.info? 83).map (·.size) = some (partC pk).length) := by show _ = _; rw [partC_len]; kernel_rfl
        have HST : ∀ c : Array Value, c.size = 64 → (storeCells ⟨wr.heap.size, 0, none⟩ (partC pk) 0).run Tryz.prog (wr.alloc (.cells c 83)) = .ok () (wr.alloc (.cells (partC pk).toArray 83)) := fun c hc => by
          have := run_storeCells_new (P := Tryz.prog) wr 83 c (partC pk).toArray (by simpa using HI.out) (by simp [hc, partC_len]) (all_oneCell_toArray (partC_one pk))
          simpa using this
        have hlen := partC_len pk
        go_upto_region 5 with (first | (refine wpList_load_mid rfl _ _ rfl b (off + k * 64) rfl (partC pk) _ HAT.out Tryz.underlying83 rfl HI.out ?_))
        clear HST HAT HI hlen
        have HR1 : Hid (kPart.At (wr.alloc (.cells (partC pk).toArray 83)) wr.heap.size 0 pk) := by
          show World.rangeAt _ _ _ _
          intro j v hv
          rw [Nat.zero_add, cell_of_row _ _ j (partC pk).toArray 83 (0, 0) (heap_alloc_last wr _)]
          have hv' : (partC pk)[j]? = some v := hv
          simpa using hv'
        have hal := (Upd.refl noBlk wr).alloc (.cells (partC pk).toArray 83)
        have HU4 := Lib.hid (HU3.out.alloc (.cells (partC pk).toArray 83))
        have HN4 := Lib.hid (hal.heap HN3.out id)
        have HO4 := Lib.hid (HO.out.upd hal)
        clear hal HN3 HO HU3
        generalize wr.heap.size = pb at *
        generalize wr.alloc (.cells (partC pk).toArray 83) = wa at *
        obtain ⟨ra, rb⟩ := part_ranges HR1.out
        have RA := Lib.hid ra
        clear ra rb HR1
        obtain ⟨g, cap2, w4, hrun, ho4, hu4, hat4⟩ := HO4.out.app1 HU4.out.size pk.1 (by rw [HLK.out]; have := HK.out; have := HL2.out; omega)
        rw [HLK.out] at hrun ho4
        rw [← HTK.out] at ho4
        have HRUN := Lib.hid hrun
        have HO5 := Lib.hid ho4
        have HGE : Hid (∀ i, (Value.slice Ao k co).ownBlock = some i → w2.heap.size ≤ i) := fun i e => (HO4.out.blk e).1
        have HU5 := Lib.hid (HU4.out.then hu4 (fun i hi e => absurd hi (by have := HGE.out i e; omega)))
        have HN5 := Lib.hid (hu4.heap HN4.out (fun e => by have := HGE.out nb e; have := HNW.out; omega))
        have HSZ : Hid ((sizeOf 81).run Tryz.prog wa = .ok 32 wa) := by show _ = _; kernel_rfl
        have HZ : Hid ((zeroValue 81).run Tryz.prog wa = .ok (.agg (Array.replicate 32 (.int .u8 0))) wa) := by show _ = _; kernel_rfl
        have HIH := Lib.hid (size_hash pk.1)
        have HLH : Hid ((byV pk.1.1).length = 32) := by show _ = _; rw [byV_len, pk.1.2]
        clear hrun ho4 hu4 HU4 HO4
        obtain ⟨⟨a0, a1, a2, a3, a4, a5, a6, a7⟩, _⟩ := cellsF8 HN4.out
        obtain ⟨⟨b0, b1, b2, b3, b4, b5, b6, b7⟩, ⟨f0, f1, f2, f3, f4, f5, f6, f7⟩⟩ := cellsF8 HN5.out
        go_wp2_with (first | (refine wpList_load_mid rfl _ _ rfl pb 0 rfl (byV pk.1.1) _ RA.out Tryz.underlying81 rfl HIH.out ?_) | (refine wpList_val rfl (.slice (some ⟨wa.heap.size, 0, none⟩) 1 1) (wa.alloc (.cells (byV pk.1.1).toArray 81)) (exec_build1 wa _ (byV pk.1.1) Tryz.underlying63 HSZ.out HZ.out (by decide) (by decide) HLH.out rfl rfl) ?_) | (at_builtin; refine wpList_append_run rfl _ _ _ rfl rfl rfl HRUN.out ?_))
        have s2 := heap_setCell_eq (i := 2) (.slice (some ⟨g, 0, none⟩) (k + 1) cap2) HN5.out
        have hset := (Upd.refl (fun b => b = nb) w4).setCell (p := ⟨nb, 2, none⟩) (fun _ => rfl) (.slice (some ⟨g, 0, none⟩) (k + 1) cap2)
        exact ⟨⟨k + 1, by push_cast; rfl, HK.out, ⟨_, s2, HO5.out.fresh hset HNW.out⟩, HU5.out.trans hset⟩, by simp only [intOf]; have := HK.out; omega⟩
      · obtain rfl : k = pos.length := by omega
        rw [List.take_length] at HO
        have HBR := Lib.hid (HU3.out.heap HB3.out (fun e => by have e' : bb = nb := e; have := HNB.out; have := HBW.out; omega))
        have HOI3 := Lib.hid (HOI2.out.other HU3.out (fun g hg e => HDI.out g hg e))
        have HOM3 := Lib.hid (HOM2.out.other HU3.out (fun g hg e => HDM.out g hg e))
        have HUW := Lib.hid (upd_newE HU2.out HU3.out (by have := HNB.out; have h1 : w.heap.size ≤ w1.heap.size := HU.out.size; omega))
        have HSW : Hid (w.heap.size ≤ w1.heap.size ∧ w.heap.size ≤ w2.heap.size ∧ bb < w2.heap.size ∧ w.heap.size ≤ bb) := ⟨HU.out.size, HU2.out.size, lt_of_heap HB3.out, by have := HWA.out; have := HBB.out; omega⟩
        clear HU3 HB3 HOI2 HOM2 HXP HLK
        obtain ⟨⟨a0, a1, a2, a3, a4, a5, a6, a7⟩, _⟩ := cellsF8 HN3.out
        obtain ⟨_, ⟨f0, f1, f2, f3, f4, f5, f6, f7⟩⟩ := cellsF8 HBR.out
        go_wp2_with fail
        obtain ⟨hz, hset⟩ := set8 (y0 := .int .i64 lv) (y1 := .slice Ai pis.length ci) (y2 := .slice Ao pos.length co) (y3 := .slice Am pms.length cm) (y4 := .int .i64 er) (y5 := .int .i64 tot) (y6 := .bool neg) (y7 := .string (bs mg)) HBR.out
        (try simp only [Exit.inBlock, Exit.then])
        refine bodyPost_ret (results_cell_row rfl _ _ bb 68 _ (0, 0) _ rfl hz Tryz.underlying68 rfl (by kernel_rfl)) rfl ?_
        have hs := HSW.out
        exact ⟨_, _, _, rfl, (HOI3.out.fresh hset HBW.out).mono hs.1, (HO.out.fresh hset hs.2.2.1).mono hs.2.1, (HOM3.out.fresh hset HBW.out).mono hs.1, upd_newE HUW.out hset hs.2.2.2⟩
end Go.Proofs.YtcikldoaidmnhaaGreatDoor
namespace Go.Proofs.YtcikldoaidmnhaaGreatDoor
open Go Go.RowKit Go.ChangeShapes Go.WideShapes Go.ChangeAt
set_option maxRecDepth 100000
theorem kSix_of_argL {W : World} {v : Value} {l : List Pk.Mv} (h : ArgL 6 (fun cs (c : Pk.Mv) => cs = mvC c) W v l) : kSix.Rd W v l ∧ l.length ≤ 9223372036854775807 := by
  obtain ⟨A, cap, rfl, h1, h2, h3⟩ := h
  refine ⟨⟨A, cap, rfl, h2, fun h0 => ?_⟩, by unfold maxLen at h3; omega⟩
  obtain ⟨b, off, e, h4⟩ := h1 h0
  refine ⟨b, off, e, fun j hj => ?_⟩
  obtain ⟨cs, _, rfl, h5⟩ := h4 j hj
  exact h5
theorem c6_of_trod {H : Type} {enc : TypeId × Value → H} {W : World} {n : Nat} {cs : List Value} {x : DataW H × List MemPlace} (hf : DataW.trod enc Tryz.prog W 0 (fun _ => true) true n 142 cs = some x) : ∃ m : Pk.Mv, cs = mvC m := by
  obtain ⟨xs, m, _, _, hl, hlen, hel⟩ := DataW.trod_array Tryz.underlying142 hf
  have hc1 : Tryz.prog.cellsOf 3 = 1 := by kernel_rfl
  have hc6 : Tryz.prog.cellsOf 142 = 6 := by kernel_rfl
  rw [hc6] at hl
  have get : ∀ i, i < 6 → ∃ z : Int, cs[i]? = some (.int .i64 z) := fun i hi => by
    have h := hel i hi
    rw [List.getElem?_eq_getElem (by omega : i < xs.length), hc1, Nat.mul_one] at h
    obtain ⟨z, e, _, _⟩ := DataW.trod_int Tryz.underlying3 h
    refine ⟨z, ?_⟩
    rw [List.take_one, List.head?_drop] at e
    cases hg : cs[i]? with
    | none => rw [hg] at e; cases e
    | some c => rw [hg] at e; simp at e; rw [e]
  obtain ⟨z0, g0⟩ := get 0 (by decide)
  obtain ⟨z1, g1⟩ := get 1 (by decide)
  obtain ⟨z2, g2⟩ := get 2 (by decide)
  obtain ⟨z3, g3⟩ := get 3 (by decide)
  obtain ⟨z4, g4⟩ := get 4 (by decide)
  obtain ⟨z5, g5⟩ := get 5 (by decide)
  refine ⟨((z0, z1, z2), (z3, z4, z5)), List.ext_getElem? fun i => ?_⟩
  rcases (by omega : i = 0 ∨ i = 1 ∨ i = 2 ∨ i = 3 ∨ i = 4 ∨ i = 5 ∨ 6 ≤ i) with rfl | rfl | rfl | rfl | rfl | rfl | h
  · exact g0
  · exact g1
  · exact g2
  · exact g3
  · exact g4
  · exact g5
  · rw [List.getElem?_eq_none (by omega), List.getElem?_eq_none (by show 6 ≤ i; omega)]
theorem sixes_of_trod {H : Type} {enc : TypeId × Value → H} {W : World} {n : Nat} {cs : List Value} {x : DataW H × List MemPlace} (hf : DataW.trod enc Tryz.prog W 0 (fun _ => true) true n 60 cs = some x) : ∃ v l, cs = [v] ∧ kSix.Rd W v l ∧ l.length ≤ 9223372036854775807 := by
  obtain ⟨v, l, rfl, h⟩ := listF_of_reading (size := 6) (by decide) (fun cs (c : Pk.Mv) => cs = mvC c) Tryz.underlying60 (by kernel_rfl) (fun n cs x hx => c6_of_trod hx) hf
  exact ⟨v, l, rfl, kSix_of_argL h⟩
theorem i64_wf {z : Int} (h : (Lit.int .i64 z).wf = true) : -9223372036854775808 ≤ z ∧ z ≤ 9223372036854775807 := by
  simp [Lit.wf, IntKind.min, IntKind.max, IntKind.signed, IntKind.bits] at h
  omega
/-- The bounds of the fields' values. -/
structure FV.Ok (x : FV) : Prop where
  ins : x.ins.length ≤ 9223372036854775807
  outs : x.outs.length ≤ 9223372036854775807
  moves : x.moves.length ≤ 9223372036854775807
  mag : x.mag.length ≤ 9223372036854775807
  level : x.level ≤ 9223372036854775807
  err : x.err ≤ 9223372036854775807
  total : x.total ≤ 9223372036854775807
structure FV.Rd (x : FV) (w : World) (vi vo vm : Value) : Prop where
  ins : kInt.Rd w vi x.ins
  outs : kInt.Rd w vo x.outs
  moves : kSix.Rd w vm x.moves
theorem fields_of_reading {H : Type} {enc : TypeId × Value → H} {W : World} {d : DataW H} {p : List MemPlace} {v : Value}
    (hval : Value.okWide Tryz.prog W .any 0 62 v) (h : DataW.Trod enc Tryz.prog W 0 (fun _ => true) true 62 v d p) : ∃ (x : FV) (vi vo vm : Value), v = x.V vi vo vm ∧ x.Rd W vi vo vm ∧ x.Ok := by
  obtain ⟨a, rfl, hsz⟩ := okWide_struct Tryz.underlying62 hval
  have h8 : Tryz.prog.cellsOf 62 = 8 := by kernel_rfl
  rw [h8] at hsz
  obtain ⟨fuel, hf⟩ := h
  obtain ⟨xs, n, _, _, _, hlen, hfl⟩ := DataW.trod_struct Tryz.underlying62 hf
  obtain ⟨l⟩ := a
  match l, hsz with
  | [c0, c1, c2, c3, c4, c5, c6, c7], _ =>
    match xs, hlen with
    | [x0, x1, x2, x3, x4, x5, x6, x7], _ =>
      have ci : Tryz.prog.cellsOf 3 = 1 := by kernel_rfl
      have cl : Tryz.prog.cellsOf 23 = 1 := by kernel_rfl
      have cs : Tryz.prog.cellsOf 60 = 1 := by kernel_rfl
      have cb : Tryz.prog.cellsOf 4 = 1 := by kernel_rfl
      have ct : Tryz.prog.cellsOf 9 = 1 := by kernel_rfl
      have g0 : DataW.trod enc Tryz.prog W 0 (fun _ => true) true n 3 [c0] = some x0 := by
        have h := hfl 0 _ rfl
        have e := field_cell (P := Tryz.prog) (o := 0) (t := 3) (cs := [c0, c1, c2, c3, c4, c5, c6, c7]) (c := c0) ci rfl
        rw [← e]; exact h
      have g1 : DataW.trod enc Tryz.prog W 0 (fun _ => true) true n 3 [c1] = some x1 := by
        have h := hfl 1 _ rfl
        have e := field_cell (P := Tryz.prog) (o := 1) (t := 3) (cs := [c0, c1, c2, c3, c4, c5, c6, c7]) (c := c1) ci rfl
        rw [← e]; exact h
      have g2 : DataW.trod enc Tryz.prog W 0 (fun _ => true) true n 3 [c2] = some x2 := by
        have h := hfl 2 _ rfl
        have e := field_cell (P := Tryz.prog) (o := 2) (t := 3) (cs := [c0, c1, c2, c3, c4, c5, c6, c7]) (c := c2) ci rfl
        rw [← e]; exact h
      have g3 : DataW.trod enc Tryz.prog W 0 (fun _ => true) true n 23 [c3] = some x3 := by
        have h := hfl 3 _ rfl
        have e := field_cell (P := Tryz.prog) (o := 3) (t := 23) (cs := [c0, c1, c2, c3, c4, c5, c6, c7]) (c := c3) cl rfl
        rw [← e]; exact h
      have g4 : DataW.trod enc Tryz.prog W 0 (fun _ => true) true n 23 [c4] = some x4 := by
        have h := hfl 4 _ rfl
        have e := field_cell (P := Tryz.prog) (o := 4) (t := 23) (cs := [c0, c1, c2, c3, c4, c5, c6, c7]) (c := c4) cl rfl
        rw [← e]; exact h
      have g5 : DataW.trod enc Tryz.prog W 0 (fun _ => true) true n 60 [c5] = some x5 := by
        have h := hfl 5 _ rfl
        have e := field_cell (P := Tryz.prog) (o := 5) (t := 60) (cs := [c0, c1, c2, c3, c4, c5, c6, c7]) (c := c5) cs rfl
        rw [← e]; exact h
      have g6 : DataW.trod enc Tryz.prog W 0 (fun _ => true) true n 4 [c6] = some x6 := by
        have h := hfl 6 _ rfl
        have e := field_cell (P := Tryz.prog) (o := 6) (t := 4) (cs := [c0, c1, c2, c3, c4, c5, c6, c7]) (c := c6) cb rfl
        rw [← e]; exact h
      have g7 : DataW.trod enc Tryz.prog W 0 (fun _ => true) true n 9 [c7] = some x7 := by
        have h := hfl 7 _ rfl
        have e := field_cell (P := Tryz.prog) (o := 7) (t := 9) (cs := [c0, c1, c2, c3, c4, c5, c6, c7]) (c := c7) ct rfl
        rw [← e]; exact h
      obtain ⟨z0, e0, _, w0⟩ := DataW.trod_int Tryz.underlying3 g0
      obtain ⟨z1, e1, _, w1⟩ := DataW.trod_int Tryz.underlying3 g1
      obtain ⟨z2, e2, _, w2⟩ := DataW.trod_int Tryz.underlying3 g2
      obtain ⟨v3, l3, e3, r3, b3⟩ := ints_of_trod g3
      obtain ⟨v4, l4, e4, r4, b4⟩ := ints_of_trod g4
      obtain ⟨v5, l5, e5, r5, b5⟩ := sixes_of_trod g5
      obtain ⟨z6, e6, _⟩ := DataW.trod_bool Tryz.underlying4 g6
      obtain ⟨z7, e7, _, w7⟩ := DataW.trod_string Tryz.underlying9 g7
      simp only [List.cons.injEq, and_true] at e0 e1 e2 e3 e4 e5 e6 e7
      subst e0; subst e1; subst e2; subst e3; subst e4; subst e5; subst e6; subst e7
      refine ⟨⟨z0, z1, z2, l3, l4, l5, z6, z7.data.toList⟩, c3, c4, c5, rfl, ⟨r3, r4, r5⟩, ⟨b3, b4, b5, ?_, (i64_wf w0).2, (i64_wf w1).2, (i64_wf w2).2⟩⟩
      have : z7.data.toList.length = z7.size := Array.length_toList
      show z7.data.toList.length ≤ _
      unfold maxLen at w7; omega
end Go.Proofs.YtcikldoaidmnhaaGreatDoor
