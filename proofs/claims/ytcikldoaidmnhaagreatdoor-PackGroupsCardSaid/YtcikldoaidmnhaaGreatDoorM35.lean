/- The law of the packets of groups. No condition. -/
import Derived.Test.YtcikldoaidmnhaaGreatDoorM30
import Derived.Test.YtcikldoaidmnhaaGreatDoorM33
import Derived.Test.YtcikldoaidmnhaaGreatDoorM31
import Derived.Test.YtcikldoaidmnhaaGreatDoorM34
namespace Go.Proofs.YtcikldoaidmnhaaGreatDoor
open Go Go.RowKit Pk
set_option maxRecDepth 100000
theorem hash_plain (l : List H32) : (l.map (·.1)).map h32 = l := by
  rw [List.map_map]
  have : l.map (h32 ∘ (fun p : H32 => p.1)) = l.map id := List.map_congr_left (fun p _ => h32_mk p.2)
  rw [this, List.map_id]
theorem GV.good (y : GV) : goodG y.g := ⟨fun p hp => good_plain y.ins p hp, fun h hh => by
  obtain ⟨p, _, rfl⟩ := List.mem_map.1 hh
  exact p.2⟩
theorem FV.gv_ok {x : FV} (h : x.Ok) : x.gv.Ok ∧ x.gv.ins.length ≤ 10 ∧ x.gv.outs.length ≤ 10 ∧ x.gv.moves.length ≤ 10 ∧ x.gv.mag.length ≤ 40 := by
  have hm : x.gv.mag.length ≤ 40 := by show (x.mag.take 40).length ≤ 40; rw [List.length_take]; omega
  refine ⟨⟨?_, ?_, ?_, by omega⟩, ?_, ?_, ?_, hm⟩
  · show x.level < _; have := h.level; omega
  · show x.err < _; have := h.err; omega
  · show x.total < _; have := h.total; omega
  · show ((x.ins.take 10).map partOf).length ≤ 10; rw [List.length_map, List.length_take]; omega
  · show (((x.outs.take 10).map partOf).map (·.1)).length ≤ 10; rw [List.length_map, List.length_map, List.length_take]; omega
  · show ((x.moves.take 10).map moveOf).length ≤ 10; rw [List.length_map, List.length_take]; omega
theorem GV.back {y : GV} (hy : y.Ok) (hm : y.mag.length ≤ 40) (hr : rightG y.g = true) : grpR (groupB y.g) = some y.g :=
  group_back hr y.good ⟨by have h : y.level < 9223372036854775808 := hy.level; show y.level ≤ _; omega, by have h : y.err < 9223372036854775808 := hy.err; show y.err ≤ _; omega, by have h : y.total < 9223372036854775808 := hy.total; show y.total ≤ _; omega⟩ (by show y.mag.length < _; omega)
theorem flat_le {α : Type} (f : α → Bytes) (b : Nat) : ∀ l : List α, (∀ x, x ∈ l → (f x).length ≤ b) → (l.flatMap f).length ≤ l.length * b
  | [], _ => by simp
  | x :: l, h => by
    have h1 := h x (by simp)
    have h2 := flat_le f b l (fun y hy => h y (List.mem_cons_of_mem _ hy))
    rw [List.flatMap_cons, List.length_append, List.length_cons, Nat.add_mul]
    omega
theorem groupB_len {y : GV} (hy : y.Ok) (hr : rightG y.g = true) (hl : y.ins.length ≤ 10 ∧ y.outs.length ≤ 10 ∧ y.moves.length ≤ 10 ∧ y.mag.length ≤ 40) : (groupB y.g).length ≤ 10000 := by
  obtain ⟨l1, l2, l3, l4⟩ := hl
  obtain ⟨_, _, hm⟩ := right_parts hr
  have e1 : (digB y.level.toNat).length ≤ 10 := digB_ten (by have h : y.level < 9223372036854775808 := hy.level; omega)
  have e2 : (digB y.err.toNat).length ≤ 10 := digB_ten (by have h : y.err < 9223372036854775808 := hy.err; omega)
  have e3 : (digB y.total.toNat).length ≤ 10 := digB_ten (by have h : y.total < 9223372036854775808 := hy.total; omega)
  have e4 : (digB y.outs.length).length ≤ 10 := digB_ten (by omega)
  have e5 : (digB y.moves.length).length ≤ 10 := digB_ten (by omega)
  have e6 : (digB (sizeG y.g)).length ≤ 10 := digB_ten (by unfold sizeG; show 2 * y.mag.length + _ < _; split <;> omega)
  have e7 := partsB_len y.ins (by omega)
  have e8 : ((y.outs.map (·.1)).flatten).length ≤ 320 := by
    rw [flatten_flatMap]
    have := flat_le id 32 (y.outs.map (·.1)) (fun h hh => by obtain ⟨p, _, rfl⟩ := List.mem_map.1 hh; exact Nat.le_of_eq p.2)
    rw [List.length_map] at this
    omega
  have e9 : (y.moves.flatMap (fun m => (coordsM m).flatMap (fun n => digB n.toNat))).length ≤ 600 := by
    have h2 := flat_le (fun m : Mv => (coordsM m).flatMap (fun n => digB n.toNat)) 60 y.moves (fun m hm2 => by
      have h3 := flat_le (fun n : Int => digB n.toNat) 10 (coordsM m) (fun n hn => digB_ten (by
        have h4 := List.all_eq_true.1 (List.all_eq_true.1 hm m hm2) n hn
        unfold insideC at h4
        have h5 := of_decide_eq_true h4
        omega))
      have h6 : (coordsM m).length = 6 := rfl
      rw [h6] at h3
      exact h3)
    exact Nat.le_trans h2 (Nat.le_trans (Nat.mul_le_mul_right _ l3) (by decide))
  have hg : groupB y.g = 2 :: (digB y.level.toNat ++ partsB (y.ins.map plainP) ++ (digB (y.outs.map (·.1)).length ++ (y.outs.map (·.1)).flatten) ++ (digB y.moves.length ++ y.moves.flatMap (fun m => (coordsM m).flatMap (fun n => digB n.toNat))) ++ digB y.err.toNat ++ digB y.total.toNat ++ digB (sizeG y.g) ++ y.mag) := rfl
  rw [hg, List.length_map]
  simp only [List.length_cons, List.length_append]
  omega
theorem grpC_g (y : GV) (a b c : Value) : grpC y.g a b c = #[.int .i64 y.level, a, b, c, .int .i64 y.err, .int .i64 y.total, .bool y.neg, .string (bs y.mag)] := rfl
set_option maxHeartbeats 4000000 in
theorem lawPackGroups_c (x : FV) (vi vo vm : Value) (hx : x.Ok) (w : World) (h : x.Rd w vi vo vm) : Calls Tryz.prog 10 #[x.V vi vo vm] w fun en w' => en = .returned (.bool true) ∧ Upd noBlk w w' := by
  have HS := fun W => Lib.hid (sanity_any W)
  have HGP : Hid (∀ W, Upd noBlk w W → Calls Tryz.prog 31 #[x.V vi vo vm] W fun en w' => ∃ ui uo um, en = .returned (x.gv.V ui uo um) ∧ kPart.Own W.heap.size w' ui x.gv.ins ∧ kHash.Own W.heap.size w' uo x.gv.outs ∧ kMove.Own W.heap.size w' um x.gv.moves ∧ Upd noBlk W w') := fun W hW => group_any x vi vo vm W hx.ins hx.outs hx.moves hx.mag (h.ins.keep hW) (h.outs.keep hW) (h.moves.keep hW)
  obtain ⟨hok, l1, l2, l3, l4⟩ := FV.gv_ok hx
  have HOK := Lib.hid hok
  have HL : Hid (x.gv.ins.length ≤ 10 ∧ x.gv.outs.length ≤ 10 ∧ x.gv.moves.length ≤ 10 ∧ x.gv.mag.length ≤ 40) := ⟨l1, l2, l3, l4⟩
  clear hok l1 l2 l3 l4
  obtain ⟨y, hy⟩ : ∃ y, y = x.gv := ⟨_, rfl⟩
  rw [← hy] at HGP HOK HL
  clear hy
  obtain ⟨Ai, ci, hvi, _⟩ := h.ins
  obtain ⟨Ao, co, hvo, _⟩ := h.outs
  obtain ⟨Am, cm, hvm, _⟩ := h.moves
  subst hvi hvo hvm
  clear h hx
  unfold FV.V at *
  go_enter Tryz.func10, Tryz.ntmps10
  have HX : Hid ((w.alloc (.cells #[.int .i64 x.level, .int .i64 x.err, .int .i64 x.total, .slice Ai x.ins.length ci, .slice Ao x.outs.length co, .slice Am x.moves.length cm, .bool x.neg, .string (bs x.mag)] 62)).heap[w.heap.size]? = some (.cells #[.int .i64 x.level, .int .i64 x.err, .int .i64 x.total, .slice Ai x.ins.length ci, .slice Ao x.outs.length co, .slice Am x.moves.length cm, .bool x.neg, .string (bs x.mag)] 62 (0, 0))) := heap_alloc_new w _
  have HU0 : Hid (Upd noBlk w (w.alloc (.cells #[.int .i64 x.level, .int .i64 x.err, .int .i64 x.total, .slice Ai x.ins.length ci, .slice Ao x.outs.length co, .slice Am x.moves.length cm, .bool x.neg, .string (bs x.mag)] 62))) := (Upd.refl _ w).alloc _
  go_upto_region 1 with fail
  generalize w.heap.size = xb at *
  generalize w.alloc (.cells #[.int .i64 x.level, .int .i64 x.err, .int .i64 x.total, .slice Ai x.ins.length ci, .slice Ao x.outs.length co, .slice Am x.moves.length cm, .bool x.neg, .string (bs x.mag)] 62) = w0 at *
  go_wp2_with fail
  refine (HS _).out.mono ?_
  rintro e w1 ⟨rfl, u1⟩
  have U1 := Lib.hid (HU0.out.trans u1)
  have HX1 := Lib.hid (u1.heap HX.out id)
  have HG1 := Lib.hid (HGP.out w1 U1.out)
  clear u1 HS HGP HX HU0
  obtain ⟨a0, a1, a2, a3, a4, a5, a6, a7⟩ := cells8 HX1.out
  go_wp2_with fail
  refine HG1.out.mono ?_
  rintro e w2 ⟨ui, uo, um, rfl, hi, ho, hm, u2⟩
  have U2 := Lib.hid (U1.out.trans u2)
  clear a0 a1 a2 a3 a4 a5 a6 a7 HG1 u2 HX1 U1
  have HBK : Hid (rightG y.g = true → grpR (groupB y.g) = some y.g) := fun hr => GV.back HOK.out HL.out.2.2.2 hr
  have HOI := Lib.hid (hi.mono (Nat.zero_le _))
  have HOO := Lib.hid (ho.mono (Nat.zero_le _))
  have HOM := Lib.hid (hm.mono (Nat.zero_le _))
  obtain ⟨Bi, di, hvi, _⟩ := hi.form
  obtain ⟨Bo, do_, hvo, _⟩ := ho.form
  obtain ⟨Bm, dm, hvm, _⟩ := hm.form
  subst hvi hvo hvm
  clear hi ho hm
  have HGB : Hid (∀ W, Upd noBlk w2 W → Calls Tryz.prog 32 #[y.V (.slice Bi y.ins.length di) (.slice Bo y.outs.length do_) (.slice Bm y.moves.length dm)] W fun en w' => strR (if rightG y.g = true then groupB y.g else []) W en w') := fun W hW => Group_any y HOK.out _ _ _ W (HOI.out.upd hW).rd (HOO.out.upd hW).rd (HOM.out.upd hW).rd
  have HJB : Hid (∀ W, Upd noBlk w2 W → Calls Tryz.prog 33 #[y.V (.slice Bi y.ins.length di) (.slice Bo y.outs.length do_) (.slice Bm y.moves.length dm)] W fun en w' => strR (if rightG y.g = true then groupB y.g else []) W en w') := fun W hW => jGroup_any y HOK.out _ _ _ W (HOI.out.upd hW).rd (HOO.out.upd hW).rd (HOM.out.upd hW).rd
  have HJR : Hid (∀ W, Upd noBlk w2 W → Calls Tryz.prog 34 #[y.V (.slice Bi y.ins.length di) (.slice Bo y.outs.length do_) (.slice Bm y.moves.length dm)] W fun en w' => en = .returned (.bool (rightG y.g)) ∧ Upd noBlk W w') := fun W hW => jRight_any y _ _ _ W (HOI.out.upd hW).rd (HOO.out.upd hW).rd (HOM.out.upd hW).rd
  have HSM : Hid (∀ W wi wo wm, Upd noBlk w2 W → kPart.Rd W wi y.ins → kHash.Rd W wo y.outs → kMove.Rd W wm y.moves → Calls Tryz.prog 36 #[y.V wi wo wm, y.V (.slice Bi y.ins.length di) (.slice Bo y.outs.length do_) (.slice Bm y.moves.length dm)] W fun en w' => en = .returned (.bool true) ∧ Upd noBlk W w') := fun W wi wo wm hW r1 r2 r3 => jSameGroup_same y _ _ _ _ _ _ W (by have := HL.out.1; omega) (by have := HL.out.2.1; omega) (by have := HL.out.2.2.1; omega) r1 r2 r3 (HOI.out.upd hW).rd (HOO.out.upd hW).rd (HOM.out.upd hW).rd
  have HSZ : Hid (rightG y.g = true → (groupB y.g).length ≤ 10000) := fun hr => groupB_len HOK.out hr HL.out
  have HPS : Hid (∀ g : Grp, g = y.g → g.ins.map p32 = y.ins ∧ g.outs.map h32 = y.outs ∧ g.moves.map id = y.moves) := by
    rintro g rfl
    exact ⟨p32_plain y.ins, hash_plain y.outs, List.map_id _⟩
  unfold GV.V at *
  have HB : Hid ((w2.alloc (.cells #[.int .i64 y.level, .slice Bi y.ins.length di, .slice Bo y.outs.length do_, .slice Bm y.moves.length dm, .int .i64 y.err, .int .i64 y.total, .bool y.neg, .string (bs y.mag)] 68)).heap[w2.heap.size]? = some (.cells #[.int .i64 y.level, .slice Bi y.ins.length di, .slice Bo y.outs.length do_, .slice Bm y.moves.length dm, .int .i64 y.err, .int .i64 y.total, .bool y.neg, .string (bs y.mag)] 68 (0, 0))) := heap_alloc_new w2 _
  have HAL : Hid (Upd noBlk w2 (w2.alloc (.cells #[.int .i64 y.level, .slice Bi y.ins.length di, .slice Bo y.outs.length do_, .slice Bm y.moves.length dm, .int .i64 y.err, .int .i64 y.total, .bool y.neg, .string (bs y.mag)] 68))) := (Upd.refl _ w2).alloc _
  go_upto_region 3 with fail
  generalize w2.alloc (.cells #[.int .i64 y.level, .slice Bi y.ins.length di, .slice Bo y.outs.length do_, .slice Bm y.moves.length dm, .int .i64 y.err, .int .i64 y.total, .bool y.neg, .string (bs y.mag)] 68) = w3 at *
  generalize w2.heap.size = gb at *
  have HG3 := Lib.hid (HGB.out _ HAL.out)
  clear HGB
  obtain ⟨b0, b1, b2, b3, b4, b5, b6, b7⟩ := cells8 HB.out
  rcases hr : rightG y.g with _ | _
  · rw [hr] at HG3 HJB HJR
    rw [if_neg (by decide)] at HG3 HJB
    have HOP := fun W => Lib.hid (OpenGroup_any [] (by decide) W)
    have e0 : grpR [] = none := rfl
    rw [e0] at HOP
    have HSN : Hid (∀ W, Calls Tryz.prog 36 #[.agg #[.int .i64 0, .slice none 0 0, .slice none 0 0, .slice none 0 0, .int .i64 0, .int .i64 0, .bool false, .string ⟨#[]⟩], .agg #[.int .i64 0, .slice none 0 0, .slice none 0 0, .slice none 0 0, .int .i64 0, .int .i64 0, .bool false, .string ⟨#[]⟩]] W fun en w' => en = .returned (.bool true) ∧ Upd noBlk W w') := fun W => jSameGroup_same ⟨0, [], [], [], 0, 0, false, []⟩ _ _ _ _ _ _ W (by decide) (by decide) (by decide) (Kd.Rd.nil _ _) (Kd.Rd.nil _ _) (Kd.Rd.nil _ _) (Kd.Rd.nil _ _) (Kd.Rd.nil _ _) (Kd.Rd.nil _ _)
    clear hr HBK HSZ HPS HSM HOI HOO HOM HOK HL
    go_wp2_with fail
    refine HG3.out.mono ?_
    rintro e w4 ⟨rfl, u4⟩
    have U4 := Lib.hid (HAL.out.trans u4)
    have HB4 := Lib.hid (u4.heap HB.out id)
    have HJ4 := Lib.hid (HJB.out _ U4.out)
    clear b0 b1 b2 b3 b4 b5 b6 b7 HB HG3 u4 HJB
    obtain ⟨b0, b1, b2, b3, b4, b5, b6, b7⟩ := cells8 HB4.out
    have hbe : bs ([] : Bytes) = ⟨#[]⟩ := rfl
    rw [hbe] at HOP ⊢
    go_wp2_with fail
    refine HJ4.out.mono ?_
    rintro e w5 ⟨rfl, u5⟩
    have U5 := Lib.hid (U4.out.trans u5)
    have HB5 := Lib.hid (u5.heap HB4.out id)
    have HJ5 := Lib.hid (HJR.out _ U5.out)
    clear b0 b1 b2 b3 b4 b5 b6 b7 HB4 HJ4 u5 HJR U4
    obtain ⟨b0, b1, b2, b3, b4, b5, b6, b7⟩ := cells8 HB5.out
    rw [hbe]
    go_wp2_with fail
    refine HJ5.out.mono ?_
    rintro e w6 ⟨rfl, u6⟩
    have U6 := Lib.hid (U5.out.trans u6)
    clear b0 b1 b2 b3 b4 b5 b6 b7 HB5 HJ5 u6 U5
    go_wp2_with fail
    refine (HOP _).out.mono ?_
    rintro e w7 ⟨u7, rfl⟩
    have U7 := Lib.hid (U6.out.trans u7)
    clear u7 HOP U6
    have HZ : Hid ((w7.alloc (.cells #[.int .i64 0, .slice none 0 0, .slice none 0 0, .slice none 0 0, .int .i64 0, .int .i64 0, .bool false, .string ⟨#[]⟩] 68)).heap[w7.heap.size]? = some (.cells #[.int .i64 0, .slice none 0 0, .slice none 0 0, .slice none 0 0, .int .i64 0, .int .i64 0, .bool false, .string ⟨#[]⟩] 68 (0, 0))) := heap_alloc_new w7 _
    go_upto_region 7 with fail
    have U8 := Lib.hid (U7.out.alloc (.cells #[.int .i64 0, .slice none 0 0, .slice none 0 0, .slice none 0 0, .int .i64 0, .int .i64 0, .bool false, .string ⟨#[]⟩] 68))
    generalize w7.alloc (.cells #[.int .i64 0, .slice none 0 0, .slice none 0 0, .slice none 0 0, .int .i64 0, .int .i64 0, .bool false, .string ⟨#[]⟩] 68) = w8 at *
    generalize w7.heap.size = zb at *
    have HS8 := Lib.hid (HSN.out w8)
    obtain ⟨b0, b1, b2, b3, b4, b5, b6, b7⟩ := cells8 HZ.out
    go_wp2_with fail
    refine HS8.out.mono ?_
    rintro e w9 ⟨rfl, u9⟩
    have U9 := Lib.hid (U8.out.trans u9)
    clear u9
    go_wp2_with fail
    go_ret
    exact ⟨rfl, U2.out.trans U9.out⟩
  · have HBK2 := Lib.hid (HBK.out hr)
    have HSZ2 := Lib.hid (HSZ.out hr)
    rw [hr] at HG3 HJB HJR
    rw [if_pos rfl] at HG3 HJB
    clear hr HBK HSZ
    obtain ⟨S, hS⟩ : ∃ S, S = groupB y.g := ⟨_, rfl⟩
    have hS2 : ∃ r, S = 2 :: r := ⟨_, hS⟩
    rw [← hS] at HG3 HJB HBK2 HSZ2
    clear hS
    obtain ⟨r, hSr⟩ := hS2
    have he : (bs S).toList.isEmpty = false := by rw [hSr]; simp [bs]
    have hz : 0 < (bs S).size := by rw [bs_size, hSr]; simp
    have hnz : ¬ bs S = ByteArray.empty := fun h => by rw [h] at hz; cases hz
    have hnz2 : ((bs S).toList == []) = false := by rw [hSr]; simp [bs]
    have hss : ((bs S).toList == (bs S).toList) = true := by simp
    have HOP := fun W => Lib.hid (OpenGroup_any S (by have := HSZ2.out; omega) W)
    clear hSr
    rw [HBK2.out] at HOP
    go_wp2_with fail
    refine HG3.out.mono ?_
    rintro e w4 ⟨rfl, u4⟩
    have U4 := Lib.hid (HAL.out.trans u4)
    have HB4 := Lib.hid (u4.heap HB.out id)
    have HJ4 := Lib.hid (HJB.out _ U4.out)
    clear b0 b1 b2 b3 b4 b5 b6 b7 HB HG3 u4 HJB
    obtain ⟨b0, b1, b2, b3, b4, b5, b6, b7⟩ := cells8 HB4.out
    go_wp2_with fail
    refine HJ4.out.mono ?_
    rintro e w5 ⟨rfl, u5⟩
    have U5 := Lib.hid (U4.out.trans u5)
    have HB5 := Lib.hid (u5.heap HB4.out id)
    have HJ5 := Lib.hid (HJR.out _ U5.out)
    clear b0 b1 b2 b3 b4 b5 b6 b7 HB4 HJ4 u5 HJR U4
    obtain ⟨b0, b1, b2, b3, b4, b5, b6, b7⟩ := cells8 HB5.out
    go_wp2_with fail
    refine HJ5.out.mono ?_
    rintro e w6 ⟨rfl, u6⟩
    have U6 := Lib.hid (U5.out.trans u6)
    have HB6 := Lib.hid (u6.heap HB5.out id)
    clear b0 b1 b2 b3 b4 b5 b6 b7 HB5 HJ5 u6 U5
    go_wp2_with fail
    refine (HOP _).out.mono ?_
    rintro e w7 ⟨u7, wi, wo, wm, rfl, hat⟩
    have U7 := Lib.hid (U6.out.trans u7)
    have HB7 := Lib.hid (u7.heap HB6.out id)
    have hp := HPS.out y.g rfl
    have hi := hat.ins
    have ho := hat.outs
    have hm := hat.moves
    rw [hp.1] at hi
    rw [hp.2.1] at ho
    rw [hp.2.2] at hm
    rw [grpC_g]
    obtain ⟨Ci, ei, hvi, _⟩ := hi.form
    obtain ⟨Co, eo, hvo, _⟩ := ho.form
    obtain ⟨Cm, em, hvm, _⟩ := hm.form
    subst hvi hvo hvm
    have HI := Lib.hid (hi.mono (Nat.zero_le _))
    have HO := Lib.hid (ho.mono (Nat.zero_le _))
    have HM := Lib.hid (hm.mono (Nat.zero_le _))
    clear u7 HOP U6 hat hp hi ho hm HPS HBK2 HSZ2 HB6
    have HZ : Hid ((w7.alloc (.cells #[.int .i64 y.level, .slice Ci y.ins.length ei, .slice Co y.outs.length eo, .slice Cm y.moves.length em, .int .i64 y.err, .int .i64 y.total, .bool y.neg, .string (bs y.mag)] 68)).heap[w7.heap.size]? = some (.cells #[.int .i64 y.level, .slice Ci y.ins.length ei, .slice Co y.outs.length eo, .slice Cm y.moves.length em, .int .i64 y.err, .int .i64 y.total, .bool y.neg, .string (bs y.mag)] 68 (0, 0))) := heap_alloc_new w7 _
    have hal : Upd noBlk w7 (w7.alloc (.cells #[.int .i64 y.level, .slice Ci y.ins.length ei, .slice Co y.outs.length eo, .slice Cm y.moves.length em, .int .i64 y.err, .int .i64 y.total, .bool y.neg, .string (bs y.mag)] 68)) := (Upd.refl _ w7).alloc _
    have U8 := Lib.hid (U7.out.trans hal)
    have HB8 := Lib.hid (hal.heap HB7.out id)
    have HI8 := Lib.hid (HI.out.upd hal)
    have HO8 := Lib.hid (HO.out.upd hal)
    have HM8 := Lib.hid (HM.out.upd hal)
    clear hal U7 HB7 HI HO HM
    go_upto_region 7 with fail
    generalize w7.alloc (.cells #[.int .i64 y.level, .slice Ci y.ins.length ei, .slice Co y.outs.length eo, .slice Cm y.moves.length em, .int .i64 y.err, .int .i64 y.total, .bool y.neg, .string (bs y.mag)] 68) = w8 at *
    generalize w7.heap.size = zb at *
    have HS8 := Lib.hid (HSM.out w8 _ _ _ U8.out HI8.out.rd HO8.out.rd HM8.out.rd)
    clear HSM HI8 HO8 HM8
    obtain ⟨b0, b1, b2, b3, b4, b5, b6, b7⟩ := cells8 HZ.out
    obtain ⟨c0, c1, c2, c3, c4, c5, c6, c7⟩ := cells8 HB8.out
    go_wp2_with fail
    refine HS8.out.mono ?_
    rintro e w9 ⟨rfl, u9⟩
    have U9 := Lib.hid (U8.out.trans u9)
    clear u9
    go_wp2_with fail
    go_ret
    exact ⟨rfl, U2.out.trans U9.out⟩
end Go.Proofs.YtcikldoaidmnhaaGreatDoor
