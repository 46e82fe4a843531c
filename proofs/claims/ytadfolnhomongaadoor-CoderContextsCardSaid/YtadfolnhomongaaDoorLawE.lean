/- Walks of the laws: CoderContexts. -/
import Derived.Test.YtadfolnhomongaaDoorWalkL4
namespace Go.Proofs.YtadfolnhomongaaDoor
open Go Go.RowKit Pc
set_option maxRecDepth 100000

/-- The two lists of bits behind k rounds. -/
structure CtxAt (w wr : World) (k : Nat) (X Y : List (Int × Bool)) (vx vy : Value) : Prop where
  two : TwoAt w wr X Y vx vy
  lx : X.length = k
  same : X.map nrm = Y.map nrm
theorem CtxAt.ly {w wr : World} {k : Nat} {X Y : List (Int × Bool)} {vx vy : Value} (h : CtxAt w wr k X Y vx vy) : Y.length = k := by
  have := congrArg List.length h.same
  simp at this; rw [← this]; exact h.lx
theorem ctx_mod (c : Int) : ctx (c % 4096) = ctx c := by unfold ctx; omega
theorem ctx_far (c d : Int) : ctx (c % 4096 + 4096 * d) = ctx c := by unfold ctx; omega

theorem ArgNums.parts {k : IntKind} {w : World} {v : Value} {l : List Int} (h : ArgNums k w v l) : (∃ a c, v = .slice a 0 c) ∨ ∃ b off cap, v = .slice (some ⟨b, off, none⟩) l.length cap ∧ ((l.length : Nat) : Int) ≤ 9223372036854775807 ∧ 0 < l.length ∧
    (∀ j (h : j < l.length), w.cell? ⟨b, off + j, none⟩ = some (.int k l[j])) ∧ ∀ n, n ∈ l → (Lit.int k n).wf = true := by
  rcases h with ⟨x, rfl, rfl⟩ | ⟨b, off, cap, rfl, h1, h2, h3⟩
  · exact .inl ⟨x, 0, rfl⟩
  · by_cases h0 : 0 < l.length
    · exact .inr ⟨b, off, cap, rfl, h1, h0, h2, h3⟩
    · exact .inl ⟨_, cap, by rw [show l.length = 0 by omega]⟩

set_option maxHeartbeats 4000000 in
theorem lawContexts_far (b off cap : Nat) (l : List (Int × Bool)) (b2 off2 cap2 : Nat) (fs : List Int) (w : World) (_hll : ((l.length : Nat) : Int) ≤ 9223372036854775807)
    (hc : ∀ j u, (l.flatMap bitV)[j]? = some u → w.cell? ⟨b, off + j, none⟩ = some u) (hl : ((fs.length : Nat) : Int) ≤ 9223372036854775807) (hf0 : 0 < fs.length)
    (hc2 : ∀ j (h : j < fs.length), w.cell? ⟨b2, off2 + j, none⟩ = some (.int .i8 fs[j])) (hw : ∀ n, n ∈ fs → (Lit.int .i8 n).wf = true) :
    Calls Tryd.prog 7 #[.slice (some ⟨b, off, none⟩) l.length cap, .slice (some ⟨b2, off2, none⟩) fs.length cap2] w fun e w' => e = .returned (.bool true) ∧ Upd noBlk w w' := by
    have HC := Lib.hid hc
    have HC2 := Lib.hid hc2
    have HW := Lib.hid hw
    have hf0' : (0 : Int) < ((fs.length : Nat) : Int) := by omega
    clear hc hc2 hw
    go_enter Tryd.func7, Tryd.ntmps7
    go_wp2_with (go_at_call 14; refine (sanity_any _).mono ?_; rintro e w1 ⟨rfl, u1⟩)
    go_loopw [6, 7, 8] (fun vx vy i wr => ∃ (k : Nat) (X Y : List (Int × Bool)), i = .int .i64 k ∧ k ≤ l.length ∧ k ≤ 200 ∧ CtxAt w wr k X Y vx vy) (fun _ _ i _ => l.length - (intOf i).toNat)
    case atStart => exact ⟨0, [], [], rfl, Nat.zero_le _, Nat.zero_le _, TwoAt.start u1, rfl, rfl⟩
    case round =>
      obtain ⟨k, X, Y, rfl, hk, hk2, hd⟩ := hrel
      have HD := Lib.hid hd
      have hkb : ((k : Nat) : Int) ≤ 200 := by omega
      clear hd
      by_cases hlt : k < l.length
      · by_cases h200 : k < 200
        · have h200' : ((k : Nat) : Int) < 200 := by omega
          have c0 : wr.cell? ⟨b, off + k * 2, none⟩ = some (.int .i64 l[k].1) := HD.out.two.x.up.cell (HC.out _ _ (bitV_get hlt).1) id
          have c1 : wr.cell? ⟨b, off + k * 2 + 1, none⟩ = some (.bool l[k].2) := HD.out.two.x.up.cell (HC.out _ _ (bitV_get hlt).2) id
          obtain ⟨ax, cx, rfl⟩ := HD.out.two.x.form
          obtain ⟨ay, cy, rfl⟩ := HD.out.two.y.form
          have hz0 := Int.emod_nonneg l[k].1 (show (4096 : Int) ≠ 0 by decide)
          have hz1 := Int.emod_lt_of_pos l[k].1 (show (0 : Int) < 4096 by decide)
          obtain ⟨gx, cx', w3, r3, hn3⟩ := HD.out.two.moreX (l[k].1 % 4096) l[k].2 (by have := HD.out.lx; omega)
          have c3 : w3.cell? ⟨b, off + k * 2 + 1, none⟩ = some (.bool l[k].2) := hn3.x.up.cell (HC.out _ _ (bitV_get hlt).2) id
          have R3 := Lib.hid r3
          have hkf : k % fs.length < fs.length := Nat.mod_lt _ hf0
          have c4 : w3.cell? ⟨b2, off2 + k % fs.length, none⟩ = some (.int .i8 fs[k % fs.length]) := hn3.x.up.cell (HC2.out _ hkf) id
          have hd1 := HW.out _ (List.getElem_mem hkf)
          simp [Lit.wf, IntKind.min, IntKind.max, IntKind.signed, IntKind.bits] at hd1
          obtain ⟨gy, cy', w5, r5, hn5⟩ := hn3.swap.moreX (l[k].1 % 4096 + 4096 * fs[k % fs.length]) l[k].2 (by have := HD.out.ly; omega)
          have R5 := Lib.hid r5
          have HN : Hid (CtxAt w w5 (k + 1) (X ++ [(l[k].1 % 4096, l[k].2)]) (Y ++ [(l[k].1 % 4096 + 4096 * fs[k % fs.length], l[k].2)]) (.slice (some ⟨gx, 0, none⟩) (X.length + 1) cx') (.slice (some ⟨gy, 0, none⟩) (Y.length + 1) cy')) :=
            ⟨hn5.swap, by rw [List.length_append, HD.out.lx]; rfl, by rw [List.map_append, List.map_append, HD.out.same]; simp [nrm, ctx_far, ctx_mod]⟩
          clear r3 hn3 r5 hn5
          generalize fs[k % fs.length] = d at *
          go_wp2_with (first | (go_at_call 21; refine (Mod_any _ 4096 (by decide) (by decide) _).mono ?_; rintro e wm ⟨rfl, rfl⟩) | (at_builtin; refine wpList_append_run rfl _ _ _ rfl rfl rfl R3.out ?_) | (at_builtin; refine wpList_append_run rfl _ _ _ rfl rfl rfl R5.out ?_))
          go_roundw
          case rel => exact ⟨k + 1, _, _, by go_num, hlt, h200, HN.out⟩
          case measure => simp [intOf]; omega
        · have h200' : ¬ ((k : Nat) : Int) < 200 := by omega
          clear HC HC2 HW
          have R1 := Lib.hid HD.out.two.x.rd
          have R1y := Lib.hid HD.out.two.y.rd
          have U1 := Lib.hid HD.out.two.x.up
          have HN : Hid (X.length ≤ 100000) := by show _ ≤ _; have := HD.out.lx; omega
          have HNy : Hid (Y.length ≤ 100000) := by show _ ≤ _; have := HD.out.ly; omega
          have HS : Hid (encode X = encode Y) := encode_norm HD.out.same
          have HM : Hid ((Y.map (·.1)).length ≤ 100000) := by show _ ≤ _; simpa using HNy.out
          have HX : Hid ((Pc.decode (encode X) (Y.map (·.1))).length ≤ 1000000) := by show _ ≤ _; rw [decode_length, List.length_map]; have := HNy.out; omega
          have HY : Hid ((X.map (·.2)).length ≤ 1000000) := by show _ ≤ _; rw [List.length_map]; have := HN.out; omega
          have HE0 : Hid (Pc.decode (encode X) (Y.map (·.1)) = X.map (·.2)) := by show _ = _; rw [HS.out, snd_norm HD.out.same]; simpa using decode_encode Y 0
          obtain ⟨ax, cx, rfl⟩ := HD.out.two.x.form
          obtain ⟨ay, cy, rfl⟩ := HD.out.two.y.form
          clear HD
          go_wp2_with fail
          refine (Encode_v _ X _ R1.out HN.out).mono ?_
          rintro e w2 ⟨rfl, u2⟩
          have R2 := Lib.hid (R1.out.keep u2)
          have R2y := Lib.hid (R1y.out.keep u2)
          have U2 := Lib.hid (U1.out.trans u2)
          clear R1 R1y U1 u2
          go_wp2_with fail
          refine (Encode_v _ Y _ R2y.out HNy.out).mono ?_
          rw [← HS.out]
          rintro e w3 ⟨rfl, u3⟩
          have R3 := Lib.hid (R2.out.keep u3)
          have R3y := Lib.hid (R2y.out.keep u3)
          have U3 := Lib.hid (U2.out.trans u3)
          clear R2 R2y U2 u3
          go_wp2_with fail
          refine (contexts_v _ Y _ R3y.out HNy.out).mono ?_
          rintro e w4 ⟨r4, rfl, i4, u4⟩
          have R4 := Lib.hid (R3.out.keep u4)
          have U4 := Lib.hid (U3.out.trans u4)
          have I4 := Lib.hid i4
          clear R3 R3y U3 i4 u4
          go_wp2_with fail
          refine (Decode_v _ (encode_lt _) _ (Y.map (·.1)) _ I4.out HM.out).mono ?_
          rintro e w5 ⟨r5, rfl, b5, u5⟩
          have R5 := Lib.hid (R4.out.keep u5)
          have U5 := Lib.hid (U4.out.trans u5)
          have B5 := Lib.hid b5
          clear R4 U4 I4 b5 u5
          go_wp2_with fail
          refine (values_v _ X _ R5.out HN.out).mono ?_
          rintro e w6 ⟨r6, rfl, b6, u6⟩
          have U6 := Lib.hid (U5.out.trans u6)
          have B5' := Lib.hid (B5.out.keep u6)
          have B6 := Lib.hid b6
          clear R5 U5 B5 b6 u6
          go_wp2_with fail
          refine (Bools_any _ _ _ _ _ B5'.out B6.out HX.out HY.out HE0.out).mono ?_
          rintro e w7 ⟨rfl, u7⟩
          have U7 := Lib.hid (U6.out.trans u7)
          clear U6 B5' B6 u7
          go_wp2
          go_ret
          exact ⟨rfl, U7.out⟩
      · clear HC HC2 HW
        have R1 := Lib.hid HD.out.two.x.rd
        have R1y := Lib.hid HD.out.two.y.rd
        have U1 := Lib.hid HD.out.two.x.up
        have HN : Hid (X.length ≤ 100000) := by show _ ≤ _; have := HD.out.lx; omega
        have HNy : Hid (Y.length ≤ 100000) := by show _ ≤ _; have := HD.out.ly; omega
        have HS : Hid (encode X = encode Y) := encode_norm HD.out.same
        have HM : Hid ((Y.map (·.1)).length ≤ 100000) := by show _ ≤ _; simpa using HNy.out
        have HX : Hid ((Pc.decode (encode X) (Y.map (·.1))).length ≤ 1000000) := by show _ ≤ _; rw [decode_length, List.length_map]; have := HNy.out; omega
        have HY : Hid ((X.map (·.2)).length ≤ 1000000) := by show _ ≤ _; rw [List.length_map]; have := HN.out; omega
        have HE0 : Hid (Pc.decode (encode X) (Y.map (·.1)) = X.map (·.2)) := by show _ = _; rw [HS.out, snd_norm HD.out.same]; simpa using decode_encode Y 0
        obtain ⟨ax, cx, rfl⟩ := HD.out.two.x.form
        obtain ⟨ay, cy, rfl⟩ := HD.out.two.y.form
        clear HD
        go_wp2_with fail
        refine (Encode_v _ X _ R1.out HN.out).mono ?_
        rintro e w2 ⟨rfl, u2⟩
        have R2 := Lib.hid (R1.out.keep u2)
        have R2y := Lib.hid (R1y.out.keep u2)
        have U2 := Lib.hid (U1.out.trans u2)
        clear R1 R1y U1 u2
        go_wp2_with fail
        refine (Encode_v _ Y _ R2y.out HNy.out).mono ?_
        rw [← HS.out]
        rintro e w3 ⟨rfl, u3⟩
        have R3 := Lib.hid (R2.out.keep u3)
        have R3y := Lib.hid (R2y.out.keep u3)
        have U3 := Lib.hid (U2.out.trans u3)
        clear R2 R2y U2 u3
        go_wp2_with fail
        refine (contexts_v _ Y _ R3y.out HNy.out).mono ?_
        rintro e w4 ⟨r4, rfl, i4, u4⟩
        have R4 := Lib.hid (R3.out.keep u4)
        have U4 := Lib.hid (U3.out.trans u4)
        have I4 := Lib.hid i4
        clear R3 R3y U3 i4 u4
        go_wp2_with fail
        refine (Decode_v _ (encode_lt _) _ (Y.map (·.1)) _ I4.out HM.out).mono ?_
        rintro e w5 ⟨r5, rfl, b5, u5⟩
        have R5 := Lib.hid (R4.out.keep u5)
        have U5 := Lib.hid (U4.out.trans u5)
        have B5 := Lib.hid b5
        clear R4 U4 I4 b5 u5
        go_wp2_with fail
        refine (values_v _ X _ R5.out HN.out).mono ?_
        rintro e w6 ⟨r6, rfl, b6, u6⟩
        have U6 := Lib.hid (U5.out.trans u6)
        have B5' := Lib.hid (B5.out.keep u6)
        have B6 := Lib.hid b6
        clear R5 U5 B5 b6 u6
        go_wp2_with fail
        refine (Bools_any _ _ _ _ _ B5'.out B6.out HX.out HY.out HE0.out).mono ?_
        rintro e w7 ⟨rfl, u7⟩
        have U7 := Lib.hid (U6.out.trans u7)
        clear U6 B5' B6 u7
        go_wp2
        go_ret
        exact ⟨rfl, U7.out⟩

set_option maxHeartbeats 4000000 in
theorem lawContexts_none (b off cap : Nat) (l : List (Int × Bool)) (a : Option Addr) (c : Nat) (w : World) (_hll : ((l.length : Nat) : Int) ≤ 9223372036854775807)
    (hc : ∀ j u, (l.flatMap bitV)[j]? = some u → w.cell? ⟨b, off + j, none⟩ = some u) :
    Calls Tryd.prog 7 #[.slice (some ⟨b, off, none⟩) l.length cap, .slice a 0 c] w fun e w' => e = .returned (.bool true) ∧ Upd noBlk w w' := by
    have HC := Lib.hid hc
    clear hc
    go_enter Tryd.func7, Tryd.ntmps7
    go_wp2_with (go_at_call 14; refine (sanity_any _).mono ?_; rintro e w1 ⟨rfl, u1⟩)
    go_loopw [6, 7, 8] (fun vx vy i wr => ∃ (k : Nat) (X Y : List (Int × Bool)), i = .int .i64 k ∧ k ≤ l.length ∧ k ≤ 200 ∧ CtxAt w wr k X Y vx vy) (fun _ _ i _ => l.length - (intOf i).toNat)
    case atStart => exact ⟨0, [], [], rfl, Nat.zero_le _, Nat.zero_le _, TwoAt.start u1, rfl, rfl⟩
    case round =>
      obtain ⟨k, X, Y, rfl, hk, hk2, hd⟩ := hrel
      have HD := Lib.hid hd
      have hkb : ((k : Nat) : Int) ≤ 200 := by omega
      clear hd
      by_cases hlt : k < l.length
      · by_cases h200 : k < 200
        · have h200' : ((k : Nat) : Int) < 200 := by omega
          have c0 : wr.cell? ⟨b, off + k * 2, none⟩ = some (.int .i64 l[k].1) := HD.out.two.x.up.cell (HC.out _ _ (bitV_get hlt).1) id
          have c1 : wr.cell? ⟨b, off + k * 2 + 1, none⟩ = some (.bool l[k].2) := HD.out.two.x.up.cell (HC.out _ _ (bitV_get hlt).2) id
          obtain ⟨ax, cx, rfl⟩ := HD.out.two.x.form
          obtain ⟨ay, cy, rfl⟩ := HD.out.two.y.form
          have hz0 := Int.emod_nonneg l[k].1 (show (4096 : Int) ≠ 0 by decide)
          have hz1 := Int.emod_lt_of_pos l[k].1 (show (0 : Int) < 4096 by decide)
          obtain ⟨gx, cx', w3, r3, hn3⟩ := HD.out.two.moreX (l[k].1 % 4096) l[k].2 (by have := HD.out.lx; omega)
          have c3 : w3.cell? ⟨b, off + k * 2 + 1, none⟩ = some (.bool l[k].2) := hn3.x.up.cell (HC.out _ _ (bitV_get hlt).2) id
          have R3 := Lib.hid r3
          obtain ⟨gy, cy', w5, r5, hn5⟩ := hn3.swap.moreX (l[k].1 % 4096) l[k].2 (by have := HD.out.ly; omega)
          have R5 := Lib.hid r5
          have HN : Hid (CtxAt w w5 (k + 1) (X ++ [(l[k].1 % 4096, l[k].2)]) (Y ++ [(l[k].1 % 4096, l[k].2)]) (.slice (some ⟨gx, 0, none⟩) (X.length + 1) cx') (.slice (some ⟨gy, 0, none⟩) (Y.length + 1) cy')) :=
            ⟨hn5.swap, by rw [List.length_append, HD.out.lx]; rfl, by rw [List.map_append, List.map_append, HD.out.same]⟩
          clear r3 hn3 r5 hn5
          go_wp2_with (first | (go_at_call 21; refine (Mod_any _ 4096 (by decide) (by decide) _).mono ?_; rintro e wm ⟨rfl, rfl⟩) | (at_builtin; refine wpList_append_run rfl _ _ _ rfl rfl rfl R3.out ?_) | (at_builtin; refine wpList_append_run rfl _ _ _ rfl rfl rfl R5.out ?_))
          go_roundw
          case rel => exact ⟨k + 1, _, _, by go_num, hlt, h200, HN.out⟩
          case measure => simp [intOf]; omega
        · have h200' : ¬ ((k : Nat) : Int) < 200 := by omega
          clear HC
          have R1 := Lib.hid HD.out.two.x.rd
          have R1y := Lib.hid HD.out.two.y.rd
          have U1 := Lib.hid HD.out.two.x.up
          have HN : Hid (X.length ≤ 100000) := by show _ ≤ _; have := HD.out.lx; omega
          have HNy : Hid (Y.length ≤ 100000) := by show _ ≤ _; have := HD.out.ly; omega
          have HS : Hid (encode X = encode Y) := encode_norm HD.out.same
          have HM : Hid ((Y.map (·.1)).length ≤ 100000) := by show _ ≤ _; simpa using HNy.out
          have HX : Hid ((Pc.decode (encode X) (Y.map (·.1))).length ≤ 1000000) := by show _ ≤ _; rw [decode_length, List.length_map]; have := HNy.out; omega
          have HY : Hid ((X.map (·.2)).length ≤ 1000000) := by show _ ≤ _; rw [List.length_map]; have := HN.out; omega
          have HE0 : Hid (Pc.decode (encode X) (Y.map (·.1)) = X.map (·.2)) := by show _ = _; rw [HS.out, snd_norm HD.out.same]; simpa using decode_encode Y 0
          obtain ⟨ax, cx, rfl⟩ := HD.out.two.x.form
          obtain ⟨ay, cy, rfl⟩ := HD.out.two.y.form
          clear HD
          go_wp2_with fail
          refine (Encode_v _ X _ R1.out HN.out).mono ?_
          rintro e w2 ⟨rfl, u2⟩
          have R2 := Lib.hid (R1.out.keep u2)
          have R2y := Lib.hid (R1y.out.keep u2)
          have U2 := Lib.hid (U1.out.trans u2)
          clear R1 R1y U1 u2
          go_wp2_with fail
          refine (Encode_v _ Y _ R2y.out HNy.out).mono ?_
          rw [← HS.out]
          rintro e w3 ⟨rfl, u3⟩
          have R3 := Lib.hid (R2.out.keep u3)
          have R3y := Lib.hid (R2y.out.keep u3)
          have U3 := Lib.hid (U2.out.trans u3)
          clear R2 R2y U2 u3
          go_wp2_with fail
          refine (contexts_v _ Y _ R3y.out HNy.out).mono ?_
          rintro e w4 ⟨r4, rfl, i4, u4⟩
          have R4 := Lib.hid (R3.out.keep u4)
          have U4 := Lib.hid (U3.out.trans u4)
          have I4 := Lib.hid i4
          clear R3 R3y U3 i4 u4
          go_wp2_with fail
          refine (Decode_v _ (encode_lt _) _ (Y.map (·.1)) _ I4.out HM.out).mono ?_
          rintro e w5 ⟨r5, rfl, b5, u5⟩
          have R5 := Lib.hid (R4.out.keep u5)
          have U5 := Lib.hid (U4.out.trans u5)
          have B5 := Lib.hid b5
          clear R4 U4 I4 b5 u5
          go_wp2_with fail
          refine (values_v _ X _ R5.out HN.out).mono ?_
          rintro e w6 ⟨r6, rfl, b6, u6⟩
          have U6 := Lib.hid (U5.out.trans u6)
          have B5' := Lib.hid (B5.out.keep u6)
          have B6 := Lib.hid b6
          clear R5 U5 B5 b6 u6
          go_wp2_with fail
          refine (Bools_any _ _ _ _ _ B5'.out B6.out HX.out HY.out HE0.out).mono ?_
          rintro e w7 ⟨rfl, u7⟩
          have U7 := Lib.hid (U6.out.trans u7)
          clear U6 B5' B6 u7
          go_wp2
          go_ret
          exact ⟨rfl, U7.out⟩
      · clear HC
        have R1 := Lib.hid HD.out.two.x.rd
        have R1y := Lib.hid HD.out.two.y.rd
        have U1 := Lib.hid HD.out.two.x.up
        have HN : Hid (X.length ≤ 100000) := by show _ ≤ _; have := HD.out.lx; omega
        have HNy : Hid (Y.length ≤ 100000) := by show _ ≤ _; have := HD.out.ly; omega
        have HS : Hid (encode X = encode Y) := encode_norm HD.out.same
        have HM : Hid ((Y.map (·.1)).length ≤ 100000) := by show _ ≤ _; simpa using HNy.out
        have HX : Hid ((Pc.decode (encode X) (Y.map (·.1))).length ≤ 1000000) := by show _ ≤ _; rw [decode_length, List.length_map]; have := HNy.out; omega
        have HY : Hid ((X.map (·.2)).length ≤ 1000000) := by show _ ≤ _; rw [List.length_map]; have := HN.out; omega
        have HE0 : Hid (Pc.decode (encode X) (Y.map (·.1)) = X.map (·.2)) := by show _ = _; rw [HS.out, snd_norm HD.out.same]; simpa using decode_encode Y 0
        obtain ⟨ax, cx, rfl⟩ := HD.out.two.x.form
        obtain ⟨ay, cy, rfl⟩ := HD.out.two.y.form
        clear HD
        go_wp2_with fail
        refine (Encode_v _ X _ R1.out HN.out).mono ?_
        rintro e w2 ⟨rfl, u2⟩
        have R2 := Lib.hid (R1.out.keep u2)
        have R2y := Lib.hid (R1y.out.keep u2)
        have U2 := Lib.hid (U1.out.trans u2)
        clear R1 R1y U1 u2
        go_wp2_with fail
        refine (Encode_v _ Y _ R2y.out HNy.out).mono ?_
        rw [← HS.out]
        rintro e w3 ⟨rfl, u3⟩
        have R3 := Lib.hid (R2.out.keep u3)
        have R3y := Lib.hid (R2y.out.keep u3)
        have U3 := Lib.hid (U2.out.trans u3)
        clear R2 R2y U2 u3
        go_wp2_with fail
        refine (contexts_v _ Y _ R3y.out HNy.out).mono ?_
        rintro e w4 ⟨r4, rfl, i4, u4⟩
        have R4 := Lib.hid (R3.out.keep u4)
        have U4 := Lib.hid (U3.out.trans u4)
        have I4 := Lib.hid i4
        clear R3 R3y U3 i4 u4
        go_wp2_with fail
        refine (Decode_v _ (encode_lt _) _ (Y.map (·.1)) _ I4.out HM.out).mono ?_
        rintro e w5 ⟨r5, rfl, b5, u5⟩
        have R5 := Lib.hid (R4.out.keep u5)
        have U5 := Lib.hid (U4.out.trans u5)
        have B5 := Lib.hid b5
        clear R4 U4 I4 b5 u5
        go_wp2_with fail
        refine (values_v _ X _ R5.out HN.out).mono ?_
        rintro e w6 ⟨r6, rfl, b6, u6⟩
        have U6 := Lib.hid (U5.out.trans u6)
        have B5' := Lib.hid (B5.out.keep u6)
        have B6 := Lib.hid b6
        clear R5 U5 B5 b6 u6
        go_wp2_with fail
        refine (Bools_any _ _ _ _ _ B5'.out B6.out HX.out HY.out HE0.out).mono ?_
        rintro e w7 ⟨rfl, u7⟩
        have U7 := Lib.hid (U6.out.trans u7)
        clear U6 B5' B6 u7
        go_wp2
        go_ret
        exact ⟨rfl, U7.out⟩

set_option maxHeartbeats 4000000 in
theorem lawContexts_nil (x : Option Addr) (u : Value) (w : World) :
    Calls Tryd.prog 7 #[.slice x 0 0, u] w fun e w' => e = .returned (.bool true) ∧ Upd noBlk w w' := by
  go_enter Tryd.func7, Tryd.ntmps7
  go_wp2_with (go_at_call 14; refine (sanity_any _).mono ?_; rintro e w1 ⟨rfl, u1⟩)
  refine wp_loop_once ?_
  obtain ⟨X, Y, vx, hvx, HD⟩ : ∃ (X Y : List (Int × Bool)) (vx : Value), vx = .slice none 0 0 ∧ Hid (CtxAt w w1 0 X Y vx vx) := ⟨[], [], _, rfl, TwoAt.start u1, rfl, rfl⟩
  have hkb : (0 : Nat) ≤ 100000 := by decide
  have R1 := Lib.hid HD.out.two.x.rd
  have R1y := Lib.hid HD.out.two.y.rd
  have U1 := Lib.hid HD.out.two.x.up
  have HN : Hid (X.length ≤ 100000) := by show _ ≤ _; have := HD.out.lx; omega
  have HNy : Hid (Y.length ≤ 100000) := by show _ ≤ _; have := HD.out.ly; omega
  have HS : Hid (encode X = encode Y) := encode_norm HD.out.same
  have HM : Hid ((Y.map (·.1)).length ≤ 100000) := by show _ ≤ _; simpa using HNy.out
  have HX : Hid ((Pc.decode (encode X) (Y.map (·.1))).length ≤ 1000000) := by show _ ≤ _; rw [decode_length, List.length_map]; have := HNy.out; omega
  have HY : Hid ((X.map (·.2)).length ≤ 1000000) := by show _ ≤ _; rw [List.length_map]; have := HN.out; omega
  have HE0 : Hid (Pc.decode (encode X) (Y.map (·.1)) = X.map (·.2)) := by show _ = _; rw [HS.out, snd_norm HD.out.same]; simpa using decode_encode Y 0
  clear u1 hkb
  subst hvx
  clear HD
  go_wp2_with fail
  refine (Encode_v _ X _ R1.out HN.out).mono ?_
  rintro e w2 ⟨rfl, u2⟩
  have R2 := Lib.hid (R1.out.keep u2)
  have R2y := Lib.hid (R1y.out.keep u2)
  have U2 := Lib.hid (U1.out.trans u2)
  clear R1 R1y U1 u2
  go_wp2_with fail
  refine (Encode_v _ Y _ R2y.out HNy.out).mono ?_
  rw [← HS.out]
  rintro e w3 ⟨rfl, u3⟩
  have R3 := Lib.hid (R2.out.keep u3)
  have R3y := Lib.hid (R2y.out.keep u3)
  have U3 := Lib.hid (U2.out.trans u3)
  clear R2 R2y U2 u3
  go_wp2_with fail
  refine (contexts_v _ Y _ R3y.out HNy.out).mono ?_
  rintro e w4 ⟨r4, rfl, i4, u4⟩
  have R4 := Lib.hid (R3.out.keep u4)
  have U4 := Lib.hid (U3.out.trans u4)
  have I4 := Lib.hid i4
  clear R3 R3y U3 i4 u4
  go_wp2_with fail
  refine (Decode_v _ (encode_lt _) _ (Y.map (·.1)) _ I4.out HM.out).mono ?_
  rintro e w5 ⟨r5, rfl, b5, u5⟩
  have R5 := Lib.hid (R4.out.keep u5)
  have U5 := Lib.hid (U4.out.trans u5)
  have B5 := Lib.hid b5
  clear R4 U4 I4 b5 u5
  go_wp2_with fail
  refine (values_v _ X _ R5.out HN.out).mono ?_
  rintro e w6 ⟨r6, rfl, b6, u6⟩
  have U6 := Lib.hid (U5.out.trans u6)
  have B5' := Lib.hid (B5.out.keep u6)
  have B6 := Lib.hid b6
  clear R5 U5 B5 b6 u6
  go_wp2_with fail
  refine (Bools_any _ _ _ _ _ B5'.out B6.out HX.out HY.out HE0.out).mono ?_
  rintro e w7 ⟨rfl, u7⟩
  have U7 := Lib.hid (U6.out.trans u7)
  clear U6 B5' B6 u7
  go_wp2
  go_ret
  exact ⟨rfl, U7.out⟩

theorem lawContexts (v : Value) (l : List (Int × Bool)) (u : Value) (fs : List Int) (w : World) (h : ArgBits w v l) (hf : ArgNums .i8 w u fs) :
    Calls Tryd.prog 7 #[v, u] w fun e w' => e = .returned (.bool true) ∧ Upd noBlk w w' := by
  rcases h with ⟨x, rfl, rfl⟩ | ⟨b, off, cap, rfl, hl1, hl2, hc⟩
  · exact lawContexts_nil x u w
  · have hll : ((l.length : Nat) : Int) ≤ 9223372036854775807 := by unfold maxLen at hl2; omega
    rcases hf.parts with ⟨a, c, rfl⟩ | ⟨b2, off2, cap2, rfl, h1, h2, h3, h4⟩
    · exact lawContexts_none b off cap l a c w hll hc
    · exact lawContexts_far b off cap l b2 off2 cap2 fs w hll hc h1 h2 h3 h4
end Go.Proofs.YtadfolnhomongaaDoor
