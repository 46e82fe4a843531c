/- Walks of the laws: CoderRuns. -/
import Derived.Test.YtadfolnhomongaaDoorWalkL4
namespace Go.Proofs.YtadfolnhomongaaDoor
open Go Go.RowKit Pc
set_option maxRecDepth 100000

set_option maxHeartbeats 4000000 in
theorem lawRuns (v : Value) (l : List Int) (one : Bool) (w : World) (h : ArgNums .u16 w v l) :
    Calls Tryd.prog 6 #[v, .bool one] w fun e w' => e = .returned (.bool true) ∧ Upd noBlk w w' := by
  rcases h with ⟨x, rfl, rfl⟩ | ⟨b, off, cap, rfl, hl, hc, hw⟩
  · go_enter Tryd.func6, Tryd.ntmps6
    go_wp2_with (go_at_call 14; refine (sanity_any _).mono ?_; rintro e w1 ⟨rfl, u1⟩)
    refine wp_loop_once ?_
    obtain ⟨L, hL⟩ : ∃ L : List (Int × Bool), L = [] := ⟨[], rfl⟩
    have R1 : Hid (RdBits w1 (.slice none 0 0) L) := by subst hL; exact .inl ⟨none, rfl, rfl⟩
    have U1 := Lib.hid u1
    have HN : Hid (L.length ≤ 100000) := by show _ ≤ _; subst hL; decide
    clear hL u1
    have HM : Hid ((L.map (·.1)).length ≤ 100000) := by show _ ≤ _; simpa using HN.out
    have HX : Hid ((Pc.decode (encode L) (L.map (·.1))).length ≤ 1000000) := by show _ ≤ _; rw [decode_length, List.length_map]; have := HN.out; omega
    have HY : Hid ((L.map (·.2)).length ≤ 1000000) := by show _ ≤ _; rw [List.length_map]; have := HN.out; omega
    have HE0 : Hid (Pc.decode (encode L) (L.map (·.1)) = L.map (·.2)) := by show _ = _; simpa using decode_encode L 0
    go_wp2_with fail
    refine (Encode_v _ L _ R1.out HN.out).mono ?_
    rintro e w2 ⟨rfl, u2⟩
    have R2 := Lib.hid (R1.out.keep u2)
    have U2 := Lib.hid (U1.out.trans u2)
    clear R1 U1 u2
    go_wp2_with fail
    refine (rEncode_v _ L _ R2.out HN.out).mono ?_
    rintro e w3 ⟨rfl, u3⟩
    have R3 := Lib.hid (R2.out.keep u3)
    have U3 := Lib.hid (U2.out.trans u3)
    clear R2 U2 u3
    go_wp2_with fail
    refine (contexts_v _ L _ R3.out HN.out).mono ?_
    rintro e w4 ⟨r4, rfl, i4, u4⟩
    have R4 := Lib.hid (R3.out.keep u4)
    have U4 := Lib.hid (U3.out.trans u4)
    have I4 := Lib.hid i4
    clear R3 U3 i4 u4
    go_wp2_with fail
    refine (Decode_v _ (encode_lt _) _ (L.map (·.1)) _ I4.out HM.out).mono ?_
    rintro e w5 ⟨r5, rfl, b5, u5⟩
    have R5 := Lib.hid (R4.out.keep u5)
    have U5 := Lib.hid (U4.out.trans u5)
    have B5 := Lib.hid b5
    clear R4 U4 I4 b5 u5
    go_wp2_with fail
    refine (values_v _ L _ R5.out HN.out).mono ?_
    rintro e w6 ⟨r6, rfl, b6, u6⟩
    have U6 := Lib.hid (U5.out.trans u6)
    have B5' := Lib.hid (B5.out.keep u6)
    have B6 := Lib.hid b6
    clear R5 U5 B5 b6 u6
    go_wp2_with fail
    refine (Bools_any _ _ _ _ _ B5'.out B6.out HX.out HY.out HE0.out).mono ?_
    rintro e w7 ⟨rfl, u7⟩
    have U7 := Lib.hid (U6.out.trans u7)
    clear U6 B5' B6 u7
    go_wp2
    go_ret
    exact ⟨rfl, U7.out⟩
  · have HC := Lib.hid hc
    have HW := Lib.hid hw
    clear hc hw
    go_enter Tryd.func6, Tryd.ntmps6
    go_wp2_with (go_at_call 14; refine (sanity_any _).mono ?_; rintro e w1 ⟨rfl, u1⟩)
    go_loopw [1, 6, 7] (fun o v i wr => ∃ (k : Nat) (L : List (Int × Bool)) (on : Bool), o = .bool on ∧ i = .int .i64 k ∧ k ≤ l.length ∧ k ≤ 12 ∧ L.length ≤ k * 300 ∧ BitsAt w wr L v) (fun _ _ i _ => l.length - (intOf i).toNat)
    case atStart => exact ⟨0, [], one, rfl, rfl, Nat.zero_le _, Nat.zero_le _, Nat.zero_le _, BitsAt.start u1⟩
    case round =>
      obtain ⟨k, L, on, rfl, rfl, hk, hk12, hL, hd⟩ := hrel
      have HD := Lib.hid hd
      have HL := Lib.hid hL
      have hkb : ((k : Nat) : Int) ≤ 12 := by omega
      clear hd hL
      by_cases hlt : k < l.length
      · by_cases h12 : k < 12
        · have c0 : wr.cell? ⟨b, off + k, none⟩ = some (.int .u16 l[k]) := HD.out.up.cell (HC.out _ hlt) id
          obtain ⟨z, hz, hz1⟩ : ∃ z : Nat, l[k] = (z : Int) ∧ (z : Int) ≤ 65535 := by
            have := HW.out l[k] (List.getElem_mem hlt)
            simp [Lit.wf, IntKind.min, IntKind.max, IntKind.signed, IntKind.bits] at this
            exact ⟨l[k].toNat, by omega, by omega⟩
          rw [hz] at c0
          have h12' : ((k : Nat) : Int) < 12 := by omega
          obtain ⟨a, c, rfl⟩ := HD.out.form
          go_wp2
          go_loopw [6, 8] (fun v i wr => ∃ j : Nat, i = .int .i64 j ∧ j ≤ z % 300 ∧ BitsAt w wr (L ++ List.replicate j (7, on)) v) (fun _ i _ => z % 300 - (intOf i).toNat)
          case atStart => exact ⟨0, rfl, Nat.zero_le _, by simpa using HD.out⟩
          case round =>
            obtain ⟨j, rfl, hj, hd2⟩ := hrel
            have HD2 := Lib.hid hd2
            have hjb : ((j : Nat) : Int) ≤ 300 := by omega
            clear hd2
            have c1 : wr.cell? ⟨b, off + k, none⟩ = some (.int .u16 z) := by rw [← hz]; exact HD2.out.up.cell (HC.out _ hlt) id
            have hlb := HL.out
            by_cases hjl : j < z % 300
            · have hjl' : ((j : Nat) : Int) < ((z : Nat) : Int) % 300 := by omega
              obtain ⟨gg, cp, w3, r3, hn⟩ := HD2.out.more 7 on (by simp; omega)
              obtain ⟨a2, c2, rfl⟩ := HD2.out.form
              have R3 := Lib.hid r3
              have HN := Lib.hid hn
              clear r3 hn hlb
              go_wp2_with (at_builtin; refine wpList_append_run rfl _ _ _ rfl rfl rfl R3.out ?_)
              go_roundw
              case rel => exact ⟨j + 1, by go_num, hjl, by have := HN.out; rw [List.append_assoc, ← List.replicate_succ', List.length_append, List.length_replicate] at this; exact this⟩
              case measure => simp [intOf]; omega
            · have hjl' : ¬ ((j : Nat) : Int) < ((z : Nat) : Int) % 300 := by omega
              obtain ⟨a2, c2, rfl⟩ := HD2.out.form
              clear hlb
              go_wp2
              go_roundw
              case rel => exact ⟨k + 1, _, !on, by go_num, by go_num, hlt, h12, by have := HL.out; simp; omega, HD2.out⟩
              case measure => simp [intOf]; omega
        · have h12' : ¬ ((k : Nat) : Int) < 12 := by omega
          obtain ⟨a2, c2, rfl⟩ := HD.out.form
          have R1 := Lib.hid HD.out.rd
          have U1 := Lib.hid HD.out.up
          have HN : Hid (L.length ≤ 100000) := by show _ ≤ _; have := HL.out; omega
          have HM : Hid ((L.map (·.1)).length ≤ 100000) := by show _ ≤ _; simpa using HN.out
          have HX : Hid ((Pc.decode (encode L) (L.map (·.1))).length ≤ 1000000) := by show _ ≤ _; rw [decode_length, List.length_map]; have := HN.out; omega
          have HY : Hid ((L.map (·.2)).length ≤ 1000000) := by show _ ≤ _; rw [List.length_map]; have := HN.out; omega
          have HE0 : Hid (Pc.decode (encode L) (L.map (·.1)) = L.map (·.2)) := by show _ = _; simpa using decode_encode L 0
          clear HD HL
          go_wp2_with fail
          refine (Encode_v _ L _ R1.out HN.out).mono ?_
          rintro e w2 ⟨rfl, u2⟩
          have R2 := Lib.hid (R1.out.keep u2)
          have U2 := Lib.hid (U1.out.trans u2)
          clear R1 U1 u2
          go_wp2_with fail
          refine (rEncode_v _ L _ R2.out HN.out).mono ?_
          rintro e w3 ⟨rfl, u3⟩
          have R3 := Lib.hid (R2.out.keep u3)
          have U3 := Lib.hid (U2.out.trans u3)
          clear R2 U2 u3
          go_wp2_with fail
          refine (contexts_v _ L _ R3.out HN.out).mono ?_
          rintro e w4 ⟨r4, rfl, i4, u4⟩
          have R4 := Lib.hid (R3.out.keep u4)
          have U4 := Lib.hid (U3.out.trans u4)
          have I4 := Lib.hid i4
          clear R3 U3 i4 u4
          go_wp2_with fail
          refine (Decode_v _ (encode_lt _) _ (L.map (·.1)) _ I4.out HM.out).mono ?_
          rintro e w5 ⟨r5, rfl, b5, u5⟩
          have R5 := Lib.hid (R4.out.keep u5)
          have U5 := Lib.hid (U4.out.trans u5)
          have B5 := Lib.hid b5
          clear R4 U4 I4 b5 u5
          go_wp2_with fail
          refine (values_v _ L _ R5.out HN.out).mono ?_
          rintro e w6 ⟨r6, rfl, b6, u6⟩
          have U6 := Lib.hid (U5.out.trans u6)
          have B5' := Lib.hid (B5.out.keep u6)
          have B6 := Lib.hid b6
          clear R5 U5 B5 b6 u6
          go_wp2_with fail
          refine (Bools_any _ _ _ _ _ B5'.out B6.out HX.out HY.out HE0.out).mono ?_
          rintro e w7 ⟨rfl, u7⟩
          have U7 := Lib.hid (U6.out.trans u7)
          clear U6 B5' B6 u7
          go_wp2
          go_ret
          exact ⟨rfl, U7.out⟩
      · clear HC HW
        obtain ⟨a2, c2, rfl⟩ := HD.out.form
        have R1 := Lib.hid HD.out.rd
        have U1 := Lib.hid HD.out.up
        have HN : Hid (L.length ≤ 100000) := by show _ ≤ _; have := HL.out; omega
        have HM : Hid ((L.map (·.1)).length ≤ 100000) := by show _ ≤ _; simpa using HN.out
        have HX : Hid ((Pc.decode (encode L) (L.map (·.1))).length ≤ 1000000) := by show _ ≤ _; rw [decode_length, List.length_map]; have := HN.out; omega
        have HY : Hid ((L.map (·.2)).length ≤ 1000000) := by show _ ≤ _; rw [List.length_map]; have := HN.out; omega
        have HE0 : Hid (Pc.decode (encode L) (L.map (·.1)) = L.map (·.2)) := by show _ = _; simpa using decode_encode L 0
        clear HD HL
        go_wp2_with fail
        refine (Encode_v _ L _ R1.out HN.out).mono ?_
        rintro e w2 ⟨rfl, u2⟩
        have R2 := Lib.hid (R1.out.keep u2)
        have U2 := Lib.hid (U1.out.trans u2)
        clear R1 U1 u2
        go_wp2_with fail
        refine (rEncode_v _ L _ R2.out HN.out).mono ?_
        rintro e w3 ⟨rfl, u3⟩
        have R3 := Lib.hid (R2.out.keep u3)
        have U3 := Lib.hid (U2.out.trans u3)
        clear R2 U2 u3
        go_wp2_with fail
        refine (contexts_v _ L _ R3.out HN.out).mono ?_
        rintro e w4 ⟨r4, rfl, i4, u4⟩
        have R4 := Lib.hid (R3.out.keep u4)
        have U4 := Lib.hid (U3.out.trans u4)
        have I4 := Lib.hid i4
        clear R3 U3 i4 u4
        go_wp2_with fail
        refine (Decode_v _ (encode_lt _) _ (L.map (·.1)) _ I4.out HM.out).mono ?_
        rintro e w5 ⟨r5, rfl, b5, u5⟩
        have R5 := Lib.hid (R4.out.keep u5)
        have U5 := Lib.hid (U4.out.trans u5)
        have B5 := Lib.hid b5
        clear R4 U4 I4 b5 u5
        go_wp2_with fail
        refine (values_v _ L _ R5.out HN.out).mono ?_
        rintro e w6 ⟨r6, rfl, b6, u6⟩
        have U6 := Lib.hid (U5.out.trans u6)
        have B5' := Lib.hid (B5.out.keep u6)
        have B6 := Lib.hid b6
        clear R5 U5 B5 b6 u6
        go_wp2_with fail
        refine (Bools_any _ _ _ _ _ B5'.out B6.out HX.out HY.out HE0.out).mono ?_
        rintro e w7 ⟨rfl, u7⟩
        have U7 := Lib.hid (U6.out.trans u7)
        clear U6 B5' B6 u7
        go_wp2
        go_ret
        exact ⟨rfl, U7.out⟩
end Go.Proofs.YtadfolnhomongaaDoor
