/- Walks of the reference of the polygon files: words. -/
import Derived.Test.YtojdgdeefhndiaaGreatDoorM13
namespace Go.Proofs.YtojdgdeefhndiaaGreatDoor
open Go Go.RowKit Sp
set_option maxRecDepth 100000

theorem nat_ne {c d : UInt8} {v : Int} (hv : ((d.toNat : Nat) : Int) = v) (h : c ≠ d) : (((c.toNat : Nat) : Int) == v) = false := by
  rw [beq_eq_false_iff_ne]; intro e; exact h (by rw [← UInt8.toNat_inj]; omega)
set_option maxHeartbeats 4000000 in
theorem qwords_any (l : Bytes) (hs : l.length ≤ 4294967296) (w : World) : Calls Tryz.prog 41 #[.string (bs l)] w fun en w' => strsR (wordsOf l) w en w' := by
  have hb : (bs l).size = l.length := bs_size l
  go_enter Tryz.func41, Tryz.ntmps41
  go_wp2_with fail
  go_loopw [3, 4, 5, 6, 7] (fun v av i _ _ wr => ∃ (k : Nat) (z : Int) (cur : Bytes) (ls : List Bytes), i = .int .i64 k ∧ k ≤ l.length ∧ av = .int .i64 z ∧ curAt l k z cur ∧ wordsOf l = ls ++ fieldsGo cur (Sp.ahead (l.drop k)) ∧ ls.length ≤ k ∧ wr.ownsRow w.heap.size 9 1 v ls.length (wsV ls) ∧ Upd noBlk w wr) (fun _ _ i _ _ _ => l.length + 1 - (intOf i).toNat)
  case atStart => exact ⟨0, -1, [], [], rfl, Nat.zero_le _, rfl, .inl ⟨rfl, rfl⟩, rfl, Nat.le_refl _, World.ownsRow_nil _ _ _ _, Upd.refl _ _⟩
  case round =>
    obtain ⟨k, z, cur, ls, rfl, hk, rfl, hc, hsp0, hll, ho, hu⟩ := hrel
    have HSP := Lib.hid hsp0
    have HC := Lib.hid hc
    have HO := Lib.hid ho
    have HU := Lib.hid hu
    have hk' : ((k : Nat) : Int) ≤ ((l.length : Nat) : Int) := by omega
    clear hsp0 hc ho hu
    by_cases hke : k = l.length
    · have e1 : (((k : Nat) : Int) == ((l.length : Nat) : Int)) = true := by rw [beq_iff_eq]; omega
      have hah := ahead_end (l := l) (k := k) (by omega)
      clear hke
      rcases HC.out with ⟨rfl, rfl⟩ | ⟨a, rfl, hak, rfl⟩
      · have hsp : Hid (wordsOf l = ls) := by
          show _ = _
          rw [HSP.out, hah, fieldsGo]; simp [flush]

        clear HC HSP
        go_wp2_with fail
        go_ret
        show strsR (wordsOf l) w _ _
        rw [hsp.out]
        exact ⟨_, rfl, HO.out, HU.out⟩
      · have hsp : Hid (wordsOf l = ls ++ [(l.drop a).take (k - a)]) := by
          show _ = _
          rw [HSP.out, hah, fieldsGo, flush_ne (piece_ne hak hk)]

        obtain ⟨g, cap, w5, r5, o5, u5⟩ := append_str HU.out HO.out ((l.drop a).take (k - a)) (by omega)
        rw [← bs_extract] at r5
        have R5 := Lib.hid r5
        have O5 := Lib.hid o5
        have U5 := Lib.hid u5
        have hz0 : (0 : Int) ≤ ((a : Nat) : Int) := by omega
        have hak' : ((a : Nat) : Int) ≤ ((k : Nat) : Int) := by omega
        have hkz : k ≤ (bs l).size := by omega
        clear r5 o5 u5 HC HSP
        go_wp2_with (at_builtin; refine wpList_append_run rfl _ _ _ rfl rfl rfl R5.out ?_)
        go_ret
        show strsR (wordsOf l) w _ _
        rw [hsp.out]
        exact ⟨_, rfl, O5.out, U5.out⟩
    · have e1 : (((k : Nat) : Int) == ((l.length : Nat) : Int)) = false := by rw [beq_eq_false_iff_ne]; omega
      have hkl : k < l.length := by omega
      have hget : (bs l)[k]'(by omega) = l[k] := bs_get l k hkl
      clear hke
      by_cases hc : l[k] = 35
      · have e35 : ((((bs l)[k]'(by omega)).toNat : Int) == 35) = true := by rw [hget]; rw [hc]; rfl
        have hah := ahead_hash hkl hc
        clear hget hc
        rcases HC.out with ⟨rfl, rfl⟩ | ⟨a, rfl, hak, rfl⟩
        · have hsp : Hid (wordsOf l = ls) := by
            show _ = _
            rw [HSP.out, hah, fieldsGo]; simp [flush]

          clear HC HSP
          go_wp2_with fail
          go_ret
          show strsR (wordsOf l) w _ _
          rw [hsp.out]
          exact ⟨_, rfl, HO.out, HU.out⟩
        · have hsp : Hid (wordsOf l = ls ++ [(l.drop a).take (k - a)]) := by
            show _ = _
            rw [HSP.out, hah, fieldsGo, flush_ne (piece_ne hak hk)]

          obtain ⟨g, cap, w5, r5, o5, u5⟩ := append_str HU.out HO.out ((l.drop a).take (k - a)) (by omega)
          rw [← bs_extract] at r5
          have R5 := Lib.hid r5
          have O5 := Lib.hid o5
          have U5 := Lib.hid u5
          have hz0 : (0 : Int) ≤ ((a : Nat) : Int) := by omega
          have hak' : ((a : Nat) : Int) ≤ ((k : Nat) : Int) := by omega
          have hkz : k ≤ (bs l).size := by omega
          clear r5 o5 u5 HC HSP
          go_wp2_with (at_builtin; refine wpList_append_run rfl _ _ _ rfl rfl rfl R5.out ?_)
          go_ret
          show strsR (wordsOf l) w _ _
          rw [hsp.out]
          exact ⟨_, rfl, O5.out, U5.out⟩
      · have h35 : l[k] ≠ 35 := hc
        have hah := ahead_go hkl h35
        clear hc
        by_cases hc : l[k] = 9
        · have e35 : ((((bs l)[k]'(by omega)).toNat : Int) == 35) = false := by rw [hget]; exact nat_ne (by decide) h35
          have e9 : ((((bs l)[k]'(by omega)).toNat : Int) == 9) = true := by rw [hget]; rw [hc]; rfl
          have hbl : Sp.blank l[k] = true := by rw [hc]; rfl
          clear hget hc h35
          rcases HC.out with ⟨rfl, rfl⟩ | ⟨a, rfl, hak, rfl⟩
          · have hsp : Hid (wordsOf l = ls ++ fieldsGo [] (Sp.ahead (l.drop (k + 1)))) := by
              show _ = _
              rw [HSP.out, hah, fieldsGo, hbl, if_pos rfl]; simp [flush]

            clear HC HSP
            go_wp2_with fail
            refine ⟨⟨k + 1, -1, [], ls, by go_num, by omega, rfl, .inl ⟨rfl, rfl⟩, hsp.out, by omega, HO.out, HU.out⟩, by simp [intOf]; omega⟩
          · have hsp : Hid (wordsOf l = (ls ++ [(l.drop a).take (k - a)]) ++ fieldsGo [] (Sp.ahead (l.drop (k + 1)))) := by
              show _ = _
              rw [HSP.out, hah, fieldsGo, hbl, if_pos rfl, flush_ne (piece_ne hak hk), List.append_assoc]

            obtain ⟨g, cap, w5, r5, o5, u5⟩ := append_str HU.out HO.out ((l.drop a).take (k - a)) (by omega)
            rw [← bs_extract] at r5
            have R5 := Lib.hid r5
            have O5 := Lib.hid o5
            have U5 := Lib.hid u5
            have hz0 : (0 : Int) ≤ ((a : Nat) : Int) := by omega
            have hak' : ((a : Nat) : Int) ≤ ((k : Nat) : Int) := by omega
            have hkz : k ≤ (bs l).size := by omega
            clear r5 o5 u5 HC HSP
            go_wp2_with (at_builtin; refine wpList_append_run rfl _ _ _ rfl rfl rfl R5.out ?_)
            refine ⟨⟨k + 1, -1, [], ls ++ [(l.drop a).take (k - a)], by go_num, by omega, rfl, .inl ⟨rfl, rfl⟩, hsp.out, by rw [List.length_append]; simp; omega, O5.out, U5.out⟩, by simp [intOf]; omega⟩
        · have h9 : l[k] ≠ 9 := hc
          clear hc
          by_cases hc : l[k] = 13
          · have e35 : ((((bs l)[k]'(by omega)).toNat : Int) == 35) = false := by rw [hget]; exact nat_ne (by decide) h35
            have e9 : ((((bs l)[k]'(by omega)).toNat : Int) == 9) = false := by rw [hget]; exact nat_ne (by decide) h9
            have e13 : ((((bs l)[k]'(by omega)).toNat : Int) == 13) = true := by rw [hget]; rw [hc]; rfl
            have hbl : Sp.blank l[k] = true := by rw [hc]; rfl
            clear hget hc h35 h9
            rcases HC.out with ⟨rfl, rfl⟩ | ⟨a, rfl, hak, rfl⟩
            · have hsp : Hid (wordsOf l = ls ++ fieldsGo [] (Sp.ahead (l.drop (k + 1)))) := by
                show _ = _
                rw [HSP.out, hah, fieldsGo, hbl, if_pos rfl]; simp [flush]

              clear HC HSP
              go_wp2_with fail
              refine ⟨⟨k + 1, -1, [], ls, by go_num, by omega, rfl, .inl ⟨rfl, rfl⟩, hsp.out, by omega, HO.out, HU.out⟩, by simp [intOf]; omega⟩
            · have hsp : Hid (wordsOf l = (ls ++ [(l.drop a).take (k - a)]) ++ fieldsGo [] (Sp.ahead (l.drop (k + 1)))) := by
                show _ = _
                rw [HSP.out, hah, fieldsGo, hbl, if_pos rfl, flush_ne (piece_ne hak hk), List.append_assoc]

              obtain ⟨g, cap, w5, r5, o5, u5⟩ := append_str HU.out HO.out ((l.drop a).take (k - a)) (by omega)
              rw [← bs_extract] at r5
              have R5 := Lib.hid r5
              have O5 := Lib.hid o5
              have U5 := Lib.hid u5
              have hz0 : (0 : Int) ≤ ((a : Nat) : Int) := by omega
              have hak' : ((a : Nat) : Int) ≤ ((k : Nat) : Int) := by omega
              have hkz : k ≤ (bs l).size := by omega
              clear r5 o5 u5 HC HSP
              go_wp2_with (at_builtin; refine wpList_append_run rfl _ _ _ rfl rfl rfl R5.out ?_)
              refine ⟨⟨k + 1, -1, [], ls ++ [(l.drop a).take (k - a)], by go_num, by omega, rfl, .inl ⟨rfl, rfl⟩, hsp.out, by rw [List.length_append]; simp; omega, O5.out, U5.out⟩, by simp [intOf]; omega⟩
          · have h13 : l[k] ≠ 13 := hc
            clear hc
            by_cases hc : l[k] = 32
            · have e35 : ((((bs l)[k]'(by omega)).toNat : Int) == 35) = false := by rw [hget]; exact nat_ne (by decide) h35
              have e9 : ((((bs l)[k]'(by omega)).toNat : Int) == 9) = false := by rw [hget]; exact nat_ne (by decide) h9
              have e13 : ((((bs l)[k]'(by omega)).toNat : Int) == 13) = false := by rw [hget]; exact nat_ne (by decide) h13
              have e32 : ((((bs l)[k]'(by omega)).toNat : Int) == 32) = true := by rw [hget]; rw [hc]; rfl
              have hbl : Sp.blank l[k] = true := by rw [hc]; rfl
              clear hget hc h35 h9 h13
              rcases HC.out with ⟨rfl, rfl⟩ | ⟨a, rfl, hak, rfl⟩
              · have hsp : Hid (wordsOf l = ls ++ fieldsGo [] (Sp.ahead (l.drop (k + 1)))) := by
                  show _ = _
                  rw [HSP.out, hah, fieldsGo, hbl, if_pos rfl]; simp [flush]

                clear HC HSP
                go_wp2_with fail
                refine ⟨⟨k + 1, -1, [], ls, by go_num, by omega, rfl, .inl ⟨rfl, rfl⟩, hsp.out, by omega, HO.out, HU.out⟩, by simp [intOf]; omega⟩
              · have hsp : Hid (wordsOf l = (ls ++ [(l.drop a).take (k - a)]) ++ fieldsGo [] (Sp.ahead (l.drop (k + 1)))) := by
                  show _ = _
                  rw [HSP.out, hah, fieldsGo, hbl, if_pos rfl, flush_ne (piece_ne hak hk), List.append_assoc]

                obtain ⟨g, cap, w5, r5, o5, u5⟩ := append_str HU.out HO.out ((l.drop a).take (k - a)) (by omega)
                rw [← bs_extract] at r5
                have R5 := Lib.hid r5
                have O5 := Lib.hid o5
                have U5 := Lib.hid u5
                have hz0 : (0 : Int) ≤ ((a : Nat) : Int) := by omega
                have hak' : ((a : Nat) : Int) ≤ ((k : Nat) : Int) := by omega
                have hkz : k ≤ (bs l).size := by omega
                clear r5 o5 u5 HC HSP
                go_wp2_with (at_builtin; refine wpList_append_run rfl _ _ _ rfl rfl rfl R5.out ?_)
                refine ⟨⟨k + 1, -1, [], ls ++ [(l.drop a).take (k - a)], by go_num, by omega, rfl, .inl ⟨rfl, rfl⟩, hsp.out, by rw [List.length_append]; simp; omega, O5.out, U5.out⟩, by simp [intOf]; omega⟩
            · have h32 : l[k] ≠ 32 := hc
              clear hc
              have e35 : ((((bs l)[k]'(by omega)).toNat : Int) == 35) = false := by rw [hget]; exact nat_ne (by decide) h35
              have e9 : ((((bs l)[k]'(by omega)).toNat : Int) == 9) = false := by rw [hget]; exact nat_ne (by decide) h9
              have e13 : ((((bs l)[k]'(by omega)).toNat : Int) == 13) = false := by rw [hget]; exact nat_ne (by decide) h13
              have e32 : ((((bs l)[k]'(by omega)).toNat : Int) == 32) = false := by rw [hget]; exact nat_ne (by decide) h32
              have hbl : Sp.blank l[k] = false := by unfold Sp.blank; simp [h9, h13, h32]
              clear hget h35 h9 h13 h32
              rcases HC.out with ⟨rfl, rfl⟩ | ⟨a, rfl, hak, rfl⟩
              · have hsp : Hid (wordsOf l = ls ++ fieldsGo ((l.drop k).take (k + 1 - k)) (Sp.ahead (l.drop (k + 1)))) := by
                  show _ = _
                  rw [HSP.out, hah, fieldsGo, hbl, if_neg (by simp), piece_snoc (Nat.le_refl _) hkl]; simp

                clear HC HSP
                go_wp2_with fail
                refine ⟨⟨k + 1, k, (l.drop k).take (k + 1 - k), ls, by go_num, by omega, rfl, .inr ⟨k, rfl, by omega, rfl⟩, hsp.out, by omega, HO.out, HU.out⟩, by simp [intOf]; omega⟩
              · have hsp : Hid (wordsOf l = ls ++ fieldsGo ((l.drop a).take (k + 1 - a)) (Sp.ahead (l.drop (k + 1)))) := by
                  show _ = _
                  rw [HSP.out, hah, fieldsGo, hbl, if_neg (by simp), piece_snoc (by omega) hkl]

                obtain ⟨g, cap, w5, r5, o5, u5⟩ := append_str HU.out HO.out ((l.drop a).take (k - a)) (by omega)
                rw [← bs_extract] at r5
                have R5 := Lib.hid r5
                have O5 := Lib.hid o5
                have U5 := Lib.hid u5
                have hz0 : (0 : Int) ≤ ((a : Nat) : Int) := by omega
                have hak' : ((a : Nat) : Int) ≤ ((k : Nat) : Int) := by omega
                have hkz : k ≤ (bs l).size := by omega
                clear r5 o5 u5 HC HSP
                go_wp2_with fail
                refine ⟨⟨k + 1, a, (l.drop a).take (k + 1 - a), ls, by go_num, by omega, rfl, .inr ⟨a, rfl, by omega, rfl⟩, hsp.out, by omega, HO.out, HU.out⟩, by simp [intOf]; omega⟩
end Go.Proofs.YtojdgdeefhndiaaGreatDoor
