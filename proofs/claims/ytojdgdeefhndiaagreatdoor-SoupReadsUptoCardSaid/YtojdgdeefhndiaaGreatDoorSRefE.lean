/- Walks of the reference of the polygon files: head, fixed, fail. -/
import Derived.Test.YtojdgdeefhndiaaGreatDoorSRefD
import Derived.Test.YtojdgdeefhndiaaGreatDoorSPolysP
namespace Go.Proofs.YtojdgdeefhndiaaGreatDoor
open Go Go.RowKit Sp
set_option maxRecDepth 100000

/-- What the reference's head comes to. -/
def headR (r : R Nat) (w : World) (en : Ending) (w' : World) : Prop :=
  match r with
  | .ok n => en = .returned (.tuple #[.int .i64 n, .int .i64 0]) ∧ w = w'
  | .bad e => en = .returned (.tuple #[.int .i64 0, .int .i64 e]) ∧ w = w'
set_option maxHeartbeats 1000000 in
theorem qhead_any (A : Option Addr) (cap : Nat) (ws : List Bytes) (hl : ws.length ≤ 4294967295) (hs : short ws) (w : World) (h : RdW w A ws) :
    Calls Tryz.prog 65 #[.slice A ws.length cap] w fun en w' => headR (headS ws) w en w' := by
  by_cases h2 : ws.length = 2
  · obtain ⟨a, d, rfl⟩ : ∃ a d, ws = [a, d] := by
      match ws, h2 with
      | [a, d], _ => exact ⟨a, d, rfl⟩
    obtain ⟨b, off, rfl, hc⟩ := h (by simp)
    have k0 : w.cell? ⟨b, off, none⟩ = some (.string (bs a)) := hc 0 (by simp)
    have k1 : w.cell? ⟨b, off + 1, none⟩ = some (.string (bs d)) := hc 1 (by simp)
    have hsd : d.length ≤ 4294967296 := hs d (by simp)
    show Calls Tryz.prog 65 #[.slice (some ⟨b, off, none⟩) 2 cap] w _
    clear hc h2 hl h hs
    by_cases ha : a = wPoly
    · subst ha
      have e1 : ((bs wPoly).toList != [112, 111, 108, 121]) = false := by rw [bs_toList]; rfl
      have e1' : ((bs wPoly).toList == [112, 111, 108, 121]) = true := by rw [bs_toList]; rfl
      rcases hnum : isNum d with _ | _
      · rw [headS_num (a := wPoly) hnum]
        have hd := digits_any d hsd w
        rw [digits_no hnum] at hd
        have HD := Lib.hid hd
        clear hd hnum
        go_enter Tryz.func65, Tryz.ntmps65
        go_wp2_with fail
        refine HD.out.mono ?_
        rintro e w2 ⟨rfl, rfl⟩
        go_wp2_with fail
        go_ret2
        exact ⟨rfl, rfl⟩
      · obtain ⟨c, r, rfl⟩ := isNum_cons hnum
        have hd := digits_any (c :: r) hsd w
        obtain ⟨hd1, hd2⟩ := digits_yes hnum
        rw [hd1] at hd
        have hsz : 0 < (bs (c :: r)).size := by rw [bs_size]; simp
        have hg0 : (bs (c :: r))[0] = c := by rw [bs_get _ 0 (by simp)]; rfl
        have hne : ((((unminus (c :: r)).length : Nat) : Int) == 0) = false := by rw [beq_eq_false_iff_ne]; omega
        have hub : ((unminus (c :: r)).length : Int) ≤ 4294967296 := by have := unminus_le (c :: r); omega
        by_cases hcm : c = 45
        · subst hcm
          rw [headS_minus]
          have hq : ((((45 : UInt8).toNat : Nat) : Int) == 45) = true := by decide
          have HD := Lib.hid hd
          clear hd hnum hd1 hd2
          generalize (unminus (45 :: r)).length = m at *
          go_enter Tryz.func65, Tryz.ntmps65
          go_wp2_with fail
          refine HD.out.mono ?_
          rintro e w2 ⟨rfl, rfl⟩
          go_wp2_with fail
          go_ret2
          exact ⟨rfl, rfl⟩
        · have hq : (((c.toNat : Nat) : Int) == 45) = false := by
            have h : c.toNat ≠ 45 := fun e => hcm (by rw [← UInt8.toNat_inj]; exact e)
            rw [beq_eq_false_iff_ne]; omega
          have hhd := headS_good hnum hcm
          have hlg : Sp.long (c :: r) = decide (15 < (unminus (c :: r)).length) := rfl
          have hva := fun h => value_any (c :: r) hsd hnum h w
          have hvb := fun h => valOf_small hnum h
          rw [valOf_plain hcm] at hva hvb
          have HD := Lib.hid hd
          by_cases h15 : 15 < (unminus (c :: r)).length
          · have h15' : (15 : Int) < (((unminus (c :: r)).length : Nat) : Int) := by omega
            have hl1 : Sp.long (c :: r) = true := by rw [hlg]; simpa using h15
            rw [hl1, Bool.true_or, if_pos rfl] at hhd
            rw [hhd]
            clear hd hnum hd1 hd2 hhd hlg hl1 hva hvb h15 hcm
            generalize (unminus (c :: r)).length = m at *
            go_enter Tryz.func65, Tryz.ntmps65
            go_wp2_with fail
            refine HD.out.mono ?_
            rintro e w2 ⟨rfl, rfl⟩
            go_wp2_with fail
            refine HD.out.mono ?_
            rintro e w2 ⟨rfl, rfl⟩
            go_wp2_with fail
            go_ret2
            exact ⟨rfl, rfl⟩
          · have h15' : ¬ (15 : Int) < (((unminus (c :: r)).length : Nat) : Int) := by omega
            have hl1 : Sp.long (c :: r) = false := by rw [hlg]; simpa using h15
            rw [hl1, Bool.false_or] at hhd
            have HV := Lib.hid (hva hl1)
            have hb := (hvb hl1).2
            generalize natOf (c :: r) = n at *
            by_cases h3 : n < 3
            · rw [if_pos (by simpa using h3)] at hhd
              rw [hhd]
              have h3' : ((n : Nat) : Int) < 3 := by omega
              clear hd hnum hd1 hd2 hhd hlg hl1 hva hvb h15 hcm h3
              generalize (unminus (c :: r)).length = m at *
              go_enter Tryz.func65, Tryz.ntmps65
              go_wp2_with fail
              refine HD.out.mono ?_
              rintro e w2 ⟨rfl, rfl⟩
              go_wp2_with fail
              refine HD.out.mono ?_
              rintro e w2 ⟨rfl, rfl⟩
              go_wp2_with fail
              refine HV.out.mono ?_
              rintro e w2 ⟨rfl, rfl⟩
              go_wp2_with fail
              go_ret2
              exact ⟨rfl, rfl⟩
            · have h3' : ¬ ((n : Nat) : Int) < 3 := by omega
              rw [if_neg (by simpa using h3)] at hhd
              by_cases h64 : 64 < n
              · rw [if_pos h64] at hhd
                rw [hhd]
                have h64' : (64 : Int) < ((n : Nat) : Int) := by omega
                clear hd hnum hd1 hd2 hhd hlg hl1 hva hvb h15 hcm h3 h64
                generalize (unminus (c :: r)).length = m at *
                go_enter Tryz.func65, Tryz.ntmps65
                go_wp2_with fail
                refine HD.out.mono ?_
                rintro e w2 ⟨rfl, rfl⟩
                go_wp2_with fail
                refine HD.out.mono ?_
                rintro e w2 ⟨rfl, rfl⟩
                go_wp2_with fail
                refine HV.out.mono ?_
                rintro e w2 ⟨rfl, rfl⟩
                go_wp2_with fail
                refine HV.out.mono ?_
                rintro e w2 ⟨rfl, rfl⟩
                go_wp2_with fail
                go_ret2
                exact ⟨rfl, rfl⟩
              · rw [if_neg h64] at hhd
                rw [hhd]
                have h64' : ¬ (64 : Int) < ((n : Nat) : Int) := by omega
                clear hd hnum hd1 hd2 hhd hlg hl1 hva hvb h15 hcm h3 h64
                generalize (unminus (c :: r)).length = m at *
                go_enter Tryz.func65, Tryz.ntmps65
                go_wp2_with fail
                refine HD.out.mono ?_
                rintro e w2 ⟨rfl, rfl⟩
                go_wp2_with fail
                refine HD.out.mono ?_
                rintro e w2 ⟨rfl, rfl⟩
                go_wp2_with fail
                refine HV.out.mono ?_
                rintro e w2 ⟨rfl, rfl⟩
                go_wp2_with fail
                refine HV.out.mono ?_
                rintro e w2 ⟨rfl, rfl⟩
                go_wp2_with fail
                refine HV.out.mono ?_
                rintro e w2 ⟨rfl, rfl⟩
                go_wp2_with fail
                go_ret2
                exact ⟨rfl, rfl⟩
    · rw [headS_word ha]
      have e1 : ((bs a).toList != [112, 111, 108, 121]) = true := by rw [bs_toList, bne_iff_ne]; exact ha
      have e1' : ((bs a).toList == [112, 111, 108, 121]) = false := by rw [bs_toList, beq_eq_false_iff_ne]; exact ha
      clear ha
      go_enter Tryz.func65, Tryz.ntmps65
      go_wp2_with fail
      go_ret2
      exact ⟨rfl, rfl⟩
  · rw [headS_len h2]
    have h2' : (((ws.length : Nat) : Int) != 2) = true := by rw [bne_iff_ne]; omega
    clear h hs
    generalize ws.length = n at *
    clear h2
    go_enter Tryz.func65, Tryz.ntmps65
    go_wp2_with fail
    go_ret2
    exact ⟨rfl, rfl⟩
end Go.Proofs.YtojdgdeefhndiaaGreatDoor
