/- Walks of the reference of the polygon files: head, fixed, fail. Walks of the reference of the polygon files: fixed, fail, add. Walks of the reference of the polygon files: lines, words. -/
import Derived.Test.YtojdgdeefhndiaaGreatDoorM12
import Derived.Test.YtojdgdeefhndiaaGreatDoorM9
import Derived.Test.YtojdgdeefhndiaaGreatDoorM3
import Derived.WalkSpells
namespace Go.Proofs.YtojdgdeefhndiaaGreatDoor
open Go Go.RowKit Sp
set_option maxRecDepth 100000

/-- What the reference's head comes to. -/
def headR (r : R Nat) (w : World) (en : Ending) (w' : World) : Prop :=
  match r with
  | .ok n => en = .returned (.tuple #[.int .i64 n, .int .i64 0]) ∧ w = w'
  | .bad e => en = .returned (.tuple #[.int .i64 0, .int .i64 e]) ∧ w = w'
set_option maxHeartbeats 1000000 in
theorem qhead_any (A : Option Addr) (cap : Nat) (ws : List Bytes) (hl : ws.length ≤ 4294967295) (hs : short ws) (w : World) (h : RdW w A ws) :
    Calls Tryz.prog 65 #[.slice A ws.length cap] w fun en w' => headR (headS ws) w en w' := by
  by_cases h2 : ws.length = 2
  · obtain ⟨a, d, rfl⟩ : ∃ a d, ws = [a, d] := by
      match ws, h2 with
      | [a, d], _ => exact ⟨a, d, rfl⟩
    obtain ⟨b, off, rfl, hc⟩ := h (by simp)
    have k0 : w.cell? ⟨b, off, none⟩ = some (.string (bs a)) := hc 0 (by simp)
    have k1 : w.cell? ⟨b, off + 1, none⟩ = some (.string (bs d)) := hc 1 (by simp)
    have hsd : d.length ≤ 4294967296 := hs d (by simp)
    show Calls Tryz.prog 65 #[.slice (some ⟨b, off, none⟩) 2 cap] w _
    clear hc h2 hl h hs
    by_cases ha : a = wPoly
    · subst ha
      have e1 : ((bs wPoly).toList != [112, 111, 108, 121]) = false := by rw [bs_toList]; rfl
      have e1' : ((bs wPoly).toList == [112, 111, 108, 121]) = true := by rw [bs_toList]; rfl
      rcases hnum : isNum d with _ | _
      · rw [headS_num (a := wPoly) hnum]
        have hd := digits_any d hsd w
        rw [digits_no hnum] at hd
        have HD := Lib.hid hd
        clear hd hnum
        go_enter Tryz.func65, Tryz.ntmps65
        go_wp2_with fail
        refine HD.out.mono ?_
        rintro e w2 ⟨rfl, rfl⟩
        go_wp2_with fail
        go_ret2
        exact ⟨rfl, rfl⟩
      · obtain ⟨c, r, rfl⟩ := isNum_cons hnum
        have hd := digits_any (c :: r) hsd w
        obtain ⟨hd1, hd2⟩ := digits_yes hnum
        rw [hd1] at hd
        have hsz : 0 < (bs (c :: r)).size := by rw [bs_size]; simp
        have hg0 : (bs (c :: r))[0] = c := by rw [bs_get _ 0 (by simp)]; rfl
        have hne : ((((unminus (c :: r)).length : Nat) : Int) == 0) = false := by rw [beq_eq_false_iff_ne]; omega
        have hub : ((unminus (c :: r)).length : Int) ≤ 4294967296 := by have := unminus_le (c :: r); omega
        by_cases hcm : c = 45
        · subst hcm
          rw [headS_minus]
          have hq : ((((45 : UInt8).toNat : Nat) : Int) == 45) = true := by decide
          have HD := Lib.hid hd
          clear hd hnum hd1 hd2
          generalize (unminus (45 :: r)).length = m at *
          go_enter Tryz.func65, Tryz.ntmps65
          go_wp2_with fail
          refine HD.out.mono ?_
          rintro e w2 ⟨rfl, rfl⟩
          go_wp2_with fail
          go_ret2
          exact ⟨rfl, rfl⟩
        · have hq : (((c.toNat : Nat) : Int) == 45) = false := by
            have h : c.toNat ≠ 45 := fun e => hcm (by rw [← UInt8.toNat_inj]; exact e)
            rw [beq_eq_false_iff_ne]; omega
          have hhd := headS_good hnum hcm
          have hlg : Sp.long (c :: r) = decide (15 < (unminus (c :: r)).length) := rfl
          have hva := fun h => value_any (c :: r) hsd hnum h w
          have hvb := fun h => valOf_small hnum h
          rw [valOf_plain hcm] at hva hvb
          have HD := Lib.hid hd
          by_cases h15 : 15 < (unminus (c :: r)).length
          · have h15' : (15 : Int) < (((unminus (c :: r)).length : Nat) : Int) := by omega
            have hl1 : Sp.long (c :: r) = true := by rw [hlg]; simpa using h15
            rw [hl1, Bool.true_or, if_pos rfl] at hhd
            rw [hhd]
            clear hd hnum hd1 hd2 hhd hlg hl1 hva hvb h15 hcm
            generalize (unminus (c :: r)).length = m at *
            go_enter Tryz.func65, Tryz.ntmps65
            go_wp2_with fail
            refine HD.out.mono ?_
            rintro e w2 ⟨rfl, rfl⟩
            go_wp2_with fail
            refine HD.out.mono ?_
            rintro e w2 ⟨rfl, rfl⟩
            go_wp2_with fail
            go_ret2
            exact ⟨rfl, rfl⟩
          · have h15' : ¬ (15 : Int) < (((unminus (c :: r)).length : Nat) : Int) := by omega
            have hl1 : Sp.long (c :: r) = false := by rw [hlg]; simpa using h15
            rw [hl1, Bool.false_or] at hhd
            have HV := Lib.hid (hva hl1)
            have hb := (hvb hl1).2
            generalize natOf (c :: r) = n at *
            by_cases h3 : n < 3
            · rw [if_pos (by simpa using h3)] at hhd
              rw [hhd]
              have h3' : ((n : Nat) : Int) < 3 := by omega
              clear hd hnum hd1 hd2 hhd hlg hl1 hva hvb h15 hcm h3
              generalize (unminus (c :: r)).length = m at *
              go_enter Tryz.func65, Tryz.ntmps65
              go_wp2_with fail
              refine HD.out.mono ?_
              rintro e w2 ⟨rfl, rfl⟩
              go_wp2_with fail
              refine HD.out.mono ?_
              rintro e w2 ⟨rfl, rfl⟩
              go_wp2_with fail
              refine HV.out.mono ?_
              rintro e w2 ⟨rfl, rfl⟩
              go_wp2_with fail
              go_ret2
              exact ⟨rfl, rfl⟩
            · have h3' : ¬ ((n : Nat) : Int) < 3 := by omega
              rw [if_neg (by simpa using h3)] at hhd
              by_cases h64 : 64 < n
              · rw [if_pos h64] at hhd
                rw [hhd]
                have h64' : (64 : Int) < ((n : Nat) : Int) := by omega
                clear hd hnum hd1 hd2 hhd hlg hl1 hva hvb h15 hcm h3 h64
                generalize (unminus (c :: r)).length = m at *
                go_enter Tryz.func65, Tryz.ntmps65
                go_wp2_with fail
                refine HD.out.mono ?_
                rintro e w2 ⟨rfl, rfl⟩
                go_wp2_with fail
                refine HD.out.mono ?_
                rintro e w2 ⟨rfl, rfl⟩
                go_wp2_with fail
                refine HV.out.mono ?_
                rintro e w2 ⟨rfl, rfl⟩
                go_wp2_with fail
                refine HV.out.mono ?_
                rintro e w2 ⟨rfl, rfl⟩
                go_wp2_with fail
                go_ret2
                exact ⟨rfl, rfl⟩
              · rw [if_neg h64] at hhd
                rw [hhd]
                have h64' : ¬ (64 : Int) < ((n : Nat) : Int) := by omega
                clear hd hnum hd1 hd2 hhd hlg hl1 hva hvb h15 hcm h3 h64
                generalize (unminus (c :: r)).length = m at *
                go_enter Tryz.func65, Tryz.ntmps65
                go_wp2_with fail
                refine HD.out.mono ?_
                rintro e w2 ⟨rfl, rfl⟩
                go_wp2_with fail
                refine HD.out.mono ?_
                rintro e w2 ⟨rfl, rfl⟩
                go_wp2_with fail
                refine HV.out.mono ?_
                rintro e w2 ⟨rfl, rfl⟩
                go_wp2_with fail
                refine HV.out.mono ?_
                rintro e w2 ⟨rfl, rfl⟩
                go_wp2_with fail
                refine HV.out.mono ?_
                rintro e w2 ⟨rfl, rfl⟩
                go_wp2_with fail
                go_ret2
                exact ⟨rfl, rfl⟩
    · rw [headS_word ha]
      have e1 : ((bs a).toList != [112, 111, 108, 121]) = true := by rw [bs_toList, bne_iff_ne]; exact ha
      have e1' : ((bs a).toList == [112, 111, 108, 121]) = false := by rw [bs_toList, beq_eq_false_iff_ne]; exact ha
      clear ha
      go_enter Tryz.func65, Tryz.ntmps65
      go_wp2_with fail
      go_ret2
      exact ⟨rfl, rfl⟩
  · rw [headS_len h2]
    have h2' : (((ws.length : Nat) : Int) != 2) = true := by rw [bne_iff_ne]; omega
    clear h hs
    generalize ws.length = n at *
    clear h2
    go_enter Tryz.func65, Tryz.ntmps65
    go_wp2_with fail
    go_ret2
    exact ⟨rfl, rfl⟩
end Go.Proofs.YtojdgdeefhndiaaGreatDoor
namespace Go.Proofs.YtojdgdeefhndiaaGreatDoor
open Go Go.RowKit Sp
set_option maxRecDepth 100000

theorem leNat_step2 {s : Bytes} {p k : Nat} (h : p < s.length) : leNat ((s.drop p).take (k + 1)) = (s[p]).toNat + 256 * leNat ((s.drop (p + 1)).take k) := by
  rw [List.drop_eq_getElem_cons h, List.take_succ_cons, leNat]
set_option maxHeartbeats 1000000 in
theorem qfixed_short (s : Bytes) (p n : Nat) (_hs : s.length ≤ 4294967296) (hp : p ≤ 4294967300) (hn : n ≤ 4) (h : s.length < p + n) (w : World) : Calls Tryz.prog 63 #[.string (bs s), .int .i64 p, .int .i64 n] w fun en w' => en = .returned (.int .i64 (-1)) ∧ w = w' := by
  have hb : (bs s).size = s.length := bs_size s
  have h' : ((s.length : Nat) : Int) < (p : Int) + n := by omega
  clear h
  go_enter Tryz.func63, Tryz.ntmps63
  go_wp2_with fail
  go_ret
  exact ⟨rfl, rfl⟩
set_option maxHeartbeats 1000000 in
theorem qfixed_ok (s : Bytes) (p n : Nat) (hs : s.length ≤ 4294967296) (hn : n ≤ 4) (h : p + n ≤ s.length) (w : World) : Calls Tryz.prog 63 #[.string (bs s), .int .i64 p, .int .i64 n] w fun en w' => en = .returned (.int .i64 (leNat ((s.drop p).take n) : Nat)) ∧ w = w' := by
  have hb : (bs s).size = s.length := bs_size s
  have h' : ¬ ((s.length : Nat) : Int) < (p : Int) + n := by omega
  go_enter Tryz.func63, Tryz.ntmps63
  go_wp2_with fail
  go_loop [7, 8] (fun v i => ∃ j : Nat, i = .int .i64 ((j : Int) - 1) ∧ j ≤ n ∧ v = .int .i64 (leNat ((s.drop (p + j)).take (n - j)) : Nat)) (fun _ i => (intOf i + 1).toNat)
  case atStart => exact ⟨n, rfl, Nat.le_refl _, by rw [Nat.sub_self]; rfl⟩
  case round =>
    obtain ⟨j, rfl, hj, rfl⟩ := hrel
    cases j with
    | zero =>
      have hz : ¬ (0 : Int) ≤ ((0 : Nat) : Int) - 1 := by omega
      rw [Nat.sub_zero, Nat.add_zero]
      generalize hvv : leNat ((s.drop p).take n) = v at *
      have HV := Lib.hid hvv
      clear hvv
      go_wp2_with fail
      go_ret
      exact ⟨by rw [HV.out]; rfl, rfl⟩
    | succ j =>
      have hj1 : (((j + 1 : Nat) : Int) - 1) = (j : Int) := by omega
      rw [hj1]
      have hget : (bs s)[p + j]'(by omega) = s[p + j]'(by omega) := bs_get s (p + j) (by omega)
      have hst : Hid (leNat ((s.drop (p + j)).take (n - j)) = (s[p + j]'(by omega)).toNat + 256 * leNat ((s.drop (p + (j + 1))).take (n - (j + 1)))) := by
        show _ = _
        rw [show n - j = (n - (j + 1)) + 1 by omega, leNat_step2 (by omega), Nat.add_assoc]
      have hlt : leNat ((s.drop (p + (j + 1))).take (n - (j + 1))) ≤ 16777216 := by
        have a := leNat_take_lt (s.drop (p + (j + 1))) (n - (j + 1))
        have b : 256 ^ (n - (j + 1)) ≤ 256 ^ 3 := Nat.pow_le_pow_right (by decide) (by omega)
        have e : (256 : Nat) ^ 3 = 16777216 := by decide
        omega
      have hlt' : ((leNat ((s.drop (p + (j + 1))).take (n - (j + 1))) : Nat) : Int) ≤ 16777216 := by omega
      generalize (s[p + j]'(by omega)) = c at *
      have hc : ((c.toNat : Nat) : Int) ≤ 255 := by have := c.toNat_lt; omega
      clear hlt hj1
      generalize leNat ((s.drop (p + (j + 1))).take (n - (j + 1))) = v at *
      go_wp2_with fail
      refine ⟨⟨j, rfl, by omega, congrArg (Value.int .i64) ?_⟩, by simp [intOf]; try omega⟩
      rw [hst.out]; omega
/-- The block of a result under way. -/
def resO (vl : Value) (pl e : Nat) : Obj := .cells #[vl, .int .i64 pl, .int .i64 e] 70 (0, 0)
set_option maxHeartbeats 1000000 in
theorem qfail_set (R : Nat) (vl : Value) (pl p e : Nat) (w : World) (h : w.heap[R]? = some (resO vl pl 0)) :
    Calls Tryz.prog 64 #[.pointer (some ⟨R, 0, none⟩), .int .i64 p, .int .i64 e] w fun en w' => en = .returned (.tuple #[]) ∧ Upd (fun k => k = R) w w' ∧ w'.heap[R]? = some (resO vl p e) := by
  have c1 : w.cell? ⟨R, 1, none⟩ = some (.int .i64 pl) := by simp [World.cell?, h, resO]
  have c2 : w.cell? ⟨R, 2, none⟩ = some (.int .i64 (0 : Nat)) := by simp [World.cell?, h, resO]
  have z1 : w.frozen? ⟨R, 1, none⟩ = false := by simp [World.frozen?, h, resO]
  have h1 : (w.setCell ⟨R, 1, none⟩ (.int .i64 p)).heap[R]? = some (resO vl p 0) := (heap_setCell_eq (i := 1) (.int .i64 p) h).trans rfl
  have c2' : (w.setCell ⟨R, 1, none⟩ (.int .i64 p)).cell? ⟨R, 2, none⟩ = some (.int .i64 (0 : Nat)) := by simp [World.cell?, h1, resO]
  have z2' : (w.setCell ⟨R, 1, none⟩ (.int .i64 p)).frozen? ⟨R, 2, none⟩ = false := by simp [World.frozen?, h1, resO]
  have H2 : Hid (((w.setCell ⟨R, 1, none⟩ (.int .i64 p)).setCell ⟨R, 2, none⟩ (.int .i64 e)).heap[R]? = some (resO vl p e)) := (heap_setCell_eq (i := 2) (.int .i64 e) h1).trans rfl
  clear h h1
  go_enter Tryz.func64, Tryz.ntmps64
  go_wp2_with fail
  go_end0
  exact ⟨rfl, ((Upd.refl (fun k => k = R) w).setCell (p := ⟨R, 1, none⟩) (fun _ => rfl) _).setCell (p := ⟨R, 2, none⟩) (fun _ => rfl) _, H2.out⟩
set_option maxHeartbeats 1000000 in
theorem qfail_keep (R : Nat) (vl : Value) (pl e0 p e : Nat) (he : e0 ≠ 0) (w : World) (h : w.heap[R]? = some (resO vl pl e0)) :
    Calls Tryz.prog 64 #[.pointer (some ⟨R, 0, none⟩), .int .i64 p, .int .i64 e] w fun en w' => en = .returned (.tuple #[]) ∧ w = w' := by
  have c2 : w.cell? ⟨R, 2, none⟩ = some (.int .i64 (e0 : Nat)) := by simp [World.cell?, h, resO]
  have hne : (((e0 : Nat) : Int) == 0) = false := by rw [beq_eq_false_iff_ne]; omega
  clear h he
  go_enter Tryz.func64, Tryz.ntmps64
  go_wp2_with fail
  go_end0
  exact ⟨rfl, rfl⟩
end Go.Proofs.YtojdgdeefhndiaaGreatDoor
namespace Go.Proofs.YtojdgdeefhndiaaGreatDoor
open Go Go.RowKit Sp
set_option maxRecDepth 100000

theorem info_s : (Tryz.prog.info? 9).map (fun i => (i.zero, i.size, i.bytes)) = some (some (.string ⟨#[]⟩), 1, 16) := by kernel_rfl
def wsV (ls : List Bytes) : List Value := ls.map (fun l => Value.string (bs l))
theorem bs_extract (s : Bytes) (a k : Nat) : (bs s).extract a k = bs ((s.drop a).take (k - a)) := by
  apply ByteArray.ext
  apply Array.ext'
  rw [data_extract, bs_data, bs_data]
theorem append_str {w0 w : World} (hup : Upd noBlk w0 w) {v : Value} {ls : List Bytes} (h : w.ownsRow w0.heap.size 9 1 v ls.length (wsV ls)) (x : Bytes) (hl : ls.length < 4294967299) :
    ∃ g cap w', (Builtin.append_ #[36, 36] 36 #[v, .slice (some ⟨w.heap.size, 0, none⟩) 1 1]).run Tryz.prog (w.alloc (.cells #[.string (bs x)] 9)) = .ok (.slice (some ⟨g, 0, none⟩) (ls.length + 1) cap) w' ∧
      w'.ownsRow w0.heap.size 9 1 (.slice (some ⟨g, 0, none⟩) (ls.length + 1) cap) (ls ++ [x]).length (wsV (ls ++ [x])) ∧ Upd noBlk w0 w' := by
  obtain ⟨i0, hi0, hz0, hz1, hz2⟩ := info_parts info_s
  obtain ⟨g, cap, w', r, o, u, _, _, _⟩ := append_item (P := Tryz.prog) (w0 := w0) (w := w) 36 36 9 i0 _ 1 16 Tryz.underlying36 hi0 hz0 hz1 hz2 rfl (by omega) hup h [.string (bs x)] rfl (by simp [Value.oneCell']) (by unfold maxLen; omega) (by omega)
  refine ⟨g, cap, w', r, ?_, u⟩
  have e : wsV (ls ++ [x]) = wsV ls ++ [.string (bs x)] := by simp [wsV]
  rw [e, List.length_append]
  exact o
/-- A slice of strings of the call's own. -/
def strsR (ls : List Bytes) (w : World) (en : Ending) (w' : World) : Prop :=
  ∃ v, en = .returned v ∧ w'.ownsRow w.heap.size 9 1 v ls.length (wsV ls) ∧ Upd noBlk w w'
set_option maxHeartbeats 1000000 in
theorem qlines_any (s : Bytes) (hs : s.length ≤ 4294967296) (w : World) : Calls Tryz.prog 40 #[.string (bs s)] w fun en w' => strsR (linesOf s) w en w' := by
  have hb : (bs s).size = s.length := bs_size s
  go_enter Tryz.func40, Tryz.ntmps40
  go_wp2_with fail
  go_loopw [3, 4, 5] (fun v av i wr => ∃ (k a : Nat) (ls : List Bytes), i = .int .i64 k ∧ av = .int .i64 a ∧ a ≤ k ∧ k ≤ s.length + 1 ∧ (k ≤ s.length → linesOf s = ls ++ linesGo ((s.drop a).take (k - a)) (s.drop k)) ∧ (k = s.length + 1 → linesOf s = ls) ∧ ls.length ≤ k ∧ wr.ownsRow w.heap.size 9 1 v ls.length (wsV ls) ∧ Upd noBlk w wr) (fun _ _ i _ => s.length + 1 - (intOf i).toNat)
  case atStart => exact ⟨0, 0, [], rfl, rfl, Nat.le_refl _, by omega, fun _ => by simp [linesOf], fun h => by omega, Nat.le_refl _, World.ownsRow_nil _ _ _ _, Upd.refl _ _⟩
  case round =>
    obtain ⟨k, a, ls, rfl, rfl, hak, hk, hsp, hend, hll, ho, hu⟩ := hrel
    have HSP := Lib.hid hsp
    have HEND := Lib.hid hend
    have HO := Lib.hid ho
    have HU := Lib.hid hu
    clear hsp hend ho hu
    by_cases hkl : k ≤ s.length
    · have hkl' : ((k : Nat) : Int) ≤ ((s.length : Nat) : Int) := by omega
      have hak' : ((a : Nat) : Int) ≤ ((k : Nat) : Int) := by omega
      obtain ⟨g, cap, w5, r5, o5, u5⟩ := append_str HU.out HO.out ((s.drop a).take (k - a)) (by omega)
      rw [← bs_extract] at r5
      have R5 := Lib.hid r5
      have O5 := Lib.hid o5
      have U5 := Lib.hid u5
      clear r5 o5 u5
      by_cases hke : k = s.length
      · have e1 : (((k : Nat) : Int) == ((s.length : Nat) : Int)) = true := by rw [beq_iff_eq]; omega
        have hsp2 : Hid (linesOf s = ls ++ [(s.drop a).take (k - a)]) := by
          show _ = _
          rw [HSP.out hkl, hke, List.drop_length, linesGo]
        have hkz : k ≤ (bs s).size := by omega
        have HKE := Lib.hid hke
        clear hkl hke
        go_wp2_with (at_builtin; refine wpList_append_run rfl _ _ _ rfl rfl rfl R5.out ?_)
        refine ⟨⟨k + 1, k + 1, ls ++ [(s.drop a).take (k - a)], by go_num, by go_num, Nat.le_refl _, by have := HKE.out; omega, fun h => by have := HKE.out; omega, fun _ => hsp2.out, by rw [List.length_append]; simp; omega, O5.out, U5.out⟩, by simp [intOf]; have := HKE.out; omega⟩
      · have e1 : (((k : Nat) : Int) == ((s.length : Nat) : Int)) = false := by rw [beq_eq_false_iff_ne]; omega
        have hkl2 : k < s.length := by omega
        have hget : (bs s)[k]'(by omega) = s[k] := bs_get s k hkl2
        have hdk : s.drop k = s[k] :: s.drop (k + 1) := List.drop_eq_getElem_cons hkl2
        have htk : Hid ((s.drop a).take (k + 1 - a) = (s.drop a).take (k - a) ++ [s[k]]) := by
          show _ = _
          rw [show k + 1 - a = (k - a) + 1 by omega, List.take_succ_eq_append_getElem (by rw [List.length_drop]; omega), List.getElem_drop]
          congr 2
          simp only [show a + (k - a) = k by omega]
        have hsp3 : Hid (linesOf s = ls ++ linesGo ((s.drop a).take (k - a)) (s[k] :: s.drop (k + 1))) := by show _ = _; rw [HSP.out hkl, ← hdk]
        clear hdk
        by_cases hc : s[k] = 10
        · have e2 : ((((bs s)[k]'(by omega)).toNat : Int) == 10) = true := by rw [hget, hc]; rfl
          have hsp4 : Hid (linesOf s = (ls ++ [(s.drop a).take (k - a)]) ++ linesGo [] (s.drop (k + 1))) := by
            show _ = _
            rw [hsp3.out, linesGo, if_pos hc, List.append_assoc]; rfl
          have hkz : k ≤ (bs s).size := by omega
          clear hget hc
          go_wp2_with (at_builtin; refine wpList_append_run rfl _ _ _ rfl rfl rfl R5.out ?_)
          refine ⟨⟨k + 1, k + 1, ls ++ [(s.drop a).take (k - a)], by go_num, by go_num, Nat.le_refl _, by omega, fun h => ?_, fun h => by omega, by rw [List.length_append]; simp; omega, O5.out, U5.out⟩, by simp [intOf]; omega⟩
          rw [hsp4.out, Nat.sub_self, List.take_zero]
        · have e2 : ((((bs s)[k]'(by omega)).toNat : Int) == 10) = false := by
            rw [hget, beq_eq_false_iff_ne]; intro e; exact hc (by rw [← UInt8.toNat_inj]; exact_mod_cast e)
          have hsp4 : Hid (linesOf s = ls ++ linesGo ((s.drop a).take (k + 1 - a)) (s.drop (k + 1))) := by
            show _ = _
            rw [hsp3.out, linesGo, if_neg hc, htk.out]
          clear hget hc R5 O5 U5
          go_wp2_with fail
          refine ⟨⟨k + 1, a, ls, by go_num, rfl, by omega, by omega, fun h => hsp4.out, fun h => by omega, by omega, HO.out, HU.out⟩, by simp [intOf]; omega⟩
    · have hke : k = s.length + 1 := by omega
      have hr := Lib.hid (HEND.out hke)
      have hkl' : ¬ ((k : Nat) : Int) ≤ ((s.length : Nat) : Int) := by omega
      clear hke hkl
      go_wp2_with fail
      go_ret
      show strsR (linesOf s) w _ _
      rw [hr.out]
      exact ⟨_, rfl, HO.out, HU.out⟩
namespace Sp
theorem ahead_end {l : Bytes} {k : Nat} (h : l.length ≤ k) : Sp.ahead (l.drop k) = [] := by rw [List.drop_eq_nil_of_le h]; rfl
theorem ahead_hash {l : Bytes} {k : Nat} (hk : k < l.length) (h : l[k] = 35) : Sp.ahead (l.drop k) = [] := by rw [List.drop_eq_getElem_cons hk, Sp.ahead, if_pos h]
theorem ahead_go {l : Bytes} {k : Nat} (hk : k < l.length) (h : l[k] ≠ 35) : Sp.ahead (l.drop k) = l[k] :: Sp.ahead (l.drop (k + 1)) := by rw [List.drop_eq_getElem_cons hk, Sp.ahead, if_neg h]
theorem piece_snoc {l : Bytes} {a k : Nat} (ha : a ≤ k) (hk : k < l.length) : (l.drop a).take (k + 1 - a) = (l.drop a).take (k - a) ++ [l[k]] := by
  rw [show k + 1 - a = (k - a) + 1 by omega, List.take_succ_eq_append_getElem (by rw [List.length_drop]; omega), List.getElem_drop]
  congr 2
  simp only [show a + (k - a) = k by omega]
theorem piece_ne {l : Bytes} {a k : Nat} (ha : a < k) (hk : k ≤ l.length) : (l.drop a).take (k - a) ≠ [] := fun e => by
  have := congrArg List.length e
  rw [List.length_take, List.length_drop, List.length_nil] at this
  omega
end Sp
/-- The word under way in words: from a place on, or none. -/
def curAt (l : Bytes) (k : Nat) (z : Int) (cur : Bytes) : Prop := (z = -1 ∧ cur = []) ∨ ∃ a : Nat, z = a ∧ a < k ∧ cur = (l.drop a).take (k - a)
end Go.Proofs.YtojdgdeefhndiaaGreatDoor
