/- Walks of the reference of the polygon files: face. Plain laws of the second form. No condition. -/
import Derived.Test.YtojdgdeefhndiaaGreatDoorM11
import Derived.IntWalk
import Derived.Test.YtojdgdeefhndiaaGreatDoorM9
namespace Go.Proofs.YtojdgdeefhndiaaGreatDoor
open Go Go.RowKit Sp
set_option maxRecDepth 100000

/-- What the reference's face comes to. -/
def faceR (r : R (List Pt)) (w : World) (en : Ending) (w' : World) : Prop :=
  match r with
  | .ok l => ∃ v, en = .returned (.tuple #[v, .int .i64 0]) ∧ OwnPts w.heap.size w' v l ∧ v.oneCell' = true ∧ Upd noBlk w w'
  | .bad e => en = .returned (.tuple #[.slice none 0 0, .int .i64 e]) ∧ Upd noBlk w w'
theorem numbersS_all {ws : List Bytes} (h : numbersS ws ≠ .bad 10) : ws.all isNum = true := by
  unfold numbersS at h
  split at h
  · exact absurd rfl h
  · rename_i h1; simpa using h1
theorem numbersS_not {ws : List Bytes} (h : numbersS ws = .bad 10) : ws.all isNum = false := by
  unfold numbersS at h
  split at h
  · rename_i h1; simpa using h1
  · split at h
    · cases h
    · cases h
theorem numbersS_any {ws : List Bytes} (h : numbersS ws = .bad 11) : ws.any Sp.long = true := by
  unfold numbersS at h
  split at h
  · cases h
  · split at h
    · assumption
    · cases h
theorem numbersS_good {ws : List Bytes} {zs : List Int} (h : numbersS ws = .ok zs) : zs = ws.map Sp.valOf ∧ ws.any Sp.long = false ∧ ∀ z, z ∈ zs → -1000000000000000 ≤ z ∧ z ≤ 1000000000000000 := by
  have ha := numbersS_all (ws := ws) (by rw [h]; intro e; cases e)
  unfold numbersS at h
  split at h
  · cases h
  · split at h
    · cases h
    · rename_i h2
      cases h
      have h3 : ws.any Sp.long = false := by simpa using h2
      refine ⟨rfl, h3, fun z hz => ?_⟩
      rw [List.mem_map] at hz
      obtain ⟨x, hx, rfl⟩ := hz
      rw [List.all_eq_true] at ha
      rw [List.any_eq_false] at h3
      exact valOf_small (ha x hx) (by simpa using h3 x hx)
set_option maxHeartbeats 2000000 in
theorem qface_any (A : Option Addr) (cap : Nat) (ws : List Bytes) (base : Nat) (vc : Value) (cs : List Pt) (hl : ws.length ≤ 4294967295) (hcl : cs.length ≤ 4294967296) (hs : short ws) (w : World) (h : RdW w A ws) (hoc : OwnPts base w vc cs) :
    Calls Tryz.prog 68 #[.slice A ws.length cap, vc] w fun en w' => faceR (faceS cs ws) w en w' := by
  have hnum := qnumbers_any A cap ws (by omega) hs w h
  have HOC := Lib.hid hoc
  obtain ⟨Ac, capc, rfl⟩ := hoc.len
  clear h hs hoc
  rcases hr : numbersS ws with zs | e0
  · rw [hr] at hnum
    obtain ⟨hz1, hlong, hz4⟩ := numbersS_good hr
    have hall := numbersS_all (ws := ws) (by rw [hr]; intro e; cases e)
    have hzl : zs.length = ws.length := by rw [hz1]; simp
    by_cases h3 : ws.length < 3
    · have hf : Hid (faceS cs ws = .bad 10) := by show _ = _; unfold faceS; rw [if_pos (by simp [h3])]
      have h3' : ((ws.length : Nat) : Int) < 3 := by omega
      rw [hf.out]
      have HN := Lib.hid hnum
      clear hnum hr hz1 hlong hz4 hall hzl h3
      go_enter Tryz.func68, Tryz.ntmps68
      go_wp2_with fail
      refine HN.out.mono ?_
      rintro e w2 ⟨v, rfl, _, u⟩
      have U := Lib.hid u
      clear u
      go_wp2_with fail
      go_ret2
      exact ⟨rfl, U.out⟩
    · have h3' : ¬ ((ws.length : Nat) : Int) < 3 := by omega
      by_cases h64 : 64 < ws.length
      · have hf : Hid (faceS cs ws = .bad 2) := by show _ = _; unfold faceS; rw [if_neg (by simp [h3, hall]), if_pos h64]
        have h64' : (64 : Int) < ((ws.length : Nat) : Int) := by omega
        rw [hf.out]
        have HN := Lib.hid hnum
        clear hnum hr hz1 hlong hz4 hall hzl h3 h64
        go_enter Tryz.func68, Tryz.ntmps68
        go_wp2_with fail
        refine HN.out.mono ?_
        rintro e w2 ⟨v, rfl, _, u⟩
        have U := Lib.hid u
        clear u
        go_wp2_with fail
        go_ret2
        exact ⟨rfl, U.out⟩
      · have h64' : ¬ (64 : Int) < ((ws.length : Nat) : Int) := by omega
        have hf : Hid (faceS cs ws = pick cs zs) := by show _ = _; unfold faceS; rw [if_neg (by simp [h3, hall]), if_neg h64, hlong, if_neg (by simp), hz1]
        rw [hf.out]
        have HN := Lib.hid hnum
        have HZ4 := Lib.hid hz4
        have hz3 : 3 ≤ zs.length := by omega
        have hz64 : zs.length ≤ 64 := by omega
        clear hnum hr hz1 hlong hz4 hall hzl h3 h64
        go_enter Tryz.func68, Tryz.ntmps68
        go_wp2_with fail
        refine HN.out.mono ?_
        rintro e w2 ⟨vz, rfl, oz, u⟩
        obtain ⟨gz, cz, rfl⟩ : ∃ gz cz, vz = .slice (some ⟨gz, 0, none⟩) zs.length cz := by
          rcases oz.2 with ⟨_, h0⟩ | ⟨g, cp, _, rfl, _⟩
          · omega
          · exact ⟨g, cp, rfl⟩
        have U := Lib.hid u
        have HOZ := Lib.hid oz
        have hw0 : w.heap.size ≤ w2.heap.size := u.size
        clear u oz HN
        go_wp2_with fail
        go_loopw [4, 5, 8, 9, 10] (fun _ _ v iv _ wr => ∃ (k : Nat) (pts : List Pt), iv = .int .i64 k ∧ k ≤ zs.length ∧ pts.length = k ∧ (∀ l', pick cs (zs.drop k) = .ok l' → pick cs zs = .ok (pts ++ l')) ∧ (∀ e, pick cs (zs.drop k) = .bad e → pick cs zs = .bad e) ∧ v.oneCell' = true ∧ OwnPts w.heap.size wr v pts ∧ Upd noBlk w wr ∧ wr.ownsRow w.heap.size 3 1 (.slice (some ⟨gz, 0, none⟩) zs.length cz) zs.length (zs.map (Value.int .i64))) (fun _ _ _ iv _ _ => zs.length - (intOf iv).toNat)
        case atStart => exact ⟨0, [], rfl, Nat.zero_le _, rfl, fun l' h => by simpa using h, fun e h => by simpa using h, rfl, OwnPts.nil _ _, U.out, HOZ.out⟩
        case round =>
          obtain ⟨k, pts, rfl, hk, hpl', hp1, hp2, hpv, hop, hu, hoz⟩ := hrel
          have HPL := Lib.hid hpl'
          have HP1 := Lib.hid hp1
          have HP2 := Lib.hid hp2
          have HPV := Lib.hid hpv
          have HOP := Lib.hid hop
          have HU := Lib.hid hu
          have HOZ2 := Lib.hid hoz
          have hoc2 := HOC.out.upd hu
          clear hpl' hp1 hp2 hpv hop hu hoz HOZ U
          by_cases hkz : k < zs.length
          · have hkz' : ((k : Nat) : Int) < ((zs.length : Nat) : Int) := by omega
            have hdk : zs.drop k = zs[k] :: zs.drop (k + 1) := List.drop_eq_getElem_cons hkz
            have cz0 : wr.cell? ⟨gz, k, none⟩ = some (.int .i64 zs[k]) := by
              rw [World.ownsRow.cellAt HOZ2.out k (by omega)]; simp [hkz]
            have hzb := HZ4.out zs[k] (List.getElem_mem hkz)
            have HDK := Lib.hid hdk
            clear hdk
            generalize zs[k] = z at *
            obtain ⟨hzb1, hzb2⟩ := hzb
            by_cases hzn : z < 0
            · skip
              by_cases h1 : ((cs.length : Int) + z) < 0
              · have hpk := pick_bad (cs := cs) (z := z) (r := zs.drop (k + 1)) (by unfold denote; rw [if_pos hzn]; omega)
                have hb : Hid (pick cs zs = .bad 14) := HP2.out 14 (by rw [HDK.out, hpk])
                clear hpk
                go_wp2_with fail
                go_ret2
                show faceR (pick cs zs) w _ _
                rw [hb.out]
                exact ⟨rfl, HU.out⟩
              · by_cases h2 : (cs.length : Int) ≤ ((cs.length : Int) + z)
                · have hpk := pick_bad (cs := cs) (z := z) (r := zs.drop (k + 1)) (by unfold denote; rw [if_pos hzn]; omega)
                  have hb : Hid (pick cs zs = .bad 14) := HP2.out 14 (by rw [HDK.out, hpk])
                  clear hpk
                  go_wp2_with fail
                  go_ret2
                  show faceR (pick cs zs) w _ _
                  rw [hb.out]
                  exact ⟨rfl, HU.out⟩
                · obtain ⟨p, hp, hpk⟩ := pick_ok (cs := cs) (z := z) (r := zs.drop (k + 1)) (by unfold denote; rw [if_pos hzn]; omega) (by unfold denote; rw [if_pos hzn]; omega)
                  unfold denote at hp
                  rw [if_pos hzn] at hp
                  obtain ⟨gc, cc', hvc, kc0, kc1, kc2⟩ := OwnPts.at hoc2 hp
                  rw [show ((z + ((cs.length : Int) + 1)) - 1).toNat = ((cs.length : Int) + z).toNat by omega] at kc0 kc1 kc2
                  have hpk' := Lib.hid hpk
                  cases hvc
                  obtain ⟨g, cap', w5, r5, o5, v5, hat⟩ := append_ptB (w := wr) (base := w.heap.size) HU.out.size HOP.out p (by rw [HPL.out]; omega)
                  have hU5 : Hid (Upd noBlk w w5) := HU.out.then v5 (fun i hi e => absurd (HOP.out.lt i e).1 (by omega))
                  have HOZ5 : Hid (w5.ownsRow w.heap.size 3 1 (.slice (some ⟨gz, 0, none⟩) zs.length cz) zs.length (zs.map (Value.int .i64))) := ownsRow_other HOZ2.out v5 (fun k hk _ => by obtain ⟨c, h⟩ := HOP.out.blk hk; exact ⟨c, _, _, h, by decide⟩)
                  have R5 := Lib.hid r5
                  have O5 := Lib.hid o5
                  have h1' : ¬ ((cs.length : Int) + z) < 0 := h1
                  clear hpk hp r5 o5 v5 hat hoc2
                  go_wp2_with (at_builtin; refine wpList_append_run rfl _ _ _ rfl rfl rfl R5.out ?_)
                  refine ⟨⟨k + 1, pts ++ [p], by go_num, hkz, by rw [List.length_append, HPL.out]; rfl, fun l' h => ?_, fun e h => ?_, rfl, O5.out, hU5.out, HOZ5.out⟩, by simp [intOf]; omega⟩
                  · rw [List.append_assoc]
                    exact HP1.out (p :: l') (by rw [HDK.out, hpk'.out, h])
                  · exact HP2.out e (by rw [HDK.out, hpk'.out, h])

            · skip
              by_cases h1 : (z - 1) < 0
              · have hpk := pick_bad (cs := cs) (z := z) (r := zs.drop (k + 1)) (by unfold denote; rw [if_neg hzn]; omega)
                have hb : Hid (pick cs zs = .bad 14) := HP2.out 14 (by rw [HDK.out, hpk])
                clear hpk
                go_wp2_with fail
                go_ret2
                show faceR (pick cs zs) w _ _
                rw [hb.out]
                exact ⟨rfl, HU.out⟩
              · by_cases h2 : (cs.length : Int) ≤ (z - 1)
                · have hpk := pick_bad (cs := cs) (z := z) (r := zs.drop (k + 1)) (by unfold denote; rw [if_neg hzn]; omega)
                  have hb : Hid (pick cs zs = .bad 14) := HP2.out 14 (by rw [HDK.out, hpk])
                  clear hpk
                  go_wp2_with fail
                  go_ret2
                  show faceR (pick cs zs) w _ _
                  rw [hb.out]
                  exact ⟨rfl, HU.out⟩
                · obtain ⟨p, hp, hpk⟩ := pick_ok (cs := cs) (z := z) (r := zs.drop (k + 1)) (by unfold denote; rw [if_neg hzn]; omega) (by unfold denote; rw [if_neg hzn]; omega)
                  unfold denote at hp
                  rw [if_neg hzn] at hp
                  obtain ⟨gc, cc', hvc, kc0, kc1, kc2⟩ := OwnPts.at hoc2 hp
                  rw [show (z - 1).toNat = z.toNat - 1 by omega] at kc0 kc1 kc2
                  have hpk' := Lib.hid hpk
                  cases hvc
                  obtain ⟨g, cap', w5, r5, o5, v5, hat⟩ := append_ptB (w := wr) (base := w.heap.size) HU.out.size HOP.out p (by rw [HPL.out]; omega)
                  have hU5 : Hid (Upd noBlk w w5) := HU.out.then v5 (fun i hi e => absurd (HOP.out.lt i e).1 (by omega))
                  have HOZ5 : Hid (w5.ownsRow w.heap.size 3 1 (.slice (some ⟨gz, 0, none⟩) zs.length cz) zs.length (zs.map (Value.int .i64))) := ownsRow_other HOZ2.out v5 (fun k hk _ => by obtain ⟨c, h⟩ := HOP.out.blk hk; exact ⟨c, _, _, h, by decide⟩)
                  have R5 := Lib.hid r5
                  have O5 := Lib.hid o5
                  have h1' : ¬ (z - 1) < 0 := h1
                  clear hpk hp r5 o5 v5 hat hoc2
                  go_wp2_with (at_builtin; refine wpList_append_run rfl _ _ _ rfl rfl rfl R5.out ?_)
                  refine ⟨⟨k + 1, pts ++ [p], by go_num, hkz, by rw [List.length_append, HPL.out]; rfl, fun l' h => ?_, fun e h => ?_, rfl, O5.out, hU5.out, HOZ5.out⟩, by simp [intOf]; omega⟩
                  · rw [List.append_assoc]
                    exact HP1.out (p :: l') (by rw [HDK.out, hpk'.out, h])
                  · exact HP2.out e (by rw [HDK.out, hpk'.out, h])

          · have hkz' : ¬ ((k : Nat) : Int) < ((zs.length : Nat) : Int) := by omega
            have hfs : Hid (pick cs zs = .ok pts) := by
              have := HP1.out [] (by rw [List.drop_eq_nil_of_le (by omega)]; rfl)
              show _ = _
              rw [this, List.append_nil]
            go_wp2_with fail
            go_ret2
            show faceR (pick cs zs) w _ _
            rw [hfs.out]
            exact ⟨_, rfl, HOP.out, HPV.out, HU.out⟩
  · rw [hr] at hnum
    have HN := Lib.hid hnum
    rcases numbersS_e hr with rfl | rfl
    · have hf : Hid (faceS cs ws = .bad 10) := by show _ = _; unfold faceS; rw [if_pos (by rw [numbersS_not hr]; simp)]
      rw [hf.out]
      clear hnum hr
      by_cases h3 : ws.length < 3
      · have h3' : ((ws.length : Nat) : Int) < 3 := by omega
        clear h3
        go_enter Tryz.func68, Tryz.ntmps68
        go_wp2_with fail
        refine HN.out.mono ?_
        rintro e w2 ⟨rfl, u⟩
        have U := Lib.hid u
        clear u
        go_wp2_with fail
        go_ret2
        exact ⟨rfl, U.out⟩
      · have h3' : ¬ ((ws.length : Nat) : Int) < 3 := by omega
        clear h3
        go_enter Tryz.func68, Tryz.ntmps68
        go_wp2_with fail
        refine HN.out.mono ?_
        rintro e w2 ⟨rfl, u⟩
        have U := Lib.hid u
        clear u
        go_wp2_with fail
        go_ret2
        exact ⟨rfl, U.out⟩
    · have hall := numbersS_all (ws := ws) (by rw [hr]; intro e; cases e)
      have hlong := numbersS_any hr
      by_cases h3 : ws.length < 3
      · have hf : Hid (faceS cs ws = .bad 10) := by show _ = _; unfold faceS; rw [if_pos (by simp [h3])]
        have h3' : ((ws.length : Nat) : Int) < 3 := by omega
        rw [hf.out]
        clear hnum hr hall hlong h3
        go_enter Tryz.func68, Tryz.ntmps68
        go_wp2_with fail
        refine HN.out.mono ?_
        rintro e w2 ⟨rfl, u⟩
        have U := Lib.hid u
        clear u
        go_wp2_with fail
        go_ret2
        exact ⟨rfl, U.out⟩
      · have h3' : ¬ ((ws.length : Nat) : Int) < 3 := by omega
        by_cases h64 : 64 < ws.length
        · have hf : Hid (faceS cs ws = .bad 2) := by show _ = _; unfold faceS; rw [if_neg (by simp [h3, hall]), if_pos h64]
          have h64' : (64 : Int) < ((ws.length : Nat) : Int) := by omega
          rw [hf.out]
          clear hnum hr hall hlong h3 h64
          go_enter Tryz.func68, Tryz.ntmps68
          go_wp2_with fail
          refine HN.out.mono ?_
          rintro e w2 ⟨rfl, u⟩
          have U := Lib.hid u
          clear u
          go_wp2_with fail
          go_ret2
          exact ⟨rfl, U.out⟩
        · have hf : Hid (faceS cs ws = .bad 11) := by show _ = _; unfold faceS; rw [if_neg (by simp [h3, hall]), if_neg h64, hlong, if_pos rfl]
          have h64' : ¬ (64 : Int) < ((ws.length : Nat) : Int) := by omega
          rw [hf.out]
          clear hnum hr hall hlong h3 h64
          go_enter Tryz.func68, Tryz.ntmps68
          go_wp2_with fail
          refine HN.out.mono ?_
          rintro e w2 ⟨rfl, u⟩
          have U := Lib.hid u
          clear u
          go_wp2_with fail
          go_ret2
          exact ⟨rfl, U.out⟩
end Go.Proofs.YtojdgdeefhndiaaGreatDoor
namespace Go.Proofs.YtojdgdeefhndiaaGreatDoor
open Go Go.RowKit Sp
namespace Sp
theorem count_linesGo : ∀ (l cur : Bytes), (linesGo cur l).length = Lib.countByte l 10 + 1
  | [], cur => by simp [linesGo, Lib.countByte]
  | c :: r, cur => by
    rw [linesGo]
    by_cases h : c = 10
    · rw [if_pos h, List.length_cons, count_linesGo r []]
      subst h
      simp [Lib.countByte]
    · rw [if_neg h, count_linesGo r _]
      simp [Lib.countByte, h]
def polysS (s : Bytes) : Out := twoN (linesAll s) 0 [] (linesOf s).length
theorem polysS_eq (s : Bytes) : twoGo 1 (linesOf s) 0 [] = polysS s := by
  rw [twoGo_eq]
  unfold polysS linesAll
  congr 1
  omega
theorem twoN_corner {i : Nat} {ws : List Bytes} {r : List (Nat × List Bytes)} {left last : Nat} {ps : List Poly} (hl : left ≠ 0) : twoN ((i, ws) :: r) left ps last = match cornerS ws with | .bad e => .bad i e | .ok p => twoN r (left - 1) (addLast ps p) last := by
  rw [twoN, if_neg hl]
  cases cornerS ws <;> rfl
theorem twoN_head {i : Nat} {ws : List Bytes} {r : List (Nat × List Bytes)} {last : Nat} {ps : List Poly} : twoN ((i, ws) :: r) 0 ps last = match headS ws with | .bad e => .bad i e | .ok n => if 65536 ≤ ps.length then .bad i 2 else twoN r n (ps ++ [([], i)]) last := by
  rw [twoN, if_pos rfl]
  cases headS ws <;> rfl
theorem addLast_snoc (ps : List Poly) (q : Poly) (p : Pt) : addLast (ps ++ [q]) p = ps ++ [(q.1 ++ [p], q.2)] := by
  unfold addLast
  simp
theorem headS_len {ws : List Bytes} (h : ws.length ≠ 2) : headS ws = .bad 10 := by
  unfold headS
  match ws, h with
  | [], _ => rfl
  | [_], _ => rfl
  | [_, _], h => exact absurd rfl h
  | _ :: _ :: _ :: _, _ => rfl
theorem headS_word {a b : Bytes} (h : a ≠ wPoly) : headS [a, b] = .bad 10 := by
  unfold headS; simp [h]
theorem headS_num {a b : Bytes} (h : isNum b = false) : headS [a, b] = .bad 10 := by
  unfold headS; simp [h]
theorem headS_minus {a : Bytes} {r : Bytes} : headS [a, 45 :: r] = .bad 10 := by
  unfold headS; simp
theorem headS_good {c : UInt8} {r : Bytes} (h : isNum (c :: r) = true) (hc : c ≠ 45) : headS [wPoly, c :: r] = if Sp.long (c :: r) || decide (natOf (c :: r) < 3) then .bad 11 else if 64 < natOf (c :: r) then .bad 2 else .ok (natOf (c :: r)) := by
  unfold headS; simp [h, hc]
theorem valOf_plain {c : UInt8} {r : Bytes} (hc : c ≠ 45) : Sp.valOf (c :: r) = (natOf (c :: r) : Int) := by
  unfold Sp.valOf unminus; simp [hc]
theorem isNum_cons {b : Bytes} (h : isNum b = true) : ∃ c r, b = c :: r := by
  cases b with
  | nil => simp [isNum, unminus] at h
  | cons c r => exact ⟨c, r, rfl⟩
theorem numsP_one {b : Bytes} (h : isNum b = true) : numsP 1 1 [b] = if Sp.long b then .bad 11 else .ok [Sp.valOf b] := by
  unfold numsP; simp [h]
end Sp
theorem polyVs_snoc (qs : List (Value × Poly)) (q : Value × Poly) : polyVs (qs ++ [q]) = polyVs qs ++ [q.1, .int .i64 q.2.2] := by simp [polyVs]
theorem polyVs_len : ∀ qs : List (Value × Poly), (polyVs qs).length = 2 * qs.length
  | [] => rfl
  | q :: r => by
    have : polyVs (q :: r) = [q.1, .int .i64 q.2.2] ++ polyVs r := rfl
    rw [this, List.length_append, polyVs_len r]; simp; omega
end Go.Proofs.YtojdgdeefhndiaaGreatDoor
