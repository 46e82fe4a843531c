/- Walks of the program of the polygon files: inRange, corner. -/
import Derived.Test.YtojdgdeefhndiaaGreatDoorSNumC
import Derived.Test.YtojdgdeefhndiaaGreatDoorRegionC
namespace Go.Proofs.YtojdgdeefhndiaaGreatDoor
open Go Go.RowKit Sp
set_option maxRecDepth 100000

def ptV (p : Pt) : Value := .agg #[.int .i64 p.1, .int .i64 p.2.1, .int .i64 p.2.2]
set_option maxHeartbeats 1000000 in
theorem inRange_any (x y z : Int) (w : World) : Calls Tryz.prog 55 #[.agg #[.int .i64 x, .int .i64 y, .int .i64 z]] w fun en w' => en = .returned (.bool (inR (x, y, z))) ∧ Upd noBlk w w' := by
  have hm : inR (x, y, z) = true ↔ (0 ≤ x ∧ 0 ≤ y ∧ 0 ≤ z) ∧ (x ≤ 2097151 ∧ y ≤ 2097151 ∧ z ≤ 2097151) := by
    unfold inR maxCoord
    simp only [decide_eq_true_eq]
    omega
  have HM := Lib.hid hm
  clear hm
  go_enter Tryz.func55, Tryz.ntmps55
  go_wp2
  all_goals go_ret
  all_goals refine ⟨?_, (Upd.refl _ _).alloc _⟩
  all_goals refine congrArg (fun b => Ending.returned (Value.bool b)) ?_
  all_goals rw [Bool.eq_iff_iff, HM.out]
  all_goals simp only [decide_eq_true_eq, Bool.false_eq_true, false_iff]
  all_goals clear HM
  all_goals omega

def cornerQ (r : R Pt) (place : Int) (w : World) (en : Ending) (w' : World) : Prop :=
  match r with
  | .ok p => en = .returned (ptV p) ∧ Upd noBlk w w'
  | .bad e => en = .panicked (fail place e) ∧ Upd noBlk w w'
theorem corner_short {ws : List Bytes} (h : ws.length ≠ 3) : cornerS ws = .bad 10 := by
  unfold cornerS
  match ws, h with
  | [], _ => rfl
  | [_], _ => rfl
  | [_, _], _ => rfl
  | [_, _, _], h => exact absurd rfl h
  | _ :: _ :: _ :: _ :: _, _ => rfl
theorem nums_three (a b c : Bytes) : numsP 3 3 [a, b, c] = numbersS [a, b, c] := by
  unfold numsP numbersS
  have e : (decide ([a, b, c].length < 3) || [a, b, c].any fun x => !isNum x) = !([a, b, c].all isNum) := by
    simp only [List.any, List.all, List.length]
    cases isNum a <;> cases isNum b <;> cases isNum c <;> rfl
  rw [e]
  split
  · rfl
  · rw [if_neg (by simp)]
theorem corner_ok {a b c : Bytes} {zs : List Int} (h : numsP 3 3 [a, b, c] = .ok zs) : zs = [Sp.valOf a, Sp.valOf b, Sp.valOf c] ∧ cornerS [a, b, c] = if inR (Sp.valOf a, Sp.valOf b, Sp.valOf c) then .ok (Sp.valOf a, Sp.valOf b, Sp.valOf c) else .bad 3 := by
  rw [nums_three] at h
  refine ⟨?_, by unfold cornerS; simp only [h]⟩
  unfold numbersS at h
  split at h
  · cases h
  split at h
  · cases h
  cases h
  rfl
theorem corner_bad {a b c : Bytes} {e : Nat} (h : numsP 3 3 [a, b, c] = .bad e) : cornerS [a, b, c] = .bad e := by
  rw [nums_three] at h
  unfold cornerS
  simp only [h]
set_option maxHeartbeats 1000000 in
theorem corner_any (A : Option Addr) (cap : Nat) (ws : List Bytes) (place : Int) (hl : ws.length ≤ 4294967296) (hs : short ws) (w : World) (h : RdW w A ws) :
    Calls Tryz.prog 49 #[.slice A ws.length cap, .int .i64 place] w fun en w' => cornerQ (cornerS ws) place w en w' := by
  have H := Lib.hid h
  have HS := Lib.hid hs
  clear h hs
  by_cases c1 : ws.length = 3
  · have c1' : Hid (((ws.length : Nat) : Int) = 3) := by show _ = _; omega
    obtain ⟨a, b, c, rfl⟩ : ∃ a b c, ws = [a, b, c] := by
      match ws, c1 with
      | [a, b, c], _ => exact ⟨a, b, c, rfl⟩
    clear c1 c1' hl
    have hnum : Calls Tryz.prog 51 #[.slice A 3 cap, .int .i64 3, .int .i64 3, .int .i64 place] (w.alloc (Obj.cells #[Value.int IntKind.i64 0, Value.int IntKind.i64 0, Value.int IntKind.i64 0] 51)) fun en w' => NumsQ (numsP 3 3 [a, b, c]) place (w.alloc (Obj.cells #[Value.int IntKind.i64 0, Value.int IntKind.i64 0, Value.int IntKind.i64 0] 51)) en w' := numbers_any A cap [a, b, c] 3 3 place (by omega) (by omega) (by simp) HS.out _ (RdW.keep H.out ((Upd.refl _ _).alloc _))
    show Calls Tryz.prog 49 #[.slice A 3 cap, .int .i64 place] w _
    rcases hr : numsP 3 3 [a, b, c] with zs | e0
    · rw [hr] at hnum
      have HN := Lib.hid hnum
      obtain ⟨hz, hc⟩ := corner_ok hr
      subst hz
      rw [hc]
      clear hnum hc hr
      generalize Sp.valOf a = x at *
      generalize Sp.valOf b = y at *
      generalize Sp.valOf c = z at *
      go_enter Tryz.func49, Tryz.ntmps49
      go_wp2_with fail
      refine (check_ok _ _ _).mono ?_
      rintro e w2 ⟨rfl, rfl⟩
      go_wp2_with fail
      refine HN.out.mono ?_
      rintro e w2 hq
      obtain ⟨v, rfl, o, u⟩ := hq
      obtain ⟨g, cp, rfl⟩ : ∃ g cp, v = .slice (some ⟨g, 0, none⟩) 3 cp := by
        rcases o.2 with ⟨_, h0⟩ | ⟨g, cp, _, rfl, _⟩
        · simp at h0
        · exact ⟨g, cp, rfl⟩
      have k0 := o.cellAt 0 (by omega)
      have k1 := o.cellAt 1 (by omega)
      have k2 := o.cellAt 2 (by omega)
      simp only [List.map_cons, List.map_nil, List.getElem?_cons_zero, List.getElem?_cons_succ] at k0 k1 k2
      clear o
      have U := Lib.hid u
      clear u
      clear HN
      have HK : Hid (w2.cell? ⟨g, 0, none⟩ = some (.int .i64 x) ∧ w2.cell? ⟨g, 1, none⟩ = some (.int .i64 y) ∧ w2.cell? ⟨g, 2, none⟩ = some (.int .i64 z)) := ⟨k0, k1, k2⟩
      clear k0 k1 k2
      go_wp2_with fail
      refine wp_region_tree 11 (OT.sures [0, 1, 2, 3, 4, 5, 6, 7, 8, 9] (.run 10 .nil)) (fun w' => w'.cell? ⟨g, 0, none⟩ = some (.int .i64 (x)) ∧ w'.cell? ⟨g, 1, none⟩ = some (.int .i64 (y)) ∧ w'.cell? ⟨g, 2, none⟩ = some (.int .i64 (z))) (by kernel_rfl) (by kernel_rfl) (fun c a d v w h => by cases d <;> exact h) HK.out ?_
      simp only [OT.sures]
      iterate 10 (first | (apply wpT_sure rfl rfl; focus (intro w' hw'; obtain ⟨g1, g2, g3⟩ := hw'; go_simp; rfl)) | (refine wpT_sureG rfl (by go_simp) _ (fun w' hw' => by obtain ⟨g1, g2, g3⟩ := hw'; go_simp; rfl) ?_))
      refine wpT_run (fun w' => w'.cell? ⟨g, 0, none⟩ = some (.int .i64 (x)) ∧ w'.cell? ⟨g, 1, none⟩ = some (.int .i64 (y)) ∧ w'.cell? ⟨g, 2, none⟩ = some (.int .i64 (z))) (fun _ h => h) rfl (fun K hK => ?_)
      go_simp
      refine hK _ _ ⟨?_, ?_⟩
      · have hu : Upd noBlk w2 (w2.alloc (Obj.cells #[Value.int IntKind.i64 0, Value.int IntKind.i64 0, Value.int IntKind.i64 0] 51)).drew := ((Upd.refl noBlk w2).alloc _).drew
        exact ⟨hu.cell HK.out.1 id, hu.cell HK.out.2.1 id, hu.cell HK.out.2.2 id⟩
      · clear hK K
        have hU3 : Hid (Upd noBlk w (w2.alloc (Obj.cells #[Value.int IntKind.i64 x, Value.int IntKind.i64 y, Value.int IntKind.i64 z] 51)).drew) := ((((Upd.refl noBlk w).alloc _).trans U.out).alloc _).drew
        refine wpT_nil ?_
        go_wp2_with fail
        refine (inRange_any x y z _).mono ?_
        rintro e w4 ⟨rfl, u4⟩
        have U4 := Lib.hid (hU3.out.trans u4)
        have hp : Hid (w4.heap[w2.heap.size]? = some (.cells #[Value.int IntKind.i64 x, Value.int IntKind.i64 y, Value.int IntKind.i64 z] 51)) := by
          show _ = _
          exact u4.heap (show (w2.alloc _).heap[w2.heap.size]? = _ from heap_alloc_new _ _) id
        have hp0 : Hid (w4.heap[w.heap.size]? = some (.cells #[Value.int IntKind.i64 0, Value.int IntKind.i64 0, Value.int IntKind.i64 0] 51)) := by
          show _ = _
          exact u4.heap (show (w2.alloc _).heap[w.heap.size]? = _ from Upd.heap ((Upd.refl noBlk w2).alloc _) (U.out.heap (heap_alloc_new _ _) id) id) id
        clear u4
        rcases hin : inR (x, y, z) with _ | _
        · go_wp2_with fail
          refine (check_bad _ _ _).mono ?_
          rintro e w5 ⟨rfl, rfl⟩
          refine ⟨rfl, ?_⟩
          show cornerQ (if inR (x, y, z) = true then R.ok (x, y, z) else R.bad 3) place w _ _
          rw [hin]
          exact ⟨rfl, U4.out⟩
        · have e0 : w4.cell? ⟨w2.heap.size, 0, none⟩ = some (.int .i64 x) := by simp [World.cell?, hp.out]
          have e1 : w4.cell? ⟨w2.heap.size, 1, none⟩ = some (.int .i64 y) := by simp [World.cell?, hp.out]
          have e2 : w4.cell? ⟨w2.heap.size, 2, none⟩ = some (.int .i64 z) := by simp [World.cell?, hp.out]
          have f0 : w4.cell? ⟨w.heap.size, 0, none⟩ = some (.int .i64 0) := by simp [World.cell?, hp0.out]
          have z0 : w4.frozen? ⟨w.heap.size, 0, none⟩ = false := by simp [World.frozen?, hp0.out]
          have f1 : w4.cell? ⟨w.heap.size, 1, none⟩ = some (.int .i64 0) := by simp [World.cell?, hp0.out]
          have z1 : w4.frozen? ⟨w.heap.size, 1, none⟩ = false := by simp [World.frozen?, hp0.out]
          have f2 : w4.cell? ⟨w.heap.size, 2, none⟩ = some (.int .i64 0) := by simp [World.cell?, hp0.out]
          have z2 : w4.frozen? ⟨w.heap.size, 2, none⟩ = false := by simp [World.frozen?, hp0.out]
          go_wp2_with fail
          refine (check_ok _ _ _).mono ?_
          rintro e w5 ⟨rfl, rfl⟩
          go_wp2
          refine bodyPost_ret (v := ptV (x, y, z)) (by simp [results, Tryz.results49, go_sem, f0, f1, f2, ptV]; try rfl) rfl ?_
          exact ⟨rfl, ((U4.out.setCell (fun h => absurd h (Nat.lt_irrefl _)) _).setCell (fun h => absurd h (Nat.lt_irrefl _)) _).setCell (fun h => absurd h (Nat.lt_irrefl _)) _⟩
    · rw [hr] at hnum
      have HN := Lib.hid hnum
      rw [corner_bad hr]
      clear hnum hr
      go_enter Tryz.func49, Tryz.ntmps49
      go_wp2_with fail
      refine (check_ok _ _ _).mono ?_
      rintro e w2 ⟨rfl, rfl⟩
      go_wp2_with fail
      refine HN.out.mono ?_
      rintro e w2 ⟨rfl, u⟩
      exact ⟨rfl, rfl, ((Upd.refl _ _).alloc _).trans u⟩
  · have hp := Lib.hid (corner_short c1)
    rw [hp.out]
    clear H HS hl
    generalize ws.length = n at *
    have c1' : (((n : Nat) : Int) == 3) = false := by rw [beq_eq_false_iff_ne]; omega
    clear c1
    go_enter Tryz.func49, Tryz.ntmps49
    go_wp2_with fail
    refine (check_bad _ _ _).mono ?_
    rintro e w2 ⟨rfl, rfl⟩
    exact ⟨rfl, rfl, (Upd.refl _ _).alloc _⟩
end Go.Proofs.YtojdgdeefhndiaaGreatDoor

