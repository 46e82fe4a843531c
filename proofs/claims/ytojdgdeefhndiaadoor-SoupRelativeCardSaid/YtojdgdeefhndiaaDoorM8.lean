/- Walks of the program of the polygon files: inRange, corner. Lists of polygons in the call's own memory. No condition. -/
import Derived.Test.YtojdgdeefhndiaaDoorM7
import Derived.Test.YtojdgdeefhndiaaDoorM4
namespace Go.Proofs.YtojdgdeefhndiaaDoor
open Go Go.RowKit Sp
set_option maxRecDepth 100000

def ptV (p : Pt) : Value := .agg #[.int .i64 p.1, .int .i64 p.2.1, .int .i64 p.2.2]
set_option maxHeartbeats 1000000 in
theorem inRange_any (x y z : Int) (w : World) : Calls Tryd.prog 36 #[.agg #[.int .i64 x, .int .i64 y, .int .i64 z]] w fun en w' => en = .returned (.bool (inR (x, y, z))) ∧ Upd noBlk w w' := by
  have hm : inR (x, y, z) = true ↔ (0 ≤ x ∧ 0 ≤ y ∧ 0 ≤ z) ∧ (x ≤ 2097151 ∧ y ≤ 2097151 ∧ z ≤ 2097151) := by
    unfold inR maxCoord
    simp only [decide_eq_true_eq]
    omega
  have HM := Lib.hid hm
  clear hm
  go_enter Tryd.func36, Tryd.ntmps36
  go_wp2
  all_goals go_ret
  all_goals refine ⟨?_, (Upd.refl _ _).alloc _⟩
  all_goals refine congrArg (fun b => Ending.returned (Value.bool b)) ?_
  all_goals rw [Bool.eq_iff_iff, HM.out]
  all_goals simp only [decide_eq_true_eq, Bool.false_eq_true, false_iff]
  all_goals clear HM
  all_goals omega

def cornerQ (r : R Pt) (place : Int) (w : World) (en : Ending) (w' : World) : Prop :=
  match r with
  | .ok p => en = .returned (ptV p) ∧ Upd noBlk w w'
  | .bad e => en = .panicked (fail place e) ∧ Upd noBlk w w'
theorem corner_short {ws : List Bytes} (h : ws.length ≠ 3) : cornerS ws = .bad 10 := by
  unfold cornerS
  match ws, h with
  | [], _ => rfl
  | [_], _ => rfl
  | [_, _], _ => rfl
  | [_, _, _], h => exact absurd rfl h
  | _ :: _ :: _ :: _ :: _, _ => rfl
theorem nums_three (a b c : Bytes) : numsP 3 3 [a, b, c] = numbersS [a, b, c] := by
  unfold numsP numbersS
  have e : (decide ([a, b, c].length < 3) || [a, b, c].any fun x => !isNum x) = !([a, b, c].all isNum) := by
    simp only [List.any, List.all, List.length]
    cases isNum a <;> cases isNum b <;> cases isNum c <;> rfl
  rw [e]
  split
  · rfl
  · rw [if_neg (by simp)]
theorem corner_ok {a b c : Bytes} {zs : List Int} (h : numsP 3 3 [a, b, c] = .ok zs) : zs = [Sp.valOf a, Sp.valOf b, Sp.valOf c] ∧ cornerS [a, b, c] = if inR (Sp.valOf a, Sp.valOf b, Sp.valOf c) then .ok (Sp.valOf a, Sp.valOf b, Sp.valOf c) else .bad 3 := by
  rw [nums_three] at h
  refine ⟨?_, by unfold cornerS; simp only [h]⟩
  unfold numbersS at h
  split at h
  · cases h
  split at h
  · cases h
  cases h
  rfl
theorem corner_bad {a b c : Bytes} {e : Nat} (h : numsP 3 3 [a, b, c] = .bad e) : cornerS [a, b, c] = .bad e := by
  rw [nums_three] at h
  unfold cornerS
  simp only [h]
set_option maxHeartbeats 1000000 in
theorem corner_any (A : Option Addr) (cap : Nat) (ws : List Bytes) (place : Int) (hl : ws.length ≤ 4294967296) (hs : short ws) (w : World) (h : RdW w A ws) :
    Calls Tryd.prog 23 #[.slice A ws.length cap, .int .i64 place] w fun en w' => cornerQ (cornerS ws) place w en w' := by
  have H := Lib.hid h
  have HS := Lib.hid hs
  clear h hs
  by_cases c1 : ws.length = 3
  · have c1' : Hid (((ws.length : Nat) : Int) = 3) := by show _ = _; omega
    obtain ⟨a, b, c, rfl⟩ : ∃ a b c, ws = [a, b, c] := by
      match ws, c1 with
      | [a, b, c], _ => exact ⟨a, b, c, rfl⟩
    clear c1 c1' hl
    have hnum : Calls Tryd.prog 25 #[.slice A 3 cap, .int .i64 3, .int .i64 3, .int .i64 place] (w.alloc (Obj.cells #[Value.int IntKind.i64 0, Value.int IntKind.i64 0, Value.int IntKind.i64 0] 35)) fun en w' => NumsQ (numsP 3 3 [a, b, c]) place (w.alloc (Obj.cells #[Value.int IntKind.i64 0, Value.int IntKind.i64 0, Value.int IntKind.i64 0] 35)) en w' := numbers_any A cap [a, b, c] 3 3 place (by omega) (by omega) (by simp) HS.out _ (RdW.keep H.out ((Upd.refl _ _).alloc _))
    show Calls Tryd.prog 23 #[.slice A 3 cap, .int .i64 place] w _
    rcases hr : numsP 3 3 [a, b, c] with zs | e0
    · rw [hr] at hnum
      have HN := Lib.hid hnum
      obtain ⟨hz, hc⟩ := corner_ok hr
      subst hz
      rw [hc]
      clear hnum hc hr
      generalize Sp.valOf a = x at *
      generalize Sp.valOf b = y at *
      generalize Sp.valOf c = z at *
      go_enter Tryd.func23, Tryd.ntmps23
      go_wp2_with fail
      refine (check_ok _ _ _).mono ?_
      rintro e w2 ⟨rfl, rfl⟩
      go_wp2_with fail
      refine HN.out.mono ?_
      rintro e w2 hq
      obtain ⟨v, rfl, o, u⟩ := hq
      obtain ⟨g, cp, rfl⟩ : ∃ g cp, v = .slice (some ⟨g, 0, none⟩) 3 cp := by
        rcases o.2 with ⟨_, h0⟩ | ⟨g, cp, _, rfl, _⟩
        · simp at h0
        · exact ⟨g, cp, rfl⟩
      have k0 := o.cellAt 0 (by omega)
      have k1 := o.cellAt 1 (by omega)
      have k2 := o.cellAt 2 (by omega)
      simp only [List.map_cons, List.map_nil, List.getElem?_cons_zero, List.getElem?_cons_succ] at k0 k1 k2
      clear o
      have U := Lib.hid u
      clear u
      clear HN
      have HK : Hid (w2.cell? ⟨g, 0, none⟩ = some (.int .i64 x) ∧ w2.cell? ⟨g, 1, none⟩ = some (.int .i64 y) ∧ w2.cell? ⟨g, 2, none⟩ = some (.int .i64 z)) := ⟨k0, k1, k2⟩
      clear k0 k1 k2
      go_wp2_with fail
      refine wp_region_tree 11 (OT.sures [0, 1, 2, 3, 4, 5, 6, 7, 8, 9] (.run 10 .nil)) (fun w' => w'.cell? ⟨g, 0, none⟩ = some (.int .i64 (x)) ∧ w'.cell? ⟨g, 1, none⟩ = some (.int .i64 (y)) ∧ w'.cell? ⟨g, 2, none⟩ = some (.int .i64 (z))) (by kernel_rfl) (by kernel_rfl) (fun c a d v w h => by cases d <;> exact h) HK.out ?_
      simp only [OT.sures]
      iterate 10 (first | (apply wpT_sure rfl rfl; focus (intro w' hw'; obtain ⟨g1, g2, g3⟩ := hw'; go_simp; rfl)) | (refine wpT_sureG rfl (by go_simp) _ (fun w' hw' => by obtain ⟨g1, g2, g3⟩ := hw'; go_simp; rfl) ?_))
      refine wpT_run (fun w' => w'.cell? ⟨g, 0, none⟩ = some (.int .i64 (x)) ∧ w'.cell? ⟨g, 1, none⟩ = some (.int .i64 (y)) ∧ w'.cell? ⟨g, 2, none⟩ = some (.int .i64 (z))) (fun _ h => h) rfl (fun K hK => ?_)
      go_simp
      refine hK _ _ ⟨?_, ?_⟩
      · have hu : Upd noBlk w2 (w2.alloc (Obj.cells #[Value.int IntKind.i64 0, Value.int IntKind.i64 0, Value.int IntKind.i64 0] 35)).drew := ((Upd.refl noBlk w2).alloc _).drew
        exact ⟨hu.cell HK.out.1 id, hu.cell HK.out.2.1 id, hu.cell HK.out.2.2 id⟩
      · clear hK K
        have hU3 : Hid (Upd noBlk w (w2.alloc (Obj.cells #[Value.int IntKind.i64 x, Value.int IntKind.i64 y, Value.int IntKind.i64 z] 35)).drew) := ((((Upd.refl noBlk w).alloc _).trans U.out).alloc _).drew
        refine wpT_nil ?_
        go_wp2_with fail
        refine (inRange_any x y z _).mono ?_
        rintro e w4 ⟨rfl, u4⟩
        have U4 := Lib.hid (hU3.out.trans u4)
        have hp : Hid (w4.heap[w2.heap.size]? = some (.cells #[Value.int IntKind.i64 x, Value.int IntKind.i64 y, Value.int IntKind.i64 z] 35)) := by
          show _ = _
          exact u4.heap (show (w2.alloc _).heap[w2.heap.size]? = _ from heap_alloc_new _ _) id
        have hp0 : Hid (w4.heap[w.heap.size]? = some (.cells #[Value.int IntKind.i64 0, Value.int IntKind.i64 0, Value.int IntKind.i64 0] 35)) := by
          show _ = _
          exact u4.heap (show (w2.alloc _).heap[w.heap.size]? = _ from Upd.heap ((Upd.refl noBlk w2).alloc _) (U.out.heap (heap_alloc_new _ _) id) id) id
        clear u4
        rcases hin : inR (x, y, z) with _ | _
        · go_wp2_with fail
          refine (check_bad _ _ _).mono ?_
          rintro e w5 ⟨rfl, rfl⟩
          refine ⟨rfl, ?_⟩
          show cornerQ (if inR (x, y, z) = true then R.ok (x, y, z) else R.bad 3) place w _ _
          rw [hin]
          exact ⟨rfl, U4.out⟩
        · have e0 : w4.cell? ⟨w2.heap.size, 0, none⟩ = some (.int .i64 x) := by simp [World.cell?, hp.out]
          have e1 : w4.cell? ⟨w2.heap.size, 1, none⟩ = some (.int .i64 y) := by simp [World.cell?, hp.out]
          have e2 : w4.cell? ⟨w2.heap.size, 2, none⟩ = some (.int .i64 z) := by simp [World.cell?, hp.out]
          have f0 : w4.cell? ⟨w.heap.size, 0, none⟩ = some (.int .i64 0) := by simp [World.cell?, hp0.out]
          have z0 : w4.frozen? ⟨w.heap.size, 0, none⟩ = false := by simp [World.frozen?, hp0.out]
          have f1 : w4.cell? ⟨w.heap.size, 1, none⟩ = some (.int .i64 0) := by simp [World.cell?, hp0.out]
          have z1 : w4.frozen? ⟨w.heap.size, 1, none⟩ = false := by simp [World.frozen?, hp0.out]
          have f2 : w4.cell? ⟨w.heap.size, 2, none⟩ = some (.int .i64 0) := by simp [World.cell?, hp0.out]
          have z2 : w4.frozen? ⟨w.heap.size, 2, none⟩ = false := by simp [World.frozen?, hp0.out]
          go_wp2_with fail
          refine (check_ok _ _ _).mono ?_
          rintro e w5 ⟨rfl, rfl⟩
          go_wp2
          refine bodyPost_ret (v := ptV (x, y, z)) (by simp [results, Tryd.results23, go_sem, f0, f1, f2, ptV]; try rfl) rfl ?_
          exact ⟨rfl, ((U4.out.setCell (fun h => absurd h (Nat.lt_irrefl _)) _).setCell (fun h => absurd h (Nat.lt_irrefl _)) _).setCell (fun h => absurd h (Nat.lt_irrefl _)) _⟩
    · rw [hr] at hnum
      have HN := Lib.hid hnum
      rw [corner_bad hr]
      clear hnum hr
      go_enter Tryd.func23, Tryd.ntmps23
      go_wp2_with fail
      refine (check_ok _ _ _).mono ?_
      rintro e w2 ⟨rfl, rfl⟩
      go_wp2_with fail
      refine HN.out.mono ?_
      rintro e w2 ⟨rfl, u⟩
      exact ⟨rfl, rfl, ((Upd.refl _ _).alloc _).trans u⟩
  · have hp := Lib.hid (corner_short c1)
    rw [hp.out]
    clear H HS hl
    generalize ws.length = n at *
    have c1' : (((n : Nat) : Int) == 3) = false := by rw [beq_eq_false_iff_ne]; omega
    clear c1
    go_enter Tryd.func23, Tryd.ntmps23
    go_wp2_with fail
    refine (check_bad _ _ _).mono ?_
    rintro e w2 ⟨rfl, rfl⟩
    exact ⟨rfl, rfl, (Upd.refl _ _).alloc _⟩
end Go.Proofs.YtojdgdeefhndiaaDoor

namespace Go.Proofs.YtojdgdeefhndiaaDoor
open Go Go.RowKit Sp
set_option maxRecDepth 100000

theorem ownsRow_type {w : World} {base n : Nat} {T : TypeId} {s : Nat} {v : Value} {xs : List Value} (own : w.ownsRow base T s v n xs) {g : Nat} (hg : v.ownBlock = some g) : ∃ cur, w.heap[g]? = some (.cells cur T (0, 0)) := by
  rcases own.2 with ⟨rfl, _⟩ | ⟨g', cap, cur, rfl, _, hh, _⟩
  · simp [Value.ownBlock] at hg
  · have : g' = g := by simpa [Value.ownBlock] using hg
    subst this; exact ⟨cur, hh⟩
theorem ownsRow_base {w : World} {base base' n : Nat} {T : TypeId} {s : Nat} {v : Value} {xs : List Value} (own : w.ownsRow base T s v n xs) (hb : base' ≤ base) : w.ownsRow base' T s v n xs := by
  refine ⟨own.1, ?_⟩
  rcases own.2 with h | ⟨g, cap, cur, h1, h2, h3⟩
  · exact .inl h
  · exact .inr ⟨g, cap, cur, h1, Nat.le_trans hb h2, h3⟩
/-- A row is kept where the blocks that may turn are of other types. -/
theorem ownsRow_other {F : Nat → Prop} {w w' : World} {base n : Nat} {T : TypeId} {s : Nat} {v : Value} {xs : List Value} (own : w.ownsRow base T s v n xs) (hu : Upd F w w')
    (hF : ∀ k, F k → k < w.heap.size → ∃ cs U fr, w.heap[k]? = some (.cells cs U fr) ∧ U ≠ T) : w'.ownsRow base T s v n xs :=
  ownsRow_keep own (fun g hg => hu.block g (own.lt g hg).2 (fun hf => by
    obtain ⟨cs, U, fr, h1, h2⟩ := hF g hf (own.lt g hg).2
    obtain ⟨cur, h3⟩ := ownsRow_type own hg
    rw [h1] at h3
    cases h3
    exact h2 rfl))
def ptVs (p : Pt) : List Value := [.int .i64 p.1, .int .i64 p.2.1, .int .i64 p.2.2]
def ptsVs (l : List Pt) : List Value := l.flatMap ptVs
theorem ptsVs_snoc (l : List Pt) (p : Pt) : ptsVs (l ++ [p]) = ptsVs l ++ ptVs p := by simp [ptsVs]
def OwnPts (base : Nat) (w : World) (v : Value) (l : List Pt) : Prop := w.ownsRow base 35 3 v l.length (ptsVs l)
def polyVs (qs : List (Value × Poly)) : List Value := qs.flatMap (fun q => [q.1, .int .i64 q.2.2])
/-- A slice of polygons in memory from a block on; qs: each polygon with the slice of its corners. -/
def OwnQs (base : Nat) (w : World) (v : Value) (qs : List (Value × Poly)) : Prop :=
  (∀ q, q ∈ qs → OwnPts base w q.1 q.2.1) ∧ w.ownsRow base 32 2 v qs.length (polyVs qs)
def OwnPolys (base : Nat) (w : World) (v : Value) (ps : List Poly) : Prop := ∃ qs : List (Value × Poly), qs.map (·.2) = ps ∧ OwnQs base w v qs
theorem OwnPolys.nil (base : Nat) (w : World) : OwnPolys base w (.slice none 0 0) [] := ⟨[], rfl, fun _ h => (by cases h), World.ownsRow_nil _ _ _ _⟩
theorem OwnPts.nil (base : Nat) (w : World) : OwnPts base w (.slice none 0 0) [] := World.ownsRow_nil _ _ _ _
theorem OwnQs.other {F : Nat → Prop} {w w' : World} {base : Nat} {v : Value} {qs : List (Value × Poly)} (h : OwnQs base w v qs) (hu : Upd F w w')
    (hF : ∀ k, F k → k < w.heap.size → ∃ cs U fr, w.heap[k]? = some (.cells cs U fr) ∧ U ≠ 35 ∧ U ≠ 32) : OwnQs base w' v qs :=
  ⟨fun q hq => ownsRow_other (h.1 q hq) hu (fun k hk hl => by obtain ⟨a, b, c, d, e, _⟩ := hF k hk hl; exact ⟨a, b, c, d, e⟩),
   ownsRow_other h.2 hu (fun k hk hl => by obtain ⟨a, b, c, d, _, e⟩ := hF k hk hl; exact ⟨a, b, c, d, e⟩)⟩
theorem OwnPolys.other {F : Nat → Prop} {w w' : World} {base : Nat} {v : Value} {ps : List Poly} (h : OwnPolys base w v ps) (hu : Upd F w w')
    (hF : ∀ k, F k → k < w.heap.size → ∃ cs U fr, w.heap[k]? = some (.cells cs U fr) ∧ U ≠ 35 ∧ U ≠ 32) : OwnPolys base w' v ps := by
  obtain ⟨qs, h1, h2⟩ := h
  exact ⟨qs, h1, h2.other hu hF⟩
theorem OwnPolys.upd {w w' : World} {base : Nat} {v : Value} {ps : List Poly} (h : OwnPolys base w v ps) (hu : Upd noBlk w w') : OwnPolys base w' v ps := h.other hu (fun _ hk _ => hk.elim)
theorem OwnPts.upd {w w' : World} {base : Nat} {v : Value} {ps : List Pt} (h : OwnPts base w v ps) (hu : Upd noBlk w w') : OwnPts base w' v ps := ownsRow_upd h hu
theorem OwnPolys.mono {w : World} {base base' : Nat} {v : Value} {ps : List Poly} (h : OwnPolys base w v ps) (hb : base' ≤ base) : OwnPolys base' w v ps := by
  obtain ⟨qs, h1, h2, h3⟩ := h
  exact ⟨qs, h1, fun q hq => ownsRow_base (h2 q hq) hb, ownsRow_base h3 hb⟩
theorem OwnPolys.len {w : World} {base : Nat} {v : Value} {ps : List Poly} (h : OwnPolys base w v ps) : ∃ A cap, v = .slice A ps.length cap := by
  obtain ⟨qs, rfl, _, h3⟩ := h
  rw [List.length_map]
  rcases h3.2 with ⟨rfl, h0⟩ | ⟨g, cap, cur, rfl, _⟩
  · exact ⟨none, 0, by rw [h0]⟩
  · exact ⟨_, _, rfl⟩
theorem info_p : (Tryd.prog.info? 35).map (fun i => (i.zero, i.size, i.bytes)) = some (some (.agg #[.int .i64 0, .int .i64 0, .int .i64 0]), 3, 24) := by kernel_rfl
theorem info_q : (Tryd.prog.info? 32).map (fun i => (i.zero, i.size, i.bytes)) = some (some (.agg #[.slice none 0 0, .int .i64 0]), 2, 32) := by kernel_rfl
theorem OwnPts.blk {w : World} {base : Nat} {v : Value} {l : List Pt} (h : OwnPts base w v l) {g : Nat} (hg : v.ownBlock = some g) : ∃ cs, w.heap[g]? = some (.cells cs 35 (0, 0)) := ownsRow_type h hg
theorem OwnPts.not_blk {w : World} {base : Nat} {v : Value} {l : List Pt} (h : OwnPts base w v l) {g : Nat} {cs : Array Value} {T : TypeId} {fr : Nat × Nat} (hg : w.heap[g]? = some (.cells cs T fr)) (hT : T ≠ 35) : ¬ v.ownBlock = some g := fun e => by
  obtain ⟨cur, h1⟩ := h.blk e
  rw [h1] at hg; cases hg; exact hT rfl
/-- One corner more. -/
theorem append_pt {F : Nat → Prop} {w0 w : World} (hup : Upd F w0 w) {v : Value} {l : List Pt} (h : OwnPts w0.heap.size w v l) (p : Pt) (hl : l.length < 4294967296) :
    ∃ g cap w', (Builtin.append_ #[30, 30] 30 #[v, .slice (some ⟨w.heap.size, 0, none⟩) 1 1]).run Tryd.prog (w.alloc (.cells #[.int .i64 p.1, .int .i64 p.2.1, .int .i64 p.2.2] 35)) = .ok (.slice (some ⟨g, 0, none⟩) (l.length + 1) cap) w' ∧
      OwnPts w0.heap.size w' (.slice (some ⟨g, 0, none⟩) (l.length + 1) cap) (l ++ [p]) ∧ Upd F w0 w' ∧ Upd (fun k => v.ownBlock = some k) w w' ∧ (v.ownBlock = some g ∨ g = w.heap.size + 1) := by
  obtain ⟨i0, hi0, hz0, hz1, hz2⟩ := info_parts info_p
  obtain ⟨g, cap, w', r, o, u, u2, hat, _⟩ := append_item (P := Tryd.prog) (w0 := w0) (w := w) 30 30 35 i0 _ 3 24 Tryd.underlying30 hi0 hz0 hz1 hz2 rfl (by omega) hup h (ptVs p) rfl (by simp [ptVs, Value.oneCell']) (by unfold maxLen; omega) (by omega)
  refine ⟨g, cap, w', r, ?_, u, u2, hat⟩
  unfold OwnPts
  rw [ptsVs_snoc, List.length_append]
  exact o
/-- One polygon more. -/
theorem append_poly {F : Nat → Prop} {w0 w : World} (hup : Upd F w0 w) {v : Value} {ps : List Poly} (h : OwnPolys w0.heap.size w v ps) {pv : Value} {q : Poly} (hq : OwnPts w0.heap.size w pv q.1) (hl : ps.length < 4294967296) (h1 : pv.oneCell' = true) :
    ∃ g cap w', (Builtin.append_ #[25, 25] 25 #[v, .slice (some ⟨w.heap.size, 0, none⟩) 1 1]).run Tryd.prog (w.alloc (.cells #[pv, .int .i64 q.2] 32)) = .ok (.slice (some ⟨g, 0, none⟩) (ps.length + 1) cap) w' ∧
      OwnPolys w0.heap.size w' (.slice (some ⟨g, 0, none⟩) (ps.length + 1) cap) (ps ++ [q]) ∧ Upd F w0 w' ∧ Upd (fun k => v.ownBlock = some k) w w' := by
  obtain ⟨qs, rfl, h2, h3⟩ := h
  rw [List.length_map] at hl ⊢
  obtain ⟨i0, hi0, hz0, hz1, hz2⟩ := info_parts info_q
  obtain ⟨g, cap, w', r, o, u, u2, _, _⟩ := append_item (P := Tryd.prog) (w0 := w0) (w := w) 25 25 32 i0 _ 2 32 Tryd.underlying25 hi0 hz0 hz1 hz2 rfl (by omega) hup h3 [pv, .int .i64 q.2] rfl
    (by intro x hx; simp only [List.mem_cons, List.not_mem_nil, or_false] at hx; rcases hx with rfl | rfl; exact h1; simp [Value.oneCell']) (by unfold maxLen; omega) (by omega)
  refine ⟨g, cap, w', r, ⟨qs ++ [(pv, q)], by simp, ?_, ?_⟩, u, u2⟩
  · have hF : ∀ k, (v.ownBlock = some k) → k < w.heap.size → ∃ cs U fr, w.heap[k]? = some (.cells cs U fr) ∧ U ≠ 35 := fun k hk _ => by
      obtain ⟨cur, hc⟩ := ownsRow_type h3 hk
      exact ⟨cur, 32, (0, 0), hc, by decide⟩
    intro x hx
    rw [List.mem_append, List.mem_singleton] at hx
    rcases hx with hx | rfl
    · exact ownsRow_other (h2 x hx) u2 hF
    · exact ownsRow_other hq u2 hF
  · have : polyVs (qs ++ [(pv, q)]) = polyVs qs ++ [pv, .int .i64 q.2] := by simp [polyVs]
    rw [this, List.length_append]
    exact o
theorem OwnPolys.not_blk {w : World} {base : Nat} {v : Value} {ps : List Poly} (h : OwnPolys base w v ps) {g : Nat} {cs : Array Value} {T : TypeId} {fr : Nat × Nat} (hg : w.heap[g]? = some (.cells cs T fr)) (hT : T ≠ 32) : ¬ v.ownBlock = some g := fun e => by
  obtain ⟨qs, _, _, h3⟩ := h
  obtain ⟨cur, h1⟩ := ownsRow_type h3 e
  rw [h1] at hg; cases hg; exact hT rfl
theorem OwnQs.keep {F : Nat → Prop} {w w' : World} {base : Nat} {v : Value} {qs : List (Value × Poly)} (h : OwnQs base w v qs) (hu : Upd F w w') (hv : ∀ k, F k → v.ownBlock ≠ some k) (hq : ∀ q, q ∈ qs → ∀ k, F k → q.1.ownBlock ≠ some k) : OwnQs base w' v qs :=
  ⟨fun q hqm => ownsRow_keep (h.1 q hqm) (fun g hg => hu.block g ((h.1 q hqm).lt g hg).2 (fun hf => hq q hqm g hf hg)), ownsRow_keep h.2 (fun g hg => hu.block g (h.2.lt g hg).2 (fun hf => hv g hf hg))⟩
theorem OwnQs.polys {w : World} {base : Nat} {v : Value} {qs : List (Value × Poly)} (h : OwnQs base w v qs) : OwnPolys base w v (qs.map (·.2)) := ⟨qs, rfl, h⟩
/-- One corner more, the row from a block on. -/
theorem append_ptB {w : World} {base : Nat} (hb : base ≤ w.heap.size) {v : Value} {l : List Pt} (h : OwnPts base w v l) (p : Pt) (hl : l.length < 4294967296) :
    ∃ g cap w', (Builtin.append_ #[30, 30] 30 #[v, .slice (some ⟨w.heap.size, 0, none⟩) 1 1]).run Tryd.prog (w.alloc (.cells #[.int .i64 p.1, .int .i64 p.2.1, .int .i64 p.2.2] 35)) = .ok (.slice (some ⟨g, 0, none⟩) (l.length + 1) cap) w' ∧
      OwnPts base w' (.slice (some ⟨g, 0, none⟩) (l.length + 1) cap) (l ++ [p]) ∧ Upd (fun k => v.ownBlock = some k) w w' ∧ (v.ownBlock = some g ∨ g = w.heap.size + 1) := by
  obtain ⟨i0, hi0, hz0, hz1, hz2⟩ := info_parts info_p
  obtain ⟨g, cap, w', r, o, gr, hat, hlt⟩ := append_one (P := Tryd.prog) w 30 30 35 i0 _ 3 24 Tryd.underlying30 hi0 hz0 hz1 hz2 rfl (by omega) h hb (ptVs p) rfl (by simp [ptVs, Value.oneCell']) (by unfold maxLen; omega) (by omega)
  refine ⟨g, cap, w', r, ?_, (upd_of_grown (World.grownBy_alloc w _ v.ownBlock) (fun j hj _ => hj)).trans (upd_of_grown gr (fun j hj _ => hj)), hat⟩
  unfold OwnPts
  rw [ptsVs_snoc, List.length_append]
  exact o
/-- One polygon more, the list from a block on. -/
theorem append_polyQ {w : World} {base : Nat} (hb : base ≤ w.heap.size) {v : Value} {qs : List (Value × Poly)} (h : OwnQs base w v qs) {pv : Value} {q : Poly} (hq : OwnPts base w pv q.1) (hl : qs.length < 4294967296) (h1 : pv.oneCell' = true) :
    ∃ g cap w', (Builtin.append_ #[25, 25] 25 #[v, .slice (some ⟨w.heap.size, 0, none⟩) 1 1]).run Tryd.prog (w.alloc (.cells #[pv, .int .i64 q.2] 32)) = .ok (.slice (some ⟨g, 0, none⟩) (qs.length + 1) cap) w' ∧
      OwnQs base w' (.slice (some ⟨g, 0, none⟩) (qs.length + 1) cap) (qs ++ [(pv, q)]) ∧ Upd (fun k => v.ownBlock = some k) w w' ∧ (v.ownBlock = some g ∨ g = w.heap.size + 1) := by
  obtain ⟨h2, h3⟩ := h
  obtain ⟨i0, hi0, hz0, hz1, hz2⟩ := info_parts info_q
  obtain ⟨g, cap, w', r, o, gr, hat, _⟩ := append_one (P := Tryd.prog) w 25 25 32 i0 _ 2 32 Tryd.underlying25 hi0 hz0 hz1 hz2 rfl (by omega) h3 hb [pv, .int .i64 q.2] rfl
    (by intro x hx; simp only [List.mem_cons, List.not_mem_nil, or_false] at hx; rcases hx with rfl | rfl; exact h1; simp [Value.oneCell']) (by unfold maxLen; omega) (by omega)
  have u2 : Upd (fun k => v.ownBlock = some k) w w' := (upd_of_grown (World.grownBy_alloc w _ v.ownBlock) (fun j hj _ => hj)).trans (upd_of_grown gr (fun j hj _ => hj))
  refine ⟨g, cap, w', r, ⟨?_, ?_⟩, u2, hat⟩
  · have hF : ∀ k, (v.ownBlock = some k) → k < w.heap.size → ∃ cs U fr, w.heap[k]? = some (.cells cs U fr) ∧ U ≠ 35 := fun k hk _ => by
      obtain ⟨cur, hc⟩ := ownsRow_type h3 hk
      exact ⟨cur, 32, (0, 0), hc, by decide⟩
    intro x hx
    rw [List.mem_append, List.mem_singleton] at hx
    rcases hx with hx | rfl
    · exact ownsRow_other (h2 x hx) u2 hF
    · exact ownsRow_other hq u2 hF
  · have : polyVs (qs ++ [(pv, q)]) = polyVs qs ++ [pv, .int .i64 q.2] := by simp [polyVs]
    rw [this, List.length_append]
    exact o
/-- What reading polygons comes to. -/
def polysQ (r : Out) (w : World) (en : Ending) (w' : World) : Prop :=
  match r with
  | .ok ps => ∃ v, en = .returned v ∧ OwnPolys w.heap.size w' v ps ∧ Upd noBlk w w'
  | .bad place e => en = .panicked (fail place e) ∧ Upd noBlk w w'
end Go.Proofs.YtojdgdeefhndiaaDoor
