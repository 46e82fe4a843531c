/- Walks of the packets' program: group packets are opened, as they come. No condition. -/
import Derived.Test.YtcikldoaidmnhaaGreatDoorC24
import Derived.Test.YtcikldoaidmnhaaGreatDoorC25
namespace Go.Proofs.YtcikldoaidmnhaaGreatDoor
open Go Go.RowKit Pk Pc
set_option maxRecDepth 100000
/-- What is read, before it is compared. -/
def groupO (s : Bytes) : Option Grp := match kindM 2 s with
  | none => none
  | some r => match grpF r with
    | none => none
    | some (g, size) => match takeR (size / 2) g.mag with
      | none => none
      | some (m, _) => some (withMag g m)
def grpC (g : Grp) (vi vo vm : Value) : Array Value := #[.int .i64 g.level, vi, vo, vm, .int .i64 g.err, .int .i64 g.total, .bool g.neg, .string (bs g.mag)]
structure GrpAt (n : Nat) (w : World) (g : Grp) (vi vo vm : Value) : Prop where
  ins : kPart.Own n w vi (g.ins.map p32)
  outs : kHash.Own n w vo (g.outs.map h32)
  moves : kMove.Own n w vm (g.moves.map id)
def groupQ (o : Option Grp) (w : World) (en : Ending) (w' : World) : Prop := Upd noBlk w w' ∧ match o with
  | some g => ∃ vi vo vm, en = .returned (.tuple #[.agg (grpC g vi vo vm), .int .i64 0]) ∧ GrpAt w.heap.size w' g vi vo vm
  | none => ∃ c : List Value, en = .returned (.tuple #[.agg c.toArray, .int .i64 13]) ∧ c.length = 8 ∧ ∀ v, v ∈ c → v.oneCell' = true
theorem load_group {w : World} {xb : Nat} {c0 c1 c2 c3 c4 c5 c6 c7 : Value} (h : w.heap[xb]? = some (.cells #[c0, c1, c2, c3, c4, c5, c6, c7] 68 (0, 0))) : (loadVar 68 ⟨xb, 0, none⟩).run Tryz.prog w = .ok (.agg #[c0, c1, c2, c3, c4, c5, c6, c7]) w :=
  run_loadVar_row w xb 68 68 #[c0, c1, c2, c3, c4, c5, c6, c7] (0, 0) _ h Tryz.underlying68 rfl (by kernel_rfl)
theorem cellsF8 {w : World} {b : Nat} {x0 x1 x2 x3 x4 x5 x6 x7 : Value} {t : TypeId} (h : w.heap[b]? = some (.cells #[x0, x1, x2, x3, x4, x5, x6, x7] t (0, 0))) : (w.cell? ⟨b, 0, none⟩ = some x0 ∧ w.cell? ⟨b, 1, none⟩ = some x1 ∧ w.cell? ⟨b, 2, none⟩ = some x2 ∧ w.cell? ⟨b, 3, none⟩ = some x3 ∧ w.cell? ⟨b, 4, none⟩ = some x4 ∧ w.cell? ⟨b, 5, none⟩ = some x5 ∧ w.cell? ⟨b, 6, none⟩ = some x6 ∧ w.cell? ⟨b, 7, none⟩ = some x7) ∧ (w.frozen? ⟨b, 0, none⟩ = false ∧ w.frozen? ⟨b, 1, none⟩ = false ∧ w.frozen? ⟨b, 2, none⟩ = false ∧ w.frozen? ⟨b, 3, none⟩ = false ∧ w.frozen? ⟨b, 4, none⟩ = false ∧ w.frozen? ⟨b, 5, none⟩ = false ∧ w.frozen? ⟨b, 6, none⟩ = false ∧ w.frozen? ⟨b, 7, none⟩ = false) := by simp [World.cell?, World.frozen?, h]
theorem Kd.Own.fresh {α : Type} {K : Kd Tryz.prog α} {base b : Nat} {w w' : World} {v : Value} {l : List α} (h : K.Own base w v l) (hu : Upd (fun k => k = b) w w') (hb : b < base) : K.Own base w' v l := h.other hu (fun g hg e => by have h1 := (h.blk hg).1; have e' : g = b := e; omega)
theorem upd_back {w w' : World} {b : Nat} (h : Upd (fun k => k = b) w w') (hb : w'.heap[b]? = w.heap[b]?) : Upd noBlk w w' := by
  obtain ⟨h1, h2, h3, h4, h5⟩ := h
  refine ⟨h1, h2, h3, h4, fun i hi _ => ?_⟩
  by_cases e : i = b
  · rw [e]; exact hb
  · exact h5 i hi e
set_option maxHeartbeats 2000000 in
theorem same8 {w : World} {xb : Nat} {c0 c1 c2 c3 c4 c5 c6 c7 : Value} {t : TypeId} (h : w.heap[xb]? = some (.cells #[c0, c1, c2, c3, c4, c5, c6, c7] t (0, 0))) :
    ((((((((w.setCell ⟨xb, 0, none⟩ c0).setCell ⟨xb, 1, none⟩ c1).setCell ⟨xb, 2, none⟩ c2).setCell ⟨xb, 3, none⟩ c3).setCell ⟨xb, 4, none⟩ c4).setCell ⟨xb, 5, none⟩ c5).setCell ⟨xb, 6, none⟩ c6).setCell ⟨xb, 7, none⟩ c7).heap[xb]? = some (.cells #[c0, c1, c2, c3, c4, c5, c6, c7] t (0, 0)) ∧
    Upd noBlk w ((((((((w.setCell ⟨xb, 0, none⟩ c0).setCell ⟨xb, 1, none⟩ c1).setCell ⟨xb, 2, none⟩ c2).setCell ⟨xb, 3, none⟩ c3).setCell ⟨xb, 4, none⟩ c4).setCell ⟨xb, 5, none⟩ c5).setCell ⟨xb, 6, none⟩ c6).setCell ⟨xb, 7, none⟩ c7) := by
  have hh : ((((((((w.setCell ⟨xb, 0, none⟩ c0).setCell ⟨xb, 1, none⟩ c1).setCell ⟨xb, 2, none⟩ c2).setCell ⟨xb, 3, none⟩ c3).setCell ⟨xb, 4, none⟩ c4).setCell ⟨xb, 5, none⟩ c5).setCell ⟨xb, 6, none⟩ c6).setCell ⟨xb, 7, none⟩ c7).heap[xb]? = some (.cells #[c0, c1, c2, c3, c4, c5, c6, c7] t (0, 0)) :=
by
    have h0 : (w.setCell ⟨xb, 0, none⟩ c0).heap[xb]? = some (.cells #[c0, c1, c2, c3, c4, c5, c6, c7] t (0, 0)) := heap_setCell_eq (i := 0) c0 h
    have h1 : ((w.setCell ⟨xb, 0, none⟩ c0).setCell ⟨xb, 1, none⟩ c1).heap[xb]? = some (.cells #[c0, c1, c2, c3, c4, c5, c6, c7] t (0, 0)) := heap_setCell_eq (i := 1) c1 h0
    have h2 : (((w.setCell ⟨xb, 0, none⟩ c0).setCell ⟨xb, 1, none⟩ c1).setCell ⟨xb, 2, none⟩ c2).heap[xb]? = some (.cells #[c0, c1, c2, c3, c4, c5, c6, c7] t (0, 0)) := heap_setCell_eq (i := 2) c2 h1
    have h3 : ((((w.setCell ⟨xb, 0, none⟩ c0).setCell ⟨xb, 1, none⟩ c1).setCell ⟨xb, 2, none⟩ c2).setCell ⟨xb, 3, none⟩ c3).heap[xb]? = some (.cells #[c0, c1, c2, c3, c4, c5, c6, c7] t (0, 0)) := heap_setCell_eq (i := 3) c3 h2
    have h4 : (((((w.setCell ⟨xb, 0, none⟩ c0).setCell ⟨xb, 1, none⟩ c1).setCell ⟨xb, 2, none⟩ c2).setCell ⟨xb, 3, none⟩ c3).setCell ⟨xb, 4, none⟩ c4).heap[xb]? = some (.cells #[c0, c1, c2, c3, c4, c5, c6, c7] t (0, 0)) := heap_setCell_eq (i := 4) c4 h3
    have h5 : ((((((w.setCell ⟨xb, 0, none⟩ c0).setCell ⟨xb, 1, none⟩ c1).setCell ⟨xb, 2, none⟩ c2).setCell ⟨xb, 3, none⟩ c3).setCell ⟨xb, 4, none⟩ c4).setCell ⟨xb, 5, none⟩ c5).heap[xb]? = some (.cells #[c0, c1, c2, c3, c4, c5, c6, c7] t (0, 0)) := heap_setCell_eq (i := 5) c5 h4
    have h6 : (((((((w.setCell ⟨xb, 0, none⟩ c0).setCell ⟨xb, 1, none⟩ c1).setCell ⟨xb, 2, none⟩ c2).setCell ⟨xb, 3, none⟩ c3).setCell ⟨xb, 4, none⟩ c4).setCell ⟨xb, 5, none⟩ c5).setCell ⟨xb, 6, none⟩ c6).heap[xb]? = some (.cells #[c0, c1, c2, c3, c4, c5, c6, c7] t (0, 0)) := heap_setCell_eq (i := 6) c6 h5
    have h7 : ((((((((w.setCell ⟨xb, 0, none⟩ c0).setCell ⟨xb, 1, none⟩ c1).setCell ⟨xb, 2, none⟩ c2).setCell ⟨xb, 3, none⟩ c3).setCell ⟨xb, 4, none⟩ c4).setCell ⟨xb, 5, none⟩ c5).setCell ⟨xb, 6, none⟩ c6).setCell ⟨xb, 7, none⟩ c7).heap[xb]? = some (.cells #[c0, c1, c2, c3, c4, c5, c6, c7] t (0, 0)) := heap_setCell_eq (i := 7) c7 h6
    exact h7
  refine ⟨hh, upd_back (b := xb) ((((((((((Upd.refl (fun k => k = xb) w).setCell (p := ⟨xb, 0, none⟩) (fun _ => rfl) c0).setCell (p := ⟨xb, 1, none⟩) (fun _ => rfl) c1).setCell (p := ⟨xb, 2, none⟩) (fun _ => rfl) c2).setCell (p := ⟨xb, 3, none⟩) (fun _ => rfl) c3).setCell (p := ⟨xb, 4, none⟩) (fun _ => rfl) c4).setCell (p := ⟨xb, 5, none⟩) (fun _ => rfl) c5).setCell (p := ⟨xb, 6, none⟩) (fun _ => rfl) c6).setCell (p := ⟨xb, 7, none⟩) (fun _ => rfl) c7)) (by rw [hh, h])⟩
set_option maxHeartbeats 4000000 in
theorem openGroup_any (s : Bytes) (w : World) :
    Calls Tryz.prog 85 #[.string (bs s)] w fun en w' => groupQ (groupO s) w en w' := by
  have hmf : ∀ (fn : Fn) (first cap : Array Value) (w : World), (Instr.makeFunc fn first cap).run Tryz.prog w = .ok (.func fn first cap) w := fun _ _ _ _ => rfl
  obtain ⟨tgt, htgt⟩ : ∃ t, t = groupO s := ⟨_, rfl⟩
  rw [← htgt]
  unfold groupO at htgt
  have HT := Lib.hid htgt
  obtain ⟨w1, hw1⟩ : ∃ w1, w1 = ((w.alloc (.cells #[.int .i64 0, .slice none 0 0, .slice none 0 0, .slice none 0 0, .int .i64 0, .int .i64 0, .bool false, .string ⟨#[]⟩] 68)).alloc (.cells #[.int .i64 0] 33)).alloc (.cells #[.string (bs s)] 193) := ⟨_, rfl⟩
  have HU0 : Hid (Upd noBlk w w1) := by show Upd _ _ _; rw [hw1]; exact (((Upd.refl _ w).alloc _).alloc _).alloc _
  have HX : Hid (w1.heap[w.heap.size]? = some (.cells #[.int .i64 0, .slice none 0 0, .slice none 0 0, .slice none 0 0, .int .i64 0, .int .i64 0, .bool false, .string ⟨#[]⟩] 68 (0, 0))) := by show _ = _; rw [hw1]; exact (((Upd.refl noBlk _).alloc _).alloc _).heap (heap_alloc_new w _) id
  have HE : Hid (w1.heap[w.heap.size + 1]? = some (.cells #[.int .i64 0] 33 (0, 0))) := by
    show _ = _; rw [hw1]
    refine ((Upd.refl noBlk _).alloc _).heap ?_ id
    have := heap_alloc_new (w.alloc (.cells #[.int .i64 0, .slice none 0 0, .slice none 0 0, .slice none 0 0, .int .i64 0, .int .i64 0, .bool false, .string ⟨#[]⟩] 68)) (.cells #[.int .i64 0] 33)
    simp only [World.size_alloc] at this; exact this
  have HR : Hid (RdS w1 (w.heap.size + 1 + 1) s) := by
    show RdS _ _ _; rw [hw1]
    have := heap_alloc_new ((w.alloc (.cells #[.int .i64 0, .slice none 0 0, .slice none 0 0, .slice none 0 0, .int .i64 0, .int .i64 0, .bool false, .string ⟨#[]⟩] 68)).alloc (.cells #[.int .i64 0] 33)) (.cells #[.string (bs s)] 193)
    simp only [World.size_alloc] at this; exact this
  have HSZ : Hid (w1.heap.size = w.heap.size + 3) := by show _ = _; rw [hw1]; simp only [World.size_alloc]
  clear htgt
  go_enter_defers Tryz.func85, Tryz.ntmps85
  go_upto_region 3 with fail
  rw [← hw1]
  clear hw1
  obtain ⟨xb, hxb⟩ : ∃ xb, xb = w.heap.size := ⟨_, rfl⟩
  have HXB : Hid (w.heap.size ≤ xb) := by show _ ≤ _; omega
  have HXS : Hid (xb = w.heap.size) := hxb
  rw [← hxb] at HX HE HR HSZ
  rw [← hxb]
  clear hxb
  have HU := HU0
  have HC := Lib.hid (kKind_any (xb + 1 + 1) 2 s w1 HR.out)
  go_wp2_with fail
  refine HC.out.mono ?_
  intro e v0 hp
  have ht := HT.out
  rcases hm : kindM 2 s with _ | s0
  · rw [hm] at hp ht
    obtain ⟨rfl, hu⟩ := hp
    have HTN : Hid (tgt = none) := ht
    have HX2 := Lib.hid (hu.heap HX.out (by omega))
    have HE2 := Lib.hid (hu.heap HE.out (by omega))
    have HU2 := Lib.hid (HU.out.then hu (fun i hi e => by have e' : i = xb + 1 + 1 := e; have := HXB.out; omega))
    clear HT HC hm hu ht HX HE HU HR
    unfold panicW
    go_wp2_with fail
    refine door_bad HE2.out (fun W hW hu => ?_)
    refine ⟨_, results_cell_cell rfl _ rfl rfl (load_group (hu.heap HX2.out (by omega))) (load_err hW), ?_⟩
    rw [HTN.out]
    refine ⟨upd_newE HU2.out hu (by have := HXB.out; omega), (#[.int .i64 0, .slice none 0 0, .slice none 0 0, .slice none 0 0, .int .i64 0, .int .i64 0, .bool false, .string ⟨#[]⟩] : Array Value).toList, rfl, rfl, fun v hv => ?_⟩
    simp at hv
    rcases hv with rfl | rfl | rfl | rfl | rfl | rfl | rfl | rfl <;> rfl
  rw [hm] at hp ht
  obtain ⟨rfl, hr, hu⟩ := hp
  simp only at ht
  unfold grpF at ht
  have HT := Lib.hid ht
  have HX1 := Lib.hid (hu.heap HX.out (by omega))
  have HE1 := Lib.hid (hu.heap HE.out (by omega))
  have HU1 := Lib.hid (HU.out.then hu (fun i hi e => by have e' : i = xb + 1 + 1 := e; have := HXB.out; omega))
  have HR1 := Lib.hid hr
  have HZ1 : Hid (xb + 3 ≤ v0.heap.size) := by show _ ≤ _; have := hu.size; have := HSZ.out; omega
  clear hu hr ht hm HC HX HE HU HR HSZ HU0
  have HX := HX1
  have HE := HE1
  have HU := HU1
  have HR := HR1
  have HSZ := HZ1
  clear HX1 HE1 HU1 HR1 HZ1
  have HC := Lib.hid (kNum_any (xb + 1 + 1) s0 v0 HR.out)
  obtain ⟨_, ⟨f0, f1, f2, f3, f4, f5, f6, f7⟩⟩ := cellsF8 HX.out
  go_wp2_with fail
  refine HC.out.mono ?_
  intro e u0 hp
  have ht := HT.out
  rcases hm : readNum s0 with _ | ⟨lv, s1⟩
  · rw [hm] at hp ht
    obtain ⟨rfl, hu⟩ := hp
    clear f0 f1 f2 f3 f4 f5 f6 f7
    have HTN : Hid (tgt = none) := ht
    have HX2 := Lib.hid (hu.heap HX.out (by omega))
    have HE2 := Lib.hid (hu.heap HE.out (by omega))
    have HU2 := Lib.hid (HU.out.then hu (fun i hi e => by have e' : i = xb + 1 + 1 := e; have := HXB.out; omega))
    clear HT HC hm hu ht HX HE HU HR
    unfold panicW
    go_wp2_with fail
    refine door_bad HE2.out (fun W hW hu => ?_)
    refine ⟨_, results_cell_cell rfl _ rfl rfl (load_group (hu.heap HX2.out (by omega))) (load_err hW), ?_⟩
    rw [HTN.out]
    refine ⟨upd_newE HU2.out hu (by have := HXB.out; omega), (#[.int .i64 0, .slice none 0 0, .slice none 0 0, .slice none 0 0, .int .i64 0, .int .i64 0, .bool false, .string ⟨#[]⟩] : Array Value).toList, rfl, rfl, fun v hv => ?_⟩
    simp at hv
    rcases hv with rfl | rfl | rfl | rfl | rfl | rfl | rfl | rfl <;> rfl
  rw [hm] at hp ht
  obtain ⟨rfl, hr, hu⟩ := hp
  simp only at ht
  have HT := Lib.hid ht
  have HX1 := Lib.hid (hu.heap HX.out (by omega))
  have HE1 := Lib.hid (hu.heap HE.out (by omega))
  have HU1 := Lib.hid (HU.out.then hu (fun i hi e => by have e' : i = xb + 1 + 1 := e; have := HXB.out; omega))
  have HR1 := Lib.hid hr
  have HZ1 : Hid (xb + 3 ≤ u0.heap.size) := by show _ ≤ _; have := hu.size; have := HSZ.out; omega
  obtain ⟨z0, hz⟩ : ∃ z, z = ((lv : Nat) : Int) := ⟨_, rfl⟩
  have HN0 := Lib.hid hz
  rw [← hz]
  clear hz
  clear hu hr ht hm HC HX HE HU HR HSZ f0 f1 f2 f3 f4 f5 f6 f7
  obtain ⟨_, ⟨f0, f1, f2, f3, f4, f5, f6, f7⟩⟩ := cellsF8 HX1.out
  go_upto_region 5 with fail
  have hset := (Upd.refl (fun k => k = xb) u0).setCell (p := ⟨xb, 0, none⟩) (fun _ => rfl) (.int .i64 z0)
  have HX : Hid ((u0.setCell ⟨xb, 0, none⟩ (.int .i64 z0)).heap[xb]? = some (.cells #[.int .i64 z0, .slice none 0 0, .slice none 0 0, .slice none 0 0, .int .i64 0, .int .i64 0, .bool false, .string ⟨#[]⟩] 68 (0, 0))) := heap_setCell_eq (i := 0) (.int .i64 z0) HX1.out
  have HE := Lib.hid (hset.heap HE1.out (by omega))
  have HU := Lib.hid (upd_newE HU1.out hset HXB.out)
  have HR : Hid (RdS (u0.setCell ⟨xb, 0, none⟩ (.int .i64 z0)) (xb + 1 + 1) s1) := hset.heap HR1.out (by omega)
  have HSZ : Hid (xb + 3 ≤ (u0.setCell ⟨xb, 0, none⟩ (.int .i64 z0)).heap.size) := by show _ ≤ _; have := hset.size; have := HZ1.out; omega
  clear hset HX1 HE1 HU1 HR1 HZ1 f0 f1 f2 f3 f4 f5 f6 f7
  generalize u0.setCell ⟨xb, 0, none⟩ (.int .i64 z0) = v1 at *
  have HC := Lib.hid (listPart_any (xb + 1 + 1) s1 v1 HR.out)
  obtain ⟨_, ⟨f0, f1, f2, f3, f4, f5, f6, f7⟩⟩ := cellsF8 HX.out
  go_wp2_with fail
  refine HC.out.mono ?_
  intro e u1 hp
  have ht := HT.out
  unfold listQ at hp
  rcases hm : manyR partR s1 with _ | ⟨ins, s2⟩
  · rw [hm] at hp ht
    obtain ⟨rfl, hu⟩ := hp
    clear f0 f1 f2 f3 f4 f5 f6 f7
    have HTN : Hid (tgt = none) := ht
    have HX2 := Lib.hid (hu.heap HX.out (by omega))
    have HE2 := Lib.hid (hu.heap HE.out (by omega))
    have HU2 := Lib.hid (HU.out.then hu (fun i hi e => by have e' : i = xb + 1 + 1 := e; have := HXB.out; omega))
    clear HT HC hm hu ht HX HE HU HR
    unfold panicW
    go_wp2_with fail
    refine door_bad HE2.out (fun W hW hu => ?_)
    refine ⟨_, results_cell_cell rfl _ rfl rfl (load_group (hu.heap HX2.out (by omega))) (load_err hW), ?_⟩
    rw [HTN.out]
    refine ⟨upd_newE HU2.out hu (by have := HXB.out; omega), (#[.int .i64 z0, .slice none 0 0, .slice none 0 0, .slice none 0 0, .int .i64 0, .int .i64 0, .bool false, .string ⟨#[]⟩] : Array Value).toList, rfl, rfl, fun v hv => ?_⟩
    simp at hv
    rcases hv with rfl | rfl | rfl | rfl | rfl | rfl | rfl | rfl <;> rfl
  rw [hm] at hp ht
  obtain ⟨v, rfl, hown, hr, hu⟩ := hp
  obtain ⟨A1, cap1, hv, _⟩ := hown.form
  rw [List.length_map] at hv
  subst hv
  have HO1 := Lib.hid (hown.mono (base' := xb + 3) HSZ.out)
  clear hown
  simp only at ht
  have HT := Lib.hid ht
  have HX1 := Lib.hid (hu.heap HX.out (by omega))
  have HE1 := Lib.hid (hu.heap HE.out (by omega))
  have HU1 := Lib.hid (HU.out.then hu (fun i hi e => by have e' : i = xb + 1 + 1 := e; have := HXB.out; omega))
  have HR1 := Lib.hid hr
  have HZ1 : Hid (xb + 3 ≤ u1.heap.size) := by show _ ≤ _; have := hu.size; have := HSZ.out; omega
  clear hu hr ht hm HC HX HE HU HR HSZ f0 f1 f2 f3 f4 f5 f6 f7
  obtain ⟨_, ⟨f0, f1, f2, f3, f4, f5, f6, f7⟩⟩ := cellsF8 HX1.out
  go_upto_region 6 with fail
  have hset := (Upd.refl (fun k => k = xb) u1).setCell (p := ⟨xb, 1, none⟩) (fun _ => rfl) (.slice A1 ins.length cap1)
  have HX : Hid ((u1.setCell ⟨xb, 1, none⟩ (.slice A1 ins.length cap1)).heap[xb]? = some (.cells #[.int .i64 z0, .slice A1 ins.length cap1, .slice none 0 0, .slice none 0 0, .int .i64 0, .int .i64 0, .bool false, .string ⟨#[]⟩] 68 (0, 0))) := heap_setCell_eq (i := 1) (.slice A1 ins.length cap1) HX1.out
  have HE := Lib.hid (hset.heap HE1.out (by omega))
  have HU := Lib.hid (upd_newE HU1.out hset HXB.out)
  have HR : Hid (RdS (u1.setCell ⟨xb, 1, none⟩ (.slice A1 ins.length cap1)) (xb + 1 + 1) s2) := hset.heap HR1.out (by omega)
  have HSZ : Hid (xb + 3 ≤ (u1.setCell ⟨xb, 1, none⟩ (.slice A1 ins.length cap1)).heap.size) := by show _ ≤ _; have := hset.size; have := HZ1.out; omega
  have HO1 := Lib.hid (HO1.out.fresh hset (by omega))
  clear hset HX1 HE1 HU1 HR1 HZ1 f0 f1 f2 f3 f4 f5 f6 f7
  generalize u1.setCell ⟨xb, 1, none⟩ (.slice A1 ins.length cap1) = v2 at *
  have HC := Lib.hid (listHash_any (xb + 1 + 1) s2 v2 HR.out)
  obtain ⟨_, ⟨f0, f1, f2, f3, f4, f5, f6, f7⟩⟩ := cellsF8 HX.out
  go_wp2_with fail
  refine HC.out.mono ?_
  intro e u2 hp
  have ht := HT.out
  unfold listQ at hp
  rcases hm : manyR (takeR 32) s2 with _ | ⟨outs, s3⟩
  · rw [hm] at hp ht
    obtain ⟨rfl, hu⟩ := hp
    clear f0 f1 f2 f3 f4 f5 f6 f7
    have HTN : Hid (tgt = none) := ht
    have HX2 := Lib.hid (hu.heap HX.out (by omega))
    have HE2 := Lib.hid (hu.heap HE.out (by omega))
    have HU2 := Lib.hid (HU.out.then hu (fun i hi e => by have e' : i = xb + 1 + 1 := e; have := HXB.out; omega))
    clear HT HC hm hu ht HX HE HU HR
    unfold panicW
    go_wp2_with fail
    refine door_bad HE2.out (fun W hW hu => ?_)
    refine ⟨_, results_cell_cell rfl _ rfl rfl (load_group (hu.heap HX2.out (by omega))) (load_err hW), ?_⟩
    rw [HTN.out]
    refine ⟨upd_newE HU2.out hu (by have := HXB.out; omega), (#[.int .i64 z0, .slice A1 ins.length cap1, .slice none 0 0, .slice none 0 0, .int .i64 0, .int .i64 0, .bool false, .string ⟨#[]⟩] : Array Value).toList, rfl, rfl, fun v hv => ?_⟩
    simp at hv
    rcases hv with rfl | rfl | rfl | rfl | rfl | rfl | rfl | rfl <;> rfl
  rw [hm] at hp ht
  obtain ⟨v, rfl, hown, hr, hu⟩ := hp
  obtain ⟨A2, cap2, hv, _⟩ := hown.form
  rw [List.length_map] at hv
  subst hv
  have HO2 := Lib.hid (hown.mono (base' := xb + 3) HSZ.out)
  clear hown
  simp only at ht
  have HT := Lib.hid ht
  have HX1 := Lib.hid (hu.heap HX.out (by omega))
  have HE1 := Lib.hid (hu.heap HE.out (by omega))
  have HU1 := Lib.hid (HU.out.then hu (fun i hi e => by have e' : i = xb + 1 + 1 := e; have := HXB.out; omega))
  have HR1 := Lib.hid hr
  have HZ1 : Hid (xb + 3 ≤ u2.heap.size) := by show _ ≤ _; have := hu.size; have := HSZ.out; omega
  have HO1 := Lib.hid (HO1.out.fresh hu (by omega))
  clear hu hr ht hm HC HX HE HU HR HSZ f0 f1 f2 f3 f4 f5 f6 f7
  obtain ⟨_, ⟨f0, f1, f2, f3, f4, f5, f6, f7⟩⟩ := cellsF8 HX1.out
  go_upto_region 7 with fail
  have hset := (Upd.refl (fun k => k = xb) u2).setCell (p := ⟨xb, 2, none⟩) (fun _ => rfl) (.slice A2 outs.length cap2)
  have HX : Hid ((u2.setCell ⟨xb, 2, none⟩ (.slice A2 outs.length cap2)).heap[xb]? = some (.cells #[.int .i64 z0, .slice A1 ins.length cap1, .slice A2 outs.length cap2, .slice none 0 0, .int .i64 0, .int .i64 0, .bool false, .string ⟨#[]⟩] 68 (0, 0))) := heap_setCell_eq (i := 2) (.slice A2 outs.length cap2) HX1.out
  have HE := Lib.hid (hset.heap HE1.out (by omega))
  have HU := Lib.hid (upd_newE HU1.out hset HXB.out)
  have HR : Hid (RdS (u2.setCell ⟨xb, 2, none⟩ (.slice A2 outs.length cap2)) (xb + 1 + 1) s3) := hset.heap HR1.out (by omega)
  have HSZ : Hid (xb + 3 ≤ (u2.setCell ⟨xb, 2, none⟩ (.slice A2 outs.length cap2)).heap.size) := by show _ ≤ _; have := hset.size; have := HZ1.out; omega
  have HO1 := Lib.hid (HO1.out.fresh hset (by omega))
  have HO2 := Lib.hid (HO2.out.fresh hset (by omega))
  clear hset HX1 HE1 HU1 HR1 HZ1 f0 f1 f2 f3 f4 f5 f6 f7
  generalize u2.setCell ⟨xb, 2, none⟩ (.slice A2 outs.length cap2) = v3 at *
  have HC := Lib.hid (listMove_any (xb + 1 + 1) s3 v3 HR.out)
  obtain ⟨_, ⟨f0, f1, f2, f3, f4, f5, f6, f7⟩⟩ := cellsF8 HX.out
  go_wp2_with fail
  refine HC.out.mono ?_
  intro e u3 hp
  have ht := HT.out
  unfold listQ at hp
  rcases hm : manyR moveR s3 with _ | ⟨moves, s4⟩
  · rw [hm] at hp ht
    obtain ⟨rfl, hu⟩ := hp
    clear f0 f1 f2 f3 f4 f5 f6 f7
    have HTN : Hid (tgt = none) := ht
    have HX2 := Lib.hid (hu.heap HX.out (by omega))
    have HE2 := Lib.hid (hu.heap HE.out (by omega))
    have HU2 := Lib.hid (HU.out.then hu (fun i hi e => by have e' : i = xb + 1 + 1 := e; have := HXB.out; omega))
    clear HT HC hm hu ht HX HE HU HR
    unfold panicW
    go_wp2_with fail
    refine door_bad HE2.out (fun W hW hu => ?_)
    refine ⟨_, results_cell_cell rfl _ rfl rfl (load_group (hu.heap HX2.out (by omega))) (load_err hW), ?_⟩
    rw [HTN.out]
    refine ⟨upd_newE HU2.out hu (by have := HXB.out; omega), (#[.int .i64 z0, .slice A1 ins.length cap1, .slice A2 outs.length cap2, .slice none 0 0, .int .i64 0, .int .i64 0, .bool false, .string ⟨#[]⟩] : Array Value).toList, rfl, rfl, fun v hv => ?_⟩
    simp at hv
    rcases hv with rfl | rfl | rfl | rfl | rfl | rfl | rfl | rfl <;> rfl
  rw [hm] at hp ht
  obtain ⟨v, rfl, hown, hr, hu⟩ := hp
  obtain ⟨A3, cap3, hv, _⟩ := hown.form
  rw [List.length_map] at hv
  subst hv
  have HO3 := Lib.hid (hown.mono (base' := xb + 3) HSZ.out)
  clear hown
  simp only at ht
  have HT := Lib.hid ht
  have HX1 := Lib.hid (hu.heap HX.out (by omega))
  have HE1 := Lib.hid (hu.heap HE.out (by omega))
  have HU1 := Lib.hid (HU.out.then hu (fun i hi e => by have e' : i = xb + 1 + 1 := e; have := HXB.out; omega))
  have HR1 := Lib.hid hr
  have HZ1 : Hid (xb + 3 ≤ u3.heap.size) := by show _ ≤ _; have := hu.size; have := HSZ.out; omega
  have HO1 := Lib.hid (HO1.out.fresh hu (by omega))
  have HO2 := Lib.hid (HO2.out.fresh hu (by omega))
  clear hu hr ht hm HC HX HE HU HR HSZ f0 f1 f2 f3 f4 f5 f6 f7
  obtain ⟨_, ⟨f0, f1, f2, f3, f4, f5, f6, f7⟩⟩ := cellsF8 HX1.out
  go_upto_region 8 with fail
  have hset := (Upd.refl (fun k => k = xb) u3).setCell (p := ⟨xb, 3, none⟩) (fun _ => rfl) (.slice A3 moves.length cap3)
  have HX : Hid ((u3.setCell ⟨xb, 3, none⟩ (.slice A3 moves.length cap3)).heap[xb]? = some (.cells #[.int .i64 z0, .slice A1 ins.length cap1, .slice A2 outs.length cap2, .slice A3 moves.length cap3, .int .i64 0, .int .i64 0, .bool false, .string ⟨#[]⟩] 68 (0, 0))) := heap_setCell_eq (i := 3) (.slice A3 moves.length cap3) HX1.out
  have HE := Lib.hid (hset.heap HE1.out (by omega))
  have HU := Lib.hid (upd_newE HU1.out hset HXB.out)
  have HR : Hid (RdS (u3.setCell ⟨xb, 3, none⟩ (.slice A3 moves.length cap3)) (xb + 1 + 1) s4) := hset.heap HR1.out (by omega)
  have HSZ : Hid (xb + 3 ≤ (u3.setCell ⟨xb, 3, none⟩ (.slice A3 moves.length cap3)).heap.size) := by show _ ≤ _; have := hset.size; have := HZ1.out; omega
  have HO1 := Lib.hid (HO1.out.fresh hset (by omega))
  have HO2 := Lib.hid (HO2.out.fresh hset (by omega))
  have HO3 := Lib.hid (HO3.out.fresh hset (by omega))
  clear hset HX1 HE1 HU1 HR1 HZ1 f0 f1 f2 f3 f4 f5 f6 f7
  generalize u3.setCell ⟨xb, 3, none⟩ (.slice A3 moves.length cap3) = v4 at *
  have HC := Lib.hid (kNum_any (xb + 1 + 1) s4 v4 HR.out)
  obtain ⟨_, ⟨f0, f1, f2, f3, f4, f5, f6, f7⟩⟩ := cellsF8 HX.out
  go_wp2_with fail
  refine HC.out.mono ?_
  intro e u4 hp
  have ht := HT.out
  rcases hm : readNum s4 with _ | ⟨er, s5⟩
  · rw [hm] at hp ht
    obtain ⟨rfl, hu⟩ := hp
    clear f0 f1 f2 f3 f4 f5 f6 f7
    have HTN : Hid (tgt = none) := ht
    have HX2 := Lib.hid (hu.heap HX.out (by omega))
    have HE2 := Lib.hid (hu.heap HE.out (by omega))
    have HU2 := Lib.hid (HU.out.then hu (fun i hi e => by have e' : i = xb + 1 + 1 := e; have := HXB.out; omega))
    clear HT HC hm hu ht HX HE HU HR
    unfold panicW
    go_wp2_with fail
    refine door_bad HE2.out (fun W hW hu => ?_)
    refine ⟨_, results_cell_cell rfl _ rfl rfl (load_group (hu.heap HX2.out (by omega))) (load_err hW), ?_⟩
    rw [HTN.out]
    refine ⟨upd_newE HU2.out hu (by have := HXB.out; omega), (#[.int .i64 z0, .slice A1 ins.length cap1, .slice A2 outs.length cap2, .slice A3 moves.length cap3, .int .i64 0, .int .i64 0, .bool false, .string ⟨#[]⟩] : Array Value).toList, rfl, rfl, fun v hv => ?_⟩
    simp at hv
    rcases hv with rfl | rfl | rfl | rfl | rfl | rfl | rfl | rfl <;> rfl
  rw [hm] at hp ht
  obtain ⟨rfl, hr, hu⟩ := hp
  simp only at ht
  have HT := Lib.hid ht
  have HX1 := Lib.hid (hu.heap HX.out (by omega))
  have HE1 := Lib.hid (hu.heap HE.out (by omega))
  have HU1 := Lib.hid (HU.out.then hu (fun i hi e => by have e' : i = xb + 1 + 1 := e; have := HXB.out; omega))
  have HR1 := Lib.hid hr
  have HZ1 : Hid (xb + 3 ≤ u4.heap.size) := by show _ ≤ _; have := hu.size; have := HSZ.out; omega
  have HO1 := Lib.hid (HO1.out.fresh hu (by omega))
  have HO2 := Lib.hid (HO2.out.fresh hu (by omega))
  have HO3 := Lib.hid (HO3.out.fresh hu (by omega))
  obtain ⟨z4, hz⟩ : ∃ z, z = ((er : Nat) : Int) := ⟨_, rfl⟩
  have HN4 := Lib.hid hz
  rw [← hz]
  clear hz
  clear hu hr ht hm HC HX HE HU HR HSZ f0 f1 f2 f3 f4 f5 f6 f7
  obtain ⟨_, ⟨f0, f1, f2, f3, f4, f5, f6, f7⟩⟩ := cellsF8 HX1.out
  go_upto_region 9 with fail
  have hset := (Upd.refl (fun k => k = xb) u4).setCell (p := ⟨xb, 4, none⟩) (fun _ => rfl) (.int .i64 z4)
  have HX : Hid ((u4.setCell ⟨xb, 4, none⟩ (.int .i64 z4)).heap[xb]? = some (.cells #[.int .i64 z0, .slice A1 ins.length cap1, .slice A2 outs.length cap2, .slice A3 moves.length cap3, .int .i64 z4, .int .i64 0, .bool false, .string ⟨#[]⟩] 68 (0, 0))) := heap_setCell_eq (i := 4) (.int .i64 z4) HX1.out
  have HE := Lib.hid (hset.heap HE1.out (by omega))
  have HU := Lib.hid (upd_newE HU1.out hset HXB.out)
  have HR : Hid (RdS (u4.setCell ⟨xb, 4, none⟩ (.int .i64 z4)) (xb + 1 + 1) s5) := hset.heap HR1.out (by omega)
  have HSZ : Hid (xb + 3 ≤ (u4.setCell ⟨xb, 4, none⟩ (.int .i64 z4)).heap.size) := by show _ ≤ _; have := hset.size; have := HZ1.out; omega
  have HO1 := Lib.hid (HO1.out.fresh hset (by omega))
  have HO2 := Lib.hid (HO2.out.fresh hset (by omega))
  have HO3 := Lib.hid (HO3.out.fresh hset (by omega))
  clear hset HX1 HE1 HU1 HR1 HZ1 f0 f1 f2 f3 f4 f5 f6 f7
  generalize u4.setCell ⟨xb, 4, none⟩ (.int .i64 z4) = v5 at *
  have HC := Lib.hid (kNum_any (xb + 1 + 1) s5 v5 HR.out)
  obtain ⟨_, ⟨f0, f1, f2, f3, f4, f5, f6, f7⟩⟩ := cellsF8 HX.out
  go_wp2_with fail
  refine HC.out.mono ?_
  intro e u5 hp
  have ht := HT.out
  rcases hm : readNum s5 with _ | ⟨tot, s6⟩
  · rw [hm] at hp ht
    obtain ⟨rfl, hu⟩ := hp
    clear f0 f1 f2 f3 f4 f5 f6 f7
    have HTN : Hid (tgt = none) := ht
    have HX2 := Lib.hid (hu.heap HX.out (by omega))
    have HE2 := Lib.hid (hu.heap HE.out (by omega))
    have HU2 := Lib.hid (HU.out.then hu (fun i hi e => by have e' : i = xb + 1 + 1 := e; have := HXB.out; omega))
    clear HT HC hm hu ht HX HE HU HR
    unfold panicW
    go_wp2_with fail
    refine door_bad HE2.out (fun W hW hu => ?_)
    refine ⟨_, results_cell_cell rfl _ rfl rfl (load_group (hu.heap HX2.out (by omega))) (load_err hW), ?_⟩
    rw [HTN.out]
    refine ⟨upd_newE HU2.out hu (by have := HXB.out; omega), (#[.int .i64 z0, .slice A1 ins.length cap1, .slice A2 outs.length cap2, .slice A3 moves.length cap3, .int .i64 z4, .int .i64 0, .bool false, .string ⟨#[]⟩] : Array Value).toList, rfl, rfl, fun v hv => ?_⟩
    simp at hv
    rcases hv with rfl | rfl | rfl | rfl | rfl | rfl | rfl | rfl <;> rfl
  rw [hm] at hp ht
  obtain ⟨rfl, hr, hu⟩ := hp
  simp only at ht
  have HT := Lib.hid ht
  have HX1 := Lib.hid (hu.heap HX.out (by omega))
  have HE1 := Lib.hid (hu.heap HE.out (by omega))
  have HU1 := Lib.hid (HU.out.then hu (fun i hi e => by have e' : i = xb + 1 + 1 := e; have := HXB.out; omega))
  have HR1 := Lib.hid hr
  have HZ1 : Hid (xb + 3 ≤ u5.heap.size) := by show _ ≤ _; have := hu.size; have := HSZ.out; omega
  have HO1 := Lib.hid (HO1.out.fresh hu (by omega))
  have HO2 := Lib.hid (HO2.out.fresh hu (by omega))
  have HO3 := Lib.hid (HO3.out.fresh hu (by omega))
  obtain ⟨z5, hz⟩ : ∃ z, z = ((tot : Nat) : Int) := ⟨_, rfl⟩
  have HN5 := Lib.hid hz
  rw [← hz]
  clear hz
  clear hu hr ht hm HC HX HE HU HR HSZ f0 f1 f2 f3 f4 f5 f6 f7
  obtain ⟨_, ⟨f0, f1, f2, f3, f4, f5, f6, f7⟩⟩ := cellsF8 HX1.out
  go_upto_region 10 with fail
  have hset := (Upd.refl (fun k => k = xb) u5).setCell (p := ⟨xb, 5, none⟩) (fun _ => rfl) (.int .i64 z5)
  have HX : Hid ((u5.setCell ⟨xb, 5, none⟩ (.int .i64 z5)).heap[xb]? = some (.cells #[.int .i64 z0, .slice A1 ins.length cap1, .slice A2 outs.length cap2, .slice A3 moves.length cap3, .int .i64 z4, .int .i64 z5, .bool false, .string ⟨#[]⟩] 68 (0, 0))) := heap_setCell_eq (i := 5) (.int .i64 z5) HX1.out
  have HE := Lib.hid (hset.heap HE1.out (by omega))
  have HU := Lib.hid (upd_newE HU1.out hset HXB.out)
  have HR : Hid (RdS (u5.setCell ⟨xb, 5, none⟩ (.int .i64 z5)) (xb + 1 + 1) s6) := hset.heap HR1.out (by omega)
  have HSZ : Hid (xb + 3 ≤ (u5.setCell ⟨xb, 5, none⟩ (.int .i64 z5)).heap.size) := by show _ ≤ _; have := hset.size; have := HZ1.out; omega
  have HO1 := Lib.hid (HO1.out.fresh hset (by omega))
  have HO2 := Lib.hid (HO2.out.fresh hset (by omega))
  have HO3 := Lib.hid (HO3.out.fresh hset (by omega))
  clear hset HX1 HE1 HU1 HR1 HZ1 f0 f1 f2 f3 f4 f5 f6 f7
  generalize u5.setCell ⟨xb, 5, none⟩ (.int .i64 z5) = v6 at *
  have HC := Lib.hid (kNum_any (xb + 1 + 1) s6 v6 HR.out)
  go_wp2_with fail
  refine HC.out.mono ?_
  intro e v7 hp
  have ht := HT.out
  rcases hm : readNum s6 with _ | ⟨size, s7⟩
  · rw [hm] at hp ht
    obtain ⟨rfl, hu⟩ := hp
    have HTN : Hid (tgt = none) := ht
    have HX2 := Lib.hid (hu.heap HX.out (by omega))
    have HE2 := Lib.hid (hu.heap HE.out (by omega))
    have HU2 := Lib.hid (HU.out.then hu (fun i hi e => by have e' : i = xb + 1 + 1 := e; have := HXB.out; omega))
    clear HT HC hm hu ht HX HE HU HR
    unfold panicW
    go_wp2_with fail
    refine door_bad HE2.out (fun W hW hu => ?_)
    refine ⟨_, results_cell_cell rfl _ rfl rfl (load_group (hu.heap HX2.out (by omega))) (load_err hW), ?_⟩
    rw [HTN.out]
    refine ⟨upd_newE HU2.out hu (by have := HXB.out; omega), (#[.int .i64 z0, .slice A1 ins.length cap1, .slice A2 outs.length cap2, .slice A3 moves.length cap3, .int .i64 z4, .int .i64 z5, .bool false, .string ⟨#[]⟩] : Array Value).toList, rfl, rfl, fun v hv => ?_⟩
    simp at hv
    rcases hv with rfl | rfl | rfl | rfl | rfl | rfl | rfl | rfl <;> rfl
  rw [hm] at hp ht
  obtain ⟨rfl, hr, hu⟩ := hp
  simp only at ht
  have HT := Lib.hid ht
  have HX1 := Lib.hid (hu.heap HX.out (by omega))
  have HE1 := Lib.hid (hu.heap HE.out (by omega))
  have HU1 := Lib.hid (HU.out.then hu (fun i hi e => by have e' : i = xb + 1 + 1 := e; have := HXB.out; omega))
  have HR1 := Lib.hid hr
  have HSB : Hid (size < 9223372036854775808) := readNum_bound hm
  have HO1 := Lib.hid (HO1.out.fresh hu (by omega))
  have HO2 := Lib.hid (HO2.out.fresh hu (by omega))
  have HO3 := Lib.hid (HO3.out.fresh hu (by omega))
  clear hu hr ht hm HC HX HE HU HR HSZ
  have HX := HX1
  have HE := HE1
  have HU := HU1
  have HR := HR1
  clear HX1 HE1 HU1 HR1
  obtain ⟨qz, hqz⟩ : ∃ q, q = size / 2 := ⟨_, rfl⟩
  have hneg := i64_and1 size
  have hwq : wrap64 (((size : Nat) : Int) / 2) = ((qz : Nat) : Int) := by unfold wrap64; have := HSB.out; omega
  have ht := HT.out
  (try simp only at ht)
  rw [← hqz] at ht
  have HT := Lib.hid ht
  have HQZ : Hid (qz = size / 2) := hqz
  clear hqz ht
  have HC := Lib.hid (kTake_any (xb + 1 + 1) qz s7 v7 HR.out)
  go_wp2_with fail
  refine HC.out.mono ?_
  intro e v8 hp
  have ht := HT.out
  rcases hm : takeR qz s7 with _ | ⟨m, s8⟩
  · rw [hm] at hp ht
    obtain ⟨rfl, hv8⟩ := hp
    subst hv8
    have hu : Upd (fun k => k = xb + 1 + 1) v7 v7 := Upd.refl _ _
    have HTN : Hid (tgt = none) := ht
    have HX2 := Lib.hid (hu.heap HX.out (by omega))
    have HE2 := Lib.hid (hu.heap HE.out (by omega))
    have HU2 := Lib.hid (HU.out.then hu (fun i hi e => by have e' : i = xb + 1 + 1 := e; have := HXB.out; omega))
    clear HT HC hm hu ht HX HE HU HR
    unfold panicW
    go_wp2_with fail
    refine door_bad HE2.out (fun W hW hu => ?_)
    refine ⟨_, results_cell_cell rfl _ rfl rfl (load_group (hu.heap HX2.out (by omega))) (load_err hW), ?_⟩
    rw [HTN.out]
    refine ⟨upd_newE HU2.out hu (by have := HXB.out; omega), (#[.int .i64 z0, .slice A1 ins.length cap1, .slice A2 outs.length cap2, .slice A3 moves.length cap3, .int .i64 z4, .int .i64 z5, .bool false, .string ⟨#[]⟩] : Array Value).toList, rfl, rfl, fun v hv => ?_⟩
    simp at hv
    rcases hv with rfl | rfl | rfl | rfl | rfl | rfl | rfl | rfl <;> rfl
  rw [hm] at hp ht
  obtain ⟨rfl, hr, hu⟩ := hp
  have HTS : Hid (tgt = some (withMag ⟨lv, ins, outs, moves, er, tot, decide (size % 2 = 1), s7⟩ m)) := ht
  have HX1 := Lib.hid (hu.heap HX.out (by omega))
  have HE1 := Lib.hid (hu.heap HE.out (by omega))
  have HU1 := Lib.hid (HU.out.then hu (fun i hi e => by have e' : i = xb + 1 + 1 := e; have := HXB.out; omega))
  have HO1 := Lib.hid (HO1.out.fresh hu (by omega))
  have HO2 := Lib.hid (HO2.out.fresh hu (by omega))
  have HO3 := Lib.hid (HO3.out.fresh hu (by omega))
  clear hu hr ht hm HC HX HE HU HR HT
  obtain ⟨ng, hng⟩ : ∃ x : Bool, x = (((size : Nat) : Int) % 2 == 1) := ⟨_, rfl⟩
  have HNG : Hid (ng = decide (size % 2 = 1)) := by
    show _ = _
    rw [hng, Bool.eq_iff_iff, beq_iff_eq, decide_eq_true_iff]
    omega
  rw [← hng]
  clear hng
  obtain ⟨_, ⟨f0, f1, f2, f3, f4, f5, f6, f7⟩⟩ := cellsF8 HX1.out
  go_upto_region 12 with fail
  have hset := ((Upd.refl (fun k => k = xb) v8).setCell (p := ⟨xb, 6, none⟩) (fun _ => rfl) (.bool ng)).setCell (p := ⟨xb, 7, none⟩) (fun _ => rfl) (.string (bs m))
  have HX : Hid (((v8.setCell ⟨xb, 6, none⟩ (.bool ng)).setCell ⟨xb, 7, none⟩ (.string (bs m))).heap[xb]? = some (.cells #[.int .i64 z0, .slice A1 ins.length cap1, .slice A2 outs.length cap2, .slice A3 moves.length cap3, .int .i64 z4, .int .i64 z5, .bool ng, .string (bs m)] 68 (0, 0))) := heap_setCell_eq (i := 7) (.string (bs m)) (heap_setCell_eq (i := 6) (.bool ng) HX1.out)
  have HE := Lib.hid (hset.heap HE1.out (by omega))
  have HU := Lib.hid (upd_newE HU1.out hset HXB.out)
  have HO1 := Lib.hid (HO1.out.fresh hset (by omega))
  have HO2 := Lib.hid (HO2.out.fresh hset (by omega))
  have HO3 := Lib.hid (HO3.out.fresh hset (by omega))
  clear hset HX1 HE1 HU1 f0 f1 f2 f3 f4 f5 f6 f7
  generalize (v8.setCell ⟨xb, 6, none⟩ (.bool ng)).setCell ⟨xb, 7, none⟩ (.string (bs m)) = y at *
  obtain ⟨⟨g0, g1, g2, g3, g4, g5, g6, g7⟩, ⟨f0, f1, f2, f3, f4, f5, f6, f7⟩⟩ := cellsF8 HX.out
  obtain ⟨hsx, hsu⟩ := same8 HX.out
  have HSX := Lib.hid hsx
  have HSU := Lib.hid hsu
  have HE5 := Lib.hid (hsu.heap HE.out id)
  obtain ⟨he0, hfe⟩ := cellF1 HE5.out
  clear hsx hsu
  go_wp2_with fail
  have HUS2 := upd_same HE5.out
  refine door_good ?_
  refine ⟨_, results_cell_cell rfl _ rfl rfl (load_group (HUS2.heap HSX.out id)) (load_err (HUS2.heap HE5.out id)), ?_⟩
  rw [HTS.out]
  have hxs := HXS.out
  refine ⟨(HU.out.trans HSU.out).trans HUS2, _, _, _, ?_, ⟨((HO1.out.upd HSU.out).upd HUS2).mono (by omega), ((HO2.out.upd HSU.out).upd HUS2).mono (by omega), ((HO3.out.upd HSU.out).upd HUS2).mono (by omega)⟩⟩
  rw [HN0.out, HN4.out, HN5.out, HNG.out]
  rfl
end Go.Proofs.YtcikldoaidmnhaaGreatDoor
