/- Parts: Walks of the reference's makers: a cube. No condition. Walks of the reference's makers: hills. No condition. -/
import Derived.Test.YtcikldoaidmnhaaGreatDoorQClus18
import Derived.Test.YtcikldoaidmnhaaGreatDoorQClus24
namespace Go.Proofs.YtcikldoaidmnhaaGreatDoor
open Go Go.RowKit Pk
set_option maxRecDepth 100000
theorem Kd.Own.ats {P : Program} {α : Type} {K : Kd P α} {base : Nat} {w : World} {g n c : Nat} {l : List α} (h : K.Own base w (.slice (some ⟨g, 0, none⟩) n c) l) (h0 : 0 < l.length) : ∀ j (hj : j < l.length), K.At w g (0 + j * K.k) l[j] := by
 obtain ⟨A, cap, e, _, f⟩ := h.rd
 obtain ⟨b, off, e2, f2⟩ := f h0
 subst e2
 cases e
 exact f2
theorem cellsF24 {w : World} {b : Nat} {x0 x1 x2 x3 x4 x5 x6 x7 x8 x9 x10 x11 x12 x13 x14 x15 x16 x17 x18 x19 x20 x21 x22 x23 : Value} {t : TypeId} (h : w.heap[b]? = some (.cells #[x0, x1, x2, x3, x4, x5, x6, x7, x8, x9, x10, x11, x12, x13, x14, x15, x16, x17, x18, x19, x20, x21, x22, x23] t (0, 0))) : (w.cell? ⟨b, 0, none⟩ = some x0 ∧ w.cell? ⟨b, 1, none⟩ = some x1 ∧ w.cell? ⟨b, 2, none⟩ = some x2 ∧ w.cell? ⟨b, 3, none⟩ = some x3 ∧ w.cell? ⟨b, 4, none⟩ = some x4 ∧ w.cell? ⟨b, 5, none⟩ = some x5 ∧ w.cell? ⟨b, 6, none⟩ = some x6 ∧ w.cell? ⟨b, 7, none⟩ = some x7 ∧ w.cell? ⟨b, 8, none⟩ = some x8 ∧ w.cell? ⟨b, 9, none⟩ = some x9 ∧ w.cell? ⟨b, 10, none⟩ = some x10 ∧ w.cell? ⟨b, 11, none⟩ = some x11 ∧ w.cell? ⟨b, 12, none⟩ = some x12 ∧ w.cell? ⟨b, 13, none⟩ = some x13 ∧ w.cell? ⟨b, 14, none⟩ = some x14 ∧ w.cell? ⟨b, 15, none⟩ = some x15 ∧ w.cell? ⟨b, 16, none⟩ = some x16 ∧ w.cell? ⟨b, 17, none⟩ = some x17 ∧ w.cell? ⟨b, 18, none⟩ = some x18 ∧ w.cell? ⟨b, 19, none⟩ = some x19 ∧ w.cell? ⟨b, 20, none⟩ = some x20 ∧ w.cell? ⟨b, 21, none⟩ = some x21 ∧ w.cell? ⟨b, 22, none⟩ = some x22 ∧ w.cell? ⟨b, 23, none⟩ = some x23) ∧ (∀ j, w.frozen? ⟨b, j, none⟩ = false) := by
 refine ⟨?_, fun j => by simp [World.frozen?, h]⟩
 simp [World.cell?, h]
set_option maxHeartbeats 4000000 in
theorem cube_any (p : Pt) (s : Int) (w : World) (hp0 : -100000000 ≤ p.1 ∧ p.1 ≤ 100000000) (hp1 : -100000000 ≤ p.2.1 ∧ p.2.1 ≤ 100000000) (hp2 : -100000000 ≤ p.2.2 ∧ p.2.2 ≤ 100000000) (hs : 0 ≤ s ∧ s ≤ 100000000) :
  Calls Tryz.prog 76 #[ptV p, .int .i64 s] w fun en w' => ∃ v, en = .returned v ∧ kTri.Own w.heap.size w' v (cubeT p s) ∧ Upd noBlk w w' := by
 obtain ⟨p0, p1, p2⟩ := p
 simp only at hp0 hp1 hp2
 obtain ⟨hp0a, hp0b⟩ := hp0
 obtain ⟨hp1a, hp1b⟩ := hp1
 obtain ⟨hp2a, hp2b⟩ := hp2
 obtain ⟨hsa, hsb⟩ := hs
 have hct : cubeT (p0, p1, p2) s = quadT (p0, p1, p2) (p0, p1 + s, p2) (p0 + s, p1 + s, p2) (p0 + s, p1, p2) ++ quadT (p0, p1, p2 + s) (p0 + s, p1, p2 + s) (p0 + s, p1 + s, p2 + s) (p0, p1 + s, p2 + s) ++ quadT (p0, p1, p2) (p0 + s, p1, p2) (p0 + s, p1, p2 + s) (p0, p1, p2 + s) ++ quadT (p0, p1 + s, p2) (p0, p1 + s, p2 + s) (p0 + s, p1 + s, p2 + s) (p0 + s, p1 + s, p2) ++ quadT (p0, p1, p2) (p0, p1, p2 + s) (p0, p1 + s, p2 + s) (p0, p1 + s, p2) ++ quadT (p0 + s, p1, p2) (p0 + s, p1 + s, p2) (p0 + s, p1 + s, p2 + s) (p0 + s, p1, p2 + s) := by simp [cubeT, cubeP]
 rw [hct]
 clear hct
 obtain ⟨Q0, hQ0⟩ : ∃ Q, Q = quadT (p0, p1, p2) (p0, p1 + s, p2) (p0 + s, p1 + s, p2) (p0 + s, p1, p2) := ⟨_, rfl⟩
 have HL0 : Hid (Q0.length = 2) := by show _ = _; rw [hQ0]; rfl
 have HQ0 := fun W => Lib.hid (quad_any (p0, p1, p2) (p0, p1 + s, p2) (p0 + s, p1 + s, p2) (p0 + s, p1, p2) W)
 rw [← hQ0] at HQ0 ⊢
 clear hQ0
 obtain ⟨Q1, hQ1⟩ : ∃ Q, Q = quadT (p0, p1, p2 + s) (p0 + s, p1, p2 + s) (p0 + s, p1 + s, p2 + s) (p0, p1 + s, p2 + s) := ⟨_, rfl⟩
 have HL1 : Hid (Q1.length = 2) := by show _ = _; rw [hQ1]; rfl
 have HQ1 := fun W => Lib.hid (quad_any (p0, p1, p2 + s) (p0 + s, p1, p2 + s) (p0 + s, p1 + s, p2 + s) (p0, p1 + s, p2 + s) W)
 rw [← hQ1] at HQ1 ⊢
 clear hQ1
 obtain ⟨Q2, hQ2⟩ : ∃ Q, Q = quadT (p0, p1, p2) (p0 + s, p1, p2) (p0 + s, p1, p2 + s) (p0, p1, p2 + s) := ⟨_, rfl⟩
 have HL2 : Hid (Q2.length = 2) := by show _ = _; rw [hQ2]; rfl
 have HQ2 := fun W => Lib.hid (quad_any (p0, p1, p2) (p0 + s, p1, p2) (p0 + s, p1, p2 + s) (p0, p1, p2 + s) W)
 rw [← hQ2] at HQ2 ⊢
 clear hQ2
 obtain ⟨Q3, hQ3⟩ : ∃ Q, Q = quadT (p0, p1 + s, p2) (p0, p1 + s, p2 + s) (p0 + s, p1 + s, p2 + s) (p0 + s, p1 + s, p2) := ⟨_, rfl⟩
 have HL3 : Hid (Q3.length = 2) := by show _ = _; rw [hQ3]; rfl
 have HQ3 := fun W => Lib.hid (quad_any (p0, p1 + s, p2) (p0, p1 + s, p2 + s) (p0 + s, p1 + s, p2 + s) (p0 + s, p1 + s, p2) W)
 rw [← hQ3] at HQ3 ⊢
 clear hQ3
 obtain ⟨Q4, hQ4⟩ : ∃ Q, Q = quadT (p0, p1, p2) (p0, p1, p2 + s) (p0, p1 + s, p2 + s) (p0, p1 + s, p2) := ⟨_, rfl⟩
 have HL4 : Hid (Q4.length = 2) := by show _ = _; rw [hQ4]; rfl
 have HQ4 := fun W => Lib.hid (quad_any (p0, p1, p2) (p0, p1, p2 + s) (p0, p1 + s, p2 + s) (p0, p1 + s, p2) W)
 rw [← hQ4] at HQ4 ⊢
 clear hQ4
 obtain ⟨Q5, hQ5⟩ : ∃ Q, Q = quadT (p0 + s, p1, p2) (p0 + s, p1 + s, p2) (p0 + s, p1 + s, p2 + s) (p0 + s, p1, p2 + s) := ⟨_, rfl⟩
 have HL5 : Hid (Q5.length = 2) := by show _ = _; rw [hQ5]; rfl
 have HQ5 := fun W => Lib.hid (quad_any (p0 + s, p1, p2) (p0 + s, p1 + s, p2) (p0 + s, p1 + s, p2 + s) (p0 + s, p1, p2 + s) W)
 rw [← hQ5] at HQ5 ⊢
 clear hQ5
 unfold ptV at *
 simp only at *
 obtain ⟨y0, hy0⟩ : ∃ y0, y0 = (w.alloc (.cells #[.int .i64 p0, .int .i64 p1, .int .i64 p2] 43)).alloc (.cells #[.int .i64 0, .int .i64 0, .int .i64 0, .int .i64 0, .int .i64 0, .int .i64 0, .int .i64 0, .int .i64 0, .int .i64 0, .int .i64 0, .int .i64 0, .int .i64 0, .int .i64 0, .int .i64 0, .int .i64 0, .int .i64 0, .int .i64 0, .int .i64 0, .int .i64 0, .int .i64 0, .int .i64 0, .int .i64 0, .int .i64 0, .int .i64 0] 197) := ⟨_, rfl⟩
 have HU : Hid (Upd noBlk w y0) := by show Upd _ _ _; rw [hy0]; exact ((Upd.refl _ w).alloc _).alloc _
 have HA : Hid (y0.heap[w.heap.size]? = some (.cells #[.int .i64 p0, .int .i64 p1, .int .i64 p2] 43 (0, 0))) := by show _ = _; rw [hy0]; exact ((Upd.refl noBlk _).alloc _).heap (heap_alloc_new w _) id
 have HB : Hid (y0.heap[w.heap.size + 1]? = some (.cells #[.int .i64 0, .int .i64 0, .int .i64 0, .int .i64 0, .int .i64 0, .int .i64 0, .int .i64 0, .int .i64 0, .int .i64 0, .int .i64 0, .int .i64 0, .int .i64 0, .int .i64 0, .int .i64 0, .int .i64 0, .int .i64 0, .int .i64 0, .int .i64 0, .int .i64 0, .int .i64 0, .int .i64 0, .int .i64 0, .int .i64 0, .int .i64 0] 197 (0, 0))) := by
  show _ = _; rw [hy0, ← World.size_alloc w (.cells #[.int .i64 p0, .int .i64 p1, .int .i64 p2] 43)]; exact heap_alloc_new _ _
 go_enter Tryz.func76, Tryz.ntmps76
 go_upto_region 2 with fail
 rw [← hy0]
 clear hy0
 obtain ⟨N, hN⟩ : ∃ N, N = w.heap.size := ⟨_, rfl⟩
 have HWN : Hid (w.heap.size ≤ N) := by show _ ≤ _; omega
 rw [← hN] at HA HB ⊢
 clear hN
 obtain ⟨M, hM⟩ : ∃ M, M = N + 1 := ⟨_, rfl⟩
 have HNM : Hid (¬ N = M ∧ w.heap.size ≤ M) := by show _ ∧ _; have := HWN.out; omega
 rw [← hM] at HB ⊢
 clear hM
 go_wp2_with fail
 refine wp_loop_rounds 9 ?_
 rw [rounds_succ]
 obtain ⟨a0, a1, a2⟩ := cells3 HA.out
 obtain ⟨⟨g0, g1, g2, g3, g4, g5, g6, g7, g8, g9, g10, g11, g12, g13, g14, g15, g16, g17, g18, g19, g20, g21, g22, g23⟩, hfz⟩ := cellsF24 HB.out
 have f0 := hfz 0
 have f1 := hfz 1
 have f2 := hfz 2
 clear hfz
 go_upto_region 4 with fail
 have s0 := heap_setCell_eq (i := 0) (.int .i64 p0) HB.out
 have s1 := heap_setCell_eq (i := 1) (.int .i64 p1) s0
 have s2 := heap_setCell_eq (i := 2) (.int .i64 p2) s1
 have HBn : Hid ((((y0.setCell ⟨M, 0, none⟩ (.int .i64 p0)).setCell ⟨M, 1, none⟩ (.int .i64 p1)).setCell ⟨M, 2, none⟩ (.int .i64 p2)).heap[M]? = some (.cells #[.int .i64 p0, .int .i64 p1, .int .i64 p2, .int .i64 0, .int .i64 0, .int .i64 0, .int .i64 0, .int .i64 0, .int .i64 0, .int .i64 0, .int .i64 0, .int .i64 0, .int .i64 0, .int .i64 0, .int .i64 0, .int .i64 0, .int .i64 0, .int .i64 0, .int .i64 0, .int .i64 0, .int .i64 0, .int .i64 0, .int .i64 0, .int .i64 0] 197 (0, 0))) := s2
 have hset := (((Upd.refl (fun i => i = M) y0).setCell (p := ⟨M, 0, none⟩) (fun _ => rfl) (.int .i64 p0)).setCell (p := ⟨M, 1, none⟩) (fun _ => rfl) (.int .i64 p1)).setCell (p := ⟨M, 2, none⟩) (fun _ => rfl) (.int .i64 p2)
 have HAn := Lib.hid (hset.heap HA.out HNM.out.1)
 have HUn := Lib.hid (upd_newE HU.out hset HNM.out.2)
 clear HA HB HU hset s0 s1 s2 a0 a1 a2 f0 f1 f2 g0 g1 g2 g3 g4 g5 g6 g7 g8 g9 g10 g11 g12 g13 g14 g15 g16 g17 g18 g19 g20 g21 g22 g23
 generalize ((y0.setCell ⟨M, 0, none⟩ (.int .i64 p0)).setCell ⟨M, 1, none⟩ (.int .i64 p1)).setCell ⟨M, 2, none⟩ (.int .i64 p2) = y1 at *
 have HA := HAn
 have HB := HBn
 have HU := HUn
 clear HAn HBn HUn
 go_wp2_with fail
 rw [rounds_succ]
 obtain ⟨a0, a1, a2⟩ := cells3 HA.out
 obtain ⟨⟨g0, g1, g2, g3, g4, g5, g6, g7, g8, g9, g10, g11, g12, g13, g14, g15, g16, g17, g18, g19, g20, g21, g22, g23⟩, hfz⟩ := cellsF24 HB.out
 have f0 := hfz 3
 have f1 := hfz 4
 have f2 := hfz 5
 clear hfz
 go_upto_region 4 with fail
 have s0 := heap_setCell_eq (i := 3) (.int .i64 (p0 + s)) HB.out
 have s1 := heap_setCell_eq (i := 4) (.int .i64 p1) s0
 have s2 := heap_setCell_eq (i := 5) (.int .i64 p2) s1
 have HBn : Hid ((((y1.setCell ⟨M, 3, none⟩ (.int .i64 (p0 + s))).setCell ⟨M, 4, none⟩ (.int .i64 p1)).setCell ⟨M, 5, none⟩ (.int .i64 p2)).heap[M]? = some (.cells #[.int .i64 p0, .int .i64 p1, .int .i64 p2, .int .i64 (p0 + s), .int .i64 p1, .int .i64 p2, .int .i64 0, .int .i64 0, .int .i64 0, .int .i64 0, .int .i64 0, .int .i64 0, .int .i64 0, .int .i64 0, .int .i64 0, .int .i64 0, .int .i64 0, .int .i64 0, .int .i64 0, .int .i64 0, .int .i64 0, .int .i64 0, .int .i64 0, .int .i64 0] 197 (0, 0))) := s2
 have hset := (((Upd.refl (fun i => i = M) y1).setCell (p := ⟨M, 3, none⟩) (fun _ => rfl) (.int .i64 (p0 + s))).setCell (p := ⟨M, 4, none⟩) (fun _ => rfl) (.int .i64 p1)).setCell (p := ⟨M, 5, none⟩) (fun _ => rfl) (.int .i64 p2)
 have HAn := Lib.hid (hset.heap HA.out HNM.out.1)
 have HUn := Lib.hid (upd_newE HU.out hset HNM.out.2)
 clear HA HB HU hset s0 s1 s2 a0 a1 a2 f0 f1 f2 g0 g1 g2 g3 g4 g5 g6 g7 g8 g9 g10 g11 g12 g13 g14 g15 g16 g17 g18 g19 g20 g21 g22 g23
 generalize ((y1.setCell ⟨M, 3, none⟩ (.int .i64 (p0 + s))).setCell ⟨M, 4, none⟩ (.int .i64 p1)).setCell ⟨M, 5, none⟩ (.int .i64 p2) = y2 at *
 have HA := HAn
 have HB := HBn
 have HU := HUn
 clear HAn HBn HUn
 go_wp2_with fail
 rw [rounds_succ]
 obtain ⟨a0, a1, a2⟩ := cells3 HA.out
 obtain ⟨⟨g0, g1, g2, g3, g4, g5, g6, g7, g8, g9, g10, g11, g12, g13, g14, g15, g16, g17, g18, g19, g20, g21, g22, g23⟩, hfz⟩ := cellsF24 HB.out
 have f0 := hfz 6
 have f1 := hfz 7
 have f2 := hfz 8
 clear hfz
 go_upto_region 4 with fail
 have s0 := heap_setCell_eq (i := 6) (.int .i64 p0) HB.out
 have s1 := heap_setCell_eq (i := 7) (.int .i64 (p1 + s)) s0
 have s2 := heap_setCell_eq (i := 8) (.int .i64 p2) s1
 have HBn : Hid ((((y2.setCell ⟨M, 6, none⟩ (.int .i64 p0)).setCell ⟨M, 7, none⟩ (.int .i64 (p1 + s))).setCell ⟨M, 8, none⟩ (.int .i64 p2)).heap[M]? = some (.cells #[.int .i64 p0, .int .i64 p1, .int .i64 p2, .int .i64 (p0 + s), .int .i64 p1, .int .i64 p2, .int .i64 p0, .int .i64 (p1 + s), .int .i64 p2, .int .i64 0, .int .i64 0, .int .i64 0, .int .i64 0, .int .i64 0, .int .i64 0, .int .i64 0, .int .i64 0, .int .i64 0, .int .i64 0, .int .i64 0, .int .i64 0, .int .i64 0, .int .i64 0, .int .i64 0] 197 (0, 0))) := s2
 have hset := (((Upd.refl (fun i => i = M) y2).setCell (p := ⟨M, 6, none⟩) (fun _ => rfl) (.int .i64 p0)).setCell (p := ⟨M, 7, none⟩) (fun _ => rfl) (.int .i64 (p1 + s))).setCell (p := ⟨M, 8, none⟩) (fun _ => rfl) (.int .i64 p2)
 have HAn := Lib.hid (hset.heap HA.out HNM.out.1)
 have HUn := Lib.hid (upd_newE HU.out hset HNM.out.2)
 clear HA HB HU hset s0 s1 s2 a0 a1 a2 f0 f1 f2 g0 g1 g2 g3 g4 g5 g6 g7 g8 g9 g10 g11 g12 g13 g14 g15 g16 g17 g18 g19 g20 g21 g22 g23
 generalize ((y2.setCell ⟨M, 6, none⟩ (.int .i64 p0)).setCell ⟨M, 7, none⟩ (.int .i64 (p1 + s))).setCell ⟨M, 8, none⟩ (.int .i64 p2) = y3 at *
 have HA := HAn
 have HB := HBn
 have HU := HUn
 clear HAn HBn HUn
 go_wp2_with fail
 rw [rounds_succ]
 obtain ⟨a0, a1, a2⟩ := cells3 HA.out
 obtain ⟨⟨g0, g1, g2, g3, g4, g5, g6, g7, g8, g9, g10, g11, g12, g13, g14, g15, g16, g17, g18, g19, g20, g21, g22, g23⟩, hfz⟩ := cellsF24 HB.out
 have f0 := hfz 9
 have f1 := hfz 10
 have f2 := hfz 11
 clear hfz
 go_upto_region 4 with fail
 have s0 := heap_setCell_eq (i := 9) (.int .i64 (p0 + s)) HB.out
 have s1 := heap_setCell_eq (i := 10) (.int .i64 (p1 + s)) s0
 have s2 := heap_setCell_eq (i := 11) (.int .i64 p2) s1
 have HBn : Hid ((((y3.setCell ⟨M, 9, none⟩ (.int .i64 (p0 + s))).setCell ⟨M, 10, none⟩ (.int .i64 (p1 + s))).setCell ⟨M, 11, none⟩ (.int .i64 p2)).heap[M]? = some (.cells #[.int .i64 p0, .int .i64 p1, .int .i64 p2, .int .i64 (p0 + s), .int .i64 p1, .int .i64 p2, .int .i64 p0, .int .i64 (p1 + s), .int .i64 p2, .int .i64 (p0 + s), .int .i64 (p1 + s), .int .i64 p2, .int .i64 0, .int .i64 0, .int .i64 0, .int .i64 0, .int .i64 0, .int .i64 0, .int .i64 0, .int .i64 0, .int .i64 0, .int .i64 0, .int .i64 0, .int .i64 0] 197 (0, 0))) := s2
 have hset := (((Upd.refl (fun i => i = M) y3).setCell (p := ⟨M, 9, none⟩) (fun _ => rfl) (.int .i64 (p0 + s))).setCell (p := ⟨M, 10, none⟩) (fun _ => rfl) (.int .i64 (p1 + s))).setCell (p := ⟨M, 11, none⟩) (fun _ => rfl) (.int .i64 p2)
 have HAn := Lib.hid (hset.heap HA.out HNM.out.1)
 have HUn := Lib.hid (upd_newE HU.out hset HNM.out.2)
 clear HA HB HU hset s0 s1 s2 a0 a1 a2 f0 f1 f2 g0 g1 g2 g3 g4 g5 g6 g7 g8 g9 g10 g11 g12 g13 g14 g15 g16 g17 g18 g19 g20 g21 g22 g23
 generalize ((y3.setCell ⟨M, 9, none⟩ (.int .i64 (p0 + s))).setCell ⟨M, 10, none⟩ (.int .i64 (p1 + s))).setCell ⟨M, 11, none⟩ (.int .i64 p2) = y4 at *
 have HA := HAn
 have HB := HBn
 have HU := HUn
 clear HAn HBn HUn
 go_wp2_with fail
 rw [rounds_succ]
 obtain ⟨a0, a1, a2⟩ := cells3 HA.out
 obtain ⟨⟨g0, g1, g2, g3, g4, g5, g6, g7, g8, g9, g10, g11, g12, g13, g14, g15, g16, g17, g18, g19, g20, g21, g22, g23⟩, hfz⟩ := cellsF24 HB.out
 have f0 := hfz 12
 have f1 := hfz 13
 have f2 := hfz 14
 clear hfz
 go_upto_region 4 with fail
 have s0 := heap_setCell_eq (i := 12) (.int .i64 p0) HB.out
 have s1 := heap_setCell_eq (i := 13) (.int .i64 p1) s0
 have s2 := heap_setCell_eq (i := 14) (.int .i64 (p2 + s)) s1
 have HBn : Hid ((((y4.setCell ⟨M, 12, none⟩ (.int .i64 p0)).setCell ⟨M, 13, none⟩ (.int .i64 p1)).setCell ⟨M, 14, none⟩ (.int .i64 (p2 + s))).heap[M]? = some (.cells #[.int .i64 p0, .int .i64 p1, .int .i64 p2, .int .i64 (p0 + s), .int .i64 p1, .int .i64 p2, .int .i64 p0, .int .i64 (p1 + s), .int .i64 p2, .int .i64 (p0 + s), .int .i64 (p1 + s), .int .i64 p2, .int .i64 p0, .int .i64 p1, .int .i64 (p2 + s), .int .i64 0, .int .i64 0, .int .i64 0, .int .i64 0, .int .i64 0, .int .i64 0, .int .i64 0, .int .i64 0, .int .i64 0] 197 (0, 0))) := s2
 have hset := (((Upd.refl (fun i => i = M) y4).setCell (p := ⟨M, 12, none⟩) (fun _ => rfl) (.int .i64 p0)).setCell (p := ⟨M, 13, none⟩) (fun _ => rfl) (.int .i64 p1)).setCell (p := ⟨M, 14, none⟩) (fun _ => rfl) (.int .i64 (p2 + s))
 have HAn := Lib.hid (hset.heap HA.out HNM.out.1)
 have HUn := Lib.hid (upd_newE HU.out hset HNM.out.2)
 clear HA HB HU hset s0 s1 s2 a0 a1 a2 f0 f1 f2 g0 g1 g2 g3 g4 g5 g6 g7 g8 g9 g10 g11 g12 g13 g14 g15 g16 g17 g18 g19 g20 g21 g22 g23
 generalize ((y4.setCell ⟨M, 12, none⟩ (.int .i64 p0)).setCell ⟨M, 13, none⟩ (.int .i64 p1)).setCell ⟨M, 14, none⟩ (.int .i64 (p2 + s)) = y5 at *
 have HA := HAn
 have HB := HBn
 have HU := HUn
 clear HAn HBn HUn
 go_wp2_with fail
 rw [rounds_succ]
 obtain ⟨a0, a1, a2⟩ := cells3 HA.out
 obtain ⟨⟨g0, g1, g2, g3, g4, g5, g6, g7, g8, g9, g10, g11, g12, g13, g14, g15, g16, g17, g18, g19, g20, g21, g22, g23⟩, hfz⟩ := cellsF24 HB.out
 have f0 := hfz 15
 have f1 := hfz 16
 have f2 := hfz 17
 clear hfz
 go_upto_region 4 with fail
 have s0 := heap_setCell_eq (i := 15) (.int .i64 (p0 + s)) HB.out
 have s1 := heap_setCell_eq (i := 16) (.int .i64 p1) s0
 have s2 := heap_setCell_eq (i := 17) (.int .i64 (p2 + s)) s1
 have HBn : Hid ((((y5.setCell ⟨M, 15, none⟩ (.int .i64 (p0 + s))).setCell ⟨M, 16, none⟩ (.int .i64 p1)).setCell ⟨M, 17, none⟩ (.int .i64 (p2 + s))).heap[M]? = some (.cells #[.int .i64 p0, .int .i64 p1, .int .i64 p2, .int .i64 (p0 + s), .int .i64 p1, .int .i64 p2, .int .i64 p0, .int .i64 (p1 + s), .int .i64 p2, .int .i64 (p0 + s), .int .i64 (p1 + s), .int .i64 p2, .int .i64 p0, .int .i64 p1, .int .i64 (p2 + s), .int .i64 (p0 + s), .int .i64 p1, .int .i64 (p2 + s), .int .i64 0, .int .i64 0, .int .i64 0, .int .i64 0, .int .i64 0, .int .i64 0] 197 (0, 0))) := s2
 have hset := (((Upd.refl (fun i => i = M) y5).setCell (p := ⟨M, 15, none⟩) (fun _ => rfl) (.int .i64 (p0 + s))).setCell (p := ⟨M, 16, none⟩) (fun _ => rfl) (.int .i64 p1)).setCell (p := ⟨M, 17, none⟩) (fun _ => rfl) (.int .i64 (p2 + s))
 have HAn := Lib.hid (hset.heap HA.out HNM.out.1)
 have HUn := Lib.hid (upd_newE HU.out hset HNM.out.2)
 clear HA HB HU hset s0 s1 s2 a0 a1 a2 f0 f1 f2 g0 g1 g2 g3 g4 g5 g6 g7 g8 g9 g10 g11 g12 g13 g14 g15 g16 g17 g18 g19 g20 g21 g22 g23
 generalize ((y5.setCell ⟨M, 15, none⟩ (.int .i64 (p0 + s))).setCell ⟨M, 16, none⟩ (.int .i64 p1)).setCell ⟨M, 17, none⟩ (.int .i64 (p2 + s)) = y6 at *
 have HA := HAn
 have HB := HBn
 have HU := HUn
 clear HAn HBn HUn
 go_wp2_with fail
 rw [rounds_succ]
 obtain ⟨a0, a1, a2⟩ := cells3 HA.out
 obtain ⟨⟨g0, g1, g2, g3, g4, g5, g6, g7, g8, g9, g10, g11, g12, g13, g14, g15, g16, g17, g18, g19, g20, g21, g22, g23⟩, hfz⟩ := cellsF24 HB.out
 have f0 := hfz 18
 have f1 := hfz 19
 have f2 := hfz 20
 clear hfz
 go_upto_region 4 with fail
 have s0 := heap_setCell_eq (i := 18) (.int .i64 p0) HB.out
 have s1 := heap_setCell_eq (i := 19) (.int .i64 (p1 + s)) s0
 have s2 := heap_setCell_eq (i := 20) (.int .i64 (p2 + s)) s1
 have HBn : Hid ((((y6.setCell ⟨M, 18, none⟩ (.int .i64 p0)).setCell ⟨M, 19, none⟩ (.int .i64 (p1 + s))).setCell ⟨M, 20, none⟩ (.int .i64 (p2 + s))).heap[M]? = some (.cells #[.int .i64 p0, .int .i64 p1, .int .i64 p2, .int .i64 (p0 + s), .int .i64 p1, .int .i64 p2, .int .i64 p0, .int .i64 (p1 + s), .int .i64 p2, .int .i64 (p0 + s), .int .i64 (p1 + s), .int .i64 p2, .int .i64 p0, .int .i64 p1, .int .i64 (p2 + s), .int .i64 (p0 + s), .int .i64 p1, .int .i64 (p2 + s), .int .i64 p0, .int .i64 (p1 + s), .int .i64 (p2 + s), .int .i64 0, .int .i64 0, .int .i64 0] 197 (0, 0))) := s2
 have hset := (((Upd.refl (fun i => i = M) y6).setCell (p := ⟨M, 18, none⟩) (fun _ => rfl) (.int .i64 p0)).setCell (p := ⟨M, 19, none⟩) (fun _ => rfl) (.int .i64 (p1 + s))).setCell (p := ⟨M, 20, none⟩) (fun _ => rfl) (.int .i64 (p2 + s))
 have HAn := Lib.hid (hset.heap HA.out HNM.out.1)
 have HUn := Lib.hid (upd_newE HU.out hset HNM.out.2)
 clear HA HB HU hset s0 s1 s2 a0 a1 a2 f0 f1 f2 g0 g1 g2 g3 g4 g5 g6 g7 g8 g9 g10 g11 g12 g13 g14 g15 g16 g17 g18 g19 g20 g21 g22 g23
 generalize ((y6.setCell ⟨M, 18, none⟩ (.int .i64 p0)).setCell ⟨M, 19, none⟩ (.int .i64 (p1 + s))).setCell ⟨M, 20, none⟩ (.int .i64 (p2 + s)) = y7 at *
 have HA := HAn
 have HB := HBn
 have HU := HUn
 clear HAn HBn HUn
 go_wp2_with fail
 rw [rounds_succ]
 obtain ⟨a0, a1, a2⟩ := cells3 HA.out
 obtain ⟨⟨g0, g1, g2, g3, g4, g5, g6, g7, g8, g9, g10, g11, g12, g13, g14, g15, g16, g17, g18, g19, g20, g21, g22, g23⟩, hfz⟩ := cellsF24 HB.out
 have f0 := hfz 21
 have f1 := hfz 22
 have f2 := hfz 23
 clear hfz
 go_upto_region 4 with fail
 have s0 := heap_setCell_eq (i := 21) (.int .i64 (p0 + s)) HB.out
 have s1 := heap_setCell_eq (i := 22) (.int .i64 (p1 + s)) s0
 have s2 := heap_setCell_eq (i := 23) (.int .i64 (p2 + s)) s1
 have HBn : Hid ((((y7.setCell ⟨M, 21, none⟩ (.int .i64 (p0 + s))).setCell ⟨M, 22, none⟩ (.int .i64 (p1 + s))).setCell ⟨M, 23, none⟩ (.int .i64 (p2 + s))).heap[M]? = some (.cells #[.int .i64 p0, .int .i64 p1, .int .i64 p2, .int .i64 (p0 + s), .int .i64 p1, .int .i64 p2, .int .i64 p0, .int .i64 (p1 + s), .int .i64 p2, .int .i64 (p0 + s), .int .i64 (p1 + s), .int .i64 p2, .int .i64 p0, .int .i64 p1, .int .i64 (p2 + s), .int .i64 (p0 + s), .int .i64 p1, .int .i64 (p2 + s), .int .i64 p0, .int .i64 (p1 + s), .int .i64 (p2 + s), .int .i64 (p0 + s), .int .i64 (p1 + s), .int .i64 (p2 + s)] 197 (0, 0))) := s2
 have hset := (((Upd.refl (fun i => i = M) y7).setCell (p := ⟨M, 21, none⟩) (fun _ => rfl) (.int .i64 (p0 + s))).setCell (p := ⟨M, 22, none⟩) (fun _ => rfl) (.int .i64 (p1 + s))).setCell (p := ⟨M, 23, none⟩) (fun _ => rfl) (.int .i64 (p2 + s))
 have HAn := Lib.hid (hset.heap HA.out HNM.out.1)
 have HUn := Lib.hid (upd_newE HU.out hset HNM.out.2)
 clear HA HB HU hset s0 s1 s2 a0 a1 a2 f0 f1 f2 g0 g1 g2 g3 g4 g5 g6 g7 g8 g9 g10 g11 g12 g13 g14 g15 g16 g17 g18 g19 g20 g21 g22 g23
 generalize ((y7.setCell ⟨M, 21, none⟩ (.int .i64 (p0 + s))).setCell ⟨M, 22, none⟩ (.int .i64 (p1 + s))).setCell ⟨M, 23, none⟩ (.int .i64 (p2 + s)) = y8 at *
 have HA := HAn
 have HB := HBn
 have HU := HUn
 clear HAn HBn HUn
 go_wp2_with fail
 rw [rounds_succ]
 go_upto_region 6 with fail
 obtain ⟨⟨g0, g1, g2, g3, g4, g5, g6, g7, g8, g9, g10, g11, g12, g13, g14, g15, g16, g17, g18, g19, g20, g21, g22, g23⟩, _⟩ := cellsF24 HB.out
 have HC := HQ0 y8
 go_wp2_with fail
 refine HC.out.mono ?_
 rintro e v0 ⟨b0, rfl, o0, u0⟩
 have HBn := Lib.hid (u0.heap HB.out id)
 have HUn := Lib.hid (HU.out.trans u0)
 have HO0 : Hid (kTri.Own w.heap.size v0 (.slice (some ⟨b0, 0, none⟩) 2 2) Q0) := o0.mono (HU.out.size)
 have HLL0 : Hid (Q0.length = 2) := HL0.out
 clear g0 g1 g2 g3 g4 g5 g6 g7 g8 g9 g10 g11 g12 g13 g14 g15 g16 g17 g18 g19 g20 g21 g22 g23 HB HU o0 u0 HC HA
 obtain ⟨⟨g0, g1, g2, g3, g4, g5, g6, g7, g8, g9, g10, g11, g12, g13, g14, g15, g16, g17, g18, g19, g20, g21, g22, g23⟩, _⟩ := cellsF24 HBn.out
 go_wp2_with fail
 have HB := HBn
 have HU := HUn
 clear HBn HUn
 have HC := HQ1 v0
 refine HC.out.mono ?_
 rintro e z1 ⟨c1, rfl, o1, u1⟩
 have HUz := Lib.hid (HU.out.trans u1)
 have HBz := Lib.hid (u1.heap HB.out id)
 have hoz := HO0.out.upd u1
 obtain ⟨b1, k1, v1, r1, q1, t1, _⟩ := hoz.appN HUz.out.size (c := 2) Q1 (o1.ats (by rw [HL1.out]; decide)) (by rw [HLL0.out, HL1.out]; decide) (by rw [HL1.out]; decide)
 rw [HLL0.out, HL1.out] at r1 q1
 have R1 := Lib.hid r1
 have HO1 := Lib.hid q1
 have HGE : Hid (∀ i, ((.slice (some ⟨b0, 0, none⟩) 2 2) : Value).ownBlock = some i → w.heap.size ≤ i) := fun i e => (HO0.out.blk e).1
 have HUn := Lib.hid (HUz.out.then t1 (fun i hi e => absurd hi (by have := HGE.out i e; omega)))
 have HBn := Lib.hid (t1.heap HBz.out (fun e => by have := (HO0.out.blk e).1; have h2 := (hoz.blk e).2; obtain ⟨cur, h2⟩ := h2; rw [HBz.out] at h2; cases h2))
 have HLL1 : Hid ((Q0 ++ Q1).length = 4) := by show _ = _; rw [List.length_append, HLL0.out, HL1.out]
 clear g0 g1 g2 g3 g4 g5 g6 g7 g8 g9 g10 g11 g12 g13 g14 g15 g16 g17 g18 g19 g20 g21 g22 g23 HB HU o1 u1 HC hoz r1 q1 t1 HUz HBz HGE HO0 HQ1
 obtain ⟨⟨g0, g1, g2, g3, g4, g5, g6, g7, g8, g9, g10, g11, g12, g13, g14, g15, g16, g17, g18, g19, g20, g21, g22, g23⟩, _⟩ := cellsF24 HBn.out
 go_wp2_with (at_builtin; refine wpList_append_run rfl _ _ _ rfl rfl rfl R1.out ?_)
 have HB := HBn
 have HU := HUn
 clear HBn HUn
 have HC := HQ2 v1
 refine HC.out.mono ?_
 rintro e z2 ⟨c2, rfl, o2, u2⟩
 have HUz := Lib.hid (HU.out.trans u2)
 have HBz := Lib.hid (u2.heap HB.out id)
 have hoz := HO1.out.upd u2
 obtain ⟨b2, k2, v2, r2, q2, t2, _⟩ := hoz.appN HUz.out.size (c := 2) Q2 (o2.ats (by rw [HL2.out]; decide)) (by rw [HLL1.out, HL2.out]; decide) (by rw [HL2.out]; decide)
 rw [HLL1.out, HL2.out] at r2 q2
 have R2 := Lib.hid r2
 have HO2 := Lib.hid q2
 have HGE : Hid (∀ i, ((.slice (some ⟨b1, 0, none⟩) 4 k1) : Value).ownBlock = some i → w.heap.size ≤ i) := fun i e => (HO1.out.blk e).1
 have HUn := Lib.hid (HUz.out.then t2 (fun i hi e => absurd hi (by have := HGE.out i e; omega)))
 have HBn := Lib.hid (t2.heap HBz.out (fun e => by have := (HO1.out.blk e).1; have h2 := (hoz.blk e).2; obtain ⟨cur, h2⟩ := h2; rw [HBz.out] at h2; cases h2))
 have HLL2 : Hid (((Q0 ++ Q1) ++ Q2).length = 6) := by show _ = _; rw [List.length_append, HLL1.out, HL2.out]
 clear g0 g1 g2 g3 g4 g5 g6 g7 g8 g9 g10 g11 g12 g13 g14 g15 g16 g17 g18 g19 g20 g21 g22 g23 HB HU o2 u2 HC hoz r2 q2 t2 HUz HBz HGE HO1 HQ2
 obtain ⟨⟨g0, g1, g2, g3, g4, g5, g6, g7, g8, g9, g10, g11, g12, g13, g14, g15, g16, g17, g18, g19, g20, g21, g22, g23⟩, _⟩ := cellsF24 HBn.out
 go_wp2_with (at_builtin; refine wpList_append_run rfl _ _ _ rfl rfl rfl R2.out ?_)
 have HB := HBn
 have HU := HUn
 clear HBn HUn
 have HC := HQ3 v2
 refine HC.out.mono ?_
 rintro e z3 ⟨c3, rfl, o3, u3⟩
 have HUz := Lib.hid (HU.out.trans u3)
 have HBz := Lib.hid (u3.heap HB.out id)
 have hoz := HO2.out.upd u3
 obtain ⟨b3, k3, v3, r3, q3, t3, _⟩ := hoz.appN HUz.out.size (c := 2) Q3 (o3.ats (by rw [HL3.out]; decide)) (by rw [HLL2.out, HL3.out]; decide) (by rw [HL3.out]; decide)
 rw [HLL2.out, HL3.out] at r3 q3
 have R3 := Lib.hid r3
 have HO3 := Lib.hid q3
 have HGE : Hid (∀ i, ((.slice (some ⟨b2, 0, none⟩) 6 k2) : Value).ownBlock = some i → w.heap.size ≤ i) := fun i e => (HO2.out.blk e).1
 have HUn := Lib.hid (HUz.out.then t3 (fun i hi e => absurd hi (by have := HGE.out i e; omega)))
 have HBn := Lib.hid (t3.heap HBz.out (fun e => by have := (HO2.out.blk e).1; have h2 := (hoz.blk e).2; obtain ⟨cur, h2⟩ := h2; rw [HBz.out] at h2; cases h2))
 have HLL3 : Hid ((((Q0 ++ Q1) ++ Q2) ++ Q3).length = 8) := by show _ = _; rw [List.length_append, HLL2.out, HL3.out]
 clear g0 g1 g2 g3 g4 g5 g6 g7 g8 g9 g10 g11 g12 g13 g14 g15 g16 g17 g18 g19 g20 g21 g22 g23 HB HU o3 u3 HC hoz r3 q3 t3 HUz HBz HGE HO2 HQ3
 obtain ⟨⟨g0, g1, g2, g3, g4, g5, g6, g7, g8, g9, g10, g11, g12, g13, g14, g15, g16, g17, g18, g19, g20, g21, g22, g23⟩, _⟩ := cellsF24 HBn.out
 go_wp2_with (at_builtin; refine wpList_append_run rfl _ _ _ rfl rfl rfl R3.out ?_)
 have HB := HBn
 have HU := HUn
 clear HBn HUn
 have HC := HQ4 v3
 refine HC.out.mono ?_
 rintro e z4 ⟨c4, rfl, o4, u4⟩
 have HUz := Lib.hid (HU.out.trans u4)
 have HBz := Lib.hid (u4.heap HB.out id)
 have hoz := HO3.out.upd u4
 obtain ⟨b4, k4, v4, r4, q4, t4, _⟩ := hoz.appN HUz.out.size (c := 2) Q4 (o4.ats (by rw [HL4.out]; decide)) (by rw [HLL3.out, HL4.out]; decide) (by rw [HL4.out]; decide)
 rw [HLL3.out, HL4.out] at r4 q4
 have R4 := Lib.hid r4
 have HO4 := Lib.hid q4
 have HGE : Hid (∀ i, ((.slice (some ⟨b3, 0, none⟩) 8 k3) : Value).ownBlock = some i → w.heap.size ≤ i) := fun i e => (HO3.out.blk e).1
 have HUn := Lib.hid (HUz.out.then t4 (fun i hi e => absurd hi (by have := HGE.out i e; omega)))
 have HBn := Lib.hid (t4.heap HBz.out (fun e => by have := (HO3.out.blk e).1; have h2 := (hoz.blk e).2; obtain ⟨cur, h2⟩ := h2; rw [HBz.out] at h2; cases h2))
 have HLL4 : Hid (((((Q0 ++ Q1) ++ Q2) ++ Q3) ++ Q4).length = 10) := by show _ = _; rw [List.length_append, HLL3.out, HL4.out]
 clear g0 g1 g2 g3 g4 g5 g6 g7 g8 g9 g10 g11 g12 g13 g14 g15 g16 g17 g18 g19 g20 g21 g22 g23 HB HU o4 u4 HC hoz r4 q4 t4 HUz HBz HGE HO3 HQ4
 obtain ⟨⟨g0, g1, g2, g3, g4, g5, g6, g7, g8, g9, g10, g11, g12, g13, g14, g15, g16, g17, g18, g19, g20, g21, g22, g23⟩, _⟩ := cellsF24 HBn.out
 go_wp2_with (at_builtin; refine wpList_append_run rfl _ _ _ rfl rfl rfl R4.out ?_)
 have HB := HBn
 have HU := HUn
 clear HBn HUn
 have HC := HQ5 v4
 refine HC.out.mono ?_
 rintro e z5 ⟨c5, rfl, o5, u5⟩
 have HUz := Lib.hid (HU.out.trans u5)
 have HBz := Lib.hid (u5.heap HB.out id)
 have hoz := HO4.out.upd u5
 obtain ⟨b5, k5, v5, r5, q5, t5, _⟩ := hoz.appN HUz.out.size (c := 2) Q5 (o5.ats (by rw [HL5.out]; decide)) (by rw [HLL4.out, HL5.out]; decide) (by rw [HL5.out]; decide)
 rw [HLL4.out, HL5.out] at r5 q5
 have R5 := Lib.hid r5
 have HO5 := Lib.hid q5
 have HGE : Hid (∀ i, ((.slice (some ⟨b4, 0, none⟩) 10 k4) : Value).ownBlock = some i → w.heap.size ≤ i) := fun i e => (HO4.out.blk e).1
 have HUn := Lib.hid (HUz.out.then t5 (fun i hi e => absurd hi (by have := HGE.out i e; omega)))
 have HBn := Lib.hid (t5.heap HBz.out (fun e => by have := (HO4.out.blk e).1; have h2 := (hoz.blk e).2; obtain ⟨cur, h2⟩ := h2; rw [HBz.out] at h2; cases h2))
 have HLL5 : Hid ((((((Q0 ++ Q1) ++ Q2) ++ Q3) ++ Q4) ++ Q5).length = 12) := by show _ = _; rw [List.length_append, HLL4.out, HL5.out]
 clear g0 g1 g2 g3 g4 g5 g6 g7 g8 g9 g10 g11 g12 g13 g14 g15 g16 g17 g18 g19 g20 g21 g22 g23 HB HU o5 u5 HC hoz r5 q5 t5 HUz HBz HGE HO4 HQ5
 obtain ⟨⟨g0, g1, g2, g3, g4, g5, g6, g7, g8, g9, g10, g11, g12, g13, g14, g15, g16, g17, g18, g19, g20, g21, g22, g23⟩, _⟩ := cellsF24 HBn.out
 go_wp2_with (at_builtin; refine wpList_append_run rfl _ _ _ rfl rfl rfl R5.out ?_)
 go_ret
 exact ⟨_, rfl, HO5.out, HUn.out⟩
end Go.Proofs.YtcikldoaidmnhaaGreatDoor
namespace Go.Proofs.YtcikldoaidmnhaaGreatDoor
open Go Go.RowKit Pk
set_option maxRecDepth 100000
def hillQ (step : Int) (hs : List Int) (y x : Nat) : List Tri := quadT (hillP x y step hs) (hillP (x + 1) y step hs) (hillP (x + 1) (y + 1) step hs) (hillP x (y + 1) step hs)
theorem range_flat {α : Type} (f : Nat → List α) (k : Nat) : (List.range (k + 1)).flatMap f = (List.range k).flatMap f ++ f k := by
 rw [List.range_succ, List.flatMap_append]; simp
theorem hillsN_le (n : Int) : hillsN n ≤ 6 := by
 unfold hillsN
 have := modI_range (n := n) (m := 6) (by decide)
 omega
set_option maxHeartbeats 4000000 in
theorem Hills_any (n step : Int) (v : Value) (hs : List Int) (w : World) (h0 : 0 ≤ step) (h1 : step ≤ 1000000) (hl : hs.length ≤ 9223372036854775807) (h : kInt.Rd w v hs) :
  Calls Tryz.prog 40 #[.int .i64 n, .int .i64 step, v] w fun en w' => ∃ v, en = .returned v ∧ kTri.Own w.heap.size w' v (hillsT n step hs) ∧ (hillsT n step hs).length ≤ 72 ∧ Upd noBlk w w' := by
 have HH : Hid (∀ (x y : Nat) W, x < 100 → y < 100 → Upd noBlk w W → Calls Tryz.prog 90 #[.int .i64 x, .int .i64 y, .int .i64 step, v] W fun en w' => en = .returned (ptV (hillP x y step hs)) ∧ Upd noBlk W w') := fun x y W hx hy hW => hill_any x y step v hs W hx hy h0 h1 hl (h.keep hW)
 obtain ⟨A, cap, rfl, _, _⟩ := h
 obtain ⟨T, hT⟩ : ∃ T, T = hillsT n step hs := ⟨_, rfl⟩
 have HT : Hid (T = (List.range (hillsN n)).flatMap fun y => (List.range (hillsN n)).flatMap fun x => hillQ step hs y x) := hT
 rw [← hT]
 have hNN := modI_range (n := n) (m := 6) (by decide)
 have hN2 : 1 + modI n 6 = ((hillsN n : Nat) : Int) := by unfold hillsN; omega
 have hN6 := hillsN_le n
 have HM := fun W => Lib.hid (hMod_any n 6 (by decide) (by decide) W)
 obtain ⟨m, hm⟩ : ∃ m, m = modI n 6 := ⟨_, rfl⟩
 rw [← hm] at hNN hN2 HM
 generalize hillsN n = N at *
 obtain ⟨hm0, hm6⟩ := hNN
 clear hT hm h0 h1 hl
 go_enter Tryz.func40, Tryz.ntmps40
 go_wp2_with fail
 refine (HM _).out.mono ?_
 rintro e w1 ⟨rfl, rfl⟩
 go_upto_region 3 with fail
 have HN6 := Lib.hid hN6
 clear HM hN2 hm0 hm6
 go_wp2_with fail
 go_loopw [7, 8] (fun o i wr => ∃ y : Nat, i = .int .i64 y ∧ y ≤ N ∧ (∃ acc, acc = (List.range y).flatMap (fun y => (List.range N).flatMap fun x => hillQ step hs y x) ∧ acc.length ≤ 12 * y ∧ kTri.Own w1.heap.size wr o acc) ∧ Upd noBlk w1 wr) (fun _ i _ => N - (intOf i).toNat)
 case atStart => exact ⟨0, rfl, Nat.zero_le _, ⟨[], rfl, by simp, Kd.Own.nil _ _ _⟩, Upd.refl _ _⟩
 case round =>
  obtain ⟨y, rfl, hy, ⟨acc, hacc, hal, ho⟩, hu⟩ := hrel
  have HACC := Lib.hid hacc
  have HAL := Lib.hid hal
  have HO := Lib.hid ho
  have HU := Lib.hid hu
  clear hacc hal ho hu
  by_cases hlt : y < N
  ·have hlt' : ((y : Nat) : Int) < ((N : Nat) : Int) := by omega
   have HY : Hid (y < N) := hlt
   go_wp2_with fail
   go_loopw [7, 9] (fun o i wr => ∃ x : Nat, i = .int .i64 x ∧ x ≤ N ∧ (∃ acc2, acc2 = acc ++ (List.range x).flatMap (fun x => hillQ step hs y x) ∧ acc2.length ≤ 12 * y + 2 * x ∧ kTri.Own w1.heap.size wr o acc2) ∧ Upd noBlk w1 wr) (fun _ i _ => N - (intOf i).toNat)
   case atStart => exact ⟨0, rfl, Nat.zero_le _, ⟨acc, by simp, by have := HAL.out; omega, HO.out⟩, HU.out⟩
   case round =>
    obtain ⟨x, rfl, hx, ⟨acc2, hacc2, hal2, ho2⟩, hu2⟩ := hrel
    have HACC2 := Lib.hid hacc2
    have HAL2 := Lib.hid hal2
    have HO2 := Lib.hid ho2
    have HU2 := Lib.hid hu2
    clear hacc2 hal2 ho2 hu2
    by_cases hlx : x < N
    ·have hlx' : ((x : Nat) : Int) < ((N : Nat) : Int) := by omega
     have HX : Hid (x < N) := hlx
     have HC1 := Lib.hid (HH.out x y wr (by omega) (by omega) HU2.out)
     have HC2 : Hid (∀ W, Upd noBlk w1 W → Calls Tryz.prog 90 #[.int .i64 ((x : Int) + 1), .int .i64 y, .int .i64 step, .slice A hs.length cap] W fun en w' => en = .returned (ptV (hillP (x + 1) y step hs)) ∧ Upd noBlk W w') := fun W hW => HH.out (x + 1) y W (by omega) (by omega) hW
     have HC3 : Hid (∀ W, Upd noBlk w1 W → Calls Tryz.prog 90 #[.int .i64 ((x : Int) + 1), .int .i64 ((y : Int) + 1), .int .i64 step, .slice A hs.length cap] W fun en w' => en = .returned (ptV (hillP (x + 1) (y + 1) step hs)) ∧ Upd noBlk W w') := fun W hW => HH.out (x + 1) (y + 1) W (by omega) (by omega) hW
     have HC4 : Hid (∀ W, Upd noBlk w1 W → Calls Tryz.prog 90 #[.int .i64 x, .int .i64 ((y : Int) + 1), .int .i64 step, .slice A hs.length cap] W fun en w' => en = .returned (ptV (hillP x (y + 1) step hs)) ∧ Upd noBlk W w') := fun W hW => HH.out x (y + 1) W (by omega) (by omega) hW
     obtain ⟨pa, hpa⟩ : ∃ a, a = hillP x y step hs := ⟨_, rfl⟩
     obtain ⟨pb, hpb⟩ : ∃ a, a = hillP (x + 1) y step hs := ⟨_, rfl⟩
     obtain ⟨pc, hpc⟩ : ∃ a, a = hillP (x + 1) (y + 1) step hs := ⟨_, rfl⟩
     obtain ⟨pd, hpd⟩ : ∃ a, a = hillP x (y + 1) step hs := ⟨_, rfl⟩
     have hQ : hillQ step hs y x = quadT pa pb pc pd := by rw [hpa, hpb, hpc, hpd]; rfl
     rw [← hpa] at HC1
     rw [← hpb] at HC2
     rw [← hpc] at HC3
     rw [← hpd] at HC4
     have HQ := fun W => Lib.hid (quad_any pa pb pc pd W)
     have HL : Hid ((hillQ step hs y x).length = 2) := rfl
     rw [← hQ] at HQ
     clear hpa hpb hpc hpd hQ HH
     obtain ⟨a0, a1, a2⟩ := pa
     obtain ⟨b0, b1, b2⟩ := pb
     obtain ⟨c0, c1, c2⟩ := pc
     obtain ⟨d0, d1, d2⟩ := pd
     unfold ptV at *
     simp only at HC1 HC2 HC3 HC4 HQ
     go_wp2_with fail
     refine HC1.out.mono ?_
     rintro e z1 ⟨rfl, u1⟩
     have HA1 : Hid ((z1.alloc (.cells #[.int .i64 a0, .int .i64 a1, .int .i64 a2] 43)).heap[z1.heap.size]? = some (.cells #[.int .i64 a0, .int .i64 a1, .int .i64 a2] 43 (0, 0))) := heap_alloc_new z1 _
     have V1 := Lib.hid ((HU2.out.trans u1).alloc (.cells #[.int .i64 a0, .int .i64 a1, .int .i64 a2] 43))
     have O1 := Lib.hid ((HO2.out.upd u1).upd ((Upd.refl noBlk z1).alloc (.cells #[.int .i64 a0, .int .i64 a1, .int .i64 a2] 43)))
     clear u1 HC1 HU2 HO2
     go_upto_region 10 with fail
     generalize z1.alloc (.cells #[.int .i64 a0, .int .i64 a1, .int .i64 a2] 43) = y1 at *
     generalize z1.heap.size = ba at *
     have HD2 := Lib.hid (HC2.out _ V1.out)
     go_wp2_with fail
     refine HD2.out.mono ?_
     rintro e z2 ⟨rfl, u2⟩
     have HB1 : Hid ((z2.alloc (.cells #[.int .i64 b0, .int .i64 b1, .int .i64 b2] 43)).heap[z2.heap.size]? = some (.cells #[.int .i64 b0, .int .i64 b1, .int .i64 b2] 43 (0, 0))) := heap_alloc_new z2 _
     have k2 := u2.alloc (.cells #[.int .i64 b0, .int .i64 b1, .int .i64 b2] 43)
     have HA2 := Lib.hid (k2.heap HA1.out id)
     have V2 := Lib.hid (V1.out.trans k2)
     have O2 := Lib.hid (O1.out.upd k2)
     clear u2 k2 HC2 HD2 HA1 V1 O1
     go_upto_region 11 with fail
     generalize z2.alloc (.cells #[.int .i64 b0, .int .i64 b1, .int .i64 b2] 43) = y2 at *
     generalize z2.heap.size = bb at *
     have HD3 := Lib.hid (HC3.out _ V2.out)
     go_wp2_with fail
     refine HD3.out.mono ?_
     rintro e z3 ⟨rfl, u3⟩
     have HCC1 : Hid ((z3.alloc (.cells #[.int .i64 c0, .int .i64 c1, .int .i64 c2] 43)).heap[z3.heap.size]? = some (.cells #[.int .i64 c0, .int .i64 c1, .int .i64 c2] 43 (0, 0))) := heap_alloc_new z3 _
     have k3 := u3.alloc (.cells #[.int .i64 c0, .int .i64 c1, .int .i64 c2] 43)
     have HA3 := Lib.hid (k3.heap HA2.out id)
     have HB3 := Lib.hid (k3.heap HB1.out id)
     have V3 := Lib.hid (V2.out.trans k3)
     have O3 := Lib.hid (O2.out.upd k3)
     clear u3 k3 HC3 HD3 HA2 HB1 V2 O2
     go_upto_region 12 with fail
     generalize z3.alloc (.cells #[.int .i64 c0, .int .i64 c1, .int .i64 c2] 43) = y3 at *
     generalize z3.heap.size = bc at *
     have HD4 := Lib.hid (HC4.out _ V3.out)
     go_wp2_with fail
     refine HD4.out.mono ?_
     rintro e z4 ⟨rfl, u4⟩
     have HDD1 : Hid ((z4.alloc (.cells #[.int .i64 d0, .int .i64 d1, .int .i64 d2] 43)).heap[z4.heap.size]? = some (.cells #[.int .i64 d0, .int .i64 d1, .int .i64 d2] 43 (0, 0))) := heap_alloc_new z4 _
     have k4 := u4.alloc (.cells #[.int .i64 d0, .int .i64 d1, .int .i64 d2] 43)
     have HA4 := Lib.hid (k4.heap HA3.out id)
     have HB4 := Lib.hid (k4.heap HB3.out id)
     have HCC4 := Lib.hid (k4.heap HCC1.out id)
     have V4 := Lib.hid (V3.out.trans k4)
     have O4 := Lib.hid (O3.out.upd k4)
     clear u4 k4 HC4 HD4 HA3 HB3 HCC1 V3 O3
     go_upto_region 13 with fail
     generalize z4.alloc (.cells #[.int .i64 d0, .int .i64 d1, .int .i64 d2] 43) = y4 at *
     generalize z4.heap.size = bd at *
     have HD5 := HQ y4
     obtain ⟨ga0, ga1, ga2⟩ := cells3 HA4.out
     obtain ⟨gb0, gb1, gb2⟩ := cells3 HB4.out
     obtain ⟨gc0, gc1, gc2⟩ := cells3 HCC4.out
     obtain ⟨gd0, gd1, gd2⟩ := cells3 HDD1.out
     go_wp2_with fail
     refine HD5.out.mono ?_
     rintro e z5 ⟨g5, rfl, o5, u5⟩
     have V5 := Lib.hid (V4.out.trans u5)
     have O5 := Lib.hid (O4.out.upd u5)
     obtain ⟨g6, cap6, z6, r6, o6, t6, _⟩ := O5.out.appN V5.out.size (c := 2) (hillQ step hs y x) (o5.ats (by rw [HL.out]; decide)) (by rw [HL.out]; have := HAL2.out; have := HN6.out; have := HX.out; have := HY.out; omega) (by rw [HL.out]; decide)
     rw [HL.out] at r6
     have R6 := Lib.hid r6
     have HO6 := Lib.hid o6
     have HU6 := Lib.hid (V5.out.then t6 (fun i hi e => absurd hi (by have := (O5.out.blk e).1; omega)))
     have HAC : Hid (acc2 ++ hillQ step hs y x = acc ++ (List.range (x + 1)).flatMap (fun x => hillQ step hs y x)) := by show _ = _; rw [range_flat, HACC2.out, List.append_assoc]
     have HAE : Hid ((acc2 ++ hillQ step hs y x).length ≤ 12 * y + 2 * (x + 1)) := by show _ ≤ _; rw [List.length_append, HL.out]; have := HAL2.out; omega
     rw [show acc2.length + 2 = (acc2 ++ hillQ step hs y x).length by rw [List.length_append, HL.out]] at R6
     rw [List.length_append] at R6
     clear ga0 ga1 ga2 gb0 gb1 gb2 gc0 gc1 gc2 gd0 gd1 gd2 HA4 HB4 HCC4 HDD1 V4 O4 V5 O5 o5 u5 r6 o6 t6 HD5 HQ HACC2 HAL2
     go_wp2_with (at_builtin; refine wpList_append_run rfl _ _ _ rfl rfl rfl R6.out ?_)
     exact ⟨⟨x + 1, by push_cast; rfl, HX.out, ⟨acc2 ++ hillQ step hs y x, HAC.out, HAE.out, HO6.out⟩, HU6.out⟩, by simp only [intOf]; have := HX.out; omega⟩
    ·obtain rfl : x = N := by omega
     have HAC : Hid (acc2 = (List.range (y + 1)).flatMap (fun y => (List.range x).flatMap fun x => hillQ step hs y x)) := by show _ = _; rw [range_flat, HACC2.out, HACC.out]
     go_wp2_with fail
     exact ⟨⟨y + 1, by push_cast; rfl, HY.out, ⟨acc2, HAC.out, by have := HAL2.out; have := HN6.out; omega, HO2.out⟩, HU2.out⟩, by simp only [intOf]; have := HY.out; omega⟩
  ·obtain rfl : y = N := by omega
   have HTE : Hid (T = acc) := by show _ = _; rw [HT.out, HACC.out]
   go_wp2_with fail
   go_ret
   rw [HTE.out]
   exact ⟨_, rfl, HO.out, by have := HAL.out; have := HN6.out; omega, HU.out⟩
end Go.Proofs.YtcikldoaidmnhaaGreatDoor
