/- Walks of the reference of the polygon files: corner. -/
import Derived.Test.YtojdgdeefhndiaaGreatDoorM10
namespace Go.Proofs.YtojdgdeefhndiaaGreatDoor
open Go Go.RowKit Sp
set_option maxRecDepth 100000

theorem numbersS_e {ws : List Bytes} {e : Nat} (h : numbersS ws = .bad e) : e = 10 ∨ e = 11 := by
  unfold numbersS at h
  split at h
  · cases h; exact .inl rfl
  · split at h
    · cases h; exact .inr rfl
    · cases h
/-- What the reference's corner comes to. -/
def cornerR (r : R Pt) (w : World) (en : Ending) (w' : World) : Prop :=
  match r with
  | .ok p => en = .returned (.tuple #[ptV p, .int .i64 0]) ∧ Upd noBlk w w'
  | .bad e => en = .returned (.tuple #[ptV (0, 0, 0), .int .i64 e]) ∧ Upd noBlk w w'
set_option maxHeartbeats 1000000 in
theorem qcorner_any (A : Option Addr) (cap : Nat) (ws : List Bytes) (hl : ws.length ≤ 4294967296) (hs : short ws) (w : World) (h : RdW w A ws) :
    Calls Tryz.prog 67 #[.slice A ws.length cap] w fun en w' => cornerR (cornerS ws) w en w' := by
  have H := Lib.hid h
  have HS := Lib.hid hs
  clear h hs
  by_cases c1 : ws.length = 3
  · obtain ⟨a, b, c, rfl⟩ : ∃ a b c, ws = [a, b, c] := by
      match ws, c1 with
      | [a, b, c], _ => exact ⟨a, b, c, rfl⟩
    clear c1 hl
    have hnum : Calls Tryz.prog 92 #[.slice A 3 cap] (w.alloc (Obj.cells #[Value.int IntKind.i64 0, Value.int IntKind.i64 0, Value.int IntKind.i64 0] 51)) fun en w' => numsR (numbersS [a, b, c]) (w.alloc (Obj.cells #[Value.int IntKind.i64 0, Value.int IntKind.i64 0, Value.int IntKind.i64 0] 51)) en w' :=
      qnumbers_any A cap [a, b, c] (by simp) HS.out _ (RdW.keep H.out ((Upd.refl _ _).alloc _))
    show Calls Tryz.prog 67 #[.slice A 3 cap] w _
    rcases hr : numbersS [a, b, c] with zs | e0
    · rw [hr] at hnum
      have HN := Lib.hid hnum
      have hr' := hr
      rw [← nums_three] at hr'
      obtain ⟨hz, hc⟩ := corner_ok hr'
      subst hz
      have HC := Lib.hid hc
      have hbnd := (numsP_ok hr').2.2.2
      have hb0 := hbnd (Sp.valOf a) (by simp)
      have hb1 := hbnd (Sp.valOf b) (by simp)
      have hb2 := hbnd (Sp.valOf c) (by simp)
      clear hnum hc hr hr' hbnd
      generalize Sp.valOf a = x at *
      generalize Sp.valOf b = y at *
      generalize Sp.valOf c = z at *
      generalize cornerS [a, b, c] = rc at *
      go_enter Tryz.func67, Tryz.ntmps67
      go_wp2_with fail
      refine HN.out.mono ?_
      rintro e w2 hq
      obtain ⟨v, rfl, o, u⟩ := hq
      obtain ⟨g, cp, rfl⟩ : ∃ g cp, v = .slice (some ⟨g, 0, none⟩) 3 cp := by
        rcases o.2 with ⟨_, h0⟩ | ⟨g, cp, _, rfl, _⟩
        · simp at h0
        · exact ⟨g, cp, rfl⟩
      have k0 := o.cellAt 0 (by simp)
      have k1 := o.cellAt 1 (by simp)
      have k2 := o.cellAt 2 (by simp)
      simp only [List.map_cons, List.map_nil, List.getElem?_cons_zero, List.getElem?_cons_succ] at k0 k1 k2
      have hB : w2.heap[w.heap.size]? = some (.cells #[Value.int IntKind.i64 0, Value.int IntKind.i64 0, Value.int IntKind.i64 0] 51) := u.heap (heap_alloc_new _ _) id
      have U : Hid (Upd noBlk w w2) := ((Upd.refl noBlk w).alloc _).trans u
      have f0 : w2.cell? ⟨w.heap.size, 0, none⟩ = some (.int .i64 0) := by simp [World.cell?, hB]
      have f1 : w2.cell? ⟨w.heap.size, 1, none⟩ = some (.int .i64 0) := by simp [World.cell?, hB]
      have f2 : w2.cell? ⟨w.heap.size, 2, none⟩ = some (.int .i64 0) := by simp [World.cell?, hB]
      have z0 : w2.frozen? ⟨w.heap.size, 0, none⟩ = false := by simp [World.frozen?, hB]
      have z1 : w2.frozen? ⟨w.heap.size, 1, none⟩ = false := by simp [World.frozen?, hB]
      have z2 : w2.frozen? ⟨w.heap.size, 2, none⟩ = false := by simp [World.frozen?, hB]
      have HB := Lib.hid hB
      clear o u HN hB
      go_wp2_with fail
      go_loop [3, 6] (fun _ i => ∃ k : Nat, i = .int .i64 k ∧ k ≤ 3 ∧ (0 < k → 0 ≤ x ∧ x ≤ 2097151) ∧ (1 < k → 0 ≤ y ∧ y ≤ 2097151) ∧ (2 < k → 0 ≤ z ∧ z ≤ 2097151)) (fun _ i => 3 - (intOf i).toNat)
      case atStart => exact ⟨0, rfl, by omega, by omega, by omega, by omega⟩
      case round =>
        obtain ⟨k, rfl, hk, h0, h1, h2⟩ := hrel
        obtain rfl | rfl | rfl | rfl : k = 0 ∨ k = 1 ∨ k = 2 ∨ k = 3 := by omega
        · by_cases a1 : x < 0
          · have hin : Hid (inR (x, y, z) = false) := by show _ = _; unfold inR maxCoord; rw [decide_eq_false_iff_not]; simp only; omega
            go_wp2_with fail
            refine bodyPost_ret (v := .tuple #[ptV (0, 0, 0), .int .i64 3]) (by simp [results, Tryz.results67, go_sem, f0, f1, f2, ptV]; try rfl) rfl ?_
            show cornerR rc w _ _
            rw [HC.out, hin.out]
            exact ⟨rfl, ((U.out.setCell (fun h => absurd h (Nat.lt_irrefl _)) _).setCell (fun h => absurd h (Nat.lt_irrefl _)) _).setCell (fun h => absurd h (Nat.lt_irrefl _)) _⟩
          · by_cases a2 : 2097151 < x
            · have hin : Hid (inR (x, y, z) = false) := by show _ = _; unfold inR maxCoord; rw [decide_eq_false_iff_not]; simp only; omega
              go_wp2_with fail
              refine bodyPost_ret (v := .tuple #[ptV (0, 0, 0), .int .i64 3]) (by simp [results, Tryz.results67, go_sem, f0, f1, f2, ptV]; try rfl) rfl ?_
              show cornerR rc w _ _
              rw [HC.out, hin.out]
              exact ⟨rfl, ((U.out.setCell (fun h => absurd h (Nat.lt_irrefl _)) _).setCell (fun h => absurd h (Nat.lt_irrefl _)) _).setCell (fun h => absurd h (Nat.lt_irrefl _)) _⟩
            · go_wp2_with fail
              refine ⟨⟨1, rfl, by omega, by omega, by omega, by omega⟩, by simp [intOf]⟩
        · by_cases a1 : y < 0
          · have hin : Hid (inR (x, y, z) = false) := by show _ = _; unfold inR maxCoord; rw [decide_eq_false_iff_not]; simp only; omega
            go_wp2_with fail
            refine bodyPost_ret (v := .tuple #[ptV (0, 0, 0), .int .i64 3]) (by simp [results, Tryz.results67, go_sem, f0, f1, f2, ptV]; try rfl) rfl ?_
            show cornerR rc w _ _
            rw [HC.out, hin.out]
            exact ⟨rfl, ((U.out.setCell (fun h => absurd h (Nat.lt_irrefl _)) _).setCell (fun h => absurd h (Nat.lt_irrefl _)) _).setCell (fun h => absurd h (Nat.lt_irrefl _)) _⟩
          · by_cases a2 : 2097151 < y
            · have hin : Hid (inR (x, y, z) = false) := by show _ = _; unfold inR maxCoord; rw [decide_eq_false_iff_not]; simp only; omega
              go_wp2_with fail
              refine bodyPost_ret (v := .tuple #[ptV (0, 0, 0), .int .i64 3]) (by simp [results, Tryz.results67, go_sem, f0, f1, f2, ptV]; try rfl) rfl ?_
              show cornerR rc w _ _
              rw [HC.out, hin.out]
              exact ⟨rfl, ((U.out.setCell (fun h => absurd h (Nat.lt_irrefl _)) _).setCell (fun h => absurd h (Nat.lt_irrefl _)) _).setCell (fun h => absurd h (Nat.lt_irrefl _)) _⟩
            · go_wp2_with fail
              refine ⟨⟨2, rfl, by omega, by omega, by omega, by omega⟩, by simp [intOf]⟩
        · by_cases a1 : z < 0
          · have hin : Hid (inR (x, y, z) = false) := by show _ = _; unfold inR maxCoord; rw [decide_eq_false_iff_not]; simp only; omega
            go_wp2_with fail
            refine bodyPost_ret (v := .tuple #[ptV (0, 0, 0), .int .i64 3]) (by simp [results, Tryz.results67, go_sem, f0, f1, f2, ptV]; try rfl) rfl ?_
            show cornerR rc w _ _
            rw [HC.out, hin.out]
            exact ⟨rfl, ((U.out.setCell (fun h => absurd h (Nat.lt_irrefl _)) _).setCell (fun h => absurd h (Nat.lt_irrefl _)) _).setCell (fun h => absurd h (Nat.lt_irrefl _)) _⟩
          · by_cases a2 : 2097151 < z
            · have hin : Hid (inR (x, y, z) = false) := by show _ = _; unfold inR maxCoord; rw [decide_eq_false_iff_not]; simp only; omega
              go_wp2_with fail
              refine bodyPost_ret (v := .tuple #[ptV (0, 0, 0), .int .i64 3]) (by simp [results, Tryz.results67, go_sem, f0, f1, f2, ptV]; try rfl) rfl ?_
              show cornerR rc w _ _
              rw [HC.out, hin.out]
              exact ⟨rfl, ((U.out.setCell (fun h => absurd h (Nat.lt_irrefl _)) _).setCell (fun h => absurd h (Nat.lt_irrefl _)) _).setCell (fun h => absurd h (Nat.lt_irrefl _)) _⟩
            · go_wp2_with fail
              refine ⟨⟨3, rfl, by omega, by omega, by omega, by omega⟩, by simp [intOf]⟩
        · have hin : Hid (inR (x, y, z) = true) := by
            show _ = _; unfold inR maxCoord; rw [decide_eq_true_iff]
            have := h0 (by omega); have := h1 (by omega); have := h2 (by omega)
            refine ⟨?_, ?_, ?_, ?_, ?_, ?_⟩ <;> simp only <;> omega
          have HK : Hid (w2.cell? ⟨g, 0, none⟩ = some (.int .i64 x) ∧ w2.cell? ⟨g, 1, none⟩ = some (.int .i64 y) ∧ w2.cell? ⟨g, 2, none⟩ = some (.int .i64 z)) := ⟨k0, k1, k2⟩
          clear h0 h1 h2
          go_wp2_with fail
          refine wp_region_tree 10 (OT.sures [0, 1, 2, 3, 4, 5, 6, 7, 8, 9] .nil) (fun w' => w'.cell? ⟨g, 0, none⟩ = some (.int .i64 x) ∧ w'.cell? ⟨g, 1, none⟩ = some (.int .i64 y) ∧ w'.cell? ⟨g, 2, none⟩ = some (.int .i64 z)) (by kernel_rfl) (by kernel_rfl) (fun c a d v w h => by cases d <;> exact h) HK.out ?_
          simp only [OT.sures]
          iterate 10 (apply wpT_sure rfl rfl; focus (intro w' hw'; obtain ⟨g1, g2, g3⟩ := hw'; go_simp; rfl))
          refine wpT_nil ?_
          simp only [List.drop_succ_cons, List.drop_zero]
          have f0' : w2.drew.cell? ⟨w.heap.size, 0, none⟩ = some (.int .i64 0) := f0
          have f1' : w2.drew.cell? ⟨w.heap.size, 1, none⟩ = some (.int .i64 0) := f1
          have f2' : w2.drew.cell? ⟨w.heap.size, 2, none⟩ = some (.int .i64 0) := f2
          have z0' : w2.drew.frozen? ⟨w.heap.size, 0, none⟩ = false := z0
          have z1' : w2.drew.frozen? ⟨w.heap.size, 1, none⟩ = false := z1
          have z2' : w2.drew.frozen? ⟨w.heap.size, 2, none⟩ = false := z2
          go_wp2_with fail
          refine bodyPost_ret (v := .tuple #[ptV (x, y, z), .int .i64 0]) (by simp [results, Tryz.results67, go_sem, f0, f1, f2, ptV]; try rfl) rfl ?_
          show cornerR rc w _ _
          rw [HC.out, hin.out]
          exact ⟨rfl, (((U.out.setCell (fun h => absurd h (Nat.lt_irrefl _)) _).setCell (fun h => absurd h (Nat.lt_irrefl _)) _).setCell (fun h => absurd h (Nat.lt_irrefl _)) _).drew⟩
    · rw [hr] at hnum
      have HN := Lib.hid hnum
      have hne : (((e0 : Nat) : Int) != 0) = true := by
        rw [bne_iff_ne]; have := numbersS_e hr; omega
      rw [← nums_three] at hr
      rw [corner_bad hr]
      clear hnum hr
      go_enter Tryz.func67, Tryz.ntmps67
      go_wp2_with fail
      refine HN.out.mono ?_
      rintro e w2 ⟨rfl, u⟩
      have hB : w2.heap[w.heap.size]? = some (.cells #[Value.int IntKind.i64 0, Value.int IntKind.i64 0, Value.int IntKind.i64 0] 51) := u.heap (heap_alloc_new _ _) id
      have U : Hid (Upd noBlk w w2) := ((Upd.refl noBlk w).alloc _).trans u
      have f0 : w2.cell? ⟨w.heap.size, 0, none⟩ = some (.int .i64 0) := by simp [World.cell?, hB]
      have f1 : w2.cell? ⟨w.heap.size, 1, none⟩ = some (.int .i64 0) := by simp [World.cell?, hB]
      have f2 : w2.cell? ⟨w.heap.size, 2, none⟩ = some (.int .i64 0) := by simp [World.cell?, hB]
      have z0 : w2.frozen? ⟨w.heap.size, 0, none⟩ = false := by simp [World.frozen?, hB]
      have z1 : w2.frozen? ⟨w.heap.size, 1, none⟩ = false := by simp [World.frozen?, hB]
      have z2 : w2.frozen? ⟨w.heap.size, 2, none⟩ = false := by simp [World.frozen?, hB]
      clear u hB
      go_wp2_with fail
      refine bodyPost_ret (v := .tuple #[ptV (0, 0, 0), .int .i64 e0]) (by simp [results, Tryz.results67, go_sem, f0, f1, f2, ptV]; try rfl) rfl ?_
      exact ⟨rfl, ((U.out.setCell (fun h => absurd h (Nat.lt_irrefl _)) _).setCell (fun h => absurd h (Nat.lt_irrefl _)) _).setCell (fun h => absurd h (Nat.lt_irrefl _)) _⟩
  · have hp := Lib.hid (corner_short c1)
    rw [hp.out]
    clear H HS hl
    generalize ws.length = n at *
    have c1' : (((n : Nat) : Int) != 3) = true := by rw [bne_iff_ne]; omega
    clear c1
    go_enter Tryz.func67, Tryz.ntmps67
    go_wp2_with fail
    refine bodyPost_ret (v := .tuple #[ptV (0, 0, 0), .int .i64 10]) (by simp [results, Tryz.results67, go_sem, ptV]; try rfl) rfl ?_
    exact ⟨rfl, (Upd.refl _ _).alloc _⟩
end Go.Proofs.YtojdgdeefhndiaaGreatDoor
