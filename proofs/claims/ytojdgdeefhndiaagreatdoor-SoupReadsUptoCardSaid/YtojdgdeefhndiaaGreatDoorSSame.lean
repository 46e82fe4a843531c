/- Walks of the reference of the polygon files: Same, where it says yes. Slices of polygons at any address. -/
import Derived.Test.YtojdgdeefhndiaaGreatDoorSRefN
import Derived.Deep.QuietTactic
namespace Go.Proofs.YtojdgdeefhndiaaGreatDoor
open Go Go.RowKit Sp
set_option maxRecDepth 100000

/-- The three cells of a corner. -/
def PtAt (w : World) (b o : Nat) (p : Pt) : Prop := w.cell? ⟨b, o, none⟩ = some (.int .i64 p.1) ∧ w.cell? ⟨b, o + 1, none⟩ = some (.int .i64 p.2.1) ∧ w.cell? ⟨b, o + 2, none⟩ = some (.int .i64 p.2.2)
/-- A slice of corners at any address. -/
def RdPts (w : World) (v : Value) (l : List Pt) : Prop := ∃ A cap, v = .slice A l.length cap ∧ (0 < l.length → ∃ b off, A = some ⟨b, off, none⟩ ∧ ∀ j (h : j < l.length), PtAt w b (off + j * 3) l[j])
/-- A slice of polygons at any address. -/
def RdPolys (w : World) (v : Value) (ps : List Poly) : Prop := ∃ A cap, v = .slice A ps.length cap ∧ (0 < ps.length → ∃ b off, A = some ⟨b, off, none⟩ ∧ ∀ j (h : j < ps.length), ∃ pv, w.cell? ⟨b, off + j * 2, none⟩ = some pv ∧ w.cell? ⟨b, off + j * 2 + 1, none⟩ = some (.int .i64 ps[j].2) ∧ RdPts w pv ps[j].1)
theorem PtAt.keep {w w' : World} {b o : Nat} {p : Pt} (h : PtAt w b o p) (hu : Upd noBlk w w') : PtAt w' b o p := ⟨hu.cell h.1 id, hu.cell h.2.1 id, hu.cell h.2.2 id⟩
theorem RdPts.keep {w w' : World} {v : Value} {l : List Pt} (h : RdPts w v l) (hu : Upd noBlk w w') : RdPts w' v l := by
  obtain ⟨A, cap, e, h1⟩ := h
  refine ⟨A, cap, e, fun h0 => ?_⟩
  obtain ⟨b, off, e2, h2⟩ := h1 h0
  exact ⟨b, off, e2, fun j hj => (h2 j hj).keep hu⟩
theorem RdPolys.keep {w w' : World} {v : Value} {l : List Poly} (h : RdPolys w v l) (hu : Upd noBlk w w') : RdPolys w' v l := by
  obtain ⟨A, cap, e, h1⟩ := h
  refine ⟨A, cap, e, fun h0 => ?_⟩
  obtain ⟨b, off, e2, h2⟩ := h1 h0
  refine ⟨b, off, e2, fun j hj => ?_⟩
  obtain ⟨pv, h3, h4, h5⟩ := h2 j hj
  exact ⟨pv, hu.cell h3 id, hu.cell h4 id, h5.keep hu⟩
theorem flat3_get (l : List Pt) (j : Nat) (hj : j < l.length) : (ptsVs l)[j * 3]? = some (.int .i64 l[j].1) ∧ (ptsVs l)[j * 3 + 1]? = some (.int .i64 l[j].2.1) ∧ (ptsVs l)[j * 3 + 2]? = some (.int .i64 l[j].2.2) := by
  induction l generalizing j with
  | nil => simp at hj
  | cons a l ih =>
    cases j with
    | zero => exact ⟨rfl, rfl, rfl⟩
    | succ j =>
      obtain ⟨h1, h2, h3⟩ := ih j (by simpa using hj)
      have e : ptsVs (a :: l) = .int .i64 a.1 :: .int .i64 a.2.1 :: .int .i64 a.2.2 :: ptsVs l := rfl
      rw [e, show (j + 1) * 3 = j * 3 + 1 + 1 + 1 by omega, show j * 3 + 1 + 1 + 1 + 1 = (j * 3 + 1) + 1 + 1 + 1 by omega, show j * 3 + 1 + 1 + 1 + 2 = (j * 3 + 2) + 1 + 1 + 1 by omega]
      simp only [List.getElem?_cons_succ, List.getElem_cons_succ]
      exact ⟨h1, h2, h3⟩
theorem flat2_get (l : List (Value × Poly)) (j : Nat) (hj : j < l.length) : (polyVs l)[j * 2]? = some l[j].1 ∧ (polyVs l)[j * 2 + 1]? = some (.int .i64 l[j].2.2) := by
  induction l generalizing j with
  | nil => simp at hj
  | cons a l ih =>
    cases j with
    | zero => exact ⟨rfl, rfl⟩
    | succ j =>
      obtain ⟨h1, h2⟩ := ih j (by simpa using hj)
      have e : polyVs (a :: l) = a.1 :: .int .i64 a.2.2 :: polyVs l := rfl
      rw [e, show (j + 1) * 2 = j * 2 + 1 + 1 by omega, show j * 2 + 1 + 1 + 1 = (j * 2 + 1) + 1 + 1 by omega]
      simp only [List.getElem?_cons_succ, List.getElem_cons_succ]
      exact ⟨h1, h2⟩
theorem OwnPts.rd {w : World} {base : Nat} {v : Value} {l : List Pt} (h : OwnPts base w v l) : RdPts w v l := by
  obtain ⟨A, cap, rfl⟩ := own_form h
  refine ⟨A, cap, rfl, fun h0 => ?_⟩
  rcases h.2 with ⟨_, h1⟩ | ⟨g, c, cur, e, _⟩
  · omega
  · cases e
    have hl : (ptsVs l).length = l.length * 3 := h.1
    refine ⟨g, 0, rfl, fun j hj => ?_⟩
    obtain ⟨a1, a2, a3⟩ := flat3_get l j hj
    rw [Nat.zero_add]
    exact ⟨by rw [World.ownsRow.cellAt h (j * 3) (by omega)]; exact a1, by rw [World.ownsRow.cellAt h (j * 3 + 1) (by omega)]; exact a2, by rw [World.ownsRow.cellAt h (j * 3 + 2) (by omega)]; exact a3⟩
theorem OwnPolys.rd {w : World} {base : Nat} {v : Value} {ps : List Poly} (h : OwnPolys base w v ps) : RdPolys w v ps := by
  obtain ⟨qs, rfl, h1, h2⟩ := h
  obtain ⟨A, cap, rfl⟩ := own_form h2
  refine ⟨A, cap, by rw [List.length_map], fun h0 => ?_⟩
  rcases h2.2 with ⟨_, h3⟩ | ⟨g, c, cur, e, _⟩
  · simp at h0; omega
  · cases e
    have hl : (polyVs qs).length = qs.length * 2 := h2.1
    refine ⟨g, 0, rfl, fun j hj => ?_⟩
    rw [List.length_map] at hj
    obtain ⟨a1, a2⟩ := flat2_get qs j hj
    rw [Nat.zero_add, List.getElem_map]
    exact ⟨qs[j].1, by rw [World.ownsRow.cellAt h2 (j * 2) (by omega)]; exact a1, by rw [World.ownsRow.cellAt h2 (j * 2 + 1) (by omega)]; exact a2, (h1 _ (List.getElem_mem hj)).rd⟩

set_option maxHeartbeats 1500000 in
theorem qSame_yes (v1 v2 : Value) (ps qs : List Poly) (places : Bool) (hl : ps.length = qs.length) (hc : ∀ j (h1 : j < ps.length) (h2 : j < qs.length), ps[j].1 = qs[j].1 ∧ (places = true → ps[j].2 = qs[j].2)) (hn : qs.length ≤ 4294967296) (hm : ∀ p, p ∈ qs → p.1.length ≤ 4294967296)
    (w : World) (h1 : RdPolys w v1 ps) (h2 : RdPolys w v2 qs) :
    Calls Tryz.prog 18 #[v1, v2, .bool places] w fun en w' => en = .returned (.bool true) ∧ ∃ n, w' = w.drewN n := by
  obtain ⟨A1, cap1, rfl, g1⟩ := h1
  obtain ⟨A2, cap2, rfl, g2⟩ := h2
  have G1 := Lib.hid g1
  have G2 := Lib.hid g2
  have HC := Lib.hid hc
  have HM := Lib.hid hm
  have HL := Lib.hid hl
  clear g1 g2 hc hm
  rw [hl]
  clear hl
  go_enter Tryz.func18, Tryz.ntmps18
  go_wp2_with fail
  go_loopw [7, 8] (fun i _ wr => ∃ (k n : Nat), i = .int .i64 k ∧ k ≤ qs.length ∧ wr = w.drewN n) (fun i _ _ => qs.length - (intOf i).toNat)
  case atStart => exact ⟨0, 0, rfl, Nat.zero_le _, rfl⟩
  case round =>
    obtain ⟨k, n, rfl, hk, rfl⟩ := hrel
    by_cases hlt : k < qs.length
    · have hlt' : ((k : Nat) : Int) < ((qs.length : Nat) : Int) := by omega
      obtain ⟨b1, o1, rfl, f1⟩ := G1.out (by rw [HL.out]; omega)
      obtain ⟨b2, o2, rfl, f2⟩ := G2.out (by omega)
      obtain ⟨pv1, c10, c11, r1⟩ := f1 k (by rw [HL.out]; exact hlt)
      obtain ⟨pv2, c20, c21, r2⟩ := f2 k hlt
      obtain ⟨hce, hpe⟩ := HC.out k (by rw [HL.out]; exact hlt) hlt
      have hml := HM.out qs[k] (List.getElem_mem hlt)
      rw [hce] at r1
      generalize (qs[k]).1 = pts at *
      obtain ⟨B1, cp1, rfl, e1⟩ := r1
      obtain ⟨B2, cp2, rfl, e2⟩ := r2
      have E1 := Lib.hid e1
      have E2 := Lib.hid e2
      have hpl : places = false ∨ (places = true ∧ w.cell? ⟨b1, o1 + k * 2 + 1, none⟩ = some (.int .i64 qs[k].2) ∧ w.cell? ⟨b2, o2 + k * 2 + 1, none⟩ = some (.int .i64 qs[k].2)) := by
        cases places with
        | false => exact .inl rfl
        | true => exact .inr ⟨rfl, by rw [c11, hpe rfl], c21⟩
      clear f1 f2 e1 e2 hce hpe c11 c21
      rcases hpl with rfl | ⟨rfl, c11, c21⟩
      all_goals
        go_wp2_with fail
        go_quiet (fail)
        go_wp2_with fail
        go_loopw [8] (fun i wr => ∃ (j m : Nat), i = .int .i64 j ∧ j ≤ pts.length ∧ wr = w.drewN m) (fun i _ => pts.length - (intOf i).toNat)
        case atStart => exact ⟨0, _, rfl, Nat.zero_le _, World.drewN_drewN _ _ _⟩
        case round =>
          obtain ⟨j, m, rfl, hj, rfl⟩ := hrel
          by_cases hjt : j < pts.length
          · have hjt' : ((j : Nat) : Int) < ((pts.length : Nat) : Int) := by omega
            obtain ⟨d1, p1, rfl, g1⟩ := E1.out (by omega)
            obtain ⟨d2, p2, rfl, g2⟩ := E2.out (by omega)
            obtain ⟨x1, x2, x3⟩ := g1 j hjt
            obtain ⟨y1, y2, y3⟩ := g2 j hjt
            clear g1 g2
            generalize pts[j] = pt at *
            obtain ⟨px, py, pz⟩ := pt
            simp only at x1 x2 x3 y1 y2 y3
            go_wp2_with fail
            go_quiet (fail)
            go_wp2_with fail
            exact ⟨⟨j + 1, _, by go_num, hjt, rfl⟩, by simp [intOf]; omega⟩
          · obtain rfl : j = pts.length := by omega
            go_wp2_with fail
            exact ⟨⟨k + 1, _, by go_num, hlt, rfl⟩, by simp [intOf]; omega⟩
    · obtain rfl : k = qs.length := by omega
      go_wp2_with fail
      go_ret
      exact ⟨rfl, n, rfl⟩
end Go.Proofs.YtojdgdeefhndiaaGreatDoor
