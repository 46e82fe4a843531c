/- Walks of the reference of the polygon files: Same, where it says yes. No condition. What a call leaves, and the shapes of the world. No condition. Walks of the laws of the polygon files: sanity. No condition. What a reading of an argument tells, in general: a slice of elements, each read off its cells. No condition. What a reading of an argument tells; and a world for the witness, in which the listed variables hold what the text lays. No condition. What a reading of an argument tells (polygon files): a byte, three bytes. No condition. -/
import Derived.Test.YtojdgdeefhndiaaDoorM14
import Derived.Deep.QuietTactic
import Derived.Test.YtojdgdeefhndiaaDoorM2
import Derived.ProofKit
import Derived.OpenShut
import Derived.ChangeOld
import Derived.Deep.SlicePairs
import Derived.Deep.Grids
import Derived.WideKeyPair
import Derived.Test.YtojdgdeefhndiaaDoorCards
import Derived.Test.YtojdgdeefhndiaaDoorTie
import Derived.WalkKit
import Derived.ShutString
import Derived.Below
import Derived.Carry
import Derived.Laws.IdiomArrays
import Derived.Deep.DeepHandedRow
import Derived.Deep.DeepWitnessRowRef
import Derived.Lib.LaidTab
namespace Go.Proofs.YtojdgdeefhndiaaDoor
open Go Go.RowKit Sp
set_option maxRecDepth 100000
theorem own_form {w : World} {base n : Nat} {T : TypeId} {s : Nat} {v : Value} {xs : List Value} (h : w.ownsRow base T s v n xs) : ∃ A cap, v = .slice A n cap := by
  rcases h.2 with ⟨rfl, h0⟩ | ⟨g, cap, cur, rfl, _⟩
  · exact ⟨none, 0, by rw [h0]⟩
  · exact ⟨_, _, rfl⟩
/-- The three cells of a corner. -/
def PtAt (w : World) (b o : Nat) (p : Pt) : Prop := w.cell? ⟨b, o, none⟩ = some (.int .i64 p.1) ∧ w.cell? ⟨b, o + 1, none⟩ = some (.int .i64 p.2.1) ∧ w.cell? ⟨b, o + 2, none⟩ = some (.int .i64 p.2.2)
/-- A slice of corners at any address. -/
def RdPts (w : World) (v : Value) (l : List Pt) : Prop := ∃ A cap, v = .slice A l.length cap ∧ (0 < l.length → ∃ b off, A = some ⟨b, off, none⟩ ∧ ∀ j (h : j < l.length), PtAt w b (off + j * 3) l[j])
/-- A slice of polygons at any address. -/
def RdPolys (w : World) (v : Value) (ps : List Poly) : Prop := ∃ A cap, v = .slice A ps.length cap ∧ (0 < ps.length → ∃ b off, A = some ⟨b, off, none⟩ ∧ ∀ j (h : j < ps.length), ∃ pv, w.cell? ⟨b, off + j * 2, none⟩ = some pv ∧ w.cell? ⟨b, off + j * 2 + 1, none⟩ = some (.int .i64 ps[j].2) ∧ RdPts w pv ps[j].1)
theorem PtAt.keep {w w' : World} {b o : Nat} {p : Pt} (h : PtAt w b o p) (hu : Upd noBlk w w') : PtAt w' b o p := ⟨hu.cell h.1 id, hu.cell h.2.1 id, hu.cell h.2.2 id⟩
theorem RdPts.keep {w w' : World} {v : Value} {l : List Pt} (h : RdPts w v l) (hu : Upd noBlk w w') : RdPts w' v l := by
  obtain ⟨A, cap, e, h1⟩ := h
  refine ⟨A, cap, e, fun h0 => ?_⟩
  obtain ⟨b, off, e2, h2⟩ := h1 h0
  exact ⟨b, off, e2, fun j hj => (h2 j hj).keep hu⟩
theorem RdPolys.keep {w w' : World} {v : Value} {l : List Poly} (h : RdPolys w v l) (hu : Upd noBlk w w') : RdPolys w' v l := by
  obtain ⟨A, cap, e, h1⟩ := h
  refine ⟨A, cap, e, fun h0 => ?_⟩
  obtain ⟨b, off, e2, h2⟩ := h1 h0
  refine ⟨b, off, e2, fun j hj => ?_⟩
  obtain ⟨pv, h3, h4, h5⟩ := h2 j hj
  exact ⟨pv, hu.cell h3 id, hu.cell h4 id, h5.keep hu⟩
theorem flat3_get (l : List Pt) (j : Nat) (hj : j < l.length) : (ptsVs l)[j * 3]? = some (.int .i64 l[j].1) ∧ (ptsVs l)[j * 3 + 1]? = some (.int .i64 l[j].2.1) ∧ (ptsVs l)[j * 3 + 2]? = some (.int .i64 l[j].2.2) := by
  induction l generalizing j with
  | nil => simp at hj
  | cons a l ih =>
    cases j with
    | zero => exact ⟨rfl, rfl, rfl⟩
    | succ j =>
      obtain ⟨h1, h2, h3⟩ := ih j (by simpa using hj)
      have e : ptsVs (a :: l) = .int .i64 a.1 :: .int .i64 a.2.1 :: .int .i64 a.2.2 :: ptsVs l := rfl
      rw [e, show (j + 1) * 3 = j * 3 + 1 + 1 + 1 by omega, show j * 3 + 1 + 1 + 1 + 1 = (j * 3 + 1) + 1 + 1 + 1 by omega, show j * 3 + 1 + 1 + 1 + 2 = (j * 3 + 2) + 1 + 1 + 1 by omega]
      simp only [List.getElem?_cons_succ, List.getElem_cons_succ]
      exact ⟨h1, h2, h3⟩
theorem flat2_get (l : List (Value × Poly)) (j : Nat) (hj : j < l.length) : (polyVs l)[j * 2]? = some l[j].1 ∧ (polyVs l)[j * 2 + 1]? = some (.int .i64 l[j].2.2) := by
  induction l generalizing j with
  | nil => simp at hj
  | cons a l ih =>
    cases j with
    | zero => exact ⟨rfl, rfl⟩
    | succ j =>
      obtain ⟨h1, h2⟩ := ih j (by simpa using hj)
      have e : polyVs (a :: l) = a.1 :: .int .i64 a.2.2 :: polyVs l := rfl
      rw [e, show (j + 1) * 2 = j * 2 + 1 + 1 by omega, show j * 2 + 1 + 1 + 1 = (j * 2 + 1) + 1 + 1 by omega]
      simp only [List.getElem?_cons_succ, List.getElem_cons_succ]
      exact ⟨h1, h2⟩
theorem OwnPts.rd {w : World} {base : Nat} {v : Value} {l : List Pt} (h : OwnPts base w v l) : RdPts w v l := by
  obtain ⟨A, cap, rfl⟩ := own_form h
  refine ⟨A, cap, rfl, fun h0 => ?_⟩
  rcases h.2 with ⟨_, h1⟩ | ⟨g, c, cur, e, _⟩
  · omega
  · cases e
    have hl : (ptsVs l).length = l.length * 3 := h.1
    refine ⟨g, 0, rfl, fun j hj => ?_⟩
    obtain ⟨a1, a2, a3⟩ := flat3_get l j hj
    rw [Nat.zero_add]
    exact ⟨by rw [World.ownsRow.cellAt h (j * 3) (by omega)]; exact a1, by rw [World.ownsRow.cellAt h (j * 3 + 1) (by omega)]; exact a2, by rw [World.ownsRow.cellAt h (j * 3 + 2) (by omega)]; exact a3⟩
theorem OwnPolys.rd {w : World} {base : Nat} {v : Value} {ps : List Poly} (h : OwnPolys base w v ps) : RdPolys w v ps := by
  obtain ⟨qs, rfl, h1, h2⟩ := h
  obtain ⟨A, cap, rfl⟩ := own_form h2
  refine ⟨A, cap, by rw [List.length_map], fun h0 => ?_⟩
  rcases h2.2 with ⟨_, h3⟩ | ⟨g, c, cur, e, _⟩
  · simp at h0; omega
  · cases e
    have hl : (polyVs qs).length = qs.length * 2 := h2.1
    refine ⟨g, 0, rfl, fun j hj => ?_⟩
    rw [List.length_map] at hj
    obtain ⟨a1, a2⟩ := flat2_get qs j hj
    rw [Nat.zero_add, List.getElem_map]
    exact ⟨qs[j].1, by rw [World.ownsRow.cellAt h2 (j * 2) (by omega)]; exact a1, by rw [World.ownsRow.cellAt h2 (j * 2 + 1) (by omega)]; exact a2, (h1 _ (List.getElem_mem hj)).rd⟩

set_option maxHeartbeats 1500000 in
theorem qSame_yes (v1 v2 : Value) (ps qs : List Poly) (places : Bool) (hl : ps.length = qs.length) (hc : ∀ j (h1 : j < ps.length) (h2 : j < qs.length), ps[j].1 = qs[j].1 ∧ (places = true → ps[j].2 = qs[j].2)) (hn : qs.length ≤ 4294967296) (hm : ∀ p, p ∈ qs → p.1.length ≤ 4294967296)
    (w : World) (h1 : RdPolys w v1 ps) (h2 : RdPolys w v2 qs) :
    Calls Tryd.prog 7 #[v1, v2, .bool places] w fun en w' => en = .returned (.bool true) ∧ ∃ n, w' = w.drewN n := by
  obtain ⟨A1, cap1, rfl, g1⟩ := h1
  obtain ⟨A2, cap2, rfl, g2⟩ := h2
  have G1 := Lib.hid g1
  have G2 := Lib.hid g2
  have HC := Lib.hid hc
  have HM := Lib.hid hm
  have HL := Lib.hid hl
  clear g1 g2 hc hm
  rw [hl]
  clear hl
  go_enter Tryd.func7, Tryd.ntmps7
  go_wp2_with fail
  go_loopw [7, 8] (fun i _ wr => ∃ (k n : Nat), i = .int .i64 k ∧ k ≤ qs.length ∧ wr = w.drewN n) (fun i _ _ => qs.length - (intOf i).toNat)
  case atStart => exact ⟨0, 0, rfl, Nat.zero_le _, rfl⟩
  case round =>
    obtain ⟨k, n, rfl, hk, rfl⟩ := hrel
    by_cases hlt : k < qs.length
    · have hlt' : ((k : Nat) : Int) < ((qs.length : Nat) : Int) := by omega
      obtain ⟨b1, o1, rfl, f1⟩ := G1.out (by rw [HL.out]; omega)
      obtain ⟨b2, o2, rfl, f2⟩ := G2.out (by omega)
      obtain ⟨pv1, c10, c11, r1⟩ := f1 k (by rw [HL.out]; exact hlt)
      obtain ⟨pv2, c20, c21, r2⟩ := f2 k hlt
      obtain ⟨hce, hpe⟩ := HC.out k (by rw [HL.out]; exact hlt) hlt
      have hml := HM.out qs[k] (List.getElem_mem hlt)
      rw [hce] at r1
      generalize (qs[k]).1 = pts at *
      obtain ⟨B1, cp1, rfl, e1⟩ := r1
      obtain ⟨B2, cp2, rfl, e2⟩ := r2
      have E1 := Lib.hid e1
      have E2 := Lib.hid e2
      have hpl : places = false ∨ (places = true ∧ w.cell? ⟨b1, o1 + k * 2 + 1, none⟩ = some (.int .i64 qs[k].2) ∧ w.cell? ⟨b2, o2 + k * 2 + 1, none⟩ = some (.int .i64 qs[k].2)) := by
        cases places with
        | false => exact .inl rfl
        | true => exact .inr ⟨rfl, by rw [c11, hpe rfl], c21⟩
      clear f1 f2 e1 e2 hce hpe c11 c21
      rcases hpl with rfl | ⟨rfl, c11, c21⟩
      all_goals
        go_wp2_with fail
        go_quiet (fail)
        go_wp2_with fail
        go_loopw [8] (fun i wr => ∃ (j m : Nat), i = .int .i64 j ∧ j ≤ pts.length ∧ wr = w.drewN m) (fun i _ => pts.length - (intOf i).toNat)
        case atStart => exact ⟨0, _, rfl, Nat.zero_le _, World.drewN_drewN _ _ _⟩
        case round =>
          obtain ⟨j, m, rfl, hj, rfl⟩ := hrel
          by_cases hjt : j < pts.length
          · have hjt' : ((j : Nat) : Int) < ((pts.length : Nat) : Int) := by omega
            obtain ⟨d1, p1, rfl, g1⟩ := E1.out (by omega)
            obtain ⟨d2, p2, rfl, g2⟩ := E2.out (by omega)
            obtain ⟨x1, x2, x3⟩ := g1 j hjt
            obtain ⟨y1, y2, y3⟩ := g2 j hjt
            clear g1 g2
            generalize pts[j] = pt at *
            obtain ⟨px, py, pz⟩ := pt
            simp only at x1 x2 x3 y1 y2 y3
            go_wp2_with fail
            go_quiet (fail)
            go_wp2_with fail
            exact ⟨⟨j + 1, _, by go_num, hjt, rfl⟩, by simp [intOf]; omega⟩
          · obtain rfl : j = pts.length := by omega
            go_wp2_with fail
            exact ⟨⟨k + 1, _, by go_num, hlt, rfl⟩, by simp [intOf]; omega⟩
    · obtain rfl : k = qs.length := by omega
      go_wp2_with fail
      go_ret
      exact ⟨rfl, n, rfl⟩
end Go.Proofs.YtojdgdeefhndiaaDoor
namespace Go.Proofs.YtojdgdeefhndiaaDoor
open Go Go.RowKit Sp
set_option maxRecDepth 100000
theorem Upd.shaped {w w' : World} (h : Upd noBlk w w') (hs : w.ShapedOpen Tryd.prog) : w'.ShapedOpen Tryd.prog := shaped_same hs (fun k hk => h.block k hk id)
theorem ba_size (a b : ByteArray) : (a ++ b).size = a.size + b.size := ByteArray.size_append
theorem bs_extract (s : Bytes) (a k : Nat) : (bs s).extract a k = bs ((s.drop a).take (k - a)) := by
  apply ByteArray.ext
  apply Array.ext'
  rw [data_extract, bs_data, bs_data]
end Go.Proofs.YtojdgdeefhndiaaDoor
namespace Go.Proofs.YtojdgdeefhndiaaDoor
open Go Go.RowKit Sp
set_option maxRecDepth 100000

theorem read_closed (s : Bytes) (r : Out) (h : readS s = r) (hs : s.length ≤ 100) (w : World) (hsh : w.ShapedOpen Tryd.prog) : Calls Tryd.prog 6 #[.string (bs s)] w fun en w' => readQ r w en w' := by
  have := read_any s (by omega) w hsh
  rw [h] at this
  exact this
theorem san1 (w : World) (hsh : w.ShapedOpen Tryd.prog) : Calls Tryd.prog 6 #[.string ⟨#[118, 32, 48, 32, 48, 32, 48, 10, 118, 32, 57, 32, 48, 32, 48, 10, 118, 32, 48, 32, 57, 32, 48, 32, 35, 32, 116, 111, 112, 10, 102, 32, 49, 32, 50, 32, 45, 49, 10]⟩] w fun en w' => readQ (.ok [([(0, 0, 0), (9, 0, 0), (0, 9, 0)], 4)]) w en w' :=
  read_closed [118, 32, 48, 32, 48, 32, 48, 10, 118, 32, 57, 32, 48, 32, 48, 10, 118, 32, 48, 32, 57, 32, 48, 32, 35, 32, 116, 111, 112, 10, 102, 32, 49, 32, 50, 32, 45, 49, 10] (.ok [([(0, 0, 0), (9, 0, 0), (0, 9, 0)], 4)]) (by kernel_rfl) (by decide) w hsh
theorem san2 (w : World) (hsh : w.ShapedOpen Tryd.prog) : Calls Tryd.prog 6 #[.string ⟨#[112, 111, 108, 121, 32, 51, 10, 49, 32, 50, 32, 51, 10, 52, 32, 53, 32, 54]⟩] w fun en w' => readQ (.bad 3 12) w en w' :=
  read_closed [112, 111, 108, 121, 32, 51, 10, 49, 32, 50, 32, 51, 10, 52, 32, 53, 32, 54] (.bad 3 12) (by kernel_rfl) (by decide) w hsh
theorem san3 (w : World) (hsh : w.ShapedOpen Tryd.prog) : Calls Tryd.prog 6 #[.string ⟨#[118, 32, 49, 32, 50]⟩] w fun en w' => readQ (.bad 1 10) w en w' :=
  read_closed [118, 32, 49, 32, 50] (.bad 1 10) (by kernel_rfl) (by decide) w hsh
theorem san4 (w : World) (hsh : w.ShapedOpen Tryd.prog) : Calls Tryd.prog 6 #[.string ⟨#[118, 32, 49, 32, 50, 32, 45, 51]⟩] w fun en w' => readQ (.bad 1 3) w en w' :=
  read_closed [118, 32, 49, 32, 50, 32, 45, 51] (.bad 1 3) (by kernel_rfl) (by decide) w hsh
theorem san5 (w : World) (hsh : w.ShapedOpen Tryd.prog) : Calls Tryd.prog 6 #[.string ⟨#[102, 32, 49, 32, 49, 32, 49]⟩] w fun en w' => readQ (.bad 1 14) w en w' :=
  read_closed [102, 32, 49, 32, 49, 32, 49] (.bad 1 14) (by kernel_rfl) (by decide) w hsh
theorem san6 (w : World) (hsh : w.ShapedOpen Tryd.prog) : Calls Tryd.prog 6 #[.string ⟨#[83, 79, 85, 80, 1, 0, 0, 0, 2]⟩] w fun en w' => readQ (.bad 8 11) w en w' :=
  read_closed [83, 79, 85, 80, 1, 0, 0, 0, 2] (.bad 8 11) (by kernel_rfl) (by decide) w hsh
set_option maxHeartbeats 1000000 in
theorem sanity_any (w : World) (hsh : w.ShapedOpen Tryd.prog) : Calls Tryd.prog 4 #[] w fun en w' => en = .returned (.bool true) ∧ Upd noBlk w w' := by
  have H1 := Lib.hid (san1 w hsh)
  have HSH := Lib.hid hsh
  clear hsh
  go_enter Tryd.func4, Tryd.ntmps4
  go_wp2_with fail
  refine H1.out.mono ?_
  rintro e1 w1 ⟨v1, rfl, o1, u1⟩
  have O1 := Lib.hid o1.rd
  have U1 := Lib.hid u1
  clear o1 u1
  have H2 := Lib.hid (san2 w1 (U1.out.shaped HSH.out))
  go_wp2_with fail
  refine H2.out.mono ?_
  rintro e1 w2 ⟨rfl, u2⟩
  have U2 := Lib.hid (U1.out.trans u2)
  have O2 := Lib.hid (O1.out.keep u2)
  clear u2 U1 O1 H2
  have H3 := Lib.hid (san3 w2 (U2.out.shaped HSH.out))
  go_wp2_with fail
  refine H3.out.mono ?_
  rintro e1 w3 ⟨rfl, u3⟩
  have U3 := Lib.hid (U2.out.trans u3)
  have O3 := Lib.hid (O2.out.keep u3)
  clear u3 U2 O2 H3
  have H4 := Lib.hid (san4 w3 (U3.out.shaped HSH.out))
  go_wp2_with fail
  refine H4.out.mono ?_
  rintro e1 w4 ⟨rfl, u4⟩
  have U4 := Lib.hid (U3.out.trans u4)
  have O4 := Lib.hid (O3.out.keep u4)
  clear u4 U3 O3 H4
  have H5 := Lib.hid (san5 w4 (U4.out.shaped HSH.out))
  go_wp2_with fail
  refine H5.out.mono ?_
  rintro e1 w5 ⟨rfl, u5⟩
  have U5 := Lib.hid (U4.out.trans u5)
  have O5 := Lib.hid (O4.out.keep u5)
  clear u5 U4 O4 H5
  have H6 := Lib.hid (san6 w5 (U5.out.shaped HSH.out))
  go_wp2_with fail
  refine H6.out.mono ?_
  rintro e1 w6 ⟨rfl, u6⟩
  have U6 := Lib.hid (U5.out.trans u6)
  have O6 := Lib.hid (O5.out.keep u6)
  clear u6 U5 O5 H6
  have HS : Hid (∀ W, W = (w6.alloc (.cells #[.int .i64 0, .int .i64 0, .int .i64 0, .int .i64 9, .int .i64 0, .int .i64 0, .int .i64 0, .int .i64 9, .int .i64 0] 35)).alloc (.cells #[.slice (some ⟨w6.heap.size, 0, none⟩) 3 3, .int .i64 4] 32) →
      Calls Tryd.prog 7 #[v1, .slice (some ⟨w6.heap.size + 1, 0, none⟩) 1 1, .bool true] W fun en w' => en = .returned (.bool true) ∧ ∃ n, w' = W.drewN n) := fun W hW =>
    qSame_yes v1 _ [([(0, 0, 0), (9, 0, 0), (0, 9, 0)], 4)] [([(0, 0, 0), (9, 0, 0), (0, 9, 0)], 4)] true rfl (fun j h1 h2 => ⟨rfl, fun _ => rfl⟩) (by decide) (fun p hp => by rw [List.mem_singleton] at hp; rw [hp]; decide) W (O6.out.keep (by rw [hW]; exact ((Upd.refl _ _).alloc _).alloc _))
      ⟨some ⟨w6.heap.size + 1, 0, none⟩, 1, rfl, fun _ => ⟨_, _, rfl, fun j hj => by
        obtain rfl : j = 0 := by simp at hj; exact hj
        have g1 : W.heap[w6.heap.size + 1]? = some (.cells #[.slice (some ⟨w6.heap.size, 0, none⟩) 3 3, .int .i64 4] 32) := by rw [hW]; have := heap_alloc_new (w6.alloc (.cells #[.int .i64 0, .int .i64 0, .int .i64 0, .int .i64 9, .int .i64 0, .int .i64 0, .int .i64 0, .int .i64 9, .int .i64 0] 35)) (.cells #[.slice (some ⟨w6.heap.size, 0, none⟩) 3 3, .int .i64 4] 32); rw [World.size_alloc] at this; exact this
        have g0 : W.heap[w6.heap.size]? = some (.cells #[.int .i64 0, .int .i64 0, .int .i64 0, .int .i64 9, .int .i64 0, .int .i64 0, .int .i64 0, .int .i64 9, .int .i64 0] 35) := by rw [hW]; exact heap_alloc_keep _ (heap_alloc_new _ _)
        refine ⟨.slice (some ⟨w6.heap.size, 0, none⟩) 3 3, by simp [World.cell?, g1], by simp [World.cell?, g1], _, _, rfl, fun _ => ⟨_, _, rfl, fun j hj => ?_⟩⟩
        have hj' : j = 0 ∨ j = 1 ∨ j = 2 := by simp at hj; omega
        rcases hj' with rfl | rfl | rfl <;> exact ⟨by simp [World.cell?, g0], by simp [World.cell?, g0], by simp [World.cell?, g0]⟩⟩⟩
  go_wp2_with fail
  refine (HS.out _ rfl).mono ?_
  rintro e1 w7 ⟨rfl, n, rfl⟩
  go_wp2_with fail
  go_ret
  exact ⟨rfl, ((U6.out.alloc _).alloc _).drewN n⟩
end Go.Proofs.YtojdgdeefhndiaaDoor
namespace Go.Proofs.YtojdgdeefhndiaaDoor
open Go Go.RowKit Go.ChangeShapes Go.WideShapes Go.ChangeAt

/-- An address that holds a cell has no spot. -/
theorem spot_none {w : World} {a : Addr} {v : Value} (h : w.cell? a = some v) : a = ⟨a.block, a.off, none⟩ := by
  obtain ⟨b, o, s⟩ := a
  cases s with
  | none => rfl
  | some k =>
    exfalso
    unfold World.cell? at h
    split at h
    · simp at h
    · simp at h

/-- A slice at any address that reads as a list; R: how an element is read off its cells. -/
def RdL {α : Type} (size : Nat) (R : List Value → α → Prop) (w : World) (A : Option Addr) (l : List α) : Prop :=
  0 < l.length → ∃ b off, A = some ⟨b, off, none⟩ ∧ ∀ j (h : j < l.length), ∃ cs, cs.length = size ∧ R cs l[j] ∧ ∀ i u, cs[i]? = some u → w.cell? ⟨b, off + j * size + i, none⟩ = some u
def ArgL {α : Type} (size : Nat) (R : List Value → α → Prop) (w : World) (v : Value) (l : List α) : Prop :=
  ∃ A cap, v = .slice A l.length cap ∧ RdL size R w A l ∧ l.length ≤ cap ∧ cap ≤ maxLen
theorem RdL.keep {α : Type} {size : Nat} {R : List Value → α → Prop} {w w' : World} {A : Option Addr} {l : List α} (h : RdL size R w A l) (hu : Upd noBlk w w') : RdL size R w' A l := by
  intro h0
  obtain ⟨b, off, e, h1⟩ := h h0
  refine ⟨b, off, e, fun j hj => ?_⟩
  obtain ⟨cs, h2, h3, h4⟩ := h1 j hj
  exact ⟨cs, h2, h3, fun i u hi => hu.cell (h4 i u hi) id⟩

theorem argL_of_reading {P : Program} {t e : TypeId} {α : Type} {size : Nat} (hs : 0 < size) (R : List Value → α → Prop) (ht : P.underlying t = some (.slice e)) (hce : P.cellsOf e = size)
    {H : Type} {enc : TypeId × Value → H} {W : World} {d : DataW H} {p : List MemPlace} {v : Value} (hR : ∀ n cs x, DataW.trod enc P W 0 (fun _ => true) true n e cs = some x → ∃ y, R cs y)
    (hval : Value.okWide P W .any 0 t v) (h : DataW.Trod enc P W 0 (fun _ => true) true t v d p) : ∃ l, ArgL size R W v l := by
  obtain ⟨a, len, cap, rfl⟩ := okWide_slice ht hval
  obtain ⟨fuel, hf⟩ := h
  rcases Deep.open_slice ht hf with ⟨hcs, _⟩ | ⟨x, len', cap', m, n, D, Pl, hcs, _, hl, hm, hmm, _, hx⟩
  · simp [Value.cells] at hcs
    obtain ⟨rfl, rfl, rfl⟩ := hcs
    exact ⟨[], none, 0, rfl, fun h => absurd h (by simp), Nat.le_refl _, Nat.zero_le _⟩
  · simp [Value.cells] at hcs
    obtain ⟨rfl, rfl, rfl⟩ := hcs
    simp only [if_true] at hmm
    subst hmm
    rw [hce] at hx
    have each : ∀ i, i < m → ∃ y cs, cs.length = size ∧ R cs y ∧ ∀ j u, cs[j]? = some u → W.cell? ((x.add (i * size)).add j) = some u := by
      intro i hi
      obtain ⟨cs, h1, h2⟩ := hx i hi
      obtain ⟨y, hy⟩ := hR _ _ _ h2
      obtain ⟨_, h3, h4⟩ := World.cells?_some h1
      exact ⟨y, cs, h3, hy, fun j u hj => by
        have hj' := (List.getElem?_eq_some_iff.1 hj).1
        have := h4 j (by omega)
        rw [this, ← hj]⟩
    by_cases hl0 : len = 0
    · subst hl0; exact ⟨[], some x, m, rfl, fun h => absurd h (by simp), Nat.zero_le _, hm⟩
    · obtain ⟨y0, _⟩ := each 0 (by omega)
      haveI : Inhabited α := ⟨y0⟩
      obtain ⟨f, hfx⟩ := Deep.choose_lt each
      have hsx : x = ⟨x.block, x.off, none⟩ := by
        obtain ⟨cs, h1, _, h3⟩ := hfx 0 (by omega)
        have := spot_none (h3 0 cs[0] (by rw [List.getElem?_eq_getElem]))
        simpa [Addr.add] using this
      refine ⟨(List.range len).map f, some x, m, by simp, fun _ => ⟨x.block, x.off, by rw [← hsx], fun j hj => ?_⟩, by simpa using hl, hm⟩
      obtain ⟨cs, h1, h2, h3⟩ := hfx j (by simp at hj; omega)
      refine ⟨cs, h1, by simpa using h2, fun i u hi => ?_⟩
      have := h3 i u hi
      rw [hsx, add_plain, add_plain] at this
      exact this

theorem arr2_of_reading' {P : Program} {t e : TypeId} (A : WideMaps.ArrKey P t e 2) (he : P.underlying e = some (.int .i64)) {H : Type} {enc : TypeId × Value → H} {W : World} {d : DataW H} {p : List MemPlace} {v : Value}
    (hval : Value.okWide P W .any 0 t v) (h : DataW.Trod enc P W 0 (fun _ => true) true t v d p) : ∃ c0 c1, v = .agg #[.int .i64 c0, .int .i64 c1] ∧ (Lit.int .i64 c0).wf = true ∧ (Lit.int .i64 c1).wf = true := by
  obtain ⟨a, b, rfl, _, _, h1, h2⟩ := WideMaps.open_pair A he hval h
  exact ⟨a, b, rfl, h1, h2⟩
end Go.Proofs.YtojdgdeefhndiaaDoor
namespace Go.Proofs.YtojdgdeefhndiaaDoor
open Go Go.RowKit Go.ChangeShapes Go.WideShapes Go.ChangeAt
set_option maxRecDepth 100000

theorem own : ownKnob Tryd.prog.godebug = none := by kernel_rfl
theorem laidOut : laidOutB Tryd.prog = true := by kernel_rfl

theorem string_of_reading {H : Type} {enc : TypeId × Value → H} {W : World} {d : DataW H} {p : List MemPlace} {v : Value}
    (hval : Value.okWide Tryd.prog W .any 0 9 v) (h : DataW.Trod enc Tryd.prog W 0 (fun _ => true) true 9 v d p) : ∃ s : ByteArray, v = .string s ∧ s.size ≤ maxLen ∧ d = .lit (.string s.data.toList) := by
  obtain ⟨s, rfl, hd, _, hs⟩ := ChangeMaps.open_string Tryd.underlying9 hval h
  exact ⟨s, rfl, hs, hd⟩
theorem int_of_reading {H : Type} {enc : TypeId × Value → H} {W : World} {d : DataW H} {p : List MemPlace} {v : Value}
    (hval : Value.okWide Tryd.prog W .any 0 3 v) (h : DataW.Trod enc Tryd.prog W 0 (fun _ => true) true 3 v d p) : ∃ n, v = .int .i64 n ∧ (Lit.int .i64 n).wf = true := by
  obtain ⟨s, rfl, _, _, hs⟩ := open_int Tryd.underlying3 hval h
  exact ⟨s, rfl, hs⟩
/-- A table's cells, off the datum that pins it. -/
def tabCells : DataW Unit → Array Value
  | .agg ds => (ds.map fun | .lit (.int k n) => Value.int k n | _ => .nilIface).toArray
  | _ => #[]
def tabPairs : DataW Unit → Array Value
  | .agg ds => (ds.flatMap fun | .agg es => es.map (fun | .lit (.int k n) => Value.int k n | _ => .nilIface) | _ => []).toArray
  | _ => #[]
noncomputable def low : Nat := (World.holding Tryd.prog default ⟨#[], #[], []⟩).heap.size
def putAt (h : Array Obj) (g : Nat) (cs : Array Value) : Array Obj := h.modify g fun
  | .cells _ t frozen => .cells cs t frozen
  | o => o
/-- A world for the witness: the settled one, the listed variables holding what the text lays; the two errors lie behind it. -/
noncomputable def laidWorld (os : Os) : World :=
  { World.holding Tryd.prog os ⟨#[.cells #[.string ⟨#[118, 97, 108, 117, 101, 32, 111, 117, 116, 32, 111, 102, 32, 114, 97, 110, 103, 101]⟩] 131, .cells #[.string ⟨#[105, 110, 118, 97, 108, 105, 100, 32, 115, 121, 110, 116, 97, 120]⟩] 131], #[], []⟩ with
    heap := putAt (putAt (putAt (putAt (putAt (putAt (putAt (World.holding Tryd.prog os ⟨#[.cells #[.string ⟨#[118, 97, 108, 117, 101, 32, 111, 117, 116, 32, 111, 102, 32, 114, 97, 110, 103, 101]⟩] 131, .cells #[.string ⟨#[105, 110, 118, 97, 108, 105, 100, 32, 115, 121, 110, 116, 97, 120]⟩] 131], #[], []⟩).heap
      3 (tabCells Go.Pinned.utf8First)) 4 (tabPairs (Rows.laid_unicode_utf8_acceptRanges (H := Unit)))) 5 (tabCells (Rows.laid_internal_strconv_uint64pow10 (H := Unit)))) 6 (tabCells (Rows.laid_math_bits_deBruijn32tab (H := Unit)))) 7 (tabCells (Rows.laid_math_bits_deBruijn64tab (H := Unit))))
      2 #[.iface 129 (.pointer (some ⟨low, 0, none⟩))]) 1 #[.iface 129 (.pointer (some ⟨low + 1, 0, none⟩))] }
end Go.Proofs.YtojdgdeefhndiaaDoor
namespace Go.Proofs.YtojdgdeefhndiaaDoor
open Go Go.RowKit Go.ChangeShapes Go.WideShapes Go.ChangeAt
set_option maxRecDepth 100000
theorem u8_nat {z : Int} (h : (Lit.int .u8 z).wf = true) : ∃ n : Nat, z = n ∧ n < 256 := by
  simp [Lit.wf, IntKind.min, IntKind.max, IntKind.signed, IntKind.bits] at h
  exact ⟨z.toNat, by omega, by omega⟩
theorem u8_of_reading {H : Type} {enc : TypeId × Value → H} {W : World} {d : DataW H} {p : List MemPlace} {v : Value}
    (hval : Value.okWide Tryd.prog W .any 0 5 v) (h : DataW.Trod enc Tryd.prog W 0 (fun _ => true) true 5 v d p) : ∃ n : Nat, v = .int .u8 n ∧ n < 256 := by
  obtain ⟨s, rfl, _, _, hs⟩ := open_int Tryd.underlying5 hval h
  obtain ⟨n, rfl, hn⟩ := u8_nat hs
  exact ⟨n, rfl, hn⟩
theorem u3_of_reading {H : Type} {enc : TypeId × Value → H} {W : World} {d : DataW H} {p : List MemPlace} {v : Value}
    (hval : Value.okWide Tryd.prog W .any 0 22 v) (h : DataW.Trod enc Tryd.prog W 0 (fun _ => true) true 22 v d p) : ∃ x y z : Nat, v = .agg #[.int .u8 x, .int .u8 y, .int .u8 z] ∧ x < 256 ∧ y < 256 ∧ z < 256 := by
  simp only [Value.okWide, Tryd.underlying22] at hval
  obtain ⟨cs, rfl, hl, _⟩ := hval
  have h3 : cs.size = 3 := by rw [hl]; kernel_rfl
  obtain ⟨fuel, hf⟩ := h
  obtain ⟨l⟩ := cs
  match l, h3 with
  | [a, b, c], _ =>
    obtain ⟨y0, y1, y2, m, _, g0, g1, g2⟩ := trod_array3 Tryd.underlying22 (by kernel_rfl) hf
    obtain ⟨z0, e0, _, w0⟩ := DataW.trod_int Tryd.underlying5 g0
    obtain ⟨z1, e1, _, w1⟩ := DataW.trod_int Tryd.underlying5 g1
    obtain ⟨z2, e2, _, w2⟩ := DataW.trod_int Tryd.underlying5 g2
    simp only [List.cons.injEq, and_true] at e0 e1 e2
    subst e0; subst e1; subst e2
    obtain ⟨n0, rfl, h0⟩ := u8_nat w0
    obtain ⟨n1, rfl, h1⟩ := u8_nat w1
    obtain ⟨n2, rfl, h2⟩ := u8_nat w2
    exact ⟨n0, n1, n2, rfl, h0, h1, h2⟩
end Go.Proofs.YtojdgdeefhndiaaDoor
