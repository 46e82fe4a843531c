/- Walks of the reference of the polygon files: Same, where it says yes. Slices of polygons at any address. How long what is read can be. No condition. Walks of the laws of the polygon files: agrees. The reference's Mod; slices of four numbers each among the arguments. No condition. -/
import Derived.Test.YtojdgdeefhndiaaGreatDoorM24
import Derived.Deep.QuietTactic
import Derived.Test.YtojdgdeefhndiaaGreatDoorM20
namespace Go.Proofs.YtojdgdeefhndiaaGreatDoor
open Go Go.RowKit Sp
set_option maxRecDepth 100000

/-- The three cells of a corner. -/
def PtAt (w : World) (b o : Nat) (p : Pt) : Prop := w.cell? ⟨b, o, none⟩ = some (.int .i64 p.1) ∧ w.cell? ⟨b, o + 1, none⟩ = some (.int .i64 p.2.1) ∧ w.cell? ⟨b, o + 2, none⟩ = some (.int .i64 p.2.2)
/-- A slice of corners at any address. -/
def RdPts (w : World) (v : Value) (l : List Pt) : Prop := ∃ A cap, v = .slice A l.length cap ∧ (0 < l.length → ∃ b off, A = some ⟨b, off, none⟩ ∧ ∀ j (h : j < l.length), PtAt w b (off + j * 3) l[j])
/-- A slice of polygons at any address. -/
def RdPolys (w : World) (v : Value) (ps : List Poly) : Prop := ∃ A cap, v = .slice A ps.length cap ∧ (0 < ps.length → ∃ b off, A = some ⟨b, off, none⟩ ∧ ∀ j (h : j < ps.length), ∃ pv, w.cell? ⟨b, off + j * 2, none⟩ = some pv ∧ w.cell? ⟨b, off + j * 2 + 1, none⟩ = some (.int .i64 ps[j].2) ∧ RdPts w pv ps[j].1)
theorem PtAt.keep {w w' : World} {b o : Nat} {p : Pt} (h : PtAt w b o p) (hu : Upd noBlk w w') : PtAt w' b o p := ⟨hu.cell h.1 id, hu.cell h.2.1 id, hu.cell h.2.2 id⟩
theorem RdPts.keep {w w' : World} {v : Value} {l : List Pt} (h : RdPts w v l) (hu : Upd noBlk w w') : RdPts w' v l := by
  obtain ⟨A, cap, e, h1⟩ := h
  refine ⟨A, cap, e, fun h0 => ?_⟩
  obtain ⟨b, off, e2, h2⟩ := h1 h0
  exact ⟨b, off, e2, fun j hj => (h2 j hj).keep hu⟩
theorem RdPolys.keep {w w' : World} {v : Value} {l : List Poly} (h : RdPolys w v l) (hu : Upd noBlk w w') : RdPolys w' v l := by
  obtain ⟨A, cap, e, h1⟩ := h
  refine ⟨A, cap, e, fun h0 => ?_⟩
  obtain ⟨b, off, e2, h2⟩ := h1 h0
  refine ⟨b, off, e2, fun j hj => ?_⟩
  obtain ⟨pv, h3, h4, h5⟩ := h2 j hj
  exact ⟨pv, hu.cell h3 id, hu.cell h4 id, h5.keep hu⟩
theorem flat3_get (l : List Pt) (j : Nat) (hj : j < l.length) : (ptsVs l)[j * 3]? = some (.int .i64 l[j].1) ∧ (ptsVs l)[j * 3 + 1]? = some (.int .i64 l[j].2.1) ∧ (ptsVs l)[j * 3 + 2]? = some (.int .i64 l[j].2.2) := by
  induction l generalizing j with
  | nil => simp at hj
  | cons a l ih =>
    cases j with
    | zero => exact ⟨rfl, rfl, rfl⟩
    | succ j =>
      obtain ⟨h1, h2, h3⟩ := ih j (by simpa using hj)
      have e : ptsVs (a :: l) = .int .i64 a.1 :: .int .i64 a.2.1 :: .int .i64 a.2.2 :: ptsVs l := rfl
      rw [e, show (j + 1) * 3 = j * 3 + 1 + 1 + 1 by omega, show j * 3 + 1 + 1 + 1 + 1 = (j * 3 + 1) + 1 + 1 + 1 by omega, show j * 3 + 1 + 1 + 1 + 2 = (j * 3 + 2) + 1 + 1 + 1 by omega]
      simp only [List.getElem?_cons_succ, List.getElem_cons_succ]
      exact ⟨h1, h2, h3⟩
theorem flat2_get (l : List (Value × Poly)) (j : Nat) (hj : j < l.length) : (polyVs l)[j * 2]? = some l[j].1 ∧ (polyVs l)[j * 2 + 1]? = some (.int .i64 l[j].2.2) := by
  induction l generalizing j with
  | nil => simp at hj
  | cons a l ih =>
    cases j with
    | zero => exact ⟨rfl, rfl⟩
    | succ j =>
      obtain ⟨h1, h2⟩ := ih j (by simpa using hj)
      have e : polyVs (a :: l) = a.1 :: .int .i64 a.2.2 :: polyVs l := rfl
      rw [e, show (j + 1) * 2 = j * 2 + 1 + 1 by omega, show j * 2 + 1 + 1 + 1 = (j * 2 + 1) + 1 + 1 by omega]
      simp only [List.getElem?_cons_succ, List.getElem_cons_succ]
      exact ⟨h1, h2⟩
theorem OwnPts.rd {w : World} {base : Nat} {v : Value} {l : List Pt} (h : OwnPts base w v l) : RdPts w v l := by
  obtain ⟨A, cap, rfl⟩ := own_form h
  refine ⟨A, cap, rfl, fun h0 => ?_⟩
  rcases h.2 with ⟨_, h1⟩ | ⟨g, c, cur, e, _⟩
  · omega
  · cases e
    have hl : (ptsVs l).length = l.length * 3 := h.1
    refine ⟨g, 0, rfl, fun j hj => ?_⟩
    obtain ⟨a1, a2, a3⟩ := flat3_get l j hj
    rw [Nat.zero_add]
    exact ⟨by rw [World.ownsRow.cellAt h (j * 3) (by omega)]; exact a1, by rw [World.ownsRow.cellAt h (j * 3 + 1) (by omega)]; exact a2, by rw [World.ownsRow.cellAt h (j * 3 + 2) (by omega)]; exact a3⟩
theorem OwnPolys.rd {w : World} {base : Nat} {v : Value} {ps : List Poly} (h : OwnPolys base w v ps) : RdPolys w v ps := by
  obtain ⟨qs, rfl, h1, h2⟩ := h
  obtain ⟨A, cap, rfl⟩ := own_form h2
  refine ⟨A, cap, by rw [List.length_map], fun h0 => ?_⟩
  rcases h2.2 with ⟨_, h3⟩ | ⟨g, c, cur, e, _⟩
  · simp at h0; omega
  · cases e
    have hl : (polyVs qs).length = qs.length * 2 := h2.1
    refine ⟨g, 0, rfl, fun j hj => ?_⟩
    rw [List.length_map] at hj
    obtain ⟨a1, a2⟩ := flat2_get qs j hj
    rw [Nat.zero_add, List.getElem_map]
    exact ⟨qs[j].1, by rw [World.ownsRow.cellAt h2 (j * 2) (by omega)]; exact a1, by rw [World.ownsRow.cellAt h2 (j * 2 + 1) (by omega)]; exact a2, (h1 _ (List.getElem_mem hj)).rd⟩

set_option maxHeartbeats 1500000 in
theorem qSame_yes (v1 v2 : Value) (ps qs : List Poly) (places : Bool) (hl : ps.length = qs.length) (hc : ∀ j (h1 : j < ps.length) (h2 : j < qs.length), ps[j].1 = qs[j].1 ∧ (places = true → ps[j].2 = qs[j].2)) (hn : qs.length ≤ 4294967296) (hm : ∀ p, p ∈ qs → p.1.length ≤ 4294967296)
    (w : World) (h1 : RdPolys w v1 ps) (h2 : RdPolys w v2 qs) :
    Calls Tryz.prog 18 #[v1, v2, .bool places] w fun en w' => en = .returned (.bool true) ∧ ∃ n, w' = w.drewN n := by
  obtain ⟨A1, cap1, rfl, g1⟩ := h1
  obtain ⟨A2, cap2, rfl, g2⟩ := h2
  have G1 := Lib.hid g1
  have G2 := Lib.hid g2
  have HC := Lib.hid hc
  have HM := Lib.hid hm
  have HL := Lib.hid hl
  clear g1 g2 hc hm
  rw [hl]
  clear hl
  go_enter Tryz.func18, Tryz.ntmps18
  go_wp2_with fail
  go_loopw [7, 8] (fun i _ wr => ∃ (k n : Nat), i = .int .i64 k ∧ k ≤ qs.length ∧ wr = w.drewN n) (fun i _ _ => qs.length - (intOf i).toNat)
  case atStart => exact ⟨0, 0, rfl, Nat.zero_le _, rfl⟩
  case round =>
    obtain ⟨k, n, rfl, hk, rfl⟩ := hrel
    by_cases hlt : k < qs.length
    · have hlt' : ((k : Nat) : Int) < ((qs.length : Nat) : Int) := by omega
      obtain ⟨b1, o1, rfl, f1⟩ := G1.out (by rw [HL.out]; omega)
      obtain ⟨b2, o2, rfl, f2⟩ := G2.out (by omega)
      obtain ⟨pv1, c10, c11, r1⟩ := f1 k (by rw [HL.out]; exact hlt)
      obtain ⟨pv2, c20, c21, r2⟩ := f2 k hlt
      obtain ⟨hce, hpe⟩ := HC.out k (by rw [HL.out]; exact hlt) hlt
      have hml := HM.out qs[k] (List.getElem_mem hlt)
      rw [hce] at r1
      generalize (qs[k]).1 = pts at *
      obtain ⟨B1, cp1, rfl, e1⟩ := r1
      obtain ⟨B2, cp2, rfl, e2⟩ := r2
      have E1 := Lib.hid e1
      have E2 := Lib.hid e2
      have hpl : places = false ∨ (places = true ∧ w.cell? ⟨b1, o1 + k * 2 + 1, none⟩ = some (.int .i64 qs[k].2) ∧ w.cell? ⟨b2, o2 + k * 2 + 1, none⟩ = some (.int .i64 qs[k].2)) := by
        cases places with
        | false => exact .inl rfl
        | true => exact .inr ⟨rfl, by rw [c11, hpe rfl], c21⟩
      clear f1 f2 e1 e2 hce hpe c11 c21
      rcases hpl with rfl | ⟨rfl, c11, c21⟩
      all_goals
        go_wp2_with fail
        go_quiet (fail)
        go_wp2_with fail
        go_loopw [8] (fun i wr => ∃ (j m : Nat), i = .int .i64 j ∧ j ≤ pts.length ∧ wr = w.drewN m) (fun i _ => pts.length - (intOf i).toNat)
        case atStart => exact ⟨0, _, rfl, Nat.zero_le _, World.drewN_drewN _ _ _⟩
        case round =>
          obtain ⟨j, m, rfl, hj, rfl⟩ := hrel
          by_cases hjt : j < pts.length
          · have hjt' : ((j : Nat) : Int) < ((pts.length : Nat) : Int) := by omega
            obtain ⟨d1, p1, rfl, g1⟩ := E1.out (by omega)
            obtain ⟨d2, p2, rfl, g2⟩ := E2.out (by omega)
            obtain ⟨x1, x2, x3⟩ := g1 j hjt
            obtain ⟨y1, y2, y3⟩ := g2 j hjt
            clear g1 g2
            generalize pts[j] = pt at *
            obtain ⟨px, py, pz⟩ := pt
            simp only at x1 x2 x3 y1 y2 y3
            go_wp2_with fail
            go_quiet (fail)
            go_wp2_with fail
            exact ⟨⟨j + 1, _, by go_num, hjt, rfl⟩, by simp [intOf]; omega⟩
          · obtain rfl : j = pts.length := by omega
            go_wp2_with fail
            exact ⟨⟨k + 1, _, by go_num, hlt, rfl⟩, by simp [intOf]; omega⟩
    · obtain rfl : k = qs.length := by omega
      go_wp2_with fail
      go_ret
      exact ⟨rfl, n, rfl⟩
end Go.Proofs.YtojdgdeefhndiaaGreatDoor
namespace Go.Proofs.YtojdgdeefhndiaaGreatDoor
namespace Sp
theorem pick_len {cs : List Pt} : ∀ {zs : List Int} {l : List Pt}, pick cs zs = .ok l → l.length = zs.length
  | [], l, h => by cases h; rfl
  | z :: r, l, h => by
    rw [pick] at h
    generalize (if z < 0 then (cs.length : Int) + z else z - 1) = m at h
    cases hg : cs[m.toNat]? with
    | none => rw [hg] at h; cases h
    | some p =>
      rw [hg] at h
      simp only at h
      by_cases hm : m < 0
      · rw [if_pos hm] at h; cases h
      · rw [if_neg hm] at h
        cases hp : pick cs r with
        | bad e' => rw [hp] at h; cases h
        | ok l' => rw [hp] at h; cases h; simp [pick_len hp]
theorem faceS_len {cs : List Pt} {ws : List Bytes} {l : List Pt} (h : faceS cs ws = .ok l) : l.length ≤ 64 := by
  unfold faceS at h
  split at h
  · cases h
  · split at h
    · cases h
    · split at h
      · cases h
      · have := pick_len h
        rw [this, List.length_map]; omega
theorem oneGo_small (L : Nat) (hL : 64 ≤ L) : ∀ (ls : List Bytes) (i : Nat) (cs : List Pt) (ps out : List Poly), oneGo i ls cs ps = .ok out → ps.length + ls.length ≤ L → (∀ p, p ∈ ps → p.1.length ≤ L) → out.length ≤ L ∧ ∀ p, p ∈ out → p.1.length ≤ L
  | [], i, cs, ps, out, h, h1, h2 => by
    rw [oneGo] at h; cases h
    exact ⟨by simpa using h1, h2⟩
  | l :: r, i, cs, ps, out, h, h1, h2 => by
    have h1' : ps.length + r.length + 1 ≤ L := by simp at h1; omega
    rw [oneGo] at h
    split at h
    · exact oneGo_small L hL r _ _ _ _ h (by omega) h2
    · split at h
      · split at h
        · cases h
        · exact oneGo_small L hL r _ _ _ _ h (by omega) h2
      · split at h
        · split at h
          · cases h
          · rename_i hc
            split at h
            · cases h
            · refine oneGo_small L hL r _ _ _ _ h (by simp; omega) (fun p hp => ?_)
              rw [List.mem_append, List.mem_singleton] at hp
              rcases hp with hp | rfl
              · exact h2 p hp
              · exact Nat.le_trans (faceS_len hc) hL
        · cases h
theorem addLast_len (ps : List Poly) (p : Pt) : (addLast ps p).length = ps.length := by
  unfold addLast
  cases h : ps.getLast? with
  | none => rfl
  | some q =>
    have : ps ≠ [] := fun e => by rw [e] at h; cases h
    have := List.length_pos_iff.2 this
    simp; omega
theorem addLast_mem {ps : List Poly} {p : Pt} {q : Poly} (h : q ∈ addLast ps p) : q ∈ ps ∨ ∃ o, o ∈ ps ∧ q = (o.1 ++ [p], o.2) := by
  unfold addLast at h
  cases hl : ps.getLast? with
  | none => rw [hl] at h; exact .inl h
  | some o =>
    rw [hl] at h
    simp only [List.mem_append, List.mem_singleton] at h
    rcases h with h | h
    · exact .inl (List.dropLast_subset ps h)
    · exact .inr ⟨o, List.mem_of_getLast? hl, h⟩
theorem twoGo_small (L : Nat) : ∀ (ls : List Bytes) (i left : Nat) (ps out : List Poly), twoGo i ls left ps = .ok out → ps.length + ls.length ≤ L → (∀ p, p ∈ ps → p.1.length + ls.length ≤ L) → out.length ≤ L ∧ ∀ p, p ∈ out → p.1.length ≤ L
  | [], i, left, ps, out, h, h1, h2 => by
    rw [twoGo] at h
    split at h
    · cases h
      exact ⟨by simpa using h1, fun p hp => by simpa using h2 p hp⟩
    · cases h
  | l :: r, i, left, ps, out, h, h1, h2 => by
    have h1' : ps.length + r.length + 1 ≤ L := by simp at h1; omega
    have h2' : ∀ p, p ∈ ps → p.1.length + r.length + 1 ≤ L := fun p hp => by have := h2 p hp; simp at this; omega
    rw [twoGo] at h
    split at h
    · exact twoGo_small L r _ _ _ _ h (by omega) (fun p hp => by have := h2' p hp; omega)
    · split at h
      · split at h
        · cases h
        · split at h
          · cases h
          · refine twoGo_small L r _ _ _ _ h (by simp; omega) (fun p hp => ?_)
            rw [List.mem_append, List.mem_singleton] at hp
            rcases hp with hp | rfl
            · have := h2' p hp; omega
            · simp; omega
      · split at h
        · cases h
        · refine twoGo_small L r _ _ _ _ h (by rw [addLast_len]; omega) (fun p hp => ?_)
          rcases addLast_mem hp with hp | ⟨o, ho, rfl⟩
          · have := h2' p hp; omega
          · have := h2' o ho; simp; omega
theorem cornersB_len (s : Bytes) : ∀ (k at_ : Nat) (acc l : List Pt), cornersB s at_ k acc = .ok l → l.length = acc.length + k
  | 0, at_, acc, l, h => by rw [cornersB] at h; cases h; rfl
  | k + 1, at_, acc, l, h => by
    rw [cornersB] at h
    split at h
    · cases h
    · split at h
      · cases h
      · split at h
        · cases h
        · have := cornersB_len s k _ _ _ h
          rw [this]; simp; omega
theorem polysB_small (s : Bytes) (L : Nat) (hL : 64 ≤ L) : ∀ (k at_ : Nat) (acc out : List Poly), polysB s at_ k acc = .ok out → acc.length + k ≤ L → (∀ p, p ∈ acc → p.1.length ≤ L) → out.length ≤ L ∧ ∀ p, p ∈ out → p.1.length ≤ L
  | 0, at_, acc, out, h, h1, h2 => by
    rw [polysB] at h
    split at h
    · cases h; exact ⟨h1, h2⟩
    · cases h
  | k + 1, at_, acc, out, h, h1, h2 => by
    rw [polysB] at h
    split at h
    · cases h
    · rename_i n hn
      split at h
      · cases h
      · split at h
        · cases h
        · rename_i l hl
          refine polysB_small s L hL k _ _ _ h (by simp; omega) (fun p hp => ?_)
          rw [List.mem_append, List.mem_singleton] at hp
          rcases hp with hp | rfl
          · exact h2 p hp
          · have h3 := cornersB_len s _ _ _ _ hl
            have h4 := (numS_ok hn).2
            simp at h3 ⊢; omega
theorem linesGo_len' : ∀ (r cur : Bytes), (linesGo cur r).length ≤ r.length + 1
  | [], cur => by simp [linesGo]
  | c :: r, cur => by
    rw [linesGo]
    split
    · have := linesGo_len' r []; simp; omega
    · have := linesGo_len' r (cur ++ [c]); simp; omega
theorem readS_small {s : Bytes} {out : List Poly} (h : readS s = .ok out) : out.length ≤ s.length + 65536 ∧ ∀ p, p ∈ out → p.1.length ≤ s.length + 65536 := by
  have hl : (linesOf s).length ≤ s.length + 1 := linesGo_len' s []
  unfold readS at h
  split at h
  · unfold threeS at h
    split at h
    · cases h
    · rename_i n hn
      have := (numS_ok hn).2
      exact polysB_small s _ (by omega) _ _ _ _ h (by simp; omega) (fun p hp => by cases hp)
  · split at h
    · exact twoGo_small _ _ _ _ _ _ h (by simp; omega) (fun p hp => by cases hp)
    · exact oneGo_small _ (by omega) _ _ _ _ _ h (by simp; omega) (fun p hp => by cases hp)
end Sp
end Go.Proofs.YtojdgdeefhndiaaGreatDoor
namespace Go.Proofs.YtojdgdeefhndiaaGreatDoor
open Go Go.RowKit Sp
set_option maxRecDepth 100000

theorem Upd.shaped {w w' : World} (h : Upd noBlk w w') (hs : w.ShapedOpen Tryz.prog) : w'.ShapedOpen Tryz.prog := shaped_same hs (fun k hk => h.block k hk id)
set_option maxHeartbeats 1000000 in
theorem agrees_any (s : Bytes) (hs : s.length ≤ 4294901760) (w : World) (hsh : w.ShapedOpen Tryz.prog) :
    Calls Tryz.prog 12 #[.string (bs s)] w fun en w' => en = .returned (.bool true) ∧ Upd noBlk w w' := by
  have H1 := Lib.hid (read_any s (by omega) w hsh)
  rcases hr : readS s with ps | ⟨place, e⟩
  · have hsm := readS_small hr
    have HSM := Lib.hid hsm
    rw [hr] at H1
    have HR := Lib.hid hr
    clear hr hsm hsh
    go_enter Tryz.func12, Tryz.ntmps12
    go_wp2_with fail
    refine H1.out.mono ?_
    rintro e1 w1 ⟨v1, rfl, o1, u1⟩
    have H2 := qRead_any s (by omega) w1
    rw [HR.out] at H2
    have HH2 := Lib.hid H2
    have O1 := Lib.hid o1.rd
    have U1 := Lib.hid u1
    clear H2 o1 u1 H1
    go_wp2_with fail
    refine HH2.out.mono ?_
    rintro e1 w2 ⟨v2, rfl, o2, u2⟩
    have HS := Lib.hid (qSame_yes v1 v2 ps ps true rfl (fun j h1 h2 => ⟨rfl, fun _ => rfl⟩) (by have := HSM.out.1; omega) (fun p hp => by have := HSM.out.2 p hp; omega) w2 (O1.out.keep u2) o2.rd)
    have U2 := Lib.hid (U1.out.trans u2)
    clear o2 u2 HH2
    go_wp2_with fail
    refine HS.out.mono ?_
    rintro e1 w3 ⟨rfl, n, rfl⟩
    go_wp2_with fail
    go_ret
    exact ⟨rfl, U2.out.drewN n⟩
  · rw [hr] at H1
    have HR := Lib.hid hr
    clear hr hsh
    go_enter Tryz.func12, Tryz.ntmps12
    go_wp2_with fail
    refine H1.out.mono ?_
    rintro e1 w1 ⟨rfl, u1⟩
    have H2 := qRead_any s (by omega) w1
    rw [HR.out] at H2
    have HH2 := Lib.hid H2
    have U1 := Lib.hid u1
    clear H2 u1 H1
    go_wp2_with fail
    refine HH2.out.mono ?_
    rintro e1 w2 ⟨rfl, u2⟩
    have HS := Lib.hid (qSame_yes (.slice none 0 0) (.slice none 0 0) [] [] true rfl (fun j h1 h2 => ⟨rfl, fun _ => rfl⟩) (by simp) (fun p hp => by cases hp) w2 ⟨none, 0, rfl, fun h => absurd h (by simp)⟩ ⟨none, 0, rfl, fun h => absurd h (by simp)⟩)
    have U2 := Lib.hid (U1.out.trans u2)
    clear u2 HH2
    go_wp2_with fail
    refine HS.out.mono ?_
    rintro e1 w3 ⟨rfl, n, rfl⟩
    go_wp2_with fail
    go_ret
    exact ⟨rfl, U2.out.drewN n⟩
end Go.Proofs.YtojdgdeefhndiaaGreatDoor
namespace Go.Proofs.YtojdgdeefhndiaaGreatDoor
open Go Go.RowKit
set_option maxRecDepth 100000

theorem tmod_cases (c m : Int) (hm : 0 < m) : c.tmod m = c % m ∨ c.tmod m = c % m - m := by
  rw [Int.tmod_eq_emod]
  split
  · left; omega
  · right; omega
theorem mod_eq (c m : Int) (hm : 0 < m) : (c.tmod m + m).tmod m = c % m := by
  have h1 := Int.emod_nonneg c (show m ≠ 0 by omega)
  have h2 := Int.emod_lt_of_pos c hm
  rcases tmod_cases c m hm with h | h
  · rw [h, Int.tmod_eq_emod_of_nonneg (by omega), Int.add_emod_right, Int.emod_emod_of_dvd _ (Int.dvd_refl m)]
  · rw [h, Int.tmod_eq_emod_of_nonneg (by omega), Int.sub_add_cancel, Int.emod_emod_of_dvd _ (Int.dvd_refl m)]
theorem mod_wrap (c m : Int) (hm : 0 < m) (hb : m ≤ 1000000) : wrap64 (c.tmod m + m) = c.tmod m + m := by
  have h1 := Int.emod_nonneg c (show m ≠ 0 by omega)
  have h2 := Int.emod_lt_of_pos c hm
  exact IntWalk.wrap64_in _ (by rcases tmod_cases c m hm with h | h <;> rw [h] <;> omega)

set_option maxHeartbeats 400000 in
theorem Mod_any (c m : Int) (hm : 0 < m) (hb : m ≤ 1000000) (w : World) : Calls Tryz.prog 16 #[.int .i64 c, .int .i64 m] w fun e w' => e = .returned (.int .i64 (c % m)) ∧ w = w' := by
  have e1 := mod_wrap c m hm hb
  have e2 := mod_eq c m hm
  have e3 : (m == 0) = false := by rw [beq_eq_false_iff_ne]; omega
  have e4 : ¬ m = -1 := by omega
  have h1 : -9223372036854775808 ≤ c.tmod m ∧ c.tmod m ≤ 9223372036854775807 := by
    have h1 := Int.emod_nonneg c (show m ≠ 0 by omega)
    have h2 := Int.emod_lt_of_pos c hm
    rcases tmod_cases c m hm with h | h <;> rw [h] <;> omega
  go_enter Tryz.func16, Tryz.ntmps16
  go_wp2
  go_ret
  exact ⟨rfl, rfl⟩

abbrev Quad := Int × Int × Int × Int
/-- The four cells of an element. -/
def QuadAt (w : World) (b o : Nat) (q : Quad) : Prop := w.cell? ⟨b, o, none⟩ = some (.int .i64 q.1) ∧ w.cell? ⟨b, o + 1, none⟩ = some (.int .i64 q.2.1) ∧ w.cell? ⟨b, o + 2, none⟩ = some (.int .i64 q.2.2.1) ∧ w.cell? ⟨b, o + 3, none⟩ = some (.int .i64 q.2.2.2)
def fits (x : Int) : Prop := -9223372036854775808 ≤ x ∧ x ≤ 9223372036854775807
def fitsQ (q : Quad) : Prop := fits q.1 ∧ fits q.2.1 ∧ fits q.2.2.1 ∧ fits q.2.2.2
def RdQ (w : World) (A : Option Addr) (l : List Quad) : Prop := 0 < l.length → ∃ b off, A = some ⟨b, off, none⟩ ∧ ∀ j (h : j < l.length), QuadAt w b (off + j * 4) l[j] ∧ fitsQ l[j]
theorem QuadAt.keep {w w' : World} {b o : Nat} {q : Quad} (h : QuadAt w b o q) (hu : Upd noBlk w w') : QuadAt w' b o q := ⟨hu.cell h.1 id, hu.cell h.2.1 id, hu.cell h.2.2.1 id, hu.cell h.2.2.2 id⟩
theorem RdQ.keep {w w' : World} {A : Option Addr} {l : List Quad} (h : RdQ w A l) (hu : Upd noBlk w w') : RdQ w' A l := by
  intro h0
  obtain ⟨b, off, e, h1⟩ := h h0
  exact ⟨b, off, e, fun j hj => ⟨(h1 j hj).1.keep hu, (h1 j hj).2⟩⟩
/-- What a function that makes a string of bounded size comes to. -/
def strB (n : Nat) (w : World) (en : Ending) (w' : World) : Prop := ∃ b : ByteArray, en = .returned (.string b) ∧ b.size ≤ n ∧ Upd noBlk w w'
/-- An array of short strings. -/
theorem short_get {cs : Array Value} {n m : Nat} (h : ∀ j, j < m → ∃ b : ByteArray, cs[j]? = some (.string b) ∧ b.size ≤ n) {j : Nat} (hj : j < m) {w : World} {k : Nat} {t : TypeId} (hw : w.heap[k]? = some (.cells cs t)) : ∃ b : ByteArray, w.cell? ⟨k, j, none⟩ = some (.string b) ∧ b.size ≤ n := by
  obtain ⟨b, h1, h2⟩ := h j hj
  exact ⟨b, by simp only [World.cell?, hw]; exact h1, h2⟩
theorem ba_size (a b : ByteArray) : (a ++ b).size = a.size + b.size := ByteArray.size_append
end Go.Proofs.YtojdgdeefhndiaaGreatDoor
