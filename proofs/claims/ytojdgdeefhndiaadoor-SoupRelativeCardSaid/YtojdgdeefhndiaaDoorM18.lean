/- Walks of the reference's numbers. No condition. Walks of the reference's numbers. No condition. -/
import Derived.Test.YtojdgdeefhndiaaDoorM16
import Derived.Test.YtojdgdeefhndiaaDoorM4
import Derived.Deep.QuietTactic
namespace Go.Proofs.YtojdgdeefhndiaaDoor
open Go Go.RowKit Sp Bg
set_option maxRecDepth 100000

/-- What a function that makes digits comes to. -/
def numR (base : Nat) (l : List Nat) (w : World) (en : Ending) (w' : World) : Prop := ∃ v, en = .returned v ∧ OwnN base w' v l ∧ Upd noBlk w w'
def lenSl : Value → Nat | .slice _ n _ => n | _ => 0
def trimR (base : Nat) (l : List Nat) (w : World) (en : Ending) (w' : World) : Prop := ∃ v, en = .returned v ∧ OwnN base w v l ∧ w = w'
set_option maxHeartbeats 400000 in
theorem trim_any (base : Nat) (v : Value) (l : List Nat) (hl : l.length ≤ 1000000) (w : World) (h : OwnN base w v l) :
    Calls Tryd.prog 27 #[v] w fun en w' => trimR base (trimS l) w en w' := by
  by_cases h0 : l.length = 0
  · have hl0 : l = [] := List.eq_nil_of_length_eq_zero h0
    subst hl0
    obtain ⟨A, cap, rfl⟩ := h.form
    have H := Lib.hid h
    clear h
    go_enter Tryd.func27, Tryd.ntmps27
    go_wp2_with fail
    refine wp_loop_once ?_
    go_wp2_with fail
    go_ret
    exact ⟨_, rfl, H.out, rfl⟩
  · obtain ⟨g, cap, rfl, hc, h1, h2, h3, h4⟩ := h.cells (by omega)
    have H := Lib.hid h
    have HC := Lib.hid hc
    unfold maxLen at h2
    clear h hc
    go_enter Tryd.func27, Tryd.ntmps27
    go_wp2_with fail
    go_loopw [0] (fun v wr => w = wr ∧ ∃ k : Nat, v = .slice (some ⟨g, 0, none⟩) k cap ∧ k ≤ l.length ∧ trimS (l.take k) = trimS l) (fun v _ => lenSl v)
    case atStart => exact ⟨rfl, l.length, rfl, Nat.le_refl _, by rw [List.take_length]⟩
    case round =>
      obtain ⟨rfl, k, rfl, hk, ht⟩ := hrel
      have HT := Lib.hid ht
      clear ht
      by_cases hk0 : k = 0
      · subst hk0
        go_wp2_with fail
        go_ret
        have := H.out.take rfl 0 (Nat.zero_le _)
        refine ⟨_, rfl, ?_, rfl⟩
        rw [← HT.out]; exact this
      · obtain ⟨j, rfl⟩ : ∃ j, k = j + 1 := ⟨k - 1, by omega⟩
        have cj := HC.out j (by omega)
        have HTK : Hid (l.take (j + 1) = l.take j ++ [l[j]]) := (List.take_append_getElem (by omega)).symm
        by_cases hz : l[j] = 0
        · rw [hz] at cj
          have hn : Hid (trimS (l.take j) = trimS l) := by show _ = _; rw [← HT.out, HTK.out, hz, trimS_snoc0]
          clear hz hk0
          go_wp2_with fail
          exact ⟨⟨trivial, j, rfl, by omega, hn.out⟩, by simp [lenSl]⟩
        · have hne : (((l[j] : Nat) : Int) == 0) = false := by rw [beq_eq_false_iff_ne]; omega
          have hn : Hid (trimS l = l.take (j + 1)) := by show _ = _; rw [← HT.out, HTK.out, trimS_snoc _ hz]
          clear hz hk0
          go_wp2_with fail
          go_ret
          refine ⟨_, rfl, ?_, rfl⟩
          rw [hn.out]
          have := H.out.take rfl (j + 1) (by omega)
          exact this
/-- What comparing comes to. -/
def cmpN (a b : Nat) : Int := if a < b then -1 else if a = b then 0 else 1
def cmpR (a b : Nat) (w : World) (en : Ending) (w' : World) : Prop := en = .returned (.int .i64 (cmpN a b)) ∧ ∃ n, w' = w.drewN n
theorem cmp_lt {a b : Nat} (h : a < b) : cmpN a b = -1 := by unfold cmpN; rw [if_pos h]
theorem cmp_gt {a b : Nat} (h : b < a) : cmpN a b = 1 := by unfold cmpN; rw [if_neg (by omega), if_neg (by omega)]
theorem cmp_eq {a b : Nat} (h : a = b) : cmpN a b = 0 := by unfold cmpN; rw [if_neg (by omega), if_pos h]
theorem compare_len (v1 v2 : Value) (l1 l2 : List Nat) (b1 b2 : Nat) (a b : Nat) (w : World) (h1 : OwnN b1 w v1 l1) (h2 : OwnN b2 w v2 l2) (hl : l1.length ≠ l2.length) (_hl1 : l1.length ≤ 2) (_hl2 : l2.length ≤ 2) (hc : cmpN a b = if l1.length < l2.length then -1 else 1) :
    Calls Tryd.prog 28 #[v1, v2] w fun en w' => cmpR a b w en w' := by
  obtain ⟨A1, c1, rfl⟩ := h1.form
  obtain ⟨A2, c2, rfl⟩ := h2.form
  clear h1 h2
  have HC := Lib.hid hc
  have hne : (((l1.length : Nat) : Int) != ((l2.length : Nat) : Int)) = true := by rw [bne_iff_ne]; omega
  have hne2 : (l1.length == l2.length) = false := by rw [beq_eq_false_iff_ne]; exact hl
  clear hc
  by_cases hlt : l1.length < l2.length
  · have e1 := Lib.hid hlt
    go_enter Tryd.func28, Tryd.ntmps28
    go_wp2_with fail
    go_ret
    exact ⟨by rw [HC.out, if_pos e1.out]; rfl, 0, rfl⟩
  · have e1 := Lib.hid hlt
    go_enter Tryd.func28, Tryd.ntmps28
    go_wp2_with fail
    go_ret
    exact ⟨by rw [HC.out, if_neg e1.out]; rfl, 0, rfl⟩
theorem val_lt {l1 l2 : List Nat} {j : Nat} (hl : l1.length = l2.length) (h2 : l1.length ≤ 2) (d1 : ∀ d, d ∈ l1 → d < 65536) (d2 : ∀ d, d ∈ l2 → d < 65536) (hj : j < l2.length) (hd : l1.drop (j + 1) = l2.drop (j + 1)) (h : l1[j]'(by omega) < l2[j]) : valL l1 < valL l2 := by
  match l1, l2, j, hl, h2, hj, hd, h with
  | [], _, _, hl, _, hj, _, _ => exact absurd hj (by rw [← hl]; simp)
  | [a], [b], 0, _, _, _, _, h => simpa [valL] using h
  | [a, p], [b, q], 0, _, _, _, hd, h =>
    simp only [List.drop_succ_cons, List.drop_zero, List.cons.injEq, and_true] at hd
    simp at h
    simp only [valL]; omega
  | [a, p], [b, q], 1, _, _, _, _, h =>
    simp at h
    have h1 := d1 a (by simp)
    have h2 := d2 b (by simp)
    simp only [valL]; omega
set_option maxHeartbeats 800000 in
/-- Two lists of as many digits, at most two. -/
theorem compare_same (v1 v2 : Value) (l1 l2 : List Nat) (b1 b2 : Nat) (w : World) (h1 : OwnN b1 w v1 l1) (h2 : OwnN b2 w v2 l2) (hl : l1.length = l2.length) (hl1 : l1.length ≤ 2) (d1 : ∀ d, d ∈ l1 → d < 65536) (d2 : ∀ d, d ∈ l2 → d < 65536) :
    Calls Tryd.prog 28 #[v1, v2] w fun en w' => cmpR (valL l1) (valL l2) w en w' := by
  obtain ⟨A1, c1, rfl⟩ := h1.form
  obtain ⟨A2, c2, rfl⟩ := h2.form
  have H1 := Lib.hid h1
  have H2 := Lib.hid h2
  have HL := Lib.hid hl
  rw [hl]
  have D1 := Lib.hid d1
  have D2 := Lib.hid d2
  have hl2 : ((l2.length : Nat) : Int) ≤ 2 := by omega
  clear h1 h2 hl d1 d2
  go_enter Tryd.func28, Tryd.ntmps28
  go_wp2_with fail
  go_loopw [5] (fun i wr => ∃ (k n : Nat), i = .int .i64 ((k : Int) - 1) ∧ k ≤ l2.length ∧ l1.drop k = l2.drop k ∧ wr = w.drewN n) (fun i _ => (intOf i + 1).toNat)
  case atStart => exact ⟨l2.length, 0, rfl, Nat.le_refl _, by rw [List.drop_eq_nil_of_le (Nat.le_refl _), List.drop_eq_nil_of_le (by rw [HL.out]; exact Nat.le_refl _)], rfl⟩
  case round =>
    obtain ⟨k, n, rfl, hk, hd, rfl⟩ := hrel
    have HD := Lib.hid hd
    clear hd
    by_cases hk0 : k = 0
    · subst hk0
      have he : Hid (cmpN (valL l1) (valL l2) = 0) := cmp_eq (by rw [show l1 = l2 from HD.out])
      go_wp2_with fail
      go_ret
      exact ⟨by rw [he.out]; rfl, n, rfl⟩
    · obtain ⟨j, rfl⟩ : ∃ j, k = j + 1 := ⟨k - 1, by omega⟩
      clear hk0
      obtain ⟨g1, cc1, hv1, f1, _, _, _, _⟩ := H1.out.cells (by rw [HL.out]; omega)
      obtain ⟨g2, cc2, hv2, f2, _, _, _, _⟩ := H2.out.cells (by omega)
      cases hv1
      cases hv2
      have x1 := f1 j (by rw [HL.out]; omega)
      have x2 := f2 j (by omega)
      have HJ1 : Hid (l1.drop j = l1[j]'(by rw [HL.out]; omega) :: l1.drop (j + 1)) := List.drop_eq_getElem_cons (by rw [HL.out]; omega)
      have HJ2 : Hid (l2.drop j = l2[j] :: l2.drop (j + 1)) := List.drop_eq_getElem_cons (by omega)
      have hji : (((j + 1 : Nat) : Int) - 1) = (j : Int) := by omega
      rw [hji]
      have hjj : (0 : Int) ≤ (j : Int) := by omega
      have hk2 : ((j : Nat) : Int) < ((l2.length : Nat) : Int) := by omega
      by_cases he : l1[j]'(by rw [HL.out]; omega) = l2[j]
      · have HN : Hid (l1.drop j = l2.drop j) := by show _ = _; rw [HJ1.out, HJ2.out, he, HD.out]
        rw [he] at x1
        clear he f1 f2 hji
        generalize l2[j] = q at *
        go_wp2_with fail
        go_quiet (fail)
        go_wp2_with fail
        exact ⟨⟨j, _, rfl, by omega, HN.out, rfl⟩, by simp [intOf]⟩
      · have hlt : (l1[j]'(by rw [HL.out]; omega) < l2[j] ∧ Hid (cmpN (valL l1) (valL l2) = -1)) ∨ (l2[j] < l1[j]'(by rw [HL.out]; omega) ∧ Hid (cmpN (valL l1) (valL l2) = 1)) := by
          by_cases h : l1[j]'(by rw [HL.out]; omega) < l2[j]
          · exact .inl ⟨h, cmp_lt (val_lt HL.out hl1 D1.out D2.out (by omega) HD.out h)⟩
          · exact .inr ⟨by omega, cmp_gt (val_lt HL.out.symm (by omega) D2.out D1.out (by rw [HL.out]; omega) HD.out.symm (by omega))⟩
        clear he f1 f2 hji
        generalize l1[j]'(by rw [HL.out]; omega) = p at *
        generalize l2[j] = q at *
        rcases hlt with ⟨hlt, hv⟩ | ⟨hlt, hv⟩
        · have e1 : (((p : Nat) : Int) != ((q : Nat) : Int)) = true := by rw [bne_iff_ne]; omega
          have e2 : (p == q) = false := by rw [beq_eq_false_iff_ne]; omega
          go_wp2_with fail
          go_quiet (fail)
          go_wp2_with fail
          go_quiet (fail)
          go_wp2_with fail
          go_ret
          exact ⟨by rw [hv.out]; rfl, _, by rw [World.drewN_drewN, World.drewN_drewN]⟩
        · have e1 : (((p : Nat) : Int) != ((q : Nat) : Int)) = true := by rw [bne_iff_ne]; omega
          have e2 : (p == q) = false := by rw [beq_eq_false_iff_ne]; omega
          have e3 : ¬ p < q := by omega
          go_wp2_with fail
          go_quiet (fail)
          go_wp2_with fail
          go_quiet (fail)
          go_wp2_with fail
          go_ret
          exact ⟨by rw [hv.out]; rfl, _, by rw [World.drewN_drewN, World.drewN_drewN]⟩
/-- Comparing two numbers below 2^32. -/
theorem compare_any (v1 v2 : Value) (a b b1 b2 : Nat) (ha : a < 4294967296) (hb : b < 4294967296) (w : World) (h1 : OwnN b1 w v1 (dg a)) (h2 : OwnN b2 w v2 (dg b)) :
    Calls Tryd.prog 28 #[v1, v2] w fun en w' => cmpR a b w en w' := by
  by_cases hl : (dg a).length = (dg b).length
  · have := compare_same v1 v2 (dg a) (dg b) b1 b2 w h1 h2 hl (dg_le a) (dg_lt ha) (dg_lt hb)
    rw [dg_val, dg_val] at this
    exact this
  · refine compare_len v1 v2 (dg a) (dg b) b1 b2 a b w h1 h2 hl (dg_le a) (dg_le b) ?_
    rcases dg_cases a with ⟨e1, f1⟩ | ⟨e1, f1⟩ | ⟨e1, f1⟩ <;> rcases dg_cases b with ⟨e2, f2⟩ | ⟨e2, f2⟩ | ⟨e2, f2⟩ <;> rw [f1, f2] at hl ⊢ <;> simp at hl ⊢ <;> first | exact cmp_lt (by omega) | exact cmp_gt (by omega)
end Go.Proofs.YtojdgdeefhndiaaDoor
namespace Go.Proofs.YtojdgdeefhndiaaDoor
open Go Go.RowKit Sp Bg
set_option maxRecDepth 100000

theorem make_ints (n : Nat) (hn : n ≤ 1000000) (w : World) : ∃ w', (Instr.makeSlice 46 (.int .i64 (n : Int)) (.int .i64 (n : Int))).run Tryd.prog w = .ok (.slice (some ⟨w.heap.size, 0, none⟩) n n) w' ∧
    OwnN w.heap.size w' (.slice (some ⟨w.heap.size, 0, none⟩) n n) (List.replicate n 0) ∧ Upd noBlk w w' := by
  obtain ⟨i0, hi, hz0, hz1, hz2⟩ := info_parts info_in
  have h := run_make (P := Tryd.prog) w 46 3 i0 (.int .i64 0) Tryd.underlying46 hi hz0 .i64 .i64 (n : Int) (n : Int) (by omega) (by omega) (by rw [hz2]; omega) (by omega)
  rw [hz1] at h
  refine ⟨_, h, ⟨by simp, .inr ⟨w.heap.size, n, _, by simp, Nat.le_refl _, heap_alloc_new w _, by simp, by unfold maxLen; omega, ?_, ?_⟩⟩, (Upd.refl _ _).alloc _⟩
  · rw [size_madeCells]; simp
  · rw [List.length_replicate]
    apply List.ext_getElem?
    intro i
    by_cases hi' : i < n
    · simp [madeCells, intV, hi', Value.cells, Nat.mod_one]
    · simp [madeCells, intV, hi']
set_option maxHeartbeats 800000 in
theorem times_any (v1 v2 : Value) (m b1 b2 : Nat) (hm : m < 65536) (w : World) (h1 : OwnN b1 w v1 [10]) (h2 : OwnN b2 w v2 [m]) :
    Calls Tryd.prog 45 #[v1, v2] w fun en w' => numR w.heap.size (dg (10 * m)) w en w' := by
  obtain ⟨g1, c1, rfl, f1, _, _, _, l1⟩ := h1.cells (by simp)
  obtain ⟨g2, c2, rfl, f2, _, _, _, l2⟩ := h2.cells (by simp)
  have x1 := f1 0 (by simp)
  have x2 := f2 0 (by simp)
  simp only [List.getElem_cons_zero] at x1 x2
  obtain ⟨w1, hmk, hown, hu⟩ := make_ints 2 (by decide) w
  have HO := Lib.hid hown
  have HU := Lib.hid hu
  have X1 := Lib.hid (hu.cell x1 id)
  have X2 := Lib.hid (hu.cell x2 id)
  obtain ⟨cur, hcur⟩ : ∃ cur, w1.heap[w.heap.size]? = some (.cells cur 3 (0, 0)) := ownsRow_type hown rfl
  have hlw := lt_of_heap hcur
  clear hu
  have hc2 : cur = #[.int .i64 0, .int .i64 0] := by
    rcases hown.2 with ⟨e, _⟩ | ⟨g', cap', cur', e, _, hg, _, _, h3, h4⟩
    · cases e
    · cases e
      rw [hcur] at hg
      cases hg
      apply Array.ext'
      have h5 : cur.toList.length = 2 := by simpa using h3
      have h6 : cur.toList.take 2 = [.int .i64 0, .int .i64 0] := by simpa [intV, List.replicate] using h4
      rw [List.take_of_length_le (by omega)] at h6
      simpa using h6
  rw [hc2] at hcur
  have HB := Lib.hid hcur
  clear h1 h2 f1 f2 x1 x2 hown hcur hc2 cur
  change (Instr.makeSlice 46 (.int .i64 2) (.int .i64 2)).run Tryd.prog w = _ at hmk
  go_enter Tryd.func45, Tryd.ntmps45
  go_wp2_with fail
  have hm' : ((m : Nat) : Int) < 65536 := by omega
  go_loopw [6, 7, 8, 9] (fun i _ _ _ wr => (i = .int .i64 0 ∧ w1 = wr) ∨ (i = .int .i64 1 ∧ wr.heap[w.heap.size]? = some (.cells #[.int .i64 ((10 * m % 65536 : Nat) : Int), .int .i64 ((10 * m / 65536 : Nat) : Int)] 3) ∧ Upd noBlk w wr)) (fun i _ _ _ _ => (1 - intOf i).toNat)
  case atStart => exact .inl ⟨rfl, rfl⟩
  case round =>
    rcases hrel with ⟨rfl, rfl⟩ | ⟨rfl, hb, hup⟩
    · go_wp2_with fail
      go_loopw [7, 8, 9] (fun c k _ wr => (k = .int .i64 0 ∧ c = .int .i64 0 ∧ w1 = wr) ∨ (k = .int .i64 1 ∧ c = .int .i64 ((10 * m / 65536 : Nat) : Int) ∧ wr.heap[w.heap.size]? = some (.cells #[.int .i64 ((10 * m % 65536 : Nat) : Int), .int .i64 0] 3) ∧ Upd noBlk w wr)) (fun _ k _ _ => (1 - intOf k).toNat)
      case atStart => exact .inl ⟨rfl, rfl, rfl⟩
      case round =>
        rcases hrel with ⟨rfl, rfl, rfl⟩ | ⟨rfl, rfl, hb, hup⟩
        · have y1 := X1.out
          have y2 := X2.out
          have y3 : w1.cell? ⟨w.heap.size, 0, none⟩ = some (.int .i64 0) := by simp [World.cell?, HB.out]
          have z3 : w1.frozen? ⟨w.heap.size, 0, none⟩ = false := by simp [World.frozen?, HB.out]
          go_wp2_with fail
          go_quiet (fail)
          go_wp2_with fail
          refine ⟨.inr ⟨rfl, by go_num, (heap_setCell_eq (i := 0) _ (HB.out : (w1.drewN nq).heap[w.heap.size]? = _)).trans ?_, (HU.out.drewN nq).setCell (fun h => absurd h (Nat.lt_irrefl _)) _⟩, by simp [intOf]⟩
          simp
        · have z3 : wr.frozen? ⟨w.heap.size, 1, none⟩ = false := by simp [World.frozen?, hb]
          have y3 : wr.cell? ⟨w.heap.size, 1, none⟩ = some (.int .i64 0) := by simp [World.cell?, hb]
          have HB2 := Lib.hid hb
          have HU2 := Lib.hid hup
          clear hb hup
          go_wp2_with fail
          exact ⟨.inr ⟨rfl, (heap_setCell_eq (i := 1) _ HB2.out).trans rfl, HU2.out.setCell (fun h => absurd h (Nat.lt_irrefl _)) _⟩, by simp [intOf]⟩
    · have HO2 : Hid (OwnN w.heap.size wr (.slice (some ⟨w.heap.size, 0, none⟩) 2 2) [10 * m % 65536, 10 * m / 65536]) := ⟨rfl, .inr ⟨_, _, _, rfl, Nat.le_refl _, hb, Nat.le_refl _, by unfold maxLen; decide, rfl, rfl⟩⟩
      have HT := Lib.hid (trim_any _ _ _ (by simp) wr HO2.out)
      have HU2 := Lib.hid hup
      have hd : Hid (trimS [10 * m % 65536, 10 * m / 65536] = dg (10 * m)) := by show _ = _; rw [trim2 _ _ (by omega) (by omega)]; congr 1; omega
      clear hb hup
      go_wp2_with fail
      refine HT.out.mono ?_
      rintro e1 w2 ⟨v, rfl, ov, rfl⟩
      obtain ⟨Av, cv, rfl⟩ := ov.form
      go_wp2_with fail
      go_ret
      exact ⟨_, rfl, by rw [← hd.out]; exact ov, HU2.out⟩
theorem by_any (v1 : Value) (m b1 : Nat) (hm : m < 65536) (w : World) (h1 : OwnN b1 w v1 [10]) :
    Calls Tryd.prog 29 #[v1, .int .i64 m] w fun en w' => numR w.heap.size (dg (10 * m)) w en w' := by
  have H : Hid (OwnN 0 (w.alloc (.cells #[.int .i64 m] 3)) (.slice (some ⟨w.heap.size, 0, none⟩) 1 1) [m]) := ⟨rfl, .inr ⟨_, _, _, rfl, Nat.zero_le _, heap_alloc_new _ _, Nat.le_refl _, by unfold maxLen; decide, rfl, rfl⟩⟩
  have HT := Lib.hid (times_any v1 _ m b1 0 hm _ (h1.upd ((Upd.refl _ _).alloc _)) H.out)
  clear h1
  go_enter Tryd.func29, Tryd.ntmps29
  go_wp2_with fail
  refine HT.out.mono ?_
  rintro e1 w2 ⟨v, rfl, ov, u⟩
  obtain ⟨Av, cv, rfl⟩ := ov.form
  have OV := Lib.hid (ov.mono (base' := w.heap.size) (by simp))
  have UU : Hid (Upd noBlk w w2) := ((Upd.refl _ _).alloc _).trans u
  clear ov u
  go_wp2_with fail
  go_ret
  exact ⟨_, rfl, OV.out, UU.out⟩
end Go.Proofs.YtojdgdeefhndiaaDoor
