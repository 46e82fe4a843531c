/- Walks of the reference's numbers. No condition. -/
import Derived.Test.YtojdgdeefhndiaaDoorM20
import Derived.Handy
namespace Go.Proofs.YtojdgdeefhndiaaDoor
open Go Go.RowKit Sp Bg
set_option maxRecDepth 100000

theorem trim_own {n : Nat} (hn : n < 4294967296) : trimS (dg n) = dg n := by rw [trim_dg (dg_le n) (dg_lt hn), dg_val]
def wideR (n : Nat) (w : World) (en : Ending) (w' : World) : Prop := en = .returned (.agg #[.bool false, .string (bs (mag n))]) ∧ Upd noBlk w w'
set_option maxHeartbeats 800000 in
theorem wide_any (v : Value) (n base : Nat) (hn : n < 16777216) (w : World) (h : OwnN base w v (dg n)) : Calls Tryd.prog 18 #[.bool false, v] w fun en w' => wideR n w en w' := by
  have HU0 : Hid (Upd noBlk w (w.alloc (.cells #[.bool false, .string ⟨#[]⟩] 38))) := (Upd.refl _ _).alloc _
  have HB0 : Hid ((w.alloc (.cells #[.bool false, .string ⟨#[]⟩] 38)).heap[w.heap.size]? = some (.cells #[.bool false, .string ⟨#[]⟩] 38)) := heap_alloc_new _ _
  have HSZ : Hid (w.heap.size + 1 ≤ (w.alloc (.cells #[.bool false, .string ⟨#[]⟩] 38)).heap.size) := by show _ ≤ _; simp
  have HT0 := Lib.hid (trim_any base v (dg n) (by have := dg_le n; omega) _ (h.upd HU0.out))
  rw [trim_own (by omega)] at HT0
  obtain ⟨A0, c0, rfl⟩ := h.form
  rcases mag_cases n hn with ⟨h0, hm⟩ | ⟨a, ha, h1, h2, hm⟩ | ⟨a, b, ha, h1, h2, hm⟩ | ⟨a, b, c, ha, h1, hm⟩
  · subst h0
    have HM : Hid (mag 0 = []) := hm
    clear hm
    go_enter Tryd.func18, Tryd.ntmps18
    go_wp2_with fail
    refine HT0.out.mono ?_
    rintro e1 w2 ⟨v, rfl, ov, rfl⟩
    obtain ⟨Av, cv, rfl⟩ := ov.form
    have z0 := HB0.out
    go_wp2_with fail
    go_returns
    exact ⟨by rw [HM.out]; rfl, HU0.out⟩
  · have HM : Hid (mag n = [a]) := hm
    have hdg : dg n = [n] := dg1 (by omega) (by omega)
    rw [hdg] at HT0
    rw [hdg]
    have ba : ((a.toNat : Nat) : Int) ≤ 255 := by have := a.toNat_lt; omega
    have wa : IntKind.u8.wrap ((a.toNat : Nat) : Int) = ((a.toNat : Nat) : Int) := wrap_u8 (by omega) ba
    have q1 : ((n : Nat) : Int) % 256 = ((a.toNat : Nat) : Int) := by omega
    have q3 : ¬ (256 : Int) ≤ ((n : Nat) : Int) := by omega
    clear hm ha hdg
    go_enter Tryd.func18, Tryd.ntmps18
    go_wp2_with fail
    refine HT0.out.mono ?_
    rintro e1 w2 ⟨v, rfl, ov, rfl⟩
    obtain ⟨g, cp, rfl, hc, _, _, _, hg⟩ := ov.cells (by simp)
    have HN2 : Hid (∀ i, i < (w.alloc (.cells #[.bool false, .string ⟨#[]⟩] 38)).heap.size → w.heap.size + 1 ≤ i → False) := fun i hi h => by simp at hi; omega
    generalize w.alloc (.cells #[.bool false, .string ⟨#[]⟩] 38) = w2 at *
    have d0 := hc 0 (by simp)
    simp only [List.getElem_cons_zero] at d0
    have D0 := Lib.hid d0
    clear hc ov d0
    go_wp2_with fail
    go_loopw [5, 6] (fun v i wr => ∃ acc : Bytes, ((i = .int .i64 (0) ∧ acc = []) ∨ (i = .int .i64 (-1) ∧ acc = [a])) ∧ wr.ownsRow (w.heap.size + 1) 5 1 v acc.length (byV acc) ∧ Upd noBlk w2 wr) (fun _ i _ => (intOf i + 1).toNat)
    case atStart => exact ⟨[], .inl ⟨rfl, rfl⟩, World.ownsRow_nil _ _ _ _, Upd.refl _ _⟩
    case round =>
      obtain ⟨acc, hc, ho, hu⟩ := hrel
      have HO := Lib.hid ho
      have HU := Lib.hid hu
      clear ho hu
      rcases hc with ⟨rfl, rfl⟩ | ⟨rfl, rfl⟩
      · have d0 := HU.out.cell D0.out id
        have hs := HU.out.size
        have hs0 : w.heap.size + 1 ≤ w2.heap.size := HSZ.out
        obtain ⟨g0, cap0, x0, r0, o0, v0⟩ := append_by (w := wr) (base := w.heap.size + 1) (by omega) HO.out a (by simp)
        have R0 := Lib.hid r0
        have O0 : Hid (x0.ownsRow (w.heap.size + 1) 5 1 (.slice (some ⟨g0, 0, none⟩) ([].length + 1) cap0) ([] ++ [a]).length (byV ([] ++ [a]))) := o0
        have U0 : Hid (Upd noBlk w2 x0) := HU.out.then v0 (fun i hi e => by have h := (HO.out.lt _ e).1; exact HN2.out i hi h)
        have e0 := U0.out.cell D0.out id
        clear r0 o0 v0
        go_wp2_with (first | (at_builtin; refine wpList_append_run rfl _ _ _ rfl rfl rfl R0.out ?_))
        exact ⟨⟨_, .inr (⟨rfl, rfl⟩), O0.out, U0.out⟩, by simp [intOf]⟩
      · obtain ⟨Ab, cb, rfl⟩ := own_form HO.out
        have hcv : (convert 50 9 (.slice Ab 1 cb)).run Tryd.prog wr = .ok (.string (bs [a])) wr := conv_bs rfl HO.out
        have hb := HU.out.heap HB0.out id
        have z0 : wr.cell? ⟨w.heap.size, 0, none⟩ = some (.bool false) := by simp [World.cell?, hb]
        have z1 : wr.cell? ⟨w.heap.size, 1, none⟩ = some (.string ⟨#[]⟩) := by simp [World.cell?, hb]
        have y0 : wr.frozen? ⟨w.heap.size, 0, none⟩ = false := by simp [World.frozen?, hb]
        have y1 : wr.frozen? ⟨w.heap.size, 1, none⟩ = false := by simp [World.frozen?, hb]
        clear hb
        have hW : ((wr.setCell ⟨w.heap.size, 0, none⟩ (.bool false)).setCell ⟨w.heap.size, 1, none⟩ (.string (bs [a]))).heap[w.heap.size]? = some (.cells #[.bool false, .string (bs [a])] 38) := by
          have h1 := (heap_setCell_eq (i := 0) (.bool false) (HU.out.heap HB0.out id)).trans rfl
          exact (heap_setCell_eq (i := 1) (.string (bs [a])) h1).trans rfl
        have p0 := cell_of_row _ _ 0 _ _ _ hW
        have p1 := cell_of_row _ _ 1 _ _ _ hW
        clear hW
        go_wp2_with fail
        refine bodyPost_ret (v := .agg #[.bool false, .string (bs [a])]) (by simp [results, Tryd.results18, go_sem, p0, p1]) rfl ?_
        exact ⟨by rw [HM.out], (((HU0.out.trans HU.out).setCell (fun h => absurd h (Nat.lt_irrefl _)) _).setCell (fun h => absurd h (Nat.lt_irrefl _)) _)⟩
  · have HM : Hid (mag n = [a, b]) := hm
    have hdg : dg n = [n] := dg1 (by omega) (by omega)
    rw [hdg] at HT0
    rw [hdg]
    have ba : ((a.toNat : Nat) : Int) ≤ 255 := by have := a.toNat_lt; omega
    have wa : IntKind.u8.wrap ((a.toNat : Nat) : Int) = ((a.toNat : Nat) : Int) := wrap_u8 (by omega) ba
    have bb : ((b.toNat : Nat) : Int) ≤ 255 := by have := b.toNat_lt; omega
    have wb : IntKind.u8.wrap ((b.toNat : Nat) : Int) = ((b.toNat : Nat) : Int) := wrap_u8 (by omega) bb
    have q0 : ((n : Nat) : Int) / 256 = ((a.toNat : Nat) : Int) := by omega
    have q1 : ((n : Nat) : Int) % 256 = ((b.toNat : Nat) : Int) := by omega
    have q3 : (256 : Int) ≤ ((n : Nat) : Int) := by omega
    clear hm ha hdg
    go_enter Tryd.func18, Tryd.ntmps18
    go_wp2_with fail
    refine HT0.out.mono ?_
    rintro e1 w2 ⟨v, rfl, ov, rfl⟩
    obtain ⟨g, cp, rfl, hc, _, _, _, hg⟩ := ov.cells (by simp)
    have HN2 : Hid (∀ i, i < (w.alloc (.cells #[.bool false, .string ⟨#[]⟩] 38)).heap.size → w.heap.size + 1 ≤ i → False) := fun i hi h => by simp at hi; omega
    generalize w.alloc (.cells #[.bool false, .string ⟨#[]⟩] 38) = w2 at *
    have d0 := hc 0 (by simp)
    simp only [List.getElem_cons_zero] at d0
    have D0 := Lib.hid d0
    clear hc ov d0
    go_wp2_with fail
    go_loopw [5, 6] (fun v i wr => ∃ acc : Bytes, ((i = .int .i64 (0) ∧ acc = []) ∨ (i = .int .i64 (-1) ∧ acc = [a, b])) ∧ wr.ownsRow (w.heap.size + 1) 5 1 v acc.length (byV acc) ∧ Upd noBlk w2 wr) (fun _ i _ => (intOf i + 1).toNat)
    case atStart => exact ⟨[], .inl ⟨rfl, rfl⟩, World.ownsRow_nil _ _ _ _, Upd.refl _ _⟩
    case round =>
      obtain ⟨acc, hc, ho, hu⟩ := hrel
      have HO := Lib.hid ho
      have HU := Lib.hid hu
      clear ho hu
      rcases hc with ⟨rfl, rfl⟩ | ⟨rfl, rfl⟩
      · have d0 := HU.out.cell D0.out id
        have hs := HU.out.size
        have hs0 : w.heap.size + 1 ≤ w2.heap.size := HSZ.out
        obtain ⟨g0, cap0, x0, r0, o0, v0⟩ := append_by (w := wr) (base := w.heap.size + 1) (by omega) HO.out a (by simp)
        have R0 := Lib.hid r0
        have O0 : Hid (x0.ownsRow (w.heap.size + 1) 5 1 (.slice (some ⟨g0, 0, none⟩) ([].length + 1) cap0) ([] ++ [a]).length (byV ([] ++ [a]))) := o0
        have U0 : Hid (Upd noBlk w2 x0) := HU.out.then v0 (fun i hi e => by have h := (HO.out.lt _ e).1; exact HN2.out i hi h)
        have e0 := U0.out.cell D0.out id
        clear r0 o0 v0
        obtain ⟨g1, cap1, x1, r1, o1, v1⟩ := append_by (w := x0) (base := w.heap.size + 1) (by have := U0.out.size; omega) O0.out b (by simp)
        have R1 := Lib.hid r1
        have O1 : Hid (x1.ownsRow (w.heap.size + 1) 5 1 (.slice (some ⟨g1, 0, none⟩) ([a].length + 1) cap1) ([a] ++ [b]).length (byV ([a] ++ [b]))) := o1
        have U1 : Hid (Upd noBlk w2 x1) := U0.out.then v1 (fun i hi e => by have h := (O0.out.lt _ e).1; exact HN2.out i hi h)
        have e1 := U1.out.cell D0.out id
        clear r1 o1 v1
        go_wp2_with (first | (at_builtin; refine wpList_append_run rfl _ _ _ rfl rfl rfl R0.out ?_) | (at_builtin; refine wpList_append_run rfl _ _ _ rfl rfl rfl R1.out ?_))
        exact ⟨⟨_, .inr (⟨rfl, rfl⟩), O1.out, U1.out⟩, by simp [intOf]⟩
      · obtain ⟨Ab, cb, rfl⟩ := own_form HO.out
        have hcv : (convert 50 9 (.slice Ab 2 cb)).run Tryd.prog wr = .ok (.string (bs [a, b])) wr := conv_bs rfl HO.out
        have hb := HU.out.heap HB0.out id
        have z0 : wr.cell? ⟨w.heap.size, 0, none⟩ = some (.bool false) := by simp [World.cell?, hb]
        have z1 : wr.cell? ⟨w.heap.size, 1, none⟩ = some (.string ⟨#[]⟩) := by simp [World.cell?, hb]
        have y0 : wr.frozen? ⟨w.heap.size, 0, none⟩ = false := by simp [World.frozen?, hb]
        have y1 : wr.frozen? ⟨w.heap.size, 1, none⟩ = false := by simp [World.frozen?, hb]
        clear hb
        have hW : ((wr.setCell ⟨w.heap.size, 0, none⟩ (.bool false)).setCell ⟨w.heap.size, 1, none⟩ (.string (bs [a, b]))).heap[w.heap.size]? = some (.cells #[.bool false, .string (bs [a, b])] 38) := by
          have h1 := (heap_setCell_eq (i := 0) (.bool false) (HU.out.heap HB0.out id)).trans rfl
          exact (heap_setCell_eq (i := 1) (.string (bs [a, b])) h1).trans rfl
        have p0 := cell_of_row _ _ 0 _ _ _ hW
        have p1 := cell_of_row _ _ 1 _ _ _ hW
        clear hW
        go_wp2_with fail
        refine bodyPost_ret (v := .agg #[.bool false, .string (bs [a, b])]) (by simp [results, Tryd.results18, go_sem, p0, p1]) rfl ?_
        exact ⟨by rw [HM.out], (((HU0.out.trans HU.out).setCell (fun h => absurd h (Nat.lt_irrefl _)) _).setCell (fun h => absurd h (Nat.lt_irrefl _)) _)⟩
  · have HM : Hid (mag n = [a, b, c]) := hm
    have hdg : dg n = [n % 65536, n / 65536] := dg2 (by omega)
    rw [hdg] at HT0
    rw [hdg]
    have ba : ((a.toNat : Nat) : Int) ≤ 255 := by have := a.toNat_lt; omega
    have wa : IntKind.u8.wrap ((a.toNat : Nat) : Int) = ((a.toNat : Nat) : Int) := wrap_u8 (by omega) ba
    have bb : ((b.toNat : Nat) : Int) ≤ 255 := by have := b.toNat_lt; omega
    have wb : IntKind.u8.wrap ((b.toNat : Nat) : Int) = ((b.toNat : Nat) : Int) := wrap_u8 (by omega) bb
    have bc : ((c.toNat : Nat) : Int) ≤ 255 := by have := c.toNat_lt; omega
    have wc : IntKind.u8.wrap ((c.toNat : Nat) : Int) = ((c.toNat : Nat) : Int) := wrap_u8 (by omega) bc
    obtain ⟨lo, hlo⟩ : ∃ lo, lo = n % 65536 := ⟨_, rfl⟩
    obtain ⟨hi, hhi⟩ : ∃ hi, hi = n / 65536 := ⟨_, rfl⟩
    rw [← hlo, ← hhi] at HT0; rw [← hlo, ← hhi]
    have q0 : ((lo : Nat) : Int) / 256 = ((b.toNat : Nat) : Int) := by omega
    have q1 : ((lo : Nat) : Int) % 256 = ((c.toNat : Nat) : Int) := by omega
    have q2 : ((hi : Nat) : Int) % 256 = ((a.toNat : Nat) : Int) := by omega
    have q3 : ¬ (256 : Int) ≤ ((hi : Nat) : Int) := by omega
    clear hlo hhi
    clear hm ha hdg
    go_enter Tryd.func18, Tryd.ntmps18
    go_wp2_with fail
    refine HT0.out.mono ?_
    rintro e1 w2 ⟨v, rfl, ov, rfl⟩
    obtain ⟨g, cp, rfl, hc, _, _, _, hg⟩ := ov.cells (by simp)
    have HN2 : Hid (∀ i, i < (w.alloc (.cells #[.bool false, .string ⟨#[]⟩] 38)).heap.size → w.heap.size + 1 ≤ i → False) := fun i hi h => by simp at hi; omega
    generalize w.alloc (.cells #[.bool false, .string ⟨#[]⟩] 38) = w2 at *
    have d0 := hc 0 (by simp)
    have d1 := hc 1 (by simp)
    simp only [List.getElem_cons_zero, List.getElem_cons_succ] at d0 d1
    have D0 := Lib.hid d0
    have D1 := Lib.hid d1
    clear hc ov d0 d1
    go_wp2_with fail
    go_loopw [5, 6] (fun v i wr => ∃ acc : Bytes, ((i = .int .i64 (1) ∧ acc = []) ∨ (i = .int .i64 (0) ∧ acc = [a]) ∨ (i = .int .i64 (-1) ∧ acc = [a, b, c])) ∧ wr.ownsRow (w.heap.size + 1) 5 1 v acc.length (byV acc) ∧ Upd noBlk w2 wr) (fun _ i _ => (intOf i + 1).toNat)
    case atStart => exact ⟨[], .inl ⟨rfl, rfl⟩, World.ownsRow_nil _ _ _ _, Upd.refl _ _⟩
    case round =>
      obtain ⟨acc, hc, ho, hu⟩ := hrel
      have HO := Lib.hid ho
      have HU := Lib.hid hu
      clear ho hu
      rcases hc with ⟨rfl, rfl⟩ | ⟨rfl, rfl⟩ | ⟨rfl, rfl⟩
      · have d1 := HU.out.cell D1.out id
        have hs := HU.out.size
        have hs0 : w.heap.size + 1 ≤ w2.heap.size := HSZ.out
        obtain ⟨g0, cap0, x0, r0, o0, v0⟩ := append_by (w := wr) (base := w.heap.size + 1) (by omega) HO.out a (by simp)
        have R0 := Lib.hid r0
        have O0 : Hid (x0.ownsRow (w.heap.size + 1) 5 1 (.slice (some ⟨g0, 0, none⟩) ([].length + 1) cap0) ([] ++ [a]).length (byV ([] ++ [a]))) := o0
        have U0 : Hid (Upd noBlk w2 x0) := HU.out.then v0 (fun i hi e => by have h := (HO.out.lt _ e).1; exact HN2.out i hi h)
        have e0 := U0.out.cell D1.out id
        clear r0 o0 v0
        go_wp2_with (first | (at_builtin; refine wpList_append_run rfl _ _ _ rfl rfl rfl R0.out ?_))
        exact ⟨⟨_, .inr (.inl ⟨rfl, rfl⟩), O0.out, U0.out⟩, by simp [intOf]⟩
      · have d0 := HU.out.cell D0.out id
        have hs := HU.out.size
        have hs0 : w.heap.size + 1 ≤ w2.heap.size := HSZ.out
        obtain ⟨g0, cap0, x0, r0, o0, v0⟩ := append_by (w := wr) (base := w.heap.size + 1) (by omega) HO.out b (by simp)
        have R0 := Lib.hid r0
        have O0 : Hid (x0.ownsRow (w.heap.size + 1) 5 1 (.slice (some ⟨g0, 0, none⟩) ([a].length + 1) cap0) ([a] ++ [b]).length (byV ([a] ++ [b]))) := o0
        have U0 : Hid (Upd noBlk w2 x0) := HU.out.then v0 (fun i hi e => by have h := (HO.out.lt _ e).1; exact HN2.out i hi h)
        have e0 := U0.out.cell D0.out id
        clear r0 o0 v0
        obtain ⟨g1, cap1, x1, r1, o1, v1⟩ := append_by (w := x0) (base := w.heap.size + 1) (by have := U0.out.size; omega) O0.out c (by simp)
        have R1 := Lib.hid r1
        have O1 : Hid (x1.ownsRow (w.heap.size + 1) 5 1 (.slice (some ⟨g1, 0, none⟩) ([a, b].length + 1) cap1) ([a, b] ++ [c]).length (byV ([a, b] ++ [c]))) := o1
        have U1 : Hid (Upd noBlk w2 x1) := U0.out.then v1 (fun i hi e => by have h := (O0.out.lt _ e).1; exact HN2.out i hi h)
        have e1 := U1.out.cell D0.out id
        clear r1 o1 v1
        go_wp2_with (first | (at_builtin; refine wpList_append_run rfl _ _ _ rfl rfl rfl R0.out ?_) | (at_builtin; refine wpList_append_run rfl _ _ _ rfl rfl rfl R1.out ?_))
        exact ⟨⟨_, .inr (.inr (⟨rfl, rfl⟩)), O1.out, U1.out⟩, by simp [intOf]⟩
      · obtain ⟨Ab, cb, rfl⟩ := own_form HO.out
        have hcv : (convert 50 9 (.slice Ab 3 cb)).run Tryd.prog wr = .ok (.string (bs [a, b, c])) wr := conv_bs rfl HO.out
        have hb := HU.out.heap HB0.out id
        have z0 : wr.cell? ⟨w.heap.size, 0, none⟩ = some (.bool false) := by simp [World.cell?, hb]
        have z1 : wr.cell? ⟨w.heap.size, 1, none⟩ = some (.string ⟨#[]⟩) := by simp [World.cell?, hb]
        have y0 : wr.frozen? ⟨w.heap.size, 0, none⟩ = false := by simp [World.frozen?, hb]
        have y1 : wr.frozen? ⟨w.heap.size, 1, none⟩ = false := by simp [World.frozen?, hb]
        clear hb
        have hW : ((wr.setCell ⟨w.heap.size, 0, none⟩ (.bool false)).setCell ⟨w.heap.size, 1, none⟩ (.string (bs [a, b, c]))).heap[w.heap.size]? = some (.cells #[.bool false, .string (bs [a, b, c])] 38) := by
          have h1 := (heap_setCell_eq (i := 0) (.bool false) (HU.out.heap HB0.out id)).trans rfl
          exact (heap_setCell_eq (i := 1) (.string (bs [a, b, c])) h1).trans rfl
        have p0 := cell_of_row _ _ 0 _ _ _ hW
        have p1 := cell_of_row _ _ 1 _ _ _ hW
        clear hW
        go_wp2_with fail
        refine bodyPost_ret (v := .agg #[.bool false, .string (bs [a, b, c])]) (by simp [results, Tryd.results18, go_sem, p0, p1]) rfl ?_
        exact ⟨by rw [HM.out], (((HU0.out.trans HU.out).setCell (fun h => absurd h (Nat.lt_irrefl _)) _).setCell (fun h => absurd h (Nat.lt_irrefl _)) _)⟩
end Go.Proofs.YtojdgdeefhndiaaDoor
