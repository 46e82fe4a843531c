/- Walks of the reference's numbers. No condition. A string made a row of bytes, one byte turned, and made a string again. No condition. -/
import Derived.Test.YtojdgdeefhndiaaDoorM19
import Derived.Test.YtojdgdeefhndiaaDoorM16
import Derived.Laws.IdiomStrings
namespace Go.Proofs.YtojdgdeefhndiaaDoor
open Go Go.RowKit Sp Bg
set_option maxRecDepth 100000

theorem mag_cases (n : Nat) (hn : n < 16777216) : (n = 0 ∧ mag n = []) ∨ (∃ a : UInt8, a.toNat = n ∧ 0 < n ∧ n < 256 ∧ mag n = [a]) ∨ (∃ a b : UInt8, 256 * a.toNat + b.toNat = n ∧ 256 ≤ n ∧ n < 65536 ∧ mag n = [a, b]) ∨
    (∃ a b c : UInt8, 65536 * a.toNat + 256 * b.toNat + c.toNat = n ∧ 65536 ≤ n ∧ mag n = [a, b, c]) := by
  unfold mag
  by_cases h0 : n = 0
  · exact .inl ⟨h0, by rw [if_pos h0]⟩
  · by_cases h1 : n < 256
    · refine .inr (.inl ⟨UInt8.ofNat n, ?_, by omega, h1, by rw [if_neg h0, if_pos h1]⟩)
      simp; omega
    · by_cases h2 : n < 65536
      · refine .inr (.inr (.inl ⟨UInt8.ofNat (n / 256), UInt8.ofNat (n % 256), ?_, by omega, h2, by rw [if_neg h0, if_neg h1, if_pos h2]⟩))
        simp; omega
      · refine .inr (.inr (.inr ⟨UInt8.ofNat (n / 65536), UInt8.ofNat (n % 65536 / 256), UInt8.ofNat (n % 256), ?_, by omega, by rw [if_neg h0, if_neg h1, if_neg h2]⟩))
        simp; omega
/-- A wide number that is not negative. -/
def wideV (n : Nat) : Value := .agg #[.bool false, .string (bs (mag n))]
set_option maxHeartbeats 800000 in
theorem digits2_any (n : Nat) (hn : n < 16777216) (w : World) : Calls Tryd.prog 16 #[.agg #[.bool false, .string (bs (mag n))]] w fun en w' => numR w.heap.size (dg n) w en w' := by
  have HU0 : Hid (Upd noBlk w (w.alloc (.cells #[.bool false, .string (bs (mag n))] 38))) := (Upd.refl _ _).alloc _
  have HB0 : Hid ((w.alloc (.cells #[.bool false, .string (bs (mag n))] 38)).heap[w.heap.size]? = some (.cells #[.bool false, .string (bs (mag n))] 38)) := heap_alloc_new _ _
  rcases mag_cases n hn with ⟨h0, hm⟩ | ⟨a, ha, h1, h2, hm⟩ | ⟨a, b, ha, h1, h2, hm⟩ | ⟨a, b, c, ha, h1, hm⟩
  · subst h0
    rw [hm] at HU0 HB0 ⊢
    have hz : (bs []).size = 0 := bs_size _
    have HT := Lib.hid (trim_any w.heap.size (.slice none 0 0) [] (by simp) (w.alloc (.cells #[.bool false, .string (bs [])] 38)) (OwnN.nil _ _))
    clear hm
    go_enter Tryd.func16, Tryd.ntmps16
    go_wp2_with fail
    refine wp_loop_once ?_
    go_wp2_with fail
    refine HT.out.mono ?_
    rintro e1 w2 ⟨v, rfl, ov, rfl⟩
    obtain ⟨Av, cv, rfl⟩ := ov.form
    go_wp2_with fail
    go_ret
    exact ⟨_, rfl, ov, HU0.out⟩
  · rw [hm] at HU0 HB0 ⊢
    have hz : (bs [a]).size = 1 := bs_size _
    have hdg : Hid (trimS [a.toNat] = dg n) := by show _ = _; rw [← ha, trim1 _ (by omega)]
    have e0 : (bs [a])[0] = a := by rw [bs_get _ 0 (by simp)]; rfl
    have b0 : ((a.toNat : Nat) : Int) ≤ 255 := by have := a.toNat_lt; omega
    clear hm ha
    go_enter Tryd.func16, Tryd.ntmps16
    go_wp2_with fail
    go_loopw [3, 5, 6] (fun v i _ wr => ∃ acc : List Nat, ((i = .int .i64 (1) ∧ acc = []) ∨ (i = .int .i64 (-1) ∧ acc = [a.toNat])) ∧ OwnN w.heap.size wr v acc ∧ Upd noBlk w wr ∧ wr.heap[w.heap.size]? = some (.cells #[.bool false, .string (bs [a])] 38)) (fun _ i _ _ => (intOf i + 1).toNat)
    case atStart => exact ⟨[], .inl ⟨rfl, rfl⟩, OwnN.nil _ _, HU0.out, HB0.out⟩
    case round =>
      obtain ⟨acc, hc, ho, hu, hb⟩ := hrel
      have HO := Lib.hid ho
      have HU := Lib.hid hu
      have HB := Lib.hid hb
      have c1 : wr.cell? ⟨w.heap.size, 1, none⟩ = some (.string (bs [a])) := by simp [World.cell?, hb]
      clear ho hu hb
      rcases hc with ⟨rfl, rfl⟩ | ⟨rfl, rfl⟩
      · obtain ⟨g, cap, w6, r6, o6, v6⟩ := append_n HU.out.size HO.out (a.toNat) (by simp)
        have hb6 := v6.heap HB.out (fun e => by obtain ⟨c, hc⟩ := ownsRow_type HO.out e; rw [HB.out] at hc; cases hc)
        have R6 := Lib.hid r6
        have O6 := Lib.hid o6
        have HB6 := Lib.hid hb6
        have U6 := Lib.hid (HU.out.then v6 (fun i hi e => by have := (HO.out.lt _ e).1; omega))
        clear r6 o6 v6 hb6
        go_wp2_with (at_builtin; refine wpList_append_run rfl _ _ _ rfl rfl rfl R6.out ?_)
        exact ⟨⟨_, .inr (⟨rfl, rfl⟩), O6.out, U6.out, HB6.out⟩, by simp [intOf]⟩
      · have HT := Lib.hid (trim_any _ _ _ (by simp) wr HO.out)
        obtain ⟨Av, cv, rfl⟩ := HO.out.form
        go_wp2_with fail
        refine HT.out.mono ?_
        rintro e1 w2 ⟨v, rfl, ov, rfl⟩
        obtain ⟨Av, cv, rfl⟩ := ov.form
        go_wp2_with fail
        go_ret
        exact ⟨_, rfl, by rw [← hdg.out]; exact ov, HU.out⟩
  · rw [hm] at HU0 HB0 ⊢
    have hz : (bs [a, b]).size = 2 := bs_size _
    have hdg : Hid (trimS [b.toNat + 256 * a.toNat] = dg n) := by show _ = _; rw [trim1 _ (by omega)]; congr 1; omega
    have e0 : (bs [a, b])[0] = a := by rw [bs_get _ 0 (by simp)]; rfl
    have b0 : ((a.toNat : Nat) : Int) ≤ 255 := by have := a.toNat_lt; omega
    have e1 : (bs [a, b])[1] = b := by rw [bs_get _ 1 (by simp)]; rfl
    have b1 : ((b.toNat : Nat) : Int) ≤ 255 := by have := b.toNat_lt; omega
    clear hm ha
    go_enter Tryd.func16, Tryd.ntmps16
    go_wp2_with fail
    go_loopw [3, 5, 6] (fun v i _ wr => ∃ acc : List Nat, ((i = .int .i64 (2) ∧ acc = []) ∨ (i = .int .i64 (0) ∧ acc = [b.toNat + 256 * a.toNat])) ∧ OwnN w.heap.size wr v acc ∧ Upd noBlk w wr ∧ wr.heap[w.heap.size]? = some (.cells #[.bool false, .string (bs [a, b])] 38)) (fun _ i _ _ => (intOf i + 1).toNat)
    case atStart => exact ⟨[], .inl ⟨rfl, rfl⟩, OwnN.nil _ _, HU0.out, HB0.out⟩
    case round =>
      obtain ⟨acc, hc, ho, hu, hb⟩ := hrel
      have HO := Lib.hid ho
      have HU := Lib.hid hu
      have HB := Lib.hid hb
      have c1 : wr.cell? ⟨w.heap.size, 1, none⟩ = some (.string (bs [a, b])) := by simp [World.cell?, hb]
      clear ho hu hb
      rcases hc with ⟨rfl, rfl⟩ | ⟨rfl, rfl⟩
      · obtain ⟨g, cap, w6, r6, o6, v6⟩ := append_n HU.out.size HO.out (b.toNat + 256 * a.toNat) (by simp)
        have hb6 := v6.heap HB.out (fun e => by obtain ⟨c, hc⟩ := ownsRow_type HO.out e; rw [HB.out] at hc; cases hc)
        have hx : (((b.toNat + 256 * a.toNat : Nat)) : Int) = (b.toNat : Int) + 256 * (a.toNat : Int) := by omega
        rw [hx] at r6
        clear hx
        have R6 := Lib.hid r6
        have O6 := Lib.hid o6
        have HB6 := Lib.hid hb6
        have U6 := Lib.hid (HU.out.then v6 (fun i hi e => by have := (HO.out.lt _ e).1; omega))
        clear r6 o6 v6 hb6
        go_wp2_with (at_builtin; refine wpList_append_run rfl _ _ _ rfl rfl rfl R6.out ?_)
        exact ⟨⟨_, .inr (⟨rfl, rfl⟩), O6.out, U6.out, HB6.out⟩, by simp [intOf]⟩
      · have HT := Lib.hid (trim_any _ _ _ (by simp) wr HO.out)
        obtain ⟨Av, cv, rfl⟩ := HO.out.form
        go_wp2_with fail
        refine HT.out.mono ?_
        rintro e1 w2 ⟨v, rfl, ov, rfl⟩
        obtain ⟨Av, cv, rfl⟩ := ov.form
        go_wp2_with fail
        go_ret
        exact ⟨_, rfl, by rw [← hdg.out]; exact ov, HU.out⟩
  · rw [hm] at HU0 HB0 ⊢
    have hz : (bs [a, b, c]).size = 3 := bs_size _
    have hdg : Hid (trimS [c.toNat + 256 * b.toNat, a.toNat] = dg n) := by show _ = _; have := a.toNat_lt; have := b.toNat_lt; have := c.toNat_lt; rw [trim2 _ _ (by omega) (by omega)]; congr 1; omega
    have e0 : (bs [a, b, c])[0] = a := by rw [bs_get _ 0 (by simp)]; rfl
    have b0 : ((a.toNat : Nat) : Int) ≤ 255 := by have := a.toNat_lt; omega
    have e1 : (bs [a, b, c])[1] = b := by rw [bs_get _ 1 (by simp)]; rfl
    have b1 : ((b.toNat : Nat) : Int) ≤ 255 := by have := b.toNat_lt; omega
    have e2 : (bs [a, b, c])[2] = c := by rw [bs_get _ 2 (by simp)]; rfl
    have b2 : ((c.toNat : Nat) : Int) ≤ 255 := by have := c.toNat_lt; omega
    clear hm ha
    go_enter Tryd.func16, Tryd.ntmps16
    go_wp2_with fail
    go_loopw [3, 5, 6] (fun v i _ wr => ∃ acc : List Nat, ((i = .int .i64 (3) ∧ acc = []) ∨ (i = .int .i64 (1) ∧ acc = [c.toNat + 256 * b.toNat]) ∨ (i = .int .i64 (-1) ∧ acc = [c.toNat + 256 * b.toNat, a.toNat])) ∧ OwnN w.heap.size wr v acc ∧ Upd noBlk w wr ∧ wr.heap[w.heap.size]? = some (.cells #[.bool false, .string (bs [a, b, c])] 38)) (fun _ i _ _ => (intOf i + 1).toNat)
    case atStart => exact ⟨[], .inl ⟨rfl, rfl⟩, OwnN.nil _ _, HU0.out, HB0.out⟩
    case round =>
      obtain ⟨acc, hc, ho, hu, hb⟩ := hrel
      have HO := Lib.hid ho
      have HU := Lib.hid hu
      have HB := Lib.hid hb
      have c1 : wr.cell? ⟨w.heap.size, 1, none⟩ = some (.string (bs [a, b, c])) := by simp [World.cell?, hb]
      clear ho hu hb
      rcases hc with ⟨rfl, rfl⟩ | ⟨rfl, rfl⟩ | ⟨rfl, rfl⟩
      · obtain ⟨g, cap, w6, r6, o6, v6⟩ := append_n HU.out.size HO.out (c.toNat + 256 * b.toNat) (by simp)
        have hb6 := v6.heap HB.out (fun e => by obtain ⟨c, hc⟩ := ownsRow_type HO.out e; rw [HB.out] at hc; cases hc)
        have hx : (((c.toNat + 256 * b.toNat : Nat)) : Int) = (c.toNat : Int) + 256 * (b.toNat : Int) := by omega
        rw [hx] at r6
        clear hx
        have R6 := Lib.hid r6
        have O6 := Lib.hid o6
        have HB6 := Lib.hid hb6
        have U6 := Lib.hid (HU.out.then v6 (fun i hi e => by have := (HO.out.lt _ e).1; omega))
        clear r6 o6 v6 hb6
        go_wp2_with (at_builtin; refine wpList_append_run rfl _ _ _ rfl rfl rfl R6.out ?_)
        exact ⟨⟨_, .inr (.inl ⟨rfl, rfl⟩), O6.out, U6.out, HB6.out⟩, by simp [intOf]⟩
      · obtain ⟨g, cap, w6, r6, o6, v6⟩ := append_n HU.out.size HO.out (a.toNat) (by simp)
        have hb6 := v6.heap HB.out (fun e => by obtain ⟨c, hc⟩ := ownsRow_type HO.out e; rw [HB.out] at hc; cases hc)
        have R6 := Lib.hid r6
        have O6 := Lib.hid o6
        have HB6 := Lib.hid hb6
        have U6 := Lib.hid (HU.out.then v6 (fun i hi e => by have := (HO.out.lt _ e).1; omega))
        clear r6 o6 v6 hb6
        go_wp2_with (at_builtin; refine wpList_append_run rfl _ _ _ rfl rfl rfl R6.out ?_)
        exact ⟨⟨_, .inr (.inr (⟨rfl, rfl⟩)), O6.out, U6.out, HB6.out⟩, by simp [intOf]⟩
      · have HT := Lib.hid (trim_any _ _ _ (by simp) wr HO.out)
        obtain ⟨Av, cv, rfl⟩ := HO.out.form
        go_wp2_with fail
        refine HT.out.mono ?_
        rintro e1 w2 ⟨v, rfl, ov, rfl⟩
        obtain ⟨Av, cv, rfl⟩ := ov.form
        go_wp2_with fail
        go_ret
        exact ⟨_, rfl, by rw [← hdg.out]; exact ov, HU.out⟩
end Go.Proofs.YtojdgdeefhndiaaDoor
namespace Go.Proofs.YtojdgdeefhndiaaDoor
open Go Go.RowKit Sp
set_option maxRecDepth 100000
/-- A row of bytes at a block. -/
def RowB (w : World) (N : Nat) (l : Bytes) : Prop := ∀ j (h : j < l.length), w.cell? ⟨N, j, none⟩ = some (.int .u8 (l[j].toNat : Nat)) ∧ w.frozen? ⟨N, j, none⟩ = false
theorem bytes_of (l : Bytes) (w : World) : ∃ cap W, (convert 9 50 (.string (bs l))).run Tryd.prog w = .ok (.slice (some ⟨w.heap.size, 0, none⟩) l.length cap) W ∧ Upd noBlk w W ∧ w.heap.size < W.heap.size ∧ RowB W w.heap.size l := by
  have h := run_bytes_of_string (P := Tryd.prog) w 9 50 5 (bs l) Tryd.underlying9 Tryd.underlying50 Tryd.underlying5
  rw [bs_size] at h
  generalize grownCap w l.length 0 5 = cap at h
  refine ⟨cap, _, h, ((Upd.refl _ _).drew).alloc _, by simp, fun j hj => ?_⟩
  have hg : (w.drew.alloc (.cells (bytesRow (bs l) cap) 5 ((bytesRow (bs l) cap).size, (bytesRow (bs l) cap).size + 1))).heap[w.heap.size]? = some (.cells (bytesRow (bs l) cap) 5 ((bytesRow (bs l) cap).size, (bytesRow (bs l) cap).size + 1)) := heap_alloc_new w.drew _
  have hs : j < (bs l).data.size := by unfold bs; simpa using hj
  constructor
  · simp only [World.cell?, hg]
    rw [bytesRow_at (bs l) cap j hs]
    simp [bs]
  · simp only [World.frozen?, hg]
    have : j < (bytesRow (bs l) cap).size := by unfold bytesRow; rw [Array.size_append, Array.size_map]; omega
    simp; omega
theorem RowB.set {w : World} {N k : Nat} {l : Bytes} (h : RowB w N l) (hk : k < l.length) (c : UInt8) : RowB (w.setCell ⟨N, k, none⟩ (.int .u8 (c.toNat : Nat))) N (l.set k c) := by
  intro j hj
  rw [List.length_set] at hj
  obtain ⟨h1, h2⟩ := h j hj
  refine ⟨?_, ?_⟩
  · by_cases e : j = k
    · subst e
      rw [World.cell?_setCell_same _ _ _ h1]; simp
    · rw [List.getElem_set_ne (Ne.symm e), ← h1, World.cell?_setCell_other _ _ _ _ (fun x => e (by cases x; rfl))]
  · rw [← h2]; simp
theorem RowB.conv {w : World} {N n cap : Nat} {l : Bytes} (hn : n = l.length) (h : RowB w N l) : (convert 50 9 (.slice (some ⟨N, 0, none⟩) n cap)).run Tryd.prog w = .ok (.string (bs l)) w := by
  subst hn
  exact run_convert_bytes_back (P := Tryd.prog) w 50 9 5 ⟨N, 0, none⟩ cap l Tryd.underlying50 Tryd.underlying5 Tryd.underlying9 (fun j hj => by
    have := (h j hj).1
    by_cases e : j = 0
    · subst e; simpa [Addr.add] using this
    · simpa [Addr.add, e] using this)
end Go.Proofs.YtojdgdeefhndiaaDoor
