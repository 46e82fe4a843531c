/- Walks of the reference's numbers. No condition. -/
import Derived.Test.YtojdgdeefhndiaaDoorM21
namespace Go.Proofs.YtojdgdeefhndiaaDoor
open Go Go.RowKit Sp Bg
set_option maxRecDepth 100000

theorem bs_append' (a b : Bytes) : bs a ++ bs b = bs (a ++ b) := by apply ByteArray.ext; simp [bs]
theorem dg_step {n : Nat} (h0 : 0 < n) (h : n < 4294967296) : dg n = n % 65536 :: dg (n / 65536) := by
  by_cases h1 : n < 65536
  · rw [dg1 (by omega) h1, show n % 65536 = n by omega, show n / 65536 = 0 by omega]; rfl
  · rw [dg2 (by omega), dg1 (n := n / 65536) (by omega) (by omega)]
set_option maxHeartbeats 800000 in
theorem From_any (n : Nat) (hn : n < 16777216) (w : World) : Calls Tryd.prog 9 #[.int .i64 n] w fun en w' => wideR n w en w' := by
  have HU0 : Hid (Upd noBlk w (w.alloc (.cells #[.bool false, .string ⟨#[]⟩] 38))) := (Upd.refl _ _).alloc _
  have HB0 : Hid ((w.alloc (.cells #[.bool false, .string ⟨#[]⟩] 38)).heap[w.heap.size]? = some (.cells #[.bool false, .string ⟨#[]⟩] 38)) := heap_alloc_new _ _
  have HS0 : Hid (w.heap.size + 1 ≤ (w.alloc (.cells #[.bool false, .string ⟨#[]⟩] 38)).heap.size) := by show _ ≤ _; simp
  go_enter Tryd.func9, Tryd.ntmps9
  go_wp2_with fail
  generalize w.alloc (.cells #[.bool false, .string ⟨#[]⟩] 38) = w1 at *
  go_loopw [3, 4] (fun v m wr => ∃ (k : Nat) (acc : List Nat), m = .int .u64 k ∧ k ≤ n ∧ acc.length + k ≤ n + 2 ∧ dg n = acc ++ dg k ∧ OwnN w1.heap.size wr v acc ∧ Upd noBlk w1 wr) (fun _ m _ => (intOf m).toNat)
  case atStart => exact ⟨n, [], by go_num, Nat.le_refl _, by simp, rfl, OwnN.nil _ _, Upd.refl _ _⟩
  case round =>
    obtain ⟨k, acc, rfl, hk, hal, hd, ho, hu⟩ := hrel
    have HD := Lib.hid hd
    have HO := Lib.hid ho
    have HU := Lib.hid hu
    clear hd ho hu
    by_cases h0 : 0 < k
    · have h0' : (0 : Int) < (k : Int) := by omega
      have hd2 : Hid (dg n = (acc ++ [k % 65536]) ++ dg (k / 65536)) := by show _ = _; rw [HD.out, dg_step h0 (by omega)]; simp
      obtain ⟨g, cap, w6, r6, o6, v6⟩ := append_n HU.out.size HO.out (k % 65536) (by omega)
      have R6 := Lib.hid r6
      have O6 := Lib.hid o6
      have U6 := Lib.hid (HU.out.then v6 (fun i hi e => by have := (HO.out.lt _ e).1; omega))
      clear r6 o6 v6
      go_wp2_with (at_builtin; refine wpList_append_run rfl _ _ _ rfl rfl rfl R6.out ?_)
      exact ⟨⟨k / 65536, acc ++ [k % 65536], by go_num, by omega, by rw [List.length_append]; simp; omega, hd2.out, O6.out, U6.out⟩, by simp [intOf]; omega⟩
    · obtain rfl : k = 0 := by omega
      have hd2 : Hid (dg n = acc) := by show _ = _; rw [HD.out, dg0, List.append_nil]
      have HW := Lib.hid (wide_any _ n _ hn wr (by rw [hd2.out]; exact HO.out))
      obtain ⟨Av, cv, rfl⟩ := HO.out.form
      go_wp2_with fail
      refine HW.out.mono ?_
      rintro e1 w2 ⟨rfl, u2⟩
      have hb := u2.heap (HU.out.heap HB0.out id) id
      have z0 : w2.cell? ⟨w.heap.size, 0, none⟩ = some (.bool false) := by simp [World.cell?, hb]
      have z1 : w2.cell? ⟨w.heap.size, 1, none⟩ = some (.string ⟨#[]⟩) := by simp [World.cell?, hb]
      have y0 : w2.frozen? ⟨w.heap.size, 0, none⟩ = false := by simp [World.frozen?, hb]
      have y1 : w2.frozen? ⟨w.heap.size, 1, none⟩ = false := by simp [World.frozen?, hb]
      have hW : ((w2.setCell ⟨w.heap.size, 0, none⟩ (.bool false)).setCell ⟨w.heap.size, 1, none⟩ (.string (bs (mag n)))).heap[w.heap.size]? = some (.cells #[.bool false, .string (bs (mag n))] 38) := by
        have h1 := (heap_setCell_eq (i := 0) (.bool false) hb).trans rfl
        exact (heap_setCell_eq (i := 1) (.string (bs (mag n))) h1).trans rfl
      have p0 := cell_of_row _ _ 0 _ _ _ hW
      have p1 := cell_of_row _ _ 1 _ _ _ hW
      have U2 := Lib.hid ((HU0.out.trans HU.out).trans u2)
      clear hW hb u2
      go_wp2_with fail
      refine bodyPost_ret (v := .agg #[.bool false, .string (bs (mag n))]) (by simp [results, Tryd.results9, go_sem, p0, p1]) rfl ?_
      exact ⟨rfl, (U2.out.setCell (fun h => absurd h (Nat.lt_irrefl _)) _).setCell (fun h => absurd h (Nat.lt_irrefl _)) _⟩
set_option maxHeartbeats 1000000 in
theorem Text_any (n : Nat) (hn : n < 16777216) (w : World) : Calls Tryd.prog 8 #[.agg #[.bool false, .string (bs (mag n))]] w fun en w' => strR (dec n) w en w' := by
  have HU0 : Hid (Upd noBlk w (w.alloc (.cells #[.bool false, .string (bs (mag n))] 38))) := (Upd.refl _ _).alloc _
  have HB0 : Hid ((w.alloc (.cells #[.bool false, .string (bs (mag n))] 38)).heap[w.heap.size]? = some (.cells #[.bool false, .string (bs (mag n))] 38)) := heap_alloc_new _ _
  have c0 : (w.alloc (.cells #[.bool false, .string (bs (mag n))] 38)).cell? ⟨w.heap.size, 0, none⟩ = some (.bool false) := cell_of_row _ _ 0 _ _ _ HB0.out
  have c1 : (w.alloc (.cells #[.bool false, .string (bs (mag n))] 38)).cell? ⟨w.heap.size, 1, none⟩ = some (.string (bs (mag n))) := cell_of_row _ _ 1 _ _ _ HB0.out
  have HD := Lib.hid (digits2_any n hn (w.alloc (.cells #[.bool false, .string (bs (mag n))] 38)))
  by_cases h0 : n = 0
  · subst h0
    go_enter Tryd.func8, Tryd.ntmps8
    go_wp2_with fail
    refine HD.out.mono ?_
    rintro e1 w2 ⟨v, rfl, ov, u2⟩
    obtain ⟨Av, cv, rfl⟩ := ov.form
    have hz : (dg 0).length = 0 := rfl
    rw [hz]
    have U2 := Lib.hid (HU0.out.trans u2)
    clear ov u2
    go_wp2_with fail
    go_ret
    exact ⟨rfl, U2.out⟩
  · have hl0 : 0 < (dg n).length := by rcases dg_cases n with ⟨e, _⟩ | ⟨_, e⟩ | ⟨_, e⟩; omega; rw [e]; simp; rw [e]; simp
    have HDEC : Hid (dec n = dec0 n []) := by show _ = _; unfold dec; rw [if_neg h0]
    go_enter Tryd.func8, Tryd.ntmps8
    go_wp2_with fail
    refine HD.out.mono ?_
    rintro e1 w2 ⟨v, rfl, ov, u2⟩
    obtain ⟨Av, cv, rfl⟩ := ov.form
    have U2 := Lib.hid (HU0.out.trans u2)
    have B2 := Lib.hid (u2.heap HB0.out id)
    have O2 := Lib.hid (ov.mono (base' := w.heap.size) (by simp))
    have hle : (((dg n).length : Nat) : Int) ≤ 2 := by have := dg_le n; omega
    have hne : ((((dg n).length : Nat) : Int) == 0) = false := by rw [beq_eq_false_iff_ne]; omega
    clear ov u2 HD c0 c1
    go_wp2_with fail
    go_loopw [3, 4, 5, 6, 7] (fun v s _ _ _ wr => ∃ (k : Nat) (t : Bytes), k ≤ n ∧ t.length ≤ 20 ∧ k < 10 ^ (20 - t.length) ∧ s = .string (bs t) ∧ dec0 n [] = dec0 k t ∧ OwnN w.heap.size wr v (dg k) ∧ Upd noBlk w wr ∧ wr.heap[w.heap.size]? = some (.cells #[.bool false, .string (bs (mag n))] 38)) (fun _ s _ _ _ _ => 20 - lenOfV s)
    case atStart => exact ⟨n, [], Nat.le_refl _, by simp, Nat.lt_of_lt_of_le hn (by decide), rfl, rfl, O2.out, U2.out, B2.out⟩
    case round =>
      obtain ⟨k, t, hk, htl, hkf, rfl, hd, ho, hu, hb⟩ := hrel
      have HKF := Lib.hid hkf
      have HDD := Lib.hid hd
      have HO := Lib.hid ho
      have HU := Lib.hid hu
      have HB := Lib.hid hb
      have hsz : (bs t).size ≤ 20 := by rw [bs_size]; exact htl
      clear hkf hd ho hu hb
      obtain ⟨Av, cv, rfl⟩ := HO.out.form
      by_cases hk0 : k = 0
      · subst hk0
        have hz : (dg 0).length = 0 := rfl
        rw [hz]
        have c0 : wr.cell? ⟨w.heap.size, 0, none⟩ = some (.bool false) := cell_of_row _ _ 0 _ _ _ HB.out
        have he : Hid (dec n = t) := by show _ = _; rw [HDEC.out, HDD.out, dec0_zero]
        go_wp2_with fail
        go_ret
        exact ⟨by rw [he.out]; rfl, HU.out⟩
      · have hl1 : 0 < (dg k).length := by rcases dg_cases k with ⟨e, _⟩ | ⟨_, e⟩ | ⟨_, e⟩; omega; rw [e]; simp; rw [e]; simp
        have hl1' : (0 : Int) < (((dg k).length : Nat) : Int) := by omega
        have hO10 : OwnN 0 (wr.alloc (.cells #[.int .i64 10] 3)) (.slice (some ⟨wr.heap.size, 0, none⟩) 1 1) [10] := ⟨rfl, .inr ⟨_, _, _, rfl, Nat.zero_le _, heap_alloc_new _ _, Nat.le_refl _, by unfold maxLen; decide, rfl, rfl⟩⟩
        have HV := Lib.hid (over_any _ _ k _ 0 (by omega) (by omega) (wr.alloc (.cells #[.int .i64 10] 3)) (HO.out.upd ((Upd.refl _ _).alloc _)) hO10)
        have htl1 : Hid (t.length + 1 ≤ 20) := by
          show _ ≤ _
          have := HKF.out
          by_cases h : t.length = 20
          · rw [h] at this; simp at this; omega
          · omega
        have hkf1 : Hid (k / 10 < 10 ^ (20 - (t.length + 1))) := by
          show _ < _
          have h1 := HKF.out
          have h2 := htl1.out
          rw [show 20 - t.length = (20 - (t.length + 1)) + 1 by omega, Nat.pow_succ] at h1
          omega
        have hstep : Hid (dec0 n [] = dec0 (k / 10) (UInt8.ofNat (48 + k % 10) :: t)) := by show _ = _; rw [HDD.out, dec0_step (by omega)]
        have hkd : k % 10 < 10 := by omega
        clear hO10
        go_wp2_with fail
        refine HV.out.mono ?_
        rintro e1 w3 ⟨qv, rv, rfl, oq, or, u3⟩
        have U3 : Hid (Upd noBlk wr w3) := ((Upd.refl _ _).alloc _).trans u3
        have OQ : Hid (OwnN w.heap.size w3 qv (dg (k / 10))) := oq.mono (by have := HU.out.size; simp; omega)
        have OR := Lib.hid or
        clear oq or u3 HV
        obtain ⟨Aq, cq, rfl⟩ := OQ.out.form
        generalize k % 10 = d at *
        obtain ⟨c, hc⟩ : ∃ c : UInt8, c = UInt8.ofNat (48 + d) := ⟨_, rfl⟩
        rw [← hc] at hstep
        have hw8 : IntKind.u8.wrap (48 + (d : Int)) = ((c.toNat : Nat) : Int) := by
          rw [hc, wrap_u8 (by omega) (by omega)]; simp; omega
        clear hc
        have hcv : (convert 50 9 (.slice (some ⟨w3.heap.size, 0, none⟩) 1 1)).run Tryd.prog (w3.alloc (.cells #[.int .u8 (c.toNat : Nat)] 5)) = .ok (.string (bs [c])) (w3.alloc (.cells #[.int .u8 (c.toNat : Nat)] 5)) :=
          conv_bs (base := 0) (l := [c]) rfl ⟨rfl, .inr ⟨_, _, _, rfl, Nat.zero_le _, heap_alloc_new _ _, Nat.le_refl _, by unfold maxLen; decide, rfl, rfl⟩⟩
        have hs1 : (bs [c]).size = 1 := bs_size _
        have hfin : Hid (OwnN w.heap.size (w3.alloc (.cells #[.int .u8 (c.toNat : Nat)] 5)) (.slice Aq (dg (k / 10)).length cq) (dg (k / 10)) ∧ Upd noBlk w (w3.alloc (.cells #[.int .u8 (c.toNat : Nat)] 5)) ∧ (w3.alloc (.cells #[.int .u8 (c.toNat : Nat)] 5)).heap[w.heap.size]? = some (.cells #[.bool false, .string (bs (mag n))] 38)) :=
          ⟨OQ.out.upd ((Upd.refl _ _).alloc _), (HU.out.trans U3.out).alloc _, heap_alloc_keep _ (U3.out.heap HB.out id)⟩
        have hcat : bs [c] ++ bs t = bs (c :: t) := by rw [bs_append']; rfl
        by_cases hd0 : d = 0
        · subst hd0
          obtain ⟨Ar, cr, rfl⟩ := OR.out.form
          have hz : (dg 0).length = 0 := rfl
          rw [hz]
          simp only [Int.natCast_zero, Int.add_zero] at hw8
          go_wp2_with fail
          exact ⟨⟨k / 10, c :: t, by omega, htl1.out, hkf1.out, rfl, hstep.out, hfin.out.1, hfin.out.2.1, hfin.out.2.2⟩, by simp only [lenOfV, bs_size, List.length_cons]; have := htl1.out; omega⟩
        · obtain ⟨gr, cr, hvr, fr, _, _, _, _⟩ := OR.out.cells (by rw [dg1 hd0 (by omega)]; simp)
          have hdd : dg d = [d] := dg1 hd0 (by omega)
          subst hvr
          have x0 := fr 0 (by rw [hdd]; simp)
          simp only [hdd, List.getElem_cons_zero] at x0
          have hz : (dg d).length = 1 := by rw [hdd]; rfl
          rw [hz]
          clear fr hdd hz
          go_wp2_with fail
          exact ⟨⟨k / 10, c :: t, by omega, htl1.out, hkf1.out, rfl, hstep.out, hfin.out.1, hfin.out.2.1, hfin.out.2.2⟩, by simp only [lenOfV, bs_size, List.length_cons]; have := htl1.out; omega⟩
theorem number_anyL (n : Nat) (hn : n < 16777216) (w : World) : Calls Tryd.prog 5 #[.int .i64 n] w fun en w' => strR (dec n) w en w' := by
  have HF := Lib.hid (From_any n hn w)
  go_enter Tryd.func5, Tryd.ntmps5
  go_wp2_with fail
  refine HF.out.mono ?_
  rintro e1 w2 ⟨rfl, u2⟩
  have HT := Lib.hid (Text_any n hn w2)
  have U2 := Lib.hid u2
  clear u2
  go_wp2_with fail
  refine HT.out.mono ?_
  rintro e1 w3 ⟨rfl, u3⟩
  have U3 := Lib.hid (U2.out.trans u3)
  clear u3
  go_wp2_with fail
  go_ret
  exact ⟨rfl, U3.out⟩
end Go.Proofs.YtojdgdeefhndiaaDoor
