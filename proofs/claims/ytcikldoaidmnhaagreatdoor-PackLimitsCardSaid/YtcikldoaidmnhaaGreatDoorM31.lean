/- The law of the limits: strips of squares, and a triangle far from them. No condition. -/
import Derived.Test.YtcikldoaidmnhaaGreatDoorM30
namespace Go.Proofs.YtcikldoaidmnhaaGreatDoor
open Go Go.RowKit Pk
set_option maxRecDepth 100000
theorem tri_at {w : World} {N : Nat} {ts : List Tri} {cs : Array Value} {fr : Nat × Nat} (h : w.heap[N]? = some (.cells cs 45 fr)) (hc : cs.toList = ts.flatMap triC) : ∀ j (hj : j < ts.length), kTri.At w N (0 + j * kTri.k) ts[j] := by
  obtain ⟨A, cap, e, _, hx⟩ := tri_rd h hc
  intro j hj
  obtain ⟨b, o, e2, hx2⟩ := hx (by omega)
  cases e
  cases e2
  exact hx2 j hj
theorem cells3a {w : World} {b : Nat} {x0 x1 x2 : Value} {t : TypeId} (h : w.heap[b]? = some (.cells #[x0, x1, x2] t (0, 0))) : w.cell? ⟨b, 0, none⟩ = some x0 ∧ w.cell? ⟨b, 1, none⟩ = some x1 ∧ w.cell? ⟨b, 2, none⟩ = some x2 := by simp [World.cell?, h]
theorem ok_strip {n : Nat} (hn : n ≤ 70) : ∀ t, t ∈ strip n → okT t := fun t ht => by
  obtain ⟨k, hk1, hk⟩ := mem_strip.1 ht
  simp only [quadS, List.mem_cons, List.not_mem_nil, or_false] at hk
  rcases hk with rfl | rfl <;> simp only [okT, okP, ok64] <;> omega
theorem ok_far {c : Int} (hc : -9223372036854775808 ≤ c ∧ c ≤ 9223372036854775807) : okT (farT c) := by
  simp only [farT, okT, okP, ok64]; omega
theorem isEmpty_cluster (l : List Tri) : (str (clusterN l)).toList.isEmpty = !packable l := by
  rw [str_toList]
  have h := cluster_none l
  rcases hp : packable l with _ | _
  · rw [h.2 hp]; rfl
  · cases hc : clusterN l with
    | nil => rw [h.1 hc] at hp; cases hp
    | cons x r => rfl
theorem four (w : World) (o0 o1 o2 o3 : Obj) : let W := ((((w.alloc o0).alloc o1).alloc o2).alloc o3)
    W.heap[w.heap.size]? = some o0 ∧ W.heap[w.heap.size + 1]? = some o1 ∧ W.heap[w.heap.size + 1 + 1]? = some o2 ∧ W.heap[w.heap.size + 1 + 1 + 1]? = some o3 ∧ Upd noBlk w W := by
  have h0 := heap_alloc_new w o0
  have h1 := heap_alloc_new (w.alloc o0) o1
  have h2 := heap_alloc_new ((w.alloc o0).alloc o1) o2
  have h3 := heap_alloc_new (((w.alloc o0).alloc o1).alloc o2) o3
  rw [size_alloc1] at h1
  rw [size_alloc1, size_alloc1] at h2
  rw [size_alloc1, size_alloc1, size_alloc1] at h3
  have U : ∀ W : World, ∀ o, Upd noBlk W (W.alloc o) := fun W o => (Upd.refl noBlk W).alloc o
  exact ⟨(U _ _).heap ((U _ _).heap ((U _ _).heap h0 id) id) id, (U _ _).heap ((U _ _).heap h1 id) id, (U _ _).heap h2 id, h3, (U _ _).trans ((U _ _).trans ((U _ _).trans (U _ _)))⟩
set_option maxHeartbeats 4000000 in
theorem lawPackLimits_c (n c : Int) (hn : Lit.wf (.int .u8 n) = true) (hc : Lit.wf (.int .i64 c) = true) (w : World) : Calls Tryz.prog 8 #[.int .u8 n, .int .i64 c] w fun en w' => en = .returned (.bool true) ∧ Upd noBlk w w' := by
  have HS := fun W => Lib.hid (sanity_any W)
  obtain ⟨many, hmany, hm70⟩ : ∃ many : Nat, n.tmod 70 = (many : Int) ∧ many < 70 := by
    simp [Lit.wf, IntKind.min, IntKind.max, IntKind.signed, IntKind.bits] at hn
    obtain ⟨m, rfl⟩ := Int.eq_ofNat_of_zero_le hn.1
    exact ⟨m % 70, by rw [Int.tmod_eq_emod_of_nonneg (by omega)]; omega, Nat.mod_lt _ (by decide)⟩
  have hwr : IntKind.u8.wrap ((many : Int)) = (many : Int) := by
    simp [IntKind.wrap, IntKind.signed, IntKind.bits]
    omega
  have hwr2 : IntKind.i64.wrap ((many : Int)) = (many : Int) := wrapN (by omega) (by omega)
  have HC : Hid (-9223372036854775808 ≤ c ∧ c ≤ 9223372036854775807) := by
    show _ ∧ _
    simp [Lit.wf, IntKind.min, IntKind.max, IntKind.signed, IntKind.bits] at hc
    omega
  have HM : Hid (many < 70) := hm70
  clear hn hc
  go_enter Tryz.func8, Tryz.ntmps8
  go_wp2_with fail
  refine (HS _).out.mono ?_
  rintro e w1 ⟨rfl, u1⟩
  have U1 := Lib.hid u1
  clear u1 HS
  go_wp2_with fail
  go_loopw [7, 8] (fun lv kv wz => ∃ k : Nat, kv = .int .i64 k ∧ k ≤ many ∧ kTri.Own w.heap.size wz lv (strip k) ∧ Upd noBlk w wz) (fun _ kv _ => many - (intOf kv).toNat)
  case atStart => exact ⟨0, rfl, Nat.zero_le _, Kd.Own.nil _ _ _, U1.out⟩
  case round =>
    obtain ⟨k, rfl, hk, ho, hu⟩ := hrel
    have HO := Lib.hid ho
    have HU := Lib.hid hu
    clear ho hu
    by_cases hlt : k < many
    · have hlt' : ((k : Nat) : Int) < ((many : Nat) : Int) := by omega
      have hwk : IntKind.i64.wrap ((k : Int) + 1) = (k : Int) + 1 := wrapN (by omega) (by omega)
      go_upto_region 9 with fail
      obtain ⟨b0, b1, b2, b3, bu⟩ := four wr (.cells #[.int .i64 k, .int .i64 0, .int .i64 0] 43) (.cells #[.int .i64 ((k : Int) + 1), .int .i64 0, .int .i64 0] 43) (.cells #[.int .i64 k, .int .i64 1, .int .i64 0] 43) (.cells #[.int .i64 ((k : Int) + 1), .int .i64 1, .int .i64 0] 43)
      have HU4 := Lib.hid (HU.out.trans bu)
      have HO4 := Lib.hid (HO.out.upd bu)
      obtain ⟨x0, x1, x2⟩ := cells3a b0
      obtain ⟨x3, x4, x5⟩ := cells3a b1
      obtain ⟨x6, x7, x8⟩ := cells3a b2
      obtain ⟨x9, x10, x11⟩ := cells3a b3
      clear b0 b1 b2 b3 bu HO HU
      generalize (((wr.alloc (.cells #[.int .i64 k, .int .i64 0, .int .i64 0] 43)).alloc (.cells #[.int .i64 ((k : Int) + 1), .int .i64 0, .int .i64 0] 43)).alloc (.cells #[.int .i64 k, .int .i64 1, .int .i64 0] 43)).alloc (.cells #[.int .i64 ((k : Int) + 1), .int .i64 1, .int .i64 0] 43) = w4 at *
      generalize wr.heap.size = N at *
      have hnew := heap_alloc_new w4 (.cells #[.int .i64 k, .int .i64 0, .int .i64 0, .int .i64 ((k : Int) + 1), .int .i64 0, .int .i64 0, .int .i64 ((k : Int) + 1), .int .i64 1, .int .i64 0, .int .i64 k, .int .i64 0, .int .i64 0, .int .i64 ((k : Int) + 1), .int .i64 1, .int .i64 0, .int .i64 k, .int .i64 1, .int .i64 0] 45)
      have u5 := (Upd.refl noBlk w4).alloc (.cells #[.int .i64 k, .int .i64 0, .int .i64 0, .int .i64 ((k : Int) + 1), .int .i64 0, .int .i64 0, .int .i64 ((k : Int) + 1), .int .i64 1, .int .i64 0, .int .i64 k, .int .i64 0, .int .i64 0, .int .i64 ((k : Int) + 1), .int .i64 1, .int .i64 0, .int .i64 k, .int .i64 1, .int .i64 0] 45)
      have HU5 := Lib.hid (HU4.out.trans u5)
      have HO5 := Lib.hid (HO4.out.upd u5)
      obtain ⟨g, cap2, w6, r6, o6, v6, _⟩ := HO5.out.appN HU5.out.size (c := 2) (quadS k) (tri_at (ts := quadS k) hnew rfl) (by rw [strip_length]; have := HM.out; have : (quadS k).length = 2 := rfl; omega) (by decide : 0 < 2)
      have R6 := Lib.hid r6
      have O6 := Lib.hid o6
      have HU6 := Lib.hid (HU5.out.then v6 (fun k hk e => absurd hk (by have := (HO5.out.blk e).1; omega)))
      clear r6 o6 v6 hnew u5 HU4 HU5 HO4 HO5
      go_wp2_with (at_builtin; refine wpList_append_run rfl _ _ _ rfl rfl rfl R6.out ?_)
      refine ⟨⟨k + 1, by push_cast; rfl, hlt, ?_, HU6.out⟩, ?_⟩
      · have h3 := O6.out
        rw [← strip_succ] at h3
        exact h3
      · simp only [intOf]; omega
    · obtain rfl : k = many := by omega
      have HSL : Hid ((strip k).length = 2 * k) := strip_length k
      have HOK : Hid (∀ t, t ∈ strip k → okT t) := ok_strip (by omega)
      have HE1 := Lib.hid (isEmpty_cluster (strip k))
      have HE2 := Lib.hid (isEmpty_cluster (strip k ++ [farT c]))
      have HP1 := Lib.hid (pack_strip hm70)
      have HP2 : Hid (c ≠ 1 → packable (strip k ++ [farT c]) = decide (0 ≤ c ∧ c ≤ 2097151 ∧ 2 * k + 1 ≤ 128)) := fun h => pack_far hm70 h
      have HRL : Hid (∀ W, kTri.Own w.heap.size W u7 (strip k) → kTri.Rd W u7 (strip k)) := fun W h => h.rd
      obtain ⟨A, cap, hv, hcap⟩ := HO.out.form
      subst hv
      have hC1 := Lib.hid (Cluster_any _ (strip k) (by rw [strip_length]; omega) HOK.out _ HO.out.rd)
      have hcap' : (((strip k).length : Nat) : Int) ≤ ((cap : Nat) : Int) := by omega
      generalize hL : strip k = L at *
      clear hlt hk
      go_wp2_with fail
      refine hC1.out.mono ?_
      rintro e w2 ⟨rfl, u2⟩
      have HU2 := Lib.hid (HU.out.trans u2)
      have HO2 := Lib.hid (HO.out.upd u2)
      clear u2 HU HO hC1
      go_upto_region 11 with fail
      have hnew := heap_alloc_new w2 (.cells #[.int .i64 c, .int .i64 5, .int .i64 0, .int .i64 1, .int .i64 5, .int .i64 0, .int .i64 1, .int .i64 7, .int .i64 0] 45)
      have u3 := (Upd.refl noBlk w2).alloc (.cells #[.int .i64 c, .int .i64 5, .int .i64 0, .int .i64 1, .int .i64 5, .int .i64 0, .int .i64 1, .int .i64 7, .int .i64 0] 45)
      have HU3 := Lib.hid (HU2.out.trans u3)
      have hfull : kTri.Rd (w2.alloc (.cells #[.int .i64 c, .int .i64 5, .int .i64 0, .int .i64 1, .int .i64 5, .int .i64 0, .int .i64 1, .int .i64 7, .int .i64 0] 45)) (.slice A L.length L.length) L := by
        obtain ⟨A', c', e, _, hx⟩ := HO2.out.rd.keep u3
        cases e
        exact ⟨A, L.length, rfl, Nat.le_refl _, hx⟩
      obtain ⟨cap2, w4, r4, o4, v4⟩ := hfull.appFull (c := 1) [farT c] (tri_at (ts := [farT c]) hnew rfl) (by rw [HSL.out]; simp only [List.length_cons, List.length_nil]; omega) (by decide : 0 < 1)
      rw [size_alloc1] at r4 o4
      have R4 := Lib.hid r4
      have HU4 := Lib.hid (HU3.out.trans v4)
      have hC2 := Lib.hid (Cluster_any _ (L ++ [farT c]) (by rw [List.length_append, HSL.out]; simp only [List.length_cons, List.length_nil]; omega) (fun t ht => by
        rcases List.mem_append.1 ht with h | h
        · exact HOK.out t h
        · rw [List.mem_singleton.1 h]; exact ok_far HC.out) _ o4.rd)
      clear r4 o4 v4 hnew u3 HU2 HU3 HO2 hfull
      have hA : A = none ∨ ∃ a, A = some a := by cases A with
        | none => exact .inl rfl
        | some a => exact .inr ⟨a, rfl⟩
      have hwm : IntKind.i64.wrap (2 * ((k : Nat) : Int)) = 2 * ((k : Nat) : Int) := wrapN (by omega) (by omega)
      have hwm1 : IntKind.i64.wrap (2 * ((k : Nat) : Int) + 1) = 2 * ((k : Nat) : Int) + 1 := wrapN (by omega) (by omega)
      rcases hA with rfl | ⟨a, rfl⟩
      · go_wp2_with (at_builtin; refine wpList_append_run rfl _ _ _ rfl rfl rfl R4.out ?_)
        refine hC2.out.mono ?_
        rintro e w5 ⟨rfl, u5⟩
        have HU5 := Lib.hid (HU4.out.trans u5)
        clear u5 HU4 hC2 R4
        go_upto_region 12 with fail
        have hE1 := HE1.out
        rw [HP1.out] at hE1
        by_cases hc1 : c = 1
        · subst hc1
          clear HE1 HE2 HC HP2 HOK HSL HRL hcap hcap' U1 HP1
          by_cases hk1 : 2 * k ≤ 128
          · rw [decide_eq_true hk1] at hE1
            go_wp2_with fail
            go_ret
            first | exact ⟨rfl, HU5.out⟩ | exact ⟨by show Ending.returned (.bool (!decide (2 * ((k : Nat) : Int) ≤ 128))) = _; rw [decide_eq_false (by omega)]; rfl, HU5.out⟩ | exact ⟨by show Ending.returned (.bool (c == 1 || c != 1)) = _; by_cases h : c = 1 <;> simp [h], HU5.out⟩
          · rw [decide_eq_false hk1] at hE1
            go_wp2_with fail
            go_ret
            first | exact ⟨rfl, HU5.out⟩ | exact ⟨by show Ending.returned (.bool (!decide (2 * ((k : Nat) : Int) ≤ 128))) = _; rw [decide_eq_false (by omega)]; rfl, HU5.out⟩ | exact ⟨by show Ending.returned (.bool (c == 1 || c != 1)) = _; by_cases h : c = 1 <;> simp [h], HU5.out⟩
        · have hE2 := HE2.out
          rw [HP2.out hc1] at hE2
          clear HE1 HE2 HC HP2 HOK HSL HRL hcap hcap' U1 HP1
          by_cases hq : 0 ≤ c ∧ c ≤ 2097151 ∧ 2 * k + 1 ≤ 128
          · have hk1 : 2 * k ≤ 128 := by omega
            rw [decide_eq_true hk1] at hE1
            rw [decide_eq_true hq] at hE2
            obtain ⟨q1, q2, q3⟩ := hq
            have q3' : 2 * ((k : Nat) : Int) + 1 ≤ 128 := by omega
            go_wp2_with fail
            go_ret
            first | exact ⟨rfl, HU5.out⟩ | exact ⟨by show Ending.returned (.bool (!decide (2 * ((k : Nat) : Int) ≤ 128))) = _; rw [decide_eq_false (by omega)]; rfl, HU5.out⟩ | exact ⟨by show Ending.returned (.bool (c == 1 || c != 1)) = _; by_cases h : c = 1 <;> simp [h], HU5.out⟩
          · rw [decide_eq_false hq] at hE2
            by_cases q1 : 0 ≤ c
            · by_cases q2 : c ≤ 2097151
              · have q3' : ¬ 2 * ((k : Nat) : Int) + 1 ≤ 128 := by omega
                by_cases hk1 : 2 * k ≤ 128
                · rw [decide_eq_true hk1] at hE1
                  go_wp2_with fail
                  go_ret
                  first | exact ⟨rfl, HU5.out⟩ | exact ⟨by show Ending.returned (.bool (!decide (2 * ((k : Nat) : Int) ≤ 128))) = _; rw [decide_eq_false (by omega)]; rfl, HU5.out⟩ | exact ⟨by show Ending.returned (.bool (c == 1 || c != 1)) = _; by_cases h : c = 1 <;> simp [h], HU5.out⟩
                · rw [decide_eq_false hk1] at hE1
                  go_wp2_with fail
                  go_ret
                  first | exact ⟨rfl, HU5.out⟩ | exact ⟨by show Ending.returned (.bool (!decide (2 * ((k : Nat) : Int) ≤ 128))) = _; rw [decide_eq_false (by omega)]; rfl, HU5.out⟩ | exact ⟨by show Ending.returned (.bool (c == 1 || c != 1)) = _; by_cases h : c = 1 <;> simp [h], HU5.out⟩
              · clear hq
                by_cases hk1 : 2 * k ≤ 128
                · rw [decide_eq_true hk1] at hE1
                  go_wp2_with fail
                  go_ret
                  first | exact ⟨rfl, HU5.out⟩ | exact ⟨by show Ending.returned (.bool (!decide (2 * ((k : Nat) : Int) ≤ 128))) = _; rw [decide_eq_false (by omega)]; rfl, HU5.out⟩ | exact ⟨by show Ending.returned (.bool (c == 1 || c != 1)) = _; by_cases h : c = 1 <;> simp [h], HU5.out⟩
                · rw [decide_eq_false hk1] at hE1
                  go_wp2_with fail
                  go_ret
                  first | exact ⟨rfl, HU5.out⟩ | exact ⟨by show Ending.returned (.bool (!decide (2 * ((k : Nat) : Int) ≤ 128))) = _; rw [decide_eq_false (by omega)]; rfl, HU5.out⟩ | exact ⟨by show Ending.returned (.bool (c == 1 || c != 1)) = _; by_cases h : c = 1 <;> simp [h], HU5.out⟩
            · clear hq
              by_cases hk1 : 2 * k ≤ 128
              · rw [decide_eq_true hk1] at hE1
                go_wp2_with fail
                go_ret
                first | exact ⟨rfl, HU5.out⟩ | exact ⟨by show Ending.returned (.bool (!decide (2 * ((k : Nat) : Int) ≤ 128))) = _; rw [decide_eq_false (by omega)]; rfl, HU5.out⟩ | exact ⟨by show Ending.returned (.bool (c == 1 || c != 1)) = _; by_cases h : c = 1 <;> simp [h], HU5.out⟩
              · rw [decide_eq_false hk1] at hE1
                go_wp2_with fail
                go_ret
                first | exact ⟨rfl, HU5.out⟩ | exact ⟨by show Ending.returned (.bool (!decide (2 * ((k : Nat) : Int) ≤ 128))) = _; rw [decide_eq_false (by omega)]; rfl, HU5.out⟩ | exact ⟨by show Ending.returned (.bool (c == 1 || c != 1)) = _; by_cases h : c = 1 <;> simp [h], HU5.out⟩
      · go_wp2_with (at_builtin; refine wpList_append_run rfl _ _ _ rfl rfl rfl R4.out ?_)
        refine hC2.out.mono ?_
        rintro e w5 ⟨rfl, u5⟩
        have HU5 := Lib.hid (HU4.out.trans u5)
        clear u5 HU4 hC2 R4
        go_upto_region 12 with fail
        have hE1 := HE1.out
        rw [HP1.out] at hE1
        by_cases hc1 : c = 1
        · subst hc1
          clear HE1 HE2 HC HP2 HOK HSL HRL hcap hcap' U1 HP1
          by_cases hk1 : 2 * k ≤ 128
          · rw [decide_eq_true hk1] at hE1
            go_wp2_with fail
            go_ret
            first | exact ⟨rfl, HU5.out⟩ | exact ⟨by show Ending.returned (.bool (!decide (2 * ((k : Nat) : Int) ≤ 128))) = _; rw [decide_eq_false (by omega)]; rfl, HU5.out⟩ | exact ⟨by show Ending.returned (.bool (c == 1 || c != 1)) = _; by_cases h : c = 1 <;> simp [h], HU5.out⟩
          · rw [decide_eq_false hk1] at hE1
            go_wp2_with fail
            go_ret
            first | exact ⟨rfl, HU5.out⟩ | exact ⟨by show Ending.returned (.bool (!decide (2 * ((k : Nat) : Int) ≤ 128))) = _; rw [decide_eq_false (by omega)]; rfl, HU5.out⟩ | exact ⟨by show Ending.returned (.bool (c == 1 || c != 1)) = _; by_cases h : c = 1 <;> simp [h], HU5.out⟩
        · have hE2 := HE2.out
          rw [HP2.out hc1] at hE2
          clear HE1 HE2 HC HP2 HOK HSL HRL hcap hcap' U1 HP1
          by_cases hq : 0 ≤ c ∧ c ≤ 2097151 ∧ 2 * k + 1 ≤ 128
          · have hk1 : 2 * k ≤ 128 := by omega
            rw [decide_eq_true hk1] at hE1
            rw [decide_eq_true hq] at hE2
            obtain ⟨q1, q2, q3⟩ := hq
            have q3' : 2 * ((k : Nat) : Int) + 1 ≤ 128 := by omega
            go_wp2_with fail
            go_ret
            first | exact ⟨rfl, HU5.out⟩ | exact ⟨by show Ending.returned (.bool (!decide (2 * ((k : Nat) : Int) ≤ 128))) = _; rw [decide_eq_false (by omega)]; rfl, HU5.out⟩ | exact ⟨by show Ending.returned (.bool (c == 1 || c != 1)) = _; by_cases h : c = 1 <;> simp [h], HU5.out⟩
          · rw [decide_eq_false hq] at hE2
            by_cases q1 : 0 ≤ c
            · by_cases q2 : c ≤ 2097151
              · have q3' : ¬ 2 * ((k : Nat) : Int) + 1 ≤ 128 := by omega
                by_cases hk1 : 2 * k ≤ 128
                · rw [decide_eq_true hk1] at hE1
                  go_wp2_with fail
                  go_ret
                  first | exact ⟨rfl, HU5.out⟩ | exact ⟨by show Ending.returned (.bool (!decide (2 * ((k : Nat) : Int) ≤ 128))) = _; rw [decide_eq_false (by omega)]; rfl, HU5.out⟩ | exact ⟨by show Ending.returned (.bool (c == 1 || c != 1)) = _; by_cases h : c = 1 <;> simp [h], HU5.out⟩
                · rw [decide_eq_false hk1] at hE1
                  go_wp2_with fail
                  go_ret
                  first | exact ⟨rfl, HU5.out⟩ | exact ⟨by show Ending.returned (.bool (!decide (2 * ((k : Nat) : Int) ≤ 128))) = _; rw [decide_eq_false (by omega)]; rfl, HU5.out⟩ | exact ⟨by show Ending.returned (.bool (c == 1 || c != 1)) = _; by_cases h : c = 1 <;> simp [h], HU5.out⟩
              · clear hq
                by_cases hk1 : 2 * k ≤ 128
                · rw [decide_eq_true hk1] at hE1
                  go_wp2_with fail
                  go_ret
                  first | exact ⟨rfl, HU5.out⟩ | exact ⟨by show Ending.returned (.bool (!decide (2 * ((k : Nat) : Int) ≤ 128))) = _; rw [decide_eq_false (by omega)]; rfl, HU5.out⟩ | exact ⟨by show Ending.returned (.bool (c == 1 || c != 1)) = _; by_cases h : c = 1 <;> simp [h], HU5.out⟩
                · rw [decide_eq_false hk1] at hE1
                  go_wp2_with fail
                  go_ret
                  first | exact ⟨rfl, HU5.out⟩ | exact ⟨by show Ending.returned (.bool (!decide (2 * ((k : Nat) : Int) ≤ 128))) = _; rw [decide_eq_false (by omega)]; rfl, HU5.out⟩ | exact ⟨by show Ending.returned (.bool (c == 1 || c != 1)) = _; by_cases h : c = 1 <;> simp [h], HU5.out⟩
            · clear hq
              by_cases hk1 : 2 * k ≤ 128
              · rw [decide_eq_true hk1] at hE1
                go_wp2_with fail
                go_ret
                first | exact ⟨rfl, HU5.out⟩ | exact ⟨by show Ending.returned (.bool (!decide (2 * ((k : Nat) : Int) ≤ 128))) = _; rw [decide_eq_false (by omega)]; rfl, HU5.out⟩ | exact ⟨by show Ending.returned (.bool (c == 1 || c != 1)) = _; by_cases h : c = 1 <;> simp [h], HU5.out⟩
              · rw [decide_eq_false hk1] at hE1
                go_wp2_with fail
                go_ret
                first | exact ⟨rfl, HU5.out⟩ | exact ⟨by show Ending.returned (.bool (!decide (2 * ((k : Nat) : Int) ≤ 128))) = _; rw [decide_eq_false (by omega)]; rfl, HU5.out⟩ | exact ⟨by show Ending.returned (.bool (c == 1 || c != 1)) = _; by_cases h : c = 1 <;> simp [h], HU5.out⟩
end Go.Proofs.YtcikldoaidmnhaaGreatDoor
