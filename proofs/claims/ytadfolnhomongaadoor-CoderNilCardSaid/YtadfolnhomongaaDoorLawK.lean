/- Walks of the laws: CoderNil. -/
import Derived.Test.YtadfolnhomongaaDoorLawI
import Derived.Test.YtadfolnhomongaaDoorRegionC
namespace Go.Proofs.YtadfolnhomongaaDoor
open Go Go.RowKit Pc
set_option maxRecDepth 100000

set_option maxHeartbeats 400000 in
theorem WBit_nil (c : Int) (one : Bool) (w : World) : Calls Tryd.prog 24 #[.pointer none, .int .i64 c, .bool one] w fun e w' => e = .returned (.tuple #[]) ∧ Upd noBlk w w' := by
  go_enter Tryd.func24, Tryd.ntmps24
  go_wp2
  refine bodyPost_ret (results_none rfl _ _ _) rfl ?_
  exact ⟨rfl, (Upd.refl _ _).alloc _⟩
set_option maxHeartbeats 400000 in
theorem WFinish_nil (w : World) : Calls Tryd.prog 25 #[.pointer none] w fun e w' => e = .returned (.string (str [])) ∧ w = w' := by
  go_enter Tryd.func25, Tryd.ntmps25
  go_wp2
  go_ret
  exact ⟨rfl, rfl⟩
set_option maxHeartbeats 400000 in
theorem RBit_nil (c : Int) (w : World) : Calls Tryd.prog 28 #[.pointer none, .int .i64 c] w fun e w' => e = .returned (.bool false) ∧ w = w' := by
  go_enter Tryd.func28, Tryd.ntmps28
  go_wp2
  go_ret
  exact ⟨rfl, rfl⟩
set_option maxHeartbeats 400000 in
theorem RNumber_nil (c : Int) (w : World) : Calls Tryd.prog 30 #[.pointer none, .int .i64 c] w fun e w' => e = .returned (.tuple #[.int .u64 0, .bool false]) ∧ w = w' := by
  go_enter Tryd.func30, Tryd.ntmps30
  go_wp2
  go_ret2
  exact ⟨rfl, rfl⟩

set_option maxHeartbeats 1000000 in
theorem all_nil (g : Nat) (c : Int) (one : Bool) (w : World) (hc : w.cell? ⟨g, 0, none⟩ = some (.bool one)) :
    Calls Tryd.prog 49 #[.pointer none, .int .i64 c, .slice (some ⟨g, 0, none⟩) 1 1] w fun en w' => en = .returned (.tuple #[]) ∧ Upd noBlk w w' := by
  go_enter Tryd.func49, Tryd.ntmps49
  go_wp2_with fail
  refine wp_loop_rounds 2 ?_
  rw [rounds_succ]
  go_wp2_with (go_at_call 24; refine (WBit_nil c one _).mono ?_; rintro e w2 ⟨rfl, q⟩; have Q := Lib.hid q; clear q)
  rw [rounds_succ]
  go_wp2
  go_end0
  exact ⟨rfl, Q.out⟩

set_option maxHeartbeats 1000000 in
theorem WNumber_nil (c : Int) (n : Nat) (hn : n < 2 ^ 64) (w : World) :
    Calls Tryd.prog 33 #[.pointer none, .int .i64 c, .int .u64 n] w fun en w' => en = .returned (.tuple #[]) ∧ Upd noBlk w w' := by
  have HN := Lib.hid hn
  have hB := bitLen_eq hn
  have hk := blen_le hn
  have hnn : 0 ≤ ((n : Nat) : Int) := by omega
  clear hn
  go_enter Tryd.func33, Tryd.ntmps33
  go_wp2_with (go_at_call 48; refine (Tryd.bits_Len64 _ _ hnn (by have := HN.out; omega)).mono ?_; rw [Int.toNat_natCast, hB]; rintro e w2 ⟨rfl, rfl⟩)
  clear hB
  go_loopw [7, 12] (fun _ i wr => ∃ k : Nat, i = .int .i64 k ∧ k ≤ blen n ∧ Upd noBlk w2 wr) (fun _ i _ => 64 - (intOf i).toNat)
  case atStart => exact ⟨0, rfl, Nat.zero_le _, Upd.refl _ _⟩
  case round =>
    obtain ⟨k, rfl, hkn, h1⟩ := hrel
    have H1 := Lib.hid h1
    clear h1
    have hkb : ((k : Nat) : Int) ≤ 64 := by omega
    by_cases hlt : k < blen n
    · go_wp2_with (go_at_call 49; refine (all_nil _ _ true _ (World.cell?_alloc_new wr _ _ 0)).mono ?_; rintro en w3 ⟨rfl, q⟩; have Q : Hid (Upd noBlk w2 w3) := (H1.out.alloc _).trans q; clear q)
      go_roundw
      case rel => exact ⟨k + 1, by go_num, hlt, Q.out⟩
      case measure => simp [intOf]; omega
    · go_wp2_with (go_at_call 49; refine (all_nil _ _ false _ (World.cell?_alloc_new wr _ _ 0)).mono ?_; rintro en w3 ⟨rfl, q⟩; have Q : Hid (Upd noBlk w2 w3) := (H1.out.alloc _).trans q; clear q)
      go_loopw [8] (fun i wr => ∃ (z : Int) (m : Nat), i = .int .i64 z ∧ (z = ((m : Nat) : Int) - 1 ∨ (z = -2 ∧ m = 0)) ∧ m ≤ 63 ∧ Upd noBlk w2 wr) (fun i _ => (intOf i + 1).toNat)
      case atStart => exact ⟨_, blen n - 1, rfl, by omega, by omega, Q.out⟩
      case round =>
        obtain ⟨z, m, rfl, hz, hm, h1⟩ := hrel
        have R1 := Lib.hid h1
        clear h1 H1 Q
        rcases m with _ | j
        · have hz0 : z < 0 := by omega
          clear hz
          go_wp2_with fail
          go_end0
          exact ⟨rfl, R1.out⟩
        · obtain rfl : z = ((j : Nat) : Int) := by omega
          have hj : ((j : Nat) : Int) ≤ 63 := by omega
          clear hz
          go_wp2_with (go_at_call 49; refine (all_nil _ _ _ _ (World.cell?_alloc_new wr _ _ 0)).mono ?_; rintro en w4 ⟨rfl, q⟩; have Q : Hid (Upd noBlk w2 w4) := (R1.out.alloc _).trans q; clear q)
          go_roundw
          case rel => exact ⟨_, j, by go_num, by omega, by omega, Q.out⟩
          case measure => simp [intOf] <;> omega

/-- A writer and both readers. -/
structure Three (w wr : World) (b r m : Nat) (e : E) (d dm : D) (n : Nat) (F G : Nat → Prop) : Prop where
  wrep : WRep wr b e F
  rrep : RRep wr r d G
  rr : RR wr m dm n
  nf : NewF F w
  ng : NewF G w
  nm : w.heap.size ≤ m
  fg : ∀ k, F k → ¬ G k
  fm : ¬ F m
  gm : ¬ G m
  up : Upd noBlk w wr
section
variable {w wr w2 : World} {b r m : Nat} {e : E} {d dm : D} {n : Nat} {F G : Nat → Prop}
theorem Three.upd (h : Three w wr b r m e d dm n F G) (hu : Upd noBlk wr w2) : Three w w2 b r m e d dm n F G :=
  ⟨h.wrep.upd hu (fun _ _ => id), h.rrep.upd hu (fun _ _ => id), h.rr.upd hu id, h.nf, h.ng, h.nm, h.fg, h.fm, h.gm, h.up.trans hu⟩
theorem Three.drew (h : Three w wr b r m e d dm n F G) : Three w wr.drew b r m e d dm n F G := h.upd (Upd.refl noBlk wr).drew
theorem Three.bit (h : Three w wr b r m e d dm n F G) (c : Int) (one : Bool) (hlen : e.done.length + 1 ≤ 1000000) :
    Calls Tryd.prog 24 #[.pointer (some ⟨b, 0, none⟩), .int .i64 c, .bool one] wr fun en w' => en = .returned (.tuple #[]) ∧ ∃ F', Three w w' b r m (e.bit c one) d dm n F' G := by
  refine (WBit_any b c one e F wr h.wrep hlen).mono ?_
  rintro en w2 ⟨rfl, F', q1, q2, q3⟩
  have hG := h.rrep.lt
  have hm := h.rr.lt
  exact ⟨rfl, F', q1, h.rrep.upd q2 (fun k hk hf => h.fg k hf hk), h.rr.upd q2 h.fm, fun j hj => (q3 j hj).elim (h.nf j) (fun x => Nat.le_trans h.up.size x), h.ng, h.nm,
    fun k hk hg => (q3 k hk).elim (fun x => h.fg k x hg) (fun x => by have := hG k hg; omega), fun hF => (q3 m hF).elim h.fm (fun x => by omega), h.gm, upd_new h.up q2 h.nf⟩
theorem Three.cbit (h : Three w wr b r m e d dm n F G) (c : Int) :
    Calls Tryd.prog 28 #[.pointer (some ⟨r, 0, none⟩), .int .i64 c] wr fun en w' => en = .returned (.bool (d.one c)) ∧ ∃ G', Three w w' b r m e (d.bit c) dm n F G' := by
  refine (RBit_any r c d G wr h.rrep).mono ?_
  rintro en w2 ⟨rfl, G', q1, q2, q3⟩
  have hF := h.wrep.lt
  have hm := h.rr.lt
  exact ⟨rfl, G', h.wrep.upd q2 (fun k hk hg => h.fg k hk hg), q1, h.rr.upd q2 h.gm, h.nf, fun j hj => (q3 j hj).elim (h.ng j) (fun x => Nat.le_trans h.up.size x), h.nm,
    fun k hk hg => (q3 k hg).elim (fun x => h.fg k hk x) (fun x => by have := hF k hk; omega), h.fm, fun hG => (q3 m hG).elim h.gm (fun x => by omega), upd_new h.up q2 h.ng⟩
theorem Three.rbit (h : Three w wr b r m e d dm n F G) (hn : n ≤ 999999) (c : Int) :
    Calls Tryd.prog 29 #[.pointer (some ⟨m, 0, none⟩), .int .i64 c] wr fun en w' => en = .returned (.bool (dm.one c)) ∧ Three w w' b r m e d (dm.bit c) (n + 1) F G := by
  refine (rRBit_any m n c dm hn wr h.rr).mono ?_
  rintro en w2 ⟨rfl, q1, q2⟩
  exact ⟨rfl, h.wrep.upd q2 (fun k hk hm => h.fm (hm ▸ hk)), h.rrep.upd q2 (fun k hk hm => h.gm (hm ▸ hk)), q1, h.nf, h.ng, h.nm, h.fg, h.fm, h.gm, upd_new h.up q2 (fun j hj => by rw [hj]; exact h.nm)⟩
end
/-- The two cells of a bit. -/
def Cells2 (w : World) (b o : Nat) (x : Int × Bool) : Prop := w.cell? ⟨b, o, none⟩ = some (.int .i64 x.1) ∧ w.cell? ⟨b, o + 1, none⟩ = some (.bool x.2)
theorem Cells2.keep {w w' : World} {b o : Nat} {x : Int × Bool} (h : Cells2 w b o x) (hu : Upd noBlk w w') : Cells2 w' b o x := ⟨hu.cell h.1 id, hu.cell h.2 id⟩
theorem rd_take' {w : World} {b off cap k : Nat} {l : List (Int × Bool)} (hk : k ≤ l.length) (hc : ∀ j u, (l.flatMap bitV)[j]? = some u → w.cell? ⟨b, off + j, none⟩ = some u) :
    RdBits w (.slice (some ⟨b, off, none⟩) k cap) (l.take k) :=
  .inr ⟨b, off, cap, by rw [List.length_take, Nat.min_eq_left hk], fun j u hj => hc j u (flat_take l k j u hj)⟩

set_option maxHeartbeats 4000000 in
theorem lawNil_row (b off cap : Nat) (l : List (Int × Bool)) (n : Nat) (w : World) (hn : n < 2 ^ 64) (h4 : ((l.length : Nat) : Int) ≤ ((cap : Nat) : Int)) (h5 : ((cap : Nat) : Int) ≤ 9223372036854775807)
    (hc : ∀ j u, (l.flatMap bitV)[j]? = some u → w.cell? ⟨b, off + j, none⟩ = some u) :
    Calls Tryd.prog 13 #[.slice (some ⟨b, off, none⟩) l.length cap, .int .u64 n] w fun e w' => e = .returned (.bool true) ∧ Upd noBlk w w' := by
  have HC := Lib.hid hc
  have HN := Lib.hid hn
  have s0 := str_none
  clear hc hn
  obtain ⟨M, hM, hM1, hM2⟩ : ∃ M : Nat, min ((l.length : Nat) : Int) 100 = (M : Int) ∧ M ≤ l.length ∧ M ≤ 100 := ⟨min l.length 100, by omega, by omega, by omega⟩
  go_enter Tryd.func13, Tryd.ntmps13
  go_wp2_with (go_at_call 14; refine (sanity_any _).mono ?_; rintro e w1 ⟨rfl, u1⟩; have U1 := Lib.hid u1; clear u1)
  refine (WBit_nil 3 true _).mono ?_
  rintro e w2 ⟨rfl, u2⟩
  have U2 := Lib.hid (U1.out.trans u2)
  clear U1 u2
  go_wp2_with fail
  refine (WNumber_nil 3 n HN.out _).mono ?_
  rintro e w3 ⟨rfl, u3⟩
  have U3 := Lib.hid (U2.out.trans u3)
  clear U2 u3
  go_wp2_with fail
  refine (RNumber_nil 3 _).mono ?_
  rintro e w4 ⟨rfl, rfl⟩
  go_wp2_with fail
  refine (rNewReader_any [] (fun x hx => by simp at hx) _).mono ?_
  rintro e w5 ⟨rfl, n1, n2⟩
  have T0 : Hid (Three w w5 w3.heap.size (w3.heap.size + 1) (w3.heap.size + 1 + 1) E.init (D.ofCode []) (D.ofCode []) 4 (· = w3.heap.size) (· = w3.heap.size + 1)) := by
    have hs := U3.out.size
    have h2 := NewReader_rep (code := []) (fun x hx => by simp at hx) (w3.alloc (.cells wZero 73))
    have e0 : (w3.alloc (.cells wZero 73)).heap.size = w3.heap.size + 1 := by simp
    rw [e0] at h2
    refine ⟨((NewWriter_rep w3).upd ((Upd.refl noBlk _).alloc _) (fun _ _ => id)).upd n2 (fun _ _ => id), h2.upd n2 (fun _ _ => id), by simpa using n1, fun k hk => by subst hk; exact hs, fun k hk => by subst hk; omega, by omega, fun k hk hg => by subst hk; omega, fun h => by omega, fun h => by omega, ((U3.out.alloc _).alloc _).trans n2⟩
  clear hM n1 n2
  go_wp2_with fail
  go_loopw [13] (fun i wr => ∃ k : Nat, i = .int .i64 k ∧ k ≤ l.length ∧ k ≤ 100 ∧ ∃ F G, Three w wr w3.heap.size (w3.heap.size + 1) (w3.heap.size + 1 + 1) (encFrom E.init (l.take k)) (decState (D.ofCode []) ((l.take k).map (·.1))) (decState (D.ofCode []) ((l.take k).map (·.1))) (4 + k) F G) (fun i _ => 100 - (intOf i).toNat)
  case atStart => exact ⟨0, rfl, Nat.zero_le _, Nat.zero_le _, _, _, T0.out⟩
  case round =>
    obtain ⟨k, rfl, hk1, hk2, F, G, hd⟩ := hrel
    have HD := Lib.hid hd
    clear hd T0
    have kb : ((k : Nat) : Int) ≤ 100 := by omega
    have HL : Hid ((encFrom E.init (l.take k)).done.length + 1 ≤ 1000000) := encFrom_len _ (by rw [List.length_take]; omega)
    by_cases hlt : k < l.length ∧ k < 100
    · obtain ⟨h1, h2⟩ := hlt
      have h1' : ((k : Nat) : Int) < ((l.length : Nat) : Int) := by omega
      have h2' : ((k : Nat) : Int) < 100 := by omega
      have EA : Hid (Cells2 w b (off + k * 2) l[k]) := ⟨HC.out _ _ (bitV_get h1).1, HC.out _ _ (bitV_get h1).2⟩
      have HX : Hid (encFrom E.init (l.take (k + 1)) = (encFrom E.init (l.take k)).bit l[k].1 l[k].2) := by show _ = _; rw [take_snoc h1, encFrom_snoc]
      have HY : Hid (decState (D.ofCode []) ((l.take (k + 1)).map (·.1)) = (decState (D.ofCode []) ((l.take k).map (·.1))).bit l[k].1) := by show _ = _; rw [take_snoc h1, List.map_append, List.map_cons, List.map_nil, decState_snoc]
      generalize encFrom E.init (l.take k) = e at *
      generalize decState (D.ofCode []) ((l.take k).map (·.1)) = d at *
      generalize l[k] = x at *
      obtain ⟨c, one⟩ := x
      go_wp2_with fail
      refine wp_region_ord 11 [(0, true), (1, true), (2, true), (3, true), (4, true), (5, true), (6, true), (7, true), (8, true), (9, true), (10, true)] (fun w' => Cells2 w' b (off + k * 2) (c, one)) (by kernel_rfl) (by kernel_rfl) (fun c a d v w h => by cases d <;> exact h) (EA.out.keep HD.out.up.drew) ?_
      (apply wpG_sure rfl rfl; focus (intro w' hw'; obtain ⟨g1, g2⟩ := hw'; go_simp; rfl))
      (apply wpG_sure rfl rfl; focus (intro w' hw'; obtain ⟨g1, g2⟩ := hw'; go_simp; rfl))
      (apply wpG_sure rfl rfl; focus (intro w' hw'; obtain ⟨g1, g2⟩ := hw'; go_simp; rfl))
      (apply wpG_sure rfl rfl; focus (intro w' hw'; obtain ⟨g1, g2⟩ := hw'; go_simp; rfl))
      (apply wpG_sure rfl rfl; focus (intro w' hw'; obtain ⟨g1, g2⟩ := hw'; go_simp; rfl))
      (apply wpG_sure rfl rfl; focus (intro w' hw'; obtain ⟨g1, g2⟩ := hw'; go_simp; rfl))
      (apply wpG_sure rfl rfl; focus (intro w' hw'; obtain ⟨g1, g2⟩ := hw'; go_simp; rfl))
      (apply wpG_sure rfl rfl; focus (intro w' hw'; obtain ⟨g1, g2⟩ := hw'; go_simp; rfl))
      (apply wpG_sure rfl rfl; focus (intro w' hw'; obtain ⟨g1, g2⟩ := hw'; go_simp; rfl))
      (apply wpG_sure rfl rfl; focus (intro w' hw'; obtain ⟨g1, g2⟩ := hw'; go_simp; rfl))
      (apply wpG_sure rfl rfl; focus (intro w' hw'; obtain ⟨g1, g2⟩ := hw'; go_simp; rfl))
      refine wpG_nil ?_
      go_wp2_with (go_at_call 24; refine (HD.out.drew.bit c one HL.out).mono ?_; rintro en w6 ⟨rfl, F2, q2⟩; have T1 := Lib.hid q2; clear q2)
      refine wp_region_tree 14 (OT.sures [0, 1, 2, 3, 4, 5, 7, 8, 9, 10, 11, 12] (.run 6 (.run 13 .nil))) (fun w' => Cells2 w' b (off + k * 2) (c, one)) (by kernel_rfl) (by kernel_rfl) (fun c a d v w h => by cases d <;> exact h) (EA.out.keep T1.out.up.drew) ?_
      simp only [OT.sures]
      iterate 12 (apply wpT_sure rfl rfl; focus (intro w' hw'; obtain ⟨g1, g2⟩ := hw'; go_simp; rfl))
      refine wpT_run (fun w' => Cells2 w' b (off + k * 2) (c, one)) (fun _ h => h) rfl (fun K hK => ?_)
      go_simp
      refine (T1.out.drew.cbit c).mono ?_
      rintro en w7 ⟨rfl, G2, q2⟩
      have T2 := Lib.hid q2
      clear q2
      refine hK _ _ ⟨EA.out.keep T2.out.up, ?_⟩
      clear hK K
      refine wpT_run (fun w' => Cells2 w' b (off + k * 2) (c, one)) (fun _ h => h) rfl (fun K hK => ?_)
      go_simp
      refine (T2.out.rbit (by omega) c).mono ?_
      rintro en w8 ⟨rfl, q2⟩
      have T3 := Lib.hid q2
      clear q2
      refine hK _ _ ⟨EA.out.keep T3.out.up, ?_⟩
      clear hK K
      refine wpT_nil ?_
      generalize d.one c = p at *
      go_wp2
      exact ⟨⟨k + 1, by go_num, h1, h2, _, _, by rw [HX.out, HY.out]; exact T3.out⟩, by simp [intOf]; omega⟩
    · have hkM : min ((l.length : Nat) : Int) 100 = ((k : Nat) : Int) := by omega
      have hkl : k ≤ l.length := hk1
      have hkc : ((k : Nat) : Int) ≤ ((cap : Nat) : Int) := by omega
      have HF := Lib.hid HD.out.up
      by_cases h1 : k < l.length
      all_goals
        have h2 : ¬ (((k : Nat) : Int) < ((l.length : Nat) : Int) ∧ ((k : Nat) : Int) < 100) := by omega
        clear hlt
        go_wp2_with fail
        refine wp_region_tree 30 (OT.sures [0, 1, 2] (.run 3 (OT.sures [4, 5, 6, 7] (.run 8 (OT.sures [9, 10, 11, 12, 13, 14, 15, 16, 17, 18, 19, 20, 22, 23, 24, 25, 26] (.run 21 (.run 27 (OT.sures [28, 29] .nil)))))))) (fun _ => True) (by kernel_rfl) (by kernel_rfl) (fun c a d v w h => by cases d <;> exact h) trivial ?_
        simp only [OT.sures]
        iterate 3 (first | (refine wpT_sure rfl rfl _ (fun w' hw' => by go_simp; rfl) ?_) | (refine wpT_sureG rfl (by go_simp) _ (fun w' hw' => by go_simp; rfl) ?_))
        refine wpT_run (fun _ => True) (fun _ _ => trivial) rfl (fun K hK => ?_)
        go_simp
        refine (WFinish_nil _).mono ?_
        rintro en w6 ⟨rfl, rfl⟩
        refine hK _ _ ⟨trivial, ?_⟩
        clear hK K
        iterate 4 (first | (refine wpT_sure rfl rfl _ (fun w' hw' => by go_simp; rfl) ?_) | (refine wpT_sureG rfl (by go_simp) _ (fun w' hw' => by go_simp; rfl) ?_))
        refine wpT_run (fun _ => True) (fun _ _ => trivial) rfl (fun K hK => ?_)
        go_simp
        refine (RBit_nil 3 _).mono ?_
        rintro en w6 ⟨rfl, rfl⟩
        refine hK _ _ ⟨trivial, ?_⟩
        clear hK K
        iterate 17 (first | (refine wpT_sure rfl rfl _ (fun w' hw' => by go_simp; rfl) ?_) | (refine wpT_sureG rfl (by go_simp) _ (fun w' hw' => by go_simp; rfl) ?_))
        have hcall : Calls Tryd.prog 25 #[.pointer (some ⟨w3.heap.size, 0, none⟩)] wr.drew fun en w' => en = .returned (.string (str (encode (l.take k)))) ∧ Upd noBlk wr.drew w' := WFinish_any _ _ _ _ (HD.out.drew.wrep) HL.out
        refine wpT_run (fun _ => True) (fun _ _ => trivial) rfl (fun K hK => ?_)
        go_simp
        refine hcall.mono ?_
        rintro en w6 ⟨rfl, u6⟩
        have U6 := Lib.hid (HF.out.drew.trans u6)
        refine hK _ _ ⟨trivial, ?_⟩
        clear hK K hcall u6
        refine wpT_run (fun _ => True) (fun _ _ => trivial) rfl (fun K hK => ?_)
        go_simp
        refine (Encode_v _ (l.take k) _ (rd_take' hkl (fun j u hj => U6.out.cell (HC.out j u hj) id)) (by rw [List.length_take]; omega)).mono ?_
        rintro en w7 ⟨rfl, u7⟩
        have U7 := Lib.hid (U6.out.trans u7)
        refine hK _ _ ⟨trivial, ?_⟩
        clear hK K u7
        iterate 2 (first | (refine wpT_sure rfl rfl _ (fun w' hw' => by go_simp; rfl) ?_) | (refine wpT_sureG rfl (by go_simp) _ (fun w' hw' => by go_simp; rfl) ?_))
        refine wpT_nil ?_
        go_wp2
        go_ret
        exact ⟨rfl, U7.out⟩

set_option maxHeartbeats 4000000 in
theorem lawNil_nil (x : Option Addr) (n : Nat) (w : World) (hn : n < 2 ^ 64) :
    Calls Tryd.prog 13 #[.slice x 0 0, .int .u64 n] w fun e w' => e = .returned (.bool true) ∧ Upd noBlk w w' := by
  have HN := Lib.hid hn
  have s0 := str_none
  clear hn
  go_enter Tryd.func13, Tryd.ntmps13
  go_wp2_with (go_at_call 14; refine (sanity_any _).mono ?_; rintro e w1 ⟨rfl, u1⟩; have U1 := Lib.hid u1; clear u1)
  refine (WBit_nil 3 true _).mono ?_
  rintro e w2 ⟨rfl, u2⟩
  have U2 := Lib.hid (U1.out.trans u2)
  clear U1 u2
  go_wp2_with fail
  refine (WNumber_nil 3 n HN.out _).mono ?_
  rintro e w3 ⟨rfl, u3⟩
  have U3 := Lib.hid (U2.out.trans u3)
  clear U2 u3
  go_wp2_with fail
  refine (RNumber_nil 3 _).mono ?_
  rintro e w4 ⟨rfl, rfl⟩
  go_wp2_with fail
  refine (rNewReader_any [] (fun x hx => by simp at hx) _).mono ?_
  rintro e w5 ⟨rfl, n1, n2⟩
  have HF : Hid (Upd noBlk w w5) := ((U3.out.alloc _).alloc _).trans n2
  have HW : Hid (WRep w5.drew w3.heap.size E.init (· = w3.heap.size)) := (((NewWriter_rep w3).upd ((Upd.refl noBlk _).alloc _) (fun _ _ => id)).upd n2 (fun _ _ => id)).upd (Upd.refl noBlk _).drew (fun _ _ => id)
  clear n1 n2
  go_wp2_with fail
  refine wp_loop_once ?_
  go_wp2_with fail
  refine wp_region_tree 30 (OT.sures [0, 1, 2] (.run 3 (OT.sures [4, 5, 6, 7] (.run 8 (OT.sures [9, 10, 11, 12, 13, 14, 15, 16, 17, 18, 19, 20, 22, 23, 24, 25, 26] (.run 21 (.run 27 (OT.sures [28, 29] .nil)))))))) (fun _ => True) (by kernel_rfl) (by kernel_rfl) (fun c a d v w h => by cases d <;> exact h) trivial ?_
  simp only [OT.sures]
  iterate 3 (first | (refine wpT_sure rfl rfl _ (fun w' hw' => by go_simp; rfl) ?_) | (refine wpT_sureG rfl (by go_simp) _ (fun w' hw' => by go_simp; rfl) ?_))
  refine wpT_run (fun _ => True) (fun _ _ => trivial) rfl (fun K hK => ?_)
  go_simp
  refine (WFinish_nil _).mono ?_
  rintro en w6 ⟨rfl, rfl⟩
  refine hK _ _ ⟨trivial, ?_⟩
  clear hK K
  iterate 4 (first | (refine wpT_sure rfl rfl _ (fun w' hw' => by go_simp; rfl) ?_) | (refine wpT_sureG rfl (by go_simp) _ (fun w' hw' => by go_simp; rfl) ?_))
  refine wpT_run (fun _ => True) (fun _ _ => trivial) rfl (fun K hK => ?_)
  go_simp
  refine (RBit_nil 3 _).mono ?_
  rintro en w6 ⟨rfl, rfl⟩
  refine hK _ _ ⟨trivial, ?_⟩
  clear hK K
  iterate 17 (first | (refine wpT_sure rfl rfl _ (fun w' hw' => by go_simp; rfl) ?_) | (refine wpT_sureG rfl (by go_simp) _ (fun w' hw' => by go_simp; rfl) ?_))
  have hcall : Calls Tryd.prog 25 #[.pointer (some ⟨w3.heap.size, 0, none⟩)] w5.drew fun en w' => en = .returned (.string (str (encode []))) ∧ Upd noBlk w5.drew w' := WFinish_any _ E.init _ _ HW.out (by decide)
  refine wpT_run (fun _ => True) (fun _ _ => trivial) rfl (fun K hK => ?_)
  go_simp
  refine hcall.mono ?_
  rintro en w6 ⟨rfl, u6⟩
  have U6 := Lib.hid (HF.out.drew.trans u6)
  refine hK _ _ ⟨trivial, ?_⟩
  clear hK K hcall u6
  refine wpT_run (fun _ => True) (fun _ _ => trivial) rfl (fun K hK => ?_)
  go_simp
  refine (Encode_v _ [] _ (.inl ⟨_, rfl, rfl⟩) (by decide)).mono ?_
  rintro en w7 ⟨rfl, u7⟩
  have U7 := Lib.hid (U6.out.trans u7)
  refine hK _ _ ⟨trivial, ?_⟩
  clear hK K u7
  iterate 2 (first | (refine wpT_sure rfl rfl _ (fun w' hw' => by go_simp; rfl) ?_) | (refine wpT_sureG rfl (by go_simp) _ (fun w' hw' => by go_simp; rfl) ?_))
  refine wpT_nil ?_
  go_wp2
  go_ret
  exact ⟨rfl, U7.out⟩

theorem lawNil (v : Value) (l : List (Int × Bool)) (n : Int) (w : World) (h : ArgBits w v l) (hw : (Lit.int .u64 n).wf = true) :
    Calls Tryd.prog 13 #[v, .int .u64 n] w fun e w' => e = .returned (.bool true) ∧ Upd noBlk w w' := by
  simp [Lit.wf, IntKind.min, IntKind.max, IntKind.signed, IntKind.bits] at hw
  obtain ⟨k, rfl⟩ := Int.eq_ofNat_of_zero_le hw.1
  have hk : k < 2 ^ 64 := by omega
  rcases h with ⟨x, rfl, rfl⟩ | ⟨b, off, cap, rfl, h1, h2, h3⟩
  · exact lawNil_nil x k w hk
  · unfold maxLen at h2
    exact lawNil_row b off cap l k w hk (by omega) (by omega) h3
end Go.Proofs.YtadfolnhomongaaDoor
