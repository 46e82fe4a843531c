/- Walks of the program of the polygon files: polys. -/
import Derived.Test.YtojdgdeefhndiaaDoorM9
import Derived.Test.YtojdgdeefhndiaaDoorM10
import Derived.Test.YtojdgdeefhndiaaDoorM11
namespace Go.Proofs.YtojdgdeefhndiaaDoor
open Go Go.RowKit Sp
set_option maxRecDepth 100000
attribute [local go_sem] Oper.semAt_some

def apartQ (qs : List (Value × Poly)) : Prop := qs.Pairwise (fun a b => ∀ g, a.1.ownBlock = some g → b.1.ownBlock ≠ some g)
/-- What holds between the rounds of polys. -/
def PolyI (w : World) (_s : Bytes) (pre : List (Nat × List Bytes)) (W : World) : Prop :=
  ∃ (vo : Value) (qs : List (Value × Poly)) (left : Nat), W.heap[w.heap.size]? = some (.cells #[vo] 25) ∧ W.heap[w.heap.size + 1]? = some (.cells #[.int .i64 left] 3) ∧
    OwnQs (w.heap.size + 2) W vo qs ∧ Upd noBlk w W ∧ (∀ rest last, twoN (pre ++ rest) 0 [] last = twoN rest left (qs.map (·.2)) last) ∧ left ≤ 64 ∧ (left ≠ 0 → qs ≠ []) ∧ qs.length ≤ 65536 ∧
    (∀ q, q ∈ qs → q.2.1.length ≤ pre.length ∧ q.1.oneCell' = true) ∧ apartQ qs
/-- How polys may be left by a panic. -/
def PolyP (w : World) (s : Bytes) (chain : List PanicEntry) (W : World) : Prop :=
  ∃ place e : Nat, chain = fail place e ∧ polysS s = .bad place e ∧ Upd noBlk w W

theorem poly_v {w : World} {s : Bytes} {pre : List (Nat × List Bytes)} {W w2 w5 : World} {pv : Value} {pts : List Pt} {qi : List (Value × Poly)} {i g cap go capo pl left : Nat} {ww : List Bytes} {p : Pt}
    (hbo : W.heap[w.heap.size]? = some (.cells #[.slice (some ⟨go, 0, none⟩) (qi.length + 1) capo] 25)) (hbl : W.heap[w.heap.size + 1]? = some (.cells #[.int .i64 left] 3))
    (hoo : OwnQs (w.heap.size + 2) W (.slice (some ⟨go, 0, none⟩) (qi.length + 1) capo) (qi ++ [(pv, (pts, pl))])) (hup : Upd noBlk w W)
    (hsp : ∀ rest last, twoN (pre ++ rest) 0 [] last = twoN rest left ((qi ++ [(pv, (pts, pl))]).map (·.2)) last) (hl0 : left ≠ 0) (hl : left ≤ 64) (hpl : (qi ++ [(pv, (pts, pl))]).length ≤ 65536)
    (hqq : ∀ q, q ∈ qi ++ [(pv, (pts, pl))] → q.2.1.length ≤ pre.length ∧ q.1.oneCell' = true) (hav : apartQ (qi ++ [(pv, (pts, pl))]))
    (hcs : cornerS ww = .ok p) (u2 : Upd noBlk W w2) (v5 : Upd (fun k => pv.ownBlock = some k) w2 w5) (o5 : OwnPts (w.heap.size + 2) w5 (.slice (some ⟨g, 0, none⟩) (pts.length + 1) cap) (pts ++ [p]))
    (hat : pv.ownBlock = some g ∨ g = w2.heap.size + 1) :
    KeepsOthers W ((w5.setCell ⟨go, qi.length * 2, none⟩ (.slice (some ⟨g, 0, none⟩) (pts.length + 1) cap)).setCell ⟨w.heap.size + 1, 0, none⟩ (.int .i64 ((left : Int) - 1))) ∧
    KpS w.heap.size W ((w5.setCell ⟨go, qi.length * 2, none⟩ (.slice (some ⟨g, 0, none⟩) (pts.length + 1) cap)).setCell ⟨w.heap.size + 1, 0, none⟩ (.int .i64 ((left : Int) - 1))) ∧
    PolyI w s (pre ++ [(i, ww)]) ((w5.setCell ⟨go, qi.length * 2, none⟩ (.slice (some ⟨g, 0, none⟩) (pts.length + 1) cap)).setCell ⟨w.heap.size + 1, 0, none⟩ (.int .i64 ((left : Int) - 1))) := by
  obtain ⟨new, hnew⟩ : ∃ new : Value, new = .slice (some ⟨g, 0, none⟩) (pts.length + 1) cap := ⟨_, rfl⟩
  rw [← hnew] at o5 ⊢
  have hN : w.heap.size + 1 < W.heap.size := lt_of_heap hbl
  have hlast := hoo.1 (pv, (pts, pl)) (by simp)
  have hgo := (hoo.2.lt go rfl)
  obtain ⟨cgo, hcgo⟩ := ownsRow_type hoo.2 (g := go) rfl
  have hpvt : ∀ k, pv.ownBlock = some k → ∃ c, W.heap[k]? = some (.cells c 35 (0, 0)) := fun k hk => hlast.blk hk
  have hU5 : Upd (fun k => pv.ownBlock = some k) W w5 := (u2.mono (fun _ _ h => h.elim)).trans v5
  have hU6 : Upd (fun k => pv.ownBlock = some k ∨ k = go) W (w5.setCell ⟨go, qi.length * 2, none⟩ new) := (hU5.mono (fun _ _ h => .inl h)).setCell (fun _ => .inr rfl) _
  have hU : Upd (fun k => pv.ownBlock = some k ∨ k = go ∨ k = w.heap.size + 1) W ((w5.setCell ⟨go, qi.length * 2, none⟩ new).setCell ⟨w.heap.size + 1, 0, none⟩ (.int .i64 ((left : Int) - 1))) :=
    (hU6.mono (fun _ _ h => h.elim .inl (fun h => .inr (.inl h)))).setCell (fun _ => .inr (.inr rfl)) _
  obtain ⟨k1, k2⟩ := round_of_upd (N0 := w.heap.size) hU (fun k hk hl => by
    rcases hk with hk | rfl | rfl
    · obtain ⟨c, hc⟩ := hpvt k hk
      exact ⟨by have := (hlast.lt k hk).1; omega, c, _, _, hc, by decide⟩
    · exact ⟨by omega, _, _, _, hcgo, by decide⟩
    · exact ⟨by omega, _, _, _, hbl, by decide⟩) hup.size
  have hpt : ¬ pv.ownBlock = some go := fun e => by obtain ⟨c, hc⟩ := hpvt go e; rw [hcgo] at hc; cases hc
  have hbl5 : (w5.setCell ⟨go, qi.length * 2, none⟩ new).heap[w.heap.size + 1]? = some (.cells #[.int .i64 left] 3) := hU6.heap hbl (by
    rintro (h | h)
    · obtain ⟨c, hc⟩ := hpvt _ h; rw [hbl] at hc; cases hc
    · omega)
  have hrow5 : w5.ownsRow (w.heap.size + 2) 32 2 (.slice (some ⟨go, 0, none⟩) (qi.length + 1) capo) (qi.length + 1) (polyVs (qi ++ [(pv, (pts, pl))])) := by
    have h := ownsRow_other hoo.2 hU5 (fun k hk _ => by obtain ⟨c, hc⟩ := hpvt k hk; exact ⟨c, _, _, hc, by decide⟩)
    rw [List.length_append] at h
    exact h
  have hav' := List.pairwise_append.1 hav
  refine ⟨k1, k2, .slice (some ⟨go, 0, none⟩) (qi.length + 1) capo, qi ++ [(new, (pts ++ [p], pl))], left - 1, ?_, ?_, ⟨fun q hq => ?_, ?_⟩, hup.then hU (fun k hk h => ?_), fun rest last => ?_, by omega, fun _ => by simp, by simpa using hpl, fun q hq => ?_, ?_⟩
  · exact hU.heap hbo (by
      rintro (h | h | h)
      · obtain ⟨c, hc⟩ := hpvt _ h; rw [hbo] at hc; cases hc
      · omega
      · omega)
  · refine (heap_setCell_eq _ hbl5).trans ?_
    have e : ((left : Int) - 1) = ((left - 1 : Nat) : Int) := by omega
    rw [e]; rfl
  · rw [List.mem_append, List.mem_singleton] at hq
    rcases hq with hq | rfl
    · refine ownsRow_keep (hoo.1 q (by simp [hq])) (fun k hk => hU.block k ((hoo.1 q (by simp [hq])).lt k hk).2 ?_)
      rintro (h | rfl | rfl)
      · exact hav'.2.2 q hq (pv, (pts, pl)) (by simp) k hk h
      · obtain ⟨c, hc⟩ := OwnPts.blk (hoo.1 q (by simp [hq])) hk; rw [hcgo] at hc; cases hc
      · have := ((hoo.1 q (by simp [hq])).lt _ hk).1; omega
    · have hgo5 : w5.heap[go]? = some (.cells cgo 32 (0, 0)) := hU5.heap hcgo hpt
      exact ownsRow_setCell_other (ownsRow_setCell_other o5 (OwnPts.not_blk o5 hgo5 (by decide)) _) (fun e => by have := (World.ownsRow.lt o5 _ e).1; simp only at this; omega) _
  · have h1 := (World.ownsRow.stored hrow5 (qi.length * 2) new).1
    have h2 := ownsRow_setCell_other h1 (a := ⟨w.heap.size + 1, 0, none⟩) (by simp [Value.ownBlock]; omega) (.int .i64 ((left : Int) - 1))
    have e : (polyVs (qi ++ [(pv, (pts, pl))])).set (qi.length * 2) new = polyVs (qi ++ [(new, (pts ++ [p], pl))]) := by
      rw [polyVs_snoc, polyVs_snoc, List.set_append_right _ _ (by rw [polyVs_len]; omega), polyVs_len]
      rw [show qi.length * 2 - 2 * qi.length = 0 by omega]
      rfl
    rw [e] at h2
    rw [List.length_append]
    exact h2
  · rcases h with h | rfl | rfl
    · have := (hlast.lt k h).1; omega
    · omega
    · omega
  · rw [List.append_assoc, hsp, List.singleton_append, twoN_corner hl0, hcs]
    simp only [List.map_append, List.map_cons, List.map_nil]
    rw [addLast_snoc]
  · rw [List.mem_append, List.mem_singleton] at hq
    have hb := hqq (pv, (pts, pl)) (by simp)
    rw [List.length_append]
    rcases hq with hq | rfl
    · have := hqq q (by simp [hq])
      exact ⟨by omega, this.2⟩
    · refine ⟨?_, by rw [hnew]; rfl⟩
      simp only [List.length_append, List.length_cons, List.length_nil] at hb ⊢
      omega
  · unfold apartQ
    rw [List.pairwise_append]
    refine ⟨hav'.1, List.pairwise_singleton _ _, fun a ha b hb g' hg' e => ?_⟩
    rw [List.mem_singleton] at hb
    subst hb
    have hgg : g = g' := by rw [hnew] at e; simpa [Value.ownBlock] using e
    subst hgg
    rcases hat with h | h
    · exact hav'.2.2 a ha (pv, (pts, pl)) (by simp) g hg' h
    · have := ((hoo.1 a (by simp [ha])).lt g hg').2; have := u2.size; omega

theorem poly_h {w : World} {s : Bytes} {pre : List (Nat × List Bytes)} {W w3 w6 : World} {vo : Value} {qs : List (Value × Poly)} {i g cap n : Nat} {ww : List Bytes}
    (hbo : W.heap[w.heap.size]? = some (.cells #[vo] 25)) (hbl : W.heap[w.heap.size + 1]? = some (.cells #[.int .i64 (0 : Nat)] 3)) (hoo : OwnQs (w.heap.size + 2) W vo qs) (hup : Upd noBlk w W)
    (hsp : ∀ rest last, twoN (pre ++ rest) 0 [] last = twoN rest 0 (qs.map (·.2)) last) (hpl : qs.length < 65536) (hqq : ∀ q, q ∈ qs → q.2.1.length ≤ pre.length ∧ q.1.oneCell' = true) (hav : apartQ qs)
    (hhd : headS ww = .ok n) (hn : n ≤ 64) (hu : Upd (fun k => k = w.heap.size + 1) W w3) (hb3 : w3.heap[w.heap.size + 1]? = some (.cells #[.int .i64 n] 3)) (v6 : Upd (fun k => vo.ownBlock = some k) w3 w6)
    (o6 : OwnQs (w.heap.size + 2) w6 (.slice (some ⟨g, 0, none⟩) (qs.length + 1) cap) (qs ++ [(.slice none 0 0, ([], i))])) (hb6 : w6.heap[w.heap.size]? = some (.cells #[vo] 25)) :
    KeepsOthers W (w6.setCell ⟨w.heap.size, 0, none⟩ (.slice (some ⟨g, 0, none⟩) (qs.length + 1) cap)) ∧ KpS w.heap.size W (w6.setCell ⟨w.heap.size, 0, none⟩ (.slice (some ⟨g, 0, none⟩) (qs.length + 1) cap)) ∧
    PolyI w s (pre ++ [(i, ww)]) (w6.setCell ⟨w.heap.size, 0, none⟩ (.slice (some ⟨g, 0, none⟩) (qs.length + 1) cap)) := by
  have hN : w.heap.size + 1 < W.heap.size := lt_of_heap hbl
  have hU6 : Upd (fun k => vo.ownBlock = some k ∨ k = w.heap.size + 1) W w6 := (hu.mono (fun _ _ h => .inr h)).trans (v6.mono (fun _ _ h => .inl h))
  have hU : Upd (fun k => vo.ownBlock = some k ∨ k = w.heap.size + 1 ∨ k = w.heap.size) W (w6.setCell ⟨w.heap.size, 0, none⟩ (.slice (some ⟨g, 0, none⟩) (qs.length + 1) cap)) :=
    (hU6.mono (fun _ _ h => h.elim .inl (fun h => .inr (.inl h)))).setCell (fun _ => .inr (.inr rfl)) _
  have hlt : ∀ k, vo.ownBlock = some k → w.heap.size + 2 ≤ k := fun k hk => (hoo.2.lt k hk).1
  have hty : ∀ k, (vo.ownBlock = some k ∨ k = w.heap.size + 1 ∨ k = w.heap.size) → k < W.heap.size → w.heap.size ≤ k ∧ ∃ c T fr, W.heap[k]? = some (.cells c T fr) ∧ T ≠ 9 := fun k hk hl => by
    rcases hk with hk | rfl | rfl
    · obtain ⟨c, hc⟩ := ownsRow_type hoo.2 hk
      exact ⟨by have := hlt k hk; omega, c, _, _, hc, by decide⟩
    · exact ⟨by omega, _, _, _, hbl, by decide⟩
    · exact ⟨by omega, _, _, _, hbo, by decide⟩
  obtain ⟨k1, k2⟩ := round_of_upd (N0 := w.heap.size) hU hty hup.size
  refine ⟨k1, k2, _, qs ++ [(.slice none 0 0, ([], i))], n, (heap_setCell_eq _ hb6).trans rfl, ?_, ?_, hup.then hU (fun k hk h => ?_), fun rest last => ?_, hn, fun _ => by simp, ?_, fun q hq => ?_, ?_⟩
  · rw [heap_setCell_ne _ (v6.heap hb3 (fun e => by have := hlt _ e; omega)) (by omega)]
  · refine o6.keep ((Upd.refl (fun k => k = w.heap.size) w6).setCell (p := ⟨w.heap.size, 0, none⟩) (fun _ => rfl) _) (fun k hk e => ?_) (fun q hq k hk e => ?_)
    · subst hk; have := (o6.2.lt _ e).1; omega
    · subst hk; have := ((o6.1 q hq).lt _ e).1; omega
  · rcases h with h | rfl | rfl
    · have := hlt k h; omega
    · omega
    · omega
  · rw [List.append_assoc, hsp, List.singleton_append, twoN_head, hhd]
    simp only [List.length_map, List.map_append, List.map_cons, List.map_nil]
    rw [if_neg (by omega)]
  · rw [List.length_append]; simp; omega
  · rw [List.mem_append, List.mem_singleton] at hq
    rw [List.length_append]
    rcases hq with hq | rfl
    · have := hqq q hq; exact ⟨by omega, this.2⟩
    · exact ⟨by simp, rfl⟩
  · unfold apartQ
    rw [List.pairwise_append]
    refine ⟨hav, List.pairwise_singleton _ _, fun a ha b hb g' hg' e => ?_⟩
    rw [List.mem_singleton] at hb
    subst hb
    simp [Value.ownBlock] at e

set_option maxHeartbeats 2000000 in
theorem polys_any (s : Bytes) (hs : s.length < 4294967281) (w : World) (hsh : w.ShapedOpen Tryd.prog) :
    Calls Tryd.prog 14 #[.string (bs s)] w fun en w' => polysQ (polysS s) w en w' := by
  refine calls_of_wpAt (n := 5) Tryd.func14 rfl ?_
  simp only [Tryd.ntmps14, List.size_toArray, List.length_cons, List.length_nil, Nat.reduceAdd, Nat.reduceSub, Array.replicate_succ, Array.replicate_zero, List.push_toArray, List.append_toArray, List.nil_append, List.cons_append]
  refine wpAt_seq (wpAt_of (n := 5) ?_)
  gi_wp2_with fail
  refine wpAt_seq (wpAt_of (n := 5) ?_)
  gi_wp2_with fail
  refine wpAt_seq (wpAt_of (n := 5) ?_)
  gi_wp2_with fail
  refine wpAt_seq (wpAt_seq (wpAt_of (n := 5) ?_))
  gi_wp2_with fail
  refine ⟨trivial, (callsIn_wide.2 (lines_any s _)).mono ?_⟩
  rintro e w1 ⟨rfl, rfl⟩
  gi_wp2_with fail
  refine wpAt_block (wpAt_range (n := 5) (rangeP_core (F := Fence.wide) (n := 5) rfl (by omega) Tryd.func14 trivial (gf := 31) (lb := #[.pointer (some ⟨w.heap.size + 2, 0, none⟩)]) rfl trivial (enters_of Tryd.func31 (by kernel_rfl) rfl)
    (Ar := ArL) (Kp := KpS w.heap.size) (lines1_seq s hs 4 w.heap.size (w.heap.size + 2) w _ hsh rfl ?q1 ?q2 ?q3) KpS.trans (fun W l o o' hl ho hc => kps_putObj W l o o' (by simp at hl; omega) ho hc) (Below.refl _ _)
    (fun x args W h => by obtain ⟨A, rfl, _⟩ := h; rfl) (fun x args A B row h => ArL.keep h)
    (PolyI w s) (fun _ _ _ => False) (PolyP w s) ?hI ?hIx ?h0 (fun args => { tmps := #[.string (bs s), undef, .slice none 0 0, .pointer (some ⟨w.heap.size, 0, none⟩), .pointer (some ⟨w.heap.size + 1, 0, none⟩), args.getD 0 undef, args.getD 1 undef, undef, .string (bs s), .func (.func 31) #[] #[.pointer (some ⟨w.heap.size + 2, 0, none⟩)], args.getD 0 undef, args.getD 1 undef, undef, undef, undef, undef, undef, undef, undef, undef, undef, undef, undef, undef, undef, undef, undef, undef, undef, undef, undef, undef, undef, undef, undef, undef, undef, undef, undef, undef, undef, undef, undef, undef, undef, undef, undef, undef, undef, undef, undef, undef, undef, undef, undef, undef, undef, undef, undef, undef, undef, undef, undef, undef, undef, undef, undef, undef, undef, undef, undef, undef, undef, undef, undef, undef, undef, undef, undef, undef, undef, undef, undef, undef, undef, undef, undef, undef], defers := [] }) ?assign ?body ?done ?stop ?panic))
  case q1 => exact fun k hk => ((heap_alloc_old _ _ (by simp; omega)).trans (heap_alloc_old _ _ (by simp; omega))).trans (heap_alloc_old _ _ hk)
  case q2 => simp; omega
  case q3 => have h := heap_alloc_new ((w.alloc (.cells #[.slice none 0 0] 25)).alloc (.cells #[.int .i64 0] 3)) (.cells #[.string (bs s)] 9); simpa using h
  case hI =>
    rintro pre X Y row ⟨vo, qs, left, h1, h2, h3, h5, h6⟩ hg hr
    exact ⟨vo, qs, left, grown_cells h1 hg hr, grown_cells h2 hg hr, h3.grown hg hr, grown_upd h5 (by simp; omega) hg hr, h6⟩
  case hIx => exact fun _ _ X Y row h hg hr => h
  case h0 =>
    refine ⟨_, [], 0, heap_alloc_keep _ (heap_alloc_keep _ (heap_alloc_new _ _)), ?_, ⟨fun q h => (by cases h), World.ownsRow_nil _ _ _ _⟩, (((Upd.refl _ _).alloc _).alloc _).alloc _, fun _ _ => rfl, Nat.zero_le _, fun h => absurd rfl h, Nat.zero_le _, fun q h => (by cases h), List.Pairwise.nil⟩
    have h := heap_alloc_keep (.cells #[.string (bs s)] 9) (heap_alloc_new (w.alloc (.cells #[.slice none 0 0] 25)) (.cells #[.int .i64 0] 3))
    simpa using h
  case assign =>
    intro l x args W K h hK
    obtain ⟨A, rfl, hrd⟩ := h
    gi_wp2_with fail
    exact hK
  case body =>
    rintro l pre x args W ⟨vo, qs, left, hbo, hbl, hoo, hup, hsp, hl64, hlq, hpl, hqq, hav⟩ har hok
    obtain ⟨A, rfl, hrd⟩ := har
    obtain ⟨rest, hr⟩ := hok
    obtain ⟨i, ww⟩ := x
    have hmem : (i, ww) ∈ linesAll s := by rw [← hr]; simp
    obtain ⟨ln, hln, hww, hne, hi1, hi2⟩ := numbered_mem _ _ _ hmem
    simp only at hrd hww hne hi1 hi2
    have hll := (linesOf_len s).1
    have hlb := (linesOf_len s).2 ln hln
    have hwl := wordsOf_len ln
    rw [← hww] at hwl
    have hsh2 : short ww := fun x hx => by have := hwl.2 x hx; omega
    have hwn : ww.length ≤ 4294967295 := by omega
    have hpb : pre.length ≤ s.length + 1 := by
      have h1 : (pre ++ [(i, ww)]).length ≤ (linesAll s).length := by rw [← hr]; simp
      have h3 : (linesAll s).length ≤ (linesOf s).length := numbered_len _ _
      simp only [List.length_append, List.length_cons, List.length_nil] at h1
      omega
    have hspx : polysS s = twoN ((i, ww) :: rest) left (qs.map (·.2)) (linesOf s).length := by
      have := hsp ((i, ww) :: rest) (linesOf s).length
      rw [← this]
      unfold polysS
      rw [← hr, List.append_assoc]; rfl
    have hib : i ≤ s.length + 1 := by omega
    have HSP := Lib.hid hsp
    have HX := Lib.hid hspx
    have HRD := Lib.hid hrd
    have HSH := Lib.hid hsh2
    have HBO := Lib.hid hbo
    have HBL := Lib.hid hbl
    have HOO := Lib.hid hoo
    have HUP := Lib.hid hup
    have HAV := Lib.hid hav
    have HPL := Lib.hid hpl
    have HQQ := Lib.hid hqq
    have HLQ := Lib.hid hlq
    have HWW := Lib.hid hne
    have c1 : W.cell? ⟨w.heap.size + 1, 0, none⟩ = some (.int .i64 left) := by simp [World.cell?, hbl]
    clear hmem hln hww hi1 hi2 hll hlb hwl hsp hspx hrd hsh2 hbo hbl hoo hup hr hav hpl hqq hlq hne
    simp only [pair0, pair1]
    by_cases hl0 : left = 0
    · subst hl0
      obtain ⟨b, off, rfl, hc⟩ := HRD.out (List.length_pos_iff.2 HWW.out)
      have hfail : ∀ e : Nat, headS ww = .bad e → polysS s = .bad i e := fun e he => by rw [HX.out, twoN_head, he]
      have hend : ∀ (e : Nat) (w' : World), headS ww = .bad e → Upd noBlk W w' → KeepsOthers W w' ∧ PolyP w s (fail i e) w' := fun e w' he hu => by
        obtain ⟨k1, k2⟩ := round_of_upd (N0 := w.heap.size) hu (fun k hk _ => hk.elim) HUP.out.size
        exact ⟨k1, i, e, rfl, hfail e he, HUP.out.trans hu⟩
      have HEND := Lib.hid hend
      have HFAIL := Lib.hid hfail
      clear hend hfail hl64
      by_cases h2 : ww.length = 2
      · obtain ⟨a, d, rfl⟩ : ∃ a d, ww = [a, d] := by
          match ww, h2 with
          | [a, d], _ => exact ⟨a, d, rfl⟩
        have k0 : W.cell? ⟨b, off, none⟩ = some (.string (bs a)) := hc 0 (by simp)
        have k1 : W.cell? ⟨b, off + 1, none⟩ = some (.string (bs d)) := hc 1 (by simp)
        have hsd : d.length ≤ 4294967296 := HSH.out d (by simp)
        clear hc h2 hwn
        by_cases ha : a = wPoly
        · have e1 : ((bs a).toList == [112, 111, 108, 121]) = true := by rw [bs_toList, ha]; rfl
          subst ha
          rcases hnum : isNum d with _ | _
          · have hb := Lib.hid (headS_num (a := wPoly) hnum)
            have hisn : Hid (∀ w', Calls Tryd.prog 24 #[.string (bs d)] w' fun en w'' => en = .returned (.bool false) ∧ Upd noBlk w' w'') := fun w' => by have := isNumber_any d hsd w'; rwa [hnum] at this
            clear hnum
            gi_wp2_with fail
            refine ⟨trivial, (CallsIn.inRound l (callsIn_wide.2 (hisn.out _))).mono ?_⟩
            rintro e w2 ⟨rfl, u2⟩
            have U2 := Lib.hid u2
            clear u2
            gi_wp2_with fail
            refine ⟨trivial, (CallsIn.inRound l (callsIn_wide.2 (check_bad _ _ _))).mono ?_⟩
            rintro e w4 ⟨rfl, rfl⟩
            exact ⟨rfl, HEND.out 10 _ hb.out U2.out⟩
          · obtain ⟨c, r, rfl⟩ := isNum_cons hnum
            have hisn : Hid (∀ w', Calls Tryd.prog 24 #[.string (bs (c :: r))] w' fun en w'' => en = .returned (.bool true) ∧ Upd noBlk w' w'') := fun w' => by have := isNumber_any (c :: r) hsd w'; rwa [hnum] at this
            have hsz : 0 < (bs (c :: r)).size := by rw [bs_size]; simp
            have hg0 : (bs (c :: r))[0] = c := by rw [bs_get _ 0 (by simp)]; rfl
            by_cases hcm : c = 45
            · subst hcm
              have hq : ((((45 : UInt8).toNat : Nat) : Int) != 45) = false := by decide
              gi_wp2_with fail
              refine ⟨trivial, (CallsIn.inRound l (callsIn_wide.2 (hisn.out _))).mono ?_⟩
              rintro e w2 ⟨rfl, u2⟩
              have U2 := Lib.hid u2
              have k1' : w2.cell? ⟨b, off + 1, none⟩ = some (.string (bs (45 :: r))) := u2.cell k1 id
              clear u2
              gi_wp2_with fail
              refine ⟨trivial, (CallsIn.inRound l (callsIn_wide.2 (check_bad _ _ _))).mono ?_⟩
              rintro e w4 ⟨rfl, rfl⟩
              exact ⟨rfl, HEND.out 10 _ headS_minus U2.out⟩
            · have hq : (((c.toNat : Nat) : Int) != 45) = true := by
                have h : c.toNat ≠ 45 := fun e => hcm (by rw [← UInt8.toNat_inj]; exact e)
                rw [bne_iff_ne]; omega
              have hhd := headS_good hnum hcm
              have hvp := valOf_plain (r := r) hcm
              have hone := numsP_one hnum
              have hnc : Hid (∀ w', Upd noBlk W w' → Calls Tryd.prog 25 #[.slice (some ⟨b, off + 1, none⟩) 1 1, .int .i64 1, .int .i64 1, .int .i64 i] w' fun en w'' => NumsQ (numsP 1 1 [c :: r]) i w' en w'') := fun w' hu =>
                numbers_any (some ⟨b, off + 1, none⟩) 1 [c :: r] 1 1 i (by omega) (by omega) (by simp) (fun x hx => HSH.out x (List.mem_cons_of_mem _ hx)) w' (fun _ => ⟨b, off + 1, rfl, fun j hj => by
                  obtain rfl : j = 0 := by simpa using hj
                  exact hu.cell k1 id⟩)
              have HHD := Lib.hid hhd
              have HVP := Lib.hid hvp
              have HON := Lib.hid hone
              clear hhd hvp hone hnum hcm
              gi_wp2_with fail
              refine ⟨trivial, (CallsIn.inRound l (callsIn_wide.2 (hisn.out _))).mono ?_⟩
              rintro e w2 ⟨rfl, u2⟩
              have U2 := Lib.hid u2
              have k1' : w2.cell? ⟨b, off + 1, none⟩ = some (.string (bs (c :: r))) := u2.cell k1 id
              clear u2
              gi_wp2_with fail
              refine ⟨trivial, (CallsIn.inRound l (callsIn_wide.2 (check_ok _ _ _))).mono ?_⟩
              rintro e w4 ⟨rfl, rfl⟩
              gi_wp2_with fail
              refine ⟨trivial, (CallsIn.inRound l (callsIn_wide.2 (hnc.out _ U2.out))).mono ?_⟩
              rcases hlong : Sp.long (c :: r) with _ | _
              · have h7 := HON.out
                rw [hlong, if_neg (by simp), HVP.out] at h7
                rw [h7]
                have h8 := HHD.out
                rw [hlong, Bool.false_or] at h8
                have HH8 := Lib.hid h8
                clear h7 h8 hlong
                rintro e w3 ⟨vz, rfl, oz, u3⟩
                obtain ⟨gz, cz, rfl⟩ : ∃ gz cz, vz = .slice (some ⟨gz, 0, none⟩) 1 cz := by
                  rcases oz.2 with ⟨_, h0⟩ | ⟨g, cp, _, rfl, _⟩
                  · simp at h0
                  · exact ⟨g, cp, rfl⟩
                have kz := oz.cellAt 0 (by simp)
                simp only [List.map_cons, List.map_nil, List.getElem?_cons_zero] at kz
                have U3 : Hid (Upd noBlk W w3) := U2.out.trans u3
                have hbl3 := U3.out.heap HBL.out id
                have hbo3 := U3.out.heap HBO.out id
                have l3 : w3.cell? ⟨w.heap.size + 1, 0, none⟩ = some (.int .i64 (0 : Nat)) := by simp [World.cell?, hbl3]
                have lz3 : w3.frozen? ⟨w.heap.size + 1, 0, none⟩ = false := by simp [World.frozen?, hbl3]
                generalize natOf (c :: r) = m at *
                have hbl4 : (w3.setCell ⟨w.heap.size + 1, 0, none⟩ (.int .i64 (m : Nat))).heap[w.heap.size + 1]? = some (.cells #[.int .i64 (m : Nat)] 3) := (heap_setCell_eq _ hbl3).trans rfl
                have l4 : (w3.setCell ⟨w.heap.size + 1, 0, none⟩ (.int .i64 (m : Nat))).cell? ⟨w.heap.size + 1, 0, none⟩ = some (.int .i64 (m : Nat)) := by simp [World.cell?, hbl4]
                have hbo4 : (w3.setCell ⟨w.heap.size + 1, 0, none⟩ (.int .i64 (m : Nat))).heap[w.heap.size]? = some (.cells #[vo] 25) := heap_setCell_ne _ hbo3 (by omega)
                obtain ⟨Ao, capo, rfl⟩ := HOO.out.len
                have o4 : (w3.setCell ⟨w.heap.size + 1, 0, none⟩ (.int .i64 (m : Nat))).cell? ⟨w.heap.size, 0, none⟩ = some (.slice Ao qs.length capo) := by simp [World.cell?, hbo4]
                have HBL4 := Lib.hid hbl4
                have HBO4 := Lib.hid hbo4
                have hU4 : Hid (Upd (fun k => k = w.heap.size + 1) W (w3.setCell ⟨w.heap.size + 1, 0, none⟩ (.int .i64 (m : Nat)))) := (U3.out.mono (G := fun k => k = w.heap.size + 1) (fun _ _ h => h.elim)).setCell (p := ⟨w.heap.size + 1, 0, none⟩) (fun _ => rfl) _
                have hN0 : w.heap.size ≤ W.heap.size := HUP.out.size
                clear oz u3 hbl3 hbo3 hbl4 hbo4 k1 k1' k0
                have hbad : Hid (∀ e : Nat, polysS s = .bad i e → KeepsOthers W (w3.setCell ⟨w.heap.size + 1, 0, none⟩ (.int .i64 (m : Nat))) ∧ PolyP w s (fail i e) (w3.setCell ⟨w.heap.size + 1, 0, none⟩ (.int .i64 (m : Nat)))) := fun e he => by
                  obtain ⟨k1, k2⟩ := round_of_upd (N0 := w.heap.size) hU4.out (fun k hk hl => by subst hk; exact ⟨by omega, _, _, _, HBL.out, by decide⟩) HUP.out.size
                  exact ⟨k1, i, e, rfl, he, HUP.out.then hU4.out (fun k hk h => by omega)⟩
                have HPL2 := Lib.hid HPL.out
                by_cases hm3 : m < 3
                · have hb := Lib.hid (HFAIL.out 11 (by rw [HH8.out, if_pos (by simpa using hm3)]))
                  have hd : decide (3 ≤ ((m : Nat) : Int)) = false := by rw [decide_eq_false_iff_not]; omega
                  clear hm3
                  gi_wp2_with fail
                  refine ⟨trivial, (CallsIn.inRound l (callsIn_wide.2 (check_bad _ _ _))).mono ?_⟩
                  rintro e w4 ⟨rfl, rfl⟩
                  exact ⟨rfl, hbad.out 11 hb.out⟩
                · have hd : decide (3 ≤ ((m : Nat) : Int)) = true := by rw [decide_eq_true_iff]; omega
                  by_cases hm64 : 64 < m
                  · have hb := Lib.hid (HFAIL.out 2 (by rw [HH8.out, if_neg (by simpa using hm3), if_pos hm64]))
                    have hd2 : decide (((m : Nat) : Int) ≤ 64) = false := by rw [decide_eq_false_iff_not]; omega
                    clear hm3 hm64
                    gi_wp2_with fail
                    refine ⟨trivial, (CallsIn.inRound l (callsIn_wide.2 (check_ok _ _ _))).mono ?_⟩
                    rintro e w4 ⟨rfl, rfl⟩
                    gi_wp2_with fail
                    refine ⟨trivial, (CallsIn.inRound l (callsIn_wide.2 (check_bad _ _ _))).mono ?_⟩
                    rintro e w4 ⟨rfl, rfl⟩
                    exact ⟨rfl, hbad.out 2 hb.out⟩
                  · have hhm : Hid (headS [wPoly, c :: r] = .ok m) := by show _ = _; rw [HH8.out, if_neg (by simpa using hm3), if_neg hm64]
                    have hd2 : decide (((m : Nat) : Int) ≤ 64) = true := by rw [decide_eq_true_iff]; omega
                    have HM64 : Hid (m ≤ 64) := by show _ ≤ _; omega
                    by_cases hq6 : qs.length < 65536
                    · have hd3 : decide (((qs.length : Nat) : Int) < 65536) = true := by rw [decide_eq_true_iff]; omega
                      have HQ6 := Lib.hid hq6
                      have hoo4 : OwnQs (w.heap.size + 2) (w3.setCell ⟨w.heap.size + 1, 0, none⟩ (.int .i64 (m : Nat))) (.slice Ao qs.length capo) qs :=
                        HOO.out.keep hU4.out (fun k hk e => by have := (HOO.out.2.lt k e).1; omega) (fun q hq k hk e => by have := ((HOO.out.1 q hq).lt k e).1; omega)
                      obtain ⟨g, cap, w6, r6, o6, v6, _⟩ := append_polyQ (w := w3.setCell ⟨w.heap.size + 1, 0, none⟩ (.int .i64 (m : Nat))) (base := w.heap.size + 2) (q := ([], i)) (by have := lt_of_heap HBL.out; have := hU4.out.size; omega) hoo4 (OwnPts.nil _ _) (by omega) rfl
                      rw [show (w3.setCell ⟨w.heap.size + 1, 0, none⟩ (.int .i64 (m : Nat))).heap.size = w3.heap.size by simp] at r6
                      have hb6 : w6.heap[w.heap.size]? = some (.cells #[.slice Ao qs.length capo] 25) := v6.heap HBO4.out (fun e => by have := (hoo4.2.lt _ e).1; omega)
                      have cc : w6.cell? ⟨w.heap.size, 0, none⟩ = some (.slice Ao qs.length capo) := by simp [World.cell?, hb6]
                      have zz : w6.frozen? ⟨w.heap.size, 0, none⟩ = false := by simp [World.frozen?, hb6]
                      have HB6 := Lib.hid hb6
                      have R6 := Lib.hid r6
                      have O6 := Lib.hid o6
                      have V6 := Lib.hid v6
                      clear hoo4 hb6 r6 o6 v6 hq6 hm3 hm64
                      gi_wp2_with fail
                      refine ⟨trivial, (CallsIn.inRound l (callsIn_wide.2 (check_ok _ _ _))).mono ?_⟩
                      rintro e w4 ⟨rfl, rfl⟩
                      gi_wp2_with fail
                      refine ⟨trivial, (CallsIn.inRound l (callsIn_wide.2 (check_ok _ _ _))).mono ?_⟩
                      rintro e w4 ⟨rfl, rfl⟩
                      gi_wp2_with (gi_at_builtin; refine wpListIn_append_run rfl _ _ _ rfl rfl rfl R6.out ?_)
                      exact poly_h HBO.out HBL.out HOO.out HUP.out HSP.out HQ6.out HQQ.out HAV.out hhm.out HM64.out hU4.out HBL4.out V6.out O6.out HB6.out
                    · have hb : Hid (polysS s = .bad i 2) := by
                        show _ = _
                        rw [HX.out, twoN_head, hhm.out]
                        simp only [List.length_map]
                        rw [if_pos (by omega)]
                      have hd3 : decide (((qs.length : Nat) : Int) < 65536) = false := by rw [decide_eq_false_iff_not]; omega
                      clear hq6 hm3 hm64
                      gi_wp2_with fail
                      refine ⟨trivial, (CallsIn.inRound l (callsIn_wide.2 (check_ok _ _ _))).mono ?_⟩
                      rintro e w4 ⟨rfl, rfl⟩
                      gi_wp2_with fail
                      refine ⟨trivial, (CallsIn.inRound l (callsIn_wide.2 (check_bad _ _ _))).mono ?_⟩
                      rintro e w4 ⟨rfl, rfl⟩
                      exact ⟨rfl, hbad.out 2 hb.out⟩
              · have h7 := HON.out
                rw [hlong, if_pos rfl] at h7
                rw [h7]
                rintro e w3 ⟨rfl, u3⟩
                have h8 := HHD.out
                rw [hlong, Bool.true_or, if_pos rfl] at h8
                exact ⟨rfl, HEND.out 11 _ h8 (U2.out.trans u3)⟩
        · have e1 : ((bs a).toList == [112, 111, 108, 121]) = false := by rw [bs_toList, beq_eq_false_iff_ne]; exact ha
          have hb := Lib.hid (headS_word (b := d) ha)
          clear ha
          gi_wp2_with fail
          refine ⟨trivial, ?_⟩
          gi_wp2_with fail
          refine ⟨trivial, (CallsIn.inRound l (callsIn_wide.2 (check_bad _ _ _))).mono ?_⟩
          rintro e w4 ⟨rfl, rfl⟩
          exact ⟨rfl, HEND.out 10 _ hb.out (Upd.refl _ _)⟩
      · have h2' : (((ww.length : Nat) : Int) == 2) = false := by rw [beq_eq_false_iff_ne]; omega
        have hb := Lib.hid (headS_len h2)
        clear h2 hc
        gi_wp2_with fail
        refine ⟨trivial, ?_⟩
        gi_wp2_with fail
        refine ⟨trivial, (CallsIn.inRound l (callsIn_wide.2 (check_bad _ _ _))).mono ?_⟩
        rintro e w4 ⟨rfl, rfl⟩
        exact ⟨rfl, HEND.out 10 _ hb.out (Upd.refl _ _)⟩
    · obtain ⟨qi, ⟨pv, pts, pl⟩, rfl⟩ : ∃ qi q, qs = qi ++ [q] := by
        have := HLQ.out hl0
        exact ⟨qs.dropLast, qs.getLast this, (List.dropLast_concat_getLast this).symm⟩
      obtain ⟨go, capo, rfl⟩ : ∃ go capo, vo = .slice (some ⟨go, 0, none⟩) (qi.length + 1) capo := by
        have h3 := HOO.out.2
        rw [List.length_append] at h3
        rcases h3.2 with ⟨_, h0⟩ | ⟨g, cap, cur, rfl, _⟩
        · simp at h0
        · exact ⟨g, cap, rfl⟩
      have hl1 : (0 : Int) < ((left : Nat) : Int) := by omega
      have c0 : W.cell? ⟨w.heap.size, 0, none⟩ = some (.slice (some ⟨go, 0, none⟩) (qi.length + 1) capo) := by simp [World.cell?, HBO.out]
      have hqb : ((qi.length : Nat) : Int) ≤ 65536 := by have := HPL.out; simp at this; omega
      have hcor : Hid (∀ w', Upd noBlk W w' → Calls Tryd.prog 23 #[.slice A ww.length ww.length, .int .i64 i] w' fun en w'' => cornerQ (cornerS ww) i w' en w'') := fun w' hu =>
        corner_any A ww.length ww i (by omega) HSH.out w' (HRD.out.keep hu)
      obtain ⟨cgo, hcgo⟩ := ownsRow_type HOO.out.2 (g := go) rfl
      have hrow : W.ownsRow (w.heap.size + 2) 32 2 (.slice (some ⟨go, 0, none⟩) (qi.length + 1) capo) (qi.length + 1) (polyVs (qi ++ [(pv, (pts, pl))])) := by
        have h := HOO.out.2; rw [List.length_append] at h; exact h
      have k0 : W.cell? ⟨go, qi.length * 2, none⟩ = some pv := by
        rw [World.ownsRow.cellAt hrow _ (by omega), polyVs_snoc, List.getElem?_append_right (by rw [polyVs_len]; omega), polyVs_len, show qi.length * 2 - 2 * qi.length = 0 by omega]; rfl
      have z0 : W.frozen? ⟨go, qi.length * 2, none⟩ = false := World.ownsRow.frozenAt hrow _
      have HK0 := Lib.hid k0
      have HCGO := Lib.hid hcgo
      have hlast : Hid (OwnPts (w.heap.size + 2) W pv pts) := HOO.out.1 (pv, (pts, pl)) (by simp)
      have hgo := HOO.out.2.lt go rfl
      have hpt := Lib.hid (OwnPts.not_blk hlast.out hcgo (by decide))
      clear k0 z0 hrow hcgo
      gi_wp2_with fail
      refine wpIn_region_tree 10 (OT.sures [0, 1, 2, 3, 4, 5, 6] (.run 7 (.run 8 (.run 9 .nil)))) (fun w' => Upd (fun k => pv.ownBlock = some k) W w') (by kernel_rfl) (by kernel_rfl) (by kernel_rfl) (fun ⟨a, w, h⟩ => h) (fun c a d v w h => by cases d <;> exact h) (Upd.refl _ _).drew ?_
      simp only [OT.sures]
      iterate 7 (apply wpT_sure rfl rfl; focus (intro w' hw'; have g1 := hw'.cell HK0.out hpt.out; go_simp; rfl))
      refine wpT_run (fun w' => Upd (fun k => pv.ownBlock = some k) W w') (fun _ h => h) rfl (fun K hK => ?_)
      go_simp
      refine (hcor.out _ (Upd.refl _ _).drew).mono ?_
      rintro e w2 hq
      rcases hcs : cornerS ww with p | e0
      · rw [hcs] at hq
        obtain ⟨rfl, u2⟩ := hq
        have U2 : Hid (Upd noBlk W w2) := (Upd.refl _ _).drew.trans u2
        clear u2
        have U2F : Hid (Upd (fun k => pv.ownBlock = some k) W w2) := U2.out.mono (fun _ _ h => h.elim)
        refine hK _ _ ⟨U2F.out, ?_⟩
        clear hK K
        refine wpT_run (fun w' => Upd (fun k => pv.ownBlock = some k) W w') (fun _ h => h) rfl (fun K hK => ?_)
        unfold ptV
        go_simp
        refine hK _ _ ⟨U2F.out.alloc _, ?_⟩
        clear hK K
        have hptl : pts.length ≤ pre.length := (HQQ.out (pv, (pts, pl)) (by simp)).1
        obtain ⟨g, cap, w5, r5, o5, v5, hat⟩ := append_ptB (base := w.heap.size + 2) (by have := lt_of_heap HBL.out; have := U2.out.size; omega) (hlast.out.upd U2.out) p (by omega)
        have hcg5 := v5.heap (U2.out.heap HCGO.out id) hpt.out
        have HU5 : Hid (Upd (fun k => pv.ownBlock = some k) W w5) := U2F.out.trans v5
        have hbl5 : w5.heap[w.heap.size + 1]? = some (.cells #[.int .i64 left] 3) := HU5.out.heap HBL.out (OwnPts.not_blk hlast.out HBL.out (by decide))
        refine wpT_run (fun w' => Upd (fun k => pv.ownBlock = some k) W w') (fun _ h => h) rfl (fun K hK => ?_)
        rw [if_pos (by rfl)]
        refine wp_append_run _ _ _ rfl rfl rfl r5 (hK _ _ ⟨HU5.out, ?_⟩)
        clear hK K
        refine wpT_nil ?_
        simp only [List.drop_succ_cons, List.drop_zero]
        have kk : w5.cell? ⟨go, qi.length * 2, none⟩ = some pv := HU5.out.cell HK0.out hpt.out
        have kz : w5.frozen? ⟨go, qi.length * 2, none⟩ = false := by simp [World.frozen?, hcg5]
        have hbl6 : (w5.setCell ⟨go, qi.length * 2, none⟩ (.slice (some ⟨g, 0, none⟩) (pts.length + 1) cap)).heap[w.heap.size + 1]? = some (.cells #[.int .i64 left] 3) := heap_setCell_ne _ hbl5 (by omega)
        have lc : (w5.setCell ⟨go, qi.length * 2, none⟩ (.slice (some ⟨g, 0, none⟩) (pts.length + 1) cap)).cell? ⟨w.heap.size + 1, 0, none⟩ = some (.int .i64 left) := by simp [World.cell?, hbl6]
        have lz : (w5.setCell ⟨go, qi.length * 2, none⟩ (.slice (some ⟨g, 0, none⟩) (pts.length + 1) cap)).frozen? ⟨w.heap.size + 1, 0, none⟩ = false := by simp [World.frozen?, hbl6]
        have O5 := Lib.hid o5
        have V5 := Lib.hid v5
        have hl64' := Lib.hid hl64
        have hleft : ((left : Nat) : Int) ≤ 64 := by omega
        clear hcg5 hbl5 hbl6 o5 v5 r5 hgo
        go_wp2_with fail
        gi_wp2_with fail
        exact poly_v HBO.out HBL.out HOO.out HUP.out HSP.out hl0 hl64'.out HPL.out HQQ.out HAV.out hcs U2.out V5.out O5.out hat
      · rw [hcs] at hq
        obtain ⟨rfl, u2⟩ := hq
        have hb : polysS s = .bad i e0 := by rw [HX.out, twoN_corner hl0, hcs]
        have U2 : Upd noBlk W w2 := (Upd.refl _ _).drew.trans u2
        obtain ⟨k1, k2⟩ := round_of_upd (N0 := w.heap.size) U2 (fun k hk _ => hk.elim) HUP.out.size
        exact ⟨rfl, k1, i, e0, rfl, hb, HUP.out.trans U2⟩
  case done =>
    rintro D xs W hD rfl ⟨vo, qs, left, hbo, hbl, hoo, hup, hsp, hl64, hlq, hpl, hqq, hav⟩ hk
    have hs1 := hsp [] (linesOf s).length
    rw [List.append_nil] at hs1
    have c0 : W.cell? ⟨w.heap.size, 0, none⟩ = some vo := by simp [World.cell?, hbo]
    have hcount : Hid (Lib.countByte s 10 + 1 = (linesOf s).length) := (count_linesGo s []).symm
    have HC0 := Lib.hid c0
    have hcnt : Hid (∀ w', Calls Tryd.prog 26 #[.string (bs s), .string ⟨#[10]⟩] w' fun en w'' => en = .returned (.int .i64 (Lib.countByte s 10 : Nat)) ∧ w'' = w') := fun w' => by
      have := Tryd.strings_Count_one (bs s) 10 w'
      rwa [bs_data] at this
    have hcb : (((Lib.countByte s 10 : Nat)) : Int) ≤ 4294967296 := by
      have := hcount.out; have := (linesOf_len s).1; omega
    by_cases hl0 : left = 0
    · subst hl0
      have c1 : W.cell? ⟨w.heap.size + 1, 0, none⟩ = some (.int .i64 (0 : Nat)) := by simp [World.cell?, hbl]
      have HS : Hid (polysS s = .ok (qs.map (·.2))) := hs1
      have HC1 := Lib.hid c1
      clear hs1 hbo hbl hsp hl64 hlq hpl hqq c0 c1
      generalize Lib.countByte s 10 = cb at *
      refine wpAt_of (n := 5) (wpIn_mono (Q := doneQ D Tryd.prog Tryd.f14 fun en w' => polysQ (polysS s) w en w') (wpIn_wide.2 ?_) (fun _ _ _ h => doneQ_post h))
      go_wp2_with fail
      refine wp_region_tree 5 (OT.sures [0, 1, 2] (.run 3 (.sure 4 .nil))) (fun w' => Upd noBlk W w') (by kernel_rfl) (by kernel_rfl) (fun c a d v w h => by cases d <;> exact h) (Upd.refl _ _).drew ?_
      simp only [OT.sures]
      iterate 3 (apply wpT_sure rfl rfl; focus (intro w' hw'; have g1 := hw'.cell HC1.out id; go_simp; rfl))
      refine wpT_run (fun w' => Upd noBlk W w') (fun _ h => h) rfl (fun K hK => ?_)
      go_simp
      refine (hcnt.out _).mono ?_
      rintro e w2 ⟨rfl, rfl⟩
      refine hK _ _ ⟨(Upd.refl _ _).drew, ?_⟩
      clear hK K
      have hwr : IntKind.i64.wrap ((cb : Int) + 1) = (cb : Int) + 1 := IntWalk.i64_in ((cb : Int) + 1) (by omega)
      apply wpT_sure rfl rfl
      focus (intro w' hw'; go_simp; rfl)
      refine wpT_nil ?_
      simp only [List.drop_succ_cons, List.drop_zero]
      go_wp2_with fail
      refine (check_ok _ _ _).mono ?_
      rintro e w4 ⟨rfl, rfl⟩
      have c0' : W.drew.cell? ⟨w.heap.size, 0, none⟩ = some vo := HC0.out
      go_wp2_with fail
      refine doneQ_ret ?_
      refine ⟨by simp, .inl ⟨_, _, rfl, run_takeDeferred (w := W.drew) hk, ?_⟩⟩
      refine ⟨vo, by simp [results, Tryd.f14, go_sem], ?_⟩
      rw [HS.out]
      exact ⟨vo, rfl, OwnPolys.mono (OwnQs.polys ((hoo.grown (B := D) (row := none) (Y := W.drew) ⟨rfl, rfl, rfl, Nat.le_refl _, fun _ _ _ => rfl⟩ (fun r e => by cases e)).grown (B := D) (grownBy_putObj' W.drew D _) (fun r e => by cases e; exact ⟨Nat.le_refl _, _, hk, rfl⟩))) (by omega), hup.drew.then (upd_putObj0 W.drew D _) (fun i hi e => by simp at hD; omega)⟩
    · have c1 : W.cell? ⟨w.heap.size + 1, 0, none⟩ = some (.int .i64 (left : Nat)) := by simp [World.cell?, hbl]
      have hb : polysS s = .bad (linesOf s).length 12 := by
        have : polysS s = twoN [] left (qs.map (·.2)) (linesOf s).length := hs1
        rw [this, twoN, if_neg hl0]
      rw [← hcount.out] at hb
      have HB := Lib.hid hb
      have HC1 := Lib.hid c1
      have hl0' : (((left : Nat) : Int) == 0) = false := by rw [beq_eq_false_iff_ne]; omega
      clear hs1 hbo hbl hsp hl64 hlq hpl hqq c0 c1 hb hcount hl0
      generalize Lib.countByte s 10 = cb at *
      refine wpAt_of (n := 5) (wpIn_mono (Q := doneQ D Tryd.prog Tryd.f14 fun en w' => polysQ (polysS s) w en w') (wpIn_wide.2 ?_) (fun _ _ _ h => doneQ_post h))
      go_wp2_with fail
      refine wp_region_tree 5 (OT.sures [0, 1, 2] (.run 3 (.sure 4 .nil))) (fun w' => Upd noBlk W w') (by kernel_rfl) (by kernel_rfl) (fun c a d v w h => by cases d <;> exact h) (Upd.refl _ _).drew ?_
      simp only [OT.sures]
      iterate 3 (apply wpT_sure rfl rfl; focus (intro w' hw'; have g1 := hw'.cell HC1.out id; go_simp; rfl))
      refine wpT_run (fun w' => Upd noBlk W w') (fun _ h => h) rfl (fun K hK => ?_)
      go_simp
      refine (hcnt.out _).mono ?_
      rintro e w2 ⟨rfl, rfl⟩
      refine hK _ _ ⟨(Upd.refl _ _).drew, ?_⟩
      clear hK K
      have hwr : IntKind.i64.wrap ((cb : Int) + 1) = (cb : Int) + 1 := IntWalk.i64_in ((cb : Int) + 1) (by omega)
      apply wpT_sure rfl rfl
      focus (intro w' hw'; go_simp; rfl)
      refine wpT_nil ?_
      simp only [List.drop_succ_cons, List.drop_zero]
      go_wp2_with fail
      refine (check_bad _ _ _).mono ?_
      rintro e w4 ⟨rfl, rfl⟩
      refine ⟨rfl, hk, ?_⟩
      show polysQ (polysS s) w _ _
      rw [HB.out]
      exact ⟨rfl, hup.drew.then (upd_putObj0 W.drew D _) (fun i hi e => by simp at hD; omega)⟩
  case stop =>
    intro D c pre W hD hS h hk
    exact h.elim
  case panic =>
    rintro D chain W hD ⟨place, e, rfl, hb, hup⟩ hk
    refine ⟨by simp, .inl ⟨_, _, rfl, run_takeDeferred hk, ?_⟩⟩
    show polysQ (polysS s) w (.panicked (fail place e)) _
    rw [hb]
    exact ⟨rfl, hup.then (upd_putObj0 W D _) (fun i hi e => by simp at hD; omega)⟩
end Go.Proofs.YtojdgdeefhndiaaDoor
