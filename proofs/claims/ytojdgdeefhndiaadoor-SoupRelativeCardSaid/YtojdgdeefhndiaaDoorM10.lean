/- Walks of the program of the polygon files: faces. -/
import Derived.Test.YtojdgdeefhndiaaDoorM9
import Derived.IntWalk
namespace Go.Proofs.YtojdgdeefhndiaaDoor
open Go Go.RowKit Sp
set_option maxRecDepth 100000
attribute [local go_sem] Oper.semAt_some

/-- What holds between the rounds of faces. -/
def FaceI (w : World) (_s : Bytes) (pre : List (Nat × List Bytes)) (W : World) : Prop :=
  ∃ (vo vc : Value) (cs : List Pt) (qs : List (Value × Poly)), W.heap[w.heap.size]? = some (.cells #[vo] 25) ∧ W.heap[w.heap.size + 1]? = some (.cells #[vc] 30) ∧
    OwnQs (w.heap.size + 2) W vo qs ∧ OwnPts (w.heap.size + 2) W vc cs ∧ Upd noBlk w W ∧ (∀ rest, oneN (pre ++ rest) [] [] = oneN rest cs (qs.map (·.2))) ∧ cs.length ≤ pre.length ∧ qs.length ≤ 65536 ∧
    (∀ q, q ∈ qs → ∀ g, q.1.ownBlock = some g → vc.ownBlock ≠ some g)
/-- How faces may be left by a panic. -/
def FaceP (w : World) (s : Bytes) (chain : List PanicEntry) (W : World) : Prop :=
  ∃ place e : Nat, chain = fail place e ∧ oneN (linesAll s) [] [] = .bad place e ∧ Upd noBlk w W
theorem OwnPts.grown {X Y : World} {B base : Nat} {row : Option Nat} {v : Value} {l : List Pt} (h : OwnPts base X v l) (hg : X.grownBy Y row) (hr : ∀ r, row = some r → B ≤ r ∧ ∃ o : Obj, X.heap[r]? = some o ∧ o.isCells = false) : OwnPts base Y v l :=
  ownsRow_keep h (fun g hgb => by obtain ⟨cs, h1⟩ := h.blk hgb; exact (grown_cells h1 hg hr).trans h1.symm)
theorem OwnQs.grown {X Y : World} {B base : Nat} {row : Option Nat} {v : Value} {qs : List (Value × Poly)} (h : OwnQs base X v qs) (hg : X.grownBy Y row) (hr : ∀ r, row = some r → B ≤ r ∧ ∃ o : Obj, X.heap[r]? = some o ∧ o.isCells = false) : OwnQs base Y v qs := by
  obtain ⟨h2, h3⟩ := h
  exact ⟨fun q hq => OwnPts.grown (h2 q hq) hg hr, ownsRow_keep h3 (fun g hgb => by obtain ⟨cs, h1⟩ := ownsRow_type h3 hgb; exact (grown_cells h1 hg hr).trans h1.symm)⟩

theorem face_v {w : World} {s : Bytes} {pre : List (Nat × List Bytes)} {W w2 w5 : World} {vo vc : Value} {cs : List Pt} {qs : List (Value × Poly)} {i g cap : Nat} {ws : List Bytes} {p : Pt}
    (hbo : W.heap[w.heap.size]? = some (.cells #[vo] 25)) (hbc : W.heap[w.heap.size + 1]? = some (.cells #[vc] 30)) (hoo : OwnQs (w.heap.size + 2) W vo qs) (hoc : OwnPts (w.heap.size + 2) W vc cs)
    (hup : Upd noBlk w W) (hsp : ∀ rest, oneN (pre ++ rest) [] [] = oneN rest cs (qs.map (·.2))) (hcl : cs.length ≤ pre.length) (hpl : qs.length ≤ 65536) (hav : ∀ q, q ∈ qs → ∀ g, q.1.ownBlock = some g → vc.ownBlock ≠ some g)
    (hcs : cornerS ws = .ok p) (u2 : Upd noBlk W w2) (v5 : Upd (fun k => vc.ownBlock = some k) w2 w5) (o5 : OwnPts (w.heap.size + 2) w5 (.slice (some ⟨g, 0, none⟩) (cs.length + 1) cap) (cs ++ [p])) (hb5 : w5.heap[w.heap.size + 1]? = some (.cells #[vc] 30))
    (hat : vc.ownBlock = some g ∨ g = w2.heap.size + 1) :
    KeepsOthers W (w5.setCell ⟨w.heap.size + 1, 0, none⟩ (.slice (some ⟨g, 0, none⟩) (cs.length + 1) cap)) ∧ KpS w.heap.size W (w5.setCell ⟨w.heap.size + 1, 0, none⟩ (.slice (some ⟨g, 0, none⟩) (cs.length + 1) cap)) ∧
    FaceI w s (pre ++ [(i, wV :: ws)]) (w5.setCell ⟨w.heap.size + 1, 0, none⟩ (.slice (some ⟨g, 0, none⟩) (cs.length + 1) cap)) := by
  have hN : w.heap.size + 1 < W.heap.size := lt_of_heap hbc
  have hU5 : Upd (fun k => vc.ownBlock = some k) W w5 := (u2.mono (fun _ _ h => h.elim)).trans v5
  have hU : Upd (fun k => vc.ownBlock = some k ∨ k = w.heap.size + 1) W (w5.setCell ⟨w.heap.size + 1, 0, none⟩ (.slice (some ⟨g, 0, none⟩) (cs.length + 1) cap)) := (hU5.mono (fun _ _ h => .inl h)).setCell (fun _ => .inr rfl) _
  have hlt : ∀ k, vc.ownBlock = some k → w.heap.size + 2 ≤ k := fun k hk => (hoc.lt k hk).1
  obtain ⟨k1, k2⟩ := round_of_upd (N0 := w.heap.size) hU (fun k hk hl => by
    rcases hk with hk | rfl
    · obtain ⟨c, hc⟩ := hoc.blk hk
      exact ⟨by have := hlt k hk; omega, c, _, _, hc, by decide⟩
    · exact ⟨by omega, _, _, _, hbc, by decide⟩) hup.size
  refine ⟨k1, k2, vo, _, cs ++ [p], qs, ?_, (heap_setCell_eq _ hb5).trans rfl, ?_, ?_, hup.then hU (fun k hk h => ?_), fun rest => ?_, ?_, hpl, fun q hq g' hg' e => ?_⟩
  · exact hU.heap hbo (by rintro (h | h); exact OwnPts.not_blk hoc hbo (by decide) h; omega)
  · refine hoo.keep hU (fun k hk e => ?_) (fun q hq k hk e => ?_)
    · rcases hk with hk | rfl
      · obtain ⟨c1, h1⟩ := hoc.blk hk
        obtain ⟨c2, h2⟩ := ownsRow_type hoo.2 e
        rw [h1] at h2; cases h2
      · have := (hoo.2.lt _ e).1; omega
    · rcases hk with hk | rfl
      · exact hav q hq k e hk
      · have := ((hoo.1 q hq).lt _ e).1; omega
  · exact ownsRow_setCell_other o5 (OwnPts.not_blk o5 hb5 (by decide)) _
  · rcases h with h | rfl
    · have := hlt k h; omega
    · omega
  · rw [List.append_assoc, hsp, List.singleton_append, oneN_v, hcs]
  · rw [List.length_append, List.length_append]; simp; omega
  · have hgg : g = g' := by simpa [Value.ownBlock] using e
    subst hgg
    rcases hat with h | h
    · exact hav q hq g hg' h
    · have := ((hoo.1 q hq).lt g hg').2; have := u2.size; omega

theorem face_f {w : World} {s : Bytes} {pre : List (Nat × List Bytes)} {W wr w6 : World} {vo vc pv : Value} {cs pts : List Pt} {qs : List (Value × Poly)} {i g cap : Nat} {ws : List Bytes}
    (hbo : W.heap[w.heap.size]? = some (.cells #[vo] 25)) (hbc : W.heap[w.heap.size + 1]? = some (.cells #[vc] 30)) (hoo : OwnQs (w.heap.size + 2) W vo qs) (hoc : OwnPts (w.heap.size + 2) W vc cs)
    (hup : Upd noBlk w W) (hsp : ∀ rest, oneN (pre ++ rest) [] [] = oneN rest cs (qs.map (·.2))) (hcl : cs.length ≤ pre.length) (hpl : qs.length < 65536) (hav : ∀ q, q ∈ qs → ∀ g, q.1.ownBlock = some g → vc.ownBlock ≠ some g)
    (hfs : faceS cs ws = .ok pts) (hop : OwnPts W.heap.size wr pv pts) (hu : Upd noBlk W wr) (v6 : Upd (fun k => vo.ownBlock = some k) wr w6) (o6 : OwnQs (w.heap.size + 2) w6 (.slice (some ⟨g, 0, none⟩) (qs.length + 1) cap) (qs ++ [(pv, (pts, i))]))
    (hb6 : w6.heap[w.heap.size]? = some (.cells #[vo] 25)) :
    KeepsOthers W (w6.setCell ⟨w.heap.size, 0, none⟩ (.slice (some ⟨g, 0, none⟩) (qs.length + 1) cap)) ∧ KpS w.heap.size W (w6.setCell ⟨w.heap.size, 0, none⟩ (.slice (some ⟨g, 0, none⟩) (qs.length + 1) cap)) ∧
    FaceI w s (pre ++ [(i, wF :: ws)]) (w6.setCell ⟨w.heap.size, 0, none⟩ (.slice (some ⟨g, 0, none⟩) (qs.length + 1) cap)) := by
  have hN : w.heap.size + 1 < W.heap.size := lt_of_heap hbc
  have hU6 : Upd (fun k => vo.ownBlock = some k) W w6 := (hu.mono (fun _ _ h => h.elim)).trans v6
  have hU : Upd (fun k => vo.ownBlock = some k ∨ k = w.heap.size) W (w6.setCell ⟨w.heap.size, 0, none⟩ (.slice (some ⟨g, 0, none⟩) (qs.length + 1) cap)) := (hU6.mono (fun _ _ h => .inl h)).setCell (fun _ => .inr rfl) _
  have hlt : ∀ k, vo.ownBlock = some k → w.heap.size + 2 ≤ k := fun k hk => (hoo.2.lt k hk).1
  have hty : ∀ k, (vo.ownBlock = some k ∨ k = w.heap.size) → k < W.heap.size → w.heap.size ≤ k ∧ ∃ c T fr, W.heap[k]? = some (.cells c T fr) ∧ T ≠ 9 ∧ T ≠ 35 := fun k hk hl => by
    rcases hk with hk | rfl
    · obtain ⟨c, hc⟩ := ownsRow_type hoo.2 hk
      exact ⟨by have := hlt k hk; omega, c, _, _, hc, by decide, by decide⟩
    · exact ⟨by omega, _, _, _, hbo, by decide, by decide⟩
  obtain ⟨k1, k2⟩ := round_of_upd (N0 := w.heap.size) hU (fun k hk hl => by obtain ⟨a, c, T, fr, h1, h2, _⟩ := hty k hk hl; exact ⟨a, c, T, fr, h1, h2⟩) hup.size
  refine ⟨k1, k2, _, vc, cs, qs ++ [(pv, (pts, i))], (heap_setCell_eq _ hb6).trans rfl, ?_, ?_, ?_, hup.then hU (fun k hk h => ?_), fun rest => ?_, ?_, ?_, fun q hq g' hg' e => ?_⟩
  · refine hU.heap hbc ?_
    rintro (h | h)
    · obtain ⟨c, hc⟩ := ownsRow_type hoo.2 h
      rw [hbc] at hc; cases hc
    · omega
  · refine o6.keep ((Upd.refl (fun k => k = w.heap.size) w6).setCell (p := ⟨w.heap.size, 0, none⟩) (fun _ => rfl) _) (fun k hk e => ?_) (fun q hq k hk e => ?_)
    · subst hk; have := (o6.2.lt _ e).1; omega
    · subst hk; have := ((o6.1 q hq).lt _ e).1; omega
  · exact ownsRow_other hoc hU (fun k hk hl => by obtain ⟨_, c, T, fr, h1, _, h2⟩ := hty k hk hl; exact ⟨c, T, fr, h1, h2⟩)
  · rcases h with h | rfl
    · have := hlt k h; omega
    · omega
  · rw [List.append_assoc, hsp, List.singleton_append, oneN_f, hfs]
    simp only [List.length_map, List.map_append, List.map_cons, List.map_nil]
    rw [if_neg (by omega)]
  · rw [List.length_append]; omega
  · rw [List.length_append]; simp; omega
  · rw [List.mem_append, List.mem_singleton] at hq
    rcases hq with hq | rfl
    · exact hav q hq g' hg' e
    · have h1 := (World.ownsRow.lt hop g' hg').1
      have h2 := (World.ownsRow.lt hoc g' e).2
      omega

set_option maxHeartbeats 4000000 in
theorem faces_any (s : Bytes) (hs : s.length < 4294967281) (w : World) (hsh : w.ShapedOpen Tryd.prog) :
    Calls Tryd.prog 15 #[.string (bs s)] w fun en w' => polysQ (oneN (linesAll s) [] []) w en w' := by
  refine calls_of_wpAt (n := 5) Tryd.func15 rfl ?_
  simp only [Tryd.ntmps15, List.size_toArray, List.length_cons, List.length_nil, Nat.reduceAdd, Nat.reduceSub, Array.replicate_succ, Array.replicate_zero, List.push_toArray, List.append_toArray, List.nil_append, List.cons_append]
  refine wpAt_seq (wpAt_of (n := 5) ?_)
  gi_wp2_with fail
  refine wpAt_seq (wpAt_of (n := 5) ?_)
  gi_wp2_with fail
  refine wpAt_seq (wpAt_of (n := 5) ?_)
  gi_wp2_with fail
  refine wpAt_seq (wpAt_seq (wpAt_of (n := 5) ?_))
  gi_wp2_with fail
  refine ⟨trivial, (callsIn_wide.2 (lines_any s _)).mono ?_⟩
  rintro e w1 ⟨rfl, rfl⟩
  gi_wp2_with fail
  refine wpAt_block (wpAt_range (n := 5) (rangeP_core (F := Fence.wide) (n := 5) rfl (by omega) Tryd.func15 trivial (gf := 31) (lb := #[.pointer (some ⟨w.heap.size + 2, 0, none⟩)]) rfl trivial (enters_of Tryd.func31 (by kernel_rfl) rfl)
    (Ar := ArL) (Kp := KpS w.heap.size) (lines1_seq s hs 4 w.heap.size (w.heap.size + 2) w _ hsh rfl ?q1 ?q2 ?q3) KpS.trans (fun W l o o' hl ho hc => kps_putObj W l o o' (by simp at hl; omega) ho hc) (Below.refl _ _)
    (fun x args W h => by obtain ⟨A, rfl, _⟩ := h; rfl) (fun x args A B row h => ArL.keep h)
    (FaceI w s) (fun _ _ _ => False) (FaceP w s) ?hI ?hIx ?h0 (fun args => { tmps := #[.string (bs s), undef, .slice none 0 0, .pointer (some ⟨w.heap.size, 0, none⟩), .pointer (some ⟨w.heap.size + 1, 0, none⟩), args.getD 0 undef, args.getD 1 undef, undef, undef, undef, .string (bs s), .func (.func 31) #[] #[.pointer (some ⟨w.heap.size + 2, 0, none⟩)], args.getD 0 undef, args.getD 1 undef, undef, undef, undef, undef, undef, undef, undef, undef, undef, undef, undef, undef, undef, undef, undef, undef, undef, undef, undef, undef, undef, undef, undef, undef, undef, undef, undef, undef, undef, undef, undef, undef, undef, undef, undef, undef, undef, undef, undef, undef, undef, undef, undef, undef, undef, undef, undef, undef, undef, undef, undef, undef, undef, undef, undef, undef, undef, undef, undef, undef, undef, undef, undef, undef, undef], defers := [] }) ?assign ?body ?done ?stop ?panic))
  case q1 => exact fun k hk => ((heap_alloc_old _ _ (by simp; omega)).trans (heap_alloc_old _ _ (by simp; omega))).trans (heap_alloc_old _ _ hk)
  case q2 => simp; omega
  case q3 => have h := heap_alloc_new ((w.alloc (.cells #[.slice none 0 0] 25)).alloc (.cells #[.slice none 0 0] 30)) (.cells #[.string (bs s)] 9); simpa using h
  case hI =>
    rintro pre X Y row ⟨vo, vc, cs, qs, h1, h2, h3, h4, h5, h6⟩ hg hr
    exact ⟨vo, vc, cs, qs, grown_cells h1 hg hr, grown_cells h2 hg hr, h3.grown hg hr, h4.grown hg hr, grown_upd h5 (by simp; omega) hg hr, h6⟩
  case hIx => exact fun _ _ X Y row h hg hr => h
  case h0 =>
    refine ⟨_, _, [], [], heap_alloc_keep _ (heap_alloc_keep _ (heap_alloc_new _ _)), ?_, ⟨fun q h => (by cases h), World.ownsRow_nil _ _ _ _⟩, OwnPts.nil _ _, (((Upd.refl _ _).alloc _).alloc _).alloc _, fun _ => rfl, Nat.zero_le _, Nat.zero_le _, fun q h => (by cases h)⟩
    have h := heap_alloc_keep (.cells #[.string (bs s)] 9) (heap_alloc_new (w.alloc (.cells #[.slice none 0 0] 25)) (.cells #[.slice none 0 0] 30))
    simpa using h
  case assign =>
    intro l x args W K h hK
    obtain ⟨A, rfl, hrd⟩ := h
    gi_wp2_with fail
    exact hK
  case body =>
    rintro l pre x args W ⟨vo, vc, cs, qs, hbo, hbc, hoo, hoc, hup, hsp, hcl, hpl, hav⟩ har hok
    obtain ⟨A, rfl, hrd⟩ := har
    obtain ⟨rest, hr⟩ := hok
    obtain ⟨i, ww⟩ := x
    have hmem : (i, ww) ∈ linesAll s := by rw [← hr]; simp
    obtain ⟨ln, hln, hww, hne, hi1, hi2⟩ := numbered_mem _ _ _ hmem
    simp only at hrd hww hne hi1 hi2
    have hll := (linesOf_len s).1
    have hlb := (linesOf_len s).2 ln hln
    have hwl := wordsOf_len ln
    rw [← hww] at hwl
    have hsh2 : short ww := fun x hx => by have := hwl.2 x hx; omega
    have hwn : ww.length ≤ 4294967295 := by omega
    have hcb : cs.length ≤ s.length + 1 := by
      have h1 : (pre ++ [(i, ww)]).length ≤ (linesAll s).length := by rw [← hr]; simp
      have h2 : ∀ (ls : List Bytes) (j : Nat), (numbered j ls).length ≤ ls.length := by
        intro ls
        induction ls with
        | nil => intro j; simp [numbered]
        | cons a r ih => intro j; rw [numbered]; split <;> simp [ih] <;> exact Nat.le_trans (ih _) (by omega)
      have h3 : (linesAll s).length ≤ (linesOf s).length := h2 _ _
      simp only [List.length_append, List.length_cons, List.length_nil] at h1
      omega
    have hspx : oneN (linesAll s) [] [] = oneN ((i, ww) :: rest) cs (qs.map (·.2)) := by
      have := hsp ((i, ww) :: rest)
      rw [← this, ← hr, List.append_assoc]; rfl
    have hib : i ≤ s.length + 1 := by omega
    obtain ⟨wd, ws, rfl⟩ : ∃ wd ws, ww = wd :: ws := by
      cases ww with
      | nil => exact absurd rfl hne
      | cons a r => exact ⟨a, r, rfl⟩
    obtain ⟨b, off, rfl, hc⟩ := hrd (by simp)
    have c0 : W.cell? ⟨b, off, none⟩ = some (.string (bs wd)) := hc 0 (by simp)
    have hrd1 : RdW W (some ⟨b, off + 1, none⟩) ws := fun h0 => ⟨b, off + 1, rfl, fun j hj => by
      have := hc (j + 1) (by simp; omega)
      rw [Nat.add_assoc, Nat.add_comm 1 j]
      simpa using this⟩
    have HSP : Hid (∀ rest, oneN (pre ++ rest) [] [] = oneN rest cs (qs.map (·.2))) := hsp
    have HX := Lib.hid hspx
    have HRD := Lib.hid hrd1
    have HSH := Lib.hid hsh2
    have HBO := Lib.hid hbo
    have HBC := Lib.hid hbc
    have HOO := Lib.hid hoo
    have HOC := Lib.hid hoc
    have HUP := Lib.hid hup
    have HPRE := Lib.hid hr
    have HAV := Lib.hid hav
    clear hav
    clear hmem hln hww hne hi1 hi2 hll hlb hwl hsp hspx hrd hrd1 hsh2 hbo hbc hoo hoc hup hr hc
    simp only [pair0, pair1]
    by_cases hv : wd = wV
    · subst hv
      have e1 : ((bs wV).toList == [118]) = true := by rw [bs_toList]; rfl
      cases ws with
      | nil =>
        have hb : Hid (oneN (linesAll s) [] [] = .bad i 10) := by show _ = _; rw [HX.out, oneN_v]; rfl
        have hcor : Hid (∀ w', Calls Tryd.prog 23 #[.slice (some ⟨b, off, none⟩) 0 0, .int .i64 i] w' fun en w'' => cornerQ (.bad 10) i w' en w'') := fun w' => corner_any (some ⟨b, off, none⟩) 0 [] i (by simp) (fun x hx => by cases hx) w' (fun h => absurd h (Nat.lt_irrefl _))
        gi_wp2_with fail
        refine wpIn_region_tree 6 (OT.sures [0, 1, 2, 3] (.run 4 (.run 5 .nil))) (fun w' => Upd noBlk W w') (by kernel_rfl) (by kernel_rfl) (by kernel_rfl) (fun ⟨a, w, h⟩ => h) (fun c a d v w h => by cases d <;> exact h) (Upd.refl _ _).drew ?_
        simp only [OT.sures]
        iterate 4 (apply wpT_sure rfl rfl; focus (intro w' hw'; have g1 : w'.cell? ⟨w.heap.size + 1, 0, none⟩ = some vc := (by have := hw'.heap HBC.out id; simp [World.cell?, this]); go_simp; rfl))
        refine wpT_run (fun w' => Upd noBlk W w') (fun _ h => h) rfl (fun K hK => ?_)
        go_simp
        refine (hcor.out _).mono ?_
        rintro e w2 ⟨rfl, u2⟩
        have U2 : Upd noBlk W w2 := (Upd.refl _ _).drew.trans u2
        obtain ⟨k1, k2⟩ := round_of_upd (N0 := w.heap.size) U2 (fun k hk _ => hk.elim) HUP.out.size
        exact ⟨rfl, k1, i, 10, rfl, hb.out, HUP.out.trans U2⟩
      | cons y ys =>
        have hle : (1 : Int) ≤ ((ys.length : Nat) : Int) + 1 + 1 := by omega
        have hcor : Hid (∀ w', Upd noBlk W w' → Calls Tryd.prog 23 #[.slice (some ⟨b, off + 1, none⟩) (ys.length + 1) (ys.length + 1), .int .i64 i] w' fun en w'' => cornerQ (cornerS (y :: ys)) i w' en w'') := fun w' hu =>
          corner_any (some ⟨b, off + 1, none⟩) (ys.length + 1) (y :: ys) i (by simp only [List.length_cons] at hwn ⊢; omega) (fun x hx => HSH.out x (List.mem_cons_of_mem _ hx)) w' (HRD.out.keep hu)
        gi_wp2_with fail
        refine wpIn_region_tree 6 (OT.sures [0, 1, 2, 3] (.run 4 (.run 5 .nil))) (fun w' => Upd noBlk W w') (by kernel_rfl) (by kernel_rfl) (by kernel_rfl) (fun ⟨a, w, h⟩ => h) (fun c a d v w h => by cases d <;> exact h) (Upd.refl _ _).drew ?_
        simp only [OT.sures]
        iterate 4 (apply wpT_sure rfl rfl; focus (intro w' hw'; have g1 : w'.cell? ⟨w.heap.size + 1, 0, none⟩ = some vc := (by have := hw'.heap HBC.out id; simp [World.cell?, this]); go_simp; rfl))
        refine wpT_run (fun w' => Upd noBlk W w') (fun _ h => h) rfl (fun K hK => ?_)
        go_simp
        refine (hcor.out _ (Upd.refl _ _).drew).mono ?_
        rintro e w2 hq
        rcases hcs : cornerS (y :: ys) with p | e0
        · rw [hcs] at hq
          obtain ⟨rfl, u2⟩ := hq
          have U2 : Hid (Upd noBlk W w2) := (Upd.refl _ _).drew.trans u2
          clear u2
          refine hK _ _ ⟨U2.out, ?_⟩
          clear hK K
          refine wpT_run (fun w' => Upd noBlk W w') (fun _ h => h) rfl (fun K hK => ?_)
          unfold ptV
          go_simp
          refine hK _ _ ⟨U2.out.alloc _, ?_⟩
          clear hK K
          refine wpT_nil ?_
          obtain ⟨g, cap, w5, r5, o5, v5, hat⟩ := append_ptB (base := w.heap.size + 2) (by have := lt_of_heap HBC.out; have := U2.out.size; omega) (HOC.out.upd U2.out) p (by omega)
          have hbc2 := U2.out.heap HBC.out id
          have hbc5 := v5.heap hbc2 (OwnPts.not_blk (HOC.out.upd U2.out) hbc2 (by decide))
          have cc : w5.cell? ⟨w.heap.size + 1, 0, none⟩ = some vc := by simp [World.cell?, hbc5]
          have zz : w5.frozen? ⟨w.heap.size + 1, 0, none⟩ = false := by simp [World.frozen?, hbc5]
          have HB5 := Lib.hid hbc5
          have R5 := Lib.hid r5
          have O5 := Lib.hid o5
          have V5 := Lib.hid v5
          clear hbc2 hbc5 r5 o5 v5
          simp only [List.drop_succ_cons, List.drop_zero]
          go_wp2_with (at_builtin; refine wpList_append_run rfl _ _ _ rfl rfl rfl R5.out ?_)
          exact face_v HBO.out HBC.out HOO.out HOC.out HUP.out HSP.out hcl hpl HAV.out hcs U2.out V5.out O5.out HB5.out hat
        · rw [hcs] at hq
          obtain ⟨rfl, u2⟩ := hq
          have hb : oneN (linesAll s) [] [] = .bad i e0 := by rw [HX.out, oneN_v, hcs]
          have U2 : Upd noBlk W w2 := (Upd.refl _ _).drew.trans u2
          obtain ⟨k1, k2⟩ := round_of_upd (N0 := w.heap.size) U2 (fun k hk _ => hk.elim) HUP.out.size
          exact ⟨rfl, k1, i, e0, rfl, hb, HUP.out.trans U2⟩
    · by_cases hf : wd = wF
      · subst hf
        have e1 : ((bs wF).toList == [118]) = false := by rw [bs_toList]; rfl
        have e2 : ((bs wF).toList == [102]) = true := by rw [bs_toList]; rfl
        cases ws with
        | nil =>
          have hb : Hid (oneN (linesAll s) [] [] = .bad i 10) := by show _ = _; rw [HX.out, oneN_f]; rfl
          have hnum : Hid (∀ w', Calls Tryd.prog 25 #[.slice (some ⟨b, off, none⟩) 0 0, .int .i64 3, .int .i64 64, .int .i64 i] w' fun en w'' => NumsQ (.bad 10) i w' en w'') := fun w' => numbers_any (some ⟨b, off, none⟩) 0 [] 3 64 i (by omega) (by omega) (by simp) (fun x hx => by cases hx) w' (fun h => absurd h (Nat.lt_irrefl _))
          gi_wp2_with fail
          refine ⟨trivial, (CallsIn.inRound l (callsIn_wide.2 (hnum.out _))).mono ?_⟩
          rintro e w2 ⟨rfl, u2⟩
          have U2 : Upd noBlk W w2 := ((Upd.refl _ _).alloc _).trans u2
          obtain ⟨k1, k2⟩ := round_of_upd (N0 := w.heap.size) U2 (fun k hk _ => hk.elim) HUP.out.size
          exact ⟨rfl, k1, i, 10, rfl, hb.out, HUP.out.trans U2⟩
        | cons y ys =>
          have hle : (1 : Int) ≤ ((ys.length : Nat) : Int) + 1 + 1 := by omega
          have hnum : Hid (∀ w', Upd noBlk W w' → Calls Tryd.prog 25 #[.slice (some ⟨b, off + 1, none⟩) (ys.length + 1) (ys.length + 1), .int .i64 3, .int .i64 64, .int .i64 i] w' fun en w'' => NumsQ (numsP 3 64 (y :: ys)) i w' en w'') := fun w' hu =>
            numbers_any (some ⟨b, off + 1, none⟩) (ys.length + 1) (y :: ys) 3 64 i (by omega) (by omega) (by simp only [List.length_cons] at hwn ⊢; omega) (fun x hx => HSH.out x (List.mem_cons_of_mem _ hx)) w' (HRD.out.keep hu)
          gi_wp2_with fail
          refine ⟨trivial, (CallsIn.inRound l (callsIn_wide.2 (hnum.out _ ((Upd.refl _ _).alloc _)))).mono ?_⟩
          rintro e w2 hq
          rcases hns : numsP 3 64 (y :: ys) with zs | e0
          · rw [hns] at hq
            obtain ⟨vz, rfl, oz, u2⟩ := hq
            obtain ⟨hz1, hz2, hz3, hz4⟩ := numsP_ok hns
            have hzl : zs.length = ys.length + 1 := by rw [hz1]; simp
            have hz2' : 3 ≤ zs.length := by simp only [List.length_cons] at hz2; omega
            have hz3' : zs.length ≤ 64 := by simp only [List.length_cons] at hz3; omega
            obtain ⟨gz, cz, rfl⟩ : ∃ gz cz, vz = .slice (some ⟨gz, 0, none⟩) zs.length cz := by
              rcases oz.2 with ⟨_, h0⟩ | ⟨g, cp, _, rfl, _⟩
              · omega
              · exact ⟨g, cp, rfl⟩
            have HF : Hid (faceS cs (y :: ys) = pick cs zs) := by show _ = _; rw [faceS_nums, hns]
            have HZ4 := Lib.hid hz4
            have U2 : Hid (Upd noBlk (W.alloc (.cells #[.slice none 0 0, .int .i64 i] 32)) w2) := u2
            have UW2 : Hid (Upd noBlk W w2) := ((Upd.refl _ _).alloc _).trans u2
            have HPB : Hid (w2.heap[W.heap.size]? = some (.cells #[.slice none 0 0, .int .i64 i] 32)) := u2.heap (heap_alloc_new _ _) id
            have HOZ := Lib.hid oz
            clear hns hz1 hz2 hz3 hz4 hzl oz u2 hnum
            gi_wp2_with fail
            gi_loopw [9, 37] (fun _ iv wr => ∃ (k : Nat) (pts : List Pt) (pv : Value), iv = .int .i64 k ∧ k ≤ zs.length ∧ pts.length = k ∧ (∀ l', pick cs (zs.drop k) = .ok l' → pick cs zs = .ok (pts ++ l')) ∧ (∀ e, pick cs (zs.drop k) = .bad e → pick cs zs = .bad e) ∧ pv.oneCell' = true ∧ OwnPts W.heap.size wr pv pts ∧ Upd noBlk W wr ∧ wr.heap[W.heap.size]? = some (.cells #[pv, .int .i64 i] 32) ∧ wr.ownsRow (W.heap.size + 1) 3 1 (.slice (some ⟨gz, 0, none⟩) zs.length cz) zs.length (zs.map (Value.int .i64))) (fun _ iv _ => zs.length - (intOf iv).toNat)
            case atStart => exact ⟨0, [], .slice none 0 0, rfl, Nat.zero_le _, rfl, fun l' h => by simpa using h, fun e h => by simpa using h, rfl, OwnPts.nil _ _, UW2.out, HPB.out, by have := HOZ.out; simpa using this⟩
            case round =>
              obtain ⟨k, pts, pv, rfl, hk, hpl', hp1, hp2, hpv, hop, hu, hpb, hoz⟩ := hrel
              have HPL := Lib.hid hpl'
              have HP1 := Lib.hid hp1
              have HP2 := Lib.hid hp2
              have HPV := Lib.hid hpv
              have HOP := Lib.hid hop
              have HU := Lib.hid hu
              have HPB2 := Lib.hid hpb
              have HOZ2 := Lib.hid hoz
              clear hpl' hp1 hp2 hpv hop hu hpb hoz HPB HOZ U2 UW2
              by_cases hkz : k < zs.length
              · have hkz' : ((k : Nat) : Int) < ((zs.length : Nat) : Int) := by omega
                have hdk : zs.drop k = zs[k] :: zs.drop (k + 1) := List.drop_eq_getElem_cons hkz
                have cz0 : wr.cell? ⟨gz, k, none⟩ = some (.int .i64 zs[k]) := by
                  rw [World.ownsRow.cellAt HOZ2.out k (by omega)]; simp [hkz]
                have hzb := HZ4.out zs[k] (List.getElem_mem hkz)
                have hbc2 := HU.out.heap HBC.out id
                have hoc2 := HOC.out.upd HU.out
                have cbc : wr.cell? ⟨w.heap.size + 1, 0, none⟩ = some vc := by simp [World.cell?, hbc2]
                obtain ⟨Ac, capc, rfl⟩ := HOC.out.len
                have HDK := Lib.hid hdk
                have HBC2 := Lib.hid hbc2
                clear hdk hbc2
                generalize zs[k] = z at *
                obtain ⟨hzb1, hzb2⟩ := hzb
                by_cases hzn : z < 0
                · skip
                  by_cases h1 : 1 ≤ (z + ((cs.length : Int) + 1))
                  · by_cases h2 : (z + ((cs.length : Int) + 1)) ≤ (cs.length : Int)
                    · obtain ⟨p, hp, hpk⟩ := pick_ok (cs := cs) (z := z) (r := zs.drop (k + 1)) (by unfold denote; rw [if_pos hzn]; omega) (by unfold denote; rw [if_pos hzn]; omega)
                      unfold denote at hp
                      rw [if_pos hzn] at hp
                      obtain ⟨gc, cc', hvc, kc0, kc1, kc2⟩ := OwnPts.at hoc2 hp
                      rw [show ((z + ((cs.length : Int) + 1)) - 1).toNat = ((z + ((cs.length : Int) + 1))).toNat - 1 by omega] at kc0 kc1 kc2
                      have hpk' := Lib.hid hpk
                      have KC0 := Lib.hid kc0
                      have KC1 := Lib.hid kc1
                      have KC2 := Lib.hid kc2
                      cases hvc
                      have HOC2 := Lib.hid hoc2
                      clear hpk kc0 kc1 kc2 hp hoc2
                      gi_wp2_with fail
                      refine ⟨trivial, (CallsIn.inRound l (callsIn_wide.2 (check_ok _ _ _))).mono ?_⟩
                      rintro e w4 ⟨rfl, rfl⟩
                      gi_wp2_with fail
                      have hwr : IntKind.i64.wrap ((z + ((cs.length : Int) + 1)) - 1) = (z + ((cs.length : Int) + 1)) - 1 := IntWalk.i64_in ((z + ((cs.length : Int) + 1)) - 1) (by omega)
                      have hw0 : 0 ≤ (z + ((cs.length : Int) + 1)) - 1 := by omega
                      have hw1 : (z + ((cs.length : Int) + 1)) - 1 < (cs.length : Int) := by omega
                      refine wpIn_region_tree 8 (OT.sures [0, 1, 2, 3, 4, 5, 6] (.run 7 .nil)) (fun w' => Upd noBlk wr w') (by kernel_rfl) (by kernel_rfl) (by kernel_rfl) (fun ⟨a, w, h⟩ => h) (fun c a d v w h => by cases d <;> exact h) (Upd.refl _ _).drew ?_
                      simp only [OT.sures]
                      iterate 7 (apply wpT_sure rfl rfl; focus (intro w' hw'; have g1 : w'.cell? ⟨w.heap.size + 1, 0, none⟩ = some (.slice (some ⟨gc, 0, none⟩) cs.length capc) := (by have := hw'.heap HBC2.out id; simp [World.cell?, this]); have g2 : w'.cell? ⟨W.heap.size, 0, none⟩ = some pv := (by have := hw'.heap HPB2.out id; simp [World.cell?, this]); have g3 := hw'.cell KC0.out id; have g4 := hw'.cell KC1.out id; have g5 := hw'.cell KC2.out id; go_simp; rfl))
                      refine wpT_run (fun w' => Upd noBlk wr w') (fun _ h => h) rfl (fun K hK => ?_)
                      go_simp
                      refine hK _ _ ⟨((Upd.refl _ _).alloc _).drew, ?_⟩
                      clear hK K
                      refine wpT_nil ?_
                      simp only [List.drop_succ_cons, List.drop_zero]
                      obtain ⟨g, cap, w5, r5, o5, v5, hat⟩ := append_ptB (w := wr.drew) (base := W.heap.size) HU.out.size (HOP.out.upd (Upd.refl _ _).drew) p (by rw [HPL.out]; omega)
                      have hpb5 := v5.heap (b := W.heap.size) HPB2.out (OwnPts.not_blk (HOP.out) HPB2.out (by decide))
                      have cc : w5.cell? ⟨W.heap.size, 0, none⟩ = some pv := by simp [World.cell?, hpb5]
                      have zz : w5.frozen? ⟨W.heap.size, 0, none⟩ = false := by simp [World.frozen?, hpb5]
                      have HB5 := Lib.hid hpb5
                      have R5 := Lib.hid r5
                      have O5 := Lib.hid o5
                      have V5 := Lib.hid v5
                      clear hpb5 r5 o5 v5 hwr hw0 hw1
                      go_wp2_with (at_builtin; refine wpList_append_run rfl _ _ _ rfl rfl rfl R5.out ?_)
                      gi_wp2_with fail
                      have hU5 : Upd noBlk W w5 := (HU.out.drew).then V5.out (fun i hi e => absurd (HOP.out.lt i e).1 (by omega))
                      refine ⟨⟨k + 1, pts ++ [p], .slice (some ⟨g, 0, none⟩) (pts.length + 1) cap, by go_num, hkz, by rw [List.length_append, HPL.out]; rfl, fun l' h => ?_, fun e h => ?_, rfl, ?_, hU5.setCell (fun h => absurd h (Nat.lt_irrefl _)) _, ?_, ?_⟩, by simp [intOf]; omega⟩
                      · rw [List.append_assoc]
                        exact HP1.out (p :: l') (by rw [HDK.out, hpk'.out, h])
                      · exact HP2.out e (by rw [HDK.out, hpk'.out, h])
                      · exact ownsRow_setCell_other O5.out (OwnPts.not_blk O5.out HB5.out (by decide)) _
                      · exact (heap_setCell_eq _ HB5.out).trans rfl
                      · exact ownsRow_setCell_other (ownsRow_other (World.ownsRow.drew HOZ2.out) V5.out (fun k hk _ => by obtain ⟨c, h⟩ := HOP.out.blk hk; exact ⟨c, _, _, h, by decide⟩)) (fun e => by have := (HOZ2.out.lt _ e).1; simp only at this; omega) _
                    · have hpk := pick_bad (cs := cs) (z := z) (r := zs.drop (k + 1)) (by unfold denote; rw [if_pos hzn]; omega)
                      have hb : Hid (oneN (linesAll s) [] [] = .bad i 14) := by show _ = _; rw [HX.out, oneN_f, HF.out, HP2.out 14 (by rw [HDK.out, hpk])]
                      have hd2 : decide ((z + ((cs.length : Int) + 1)) ≤ (cs.length : Int)) = false := by rw [decide_eq_false_iff_not]; exact h2
                      clear hpk h2
                      gi_wp2_with fail
                      refine ⟨trivial, (CallsIn.inRound l (callsIn_wide.2 (check_bad _ _ _))).mono ?_⟩
                      rintro e w4 ⟨rfl, rfl⟩
                      obtain ⟨k1, k2⟩ := round_of_upd (N0 := w.heap.size) HU.out (fun k hk _ => hk.elim) HUP.out.size
                      exact ⟨rfl, k1, i, 14, rfl, hb.out, HUP.out.trans HU.out⟩
                  · have hpk := pick_bad (cs := cs) (z := z) (r := zs.drop (k + 1)) (by unfold denote; rw [if_pos hzn]; omega)
                    have hb : Hid (oneN (linesAll s) [] [] = .bad i 14) := by show _ = _; rw [HX.out, oneN_f, HF.out, HP2.out 14 (by rw [HDK.out, hpk])]
                    have hd2 : decide (1 ≤ (z + ((cs.length : Int) + 1))) = false := by rw [decide_eq_false_iff_not]; exact h1
                    clear hpk h1
                    gi_wp2_with fail
                    refine ⟨trivial, (CallsIn.inRound l (callsIn_wide.2 (check_bad _ _ _))).mono ?_⟩
                    rintro e w4 ⟨rfl, rfl⟩
                    obtain ⟨k1, k2⟩ := round_of_upd (N0 := w.heap.size) HU.out (fun k hk _ => hk.elim) HUP.out.size
                    exact ⟨rfl, k1, i, 14, rfl, hb.out, HUP.out.trans HU.out⟩

                · skip
                  by_cases h1 : 1 ≤ z
                  · by_cases h2 : z ≤ (cs.length : Int)
                    · obtain ⟨p, hp, hpk⟩ := pick_ok (cs := cs) (z := z) (r := zs.drop (k + 1)) (by unfold denote; rw [if_neg hzn]; omega) (by unfold denote; rw [if_neg hzn]; omega)
                      unfold denote at hp
                      rw [if_neg hzn] at hp
                      obtain ⟨gc, cc', hvc, kc0, kc1, kc2⟩ := OwnPts.at hoc2 hp
                      rw [show (z - 1).toNat = (z).toNat - 1 by omega] at kc0 kc1 kc2
                      have hpk' := Lib.hid hpk
                      have KC0 := Lib.hid kc0
                      have KC1 := Lib.hid kc1
                      have KC2 := Lib.hid kc2
                      cases hvc
                      have HOC2 := Lib.hid hoc2
                      clear hpk kc0 kc1 kc2 hp hoc2
                      gi_wp2_with fail
                      refine ⟨trivial, (CallsIn.inRound l (callsIn_wide.2 (check_ok _ _ _))).mono ?_⟩
                      rintro e w4 ⟨rfl, rfl⟩
                      gi_wp2_with fail
                      have hwr : IntKind.i64.wrap (z - 1) = z - 1 := IntWalk.i64_in (z - 1) (by omega)
                      have hw0 : 0 ≤ z - 1 := by omega
                      have hw1 : z - 1 < (cs.length : Int) := by omega
                      refine wpIn_region_tree 8 (OT.sures [0, 1, 2, 3, 4, 5, 6] (.run 7 .nil)) (fun w' => Upd noBlk wr w') (by kernel_rfl) (by kernel_rfl) (by kernel_rfl) (fun ⟨a, w, h⟩ => h) (fun c a d v w h => by cases d <;> exact h) (Upd.refl _ _).drew ?_
                      simp only [OT.sures]
                      iterate 7 (apply wpT_sure rfl rfl; focus (intro w' hw'; have g1 : w'.cell? ⟨w.heap.size + 1, 0, none⟩ = some (.slice (some ⟨gc, 0, none⟩) cs.length capc) := (by have := hw'.heap HBC2.out id; simp [World.cell?, this]); have g2 : w'.cell? ⟨W.heap.size, 0, none⟩ = some pv := (by have := hw'.heap HPB2.out id; simp [World.cell?, this]); have g3 := hw'.cell KC0.out id; have g4 := hw'.cell KC1.out id; have g5 := hw'.cell KC2.out id; go_simp; rfl))
                      refine wpT_run (fun w' => Upd noBlk wr w') (fun _ h => h) rfl (fun K hK => ?_)
                      go_simp
                      refine hK _ _ ⟨((Upd.refl _ _).alloc _).drew, ?_⟩
                      clear hK K
                      refine wpT_nil ?_
                      simp only [List.drop_succ_cons, List.drop_zero]
                      obtain ⟨g, cap, w5, r5, o5, v5, hat⟩ := append_ptB (w := wr.drew) (base := W.heap.size) HU.out.size (HOP.out.upd (Upd.refl _ _).drew) p (by rw [HPL.out]; omega)
                      have hpb5 := v5.heap (b := W.heap.size) HPB2.out (OwnPts.not_blk (HOP.out) HPB2.out (by decide))
                      have cc : w5.cell? ⟨W.heap.size, 0, none⟩ = some pv := by simp [World.cell?, hpb5]
                      have zz : w5.frozen? ⟨W.heap.size, 0, none⟩ = false := by simp [World.frozen?, hpb5]
                      have HB5 := Lib.hid hpb5
                      have R5 := Lib.hid r5
                      have O5 := Lib.hid o5
                      have V5 := Lib.hid v5
                      clear hpb5 r5 o5 v5 hwr hw0 hw1
                      go_wp2_with (at_builtin; refine wpList_append_run rfl _ _ _ rfl rfl rfl R5.out ?_)
                      gi_wp2_with fail
                      have hU5 : Upd noBlk W w5 := (HU.out.drew).then V5.out (fun i hi e => absurd (HOP.out.lt i e).1 (by omega))
                      refine ⟨⟨k + 1, pts ++ [p], .slice (some ⟨g, 0, none⟩) (pts.length + 1) cap, by go_num, hkz, by rw [List.length_append, HPL.out]; rfl, fun l' h => ?_, fun e h => ?_, rfl, ?_, hU5.setCell (fun h => absurd h (Nat.lt_irrefl _)) _, ?_, ?_⟩, by simp [intOf]; omega⟩
                      · rw [List.append_assoc]
                        exact HP1.out (p :: l') (by rw [HDK.out, hpk'.out, h])
                      · exact HP2.out e (by rw [HDK.out, hpk'.out, h])
                      · exact ownsRow_setCell_other O5.out (OwnPts.not_blk O5.out HB5.out (by decide)) _
                      · exact (heap_setCell_eq _ HB5.out).trans rfl
                      · exact ownsRow_setCell_other (ownsRow_other (World.ownsRow.drew HOZ2.out) V5.out (fun k hk _ => by obtain ⟨c, h⟩ := HOP.out.blk hk; exact ⟨c, _, _, h, by decide⟩)) (fun e => by have := (HOZ2.out.lt _ e).1; simp only at this; omega) _
                    · have hpk := pick_bad (cs := cs) (z := z) (r := zs.drop (k + 1)) (by unfold denote; rw [if_neg hzn]; omega)
                      have hb : Hid (oneN (linesAll s) [] [] = .bad i 14) := by show _ = _; rw [HX.out, oneN_f, HF.out, HP2.out 14 (by rw [HDK.out, hpk])]
                      have hd2 : decide (z ≤ (cs.length : Int)) = false := by rw [decide_eq_false_iff_not]; exact h2
                      clear hpk h2
                      gi_wp2_with fail
                      refine ⟨trivial, (CallsIn.inRound l (callsIn_wide.2 (check_bad _ _ _))).mono ?_⟩
                      rintro e w4 ⟨rfl, rfl⟩
                      obtain ⟨k1, k2⟩ := round_of_upd (N0 := w.heap.size) HU.out (fun k hk _ => hk.elim) HUP.out.size
                      exact ⟨rfl, k1, i, 14, rfl, hb.out, HUP.out.trans HU.out⟩
                  · have hpk := pick_bad (cs := cs) (z := z) (r := zs.drop (k + 1)) (by unfold denote; rw [if_neg hzn]; omega)
                    have hb : Hid (oneN (linesAll s) [] [] = .bad i 14) := by show _ = _; rw [HX.out, oneN_f, HF.out, HP2.out 14 (by rw [HDK.out, hpk])]
                    have hd2 : decide (1 ≤ z) = false := by rw [decide_eq_false_iff_not]; exact h1
                    clear hpk h1
                    gi_wp2_with fail
                    refine ⟨trivial, (CallsIn.inRound l (callsIn_wide.2 (check_bad _ _ _))).mono ?_⟩
                    rintro e w4 ⟨rfl, rfl⟩
                    obtain ⟨k1, k2⟩ := round_of_upd (N0 := w.heap.size) HU.out (fun k hk _ => hk.elim) HUP.out.size
                    exact ⟨rfl, k1, i, 14, rfl, hb.out, HUP.out.trans HU.out⟩

              · have hfs : Hid (faceS cs (y :: ys) = .ok pts) := by
                  show _ = _
                  have := HP1.out [] (by rw [List.drop_eq_nil_of_le (by omega)]; rfl)
                  rw [HF.out, this, List.append_nil]
                have hkz' : ¬ ((k : Nat) : Int) < ((zs.length : Nat) : Int) := by omega
                have hbo2 := HU.out.heap HBO.out id
                obtain ⟨Ao, capo, rfl⟩ := HOO.out.len
                have cbo : wr.cell? ⟨w.heap.size, 0, none⟩ = some (.slice Ao qs.length capo) := by simp [World.cell?, hbo2]
                have HBO2 := Lib.hid hbo2
                clear hbo2
                by_cases hq6 : qs.length < 65536
                · have hq6' : ((qs.length : Nat) : Int) < 65536 := by omega
                  have hoo2 : OwnQs (w.heap.size + 2) wr (.slice Ao qs.length capo) qs := HOO.out.keep HU.out (fun k hk => hk.elim) (fun q hq k hk => hk.elim)
                  obtain ⟨g, cap, w6, r6, o6, v6, _⟩ := append_polyQ (w := wr) (base := w.heap.size + 2) (q := (pts, i)) (by have := lt_of_heap HBC.out; have := HU.out.size; omega) hoo2 (ownsRow_base HOP.out (by have := lt_of_heap HBC.out; omega)) (by omega) HPV.out
                  have hb6 : w6.heap[w.heap.size]? = some (.cells #[.slice Ao qs.length capo] 25) := v6.heap HBO2.out (fun e => by obtain ⟨c, hc⟩ := ownsRow_type hoo2.2 e; rw [HBO2.out] at hc; cases hc)
                  have cc : w6.cell? ⟨w.heap.size, 0, none⟩ = some (.slice Ao qs.length capo) := by simp [World.cell?, hb6]
                  have zz : w6.frozen? ⟨w.heap.size, 0, none⟩ = false := by simp [World.frozen?, hb6]
                  have p0 : wr.cell? ⟨W.heap.size, 0, none⟩ = some pv := by simp [World.cell?, HPB2.out]
                  have p1 : wr.cell? ⟨W.heap.size, 1, none⟩ = some (.int .i64 i) := by simp [World.cell?, HPB2.out]
                  have HQ6 := Lib.hid hq6
                  have HB6 := Lib.hid hb6
                  have R6 := Lib.hid r6
                  have O6 := Lib.hid o6
                  have V6 := Lib.hid v6
                  clear hoo2 hb6 r6 o6 v6 hq6 hpl
                  gi_wp2_with fail
                  refine ⟨trivial, (CallsIn.inRound l (callsIn_wide.2 (check_ok _ _ _))).mono ?_⟩
                  rintro e w4 ⟨rfl, rfl⟩
                  gi_wp2_with (gi_at_builtin; refine wpListIn_append_run rfl _ _ _ rfl rfl rfl R6.out ?_)
                  exact face_f HBO.out HBC.out HOO.out HOC.out HUP.out HSP.out hcl HQ6.out HAV.out hfs.out HOP.out HU.out V6.out O6.out HB6.out
                · have hb : Hid (oneN (linesAll s) [] [] = .bad i 2) := by
                    show _ = _
                    rw [HX.out, oneN_f, hfs.out]
                    simp only [List.length_map]
                    rw [if_pos (by omega)]
                  have hd2 : decide (((qs.length : Nat) : Int) < 65536) = false := by rw [decide_eq_false_iff_not]; omega
                  clear hq6 hpl
                  gi_wp2_with fail
                  refine ⟨trivial, (CallsIn.inRound l (callsIn_wide.2 (check_bad _ _ _))).mono ?_⟩
                  rintro e w4 ⟨rfl, rfl⟩
                  obtain ⟨k1, k2⟩ := round_of_upd (N0 := w.heap.size) HU.out (fun k hk _ => hk.elim) HUP.out.size
                  exact ⟨rfl, k1, i, 2, rfl, hb.out, HUP.out.trans HU.out⟩
          · rw [hns] at hq
            obtain ⟨rfl, u2⟩ := hq
            have hb : oneN (linesAll s) [] [] = .bad i e0 := by rw [HX.out, oneN_f, faceS_nums, hns]
            have U2 : Upd noBlk W w2 := ((Upd.refl _ _).alloc _).trans u2
            obtain ⟨k1, k2⟩ := round_of_upd (N0 := w.heap.size) U2 (fun k hk _ => hk.elim) HUP.out.size
            exact ⟨rfl, k1, i, e0, rfl, hb, HUP.out.trans U2⟩
      · have e1 : ((bs wd).toList == [118]) = false := by rw [bs_toList, beq_eq_false_iff_ne]; exact hv
        have e2 : ((bs wd).toList == [102]) = false := by rw [bs_toList, beq_eq_false_iff_ne]; exact hf
        have hb : Hid (oneN (linesAll s) [] [] = .bad i 10) := by show _ = _; rw [HX.out, oneN_other hv hf]
        clear hv hf
        gi_wp2_with fail
        refine ⟨trivial, (CallsIn.inRound l (callsIn_wide.2 (check_bad _ _ _))).mono ?_⟩
        rintro e w2 ⟨rfl, rfl⟩
        obtain ⟨k1, k2⟩ := round_of_upd (N0 := w.heap.size) (Upd.refl noBlk W) (fun k hk _ => hk.elim) HUP.out.size
        exact ⟨rfl, k1, i, 10, rfl, hb.out, HUP.out⟩
  case done =>
    rintro D xs W hD rfl ⟨vo, vc, cs, qs, hbo, hbc, hoo, hoc, hup, hsp, hcl, hpl, hav⟩ hk
    have c1 : W.cell? ⟨w.heap.size, 0, none⟩ = some vo := by simp [World.cell?, hbo]
    have hs1 : oneN (linesAll s) [] [] = .ok (qs.map (·.2)) := by have := hsp []; rw [List.append_nil] at this; exact this
    have HS := Lib.hid hs1
    clear hbo hbc hsp hs1
    refine wpAt_of (n := 5) ?_
    gi_wp2_with fail
    refine ⟨by simp, .inl ⟨_, _, rfl, run_takeDeferred hk, ?_⟩⟩
    refine ⟨vo, by simp [results, Tryd.f15, go_sem], ?_⟩
    rw [HS.out]
    exact ⟨vo, rfl, OwnPolys.mono (OwnQs.polys (hoo.grown (B := D) (grownBy_putObj' W D _) (fun r e => by cases e; exact ⟨Nat.le_refl _, _, hk, rfl⟩))) (by omega), hup.then (upd_putObj0 W D _) (fun i hi e => by simp at hD; omega)⟩
  case stop =>
    intro D c pre W hD hS h hk
    exact h.elim
  case panic =>
    rintro D chain W hD ⟨place, e, rfl, hb, hup⟩ hk
    refine ⟨by simp, .inl ⟨_, _, rfl, run_takeDeferred hk, ?_⟩⟩
    show polysQ (oneN (linesAll s) [] []) w (.panicked (fail place e)) _
    rw [hb]
    exact ⟨rfl, hup.then (upd_putObj0 W D _) (fun i hi e => by simp at hD; omega)⟩
end Go.Proofs.YtojdgdeefhndiaaDoor
