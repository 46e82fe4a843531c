/- Walks of the program of the polygon files: Read. -/
import Derived.Test.YtojdgdeefhndiaaDoorM12
import Derived.Test.YtojdgdeefhndiaaDoorM13
import Derived.Recover
import Derived.Defers
namespace Go.Proofs.YtojdgdeefhndiaaDoor
open Go Go.RowKit Sp
set_option maxRecDepth 100000

theorem assert_fail (place e : Int) (w : World) : (Instr.typeAssert (.iface 41 (.agg #[.int .i64 place, .int .i64 e])) 20 41 true).run Tryd.prog w = .ok (.tuple #[.agg #[.int .i64 place, .int .i64 e], .bool true]) w := by kernel_rfl
set_option maxHeartbeats 1000000 in
theorem catch_fail (b0 b1 b2 : Nat) (v0 v1 v2 : Value) (place e : Int) (w : World) (n01 : b0 ≠ b1) (n02 : b0 ≠ b2) (n12 : b1 ≠ b2) (h0 : w.heap[b0]? = some (.cells #[v0] 25)) (h1 : w.heap[b1]? = some (.cells #[v1] 3)) (h2 : w.heap[b2]? = some (.cells #[v2] 26)) :
    CallsD Tryd.prog 10 #[.pointer (some ⟨b0, 0, none⟩), .pointer (some ⟨b1, 0, none⟩), .pointer (some ⟨b2, 0, none⟩)] (.panicking (fail place e)) w fun en u' w' =>
      en = .returned (.tuple #[]) ∧ u' = .panicking [{ v := .iface 41 (.agg #[.int .i64 place, .int .i64 e]), recovered := true }] ∧ Upd (fun k => k = b0 ∨ k = b1 ∨ k = b2) w w' ∧
      w'.heap[b0]? = some (.cells #[.slice none 0 0] 25) ∧ w'.heap[b1]? = some (.cells #[.int .i64 place] 3) ∧ w'.heap[b2]? = some (.cells #[.int .i64 e] 26) := by
  refine callsD_of_wpS Tryd.func10 rfl fun c₀ cs hu => ?_
  simp only [Tryd.ntmps10, List.size_toArray, List.length_cons, List.length_nil, Nat.reduceAdd, Nat.reduceSub, Array.replicate_succ, Array.replicate_zero, List.push_toArray, List.append_toArray, List.nil_append, List.cons_append]
  have hta := assert_fail place e
  apply wpS_seq
  apply wpS_region
  simp [wpOpsS, go_sem, recoverD, hu, Exit.thenS, fail]
  refine wpS_of_wp ?_
  go_wp2_with fail
  have l0 := lt_of_heap h0
  have l1 := lt_of_heap h1
  have l2 := lt_of_heap h2
  obtain ⟨W0, hW0⟩ : ∃ W0, W0 = w.alloc (Obj.cells #[Value.int IntKind.i64 place, Value.int IntKind.i64 e] 41) := ⟨_, rfl⟩
  have hF : W0.heap[w.heap.size]? = some (.cells #[.int .i64 place, .int .i64 e] 41) := by rw [hW0]; exact heap_alloc_new _ _
  have hb0 : W0.heap[b0]? = some (.cells #[v0] 25) := by rw [hW0]; exact heap_alloc_keep _ h0
  have hb1 : W0.heap[b1]? = some (.cells #[v1] 3) := by rw [hW0]; exact heap_alloc_keep _ h1
  have hb2 : W0.heap[b2]? = some (.cells #[v2] 26) := by rw [hW0]; exact heap_alloc_keep _ h2
  have hU0 : Upd (fun k => k = b0 ∨ k = b1 ∨ k = b2) w W0 := by rw [hW0]; exact (Upd.refl _ _).alloc _
  rw [← hW0]
  obtain ⟨fb, hfb⟩ : ∃ fb, fb = w.heap.size := ⟨_, rfl⟩
  rw [← hfb] at hF ⊢
  have HFB := Lib.hid hfb
  have HW0 := Lib.hid hW0
  have f0 : fb ≠ b0 := by omega
  have f1 : fb ≠ b1 := by omega
  have f2 : fb ≠ b2 := by omega
  clear hfb hW0 h0 h1 h2 l0 l1 l2
  have hF1 := heap_setCell_ne (g := b0) (i := 0) (.slice none 0 0) hF f0
  have h11 := heap_setCell_ne (g := b0) (i := 0) (.slice none 0 0) hb1 (Ne.symm n01)
  have h12 := heap_setCell_ne (g := b0) (i := 0) (.slice none 0 0) hb2 (Ne.symm n02)
  have h10 : (W0.setCell ⟨b0, 0, none⟩ (.slice none 0 0)).heap[b0]? = some (.cells #[.slice none 0 0] 25) := (heap_setCell_eq (i := 0) (.slice none 0 0) hb0).trans rfl
  have hU1 := hU0.setCell (p := ⟨b0, 0, none⟩) (fun _ => .inl rfl) (.slice none 0 0)
  have c0 : W0.drew.cell? ⟨b0, 0, none⟩ = some v0 := by show W0.cell? _ = _; simp [World.cell?, hb0]
  have z0 : W0.drew.frozen? ⟨b0, 0, none⟩ = false := by show W0.frozen? _ = _; simp [World.frozen?, hb0]
  refine wp_region_tree 6 (OT.sures [0, 1, 2, 3] (.run 4 (.run 5 .nil))) (fun w' => w'.heap[fb]? = some (.cells #[.int .i64 place, .int .i64 e] 41)) (by kernel_rfl) (by kernel_rfl) (fun c a d v w h => by cases d <;> exact h) hF ?_
  simp only [OT.sures]
  iterate 4 (apply wpT_sure rfl rfl; focus (intro w' hw'; have g1 : w'.cell? ⟨fb, 0, none⟩ = some (.int .i64 place) := (by simp [World.cell?, hw']); have g2 : w'.cell? ⟨fb, 1, none⟩ = some (.int .i64 e) := (by simp [World.cell?, hw']); go_simp; rfl))
  refine wpT_run (fun w' => w'.heap[fb]? = some (.cells #[.int .i64 place, .int .i64 e] 41)) (fun _ h => h) rfl (fun K hK => ?_)
  go_simp
  obtain ⟨W1, hW1⟩ : ∃ W1, W1 = W0.setCell ⟨b0, 0, none⟩ (.slice none 0 0) := ⟨_, rfl⟩
  rw [← hW1] at hF1 h11 h12 h10 hU1 ⊢
  refine hK _ _ ⟨hF1, ?_⟩
  clear hK K hW1 c0 z0 hF hb0 hb1 hb2 hU0 HW0
  have hF2 := heap_setCell_ne (g := b1) (i := 0) (.int .i64 place) hF1 f1
  have h20 := heap_setCell_ne (g := b1) (i := 0) (.int .i64 place) h10 n01
  have h22 := heap_setCell_ne (g := b1) (i := 0) (.int .i64 place) h12 (Ne.symm n12)
  have h21 : (W1.setCell ⟨b1, 0, none⟩ (.int .i64 place)).heap[b1]? = some (.cells #[.int .i64 place] 3) := (heap_setCell_eq (i := 0) (.int .i64 place) h11).trans rfl
  have hU2 := hU1.setCell (p := ⟨b1, 0, none⟩) (fun _ => .inr (.inl rfl)) (.int .i64 place)
  have c1 : W1.drew.cell? ⟨b1, 0, none⟩ = some v1 := by show W1.cell? _ = _; simp [World.cell?, h11]
  have z1 : W1.drew.frozen? ⟨b1, 0, none⟩ = false := by show W1.frozen? _ = _; simp [World.frozen?, h11]
  refine wpT_run (fun w' => w'.heap[fb]? = some (.cells #[.int .i64 place, .int .i64 e] 41)) (fun _ h => h) rfl (fun K hK => ?_)
  go_simp
  obtain ⟨W2, hW2⟩ : ∃ W2, W2 = W1.setCell ⟨b1, 0, none⟩ (.int .i64 place) := ⟨_, rfl⟩
  rw [← hW2] at hF2 h20 h22 h21 hU2 ⊢
  refine hK _ _ ⟨hF2, ?_⟩
  clear hK K hW2 c1 z1 hF1 h11 h12 h10 hU1
  have c2 : W2.drew.cell? ⟨b2, 0, none⟩ = some v2 := by show W2.cell? _ = _; simp [World.cell?, h22]
  have z2 : W2.drew.frozen? ⟨b2, 0, none⟩ = false := by show W2.frozen? _ = _; simp [World.frozen?, h22]
  have H20 := Lib.hid (heap_setCell_ne (g := b2) (i := 0) (.int .i64 e) h20 n02)
  have H21 := Lib.hid (heap_setCell_ne (g := b2) (i := 0) (.int .i64 e) h21 n12)
  have H22 : Hid ((W2.setCell ⟨b2, 0, none⟩ (.int .i64 e)).heap[b2]? = some (.cells #[.int .i64 e] 26)) := (heap_setCell_eq (i := 0) (.int .i64 e) h22).trans rfl
  have HU := Lib.hid (hU2.setCell (p := ⟨b2, 0, none⟩) (fun _ => .inr (.inr rfl)) (.int .i64 e)).drew
  clear hF2 h20 h21 h22 hU2
  refine wpT_nil ?_
  simp only [List.drop_succ_cons, List.drop_zero]
  go_wp2_with fail
  simp only [bodyPostS]
  refine ⟨trivial, _, rfl, .tuple #[], by simp [results, Tryd.results10, go_sem], ?_⟩
  exact ⟨rfl, rfl, HU.out, H20.out, H21.out, H22.out⟩
set_option maxHeartbeats 1000000 in
theorem catch_none (b0 b1 b2 : Nat) (w : World) :
    CallsD Tryd.prog 10 #[.pointer (some ⟨b0, 0, none⟩), .pointer (some ⟨b1, 0, none⟩), .pointer (some ⟨b2, 0, none⟩)] .returning w fun en u' w' => en = .returned (.tuple #[]) ∧ u' = .returning ∧ w' = w := by
  refine callsD_of_wpS Tryd.func10 rfl fun c₀ cs hu => ?_
  simp only [Tryd.ntmps10, List.size_toArray, List.length_cons, List.length_nil, Nat.reduceAdd, Nat.reduceSub, Array.replicate_succ, Array.replicate_zero, List.push_toArray, List.append_toArray, List.nil_append, List.cons_append]
  apply wpS_seq
  apply wpS_region
  simp [wpOpsS, go_sem, recoverD, hu, Exit.thenS]
  refine wpS_of_wp ?_
  go_wp2_with fail
  cases c₀
  simp_all [bodyPostS, results, Tryd.results10]
theorem cell_of_heap {w : World} {b : Nat} {v : Value} {T : TypeId} {fr : Nat × Nat} (h : w.heap[b]? = some (.cells #[v] T fr)) : w.cell? ⟨b, 0, none⟩ = some v := by simp [World.cell?, h]
/-- What Read comes to. -/
def readQ (r : Out) (w : World) (en : Ending) (w' : World) : Prop :=
  match r with
  | .ok ps => ∃ v, en = .returned (.tuple #[v, .int .i64 0, .int .i64 0]) ∧ OwnPolys w.heap.size w' v ps ∧ Upd noBlk w w'
  | .bad place e => en = .returned (.tuple #[.slice none 0 0, .int .i64 place, .int .i64 e]) ∧ Upd noBlk w w'
theorem readS_three {s : Bytes} (h : magic.isPrefixOf s = true) : readS s = threeS s := by unfold readS; rw [if_pos h]
theorem readS_two {s : Bytes} (h : magic.isPrefixOf s = false) (h2 : isPolysS s = true) : readS s = polysS s := by
  unfold readS; rw [h, if_neg (by simp), if_pos (by unfold isPolysS at h2; simpa using h2), polysS_eq]
theorem readS_one {s : Bytes} (h : magic.isPrefixOf s = false) (h2 : isPolysS s = false) : readS s = oneN (linesAll s) [] [] := by
  unfold readS; rw [h, if_neg (by simp), if_neg (by unfold isPolysS at h2; simpa using h2), oneGo_eq]; rfl
set_option maxHeartbeats 2000000 in
theorem read_any (s : Bytes) (hs : s.length < 4294967281) (w : World) (hsh : w.ShapedOpen Tryd.prog) :
    Calls Tryd.prog 6 #[.string (bs s)] w fun en w' => readQ (readS s) w en w' := by
  have hmf : ∀ (fn : Fn) (first cap : Array Value) (w : World), (Instr.makeFunc fn first cap).run Tryd.prog w = .ok (.func fn first cap) w := fun _ _ _ _ => rfl
  have hW0 : Upd noBlk w (((w.alloc (Obj.cells #[Value.slice none 0 0] 25)).alloc (Obj.cells #[Value.int IntKind.i64 0] 3)).alloc (Obj.cells #[Value.int IntKind.i64 0] 26)) := (((Upd.refl _ _).alloc _).alloc _).alloc _
  have hsh0 : World.ShapedOpen Tryd.prog (((w.alloc (Obj.cells #[Value.slice none 0 0] 25)).alloc (Obj.cells #[Value.int IntKind.i64 0] 3)).alloc (Obj.cells #[Value.int IntKind.i64 0] 26)) := shaped_same hsh (fun k hk => hW0.block k hk id)
  have hb0 : (((w.alloc (Obj.cells #[Value.slice none 0 0] 25)).alloc (Obj.cells #[Value.int IntKind.i64 0] 3)).alloc (Obj.cells #[Value.int IntKind.i64 0] 26)).heap[w.heap.size]? = some (.cells #[.slice none 0 0] 25) := heap_alloc_keep _ (heap_alloc_keep _ (heap_alloc_new _ _))
  have hb1 : (((w.alloc (Obj.cells #[Value.slice none 0 0] 25)).alloc (Obj.cells #[Value.int IntKind.i64 0] 3)).alloc (Obj.cells #[Value.int IntKind.i64 0] 26)).heap[w.heap.size + 1]? = some (.cells #[.int .i64 0] 3) := by
    have h := heap_alloc_keep (.cells #[.int .i64 0] 26) (heap_alloc_new (w.alloc (.cells #[.slice none 0 0] 25)) (.cells #[.int .i64 0] 3)); simpa using h
  have hb2 : (((w.alloc (Obj.cells #[Value.slice none 0 0] 25)).alloc (Obj.cells #[Value.int IntKind.i64 0] 3)).alloc (Obj.cells #[Value.int IntKind.i64 0] 26)).heap[w.heap.size + 1 + 1]? = some (.cells #[.int .i64 0] 26) := by
    have h := heap_alloc_new ((w.alloc (.cells #[.slice none 0 0] 25)).alloc (.cells #[.int .i64 0] 3)) (.cells #[.int .i64 0] 26); simpa using h
  have hpre : ∀ w' : World, Calls Tryd.prog 11 #[.string (bs s), .string ⟨#[83, 79, 85, 80]⟩] w' fun en w'' => en = .returned (.bool (magic.isPrefixOf s)) ∧ w'' = w' := fun w' => by
    have := Tryd.strings_HasPrefix (bs s) ⟨#[83, 79, 85, 80]⟩ w'
    rwa [bs_data] at this
  have HSH := Lib.hid hsh0
  have HPRE := Lib.hid hpre
  have HSH1 := Lib.hid hsh
  have HWW := Lib.hid hW0
  have HB0 := Lib.hid hb0
  have HB1 := Lib.hid hb1
  have HB2 := Lib.hid hb2
  clear hsh0 hpre hsh hW0 hb0 hb1 hb2
  go_enter_defers Tryd.func6, Tryd.ntmps6
  go_wp2_with fail
  refine (HPRE.out _).mono ?_
  rcases hp : magic.isPrefixOf s with _ | _
  · rintro e w1 ⟨rfl, rfl⟩
    have hip := isPolys_any s hs _ HSH.out
    rcases h2 : isPolysS s with _ | _
    · rw [h2] at hip
      have HIP := Lib.hid hip
      have hspec := readS_one hp h2
      have HSPEC := Lib.hid hspec
      clear hip hspec hp h2
      go_wp2_with fail
      refine HIP.out.mono ?_
      rintro e w1 ⟨rfl, u1⟩
      have hW1 : Upd noBlk w w1 := HWW.out.trans u1
      have U1 := Lib.hid u1
      have HF := Lib.hid (faces_any s hs w1 (shaped_same HSH1.out (fun k hk => hW1.block k hk id)))
      clear u1 hW1
      go_wp2_with fail
      refine HF.out.mono ?_
      have hW0 := HWW.out
      have hb0 := HB0.out
      have hb1 := HB1.out
      have hb2 := HB2.out
      have hspec := HSPEC.out
      rcases hr : oneN (linesAll s) [] [] with ps | ⟨place, e⟩
      · rintro en w2 hq
        obtain ⟨v, rfl, ho, u2⟩ := hq
        obtain ⟨Av, cv, hv⟩ := ho.len
        subst hv
        have hU : Upd noBlk w w2 := hW0.trans (U1.out.trans u2)
        have g0 := u2.heap (U1.out.heap hb0 id) id
        have g1 := u2.heap (U1.out.heap hb1 id) id
        have g2 := u2.heap (U1.out.heap hb2 id) id
        have j1 := heap_setCell_ne (g := w.heap.size) (i := 0) (Value.slice Av ps.length cv) g1 (by omega)
        have j2 := heap_setCell_ne (g := w.heap.size) (i := 0) (Value.slice Av ps.length cv) g2 (by omega)
        have j0 : (w2.setCell ⟨w.heap.size, 0, none⟩ (Value.slice Av ps.length cv)).heap[w.heap.size]? = some (.cells #[(Value.slice Av ps.length cv)] 25) := (heap_setCell_eq (i := 0) (Value.slice Av ps.length cv) g0).trans rfl
        have i2 := heap_setCell_ne (g := w.heap.size + 1) (i := 0) (.int .i64 0) j2 (by omega)
        have i0 := heap_setCell_ne (g := w.heap.size + 1) (i := 0) (.int .i64 0) j0 (by omega)
        have i1 : ((w2.setCell ⟨w.heap.size, 0, none⟩ (Value.slice Av ps.length cv)).setCell ⟨w.heap.size + 1, 0, none⟩ (.int .i64 0)).heap[w.heap.size + 1]? = some (.cells #[.int .i64 0] 3) := (heap_setCell_eq (i := 0) (.int .i64 0) j1).trans rfl
        have o0 := heap_setCell_ne (g := w.heap.size + 1 + 1) (i := 0) (.int .i64 0) i0 (by omega)
        have o1 := heap_setCell_ne (g := w.heap.size + 1 + 1) (i := 0) (.int .i64 0) i1 (by omega)
        have o2 : (((w2.setCell ⟨w.heap.size, 0, none⟩ (Value.slice Av ps.length cv)).setCell ⟨w.heap.size + 1, 0, none⟩ (.int .i64 0)).setCell ⟨w.heap.size + 1 + 1, 0, none⟩ (.int .i64 0)).heap[w.heap.size + 1 + 1]? = some (.cells #[.int .i64 0] 26) := (heap_setCell_eq (i := 0) (.int .i64 0) i2).trans rfl
        have a0 : w2.cell? ⟨w.heap.size, 0, none⟩ = some (.slice none 0 0) := by simp [World.cell?, g0]
        have z0 : w2.frozen? ⟨w.heap.size, 0, none⟩ = false := by simp [World.frozen?, g0]
        have a1 : (w2.setCell ⟨w.heap.size, 0, none⟩ (Value.slice Av ps.length cv)).cell? ⟨w.heap.size + 1, 0, none⟩ = some (.int .i64 0) := by simp [World.cell?, j1]
        have z1 : (w2.setCell ⟨w.heap.size, 0, none⟩ (Value.slice Av ps.length cv)).frozen? ⟨w.heap.size + 1, 0, none⟩ = false := by simp [World.frozen?, j1]
        have a2 : ((w2.setCell ⟨w.heap.size, 0, none⟩ (Value.slice Av ps.length cv)).setCell ⟨w.heap.size + 1, 0, none⟩ (.int .i64 0)).cell? ⟨w.heap.size + 1 + 1, 0, none⟩ = some (.int .i64 0) := by simp [World.cell?, i2]
        have z2 : ((w2.setCell ⟨w.heap.size, 0, none⟩ (Value.slice Av ps.length cv)).setCell ⟨w.heap.size + 1, 0, none⟩ (.int .i64 0)).frozen? ⟨w.heap.size + 1 + 1, 0, none⟩ = false := by simp [World.frozen?, i2]
        have HO0 := Lib.hid o0
        have HO1 := Lib.hid o1
        have HO2 := Lib.hid o2
        have HOW : Hid (OwnPolys w.heap.size (((w2.setCell ⟨w.heap.size, 0, none⟩ (Value.slice Av ps.length cv)).setCell ⟨w.heap.size + 1, 0, none⟩ (.int .i64 0)).setCell ⟨w.heap.size + 1 + 1, 0, none⟩ (.int .i64 0)) (Value.slice Av ps.length cv) ps) := by
          obtain ⟨qs, hqs, hown⟩ := ho
          have hN : w.heap.size + 3 ≤ w1.heap.size := by have := U1.out.size; simp at this; omega
          refine OwnPolys.mono (base := w1.heap.size) ⟨qs, hqs, ?_⟩ (by omega)
          refine hown.keep (F := fun k => k = w.heap.size ∨ k = w.heap.size + 1 ∨ k = w.heap.size + 1 + 1) ((((Upd.refl _ _).setCell (p := ⟨w.heap.size, 0, none⟩) (fun _ => .inl rfl) _).setCell (p := ⟨w.heap.size + 1, 0, none⟩) (fun _ => .inr (.inl rfl)) _).setCell (p := ⟨w.heap.size + 1 + 1, 0, none⟩) (fun _ => .inr (.inr rfl)) _) (fun k hk e => by have := (hown.2.lt k e).1; omega) (fun q hq k hk e => by have := ((hown.1 q hq).lt k e).1; omega)
        have HU : Hid (Upd noBlk w (((w2.setCell ⟨w.heap.size, 0, none⟩ (Value.slice Av ps.length cv)).setCell ⟨w.heap.size + 1, 0, none⟩ (.int .i64 0)).setCell ⟨w.heap.size + 1 + 1, 0, none⟩ (.int .i64 0))) := ((hU.setCell (fun h => absurd h (Nat.lt_irrefl _)) _).setCell (fun h => by simp only at h; omega) _).setCell (fun h => by simp only at h; omega) _
        have HS : Hid (readS s = .ok ps) := by show _ = _; rw [hspec, hr]
        clear hr hU g0 g1 g2 j0 j1 j2 i0 i1 i2 o0 o1 o2 ho u2 hspec hb0 hb1 hb2 hW0
        go_wp2_with fail
        change Leaves Tryd.prog Tryd.f6 _ _ (_ :: _) .returning _
        refine leaves_cons (f := 10) (args := #[.pointer (some ⟨w.heap.size, 0, none⟩), .pointer (some ⟨w.heap.size + 1, 0, none⟩), .pointer (some ⟨w.heap.size + 1 + 1, 0, none⟩)]) (by simp) (by simp [go_sem]) ?_
        refine (catch_none _ _ _ _).mono ?_
        rintro e u' w'' ⟨rfl, rfl, rfl⟩
        have r0 := cell_of_heap HO0.out
        have r1 := cell_of_heap HO1.out
        have r2 := cell_of_heap HO2.out
        refine ⟨.tuple #[(Value.slice Av ps.length cv), .int .i64 0, .int .i64 0], by simp [results, Tryd.results6, go_sem, r0, r1, r2], ?_⟩
        show readQ (readS s) w _ _
        rw [HS.out]
        exact ⟨_, rfl, HOW.out, HU.out⟩
      · rintro en w2 hq
        obtain ⟨rfl, u2⟩ := hq
        have hU : Upd noBlk w w2 := hW0.trans (U1.out.trans u2)
        have g0 := u2.heap (U1.out.heap hb0 id) id
        have g1 := u2.heap (U1.out.heap hb1 id) id
        have g2 := u2.heap (U1.out.heap hb2 id) id
        change Leaves Tryd.prog Tryd.f6 _ _ (_ :: _) (.panicking (fail place e)) w2
        refine leaves_cons (f := 10) (args := #[.pointer (some ⟨w.heap.size, 0, none⟩), .pointer (some ⟨w.heap.size + 1, 0, none⟩), .pointer (some ⟨w.heap.size + 1 + 1, 0, none⟩)]) (by simp) (by simp [go_sem]) ?_
        refine (catch_fail _ _ _ _ _ _ _ _ _ (by omega) (by omega) (by omega) g0 g1 g2).mono ?_
        rintro e' u' w'' ⟨rfl, rfl, u3, o0, o1, o2⟩
        have r0 := cell_of_heap o0
        have r1 := cell_of_heap o1
        have r2 := cell_of_heap o2
        refine ⟨.tuple #[.slice none 0 0, .int .i64 place, .int .i64 e], by simp [results, Tryd.results6, go_sem, r0, r1, r2], ?_⟩
        show readQ (readS s) w _ _
        rw [hspec, hr]
        exact ⟨rfl, hU.then u3 (fun k hk h => by omega)⟩
    · rw [h2] at hip
      have HIP := Lib.hid hip
      have hspec := readS_two hp h2
      have HSPEC := Lib.hid hspec
      clear hip hspec hp h2
      go_wp2_with fail
      refine HIP.out.mono ?_
      rintro e w1 ⟨rfl, u1⟩
      have hW1 : Upd noBlk w w1 := HWW.out.trans u1
      have U1 := Lib.hid u1
      have HF := Lib.hid (polys_any s hs w1 (shaped_same HSH1.out (fun k hk => hW1.block k hk id)))
      clear u1 hW1
      go_wp2_with fail
      refine HF.out.mono ?_
      have hW0 := HWW.out
      have hb0 := HB0.out
      have hb1 := HB1.out
      have hb2 := HB2.out
      have hspec := HSPEC.out
      rcases hr : polysS s with ps | ⟨place, e⟩
      · rintro en w2 hq
        obtain ⟨v, rfl, ho, u2⟩ := hq
        obtain ⟨Av, cv, hv⟩ := ho.len
        subst hv
        have hU : Upd noBlk w w2 := hW0.trans (U1.out.trans u2)
        have g0 := u2.heap (U1.out.heap hb0 id) id
        have g1 := u2.heap (U1.out.heap hb1 id) id
        have g2 := u2.heap (U1.out.heap hb2 id) id
        have j1 := heap_setCell_ne (g := w.heap.size) (i := 0) (Value.slice Av ps.length cv) g1 (by omega)
        have j2 := heap_setCell_ne (g := w.heap.size) (i := 0) (Value.slice Av ps.length cv) g2 (by omega)
        have j0 : (w2.setCell ⟨w.heap.size, 0, none⟩ (Value.slice Av ps.length cv)).heap[w.heap.size]? = some (.cells #[(Value.slice Av ps.length cv)] 25) := (heap_setCell_eq (i := 0) (Value.slice Av ps.length cv) g0).trans rfl
        have i2 := heap_setCell_ne (g := w.heap.size + 1) (i := 0) (.int .i64 0) j2 (by omega)
        have i0 := heap_setCell_ne (g := w.heap.size + 1) (i := 0) (.int .i64 0) j0 (by omega)
        have i1 : ((w2.setCell ⟨w.heap.size, 0, none⟩ (Value.slice Av ps.length cv)).setCell ⟨w.heap.size + 1, 0, none⟩ (.int .i64 0)).heap[w.heap.size + 1]? = some (.cells #[.int .i64 0] 3) := (heap_setCell_eq (i := 0) (.int .i64 0) j1).trans rfl
        have o0 := heap_setCell_ne (g := w.heap.size + 1 + 1) (i := 0) (.int .i64 0) i0 (by omega)
        have o1 := heap_setCell_ne (g := w.heap.size + 1 + 1) (i := 0) (.int .i64 0) i1 (by omega)
        have o2 : (((w2.setCell ⟨w.heap.size, 0, none⟩ (Value.slice Av ps.length cv)).setCell ⟨w.heap.size + 1, 0, none⟩ (.int .i64 0)).setCell ⟨w.heap.size + 1 + 1, 0, none⟩ (.int .i64 0)).heap[w.heap.size + 1 + 1]? = some (.cells #[.int .i64 0] 26) := (heap_setCell_eq (i := 0) (.int .i64 0) i2).trans rfl
        have a0 : w2.cell? ⟨w.heap.size, 0, none⟩ = some (.slice none 0 0) := by simp [World.cell?, g0]
        have z0 : w2.frozen? ⟨w.heap.size, 0, none⟩ = false := by simp [World.frozen?, g0]
        have a1 : (w2.setCell ⟨w.heap.size, 0, none⟩ (Value.slice Av ps.length cv)).cell? ⟨w.heap.size + 1, 0, none⟩ = some (.int .i64 0) := by simp [World.cell?, j1]
        have z1 : (w2.setCell ⟨w.heap.size, 0, none⟩ (Value.slice Av ps.length cv)).frozen? ⟨w.heap.size + 1, 0, none⟩ = false := by simp [World.frozen?, j1]
        have a2 : ((w2.setCell ⟨w.heap.size, 0, none⟩ (Value.slice Av ps.length cv)).setCell ⟨w.heap.size + 1, 0, none⟩ (.int .i64 0)).cell? ⟨w.heap.size + 1 + 1, 0, none⟩ = some (.int .i64 0) := by simp [World.cell?, i2]
        have z2 : ((w2.setCell ⟨w.heap.size, 0, none⟩ (Value.slice Av ps.length cv)).setCell ⟨w.heap.size + 1, 0, none⟩ (.int .i64 0)).frozen? ⟨w.heap.size + 1 + 1, 0, none⟩ = false := by simp [World.frozen?, i2]
        have HO0 := Lib.hid o0
        have HO1 := Lib.hid o1
        have HO2 := Lib.hid o2
        have HOW : Hid (OwnPolys w.heap.size (((w2.setCell ⟨w.heap.size, 0, none⟩ (Value.slice Av ps.length cv)).setCell ⟨w.heap.size + 1, 0, none⟩ (.int .i64 0)).setCell ⟨w.heap.size + 1 + 1, 0, none⟩ (.int .i64 0)) (Value.slice Av ps.length cv) ps) := by
          obtain ⟨qs, hqs, hown⟩ := ho
          have hN : w.heap.size + 3 ≤ w1.heap.size := by have := U1.out.size; simp at this; omega
          refine OwnPolys.mono (base := w1.heap.size) ⟨qs, hqs, ?_⟩ (by omega)
          refine hown.keep (F := fun k => k = w.heap.size ∨ k = w.heap.size + 1 ∨ k = w.heap.size + 1 + 1) ((((Upd.refl _ _).setCell (p := ⟨w.heap.size, 0, none⟩) (fun _ => .inl rfl) _).setCell (p := ⟨w.heap.size + 1, 0, none⟩) (fun _ => .inr (.inl rfl)) _).setCell (p := ⟨w.heap.size + 1 + 1, 0, none⟩) (fun _ => .inr (.inr rfl)) _) (fun k hk e => by have := (hown.2.lt k e).1; omega) (fun q hq k hk e => by have := ((hown.1 q hq).lt k e).1; omega)
        have HU : Hid (Upd noBlk w (((w2.setCell ⟨w.heap.size, 0, none⟩ (Value.slice Av ps.length cv)).setCell ⟨w.heap.size + 1, 0, none⟩ (.int .i64 0)).setCell ⟨w.heap.size + 1 + 1, 0, none⟩ (.int .i64 0))) := ((hU.setCell (fun h => absurd h (Nat.lt_irrefl _)) _).setCell (fun h => by simp only at h; omega) _).setCell (fun h => by simp only at h; omega) _
        have HS : Hid (readS s = .ok ps) := by show _ = _; rw [hspec, hr]
        clear hr hU g0 g1 g2 j0 j1 j2 i0 i1 i2 o0 o1 o2 ho u2 hspec hb0 hb1 hb2 hW0
        go_wp2_with fail
        change Leaves Tryd.prog Tryd.f6 _ _ (_ :: _) .returning _
        refine leaves_cons (f := 10) (args := #[.pointer (some ⟨w.heap.size, 0, none⟩), .pointer (some ⟨w.heap.size + 1, 0, none⟩), .pointer (some ⟨w.heap.size + 1 + 1, 0, none⟩)]) (by simp) (by simp [go_sem]) ?_
        refine (catch_none _ _ _ _).mono ?_
        rintro e u' w'' ⟨rfl, rfl, rfl⟩
        have r0 := cell_of_heap HO0.out
        have r1 := cell_of_heap HO1.out
        have r2 := cell_of_heap HO2.out
        refine ⟨.tuple #[(Value.slice Av ps.length cv), .int .i64 0, .int .i64 0], by simp [results, Tryd.results6, go_sem, r0, r1, r2], ?_⟩
        show readQ (readS s) w _ _
        rw [HS.out]
        exact ⟨_, rfl, HOW.out, HU.out⟩
      · rintro en w2 hq
        obtain ⟨rfl, u2⟩ := hq
        have hU : Upd noBlk w w2 := hW0.trans (U1.out.trans u2)
        have g0 := u2.heap (U1.out.heap hb0 id) id
        have g1 := u2.heap (U1.out.heap hb1 id) id
        have g2 := u2.heap (U1.out.heap hb2 id) id
        change Leaves Tryd.prog Tryd.f6 _ _ (_ :: _) (.panicking (fail place e)) w2
        refine leaves_cons (f := 10) (args := #[.pointer (some ⟨w.heap.size, 0, none⟩), .pointer (some ⟨w.heap.size + 1, 0, none⟩), .pointer (some ⟨w.heap.size + 1 + 1, 0, none⟩)]) (by simp) (by simp [go_sem]) ?_
        refine (catch_fail _ _ _ _ _ _ _ _ _ (by omega) (by omega) (by omega) g0 g1 g2).mono ?_
        rintro e' u' w'' ⟨rfl, rfl, u3, o0, o1, o2⟩
        have r0 := cell_of_heap o0
        have r1 := cell_of_heap o1
        have r2 := cell_of_heap o2
        refine ⟨.tuple #[.slice none 0 0, .int .i64 place, .int .i64 e], by simp [results, Tryd.results6, go_sem, r0, r1, r2], ?_⟩
        show readQ (readS s) w _ _
        rw [hspec, hr]
        exact ⟨rfl, hU.then u3 (fun k hk h => by omega)⟩
  · rintro e w1 ⟨rfl, rfl⟩
    have hspec := readS_three hp
    have h4 : 4 ≤ s.length := by
      have := List.IsPrefix.length_le (List.isPrefixOf_iff_prefix.1 hp)
      simpa [magic] using this
    have HF := Lib.hid (binary_any s (by omega) h4 (((w.alloc (Obj.cells #[Value.slice none 0 0] 25)).alloc (Obj.cells #[Value.int IntKind.i64 0] 3)).alloc (Obj.cells #[Value.int IntKind.i64 0] 26)))
    have HSPEC := Lib.hid hspec
    clear hspec hp h4
    go_wp2_with fail
    refine HF.out.mono ?_
    have hW0 := HWW.out
    have hb0 := HB0.out
    have hb1 := HB1.out
    have hb2 := HB2.out
    have hspec := HSPEC.out
    rcases hr : threeS s with ps | ⟨place, e⟩
    · rintro en w2 hq
      obtain ⟨v, rfl, ho, u2⟩ := hq
      obtain ⟨Av, cv, hv⟩ := ho.len
      subst hv
      have hU : Upd noBlk w w2 := hW0.trans (u2)
      have g0 := u2.heap (id hb0) id
      have g1 := u2.heap (id hb1) id
      have g2 := u2.heap (id hb2) id
      have j1 := heap_setCell_ne (g := w.heap.size) (i := 0) (Value.slice Av ps.length cv) g1 (by omega)
      have j2 := heap_setCell_ne (g := w.heap.size) (i := 0) (Value.slice Av ps.length cv) g2 (by omega)
      have j0 : (w2.setCell ⟨w.heap.size, 0, none⟩ (Value.slice Av ps.length cv)).heap[w.heap.size]? = some (.cells #[(Value.slice Av ps.length cv)] 25) := (heap_setCell_eq (i := 0) (Value.slice Av ps.length cv) g0).trans rfl
      have i2 := heap_setCell_ne (g := w.heap.size + 1) (i := 0) (.int .i64 0) j2 (by omega)
      have i0 := heap_setCell_ne (g := w.heap.size + 1) (i := 0) (.int .i64 0) j0 (by omega)
      have i1 : ((w2.setCell ⟨w.heap.size, 0, none⟩ (Value.slice Av ps.length cv)).setCell ⟨w.heap.size + 1, 0, none⟩ (.int .i64 0)).heap[w.heap.size + 1]? = some (.cells #[.int .i64 0] 3) := (heap_setCell_eq (i := 0) (.int .i64 0) j1).trans rfl
      have o0 := heap_setCell_ne (g := w.heap.size + 1 + 1) (i := 0) (.int .i64 0) i0 (by omega)
      have o1 := heap_setCell_ne (g := w.heap.size + 1 + 1) (i := 0) (.int .i64 0) i1 (by omega)
      have o2 : (((w2.setCell ⟨w.heap.size, 0, none⟩ (Value.slice Av ps.length cv)).setCell ⟨w.heap.size + 1, 0, none⟩ (.int .i64 0)).setCell ⟨w.heap.size + 1 + 1, 0, none⟩ (.int .i64 0)).heap[w.heap.size + 1 + 1]? = some (.cells #[.int .i64 0] 26) := (heap_setCell_eq (i := 0) (.int .i64 0) i2).trans rfl
      have a0 : w2.cell? ⟨w.heap.size, 0, none⟩ = some (.slice none 0 0) := by simp [World.cell?, g0]
      have z0 : w2.frozen? ⟨w.heap.size, 0, none⟩ = false := by simp [World.frozen?, g0]
      have a1 : (w2.setCell ⟨w.heap.size, 0, none⟩ (Value.slice Av ps.length cv)).cell? ⟨w.heap.size + 1, 0, none⟩ = some (.int .i64 0) := by simp [World.cell?, j1]
      have z1 : (w2.setCell ⟨w.heap.size, 0, none⟩ (Value.slice Av ps.length cv)).frozen? ⟨w.heap.size + 1, 0, none⟩ = false := by simp [World.frozen?, j1]
      have a2 : ((w2.setCell ⟨w.heap.size, 0, none⟩ (Value.slice Av ps.length cv)).setCell ⟨w.heap.size + 1, 0, none⟩ (.int .i64 0)).cell? ⟨w.heap.size + 1 + 1, 0, none⟩ = some (.int .i64 0) := by simp [World.cell?, i2]
      have z2 : ((w2.setCell ⟨w.heap.size, 0, none⟩ (Value.slice Av ps.length cv)).setCell ⟨w.heap.size + 1, 0, none⟩ (.int .i64 0)).frozen? ⟨w.heap.size + 1 + 1, 0, none⟩ = false := by simp [World.frozen?, i2]
      have HO0 := Lib.hid o0
      have HO1 := Lib.hid o1
      have HO2 := Lib.hid o2
      have HOW : Hid (OwnPolys w.heap.size (((w2.setCell ⟨w.heap.size, 0, none⟩ (Value.slice Av ps.length cv)).setCell ⟨w.heap.size + 1, 0, none⟩ (.int .i64 0)).setCell ⟨w.heap.size + 1 + 1, 0, none⟩ (.int .i64 0)) (Value.slice Av ps.length cv) ps) := by
        obtain ⟨qs, hqs, hown⟩ := ho
        have hN : w.heap.size + 3 ≤ (((w.alloc (Obj.cells #[Value.slice none 0 0] 25)).alloc (Obj.cells #[Value.int IntKind.i64 0] 3)).alloc (Obj.cells #[Value.int IntKind.i64 0] 26)).heap.size := by simp
        refine OwnPolys.mono (base := (((w.alloc (Obj.cells #[Value.slice none 0 0] 25)).alloc (Obj.cells #[Value.int IntKind.i64 0] 3)).alloc (Obj.cells #[Value.int IntKind.i64 0] 26)).heap.size) ⟨qs, hqs, ?_⟩ (by omega)
        refine hown.keep (F := fun k => k = w.heap.size ∨ k = w.heap.size + 1 ∨ k = w.heap.size + 1 + 1) ((((Upd.refl _ _).setCell (p := ⟨w.heap.size, 0, none⟩) (fun _ => .inl rfl) _).setCell (p := ⟨w.heap.size + 1, 0, none⟩) (fun _ => .inr (.inl rfl)) _).setCell (p := ⟨w.heap.size + 1 + 1, 0, none⟩) (fun _ => .inr (.inr rfl)) _) (fun k hk e => by have := (hown.2.lt k e).1; omega) (fun q hq k hk e => by have := ((hown.1 q hq).lt k e).1; omega)
      have HU : Hid (Upd noBlk w (((w2.setCell ⟨w.heap.size, 0, none⟩ (Value.slice Av ps.length cv)).setCell ⟨w.heap.size + 1, 0, none⟩ (.int .i64 0)).setCell ⟨w.heap.size + 1 + 1, 0, none⟩ (.int .i64 0))) := ((hU.setCell (fun h => absurd h (Nat.lt_irrefl _)) _).setCell (fun h => by simp only at h; omega) _).setCell (fun h => by simp only at h; omega) _
      have HS : Hid (readS s = .ok ps) := by show _ = _; rw [hspec, hr]
      clear hr hU g0 g1 g2 j0 j1 j2 i0 i1 i2 o0 o1 o2 ho u2 hspec hb0 hb1 hb2 hW0
      go_wp2_with fail
      change Leaves Tryd.prog Tryd.f6 _ _ (_ :: _) .returning _
      refine leaves_cons (f := 10) (args := #[.pointer (some ⟨w.heap.size, 0, none⟩), .pointer (some ⟨w.heap.size + 1, 0, none⟩), .pointer (some ⟨w.heap.size + 1 + 1, 0, none⟩)]) (by simp) (by simp [go_sem]) ?_
      refine (catch_none _ _ _ _).mono ?_
      rintro e u' w'' ⟨rfl, rfl, rfl⟩
      have r0 := cell_of_heap HO0.out
      have r1 := cell_of_heap HO1.out
      have r2 := cell_of_heap HO2.out
      refine ⟨.tuple #[(Value.slice Av ps.length cv), .int .i64 0, .int .i64 0], by simp [results, Tryd.results6, go_sem, r0, r1, r2], ?_⟩
      show readQ (readS s) w _ _
      rw [HS.out]
      exact ⟨_, rfl, HOW.out, HU.out⟩
    · rintro en w2 hq
      obtain ⟨rfl, u2⟩ := hq
      have hU : Upd noBlk w w2 := hW0.trans (u2)
      have g0 := u2.heap (id hb0) id
      have g1 := u2.heap (id hb1) id
      have g2 := u2.heap (id hb2) id
      change Leaves Tryd.prog Tryd.f6 _ _ (_ :: _) (.panicking (fail place e)) w2
      refine leaves_cons (f := 10) (args := #[.pointer (some ⟨w.heap.size, 0, none⟩), .pointer (some ⟨w.heap.size + 1, 0, none⟩), .pointer (some ⟨w.heap.size + 1 + 1, 0, none⟩)]) (by simp) (by simp [go_sem]) ?_
      refine (catch_fail _ _ _ _ _ _ _ _ _ (by omega) (by omega) (by omega) g0 g1 g2).mono ?_
      rintro e' u' w'' ⟨rfl, rfl, u3, o0, o1, o2⟩
      have r0 := cell_of_heap o0
      have r1 := cell_of_heap o1
      have r2 := cell_of_heap o2
      refine ⟨.tuple #[.slice none 0 0, .int .i64 place, .int .i64 e], by simp [results, Tryd.results6, go_sem, r0, r1, r2], ?_⟩
      show readQ (readS s) w _ _
      rw [hspec, hr]
      exact ⟨rfl, hU.then u3 (fun k hk h => by omega)⟩
end Go.Proofs.YtojdgdeefhndiaaDoor
