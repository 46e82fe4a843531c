/- Walks of the reference of the polygon files: text; Write, form 2. Walks of the reference of the polygon files: index, faces; Write, form 1. -/
import Derived.Test.YtojdgdeefhndiaaGreatDoorM30
import Derived.Test.YtojdgdeefhndiaaGreatDoorM35
import Derived.Test.YtojdgdeefhndiaaGreatDoorM29
namespace Go.Proofs.YtojdgdeefhndiaaGreatDoor
open Go Go.RowKit Sp Bg
set_option maxRecDepth 100000

theorem dec_len {n : Nat} (h : n < 16777216) : (dec n).length ≤ 8 := (dec_facts n).2.2.2 8 (by decide) (Nat.lt_trans h (by decide))
theorem ptW_join (p : Pt) : joinW (ptW p) = dec p.1.toNat ++ [32] ++ dec p.2.1.toNat ++ [32] ++ dec p.2.2.toNat := by simp [ptW, joinW]
set_option maxHeartbeats 800000 in
theorem text_any (x y z : Nat) (hx : x < 16777216) (hy : y < 16777216) (hz : z < 16777216) (w : World) :
    Calls Tryz.prog 26 #[.agg #[.int .i64 x, .int .i64 y, .int .i64 z]] w fun en w' => strR (dec x ++ [32] ++ dec y ++ [32] ++ dec z) w en w' := by
  have HU0 : Hid (Upd noBlk w (w.alloc (.cells #[.int .i64 x, .int .i64 y, .int .i64 z] 51))) := (Upd.refl _ _).alloc _
  have HB0 : Hid ((w.alloc (.cells #[.int .i64 x, .int .i64 y, .int .i64 z] 51)).heap[w.heap.size]? = some (.cells #[.int .i64 x, .int .i64 y, .int .i64 z] 51)) := heap_alloc_new _ _
  have s1 : (bs (dec x)).size ≤ 8 := by rw [bs_size]; exact dec_len hx
  have s2 : (bs (dec y)).size ≤ 8 := by rw [bs_size]; exact dec_len hy
  have s3 : (bs (dec z)).size ≤ 8 := by rw [bs_size]; exact dec_len hz
  have q1 : (⟨#[32]⟩ : ByteArray).size = 1 := rfl
  go_enter Tryz.func26, Tryz.ntmps26
  go_wp2_with fail
  generalize w.alloc (.cells #[.int .i64 x, .int .i64 y, .int .i64 z] 51) = w1 at *
  refine wp_region_tree 13 (OT.sures [0, 1, 4, 5, 9, 10] (.run 2 (.sure 3 (.run 6 (.sure 7 (.sure 8 (.run 11 (.sure 12 .nil)))))))) (fun w' => Upd noBlk w1 w') (by kernel_rfl) (by kernel_rfl) (fun c a d v w h => by cases d <;> exact h) (Upd.refl _ _).drew ?_
  simp only [OT.sures]
  iterate 6 (apply wpT_sure rfl rfl; focus (intro w' hw'; have g := hw'.heap HB0.out id; have y1 := cell_of_row _ _ 0 _ _ _ g; have y2 := cell_of_row _ _ 1 _ _ _ g; have y3 := cell_of_row _ _ 2 _ _ _ g; go_simp; rfl))
  refine wpT_run (fun w' => Upd noBlk w1 w') (fun _ h => h) rfl (fun K hK => ?_)
  go_simp
  refine (number_anyR x hx _).mono ?_
  rintro e1 w4 ⟨rfl, u4⟩
  refine hK _ _ ⟨(Upd.refl _ _).drew.trans u4, ?_⟩
  clear hK K
  have U4 := Lib.hid ((Upd.refl noBlk w1).drew.trans u4)
  refine wpT_sure rfl rfl (.string (bs (dec x) ++ ⟨#[32]⟩)) (fun w' _ => by go_simp; omega) ?_
  refine wpT_run (fun w' => Upd noBlk w1 w') (fun _ h => h) rfl (fun K hK => ?_)
  go_simp
  refine (number_anyR y hy _).mono ?_
  rintro e1 w5 ⟨rfl, u5⟩
  refine hK _ _ ⟨U4.out.trans u5, ?_⟩
  clear hK K
  have U5 := Lib.hid (U4.out.trans u5)
  refine wpT_sure rfl rfl (.string (bs (dec x) ++ ⟨#[32]⟩ ++ bs (dec y))) (fun w' _ => by go_simp; omega) ?_
  refine wpT_sure rfl rfl (.string (bs (dec x) ++ ⟨#[32]⟩ ++ bs (dec y) ++ ⟨#[32]⟩)) (fun w' _ => by go_simp; omega) ?_
  refine wpT_run (fun w' => Upd noBlk w1 w') (fun _ h => h) rfl (fun K hK => ?_)
  go_simp
  refine (number_anyR z hz _).mono ?_
  rintro e1 w6 ⟨rfl, u6⟩
  refine hK _ _ ⟨U5.out.trans u6, ?_⟩
  clear hK K
  have U6 := Lib.hid (U5.out.trans u6)
  refine wpT_sure rfl rfl (.string (bs (dec x) ++ ⟨#[32]⟩ ++ bs (dec y) ++ ⟨#[32]⟩ ++ bs (dec z))) (fun w' _ => by go_simp; omega) ?_
  refine wpT_nil ?_
  simp only [List.drop_succ_cons, List.drop_zero]
  go_wp2_with fail
  go_ret
  exact ⟨by rw [← bs_append, ← bs_append, ← bs_append, ← bs_append]; rfl, HU0.out.trans U6.out⟩
/-- Form 2. -/
def write2 (ps : List Poly) : Bytes := joinL ((ps.flatMap polyW).map joinW)
def body2 (ps : List Poly) : Bytes := ps.flatMap (fun p => joinW [wPoly, dec p.1.length] ++ [10] ++ joinL (p.1.map (fun c => joinW (ptW c))))
theorem joinL_append (a b : List Bytes) : joinL (a ++ b) = joinL a ++ joinL b := by simp [joinL]
theorem write2_body : ∀ ps : List Poly, write2 ps = body2 ps
  | [] => rfl
  | p :: r => by
    have ih := write2_body r
    unfold write2 body2 at ih ⊢
    rw [List.flatMap_cons, List.flatMap_cons, List.map_append, joinL_append, ih, polyW, List.map_cons, List.map_map]
    simp [joinL, Function.comp_def]
def pts2 (l : List Pt) : Bytes := joinL (l.map (fun c => joinW (ptW c)))
theorem pts2_cons (c : Pt) (r : List Pt) : pts2 (c :: r) = joinW (ptW c) ++ [10] ++ pts2 r := by simp [pts2, joinL]
theorem body2_cons (p : Poly) (r : List Poly) : body2 (p :: r) = joinW [wPoly, dec p.1.length] ++ [10] ++ pts2 p.1 ++ body2 r := by simp [body2, pts2]
theorem pts2_drop {l : List Pt} {k : Nat} (h : k < l.length) : pts2 (l.drop k) = joinW (ptW l[k]) ++ [10] ++ pts2 (l.drop (k + 1)) := by
  rw [List.drop_eq_getElem_cons h, pts2_cons]
theorem body2_drop {ps : List Poly} {k : Nat} (h : k < ps.length) : body2 (ps.drop k) = joinW [wPoly, dec ps[k].1.length] ++ [10] ++ pts2 ps[k].1 ++ body2 (ps.drop (k + 1)) := by
  rw [List.drop_eq_getElem_cons h, body2_cons]
theorem in_lt {p : Pt} (h : inR p = true) : p.1.toNat < 16777216 ∧ p.2.1.toNat < 16777216 ∧ p.2.2.toNat < 16777216 := by
  obtain ⟨x, y, z⟩ := p
  obtain ⟨h1, h2, h3, h4, h5, h6⟩ := (inR_iff x y z).1 h
  exact ⟨by simp only; omega, by simp only; omega, by simp only; omega⟩
theorem pts2_length : ∀ (l : List Pt), l.all inR = true → (pts2 l).length ≤ 27 * l.length
  | [], _ => by simp [pts2, joinL]
  | c :: r, h => by
    rw [List.all_cons, Bool.and_eq_true] at h
    have ih := pts2_length r h.2
    obtain ⟨h1, h2, h3⟩ := in_lt h.1
    rw [pts2_cons, ptW_join]
    have := dec_len h1; have := dec_len h2; have := dec_len h3
    simp only [List.length_append, List.length_cons, List.length_nil]; omega
theorem body2_length : ∀ (ps : List Poly), (∀ p, p ∈ ps → validP p.1) → (body2 ps).length ≤ 1800 * ps.length
  | [], _ => Nat.le_refl _
  | p :: r, h => by
    have ih := body2_length r (fun q hq => h q (by simp [hq]))
    obtain ⟨v3, v64, vin⟩ := h p (by simp)
    have h1 := pts2_length p.1 vin
    have h2 := dec_len (n := p.1.length) (by omega)
    rw [body2_cons]
    simp only [joinW, List.length_append, List.length_cons, List.length_nil]
    have : wPoly.length = 4 := rfl
    omega
set_option maxHeartbeats 1500000 in
theorem qWrite2_any (v : Value) (ps : List Poly) (hn : ps.length ≤ 100) (hv : ∀ p, p ∈ ps → validP p.1) (w : World) (h : RdPolys w v ps) :
    Calls Tryz.prog 14 #[.int .i64 2, v] w fun en w' => writeR (write2 ps) 0 w en w' := by
  obtain ⟨A, cap, rfl, hr⟩ := h
  have HR := Lib.hid hr
  have HV := Lib.hid hv
  have hlen : ((ps.length : Nat) : Int) ≤ 100 := by omega
  clear hr hv
  go_enter Tryz.func14, Tryz.ntmps14
  go_wp2_with fail
  go_loopw [6, 7] (fun i _ wr => ∃ k : Nat, i = .int .i64 k ∧ k ≤ ps.length ∧ Upd noBlk w wr) (fun i _ _ => ps.length - (intOf i).toNat)
  case atStart => exact ⟨0, rfl, Nat.zero_le _, Upd.refl _ _⟩
  case round =>
    obtain ⟨k, rfl, hk, hu⟩ := hrel
    have HU := Lib.hid hu
    clear hu
    by_cases hlt : k < ps.length
    · have hlt' : ((k : Nat) : Int) < ((ps.length : Nat) : Int) := by omega
      obtain ⟨b, off, rfl, f1⟩ := HR.out (by omega)
      obtain ⟨pv, c10, c11, r1⟩ := f1 k hlt
      have d0 := HU.out.cell c10 id
      have d1 := HU.out.cell c11 id
      have hw0 := wrongS_valid (HV.out _ (List.getElem_mem hlt))
      have HW := Lib.hid (qwrong_any pv ps[k].2 ps[k].1 wr (r1.keep HU.out))
      rw [hw0] at HW
      clear f1 c10 c11 r1 hw0
      generalize ps[k] = pk at *
      go_wp2_with fail
      refine HW.out.mono ?_
      rintro e1 w2 ⟨rfl, u2⟩
      go_wp2_with fail
      exact ⟨⟨k + 1, by go_num, hlt, HU.out.trans u2⟩, by simp [intOf]; omega⟩
    · obtain rfl : k = ps.length := by omega
      have H0 : Hid (write2 ps = body2 (ps.drop 0)) := write2_body ps
      have HLT : Hid ((write2 ps).length ≤ 200000) := by have := body2_length ps HV.out; show _ ≤ _; rw [write2_body]; omega
      have U2 := HU
      go_wp2_with fail
      go_loopw [8, 9, 10, 11] (fun sv i _ _ wr' => ∃ (k : Nat) (acc : Bytes), sv = .string (bs acc) ∧ i = .int .i64 k ∧ k ≤ ps.length ∧ write2 ps = acc ++ body2 (ps.drop k) ∧ Upd noBlk w wr') (fun _ i _ _ _ => ps.length - (intOf i).toNat)
      case atStart => exact ⟨0, [], rfl, rfl, Nat.zero_le _, H0.out, U2.out⟩
      case round =>
        obtain ⟨k, acc, rfl, rfl, hk, hsp, hu⟩ := hrel
        have HU := Lib.hid hu
        have HSP := Lib.hid hsp
        have hsz : (bs acc).size ≤ 200000 := by rw [bs_size]; have := HLT.out; rw [HSP.out, List.length_append] at this; omega
        clear hu hsp
        by_cases hlt : k < ps.length
        · have hlt' : ((k : Nat) : Int) < ((ps.length : Nat) : Int) := by omega
          obtain ⟨b, off, rfl, f1⟩ := HR.out (by omega)
          obtain ⟨pv, c10, c11, r1⟩ := f1 k hlt
          have d0 := HU.out.cell c10 id
          have HBD := Lib.hid (body2_drop hlt)
          have HVK := Lib.hid (HV.out _ (List.getElem_mem hlt))
          have r2 := r1.keep HU.out
          clear f1 c10 c11 r1
          generalize ps[k] = pk at *
          obtain ⟨pts, place⟩ := pk
          obtain ⟨B, cp, rfl, e1⟩ := r2
          have E1 := Lib.hid e1
          clear e1
          have hpl : ((pts.length : Nat) : Int) ≤ 64 := by have := HVK.out.2.1; simp only at this; omega
          have HB := Lib.hid (number_anyR pts.length (by omega) wr)
          simp only at d0
          go_wp2_with fail
          refine HB.out.mono ?_
          rintro e1 w3 ⟨rfl, u3⟩
          have U3 := Lib.hid u3
          have H1 : Hid (write2 ps = acc ++ wPoly ++ [32] ++ dec pts.length ++ [10] ++ (pts2 (pts.drop 0) ++ body2 (ps.drop (k + 1)))) := by show _ = _; rw [HSP.out, HBD.out]; simp [joinW]
          have hsb : (bs (dec pts.length)).size ≤ 8 := by rw [bs_size]; exact dec_len (by omega)
          have q5 : (⟨#[112, 111, 108, 121, 32]⟩ : ByteArray).size = 5 := rfl
          have q1 : (⟨#[10]⟩ : ByteArray).size = 1 := rfl
          clear u3 HB
          go_wp2_with fail
          obtain ⟨wo, rfl⟩ : ∃ wo : World, wo = wr := ⟨_, rfl⟩
          go_loopw [8, 11] (fun sv i wr' => ∃ (j : Nat) (acc2 : Bytes), sv = .string (bs acc2) ∧ i = .int .i64 j ∧ j ≤ pts.length ∧ write2 ps = acc2 ++ (pts2 (pts.drop j) ++ body2 (ps.drop (k + 1))) ∧ Upd noBlk wo wr') (fun _ i _ => pts.length - (intOf i).toNat)
          case atStart => exact ⟨0, acc ++ wPoly ++ [32] ++ dec pts.length ++ [10], by rw [show (⟨#[112, 111, 108, 121, 32]⟩ : ByteArray) = bs (wPoly ++ [32]) from rfl, show (⟨#[10]⟩ : ByteArray) = bs [10] from rfl, bs_append, bs_append, bs_append]; simp, rfl, Nat.zero_le _, H1.out, U3.out⟩
          case round =>
            obtain ⟨j, acc2, rfl, rfl, hj, hsp, hu⟩ := hrel
            have HU4 := Lib.hid hu
            have HS4 := Lib.hid hsp
            have hsz2 : (bs acc2).size ≤ 200000 := by rw [bs_size]; have := HLT.out; rw [HS4.out, List.length_append] at this; omega
            clear hu hsp
            by_cases hjt : j < pts.length
            · have hjt' : ((j : Nat) : Int) < ((pts.length : Nat) : Int) := by omega
              obtain ⟨d1, p1, rfl, g1⟩ := E1.out (by omega)
              obtain ⟨x1, x2, x3⟩ := (g1 j hjt).keep HU4.out
              have HPD := Lib.hid (pts2_drop hjt)
              have hin : inR pts[j] = true := List.all_eq_true.1 HVK.out.2.2 _ (List.getElem_mem hjt)
              clear g1
              generalize pts[j] = pt at *
              obtain ⟨px, py, pz⟩ := pt
              obtain ⟨i1, i2, i3, i4, i5, i6⟩ := (inR_iff _ _ _).1 hin
              obtain ⟨nx, rfl⟩ : ∃ n : Nat, px = n := ⟨px.toNat, by omega⟩
              obtain ⟨ny, rfl⟩ : ∃ n : Nat, py = n := ⟨py.toNat, by omega⟩
              obtain ⟨nz, rfl⟩ : ∃ n : Nat, pz = n := ⟨pz.toNat, by omega⟩
              simp only at x1 x2 x3
              have X1 := Lib.hid x1
              have X2 := Lib.hid x2
              have X3 := Lib.hid x3
              clear hin x1 x2 x3
              have q1 : (⟨#[10]⟩ : ByteArray).size = 1 := rfl
              have x1 := X1.out
              have x2 := X2.out
              have x3 := X3.out
              have hT := text_any nx ny nz (by omega) (by omega) (by omega) wr
              have hst : (bs (dec nx ++ [32] ++ dec ny ++ [32] ++ dec nz)).size ≤ 26 := by
                rw [bs_size]
                have := dec_len (n := nx) (by omega); have := dec_len (n := ny) (by omega); have := dec_len (n := nz) (by omega)
                simp only [List.length_append, List.length_cons, List.length_nil]; omega
              generalize htx : dec nx ++ [32] ++ dec ny ++ [32] ++ dec nz = tx at *
              have HTX := Lib.hid htx
              have HT := Lib.hid hT
              clear htx hT
              go_wp2_with fail
              refine HT.out.mono ?_
              rintro e1 w4 ⟨rfl, u4⟩
              have U6 := Lib.hid u4
              clear u4 HT
              go_wp2_with fail
              refine ⟨⟨j + 1, acc2 ++ tx ++ [10], by rw [show (⟨#[10]⟩ : ByteArray) = bs [10] from rfl, bs_append, bs_append], by go_num, hjt, ?_, HU4.out.trans U6.out⟩, by simp [intOf]; omega⟩
              rw [HS4.out, HPD.out, ptW_join, ← HTX.out]; simp
            · obtain rfl : j = pts.length := by omega
              go_wp2_with fail
              refine ⟨⟨k + 1, acc2, rfl, by go_num, hlt, ?_, HU.out.trans HU4.out⟩, by simp [intOf]; omega⟩
              rw [HS4.out, List.drop_eq_nil_of_le (Nat.le_refl _)]; rfl
        · obtain rfl : k = ps.length := by omega
          go_wp2_with fail
          go_ret2
          show writeR (write2 ps) 0 w _ _
          refine ⟨?_, HU.out⟩
          rw [HSP.out, List.drop_eq_nil_of_le (Nat.le_refl _)]
          simp [body2]
end Go.Proofs.YtojdgdeefhndiaaGreatDoor
namespace Go.Proofs.YtojdgdeefhndiaaGreatDoor
open Go Go.RowKit Sp Bg
set_option maxRecDepth 100000

/-- The index of a corner, or -1. -/
def idxI (l : List Pt) (p : Pt) : Int := if p ∈ l then (l.idxOf p : Nat) else -1
theorem idxOf_at {l : List Pt} {k : Nat} (h : k < l.length) {p : Pt} (hp : l[k] = p) (hn : p ∉ l.take k) : l.idxOf p = k := by
  have e : l = l.take k ++ (l[k] :: l.drop (k + 1)) := by rw [← List.drop_eq_getElem_cons h, List.take_append_drop]
  rw [e, List.idxOf_append, if_neg hn, hp]
  simp [List.length_take, Nat.min_eq_left (Nat.le_of_lt h)]
set_option maxHeartbeats 800000 in
theorem index_any (v : Value) (l : List Pt) (x y z : Int) (hl : l.length ≤ 4294967296) (w : World) (h : RdPts w v l) :
    Calls Tryz.prog 44 #[v, .agg #[.int .i64 x, .int .i64 y, .int .i64 z]] w fun en w' => en = .returned (.int .i64 (idxI l (x, y, z))) ∧ Upd noBlk w w' := by
  obtain ⟨A, cap, rfl, hc⟩ := h
  have HC := Lib.hid hc
  have HU0 : Hid (Upd noBlk w (w.alloc (.cells #[.int .i64 x, .int .i64 y, .int .i64 z] 51))) := (Upd.refl _ _).alloc _
  have HB0 : Hid ((w.alloc (.cells #[.int .i64 x, .int .i64 y, .int .i64 z] 51)).heap[w.heap.size]? = some (.cells #[.int .i64 x, .int .i64 y, .int .i64 z] 51)) := heap_alloc_new _ _
  clear hc
  go_enter Tryz.func44, Tryz.ntmps44
  go_wp2_with fail
  generalize w.alloc (.cells #[.int .i64 x, .int .i64 y, .int .i64 z] 51) = w1 at *
  have q0 := cell_of_row _ _ 0 _ _ _ HB0.out
  have q1 := cell_of_row _ _ 1 _ _ _ HB0.out
  have q2 := cell_of_row _ _ 2 _ _ _ HB0.out
  change _ = some (Value.int .i64 x) at q0
  change _ = some (Value.int .i64 y) at q1
  change _ = some (Value.int .i64 z) at q2
  go_loopw [5] (fun i wr => ∃ (k n : Nat), i = .int .i64 k ∧ k ≤ l.length ∧ (x, y, z) ∉ l.take k ∧ wr = w1.drewN n) (fun i _ => l.length - (intOf i).toNat)
  case atStart => exact ⟨0, 0, rfl, Nat.zero_le _, by simp, rfl⟩
  case round =>
    obtain ⟨k, n, rfl, hk, hn, rfl⟩ := hrel
    have HN := Lib.hid hn
    clear hn
    by_cases hlt : k < l.length
    · have hlt' : ((k : Nat) : Int) < ((l.length : Nat) : Int) := by omega
      obtain ⟨b, off, rfl, ea⟩ := HC.out (by omega)
      obtain ⟨x1, x2, x3⟩ := (ea k hlt).keep HU0.out
      have HTK : Hid (l.take (k + 1) = l.take k ++ [l[k]]) := (List.take_append_getElem hlt).symm
      by_cases he : l[k] = (x, y, z)
      · have HI : Hid (idxI l (x, y, z) = (k : Int)) := by
          show _ = _
          unfold idxI
          rw [if_pos (by rw [← he]; exact List.getElem_mem hlt), idxOf_at hlt he HN.out]
        rw [he] at x1 x2 x3
        simp only at x1 x2 x3
        clear ea he
        go_wp2_with fail
        go_quiet (fail)
        go_wp2_with fail
        go_ret
        exact ⟨by rw [HI.out]; rfl, HU0.out.trans (((Upd.refl _ _).drewN n).drewN nq)⟩
      · have HN2 : Hid ((x, y, z) ∉ l.take (k + 1)) := by
          show _ ∉ _
          rw [HTK.out, List.mem_append, List.mem_singleton]
          rintro (h | h)
          · exact HN.out h
          · exact he h.symm
        clear ea
        generalize l[k] = pt at *
        obtain ⟨a, b', c⟩ := pt
        simp only at x1 x2 x3
        go_wp2_with fail
        refine wp_region_quiet_lit (by kernel_rfl) (by kernel_rfl) ?_
        iterate 5 (quiet_step (fail))
        refine wpQuiet_step (fun K hK => ?_)
        go_simp
        refine ⟨.bool false, fun m => ?_, hK _ ?_⟩
        · by_cases h1 : a = x
          · rw [if_pos h1]
            by_cases h2 : b' = y
            · rw [if_pos h2]
              have h3 : ¬ c = z := fun h3 => he (by rw [h1, h2, h3])
              rw [if_neg h3]
              exact ⟨rfl, rfl⟩
            · rw [if_neg h2]
              exact ⟨rfl, rfl⟩
          · rw [if_neg h1]
            exact ⟨rfl, rfl⟩
        clear hK K
        refine wpQuiet_nil ?_
        intro _ hw'
        obtain ⟨nq, hw''⟩ := hw'
        subst hw''
        clear he
        go_wp2_with fail
        exact ⟨⟨k + 1, _, by go_num, hlt, HN2.out, rfl⟩, by simp [intOf]; omega⟩
    · obtain rfl : k = l.length := by omega
      have HI : Hid (idxI l (x, y, z) = -1) := by
        show _ = _
        unfold idxI
        have := HN.out
        rw [List.take_length] at this
        rw [if_neg this]
      go_wp2_with fail
      go_ret
      exact ⟨by rw [HI.out]; rfl, HU0.out.trans ((Upd.refl _ _).drewN n)⟩
/-! ### faces -/
theorem newP_append : ∀ (a P b : List Pt), newP P (a ++ b) = newP P a ++ newP (P ++ newP P a) b
  | [], P, b => by simp [newP]
  | c :: a, P, b => by
    rw [List.cons_append, newP, newP]
    split
    · exact newP_append a P b
    · rw [newP_append a (P ++ [c]) b, List.cons_append]
      simp [List.append_assoc]
theorem newP_snoc (P a : List Pt) (c : Pt) : newP P (a ++ [c]) = newP P a ++ (if c ∈ P ++ newP P a then [] else [c]) := by
  rw [newP_append, newP]
  split <;> rfl
theorem newP_pre (P pts : List Pt) (j : Nat) : ∃ t, newP P pts = newP P (pts.take j) ++ t := by
  refine ⟨newP (P ++ newP P (pts.take j)) (pts.drop j), ?_⟩
  rw [← newP_append, List.take_append_drop]
theorem idx_stable {P pts : List Pt} {j : Nat} {c : Pt} (h : c ∈ P ++ newP P (pts.take j)) : (P ++ newP P (pts.take j)).idxOf c = (P ++ newP P pts).idxOf c := by
  obtain ⟨t, ht⟩ := newP_pre P pts j
  rw [ht, ← List.append_assoc, List.idxOf_append (l₁ := P ++ newP P (pts.take j)), if_pos h]
theorem joinW_flat : ∀ (w : Bytes) (ws : List Bytes), joinW (w :: ws) = w ++ ws.flatMap (fun x => 32 :: x)
  | w, [] => by simp [joinW]
  | w, v :: r => by rw [joinW, joinW_flat v r]; simp
/-- Form 1. -/
def body1 (P : List Pt) (ps : List Poly) : Bytes := joinL ((W1 P ps).map joinW)
def write1 (ps : List Poly) : Bytes := body1 [] ps
def vL (l : List Pt) : Bytes := joinL (l.map (fun c => joinW (vW c)))
def fL (Q pts : List Pt) : Bytes := 102 :: pts.flatMap (fun c => 32 :: dec (Q.idxOf c + 1))
theorem fL_eq (Q pts : List Pt) : fL Q pts = joinW (fW Q pts) := by
  rw [fW, joinW_flat, List.flatMap_map]; rfl
theorem body1_cons (P : List Pt) (p : Poly) (r : List Poly) : body1 P (p :: r) = vL (newP P p.1) ++ fL (P ++ newP P p.1) p.1 ++ [10] ++ body1 (P ++ newP P p.1) r := by
  unfold body1
  rw [W1, List.map_append, List.map_cons, List.map_map, joinL_append, fL_eq]
  simp [vL, joinL, Function.comp_def]
theorem body1_drop {P : List Pt} {ps : List Poly} {k : Nat} (h : k < ps.length) : body1 P (ps.drop k) = vL (newP P ps[k].1) ++ fL (P ++ newP P ps[k].1) ps[k].1 ++ [10] ++ body1 (P ++ newP P ps[k].1) (ps.drop (k + 1)) := by
  rw [List.drop_eq_getElem_cons h, body1_cons]
theorem vL_snoc (l : List Pt) (c : Pt) : vL (l ++ [c]) = vL l ++ [118, 32] ++ joinW (ptW c) ++ [10] := by
  simp [vL, joinL, vW, wV, joinW, ptW]
theorem fL_snoc (Q l : List Pt) (c : Pt) : fL Q (l ++ [c]) = fL Q l ++ [32] ++ dec (Q.idxOf c + 1) := by simp [fL]
end Go.Proofs.YtojdgdeefhndiaaGreatDoor
