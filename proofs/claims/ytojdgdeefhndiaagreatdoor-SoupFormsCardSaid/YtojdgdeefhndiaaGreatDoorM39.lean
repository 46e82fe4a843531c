/- Walks of the laws of the polygon files: SoupForms. -/
import Derived.Test.YtojdgdeefhndiaaGreatDoorM38
import Derived.Test.YtojdgdeefhndiaaGreatDoorM29
namespace Go.Proofs.YtojdgdeefhndiaaGreatDoor
open Go Go.RowKit Sp
set_option maxRecDepth 100000
def frontsV : Array Value := #[.string ⟨#[]⟩, .string ⟨#[10]⟩, .string ⟨#[35, 32, 83, 79, 85, 80, 10]⟩, .string ⟨#[32, 32, 9, 13, 10]⟩, .string ⟨#[35, 10, 35, 112, 111, 108, 121, 10, 10]⟩]
theorem frontsV_get : ∀ j, j < 5 → ∃ xs, xs ∈ fronts ∧ frontsV[j]? = some (.string (bs (joinL xs)))
  | 0, _ => ⟨[], by simp [fronts], rfl⟩ | 1, _ => ⟨[[]], by simp [fronts], rfl⟩ | 2, _ => ⟨[[35, 32, 83, 79, 85, 80]], by simp [fronts], rfl⟩ | 3, _ => ⟨[[32, 32, 9, 13]], by simp [fronts], rfl⟩ | 4, _ => ⟨[[35], [35, 112, 111, 108, 121], []], by simp [fronts], rfl⟩
  | n + 5, h => absurd h (by omega)
theorem read_ba (s : Bytes) (r : Out) (h : readS s = r) (hs : s.length ≤ 4294901760) (w : World) (hsh : w.ShapedOpen Tryz.prog) : Calls Tryz.prog 17 #[.string (bs s)] w fun en w' => readQ r w en w' := by
  have := read_any s (by omega) w hsh
  rw [h] at this
  exact this
/-- Comparing what was read with what was made. -/
theorem same_ok (v1 v2 : Value) (ps qs : List Poly) (hm : ps.map (·.1) = qs.map (·.1)) (hn : qs.length ≤ 4294967296) (hv : ∀ p, p ∈ qs → validP p.1) (w : World) (h1 : RdPolys w v1 ps) (h2 : RdPolys w v2 qs) :
    Calls Tryz.prog 18 #[v1, v2, .bool false] w fun en w' => en = .returned (.bool true) ∧ ∃ n, w' = w.drewN n := by
  have hl : ps.length = qs.length := by have := congrArg List.length hm; simpa using this
  refine qSame_yes v1 v2 ps qs false hl (fun j h1 h2 => ⟨?_, fun h => by cases h⟩) hn (fun p hp => by have := (hv p hp).2.1; omega) w h1 h2
  have e1 : (ps.map (·.1))[j]'(by simpa using h1) = ps[j].1 := by simp
  have e2 : (qs.map (·.1))[j]'(by simpa using h2) = qs[j].1 := by simp
  rw [← e1, ← e2]
  congr 1
set_option maxHeartbeats 1500000 in
theorem lawSoupForms_c (A : Option Addr) (cap : Nat) (l : List Quad) (n : Int) (hl : l.length ≤ cap) (hc : cap ≤ maxLen) (_hf : (Lit.int .i64 n).wf = true) (w : World) (hsh : w.ShapedOpen Tryz.prog) (h : RdQ w A l) :
    Calls Tryz.prog 7 #[.slice A l.length cap, .int .i64 n] w fun en w' => en = .returned (.bool true) ∧ Upd noBlk w w' := by
  have H := Lib.hid h
  have HSH := Lib.hid hsh
  have HC := Lib.hid hc
  have H1 := Lib.hid (sanity_any w hsh)
  clear h hsh hc
  go_enter Tryz.func7, Tryz.ntmps7
  go_wp2_with fail
  refine H1.out.mono ?_
  rintro e1 w1 ⟨rfl, u1⟩
  have U1 := Lib.hid u1
  clear u1
  go_wp2_with fail
  refine (qMade_any A cap l hl HC.out w1 (H.out.keep U1.out)).mono ?_
  rintro e1 w2 ⟨v, ps, rfl, hps, hg, ho, u2⟩
  have U2 := Lib.hid (U1.out.trans u2)
  have HG := Lib.hid (goodPs_valid hg)
  have HO := Lib.hid ho.rd
  obtain ⟨Av, cv, hv⟩ := ho.len
  subst hv
  clear u2 hg ho
  by_cases h0 : ps.length = 0
  · have e0 : (((ps.length : Nat) : Int) == 0) = true := by rw [h0]; rfl
    clear h0
    go_wp2_with fail
    go_ret
    exact ⟨rfl, U2.out⟩
  · have e0 : (((ps.length : Nat) : Int) == 0) = false := by rw [beq_eq_false_iff_ne]; omega
    have HNE : Hid (ps ≠ []) := fun e => h0 (by rw [e]; rfl)
    clear h0
    obtain ⟨m5, hm5⟩ : ∃ m : Nat, n % 5 = m := ⟨(n % 5).toNat, by omega⟩
    have hm5' : m5 < 5 := by omega
    have hm5'' : ((m5 : Nat) : Int) < 5 := by omega
    obtain ⟨xs, hxs, hxg⟩ := frontsV_get m5 hm5'
    have hxc : (w2.alloc (.cells frontsV 9)).cell? ⟨w2.heap.size, m5, none⟩ = some (.string (bs (joinL xs))) := by rw [cell_of_row _ _ _ _ _ _ (heap_alloc_new w2 (.cells frontsV 9))]; exact hxg
    obtain ⟨f1, f2, f3⟩ := fronts_ok xs hxs
    have F1 := Lib.hid f1
    have F2 := Lib.hid f2
    have F3 := Lib.hid f3
    have hsx : (bs (joinL xs)).size ≤ 20 := by rw [bs_size]; exact f3
    have HU3 : Hid (Upd noBlk w2 (w2.alloc (.cells frontsV 9))) := (Upd.refl _ _).alloc _
    unfold frontsV at hxc
    clear hxg hxs f1 f2 f3
    go_wp2_with (go_at_call 16; refine (Mod_any _ _ (by decide) (by decide) _).mono ?_; rintro e1 w1 ⟨rfl, rfl⟩)
    refine (qWrite1_any _ ps (by omega) HG.out _ (HO.out.keep ((Upd.refl _ _).alloc _))).mono ?_
    rintro e1 w4 ⟨rfl, u4⟩
    have U4 : Hid (Upd noBlk w2 w4) := ((Upd.refl _ _).alloc _).trans u4
    clear u4 hxc HU3
    go_wp2_with fail
    refine (qWrite2_any _ ps (by omega) HG.out _ (HO.out.keep U4.out)).mono ?_
    rintro e1 w5 ⟨rfl, u5⟩
    have U5 := Lib.hid (U4.out.trans u5)
    clear u5
    go_wp2_with fail
    refine (qWrite3_any _ ps (by omega) HG.out _ (HO.out.keep U5.out)).mono ?_
    rintro e1 w6 ⟨rfl, u6⟩
    have U6 := Lib.hid (U5.out.trans u6)
    clear u6
    have la : (write1 ps).length ≤ 50000 := by have := write1_length ps [] HG.out (by simp; omega); show (body1 [] ps).length ≤ _; omega
    have lb : (write2 ps).length ≤ 36000 := by have := body2_length ps HG.out; rw [write2_body]; omega
    have lc : (write3 ps).length ≤ 12000 := by have := (write3_length ps HG.out).2; omega
    have lx : (joinL xs).length ≤ 20 := F3.out
    have sa : (bs (write1 ps)).size ≤ 50000 := by rw [bs_size]; exact la
    have sb : (bs (write2 ps)).size ≤ 36000 := by rw [bs_size]; exact lb
    have sc : (bs (write3 ps)).size ≤ 12000 := by rw [bs_size]; exact lc
    have hh1 : ∀ t, (write1 ps ++ t).head? ≠ some 83 := fun t e => by rcases write1_head HNE.out t with h | h <;> rw [h] at e <;> cases e
    have hh2 : ∀ t, (write2 ps ++ t).head? ≠ some 83 := fun t e => by rw [write2_head HNE.out t] at e; cases e
    obtain ⟨q1, m1, r1⟩ := read_one xs ps F1.out HG.out (by omega) (not_magic (front_head F2.out (by have := hh1 []; rwa [List.append_nil] at this)))
    obtain ⟨q2, m2, r2⟩ := read_two xs ps F1.out HG.out (by omega) HNE.out (not_magic (front_head F2.out (by have := hh2 []; rwa [List.append_nil] at this)))
    obtain ⟨i3, r3⟩ := one_then_two xs ps F1.out HG.out (by omega) HNE.out (by rw [List.append_assoc]; exact not_magic (front_head F2.out (hh1 _)))
    obtain ⟨i4, r4⟩ := two_then_one xs ps F1.out HG.out (by omega) HNE.out (by rw [List.append_assoc]; exact not_magic (front_head F2.out (hh2 _)))
    have M1 := Lib.hid m1
    have M2 := Lib.hid m2
    have R1 : Hid (∀ W, W.ShapedOpen Tryz.prog → Calls Tryz.prog 17 #[.string (bs (joinL xs) ++ bs (write1 ps))] W fun en w' => readQ (.ok q1) W en w') := fun W hW => by rw [bs_append]; exact read_ba _ _ r1 (by rw [List.length_append]; omega) W hW
    have R2 : Hid (∀ W, W.ShapedOpen Tryz.prog → Calls Tryz.prog 17 #[.string (bs (joinL xs) ++ bs (write2 ps))] W fun en w' => readQ (.ok q2) W en w') := fun W hW => by rw [bs_append]; exact read_ba _ _ r2 (by rw [List.length_append]; omega) W hW
    have R3 : Hid (∀ W, W.ShapedOpen Tryz.prog → Calls Tryz.prog 17 #[.string (bs (joinL xs) ++ bs (write1 ps) ++ bs (write2 ps))] W fun en w' => readQ (.bad i3 10) W en w') := fun W hW => by rw [bs_append, bs_append]; exact read_ba _ _ r3 (by simp only [List.length_append]; omega) W hW
    have R4 : Hid (∀ W, W.ShapedOpen Tryz.prog → Calls Tryz.prog 17 #[.string (bs (joinL xs) ++ bs (write2 ps) ++ bs (write1 ps))] W fun en w' => readQ (.bad i4 10) W en w') := fun W hW => by rw [bs_append, bs_append]; exact read_ba _ _ r4 (by simp only [List.length_append]; omega) W hW
    have R5 : Hid (∀ W, W.ShapedOpen Tryz.prog → Calls Tryz.prog 12 #[.string (bs (joinL xs) ++ bs (write3 ps))] W fun en w' => en = .returned (.bool true) ∧ Upd noBlk W w') := fun W hW => by rw [bs_append]; exact agrees_any _ (by rw [List.length_append]; omega) W hW
    have SH : Hid (∀ W, Upd noBlk w2 W → W.ShapedOpen Tryz.prog) := fun W hW => (U2.out.trans hW).shaped HSH.out
    clear hh1 hh2 m1 m2 r1 r2 r3 r4 la lb lc lx
    go_wp2_with fail
    refine (R1.out _ (SH.out _ U6.out)).mono ?_
    rintro e1 w7 ⟨v1, rfl, o1, u7⟩
    have O1 := Lib.hid o1.rd
    have U7 := Lib.hid (U6.out.trans u7)
    obtain ⟨A1, c1, hv1⟩ := o1.len
    subst hv1
    clear o1 u7
    go_wp2_with fail
    refine (R2.out _ (SH.out _ U7.out)).mono ?_
    rintro e1 w8 ⟨v2, rfl, o2, u8⟩
    have O2 := Lib.hid o2.rd
    have O1b := Lib.hid (O1.out.keep u8)
    have U8 := Lib.hid (U7.out.trans u8)
    obtain ⟨A2, c2, hv2⟩ := o2.len
    subst hv2
    clear o2 u8
    go_wp2_with fail
    refine (R3.out _ (SH.out _ U8.out)).mono ?_
    rintro e1 w9 ⟨rfl, u9⟩
    have U9 := Lib.hid (U8.out.trans u9)
    have O1c := Lib.hid (O1b.out.keep u9)
    have O2c := Lib.hid (O2.out.keep u9)
    clear u9
    go_wp2_with fail
    refine (R4.out _ (SH.out _ U9.out)).mono ?_
    rintro e1 w10 ⟨rfl, u10⟩
    have U10 := Lib.hid (U9.out.trans u10)
    have O1d := Lib.hid (O1c.out.keep u10)
    have O2d := Lib.hid (O2c.out.keep u10)
    clear u10
    go_wp2_with fail
    refine (R5.out _ (SH.out _ U10.out)).mono ?_
    rintro e1 w11 ⟨rfl, u11⟩
    have U11 := Lib.hid (U10.out.trans u11)
    have S1 := Lib.hid (same_ok _ _ q1 ps M1.out (by omega) HG.out w11 (O1d.out.keep u11) (HO.out.keep U11.out))
    have O2e := Lib.hid (O2d.out.keep u11)
    clear u11
    go_wp2_with fail
    refine S1.out.mono ?_
    rintro e1 w12 ⟨rfl, n12, rfl⟩
    have S2 := Lib.hid (same_ok _ _ q2 ps M2.out (by omega) HG.out (w11.drewN n12) (O2e.out.keep ((Upd.refl _ _).drewN n12)) (HO.out.keep (U11.out.drewN n12)))
    go_wp2_with fail
    refine S2.out.mono ?_
    rintro e1 w13 ⟨rfl, n13, rfl⟩
    go_wp2_with fail
    go_ret
    exact ⟨rfl, (U2.out.trans U11.out).drewN (n12 + n13)⟩
end Go.Proofs.YtojdgdeefhndiaaGreatDoor
