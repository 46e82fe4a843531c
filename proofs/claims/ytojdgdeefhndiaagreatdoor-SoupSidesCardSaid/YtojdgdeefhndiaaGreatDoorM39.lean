/- Walks of the laws of the polygon files: SoupForms. Slices of bytes and of corners among the arguments. No condition. What a reading of an argument tells (polygon files): bytes. No condition. Plain laws of the polygon files' texts: comments, blanks and lines without words put in. No condition. -/
import Derived.Test.YtojdgdeefhndiaaGreatDoorM38
import Derived.Test.YtojdgdeefhndiaaGreatDoorM29
import Derived.Test.YtojdgdeefhndiaaGreatDoorM25
import Derived.Test.YtojdgdeefhndiaaGreatDoorM27
namespace Go.Proofs.YtojdgdeefhndiaaGreatDoor
open Go Go.RowKit Sp
set_option maxRecDepth 100000
def frontsV : Array Value := #[.string ⟨#[]⟩, .string ⟨#[10]⟩, .string ⟨#[35, 32, 83, 79, 85, 80, 10]⟩, .string ⟨#[32, 32, 9, 13, 10]⟩, .string ⟨#[35, 10, 35, 112, 111, 108, 121, 10, 10]⟩]
theorem frontsV_get : ∀ j, j < 5 → ∃ xs, xs ∈ fronts ∧ frontsV[j]? = some (.string (bs (joinL xs)))
  | 0, _ => ⟨[], by simp [fronts], rfl⟩ | 1, _ => ⟨[[]], by simp [fronts], rfl⟩ | 2, _ => ⟨[[35, 32, 83, 79, 85, 80]], by simp [fronts], rfl⟩ | 3, _ => ⟨[[32, 32, 9, 13]], by simp [fronts], rfl⟩ | 4, _ => ⟨[[35], [35, 112, 111, 108, 121], []], by simp [fronts], rfl⟩
  | n + 5, h => absurd h (by omega)
theorem read_ba (s : Bytes) (r : Out) (h : readS s = r) (hs : s.length ≤ 4294901760) (w : World) (hsh : w.ShapedOpen Tryz.prog) : Calls Tryz.prog 17 #[.string (bs s)] w fun en w' => readQ r w en w' := by
  have := read_any s (by omega) w hsh
  rw [h] at this
  exact this
/-- Comparing what was read with what was made. -/
theorem same_ok (v1 v2 : Value) (ps qs : List Poly) (hm : ps.map (·.1) = qs.map (·.1)) (hn : qs.length ≤ 4294967296) (hv : ∀ p, p ∈ qs → validP p.1) (w : World) (h1 : RdPolys w v1 ps) (h2 : RdPolys w v2 qs) :
    Calls Tryz.prog 18 #[v1, v2, .bool false] w fun en w' => en = .returned (.bool true) ∧ ∃ n, w' = w.drewN n := by
  have hl : ps.length = qs.length := by have := congrArg List.length hm; simpa using this
  refine qSame_yes v1 v2 ps qs false hl (fun j h1 h2 => ⟨?_, fun h => by cases h⟩) hn (fun p hp => by have := (hv p hp).2.1; omega) w h1 h2
  have e1 : (ps.map (·.1))[j]'(by simpa using h1) = ps[j].1 := by simp
  have e2 : (qs.map (·.1))[j]'(by simpa using h2) = qs[j].1 := by simp
  rw [← e1, ← e2]
  congr 1
set_option maxHeartbeats 1500000 in
theorem lawSoupForms_c (A : Option Addr) (cap : Nat) (l : List Quad) (n : Int) (hl : l.length ≤ cap) (hc : cap ≤ maxLen) (_hf : (Lit.int .i64 n).wf = true) (w : World) (hsh : w.ShapedOpen Tryz.prog) (h : RdQ w A l) :
    Calls Tryz.prog 7 #[.slice A l.length cap, .int .i64 n] w fun en w' => en = .returned (.bool true) ∧ Upd noBlk w w' := by
  have H := Lib.hid h
  have HSH := Lib.hid hsh
  have HC := Lib.hid hc
  have H1 := Lib.hid (sanity_any w hsh)
  clear h hsh hc
  go_enter Tryz.func7, Tryz.ntmps7
  go_wp2_with fail
  refine H1.out.mono ?_
  rintro e1 w1 ⟨rfl, u1⟩
  have U1 := Lib.hid u1
  clear u1
  go_wp2_with fail
  refine (qMade_any A cap l hl HC.out w1 (H.out.keep U1.out)).mono ?_
  rintro e1 w2 ⟨v, ps, rfl, hps, hg, ho, u2⟩
  have U2 := Lib.hid (U1.out.trans u2)
  have HG := Lib.hid (goodPs_valid hg)
  have HO := Lib.hid ho.rd
  obtain ⟨Av, cv, hv⟩ := ho.len
  subst hv
  clear u2 hg ho
  by_cases h0 : ps.length = 0
  · have e0 : (((ps.length : Nat) : Int) == 0) = true := by rw [h0]; rfl
    clear h0
    go_wp2_with fail
    go_ret
    exact ⟨rfl, U2.out⟩
  · have e0 : (((ps.length : Nat) : Int) == 0) = false := by rw [beq_eq_false_iff_ne]; omega
    have HNE : Hid (ps ≠ []) := fun e => h0 (by rw [e]; rfl)
    clear h0
    obtain ⟨m5, hm5⟩ : ∃ m : Nat, n % 5 = m := ⟨(n % 5).toNat, by omega⟩
    have hm5' : m5 < 5 := by omega
    have hm5'' : ((m5 : Nat) : Int) < 5 := by omega
    obtain ⟨xs, hxs, hxg⟩ := frontsV_get m5 hm5'
    have hxc : (w2.alloc (.cells frontsV 9)).cell? ⟨w2.heap.size, m5, none⟩ = some (.string (bs (joinL xs))) := by rw [cell_of_row _ _ _ _ _ _ (heap_alloc_new w2 (.cells frontsV 9))]; exact hxg
    obtain ⟨f1, f2, f3⟩ := fronts_ok xs hxs
    have F1 := Lib.hid f1
    have F2 := Lib.hid f2
    have F3 := Lib.hid f3
    have hsx : (bs (joinL xs)).size ≤ 20 := by rw [bs_size]; exact f3
    have HU3 : Hid (Upd noBlk w2 (w2.alloc (.cells frontsV 9))) := (Upd.refl _ _).alloc _
    unfold frontsV at hxc
    clear hxg hxs f1 f2 f3
    go_wp2_with (go_at_call 16; refine (Mod_any _ _ (by decide) (by decide) _).mono ?_; rintro e1 w1 ⟨rfl, rfl⟩)
    refine (qWrite1_any _ ps (by omega) HG.out _ (HO.out.keep ((Upd.refl _ _).alloc _))).mono ?_
    rintro e1 w4 ⟨rfl, u4⟩
    have U4 : Hid (Upd noBlk w2 w4) := ((Upd.refl _ _).alloc _).trans u4
    clear u4 hxc HU3
    go_wp2_with fail
    refine (qWrite2_any _ ps (by omega) HG.out _ (HO.out.keep U4.out)).mono ?_
    rintro e1 w5 ⟨rfl, u5⟩
    have U5 := Lib.hid (U4.out.trans u5)
    clear u5
    go_wp2_with fail
    refine (qWrite3_any _ ps (by omega) HG.out _ (HO.out.keep U5.out)).mono ?_
    rintro e1 w6 ⟨rfl, u6⟩
    have U6 := Lib.hid (U5.out.trans u6)
    clear u6
    have la : (write1 ps).length ≤ 50000 := by have := write1_length ps [] HG.out (by simp; omega); show (body1 [] ps).length ≤ _; omega
    have lb : (write2 ps).length ≤ 36000 := by have := body2_length ps HG.out; rw [write2_body]; omega
    have lc : (write3 ps).length ≤ 12000 := by have := (write3_length ps HG.out).2; omega
    have lx : (joinL xs).length ≤ 20 := F3.out
    have sa : (bs (write1 ps)).size ≤ 50000 := by rw [bs_size]; exact la
    have sb : (bs (write2 ps)).size ≤ 36000 := by rw [bs_size]; exact lb
    have sc : (bs (write3 ps)).size ≤ 12000 := by rw [bs_size]; exact lc
    have hh1 : ∀ t, (write1 ps ++ t).head? ≠ some 83 := fun t e => by rcases write1_head HNE.out t with h | h <;> rw [h] at e <;> cases e
    have hh2 : ∀ t, (write2 ps ++ t).head? ≠ some 83 := fun t e => by rw [write2_head HNE.out t] at e; cases e
    obtain ⟨q1, m1, r1⟩ := read_one xs ps F1.out HG.out (by omega) (not_magic (front_head F2.out (by have := hh1 []; rwa [List.append_nil] at this)))
    obtain ⟨q2, m2, r2⟩ := read_two xs ps F1.out HG.out (by omega) HNE.out (not_magic (front_head F2.out (by have := hh2 []; rwa [List.append_nil] at this)))
    obtain ⟨i3, r3⟩ := one_then_two xs ps F1.out HG.out (by omega) HNE.out (by rw [List.append_assoc]; exact not_magic (front_head F2.out (hh1 _)))
    obtain ⟨i4, r4⟩ := two_then_one xs ps F1.out HG.out (by omega) HNE.out (by rw [List.append_assoc]; exact not_magic (front_head F2.out (hh2 _)))
    have M1 := Lib.hid m1
    have M2 := Lib.hid m2
    have R1 : Hid (∀ W, W.ShapedOpen Tryz.prog → Calls Tryz.prog 17 #[.string (bs (joinL xs) ++ bs (write1 ps))] W fun en w' => readQ (.ok q1) W en w') := fun W hW => by rw [bs_append]; exact read_ba _ _ r1 (by rw [List.length_append]; omega) W hW
    have R2 : Hid (∀ W, W.ShapedOpen Tryz.prog → Calls Tryz.prog 17 #[.string (bs (joinL xs) ++ bs (write2 ps))] W fun en w' => readQ (.ok q2) W en w') := fun W hW => by rw [bs_append]; exact read_ba _ _ r2 (by rw [List.length_append]; omega) W hW
    have R3 : Hid (∀ W, W.ShapedOpen Tryz.prog → Calls Tryz.prog 17 #[.string (bs (joinL xs) ++ bs (write1 ps) ++ bs (write2 ps))] W fun en w' => readQ (.bad i3 10) W en w') := fun W hW => by rw [bs_append, bs_append]; exact read_ba _ _ r3 (by simp only [List.length_append]; omega) W hW
    have R4 : Hid (∀ W, W.ShapedOpen Tryz.prog → Calls Tryz.prog 17 #[.string (bs (joinL xs) ++ bs (write2 ps) ++ bs (write1 ps))] W fun en w' => readQ (.bad i4 10) W en w') := fun W hW => by rw [bs_append, bs_append]; exact read_ba _ _ r4 (by simp only [List.length_append]; omega) W hW
    have R5 : Hid (∀ W, W.ShapedOpen Tryz.prog → Calls Tryz.prog 12 #[.string (bs (joinL xs) ++ bs (write3 ps))] W fun en w' => en = .returned (.bool true) ∧ Upd noBlk W w') := fun W hW => by rw [bs_append]; exact agrees_any _ (by rw [List.length_append]; omega) W hW
    have SH : Hid (∀ W, Upd noBlk w2 W → W.ShapedOpen Tryz.prog) := fun W hW => (U2.out.trans hW).shaped HSH.out
    clear hh1 hh2 m1 m2 r1 r2 r3 r4 la lb lc lx
    go_wp2_with fail
    refine (R1.out _ (SH.out _ U6.out)).mono ?_
    rintro e1 w7 ⟨v1, rfl, o1, u7⟩
    have O1 := Lib.hid o1.rd
    have U7 := Lib.hid (U6.out.trans u7)
    obtain ⟨A1, c1, hv1⟩ := o1.len
    subst hv1
    clear o1 u7
    go_wp2_with fail
    refine (R2.out _ (SH.out _ U7.out)).mono ?_
    rintro e1 w8 ⟨v2, rfl, o2, u8⟩
    have O2 := Lib.hid o2.rd
    have O1b := Lib.hid (O1.out.keep u8)
    have U8 := Lib.hid (U7.out.trans u8)
    obtain ⟨A2, c2, hv2⟩ := o2.len
    subst hv2
    clear o2 u8
    go_wp2_with fail
    refine (R3.out _ (SH.out _ U8.out)).mono ?_
    rintro e1 w9 ⟨rfl, u9⟩
    have U9 := Lib.hid (U8.out.trans u9)
    have O1c := Lib.hid (O1b.out.keep u9)
    have O2c := Lib.hid (O2.out.keep u9)
    clear u9
    go_wp2_with fail
    refine (R4.out _ (SH.out _ U9.out)).mono ?_
    rintro e1 w10 ⟨rfl, u10⟩
    have U10 := Lib.hid (U9.out.trans u10)
    have O1d := Lib.hid (O1c.out.keep u10)
    have O2d := Lib.hid (O2c.out.keep u10)
    clear u10
    go_wp2_with fail
    refine (R5.out _ (SH.out _ U10.out)).mono ?_
    rintro e1 w11 ⟨rfl, u11⟩
    have U11 := Lib.hid (U10.out.trans u11)
    have S1 := Lib.hid (same_ok _ _ q1 ps M1.out (by omega) HG.out w11 (O1d.out.keep u11) (HO.out.keep U11.out))
    have O2e := Lib.hid (O2d.out.keep u11)
    clear u11
    go_wp2_with fail
    refine S1.out.mono ?_
    rintro e1 w12 ⟨rfl, n12, rfl⟩
    have S2 := Lib.hid (same_ok _ _ q2 ps M2.out (by omega) HG.out (w11.drewN n12) (O2e.out.keep ((Upd.refl _ _).drewN n12)) (HO.out.keep (U11.out.drewN n12)))
    go_wp2_with fail
    refine S2.out.mono ?_
    rintro e1 w13 ⟨rfl, n13, rfl⟩
    go_wp2_with fail
    go_ret
    exact ⟨rfl, (U2.out.trans U11.out).drewN (n12 + n13)⟩
end Go.Proofs.YtojdgdeefhndiaaGreatDoor
namespace Go.Proofs.YtojdgdeefhndiaaGreatDoor
open Go Go.RowKit Sp
/-- A slice at any address that reads as bytes. -/
def RdBy (w : World) (A : Option Addr) (l : Bytes) : Prop := 0 < l.length → ∃ b off, A = some ⟨b, off, none⟩ ∧ ∀ j (h : j < l.length), w.cell? ⟨b, off + j, none⟩ = some (.int .u8 (l[j].toNat : Nat))
theorem RdBy.keep {w w' : World} {A : Option Addr} {l : Bytes} (h : RdBy w A l) (hu : Upd noBlk w w') : RdBy w' A l := by
  intro h0
  obtain ⟨b, off, e, f⟩ := h h0
  exact ⟨b, off, e, fun j hj => hu.cell (f j hj) id⟩
end Go.Proofs.YtojdgdeefhndiaaGreatDoor
namespace Go.Proofs.YtojdgdeefhndiaaGreatDoor
open Go Go.RowKit Go.ChangeShapes Go.WideShapes Go.ChangeAt
set_option maxRecDepth 100000
theorem u8_wf {z : Int} (h : (Lit.int .u8 z).wf = true) : ∃ c : UInt8, z = (c.toNat : Nat) := by
  simp [Lit.wf, IntKind.min, IntKind.max, IntKind.signed, IntKind.bits] at h
  refine ⟨UInt8.ofNat z.toNat, ?_⟩
  simp; omega
theorem argBy_of_reading {H : Type} {enc : TypeId × Value → H} {W : World} {d : DataW H} {p : List MemPlace} {v : Value}
    (hval : Value.okWide Tryz.prog W .any 0 33 v) (h : DataW.Trod enc Tryz.prog W 0 (fun _ => true) true 33 v d p) : ∃ (l : Sp.Bytes) (A : Option Addr) (cap : Nat), v = .slice A l.length cap ∧ RdBy W A l ∧ l.length ≤ cap ∧ cap ≤ maxLen := by
  obtain ⟨l, A, cap, rfl, h1, h2, h3⟩ := argL_of_reading (size := 1) (by decide) (fun cs (c : UInt8) => cs = [.int .u8 (c.toNat : Nat)]) Tryz.underlying33 (by kernel_rfl) (fun n cs x hx => by
    obtain ⟨z, e, _, w⟩ := DataW.trod_int Tryz.underlying5 hx
    obtain ⟨c, rfl⟩ := u8_wf w
    exact ⟨c, e⟩) hval h
  refine ⟨l, A, cap, rfl, fun h0 => ?_, h2, h3⟩
  obtain ⟨b, off, e, h4⟩ := h1 h0
  refine ⟨b, off, e, fun j hj => ?_⟩
  obtain ⟨cs, _, rfl, h5⟩ := h4 j hj
  simpa using h5 0 _ rfl
theorem u8_of_reading {H : Type} {enc : TypeId × Value → H} {W : World} {d : DataW H} {p : List MemPlace} {v : Value}
    (hval : Value.okWide Tryz.prog W .any 0 5 v) (h : DataW.Trod enc Tryz.prog W 0 (fun _ => true) true 5 v d p) : ∃ n : Int, v = .int .u8 n ∧ (0 ≤ n ∧ n < 256) := by
  obtain ⟨s, rfl, _, _, hs⟩ := open_int Tryz.underlying5 hval h
  refine ⟨s, rfl, ?_⟩
  simp [Lit.wf, IntKind.min, IntKind.max, IntKind.signed, IntKind.bits] at hs
  omega
end Go.Proofs.YtojdgdeefhndiaaGreatDoor
namespace Go.Proofs.YtojdgdeefhndiaaGreatDoor
open Go Go.RowKit
namespace Sp
open Bg
/-- What stands for a blank, and for the end of a line. -/
def seps : List Bytes := [[32], [32, 32], [9], [13, 32]]
def ends : List Bytes := [[10], [32, 35, 32, 112, 111, 108, 121, 32, 51, 32, 102, 10], [13, 10], [10, 10, 32, 9, 10], [35, 118, 10, 35, 32, 102, 32, 49, 32, 49, 32, 49, 10]]
def sepOf (k : Nat) : Bytes := (seps[k / 5 % 4]?).getD [32]
def endOf (k : Nat) : Bytes := (ends[k % 5]?).getD [10]
/-- A text with other blanks and other ends of lines; kf: by lines. -/
def trC (kf : Nat → Nat) : Nat → Bytes → Bytes
  | _, [] => []
  | i, c :: r => if c = 10 then endOf (kf i) ++ trC kf (i + 1) r else if c = 32 then sepOf (kf i) ++ trC kf i r else c :: trC kf i r
theorem sepOf_mem (k : Nat) : sepOf k ∈ seps := by
  have h : k / 5 % 4 < 4 := Nat.mod_lt _ (by decide)
  unfold sepOf
  generalize k / 5 % 4 = m at *
  match m, h with
  | 0, _ => decide | 1, _ => decide | 2, _ => decide | 3, _ => decide
theorem endOf_mem (k : Nat) : endOf k ∈ ends := by
  have h : k % 5 < 5 := Nat.mod_lt _ (by decide)
  unfold endOf
  generalize k % 5 = m at *
  match m, h with
  | 0, _ => decide | 1, _ => decide | 2, _ => decide | 3, _ => decide | 4, _ => decide
theorem sepOf_ok (k : Nat) : sepOf k ≠ [] ∧ (∀ c, c ∈ sepOf k → blank c = true ∧ c ≠ 35 ∧ c ≠ 10) ∧ (sepOf k).length ≤ 2 := by
  have key : ∀ x, x ∈ seps → x ≠ [] ∧ (∀ c, c ∈ x → blank c = true ∧ c ≠ 35 ∧ c ≠ 10) ∧ x.length ≤ 2 := by decide
  exact key _ (sepOf_mem k)
theorem endOf_ok (k : Nat) : (endOf k).length ≤ 13 ∧ ∃ (a : Bytes) (rest : List Bytes), endOf k = a ++ 10 :: joinL rest ∧ (∀ c, c ∈ a → c ≠ 10) ∧ (∀ c, c ∈ ahead a → blank c = true) ∧ (∀ x, x ∈ rest → wordsOf x = [] ∧ ∀ c, c ∈ x → c ≠ 10) := by
  have h := endOf_mem k
  generalize endOf k = e at *
  simp only [ends, List.mem_cons, List.not_mem_nil, or_false] at h
  rcases h with rfl | rfl | rfl | rfl | rfl
  · exact ⟨by decide, [], [], rfl, by decide, by decide, by decide⟩
  · exact ⟨by decide, [32, 35, 32, 112, 111, 108, 121, 32, 51, 32, 102], [], rfl, by decide, by decide, by decide⟩
  · exact ⟨by decide, [13], [], rfl, by decide, by decide, by decide⟩
  · exact ⟨by decide, [], [[], [32, 9]], rfl, by decide, by decide, by decide⟩
  · exact ⟨by decide, [35, 118], [[35, 32, 102, 32, 49, 32, 49, 32, 49]], rfl, by decide, by decide, by decide⟩
theorem trC_length (kf : Nat → Nat) : ∀ (s : Bytes) (i : Nat), (trC kf i s).length ≤ 13 * s.length
  | [], _ => Nat.le_refl _
  | c :: r, i => by
    rw [trC, List.length_cons]
    split
    · have := trC_length kf r (i + 1); have := (endOf_ok (kf i)).1; rw [List.length_append]; omega
    · split
      · have := trC_length kf r i; have := (sepOf_ok (kf i)).2.2; rw [List.length_append]; omega
      · have := trC_length kf r i; rw [List.length_cons]; omega
theorem trC_head (kf : Nat → Nat) {s : Bytes} {i : Nat} {c : UInt8} (h : s.head? = some c) (h1 : c ≠ 10) (h2 : c ≠ 32) : (trC kf i s).head? = some c := by
  cases s with
  | nil => cases h
  | cons d r =>
    cases h
    rw [trC, if_neg h1, if_neg h2]; rfl
theorem trC_word (kf : Nat → Nat) (i : Nat) : ∀ (w r : Bytes), (∀ c, c ∈ w → gc c) → trC kf i (w ++ r) = w ++ trC kf i r
  | [], r, _ => rfl
  | c :: w, r, h => by
    obtain ⟨h1, h2, h3⟩ := h c (by simp)
    rw [List.cons_append, trC, if_neg h3, if_neg (fun e => by subst e; exact absurd h1 (by decide)), trC_word kf i w r (fun d hd => h d (by simp [hd]))]; rfl
/-- Words with something between. -/
def joinS (x : Bytes) : List Bytes → Bytes
  | [] => []
  | [w] => w
  | w :: v :: r => w ++ x ++ joinS x (v :: r)
theorem trC_line (kf : Nat → Nat) (i : Nat) : ∀ (ws : List Bytes) (t : Bytes), (∀ w, w ∈ ws → gw w) → trC kf i (joinW ws ++ 10 :: t) = joinS (sepOf (kf i)) ws ++ (endOf (kf i) ++ trC kf (i + 1) t)
  | [], t, _ => by rw [joinW, List.nil_append, trC, if_pos rfl]; rfl
  | [w], t, h => by rw [joinW, trC_word kf i w _ (h w (by simp)).2, trC, if_pos rfl]; rfl
  | w :: v :: r, t, h => by
    rw [joinW, List.append_assoc, trC_word kf i w _ (h w (by simp)).2, List.cons_append, trC, if_neg (by decide), if_pos rfl, trC_line kf i (v :: r) t (fun x hx => h x (by simp at hx ⊢; exact .inr hx)), joinS]
    simp only [List.append_assoc]
theorem joinS_mem {x : Bytes} : ∀ {ws : List Bytes} {c : UInt8}, c ∈ joinS x ws → c ∈ x ∨ ∃ w, w ∈ ws ∧ c ∈ w
  | [w], c, h => .inr ⟨w, by simp, h⟩
  | w :: v :: r, c, h => by
    rw [joinS, List.mem_append, List.mem_append] at h
    rcases h with (h | h) | h
    · exact .inr ⟨w, by simp, h⟩
    · exact .inl h
    · rcases joinS_mem h with h | ⟨x, h1, h2⟩
      · exact .inl h
      · exact .inr ⟨x, by simp [h1], h2⟩
theorem ahead_app : ∀ (l r : Bytes), (∀ c, c ∈ l → c ≠ 35) → ahead (l ++ r) = l ++ ahead r
  | [], _, _ => rfl
  | c :: l, r, h => by rw [List.cons_append, ahead, if_neg (h c (by simp)), ahead_app l r (fun d hd => h d (by simp [hd]))]; rfl
theorem fieldsGo_blanks : ∀ (b r : Bytes), (∀ c, c ∈ b → blank c = true) → fieldsGo [] (b ++ r) = fieldsGo [] r
  | [], _, _ => rfl
  | c :: b, r, h => by
    rw [List.cons_append, fieldsGo, if_pos (h c (by simp)), fieldsGo_blanks b r (fun d hd => h d (by simp [hd]))]; rfl
theorem fieldsGo_blanks' (cur : Bytes) : ∀ (b r : Bytes), b ≠ [] → (∀ c, c ∈ b → blank c = true) → fieldsGo cur (b ++ r) = flush cur ++ fieldsGo [] r
  | c :: b, r, _, h => by
    rw [List.cons_append, fieldsGo, if_pos (h c (by simp)), fieldsGo_blanks b r (fun d hd => h d (by simp [hd]))]
theorem fieldsGo_tail (cur a : Bytes) (h : ∀ c, c ∈ a → blank c = true) : fieldsGo cur a = flush cur := by
  cases a with
  | nil => rfl
  | cons c b =>
    have := fieldsGo_blanks' cur (c :: b) [] (by simp) h
    rw [List.append_nil] at this
    rw [this]; simp [fieldsGo, flush]
theorem fieldsGo_joinS {x a : Bytes} (hx : x ≠ []) (hb : ∀ c, c ∈ x → blank c = true) (ha : ∀ c, c ∈ a → blank c = true) : ∀ {ws : List Bytes}, ws ≠ [] → (∀ w, w ∈ ws → gw w) → fieldsGo [] (joinS x ws ++ a) = ws
  | [], h, _ => absurd rfl h
  | [w], _, h => by
    rw [joinS, fieldsGo_run w [] a (fun c hc => ((h w (by simp)).2 c hc).1), List.nil_append, fieldsGo_tail w a ha, flush_ne (h w (by simp)).1]
  | w :: v :: r, _, h => by
    rw [joinS, List.append_assoc, List.append_assoc, fieldsGo_run w [] _ (fun c hc => ((h w (by simp)).2 c hc).1), List.nil_append, fieldsGo_blanks' w x _ hx hb, flush_ne (h w (by simp)).1, fieldsGo_joinS hx hb ha (by simp) (fun y hy => h y (by simp at hy ⊢; exact .inr hy))]; rfl
theorem wordsOf_joinS {x a : Bytes} (hx : x ≠ []) (hb : ∀ c, c ∈ x → blank c = true ∧ c ≠ 35 ∧ c ≠ 10) (ha : ∀ c, c ∈ ahead a → blank c = true) {ws : List Bytes} (h0 : ws ≠ []) (h : ∀ w, w ∈ ws → gw w) : wordsOf (joinS x ws ++ a) = ws := by
  unfold wordsOf
  rw [ahead_app _ _ (fun c hc => by
    rcases joinS_mem hc with h1 | ⟨w, h1, h2⟩
    · exact (hb c h1).2.1
    · exact ((h w h1).2 c h2).2.1), fieldsGo_joinS hx (fun c hc => (hb c hc).1) ha h0 h]
theorem trC_lines (kf : Nat → Nat) : ∀ (L : List (List Bytes)) (i : Nat), goodL L → ∃ ls : List Bytes, trC kf i (joinL (L.map joinW)) = joinL ls ∧ (∀ l, l ∈ ls → ∀ c, c ∈ l → c ≠ 10) ∧ ∀ j, (numbered j ls).map (·.2) = L
  | [], i, _ => ⟨[], rfl, fun l hl => (by cases hl), fun j => rfl⟩
  | ws :: r, i, h => by
    obtain ⟨ls, e1, e2, e3⟩ := trC_lines kf r (i + 1) (fun x hx => h x (by simp [hx]))
    obtain ⟨_, a, rest, f1, f2, f3, f4⟩ := endOf_ok (kf i)
    obtain ⟨s1, s2, _⟩ := sepOf_ok (kf i)
    obtain ⟨g1, g2⟩ := h ws (by simp)
    have hw := wordsOf_joinS s1 s2 f3 g1 g2
    refine ⟨(joinS (sepOf (kf i)) ws ++ a) :: (rest ++ ls), ?_, fun l hl => ?_, fun j => ?_⟩
    · have e : joinL ((ws :: r).map joinW) = joinW ws ++ 10 :: joinL (r.map joinW) := by simp [joinL]
      rw [e, trC_line kf i ws _ g2, e1, f1]
      simp [joinL]
    · rw [List.mem_cons, List.mem_append] at hl
      rcases hl with rfl | hl | hl
      · intro c hc
        rw [List.mem_append] at hc
        rcases hc with hc | hc
        · rcases joinS_mem hc with h1 | ⟨w, h1, h2⟩
          · exact (s2 c h1).2.2
          · exact ((g2 w h1).2 c h2).2.2
        · exact f2 c hc
      · exact (f4 l hl).2
      · exact e2 l hl
    · cases ws with
      | nil => exact absurd rfl g1
      | cons w t =>
        rw [numbered, hw]
        simp only [List.map_cons]
        rw [numbered_append, numbered_none rest _ (fun x hx => (f4 x hx).1), List.nil_append, e3]
theorem linesAll_joinL {ls : List Bytes} (h : ∀ l, l ∈ ls → ∀ c, c ∈ l → c ≠ 10) : linesAll (joinL ls) = numbered 1 ls := by
  have e := linesOf_join ls [] h
  rw [List.append_nil] at e
  unfold linesAll
  rw [e, numbered_append, numbered_last, List.append_nil]
/-- A text that begins with no mark, and with the lines of form 2, whatever their numbers. -/
theorem read_W2 {s : Bytes} {ps : List Poly} (h : (linesAll s).map (·.2) = ps.flatMap polyW) (hm : magic.isPrefixOf s = false) (hv : ∀ p, p ∈ ps → validP p.1) (hl : ps.length ≤ 65536) :
    ∃ ps', ps'.map (·.1) = ps.map (·.1) ∧ readS s = .ok ps' := by
  cases ps with
  | nil =>
    have h0 : linesAll s = [] := by simpa using h
    exact ⟨[], rfl, by rw [readS_as_one hm (by rw [firstWord_none h0]; decide), h0, oneN]⟩
  | cons p r =>
    obtain ⟨ps', e1, e2⟩ := two_polys (p :: r) (linesAll s) [] [] (linesOf s).length hv (by simpa using hl) h
    refine ⟨ps', e1, ?_⟩
    have hf : firstWord (linesOf s) = wPoly := by
      cases hn : linesAll s with
      | nil => rw [hn] at h; simp [polyW] at h
      | cons a t =>
        obtain ⟨i, ws⟩ := a
        rw [hn, List.map_cons, List.flatMap_cons, polyW, List.cons_append, List.cons.injEq] at h
        simp only at h
        rw [h.1] at hn
        exact firstWord_num hn
    rw [readS_as_two hm hf]
    rw [List.append_nil, List.nil_append] at e2
    rw [e2, twoN, if_pos rfl]
theorem W1_head {P : List Pt} {p : Poly} {r : List Poly} {ws : List Bytes} {L : List (List Bytes)} (h : W1 P (p :: r) = ws :: L) : ∃ w t, ws = w :: t ∧ w ≠ wPoly := by
  rw [W1] at h
  cases hnp : newP P p.1 with
  | nil =>
    rw [hnp] at h
    simp only [List.map_nil, List.nil_append, List.cons.injEq] at h
    exact ⟨wF, _, by rw [← h.1]; rfl, by decide⟩
  | cons c t =>
    rw [hnp] at h
    simp only [List.map_cons, List.cons_append, List.cons.injEq] at h
    exact ⟨wV, _, by rw [← h.1]; rfl, by decide⟩
theorem W1_first {s : Bytes} {ps : List Poly} (r : List (Nat × List Bytes)) {l1 : List (Nat × List Bytes)} (hs : linesAll s = l1 ++ r) (h : l1.map (·.2) = W1 [] ps) (h0 : ps ≠ []) : firstWord (linesOf s) ≠ wPoly := by
  cases ps with
  | nil => exact absurd rfl h0
  | cons p t =>
    cases hn : l1 with
    | nil => rw [hn] at h; rw [W1] at h; simp at h
    | cons a l2 =>
      obtain ⟨i, ws⟩ := a
      rw [hn, List.map_cons] at h
      obtain ⟨w, t', e, hne⟩ := W1_head h.symm
      simp only at e
      rw [hn, List.cons_append, e] at hs
      rw [firstWord_num hs]
      exact hne
/-- The same for form 1. -/
theorem read_W1 {s : Bytes} {ps : List Poly} (h : (linesAll s).map (·.2) = W1 [] ps) (hm : magic.isPrefixOf s = false) (hv : ∀ p, p ∈ ps → validP p.1) (hl : ps.length ≤ 65536) :
    ∃ ps', ps'.map (·.1) = ps.map (·.1) ∧ readS s = .ok ps' := by
  cases ps with
  | nil =>
    have h0 : linesAll s = [] := by simpa [W1] using h
    exact ⟨[], rfl, by rw [readS_as_one hm (by rw [firstWord_none h0]; decide), h0, oneN]⟩
  | cons p r =>
    obtain ⟨ps', e1, e2⟩ := one_polys (p :: r) [] (linesAll s) [] [] hv (by simpa using hl) (by simp at hl ⊢; omega) h
    refine ⟨ps', e1, ?_⟩
    rw [readS_as_one hm (W1_first [] (List.append_nil _).symm h (by simp))]
    rw [List.append_nil, List.nil_append] at e2
    rw [e2, oneN]
theorem comm_two (kf : Nat → Nat) (ps : List Poly) (hv : ∀ p, p ∈ ps → validP p.1) (hl : ps.length ≤ 65536) : ∃ ps', ps'.map (·.1) = ps.map (·.1) ∧ readS (trC kf 0 (write2 ps)) = .ok ps' := by
  obtain ⟨ls, e1, e2, e3⟩ := trC_lines kf (ps.flatMap polyW) 0 (W2_good ps)
  have e : write2 ps = joinL ((ps.flatMap polyW).map joinW) := rfl
  have hm : magic.isPrefixOf (trC kf 0 (write2 ps)) = false := by
    apply not_magic
    cases ps with
    | nil => exact fun h => by cases h
    | cons p r =>
      have := write2_head (ps := p :: r) (by simp) []
      rw [List.append_nil] at this
      rw [trC_head kf this (by decide) (by decide)]
      exact fun h => by cases h
  refine read_W2 ?_ hm hv hl
  rw [e, e1, linesAll_joinL e2, e3]
theorem comm_one (kf : Nat → Nat) (ps : List Poly) (hv : ∀ p, p ∈ ps → validP p.1) (hl : ps.length ≤ 65536) : ∃ ps', ps'.map (·.1) = ps.map (·.1) ∧ readS (trC kf 0 (write1 ps)) = .ok ps' := by
  obtain ⟨ls, e1, e2, e3⟩ := trC_lines kf (W1 [] ps) 0 (W1_good ps [])
  have e : write1 ps = joinL ((W1 [] ps).map joinW) := rfl
  have hm : magic.isPrefixOf (trC kf 0 (write1 ps)) = false := by
    apply not_magic
    cases ps with
    | nil => exact fun h => by cases h
    | cons p r =>
      have := write1_head (ps := p :: r) (by simp) []
      rw [List.append_nil] at this
      rcases this with this | this <;> rw [trC_head kf this (by decide) (by decide)] <;> exact fun h => by cases h
  refine read_W1 ?_ hm hv hl
  rw [e, e1, linesAll_joinL e2, e3]
end Sp
end Go.Proofs.YtojdgdeefhndiaaGreatDoor
