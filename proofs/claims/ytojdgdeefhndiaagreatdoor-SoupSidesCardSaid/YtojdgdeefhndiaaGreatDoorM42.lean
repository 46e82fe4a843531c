/- Walks of the laws of the polygon files: SoupPlaces. strings.Builder, decimals and joined words in the program's Write: the library's contracts in the words used here. No condition. -/
import Derived.Test.YtojdgdeefhndiaaGreatDoorM41
import Derived.Test.YtojdgdeefhndiaaGreatDoorM39
import Derived.Test.YtojdgdeefhndiaaGreatDoorShelf2
import Derived.Test.YtojdgdeefhndiaaGreatDoorM37
import Derived.Shelf.Strings.BuilderK
namespace Go.Proofs.YtojdgdeefhndiaaGreatDoor
open Go Go.RowKit Sp
set_option maxRecDepth 100000
def bad1V : Array Value := #[.string ⟨#[118, 32, 49]⟩, .string ⟨#[118, 32, 49, 32, 50, 32, 120]⟩, .string ⟨#[102, 32, 49, 32, 49, 32, 48]⟩, .string ⟨#[118, 32, 49, 32, 50, 32, 50, 48, 57, 55, 49, 53, 50]⟩, .string ⟨#[118, 32, 49, 32, 50, 32, 49, 50, 51, 52, 53, 54, 55, 56, 57, 48, 49, 50, 51, 52, 53, 54]⟩, .string ⟨#[103]⟩]
def want1V : Array Value := #[.int .i64 10, .int .i64 10, .int .i64 14, .int .i64 3, .int .i64 11, .int .i64 10]
def bad2V : Array Value := #[.string ⟨#[112, 111, 108, 121]⟩, .string ⟨#[112, 111, 108, 121, 32, 45, 51]⟩, .string ⟨#[112, 111, 108, 121, 32, 50]⟩, .string ⟨#[112, 111, 108, 121, 32, 54, 53]⟩, .string ⟨#[49, 32, 50, 32, 51]⟩, .string ⟨#[112, 111, 108, 121, 32, 49, 50, 51, 52, 53, 54, 55, 56, 57, 48, 49, 50, 51, 52, 53, 54]⟩]
def want2V : Array Value := #[.int .i64 10, .int .i64 10, .int .i64 11, .int .i64 2, .int .i64 10, .int .i64 11]
theorem bad1V_get : ∀ j, j < 6 → ∃ x, x ∈ bads1 ∧ bad1V[j]? = some (.string (bs x.1)) ∧ want1V[j]? = some (.int .i64 (x.2 : Nat)) ∧ x.1.length ≤ 30
  | 0, _ => ⟨_, List.getElem_mem (n := 0) (by decide), rfl, rfl, by decide⟩ | 1, _ => ⟨_, List.getElem_mem (n := 1) (by decide), rfl, rfl, by decide⟩ | 2, _ => ⟨_, List.getElem_mem (n := 2) (by decide), rfl, rfl, by decide⟩
  | 3, _ => ⟨_, List.getElem_mem (n := 3) (by decide), rfl, rfl, by decide⟩ | 4, _ => ⟨_, List.getElem_mem (n := 4) (by decide), rfl, rfl, by decide⟩ | 5, _ => ⟨_, List.getElem_mem (n := 5) (by decide), rfl, rfl, by decide⟩
  | n + 6, h => absurd h (by omega)
theorem bad2V_get : ∀ j, j < 6 → ∃ x, x ∈ bads2 ∧ bad2V[j]? = some (.string (bs x.1)) ∧ want2V[j]? = some (.int .i64 (x.2 : Nat)) ∧ x.1.length ≤ 30
  | 0, _ => ⟨_, List.getElem_mem (n := 0) (by decide), rfl, rfl, by decide⟩ | 1, _ => ⟨_, List.getElem_mem (n := 1) (by decide), rfl, rfl, by decide⟩ | 2, _ => ⟨_, List.getElem_mem (n := 2) (by decide), rfl, rfl, by decide⟩
  | 3, _ => ⟨_, List.getElem_mem (n := 3) (by decide), rfl, rfl, by decide⟩ | 4, _ => ⟨_, List.getElem_mem (n := 4) (by decide), rfl, rfl, by decide⟩ | 5, _ => ⟨_, List.getElem_mem (n := 5) (by decide), rfl, rfl, by decide⟩
  | n + 6, h => absurd h (by omega)
/-- The polygon of three equal corners, and what stands behind it. -/
def zeroP : Poly := ([(0, 0, 0), (0, 0, 0), (0, 0, 0)], 0)
theorem zeroP_valid : validP zeroP.1 := ⟨by decide, by decide, by decide⟩
theorem qWrite123_any (m : Nat) (hm : m < 3) (v : Value) (ps : List Poly) (h0 : ps ≠ []) (hn : ps.length ≤ 100) (hv : ∀ p, p ∈ ps → validP p.1) (w : World) (h : RdPolys w v ps) :
    ∃ s : Bytes, s.length ≤ 8 + 2500 * ps.length ∧ (m = 0 → ∀ x, x ∈ bads1 → readS (s ++ x.1 ++ tail1) = .bad (linesOf s).length x.2) ∧ (m = 1 → ∀ x, x ∈ bads2 → readS (s ++ x.1 ++ [10]) = .bad (linesOf s).length x.2) ∧ (m = 2 → readS (s ++ [120]) = .bad s.length 13) ∧
      Calls Tryz.prog 14 #[.int .i64 (1 + (m : Int)), v] w fun en w' => writeR s 0 w en w' := by
  have hc : m = 0 ∨ m = 1 ∨ m = 2 := by omega
  rcases hc with rfl | rfl | rfl
  · exact ⟨write1 ps, by have := write1_length ps [] hv (by simp; omega); show (body1 [] ps).length ≤ _; omega, fun _ x hx => places_one h0 hv (by omega) hx, fun e => absurd e (by decide), fun e => absurd e (by decide), qWrite1_any v ps hn hv w h⟩
  · exact ⟨write2 ps, by have := body2_length ps hv; rw [write2_body]; omega, fun e => absurd e (by decide), fun _ x hx => places_two h0 hv (by omega) hx, fun e => absurd e (by decide), qWrite2_any v ps hn hv w h⟩
  · refine ⟨write3 ps, by have := (write3_length ps hv).2; omega, fun e => absurd e (by decide), fun e => absurd e (by decide), fun _ => ?_, qWrite3_any v ps hn hv w h⟩
    obtain ⟨ps', _, e⟩ := read_three ps [120] hv (by omega)
    rw [e, if_neg (by simp)]
theorem lines_count (c : UInt8) (r : Bytes) : (linesGo [] (c :: r)).length = (if c = 10 then 1 else 0) + (linesGo [] r).length := by
  rw [linesGo]
  by_cases h : c = 10
  · rw [if_pos h, if_pos h, List.length_cons]; omega
  · rw [if_neg h, if_neg h, count_linesGo, count_linesGo]; omega
def zPts : Array Value := #[.int .i64 0, .int .i64 0, .int .i64 0, .int .i64 0, .int .i64 0, .int .i64 0, .int .i64 0, .int .i64 0, .int .i64 0]
theorem make_pts3 (w : World) : (Instr.makeSlice 41 (.int .i64 3) (.int .i64 3)).run Tryz.prog w = .ok (.slice (some ⟨w.heap.size, 0, none⟩) 3 3) (w.alloc (.cells zPts 51)) := by
  obtain ⟨i0, hi, hz0, hz1, hz2⟩ := info_parts info_p
  have h := run_make (P := Tryz.prog) w 41 51 i0 _ Tryz.underlying41 hi hz0 .i64 .i64 3 3 (by omega) (by omega) (by rw [hz2]; omega) (by omega)
  rw [hz1] at h
  have e : madeCells (Value.agg #[Value.int IntKind.i64 0, Value.int IntKind.i64 0, Value.int IntKind.i64 0]).cells (Int.toNat 3 * 3) = zPts := by kernel_rfl
  rw [e] at h
  exact h
/-- The list with the polygon of three equal corners ahead. -/
theorem with_zero (w : World) (v : Value) (ps : List Poly) (base : Nat) (hn : ps.length ≤ 100) (hown : OwnPolys base w v ps) :
    ∃ v' w', (Builtin.append_ #[31, 31] 31 #[.slice (some ⟨w.heap.size + 1, 0, none⟩) 1 1, v]).run Tryz.prog ((w.alloc (.cells zPts 51)).alloc (.cells #[.slice (some ⟨w.heap.size, 0, none⟩) 3 3, .int .i64 0] 43)) = .ok v' w' ∧
      RdPolys w' v' (zeroP :: ps) ∧ Upd noBlk w w' := by
  obtain ⟨qs, rfl, h2, h3⟩ := hown
  rw [List.length_map] at hn
  obtain ⟨wb, hwb⟩ : ∃ wb, wb = (w.alloc (.cells zPts 51)).alloc (.cells #[.slice (some ⟨w.heap.size, 0, none⟩) 3 3, .int .i64 0] 43) := ⟨_, rfl⟩
  have hub : Upd noBlk w wb := by rw [hwb]; exact ((Upd.refl _ _).alloc _).alloc _
  have hp1 : wb.heap[w.heap.size]? = some (.cells zPts 51) := by rw [hwb]; exact heap_alloc_keep _ (heap_alloc_new _ _)
  have hp2 : wb.heap[w.heap.size + 1]? = some (.cells #[.slice (some ⟨w.heap.size, 0, none⟩) 3 3, .int .i64 0] 43) := by
    rw [hwb]; have := heap_alloc_new (w.alloc (.cells zPts 51)) (.cells #[.slice (some ⟨w.heap.size, 0, none⟩) 3 3, .int .i64 0] 43); rw [World.size_alloc] at this; exact this
  have hs : wb.heap.size = w.heap.size + 2 := by rw [hwb, World.size_alloc, World.size_alloc]
  rw [← hwb]
  clear hwb
  have o1 : OwnPts w.heap.size wb (.slice (some ⟨w.heap.size, 0, none⟩) 3 3) zeroP.1 := ⟨rfl, .inr ⟨w.heap.size, 3, _, rfl, Nat.le_refl _, hp1, Nat.le_refl _, by unfold maxLen; decide, rfl, rfl⟩⟩
  have o2 : wb.ownsRow (w.heap.size + 1) 43 2 (.slice (some ⟨w.heap.size + 1, 0, none⟩) 1 1) 1 (polyVs [(.slice (some ⟨w.heap.size, 0, none⟩) 3 3, zeroP)]) := ⟨rfl, .inr ⟨w.heap.size + 1, 1, _, rfl, Nat.le_refl _, hp2, Nat.le_refl _, by unfold maxLen; decide, rfl, rfl⟩⟩
  have o3 := ownsRow_upd h3 hub
  obtain ⟨i0, hi0, hz0, hz1, hz2⟩ := info_parts info_q
  have hone : ∀ u ∈ polyVs qs, u.oneCell' = true := by
    intro u hu
    unfold polyVs at hu
    obtain ⟨q, hq, hm⟩ := List.mem_flatMap.1 hu
    obtain ⟨A, c, hv⟩ := own_form (h2 q hq)
    simp only [List.mem_cons, List.not_mem_nil, or_false] at hm
    rcases hm with rfl | rfl
    · rw [hv]; rfl
    · rfl
  obtain ⟨v', w', r, o, gr, _⟩ := append_src (P := Tryz.prog) wb 31 31 43 i0 _ 2 32 Tryz.underlying31 hi0 hz0 hz1 hz2 rfl (by omega) o2 (by omega) o3 hone (by unfold maxLen; omega) (by omega)
  have gr' : Upd (fun k => k = w.heap.size + 1) wb w' := upd_of_grown gr (fun j hj _ => by
    have : some (w.heap.size + 1) = some j := hj
    cases this; rfl)
  refine ⟨v', w', r, ?_, hub.then gr' (fun j hj hj' => by omega)⟩
  have hk : ∀ (g : Nat), g < wb.heap.size → g ≠ w.heap.size + 1 → w'.heap[g]? = wb.heap[g]? := fun g h1 h2 => gr'.block g h1 h2
  have hfin : OwnPolys 0 w' v' (zeroP :: qs.map (·.2)) := by
    refine ⟨(.slice (some ⟨w.heap.size, 0, none⟩) 3 3, zeroP) :: qs, by simp, ?_, ?_⟩
    · intro q hq
      rw [List.mem_cons] at hq
      rcases hq with rfl | hq
      · exact ownsRow_base (ownsRow_keep o1 (fun g hg => hk g (o1.lt g hg).2 (by
          have : some w.heap.size = some g := hg
          cases this; omega))) (Nat.zero_le _)
      · have hq2 := ownsRow_upd (h2 q hq) hub
        exact ownsRow_base (ownsRow_keep hq2 (fun g hg => hk g (hq2.lt g hg).2 (by have := ((h2 q hq).lt g hg).2; omega))) (Nat.zero_le _)
    · have e : polyVs ((.slice (some ⟨w.heap.size, 0, none⟩) 3 3, zeroP) :: qs) = polyVs [(.slice (some ⟨w.heap.size, 0, none⟩) 3 3, zeroP)] ++ polyVs qs := rfl
      rw [e, List.length_cons, Nat.add_comm]
      exact ownsRow_base o (Nat.zero_le _)
  exact hfin.rd
set_option maxHeartbeats 1500000 in
theorem lawSoupPlaces_c (A : Option Addr) (cap : Nat) (l : List Quad) (n n2 : Int) (hl : l.length ≤ cap) (hc : cap ≤ maxLen) (_hf : (Lit.int .i64 n).wf = true) (_hf2 : (Lit.int .i64 n2).wf = true) (w : World) (hsh : w.ShapedOpen Tryz.prog) (h : RdQ w A l) :
    Calls Tryz.prog 6 #[.slice A l.length cap, .int .i64 n, .int .i64 n2] w fun en w' => en = .returned (.bool true) ∧ Upd noBlk w w' := by
  have H := Lib.hid h
  have HSH := Lib.hid hsh
  have HC := Lib.hid hc
  have H1 := Lib.hid (sanity_any w hsh)
  have hmk := make_pts3
  clear h hsh hc
  go_enter Tryz.func6, Tryz.ntmps6
  go_wp2_with fail
  refine H1.out.mono ?_
  rintro e1 w1 ⟨rfl, u1⟩
  have U1 := Lib.hid u1
  clear u1
  go_wp2_with fail
  refine (qMade_any A cap l hl HC.out w1 (H.out.keep U1.out)).mono ?_
  rintro e1 w2 ⟨v, ps, rfl, hps, hg, ho, u2⟩
  have U2 := Lib.hid (U1.out.trans u2)
  have HG := Lib.hid (goodPs_valid hg)
  obtain ⟨v4, w4, r4, o4, u4⟩ := with_zero w2 v ps _ (by omega) ho
  have HO := Lib.hid ho
  have R4 := Lib.hid r4
  have O4 := Lib.hid o4
  have U4 := Lib.hid (U2.out.trans u4)
  clear u2 hg ho r4 o4 u4
  obtain ⟨m, hm⟩ : ∃ m : Nat, n % 3 = m := ⟨(n % 3).toNat, by omega⟩
  have hm' : m < 3 := by omega
  have hvz : ∀ p, p ∈ zeroP :: ps → validP p.1 := fun p hp => by
    rw [List.mem_cons] at hp
    rcases hp with rfl | hp
    · exact zeroP_valid
    · exact HG.out p hp
  obtain ⟨s, hs1, hs2, hs3, hs4, hs5⟩ := qWrite123_any m hm' v4 (zeroP :: ps) (by simp) (by simp; omega) hvz w4 O4.out
  have HS2 := Lib.hid hs2
  have HS3 := Lib.hid hs3
  have HS4 := Lib.hid hs4
  have HS5 := Lib.hid hs5
  clear hs2 hs3 hs4 hs5 hvz
  go_wp2_with (first | (at_builtin; refine wpList_append_run rfl _ _ _ rfl rfl rfl R4.out ?_) | (go_at_call 16; refine (Mod_any _ _ (by decide) (by decide) _).mono ?_; rintro e1 w1 ⟨rfl, rfl⟩))
  refine HS5.out.mono ?_
  rintro e1 w5 ⟨rfl, u5⟩
  have U5 := Lib.hid (U4.out.trans u5)
  clear u5 hmk
  have hsl : s.length ≤ 60000 := by simp at hs1; omega
  have hb : (bs s).size = s.length := bs_size s
  go_wp2_with fail
  go_loopw [12, 13] (fun mv i wr => w5 = wr ∧ ∃ (k many : Nat), mv = .int .i64 many ∧ i = .int .i64 k ∧ k ≤ s.length ∧ many ≤ k + 1 ∧ many + (linesGo [] (s.drop k)).length = (linesOf s).length + 1) (fun _ i _ => s.length - (intOf i).toNat)
  case atStart => exact ⟨rfl, 0, 1, rfl, rfl, Nat.zero_le _, Nat.le_refl _, by rw [List.drop_zero]; unfold linesOf; omega⟩
  case round =>
    obtain ⟨rfl, k, many, rfl, rfl, hk, hmk, hsp⟩ := hrel
    have HSP := Lib.hid hsp
    clear hsp
    by_cases hlt : k < s.length
    · have hlt' : ((k : Nat) : Int) < ((s.length : Nat) : Int) := by omega
      have hget : (bs s)[k]'(by omega) = s[k] := bs_get s k hlt
      have hsp2 := HSP.out
      rw [List.drop_eq_getElem_cons hlt, lines_count] at hsp2
      by_cases hc10 : s[k] = 10
      · have e2 : ((((bs s)[k]'(by omega)).toNat : Int) == 10) = true := by rw [hget, hc10]; rfl
        rw [if_pos hc10] at hsp2
        have HSP2 := Lib.hid hsp2
        clear hget hc10 hsp2
        go_wp2_with fail
        exact ⟨⟨trivial, k + 1, many + 1, by go_num, by go_num, hlt, by omega, by have := HSP2.out; omega⟩, by simp [intOf]; omega⟩
      · have e2 : ((((bs s)[k]'(by omega)).toNat : Int) == 10) = false := by
          rw [hget, beq_eq_false_iff_ne]; intro e; exact hc10 (by rw [← UInt8.toNat_inj]; exact_mod_cast e)
        rw [if_neg hc10] at hsp2
        have HSP2 := Lib.hid hsp2
        clear hget hc10 hsp2
        go_wp2_with fail
        exact ⟨⟨trivial, k + 1, many, rfl, by go_num, hlt, by omega, by have := HSP2.out; omega⟩, by simp [intOf]; omega⟩
    · obtain rfl : k = s.length := by omega
      have HM : Hid (many = (linesOf s).length) := by
        have h1 := HSP.out
        rw [List.drop_length, linesGo] at h1
        show _ = _
        simp at h1; omega
      obtain ⟨m6, hm6⟩ : ∃ m : Nat, n2 % 6 = m := ⟨(n2 % 6).toNat, by omega⟩
      have hm6' : m6 < 6 := by omega
      have hm6'' : ((m6 : Nat) : Int) < 6 := by omega
      have hc : m = 0 ∨ m = 1 ∨ m = 2 := by omega
      rcases hc with rfl | rfl | rfl
      · obtain ⟨x, hx1, hx2, hx3, hx4⟩ := bad1V_get m6 hm6'
        have HR := Lib.hid (HS2.out rfl x hx1)
        have hwb : Hid (((w5.alloc (.cells bad1V 9)).alloc (.cells want1V 28)).heap[w5.heap.size + 1]? = some (.cells want1V 28)) := by
          have := heap_alloc_new (w5.alloc (.cells bad1V 9)) (.cells want1V 28); rw [World.size_alloc] at this; exact this
        have hcc : ((w5.alloc (.cells bad1V 9)).alloc (.cells want1V 28)).cell? ⟨w5.heap.size, m6, none⟩ = some (.string (bs x.1)) := by
          rw [cell_of_row _ _ _ _ _ _ (heap_alloc_keep _ (heap_alloc_new w5 (.cells bad1V 9)))]; exact hx2
        have HX3 := Lib.hid hx3
        have UW : Hid (Upd noBlk w ((w5.alloc (.cells bad1V 9)).alloc (.cells want1V 28))) := (U5.out.alloc _).alloc _
        have HC2 : Hid (∀ W, W.ShapedOpen Tryz.prog → Calls Tryz.prog 17 #[.string (bs s ++ bs x.1 ++ ⟨#[10, 118, 32, 49, 32, 49, 32, 49, 10]⟩)] W fun en w' => readQ (.bad many x.2) W en w') := fun W hW => by
          rw [bs_append, HM.out, show (⟨#[10, 118, 32, 49, 32, 49, 32, 49, 10]⟩ : ByteArray) = bs tail1 from rfl, bs_append]
          exact read_ba _ _ HR.out (by simp only [List.length_append]; show _ + _ + 9 ≤ _; omega) W hW
        have hbx : (bs x.1).size = x.1.length := bs_size _
        unfold bad1V want1V at hcc hwb UW
        clear hx2 hx3
        go_wp2_with (go_at_call 16; refine (Mod_any _ _ (by decide) (by decide) _).mono ?_; rintro e1 w1 ⟨rfl, rfl⟩)
        refine (HC2.out _ (UW.out.shaped HSH.out)).mono ?_
        rintro e1 w6 ⟨rfl, u6⟩
        have hw6 := u6.heap hwb.out id
        have hcw : w6.cell? ⟨w5.heap.size + 1, m6, none⟩ = some (.int .i64 (x.2 : Nat)) := by rw [cell_of_row _ _ _ _ _ _ hw6]; exact HX3.out
        have U6 := Lib.hid (UW.out.trans u6)
        clear u6 hw6 hcc
        go_wp2_with fail
        go_ret
        exact ⟨rfl, U6.out⟩
      · obtain ⟨x, hx1, hx2, hx3, hx4⟩ := bad2V_get m6 hm6'
        have HR := Lib.hid (HS3.out rfl x hx1)
        have hwb : Hid (((w5.alloc (.cells bad2V 9)).alloc (.cells want2V 28)).heap[w5.heap.size + 1]? = some (.cells want2V 28)) := by
          have := heap_alloc_new (w5.alloc (.cells bad2V 9)) (.cells want2V 28); rw [World.size_alloc] at this; exact this
        have hcc : ((w5.alloc (.cells bad2V 9)).alloc (.cells want2V 28)).cell? ⟨w5.heap.size, m6, none⟩ = some (.string (bs x.1)) := by
          rw [cell_of_row _ _ _ _ _ _ (heap_alloc_keep _ (heap_alloc_new w5 (.cells bad2V 9)))]; exact hx2
        have HX3 := Lib.hid hx3
        have UW : Hid (Upd noBlk w ((w5.alloc (.cells bad2V 9)).alloc (.cells want2V 28))) := (U5.out.alloc _).alloc _
        have HC2 : Hid (∀ W, W.ShapedOpen Tryz.prog → Calls Tryz.prog 17 #[.string (bs s ++ bs x.1 ++ ⟨#[10]⟩)] W fun en w' => readQ (.bad many x.2) W en w') := fun W hW => by
          rw [bs_append, HM.out, show (⟨#[10]⟩ : ByteArray) = bs [10] from rfl, bs_append]
          exact read_ba _ _ HR.out (by simp only [List.length_append]; show _ + _ + 1 ≤ _; omega) W hW
        have hbx : (bs x.1).size = x.1.length := bs_size _
        unfold bad2V want2V at hcc hwb UW
        clear hx2 hx3
        go_wp2_with (go_at_call 16; refine (Mod_any _ _ (by decide) (by decide) _).mono ?_; rintro e1 w1 ⟨rfl, rfl⟩)
        refine (HC2.out _ (UW.out.shaped HSH.out)).mono ?_
        rintro e1 w6 ⟨rfl, u6⟩
        have hw6 := u6.heap hwb.out id
        have hcw : w6.cell? ⟨w5.heap.size + 1, m6, none⟩ = some (.int .i64 (x.2 : Nat)) := by rw [cell_of_row _ _ _ _ _ _ hw6]; exact HX3.out
        have U6 := Lib.hid (UW.out.trans u6)
        clear u6 hw6 hcc
        go_wp2_with fail
        go_ret
        exact ⟨rfl, U6.out⟩
      · have HR := Lib.hid (HS4.out rfl)
        have hsz : ((bs s).size : Int) = (s.length : Int) := by omega
        have HC2 : Hid (∀ W, W.ShapedOpen Tryz.prog → Calls Tryz.prog 17 #[.string (bs s ++ ⟨#[120]⟩)] W fun en w' => readQ (.bad s.length 13) W en w') := fun W hW => by
          rw [show (⟨#[120]⟩ : ByteArray) = bs [120] from rfl, bs_append]
          exact read_ba _ _ HR.out (by simp only [List.length_append]; show _ + 1 ≤ _; omega) W hW
        go_wp2_with fail
        refine (HC2.out _ (U5.out.shaped HSH.out)).mono ?_
        rintro e1 w6 ⟨rfl, u6⟩
        have U6 := Lib.hid (U5.out.trans u6)
        clear u6
        go_wp2_with fail
        go_ret
        exact ⟨rfl, U6.out⟩
end Go.Proofs.YtojdgdeefhndiaaGreatDoor
namespace Go.Proofs.YtojdgdeefhndiaaGreatDoor
open Go Go.RowKit Sp Bg
set_option maxRecDepth 100000
/-- A builder that holds these bytes, its memory from a block on. -/
def Bld (B b : Nat) (s : Bytes) (w : World) : Prop := Lib.IsBuilderF 93 5 B b (Lib.byteCells s) w
theorem Bld.fresh (w : World) : Bld w.heap.size w.heap.size [] (w.alloc (.cells #[.pointer none, .slice none 0 0] 93)) := Lib.IsBuilderF.of (Lib.fresh_isBuilder _ _ _)
theorem bldAt_keep {B b : Nat} {p : Value} {l : List Value} {w w' : World} (h : Lib.BuilderAtF 93 5 B b p l w) (hu : Upd noBlk w w') : Lib.BuilderAtF 93 5 B b p l w' := by
  obtain ⟨h1, v, h2, h3, h4⟩ := h
  refine ⟨h1, v, hu.heap h2 id, ⟨h3.1, ?_⟩, h4⟩
  rcases h3.2 with h5 | ⟨g, cap, cur, fz, h5⟩
  · exact .inl h5
  · obtain ⟨e, e2, e3, e4⟩ := h5
    exact .inr ⟨g, cap, cur, fz, e, e2, hu.heap e3 id, e4⟩
theorem Bld.keep {B b : Nat} {s : Bytes} {w w' : World} (h : Bld B b s w) (hu : Upd noBlk w w') : Bld B b s w' := h.elim (fun x => .inl (bldAt_keep x hu)) (fun x => .inr (bldAt_keep x hu))
theorem Bld.blk {B b : Nat} {s : Bytes} {w : World} (h : Bld B b s w) : B ≤ b ∧ b < w.heap.size := by
  rcases h with h | h
  · exact ⟨h.1, h.lt⟩
  · exact ⟨h.1, h.lt⟩
/-- What writing to a builder leaves: all blocks below its memory, and all others that are no rows of bytes. -/
def BKeep (B b : Nat) (w w' : World) : Prop := Below B w w' ∧ Lib.OthersKept 5 (some b) w w'
theorem BKeep.heap {B b k : Nat} {w w' : World} {o : Obj} (h : BKeep B b w w') (hk : w.heap[k]? = some o) (hb : k ≠ b) (ho : ∀ c fz, o ≠ .cells c 5 fz) : w'.heap[k]? = some o := h.2 k o hk (fun e => hb (Option.some.inj e)) ho
theorem BKeep.upd {B b : Nat} {w0 w w' : World} (h : BKeep B b w w') (hu : Upd noBlk w0 w) (hB : w0.heap.size ≤ B) : Upd noBlk w0 w' :=
  Upd.ofBelow (hu.below.trans (h.1.mono hB))
theorem wString_any (B b : Nat) (s x : Bytes) (w : World) (h : Bld B b s w) (hlen : s.length + x.length ≤ 140737488355328) (hB : B ≤ w.heap.size) :
    Calls Tryz.prog 56 #[.pointer (some ⟨b, 0, none⟩), .string (bs x)] w fun e w' => ∃ v, e = .returned v ∧ Bld B b (s ++ x) w' ∧ BKeep B b w w' := by
  refine (Any.Builder_WriteString_k (P := Tryz.prog) (ρ := Tryz.lays156_ren) { Tryz.lays156 with } Tryz.Builder_Extra_156 B b (Lib.byteCells s) (bs x) w h (by rw [Lib.byteCells_length, bs_size]; exact hlen) hB).mono ?_
  rintro e w' ⟨rfl, h1, h2, h3⟩
  refine ⟨_, rfl, .inr ?_, h2, h3⟩
  have e1 : Lib.byteCells (s ++ x) = Lib.byteCells s ++ Lib.strCells (bs x) := by unfold Lib.byteCells Lib.strCells; rw [List.map_append, bs_data]
  rw [e1]; exact h1
theorem bString_any (B b : Nat) (s : Bytes) (w : World) (h : Bld B b s w) (hB : B ≤ w.heap.size) :
    Calls Tryz.prog 58 #[.pointer (some ⟨b, 0, none⟩)] w fun e w' => e = .returned (.string (bs s)) ∧ Below B w w' := by
  refine (Any.Builder_String_any_k (P := Tryz.prog) (ρ := Tryz.lays156_ren) { Tryz.lays156 with } Tryz.Builder_Extra_156 B b s w h hB).mono ?_
  rintro e w' ⟨rfl, h1, h2, h3⟩
  exact ⟨rfl, h2⟩
/-- The library's table of powers of ten lies. -/
def Pow (w : World) : Prop := Lib.TabIs Tryz.prog w "internal/strconv.uint64pow10" .u64 Lib.pow10Tab
theorem Pow.keep {w w' : World} (h : Pow w) (hu : Upd noBlk w w') : Pow w' := by
  unfold Pow Lib.TabIs World.var? at *
  cases hg : Tryz.prog.globalNamed "internal/strconv.uint64pow10" with
  | none => rw [hg] at h; cases h
  | some g =>
    rw [hg] at h
    simp only [Option.bind_some] at h ⊢
    cases ho : w.heap[g]? with
    | none => rw [ho] at h; cases h
    | some o => rw [hu.heap ho id]; rw [ho] at h; exact h
theorem decDigits_dec : ∀ (n : Nat) (s : Bytes), 0 < n → Lib.decDigits n ++ s = dec0 n s := by
  intro n
  induction n using Nat.strongRecOn with
  | ind n ih =>
    intro s h
    rw [Lib.decDigits, dec0_step h]
    by_cases h10 : n < 10
    · rw [dif_pos h10, show n / 10 = 0 by omega, dec0_zero, show n % 10 = n by omega]; rfl
    · rw [dif_neg h10, ← ih (n / 10) (by omega) _ (by omega), List.append_assoc]; rfl
theorem itoa_dec (n : Nat) : Lib.itoa (n : Int) = dec n := by
  unfold Lib.itoa dec
  rw [if_neg (by omega), Int.toNat_natCast]
  by_cases h : n = 0
  · subst h; rw [if_pos rfl, Lib.decDigits]; rfl
  · rw [if_neg h, ← decDigits_dec n [] (by omega), List.append_nil]
theorem grow_upd (w : World) (n : Nat) (os : Array Obj) : Upd noBlk w (Go.Sort.grow (w.drewN n) os) := by
  have h : Upd noBlk (w.drewN n) (Go.Sort.grow (w.drewN n) os) := ⟨rfl, rfl, rfl, by simp [Go.Sort.grow], fun k hk _ => Array.getElem?_append_left hk⟩
  exact ((Upd.refl _ _).drewN n).trans h
theorem Itoa_any (n : Nat) (hn : n < 16777216) (w : World) (hp : Pow w) : Calls Tryz.prog 84 #[.int .i64 n] w fun e w' => strR (dec n) w e w' := by
  refine (Tryz.strconv_Itoa (n : Int) (by omega) (by omega) w hp).mono ?_
  rintro e w' ⟨rfl, k, os, rfl⟩
  exact ⟨by rw [itoa_dec]; rfl, grow_upd w k os⟩
theorem join_joinW : ∀ ws : List Bytes, Lib.join ws [32] = joinW ws
  | [] => rfl
  | [w] => by simp [Lib.join, joinW, List.intercalate]
  | w :: v :: r => by
    have ih := join_joinW (v :: r)
    unfold Lib.join at ih
    rw [joinW, ← ih, Lib.join]
    simp [List.intercalate]
theorem joinW_length : ∀ (ws : List Bytes) (k : Nat), (∀ w, w ∈ ws → w.length ≤ k) → (joinW ws).length ≤ (k + 1) * ws.length
  | [], k, _ => by simp [joinW]
  | [w], k, h => by have := h w (by simp); simp [joinW]; omega
  | w :: v :: r, k, h => by
    have ih := joinW_length (v :: r) k (fun x hx => h x (by simp at hx ⊢; exact .inr hx))
    have := h w (by simp)
    rw [joinW, List.length_append, List.length_cons]
    rw [List.length_cons (a := w), Nat.mul_succ]
    omega
theorem Join_any {w0 w : World} {v : Value} {ls : List Bytes} (h : w.ownsRow w0.heap.size 9 1 v ls.length (wsV ls)) (h0 : ls ≠ []) (hk : ∀ x, x ∈ ls → x.length ≤ 100) (hl : ls.length ≤ 1000) :
    Calls Tryz.prog 85 #[v, .string ⟨#[32]⟩] w fun e w' => strR (joinW ls) w e w' := by
  rcases h.2 with ⟨_, h1⟩ | ⟨g, cap, cur, rfl, hb, hg, hcap, hm, _⟩
  · exact absurd (List.length_eq_zero_iff.1 h1) h0
  · have hcells : ∀ (j : Nat) x, (ls.map bs)[j]? = some x → w.cell? ⟨g, 0 + j, none⟩ = some (.string x) := by
      intro j x hx
      have := h.cells (g := g) rfl j (.string x) (by unfold wsV; rw [List.getElem?_map] at hx ⊢; cases hls : ls[j]? with
        | none => rw [hls] at hx; cases hx
        | some y => rw [hls] at hx; cases hx; rfl)
      rw [Nat.zero_add]
      by_cases e : j = 0
      · subst e; simpa [Addr.add] using this
      · simpa [Addr.add, e] using this
    have hmap : (ls.map bs).map (·.data.toList) = ls := by
      rw [List.map_map]
      have e : (fun x : ByteArray => x.data.toList) ∘ bs = id := funext fun u => bs_data u
      rw [e, List.map_id]
    have hj : Lib.join ((ls.map bs).map (·.data.toList)) (⟨#[32]⟩ : ByteArray).data.toList = joinW ls := by rw [hmap]; exact join_joinW ls
    have := Tryz.strings_Join g 0 cap (ls.map bs) ⟨#[32]⟩ w hcells (lt_of_heap hg) (by rw [List.length_map]; omega) (by rw [List.length_map]; exact hcap) (by rw [hj]; have := joinW_length ls 100 hk; omega)
    rw [hj, List.length_map] at this
    refine this.mono ?_
    rintro e w' ⟨rfl, hb⟩
    exact ⟨rfl, Upd.ofBelow hb⟩
end Go.Proofs.YtojdgdeefhndiaaGreatDoor
