/- Walks of the laws of the polygon files: SoupRelative. -/
import Derived.Test.YtojdgdeefhndiaaDoorM17
import Derived.Test.YtojdgdeefhndiaaDoorM22
import Derived.Test.YtojdgdeefhndiaaDoorM15
namespace Go.Proofs.YtojdgdeefhndiaaDoor
open Go Go.RowKit Sp Bg
set_option maxRecDepth 100000
theorem bs_append (a b : Bytes) : bs a ++ bs b = bs (a ++ b) := by apply ByteArray.ext; simp [bs]
theorem read_ba (s : Bytes) (r : Out) (h : readS s = r) (hs : s.length ≤ 4294901760) (w : World) (hsh : w.ShapedOpen Tryd.prog) : Calls Tryd.prog 6 #[.string (bs s)] w fun en w' => readQ r w en w' := by
  have := read_any s (by omega) w hsh
  rw [h] at this
  exact this
theorem fNeg_snoc (js : List Nat) (j : Nat) : fNeg (js ++ [j]) = fNeg js ++ [32, 45] ++ dec j := by simp [fNeg]
theorem fPos_snoc (n : Nat) (js : List Nat) (j : Nat) : fPos n (js ++ [j]) = fPos n js ++ [32] ++ dec (n + 1 - j) := by simp [fPos]
theorem fNeg_len : ∀ js : List Nat, (∀ j, j ∈ js → j ≤ 100) → (fNeg js).length ≤ 1 + 10 * js.length := by
  intro js
  unfold fNeg
  rw [List.length_cons]
  induction js with
  | nil => simp
  | cons j r ih =>
    intro h
    have ih' := ih (fun x hx => h x (by simp [hx]))
    have := dec_len (n := j) (by have := h j (by simp); omega)
    rw [List.flatMap_cons, List.length_append, List.length_cons, List.length_cons, List.length_cons]; omega
theorem fPos_len (n : Nat) (hn : n ≤ 100) : ∀ js : List Nat, (fPos n js).length ≤ 1 + 9 * js.length := by
  intro js
  unfold fPos
  rw [List.length_cons]
  induction js with
  | nil => simp
  | cons j r ih =>
    have := dec_len (n := n + 1 - j) (by omega)
    rw [List.flatMap_cons, List.length_append, List.length_cons, List.length_cons]; omega
set_option maxHeartbeats 2000000 in
theorem lawSoupRelative_c (x b u0 u1 u2 : Nat) (hx : x < 256) (hb : b < 256) (h0 : u0 < 256) (h1 : u1 < 256) (h2 : u2 < 256) (w : World) (hsh : w.ShapedOpen Tryd.prog) :
    Calls Tryd.prog 3 #[.int .u8 x, .int .u8 b, .agg #[.int .u8 u0, .int .u8 u1, .int .u8 u2]] w fun en w' => en = .returned (.bool true) ∧ Upd noBlk w w' := by
  have HSH := Lib.hid hsh
  have HUA : Hid (Upd noBlk w (w.alloc (.cells #[.int .u8 u0, .int .u8 u1, .int .u8 u2] 22))) := (Upd.refl _ _).alloc _
  have HBA : Hid ((w.alloc (.cells #[.int .u8 u0, .int .u8 u1, .int .u8 u2] 22)).heap[w.heap.size]? = some (.cells #[.int .u8 u0, .int .u8 u1, .int .u8 u2] 22)) := heap_alloc_new _ _
  have HS1 := Lib.hid (sanity_any (w.alloc (.cells #[.int .u8 u0, .int .u8 u1, .int .u8 u2] 22)) (HUA.out.shaped hsh))
  obtain ⟨m, hm⟩ : ∃ m : Nat, m = x % 20 := ⟨_, rfl⟩
  have hm20 : m < 20 := by omega
  have hx20 : ((x : Nat) : Int).tmod 20 = ((m : Nat) : Int) := by rw [Int.tmod_eq_emod_of_nonneg (by omega)]; omega
  obtain ⟨b5, hb5⟩ : ∃ m : Nat, m = b % 5 := ⟨_, rfl⟩
  have hb5' : b5 < 5 := by omega
  have hbm : ((b : Nat) : Int).tmod 5 = ((b5 : Nat) : Int) := by rw [Int.tmod_eq_emod_of_nonneg (by omega)]; omega
  obtain ⟨nn, hnn⟩ : ∃ nn : Nat, nn = m + 1 := ⟨_, rfl⟩
  have hnm : 1 + ((m : Nat) : Int) = ((nn : Nat) : Int) := by omega
  have hn1 : 1 ≤ nn := by omega
  have hn20 : nn ≤ 20 := by omega
  clear hsh hm hb5 hnn
  go_enter Tryd.func3, Tryd.ntmps3
  go_wp2_with fail
  refine HS1.out.mono ?_
  rintro e1 w1 ⟨rfl, uu1⟩
  have U1 := Lib.hid (HUA.out.trans uu1)
  have B1 := Lib.hid (uu1.heap HBA.out id)
  clear uu1
  go_wp2_with fail
  go_loopw [9, 10] (fun sv i wr => ∃ k : Nat, sv = .string (bs (relS k)) ∧ i = .int .i64 k ∧ k ≤ nn ∧ Upd noBlk w1 wr) (fun _ i _ => nn - (intOf i).toNat)
  case atStart => exact ⟨0, rfl, rfl, Nat.zero_le _, Upd.refl _ _⟩
  case round =>
    obtain ⟨k, rfl, rfl, hk, hu⟩ := hrel
    have HU := Lib.hid hu
    have hsz : (bs (relS k)).size ≤ 400 := by rw [bs_size]; have := relS_length k (by omega); omega
    clear hu
    by_cases hlt : k < nn
    · have hlt' : ((k : Nat) : Int) < ((nn : Nat) : Int) := by omega
      have HN := Lib.hid (number_anyL k (by omega) wr)
      have hsd : (bs (dec k)).size ≤ 8 := by rw [bs_size]; exact dec_len (by omega)
      go_wp2_with fail
      refine HN.out.mono ?_
      rintro e1 w3 ⟨rfl, u3⟩
      go_wp2_with fail
      refine ⟨⟨k + 1, ?_, by go_num, hlt, HU.out.trans u3⟩, by simp [intOf]; omega⟩
      show Value.string (bs (relS k) ++ bs [118, 32] ++ bs (dec k) ++ bs [32, 55, 32, 56, 10]) = _
      rw [bs_append, bs_append, bs_append]; rfl
    · obtain rfl : nn = k := by omega
      have B3 := Lib.hid (HU.out.heap B1.out id)
      have U3 := Lib.hid (U1.out.trans HU.out)
      go_wp2_with fail
      obtain ⟨wo, rfl⟩ : ∃ wo : World, wo = wr := ⟨_, rfl⟩
      go_loopw [11, 12, 13, 14] (fun fv gv i _ wr => ∃ (k : Nat) (js : List Nat), fv = .string (bs (fNeg js)) ∧ gv = .string (bs (fPos (nn) js)) ∧ i = .int .i64 k ∧ k ≤ 3 ∧ js.length = k ∧ (∀ j, j ∈ js → 1 ≤ j ∧ j ≤ nn) ∧ wr.heap[w.heap.size]? = some (.cells #[.int .u8 u0, .int .u8 u1, .int .u8 u2] 22) ∧ Upd noBlk w wr) (fun _ _ i _ _ => 3 - (intOf i).toNat)
      case atStart => exact ⟨0, [], rfl, rfl, rfl, Nat.zero_le _, rfl, (fun j hj => by cases hj), B3.out, U3.out⟩
      case round =>
        obtain ⟨k, js, rfl, rfl, rfl, hk, hjl, hjs, hbl, hu⟩ := hrel
        have HU4 := Lib.hid hu
        have HBL := Lib.hid hbl
        have HJS := Lib.hid hjs
        have HJL := Lib.hid hjl
        have hsf : (bs (fNeg js)).size ≤ 60 := by rw [bs_size]; have := fNeg_len js (fun j hj => by have := hjs j hj; omega); omega
        have hsg : (bs (fPos (nn) js)).size ≤ 60 := by rw [bs_size]; have := fPos_len (nn) (by omega) js; omega
        clear hu hjs hjl
        by_cases hlt : k < 3
        · have hlt' : ((k : Nat) : Int) < 3 := by omega
          obtain ⟨uk, huk, hcell⟩ : ∃ uk : Nat, uk < 256 ∧ (#[Value.int .u8 u0, .int .u8 u1, .int .u8 u2] : Array Value)[k]? = some (.int .u8 (uk : Nat)) := by
            have hc : k = 0 ∨ k = 1 ∨ k = 2 := by omega
            rcases hc with rfl | rfl | rfl
            · exact ⟨u0, h0, rfl⟩
            · exact ⟨u1, h1, rfl⟩
            · exact ⟨u2, h2, rfl⟩
          have c0 : wr.cell? ⟨w.heap.size, k, none⟩ = some (.int .u8 (uk : Nat)) := by rw [cell_of_row _ _ _ _ _ _ hbl]; exact hcell
          obtain ⟨r, hr⟩ : ∃ r : Nat, r = uk % (nn) := ⟨_, rfl⟩
          have hrm : r < nn := by rw [hr]; exact Nat.mod_lt _ (by omega)
          have hrem : ((uk : Nat) : Int).tmod (((nn : Nat) : Int)) = ((r : Nat) : Int) := by rw [Int.tmod_eq_emod_of_nonneg (by omega), hr]; rfl
          have hmz : ¬ (((nn : Nat) : Int)) = 0 := by omega
          have hmz2 : ¬ (((nn : Nat) : Int)) = -1 := by omega
          have HN1 := Lib.hid (number_anyL (r + 1) (by omega) wr)
          rw [show (((r + 1 : Nat)) : Int) = 1 + (r : Int) by omega] at HN1
          have hsd : (bs (dec (r + 1))).size ≤ 8 := by rw [bs_size]; exact dec_len (by omega)
          have hsd2 : (bs (dec (nn + 1 - (r + 1)))).size ≤ 8 := by rw [bs_size]; exact dec_len (by omega)
          obtain ⟨D2, hD2⟩ : ∃ D2, D2 = dec (nn + 1 - (r + 1)) := ⟨_, rfl⟩
          rw [← hD2] at hsd2
          have HD2 := Lib.hid hD2
          clear hbl hcell hr hD2
          go_wp2_with fail
          refine HN1.out.mono ?_
          rintro e1 w5 ⟨rfl, u5⟩
          have U5 := Lib.hid (HU4.out.trans u5)
          have HN2 := Lib.hid (number_anyL (nn + 1 - (r + 1)) (by omega) w5)
          rw [show (((nn + 1 - (r + 1) : Nat)) : Int) = (nn : Int) + 1 - (1 + (r : Int)) by omega, ← HD2.out] at HN2
          have HB5 := Lib.hid (u5.heap HBL.out id)
          clear u5 HN1 c0
          go_wp2_with fail
          refine HN2.out.mono ?_
          rintro e1 w6 ⟨rfl, u6⟩
          have U6 := Lib.hid (U5.out.trans u6)
          have HB6 := Lib.hid (u6.heap HB5.out id)
          clear u6 HN2
          go_wp2_with fail
          refine ⟨⟨k + 1, js ++ [r + 1], ?_, ?_, by go_num, hlt, by rw [List.length_append, HJL.out]; rfl, fun j hj => ?_, HB6.out, U6.out⟩, by simp [intOf]; omega⟩
          · show Value.string (bs (fNeg js) ++ bs [32, 45] ++ bs (dec (r + 1))) = _
            rw [bs_append, bs_append, fNeg_snoc]
          · show Value.string (bs (fPos (nn) js) ++ bs [32] ++ bs D2) = _
            rw [bs_append, bs_append, fPos_snoc, HD2.out]
          · rw [List.mem_append, List.mem_singleton] at hj
            rcases hj with hj | rfl
            · exact HJS.out j hj
            · omega
        · obtain rfl : k = 3 := by omega
          have hfz : (fNeg js).length ≤ 31 := by have := fNeg_len js (fun j hj => by have := HJS.out j hj; omega); have := HJL.out; omega
          have hgz : (fPos (nn) js).length ≤ 28 := by have := fPos_len (nn) (by omega) js; have := HJL.out; omega
          have hrz : (relS (nn)).length ≤ 300 := by have := relS_length (nn) (by omega); omega
          clear hbl
          go_wp2_with fail
          go_loopw [15, 16] (fun tv i wr => ∃ k : Nat, tv = .string (bs (tailS k)) ∧ i = .int .i64 k ∧ k ≤ b5 ∧ Upd noBlk w wr) (fun _ i _ => b5 - (intOf i).toNat)
          case atStart => exact ⟨0, rfl, rfl, Nat.zero_le _, HU4.out⟩
          case round =>
            obtain ⟨k, rfl, rfl, hk, hu⟩ := hrel
            have HU5 := Lib.hid hu
            have hst : (bs (tailS k)).size ≤ 40 := by rw [bs_size, tailS_length]; omega
            clear hu
            by_cases hlt : k < b5
            · have hlt' : ((k : Nat) : Int) < ((b5 : Nat) : Int) := by omega
              go_wp2_with fail
              refine ⟨⟨k + 1, ?_, by go_num, hlt, HU5.out⟩, by simp [intOf]; omega⟩
              show Value.string (bs (tailS k) ++ bs [118, 32, 53, 32, 53, 32, 53, 10]) = _
              rw [bs_append]; rfl
            · obtain rfl : k = b5 := by omega
              have htz : (tailS k).length ≤ 40 := by rw [tailS_length]; omega
              have hszr : (bs (relS (nn))).size ≤ 300 := by rw [bs_size]; exact hrz
              have HR1 : Hid (∀ W, W.ShapedOpen Tryd.prog → Calls Tryd.prog 6 #[.string (bs (relS (nn)) ++ bs (fNeg js) ++ ⟨#[10]⟩ ++ bs (tailS k))] W fun en w' => readQ (.ok [relP (nn) js]) W en w') := fun W hW => by
                rw [show (⟨#[10]⟩ : ByteArray) = bs [10] from rfl, bs_append, bs_append, bs_append]
                exact read_ba _ _ (read_neg (nn) k js (by omega) (by omega) HJL.out HJS.out) (by simp only [List.length_append, List.length_cons, List.length_nil]; omega) W hW
              have HR2 : Hid (∀ W, W.ShapedOpen Tryd.prog → Calls Tryd.prog 6 #[.string (bs (relS (nn)) ++ bs (fPos (nn) js) ++ ⟨#[10]⟩ ++ bs (tailS k))] W fun en w' => readQ (.ok [relP (nn) js]) W en w') := fun W hW => by
                rw [show (⟨#[10]⟩ : ByteArray) = bs [10] from rfl, bs_append, bs_append, bs_append]
                exact read_ba _ _ (read_pos (nn) k js (by omega) (by omega) HJL.out HJS.out) (by simp only [List.length_append, List.length_cons, List.length_nil]; omega) W hW
              have hdz : (dec (nn + 1)).length ≤ 8 := dec_len (by omega)
              have HR3 : Hid (∀ W, W.ShapedOpen Tryd.prog → Calls Tryd.prog 6 #[.string (bs (relS (nn)) ++ ⟨#[102, 32, 49, 32, 49, 32, 45]⟩ ++ bs (dec (nn + 1)) ++ ⟨#[10]⟩ ++ bs (tailS k))] W fun en w' => readQ (.bad (nn + 1) 14) W en w') := fun W hW => by
                rw [show (⟨#[10]⟩ : ByteArray) = bs [10] from rfl, show (⟨#[102, 32, 49, 32, 49, 32, 45]⟩ : ByteArray) = bs [102, 32, 49, 32, 49, 32, 45] from rfl, bs_append, bs_append, bs_append, bs_append]
                exact read_ba _ _ (read_over (nn) k (by omega) (by omega)) (by simp only [List.length_append, List.length_cons, List.length_nil]; omega) W hW
              have hsd : (bs (dec (nn + 1))).size ≤ 8 := by rw [bs_size]; exact hdz
              have HPC : Hid ((relP (nn) js).1.length = 3) := by show _ = _; unfold relP; rw [List.length_map]; exact HJL.out
              have HPP : Hid ((relP (nn) js).2 = nn + 1) := rfl
              clear hfz hgz hrz htz hdz
              generalize relP (nn) js = rp at *
              go_wp2_with fail
              refine (HR1.out _ (HU5.out.shaped HSH.out)).mono ?_
              rintro e1 w5 ⟨v5, rfl, o5, u5⟩
              have U5 := Lib.hid (HU5.out.trans u5)
              have O5 := Lib.hid o5.rd
              clear o5 u5
              go_wp2_with fail
              refine (HR2.out _ (U5.out.shaped HSH.out)).mono ?_
              rintro e1 w6 ⟨v6, rfl, o6, u6⟩
              have U6 := Lib.hid (U5.out.trans u6)
              have O5b := Lib.hid (O5.out.keep u6)
              have O6 := Lib.hid o6.rd
              have HN := Lib.hid (number_anyL (nn + 1) (by omega) w6)
              rw [show (((nn + 1 : Nat)) : Int) = (nn : Int) + 1 by omega] at HN
              clear o6 u6 O5
              go_wp2_with fail
              refine HN.out.mono ?_
              rintro e1 w7 ⟨rfl, u7⟩
              have U7 := Lib.hid (U6.out.trans u7)
              have O5c := Lib.hid (O5b.out.keep u7)
              have O6b := Lib.hid (O6.out.keep u7)
              clear u7 HN O5b O6
              go_wp2_with fail
              refine (HR3.out _ (U7.out.shaped HSH.out)).mono ?_
              rintro e1 w8 ⟨rfl, u8⟩
              have U8 := Lib.hid (U7.out.trans u8)
              have O5d := Lib.hid (O5c.out.keep u8)
              have O6c := Lib.hid (O6b.out.keep u8)
              have HSM := Lib.hid (qSame_yes v5 v6 [rp] [rp] true rfl (fun j h1 h2 => ⟨rfl, fun _ => rfl⟩) (by simp) (fun p hp => by rw [List.mem_singleton] at hp; subst hp; have := HPC.out; omega) w8 O5d.out O6c.out)
              obtain ⟨A5, c5, hv5, g5⟩ := O5d.out
              subst hv5
              obtain ⟨b5, o5, rfl, f5⟩ := g5 (by simp)
              obtain ⟨pv5, d5, d5b, _⟩ := f5 0 (by simp)
              simp only [Nat.zero_mul, Nat.add_zero, List.getElem_cons_zero] at d5b
              rw [HPP.out] at d5b
              clear u8 g5 f5 d5 O5c O6b
              go_wp2_with fail
              refine HSM.out.mono ?_
              rintro e1 w9 ⟨rfl, nd, rfl⟩
              go_wp2_with fail
              go_ret
              exact ⟨rfl, U8.out.drewN nd⟩
end Go.Proofs.YtojdgdeefhndiaaDoor
