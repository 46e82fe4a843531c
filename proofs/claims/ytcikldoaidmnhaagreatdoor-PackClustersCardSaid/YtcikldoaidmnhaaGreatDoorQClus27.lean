/- Parts: Walks of the reference's makers: one thing is changed. No condition. -/
import Derived.Test.YtcikldoaidmnhaaGreatDoorQClus26
namespace Go.Proofs.YtcikldoaidmnhaaGreatDoor
open Go Go.RowKit Pk
set_option maxRecDepth 100000
def spoilM (l : List Tri) (m k j : Nat) : List Tri :=
 let t := l.getD k z3
 let u := l.getD j z3
 match m with
 | 0 => l.take k ++ l.drop (k + 1)
 | 1 => l.set k (t.1, t.2.2, t.2.1)
 | 2 => l ++ [u]
 | 3 => l.set k (u.2.1, t.2.1, t.2.2)
 | 4 => l.set k (t.1, t.1, t.2.2)
 | 5 => l ++ [(t.1, t.2.2, t.2.1)]
 | 6 => l.map (swapP u.2.2 t.1)
 | 7 => l.take (1 + k)
 | 8 => l.set k (t.2.2, t.1, t.2.1)
 | _ => l
theorem spoilT_eq (l : List Tri) (q0 q1 q2 : Int) (h : ¬ l = []) : spoilT l q0 q1 q2 = spoilM l (modI q0 12).toNat (modI q1 l.length).toNat (modI q2 l.length).toNat := by
 unfold spoilT
 rw [if_neg h]
 rfl
def cornP (t : Tri) (c : Nat) : Pt := match c with
 | 0 => t.1
 | 1 => t.2.1
 | _ => t.2.2
theorem RowAt.corner {w : World} {g i c : Nat} {l : List Tri} (h : RowAt w g l) (hk : i < l.length) (hc : c < 3) : w.cell? ⟨g, i * 9 + c * 3, none⟩ = some (.int .i64 (cornP (l.getD i z3) c).1) ∧ w.cell? ⟨g, i * 9 + c * 3 + 1, none⟩ = some (.int .i64 (cornP (l.getD i z3) c).2.1) ∧ w.cell? ⟨g, i * 9 + c * 3 + 2, none⟩ = some (.int .i64 (cornP (l.getD i z3) c).2.2) := by
 have hg : l.getD i z3 = l[i] := by rw [List.getD_eq_getElem?_getD, List.getElem?_eq_getElem hk]; rfl
 rw [hg]
 have ha := h.cells hk
 rcases (by omega : c = 0 ∨ c = 1 ∨ c = 2) with rfl | rfl | rfl
 ·exact ⟨ha 0 _ rfl, ha 1 _ rfl, ha 2 _ rfl⟩
 ·exact ⟨ha 3 _ rfl, ha 4 _ rfl, ha 5 _ rfl⟩
 ·exact ⟨ha 6 _ rfl, ha 7 _ rfl, ha 8 _ rfl⟩
theorem RowAt.take {w : World} {g : Nat} {l : List Tri} (h : RowAt w g l) (n : Nat) : RowAt w g (l.take n) := by
 obtain ⟨cur, hc, hx⟩ := h
 refine ⟨cur, hc, fun j hj i v hv => ?_⟩
 rw [List.length_take] at hj
 rw [List.getElem_take] at hv
 exact hx j (by omega) i v hv
theorem modI_nat (q : Int) {n : Nat} (h : 0 < n) : ∃ k : Nat, modI q n = ((k : Nat) : Int) ∧ k < n := by
 have := modI_range (n := q) (m := (n : Int)) (by omega)
 exact ⟨(modI q n).toNat, by omega, by omega⟩
/-- While corners are exchanged: i triangles are done, and c corners of the next. -/
def swapC (p r : Pt) (c : Nat) (t : Tri) : Tri := (if 0 < c then (if t.1 = p then r else t.1) else t.1, if 1 < c then (if t.2.1 = p then r else t.2.1) else t.2.1, if 2 < c then (if t.2.2 = p then r else t.2.2) else t.2.2)
def rowF (p r : Pt) (l : List Tri) (i c : Nat) : List Tri := (List.range l.length).map fun a => if a < i then swapP p r (l.getD a z3) else if a = i then swapC p r c (l.getD a z3) else l.getD a z3
theorem rowF_len (p r : Pt) (l : List Tri) (i c : Nat) : (rowF p r l i c).length = l.length := by simp [rowF]
theorem rowF_get (p r : Pt) (l : List Tri) (i c a : Nat) (h : a < l.length) : (rowF p r l i c)[a]? = some (if a < i then swapP p r (l.getD a z3) else if a = i then swapC p r c (l.getD a z3) else l.getD a z3) := by
 simp [rowF, h]
theorem rowF_none (p r : Pt) (l : List Tri) (i c a : Nat) (h : ¬ a < l.length) : (rowF p r l i c)[a]? = none := List.getElem?_eq_none (by rw [rowF_len]; omega)
theorem rowF_start (p r : Pt) (l : List Tri) : rowF p r l 0 0 = l := by
 apply List.ext_getElem?
 intro a
 by_cases h : a < l.length
 ·rw [rowF_get _ _ _ _ _ _ h, if_neg (by omega), List.getElem?_eq_getElem h, List.getD_eq_getElem?_getD, List.getElem?_eq_getElem h]
  split <;> rfl
 ·rw [rowF_none _ _ _ _ _ _ h, List.getElem?_eq_none (by omega)]
theorem rowF_next (p r : Pt) (l : List Tri) (i : Nat) : rowF p r l i 3 = rowF p r l (i + 1) 0 := by
 apply List.ext_getElem?
 intro a
 by_cases h : a < l.length
 ·rw [rowF_get _ _ _ _ _ _ h, rowF_get _ _ _ _ _ _ h]
  by_cases h1 : a < i
  ·rw [if_pos h1, if_pos (by omega)]
  ·rw [if_neg h1]
   by_cases h2 : a = i
   ·rw [if_pos h2, if_pos (by omega)]; rfl
   ·rw [if_neg h2, if_neg (by omega)]
    split <;> rfl
 ·rw [rowF_none _ _ _ _ _ _ h, rowF_none _ _ _ _ _ _ h]
theorem rowF_end (p r : Pt) (l : List Tri) : rowF p r l l.length 0 = l.map (swapP p r) := by
 apply List.ext_getElem?
 intro a
 by_cases h : a < l.length
 ·rw [rowF_get _ _ _ _ _ _ h, if_pos h, List.getElem?_map, List.getElem?_eq_getElem h, List.getD_eq_getElem?_getD, List.getElem?_eq_getElem h]; rfl
 ·rw [rowF_none _ _ _ _ _ _ h, List.getElem?_eq_none (by simpa using Nat.le_of_not_lt h)]
theorem rowF_at (p r : Pt) (l : List Tri) (i c : Nat) (h : i < l.length) (hc : c < 3) : cornP ((rowF p r l i c).getD i z3) c = cornP (l.getD i z3) c := by
 rw [List.getD_eq_getElem?_getD, rowF_get _ _ _ _ _ _ h, if_neg (by omega), if_pos rfl]
 rcases (by omega : c = 0 ∨ c = 1 ∨ c = 2) with rfl | rfl | rfl <;> rfl
theorem rowF_put (p r : Pt) (l : List Tri) (i c : Nat) (h : i < l.length) (hc : c < 3) (he : cornP (l.getD i z3) c = p) : (rowF p r l i c).set i (putP ((rowF p r l i c).getD i z3) c r) = rowF p r l i (c + 1) := by
 apply List.ext_getElem?
 intro a
 rw [List.getElem?_set]
 by_cases ha : i = a
 ·subst ha
  rw [if_pos rfl, if_pos (by rw [rowF_len]; exact h), rowF_get _ _ _ _ _ _ h, if_neg (by omega), if_pos rfl, List.getD_eq_getElem?_getD, rowF_get _ _ _ _ _ _ h, if_neg (by omega), if_pos rfl]
  generalize l.getD i z3 = t at *
  rcases (by omega : c = 0 ∨ c = 1 ∨ c = 2) with rfl | rfl | rfl <;> simp only [cornP] at he <;> simp [putP, swapC, he]
 ·rw [if_neg ha]
  by_cases h2 : a < l.length
  ·rw [rowF_get _ _ _ _ _ _ h2, rowF_get _ _ _ _ _ _ h2]
   by_cases h1 : a < i
   ·rw [if_pos h1, if_pos h1]
   ·rw [if_neg h1, if_neg h1, if_neg (by omega), if_neg (by omega)]
  ·rw [rowF_none _ _ _ _ _ _ h2, rowF_none _ _ _ _ _ _ h2]
theorem rowF_skip (p r : Pt) (l : List Tri) (i c : Nat) (h : i < l.length) (hc : c < 3) (he : ¬ cornP (l.getD i z3) c = p) : rowF p r l i c = rowF p r l i (c + 1) := by
 apply List.ext_getElem?
 intro a
 by_cases h2 : a < l.length
 ·rw [rowF_get _ _ _ _ _ _ h2, rowF_get _ _ _ _ _ _ h2]
  by_cases h1 : a < i
  ·rw [if_pos h1, if_pos h1]
  ·rw [if_neg h1, if_neg h1]
   by_cases ha : a = i
   ·subst ha
    rw [if_pos rfl, if_pos rfl]
    generalize l.getD a z3 = t at *
    rcases (by omega : c = 0 ∨ c = 1 ∨ c = 2) with rfl | rfl | rfl <;> simp only [cornP] at he <;> simp [swapC, he]
   ·rw [if_neg ha, if_neg ha]
 ·rw [rowF_none _ _ _ _ _ _ h2, rowF_none _ _ _ _ _ _ h2]
set_option maxHeartbeats 8000000 in
theorem Spoiled_any (v : Value) (l : List Tri) (q0 q1 q2 : Int) (w : World) (hl : l.length ≤ 1000) (h : kTri.Rd w v l) :
  Calls Tryz.prog 41 #[v, .agg #[.int .i64 q0, .int .i64 q1, .int .i64 q2]] w fun en w' => ∃ v, en = .returned v ∧ kTri.Rd w' v (spoilT l q0 q1 q2) ∧ Upd noBlk w w' := by
 obtain ⟨T, hT⟩ : ∃ T, T = spoilT l q0 q1 q2 := ⟨_, rfl⟩
 have HT := Lib.hid hT
 rw [← hT]
 clear hT
 have HRD := Lib.hid h
 obtain ⟨A, cap, rfl, hcap, hx⟩ := h
 have HX := Lib.hid hx
 have HCAP : Hid (l.length ≤ cap) := hcap
 have HL : Hid (l.length ≤ 1000) := hl
 have hl' : ((l.length : Nat) : Int) ≤ 1000 := by omega
 clear hx hcap hl
 have HQ : Hid ((w.alloc (.cells #[.int .i64 q0, .int .i64 q1, .int .i64 q2] 24)).heap[w.heap.size]? = some (.cells #[.int .i64 q0, .int .i64 q1, .int .i64 q2] 24 (0, 0))) := heap_alloc_new w _
 have HU0 : Hid (Upd noBlk w (w.alloc (.cells #[.int .i64 q0, .int .i64 q1, .int .i64 q2] 24))) := (Upd.refl _ w).alloc _
 go_enter Tryz.func41, Tryz.ntmps41
 go_upto_region 1 with fail
 have HQW : Hid (w.heap.size ≤ (w.alloc (.cells #[.int .i64 q0, .int .i64 q1, .int .i64 q2] 24)).heap.size) := HU0.out.size
 obtain ⟨qb, hqb⟩ : ∃ qb, qb = w.heap.size := ⟨_, rfl⟩
 have HQE : Hid (w.heap.size ≤ qb) := by show _ ≤ _; omega
 rw [← hqb] at HQ HQW ⊢
 clear hqb
 generalize w.alloc (.cells #[.int .i64 q0, .int .i64 q1, .int .i64 q2] 24) = w1 at *
 have hn0 : (w1.alloc (.cells #[] 45)).heap[w1.heap.size]? = some (.cells #[] 45 (0, 0)) := heap_alloc_new w1 _
 have hal := (Upd.refl noBlk w1).alloc (.cells #[] 45)
 have HQ2 := Lib.hid (hal.heap HQ.out id)
 have HU1 := Lib.hid (HU0.out.trans hal)
 cases l with
 | nil =>
  have hown : kTri.Own w1.heap.size (w1.alloc (.cells #[] 45)) (.slice (some ⟨w1.heap.size, 0, none⟩) 0 0) [] := Kd.Own.lit (K := kTri) [] hn0 rfl (Nat.le_refl _) (by decide)
  have R0 := Lib.hid (hown.app0 A cap)
  have HTN : Hid (T = []) := HT.out
  clear hn0 hal hown
  go_wp2_with (at_builtin; refine wpList_append_run rfl _ _ _ rfl rfl rfl R0.out ?_)
  go_ret
  rw [HTN.out]
  exact ⟨_, rfl, ⟨_, 0, rfl, Nat.le_refl _, fun h => absurd h (by simp)⟩, HU1.out⟩
 | cons th tr =>
  have HTS : Hid (T = spoilM (th :: tr) (modI q0 12).toNat (modI q1 (th :: tr).length).toNat (modI q2 (th :: tr).length).toNat) := by show _ = _; rw [HT.out]; exact spoilT_eq _ _ _ _ (by simp)
  have hpos : 0 < (th :: tr).length := by simp
  generalize th :: tr = l at *
  obtain ⟨b, off, rfl, hat⟩ := HX.out hpos
  have hat2 : ∀ j (hj : j < l.length), kTri.At (w1.alloc (.cells #[] 45)) b (off + j * kTri.k) l[j] := fun j hj => (hat j hj).keep HU1.out
  obtain ⟨c3, w3, r3, o3, u3⟩ := Kd.Rd.appFull (K := kTri) (w := w1.alloc (.cells #[] 45)) (A := some ⟨w1.heap.size, 0, none⟩) (l := []) ⟨_, 0, rfl, Nat.le_refl _, fun h => absurd h (by simp)⟩ (c := cap) l hat2 (by have := HL.out; simp only [List.length_nil]; omega) hpos
  rw [List.length_nil, Nat.zero_add] at r3 o3
  rw [List.nil_append] at o3
  rw [World.size_alloc] at r3 o3
  obtain ⟨G, hG⟩ : ∃ G, G = w1.heap.size + 1 := ⟨_, rfl⟩
  have HGW : Hid (qb ≤ G) := by show _ ≤ _; have := HQW.out; omega
  rw [← hG] at r3 o3
  clear hG
  have R3 := Lib.hid r3
  have HQ3 := Lib.hid (u3.heap HQ2.out id)
  have HU3 := Lib.hid (HU1.out.trans u3)
  have HO3 := Lib.hid o3
  obtain ⟨k, hk, hkl⟩ := modI_nat q1 hpos
  obtain ⟨j, hj, hjl⟩ := modI_nat q2 hpos
  have hm := modI_range (n := q0) (m := 12) (by decide)
  obtain ⟨m, hm1⟩ : ∃ m : Nat, modI q0 12 = ((m : Nat) : Int) := ⟨(modI q0 12).toNat, by omega⟩
  have HM0 := fun W => Lib.hid (hMod_any q0 12 (by decide) (by decide) W)
  have HM1 := fun W => Lib.hid (hMod_any q1 l.length (by omega) (by have := HL.out; omega) W)
  have HM2 := fun W => Lib.hid (hMod_any q2 l.length (by omega) (by have := HL.out; omega) W)
  rw [hk] at HM1
  rw [hj] at HM2
  rw [hm1] at HM0 hm
  have HTM : Hid (T = spoilM l m k j) := by show _ = _; rw [HTS.out, hk, hj, hm1]; simp only [Int.toNat_natCast]
  have hm12 : m < 12 := by omega
  have HKL : Hid (k < l.length) := hkl
  have HJL : Hid (j < l.length) := hjl
  have hkl' : ((k : Nat) : Int) < ((l.length : Nat) : Int) := by omega
  have hjl' : ((j : Nat) : Int) < ((l.length : Nat) : Int) := by omega
  have hne : ¬ ((l.length : Nat) : Int) = 0 := by omega
  obtain ⟨x0, x1, x2⟩ := cells3 HQ3.out
  clear hk hj hm hm1 hkl hjl HTS HT HX HRD hat hat2 r3 u3 o3 HQ HQ2 HU0 HU1 hn0 hal HCAP
  go_upto_region 4 with (at_builtin; refine wpList_append_run rfl _ _ _ rfl rfl rfl R3.out ?_)
  generalize w1.alloc (.cells #[] 45) = w2 at *
  have HC1 := HM1 w3
  go_wp2_with fail
  refine HC1.out.mono ?_
  rintro e wa ⟨rfl, rfl⟩
  have HC2 := HM2 wa
  clear HC1 HM1
  go_wp2_with fail
  refine HC2.out.mono ?_
  rintro e wb ⟨rfl, rfl⟩
  clear HC2 HM2
  -- the triangle at k
  obtain ⟨g, gc, hg, hgb, hgc, hra⟩ := rowAt_of_own HO3.out hpos
  cases hg
  have HRA := Lib.hid hra
  have HGC : Hid (l.length ≤ c3) := hgc
  clear hra hgb hgc
  obtain ⟨tk, htk⟩ : ∃ tk, tk = l.getD k z3 := ⟨_, rfl⟩
  obtain ⟨tj, htj⟩ : ∃ tj, tj = l.getD j z3 := ⟨_, rfl⟩
  have HAK : Hid (kTri.At wb G (k * 9) tk) := by
   have := HRA.out.cells HKL.out
   rw [htk, List.getD_eq_getElem?_getD, List.getElem?_eq_getElem HKL.out]; exact this
  have HAJ : Hid (kTri.At wb G (j * 9) tj) := by
   have := HRA.out.cells HJL.out
   rw [htj, List.getD_eq_getElem?_getD, List.getElem?_eq_getElem HJL.out]; exact this
  have HTK := Lib.hid htk
  have HTJ := Lib.hid htj
  clear htk htj
  obtain ⟨⟨a0, a1, a2⟩, ⟨a3, a4, a5⟩, ⟨a6, a7, a8⟩⟩ := tk
  obtain ⟨⟨b0, b1, b2⟩, ⟨b3, b4, b5⟩, ⟨b6, b7, b8⟩⟩ := tj
  obtain ⟨n0, n1, n2, n3, n4, n5, n6, n7, n8⟩ := triAt9 HAK.out
  go_upto_region 7 with fail
  clear n0 n1 n2 n3 n4 n5 n6 n7 n8
  have HT8 : Hid ((wb.alloc (.cells #[.int .i64 a0, .int .i64 a1, .int .i64 a2, .int .i64 a3, .int .i64 a4, .int .i64 a5, .int .i64 a6, .int .i64 a7, .int .i64 a8] 45)).heap[wb.heap.size]? = some (.cells #[.int .i64 a0, .int .i64 a1, .int .i64 a2, .int .i64 a3, .int .i64 a4, .int .i64 a5, .int .i64 a6, .int .i64 a7, .int .i64 a8] 45 (0, 0))) := heap_alloc_new wb _
  have hal := (Upd.refl noBlk wb).alloc (.cells #[.int .i64 a0, .int .i64 a1, .int .i64 a2, .int .i64 a3, .int .i64 a4, .int .i64 a5, .int .i64 a6, .int .i64 a7, .int .i64 a8] 45)
  have HRB := Lib.hid (HRA.out.keep hal id)
  have HOB := Lib.hid (HO3.out.upd hal)
  have HUB := Lib.hid (HU3.out.trans hal)
  have HQB := Lib.hid (hal.heap HQ3.out id)
  have HAKB := Lib.hid (HAK.out.keep hal)
  have HAJB := Lib.hid (HAJ.out.keep hal)
  have HNG : Hid (G < wb.heap.size) := HRA.out.lt
  clear hal HRA HO3 HU3 HQ3 HAK HAJ x0 x1 x2
  generalize wb.alloc (.cells #[.int .i64 a0, .int .i64 a1, .int .i64 a2, .int .i64 a3, .int .i64 a4, .int .i64 a5, .int .i64 a6, .int .i64 a7, .int .i64 a8] 45) = wd at *
  generalize wb.heap.size = N at *
  obtain ⟨x0, x1, x2⟩ := cells3 HQB.out
  have HC0 := HM0 wd
  clear HM0
  go_upto_region 8 with fail
  refine HC0.out.mono ?_
  rintro e we ⟨rfl, rfl⟩
  clear HC0 x0 x1 x2
  have HTM2 := Lib.hid (fun m' (e : m = m') => (show T = spoilM l m' k j from e ▸ HTM.out))
  rcases (by omega : m = 0 ∨ m = 1 ∨ m = 2 ∨ m = 3 ∨ m = 4 ∨ m = 5 ∨ m = 6 ∨ m = 7 ∨ m = 8 ∨ m = 9 ∨ m = 10 ∨ m = 11) with rfl | rfl | rfl | rfl | rfl | rfl | rfl | rfl | rfl | rfl | rfl | rfl
  all_goals (clear HTM2)
  ·
   obtain ⟨k1, hk1⟩ : ∃ k1, k1 = k + 1 := ⟨_, rfl⟩
   have HTE : Hid (T = l.take k ++ l.drop k1) := by show _ = _; rw [HTM.out, hk1]; rfl
   have HK3 : Hid ((l.take k).length = k) := by show _ = _; rw [List.length_take]; have := HKL.out; omega
   have e1 : ((k : Nat) : Int) + 1 = ((k1 : Nat) : Int) := by omega
   have e2 : ((k : Nat) : Int) ≤ ((c3 : Nat) : Int) := by have := HGC.out; have := HKL.out; omega
   have e3 : ((l.length : Nat) : Int) ≤ ((c3 : Nat) : Int) := by have := HGC.out; omega
   have hadd : (⟨G, 0, none⟩ : Addr).add (k1 * 9) = ⟨G, k1 * 9, none⟩ := by rw [Addr.add_mid, Nat.zero_add]
   have hk1l : k1 ≤ l.length := by have := HKL.out; omega
   by_cases k0 : k = 0
   ·have R6 : Hid ((Builtin.append_ #[28, 28] 28 #[.slice none 0 0, .slice (some ⟨G, 0, none⟩) k c3]).run Tryz.prog we = .ok (.slice none 0 0) we) := by
     show _ = _
     rw [k0]
     exact (Kd.Own.nil kTri G we).app0 (some ⟨G, 0, none⟩) c3
    have ho6 : kTri.Own G we (.slice none 0 0) (l.take k) := by rw [k0]; exact Kd.Own.nil _ _ _
    have HO6 := Lib.hid ho6
    clear hk1 ho6 k0
    by_cases hkn : k1 < l.length
    ·have hm2 : ∀ j (hj : j < (l.drop k1).length), kTri.At we G (k1 * 9 + j * kTri.k) (l.drop k1)[j] := fun j hj => by
      rw [List.getElem_drop]
      have h := (HRB.out).cells (k := k1 + j) (by rw [List.length_drop] at hj; omega)
      have hk9 : kTri.k = 9 := rfl
      rw [Nat.add_mul] at h
      rw [hk9]; exact h
     obtain ⟨g7, cap7, w7, r7, o7, t7, _⟩ := (HO6.out).appN (Nat.le_of_lt HRB.out.lt) (c := c3 - k1) (l.drop k1) hm2 (by rw [List.length_drop, List.length_take]; have := HL.out; omega) (by rw [List.length_drop]; omega)
     rw [List.length_drop, HK3.out] at r7 o7
     have R7 := Lib.hid r7
     have HO7 := Lib.hid o7
     have HUS := Lib.hid ((HUB.out).then t7 (fun i hi e => absurd hi (by have := ((HO6.out).blk e).1; have := HGW.out; have := HQE.out; omega)))
     have hkc : ¬ k1 = c3 := by have := HGC.out; omega
     have hkc2 : ¬ c3 = k1 := by have := HGC.out; omega
     have hkn2 : ((k1 : Nat) : Int) ≤ ((l.length : Nat) : Int) := by omega
     clear r7 o7 t7 hm2 HRB HOB HUB HQB HAKB HAJB HTM
     go_upto_region 11 with (at_builtin; refine wpList_append_run rfl _ _ _ rfl rfl rfl R6.out ?_)
     clear R6
     go_wp2_with (at_builtin; refine wpList_append_run rfl _ _ _ rfl rfl rfl R7.out ?_)
     go_ret
     rw [HTE.out]
     exact ⟨_, rfl, HO7.out.rd, HUS.out⟩
    ·have hkn1 : k1 = l.length := by omega
     have HTE2 : Hid (T = l.take k) := by show _ = _; rw [HTE.out, List.drop_eq_nil_of_le (by omega), List.append_nil]
     have hkn2 : ((k1 : Nat) : Int) = ((l.length : Nat) : Int) := by omega
     have R7 := fun A c => Lib.hid ((HO6.out).app0 A c)
     have HOZ := Lib.hid (HO6.out)
     have HUS := Lib.hid (HUB.out)
     subst hkn1
     clear HRB HOB HUB HQB HAKB HAJB HTM hkn
     by_cases hcc : c3 = l.length
     ·go_upto_region 11 with (at_builtin; refine wpList_append_run rfl _ _ _ rfl rfl rfl R6.out ?_)
      clear R6
      go_wp2_with (at_builtin; refine wpList_append_run rfl _ _ _ rfl rfl rfl (R7 _ _).out ?_)
      go_ret
      rw [HTE2.out]
      exact ⟨_, rfl, HOZ.out.rd, HUS.out⟩
     ·go_upto_region 11 with (at_builtin; refine wpList_append_run rfl _ _ _ rfl rfl rfl R6.out ?_)
      clear R6
      go_wp2_with (at_builtin; refine wpList_append_run rfl _ _ _ rfl rfl rfl (R7 _ _).out ?_)
      go_ret
      rw [HTE2.out]
      exact ⟨_, rfl, HOZ.out.rd, HUS.out⟩
   ·have hm1 : ∀ j (hj : j < (l.take k).length), kTri.At we G (0 + j * kTri.k) (l.take k)[j] := fun j hj => by
     have h := (HRB.out.take k).cells hj
     rw [Nat.zero_add]; exact h
    obtain ⟨g6, cap6, w6, r6, o6, t6, h6⟩ := (Kd.Own.nil kTri G we).appN (Nat.le_of_lt HRB.out.lt) (c := c3) (l.take k) hm1 (by rw [HK3.out]; simp only [List.length_nil]; have := HL.out; have := HKL.out; omega) (by rw [HK3.out]; omega)
    rw [HK3.out, List.length_nil, Nat.zero_add] at r6 o6
    rw [List.nil_append] at o6
    have R6 := Lib.hid r6
    have HO6 := Lib.hid o6
    have HU6 := Lib.hid (HUB.out.then t6 (fun i hi e => by cases e))
    have HRB6 := Lib.hid (HRB.out.keep t6 (fun e => by cases e))
    clear hk1 r6 o6 t6 h6 hm1
    by_cases hkn : k1 < l.length
    ·have hm2 : ∀ j (hj : j < (l.drop k1).length), kTri.At w6 G (k1 * 9 + j * kTri.k) (l.drop k1)[j] := fun j hj => by
      rw [List.getElem_drop]
      have h := (HRB6.out).cells (k := k1 + j) (by rw [List.length_drop] at hj; omega)
      have hk9 : kTri.k = 9 := rfl
      rw [Nat.add_mul] at h
      rw [hk9]; exact h
     obtain ⟨g7, cap7, w7, r7, o7, t7, _⟩ := (HO6.out).appN (Nat.le_of_lt HRB6.out.lt) (c := c3 - k1) (l.drop k1) hm2 (by rw [List.length_drop, List.length_take]; have := HL.out; omega) (by rw [List.length_drop]; omega)
     rw [List.length_drop, HK3.out] at r7 o7
     have R7 := Lib.hid r7
     have HO7 := Lib.hid o7
     have HUS := Lib.hid ((HU6.out).then t7 (fun i hi e => absurd hi (by have := ((HO6.out).blk e).1; have := HGW.out; have := HQE.out; omega)))
     have hkc : ¬ k1 = c3 := by have := HGC.out; omega
     have hkc2 : ¬ c3 = k1 := by have := HGC.out; omega
     have hkn2 : ((k1 : Nat) : Int) ≤ ((l.length : Nat) : Int) := by omega
     clear r7 o7 t7 hm2 HRB HOB HUB HQB HAKB HAJB HTM
     go_upto_region 11 with (at_builtin; refine wpList_append_run rfl _ _ _ rfl rfl rfl R6.out ?_)
     clear R6
     go_wp2_with (at_builtin; refine wpList_append_run rfl _ _ _ rfl rfl rfl R7.out ?_)
     go_ret
     rw [HTE.out]
     exact ⟨_, rfl, HO7.out.rd, HUS.out⟩
    ·have hkn1 : k1 = l.length := by omega
     have HTE2 : Hid (T = l.take k) := by show _ = _; rw [HTE.out, List.drop_eq_nil_of_le (by omega), List.append_nil]
     have hkn2 : ((k1 : Nat) : Int) = ((l.length : Nat) : Int) := by omega
     have R7 := fun A c => Lib.hid ((HO6.out).app0 A c)
     have HOZ := Lib.hid (HO6.out)
     have HUS := Lib.hid (HU6.out)
     subst hkn1
     clear HRB HOB HUB HQB HAKB HAJB HTM hkn
     by_cases hcc : c3 = l.length
     ·go_upto_region 11 with (at_builtin; refine wpList_append_run rfl _ _ _ rfl rfl rfl R6.out ?_)
      clear R6
      go_wp2_with (at_builtin; refine wpList_append_run rfl _ _ _ rfl rfl rfl (R7 _ _).out ?_)
      go_ret
      rw [HTE2.out]
      exact ⟨_, rfl, HOZ.out.rd, HUS.out⟩
     ·go_upto_region 11 with (at_builtin; refine wpList_append_run rfl _ _ _ rfl rfl rfl R6.out ?_)
      clear R6
      go_wp2_with (at_builtin; refine wpList_append_run rfl _ _ _ rfl rfl rfl (R7 _ _).out ?_)
      go_ret
      rw [HTE2.out]
      exact ⟨_, rfl, HOZ.out.rd, HUS.out⟩
  ·
   obtain ⟨n0, n1, n2, n3, n4, n5, n6, n7, n8⟩ := triAt9 HAKB.out
   obtain ⟨t0, t1, t2, t3, t4, t5, t6, t7, t8⟩ := cells9 HT8.out
   have f0 := HRB.out.free (k * 9)
   have f1 := HRB.out.free (k * 9 + 1)
   have f2 := HRB.out.free (k * 9 + 2)
   have f3 := HRB.out.free (k * 9 + 3)
   have f4 := HRB.out.free (k * 9 + 4)
   have f5 := HRB.out.free (k * 9 + 5)
   have f6 := HRB.out.free (k * 9 + 6)
   have f7 := HRB.out.free (k * 9 + 7)
   have f8 := HRB.out.free (k * 9 + 8)
   have HPT := Lib.hid (HRB.out.put9 HKL.out a0 a1 a2 a6 a7 a8 a3 a4 a5)
   have HTE : Hid (T = l.set k ((a0, a1, a2), (a6, a7, a8), (a3, a4, a5))) := by show _ = _; rw [HTM.out]; unfold spoilM; simp only [← HTK.out]
   have hset := upd_put9 (w := we) (g := G) (k := k) (.int .i64 a0) (.int .i64 a1) (.int .i64 a2) (.int .i64 a6) (.int .i64 a7) (.int .i64 a8) (.int .i64 a3) (.int .i64 a4) (.int .i64 a5)
   have HUS := Lib.hid (HUB.out.then hset (fun i hi e => by have e' : i = G := e; have := HGW.out; have := HQE.out; omega))
   clear hset HRB HOB HUB HQB HAKB HAJB HTM
   go_wp2_with fail
   go_ret
   rw [HTE.out]
   exact ⟨_, rfl, by have h := HPT.out.rd (cap := c3) (by rw [List.length_set]; exact HGC.out); rw [List.length_set] at h; exact h, HUS.out⟩
  ·
   have HTE : Hid (T = l ++ [((b0, b1, b2), (b3, b4, b5), (b6, b7, b8))]) := by show _ = _; rw [HTM.out, HTJ.out]; rfl
   obtain ⟨n0, n1, n2, n3, n4, n5, n6, n7, n8⟩ := triAt9 HAJB.out
   obtain ⟨g6, cap6, w6, r6, o6, t6, _⟩ := HOB.out.app1 (Nat.le_of_lt HRB.out.lt) ((b0, b1, b2), (b3, b4, b5), (b6, b7, b8)) (by have := HL.out; omega)
   have R6 := Lib.hid r6
   have HO6 := Lib.hid o6
   have HUS := Lib.hid (HUB.out.then t6 (fun i hi e => absurd hi (by have := (HOB.out.blk e).1; have := HGW.out; have := HQE.out; omega)))
   clear r6 o6 t6
   clear HRB HOB HUB HQB HAKB HAJB HTM
   go_wp2_with (at_builtin; refine wpList_append_run rfl _ _ _ rfl rfl rfl R6.out ?_)
   go_ret
   rw [HTE.out]
   exact ⟨_, rfl, HO6.out.rd, HUS.out⟩
  ·
   have HTE : Hid (T = l.set k ((b3, b4, b5), (a3, a4, a5), (a6, a7, a8))) := by show _ = _; rw [HTM.out]; unfold spoilM; simp only [← HTK.out, ← HTJ.out]
   have HPT := Lib.hid (HRB.out.put3 (c := 0) (o := k * 9) HKL.out (by decide) (by omega) b3 b4 b5)
   have hset := upd_put3 (w := we) (g := G) (o := k * 9) (.int .i64 b3) (.int .i64 b4) (.int .i64 b5)
   have HUS := Lib.hid (HUB.out.then hset (fun i hi e => by have e' : i = G := e; have := HGW.out; have := HQE.out; omega))
   clear hset HTM
   go_wp2_with fail
   refine wp_region_tree 8 (OT.sures [0, 1, 2, 3, 4, 7, 5, 6] .nil) (fun w' => Upd noBlk we w') (by kernel_rfl) (by kernel_rfl) (fun c a d v w h => by cases d <;> exact h) ((Upd.refl noBlk we).drew) ?_
   simp only [OT.sures]
   iterate 8 (apply wpT_sure rfl rfl; focus (intro w' hw'; obtain ⟨n0, n1, n2, n3, n4, n5, n6, n7, n8⟩ := triAt9 (HAJB.out.keep hw'); go_simp; rfl))
   refine wpT_nil ?_
   obtain ⟨n0, n1, n2, n3, n4, n5, n6, n7, n8⟩ := triAt9 HAKB.out
   have f0 := HRB.out.free (k * 9)
   have f1 := HRB.out.free (k * 9 + 1)
   have f2 := HRB.out.free (k * 9 + 2)
   clear HRB HOB HUB HQB HAKB HAJB
   go_wp2_with fail
   go_ret
   rw [HTE.out]
   rw [← HTK.out] at HPT
   exact ⟨_, rfl, by have h := HPT.out.rd (cap := c3) (by rw [List.length_set]; exact HGC.out); rw [List.length_set] at h; exact h.keep (Upd.refl noBlk _).drew, HUS.out.drew⟩
  ·
   have HTE : Hid (T = l.set k ((a0, a1, a2), (a0, a1, a2), (a6, a7, a8))) := by show _ = _; rw [HTM.out]; unfold spoilM; simp only [← HTK.out]
   have HPT := Lib.hid (HRB.out.put3 (c := 1) (o := k * 9 + 3) HKL.out (by decide) (by omega) a0 a1 a2)
   have hset := upd_put3 (w := we) (g := G) (o := k * 9 + 3) (.int .i64 a0) (.int .i64 a1) (.int .i64 a2)
   have HUS := Lib.hid (HUB.out.then hset (fun i hi e => by have e' : i = G := e; have := HGW.out; have := HQE.out; omega))
   clear hset HTM
   go_wp2_with fail
   refine wp_region_tree 5 (OT.sures [0, 1, 2, 3, 4] .nil) (fun w' => Upd noBlk we w') (by kernel_rfl) (by kernel_rfl) (fun c a d v w h => by cases d <;> exact h) ((Upd.refl noBlk we).drew) ?_
   simp only [OT.sures]
   iterate 5 (apply wpT_sure rfl rfl; focus (intro w' hw'; obtain ⟨n0, n1, n2, n3, n4, n5, n6, n7, n8⟩ := cells9 (hw'.heap HT8.out id); go_simp; rfl))
   refine wpT_nil ?_
   obtain ⟨n0, n1, n2, n3, n4, n5, n6, n7, n8⟩ := triAt9 HAKB.out
   have f0 := HRB.out.free (k * 9 + 3)
   have f1 := HRB.out.free (k * 9 + 3 + 1)
   have f2 := HRB.out.free (k * 9 + 3 + 2)
   clear HRB HOB HUB HQB HAKB HAJB
   go_wp2_with fail
   go_ret
   rw [HTE.out]
   rw [← HTK.out] at HPT
   exact ⟨_, rfl, by have h := HPT.out.rd (cap := c3) (by rw [List.length_set]; exact HGC.out); rw [List.length_set] at h; exact h.keep (Upd.refl noBlk _).drew, HUS.out.drew⟩
  ·
   have HTE : Hid (T = l ++ [((a0, a1, a2), (a6, a7, a8), (a3, a4, a5))]) := by show _ = _; rw [HTM.out]; unfold spoilM; simp only [← HTK.out]
   obtain ⟨n0, n1, n2, n3, n4, n5, n6, n7, n8⟩ := cells9 HT8.out
   obtain ⟨g6, cap6, w6, r6, o6, t6, _⟩ := HOB.out.app1 (Nat.le_of_lt HRB.out.lt) ((a0, a1, a2), (a6, a7, a8), (a3, a4, a5)) (by have := HL.out; omega)
   have R6 := Lib.hid r6
   have HO6 := Lib.hid o6
   have HUS := Lib.hid (HUB.out.then t6 (fun i hi e => absurd hi (by have := (HOB.out.blk e).1; have := HGW.out; have := HQE.out; omega)))
   clear r6 o6 t6
   clear HRB HOB HUB HQB HAKB HAJB HTM
   go_wp2_with (at_builtin; refine wpList_append_run rfl _ _ _ rfl rfl rfl R6.out ?_)
   go_ret
   rw [HTE.out]
   exact ⟨_, rfl, HO6.out.rd, HUS.out⟩
  ·
   have HTE : Hid (T = l.map (swapP (b6, b7, b8) (a0, a1, a2))) := by show _ = _; rw [HTM.out]; unfold spoilM; simp only [← HTK.out, ← HTJ.out]
   obtain ⟨n0, n1, n2, n3, n4, n5, n6, n7, n8⟩ := triAt9 HAJB.out
   go_upto_region 24 with fail
   clear n0 n1 n2 n3 n4 n5 n6 n7 n8
   have HP8 : Hid ((we.alloc (.cells #[.int .i64 b6, .int .i64 b7, .int .i64 b8] 43)).heap[we.heap.size]? = some (.cells #[.int .i64 b6, .int .i64 b7, .int .i64 b8] 43 (0, 0))) := heap_alloc_new we _
   have hal := (Upd.refl noBlk we).alloc (.cells #[.int .i64 b6, .int .i64 b7, .int .i64 b8] 43)
   have HR9 := HRB.out.keep hal id
   rw [← rowF_start (b6, b7, b8) (a0, a1, a2) l] at HR9
   have HR9 := Lib.hid HR9
   have HT9 := Lib.hid (hal.heap HT8.out id)
   have HU9 := Lib.hid (HUB.out.trans hal)
   have HNN : Hid (¬ N = G ∧ ¬ we.heap.size = G) := by show ¬ _ ∧ ¬ _; have := HNG.out; have := HRB.out.lt; omega
   clear hal HRB HOB HUB HQB HAKB HAJB HTM HT8
   generalize we.alloc (.cells #[.int .i64 b6, .int .i64 b7, .int .i64 b8] 43) = wf at *
   generalize we.heap.size = M at *
   go_wp2_with fail
   go_loopw [11] (fun i wr => ∃ x : Nat, i = .int .i64 x ∧ x ≤ l.length ∧ RowAt wr G (rowF (b6, b7, b8) (a0, a1, a2) l x 0) ∧ Upd (fun b => b = G) wf wr) (fun i _ => l.length - (intOf i).toNat)
   case atStart => exact ⟨0, rfl, Nat.zero_le _, HR9.out, Upd.refl _ _⟩
   case round =>
    obtain ⟨x, rfl, hx, hr, hu⟩ := hrel
    have HR := Lib.hid hr
    have HV := Lib.hid hu
    clear hr hu
    by_cases hlx : x < l.length
    ·have hlx' : ((x : Nat) : Int) < ((l.length : Nat) : Int) := by omega
     have HXL : Hid (x < l.length) := hlx
     go_wp2_with fail
     go_loopw [12] (fun i wr => ∃ c : Nat, i = .int .i64 c ∧ c ≤ 3 ∧ RowAt wr G (rowF (b6, b7, b8) (a0, a1, a2) l x c) ∧ Upd (fun b => b = G) wf wr) (fun i _ => 3 - (intOf i).toNat)
     case atStart => exact ⟨0, rfl, by omega, HR.out, HV.out⟩
     case round =>
      obtain ⟨c, rfl, hc, hr, hu⟩ := hrel
      have HR2 := Lib.hid hr
      have HV2 := Lib.hid hu
      clear hr hu
      by_cases hlc : c < 3
      ·have hlc' : ((c : Nat) : Int) < 3 := by omega
       have HC3 : Hid (c < 3) := hlc
       have HXR : Hid (x < (rowF (b6, b7, b8) (a0, a1, a2) l x c).length) := by show _ < _; rw [rowF_len]; exact HXL.out
       have HCO := Lib.hid (fun w' (hw' : Upd noBlk wr w') => (HR2.out.keep hw' id).corner HXR.out HC3.out)
       rw [rowF_at _ _ _ _ _ HXL.out HC3.out] at HCO
       obtain ⟨pc, hpc⟩ : ∃ pc, pc = cornP (l.getD x z3) c := ⟨_, rfl⟩
       rw [← hpc] at HCO
       have HPC := Lib.hid hpc
       clear hpc
       obtain ⟨e0, e1, e2⟩ := pc
       have HTW := Lib.hid (fun w' (hw' : Upd noBlk wr w') => hw'.heap (HV2.out.heap HT9.out HNN.out.1) id)
       have HPW := Lib.hid (fun w' (hw' : Upd noBlk wr w') => hw'.heap (HV2.out.heap HP8.out HNN.out.2) id)
       go_wp2_with fail
       refine wp_region_tree 7 (OT.sures [0, 1, 2, 6, 3, 4, 5] .nil) (fun w' => Upd noBlk wr w') (by kernel_rfl) (by kernel_rfl) (fun c a d v w h => by cases d <;> exact h) ((Upd.refl noBlk wr).drew) ?_
       simp only [OT.sures]
       iterate 7 (apply wpT_sure rfl rfl; focus (intro w' hw'; obtain ⟨k0, k1, k2⟩ := HCO.out w' hw'; obtain ⟨n0, n1, n2⟩ := cells3 (HPW.out w' hw'); go_simp; rfl))
       refine wpT_nil ?_
       by_cases heq : ((e0, e1, e2) : Pt) = (b6, b7, b8)
       ·have HPUT := HR2.out.put3 (c := c) (o := x * 9 + c * 3) HXR.out HC3.out rfl a0 a1 a2
        rw [rowF_put _ _ _ _ _ HXL.out HC3.out (by rw [← HPC.out]; exact heq)] at HPUT
        have HPT := Lib.hid HPUT
        obtain ⟨rfl, rfl, rfl⟩ : e0 = b6 ∧ e1 = b7 ∧ e2 = b8 := by cases heq; exact ⟨rfl, rfl, rfl⟩
        clear HPUT heq HPC
        go_wp2_with fail
        refine wp_region_tree 6 (OT.sures [0, 1, 2, 3, 4, 5] .nil) (fun w' => Upd noBlk wr w') (by kernel_rfl) (by kernel_rfl) (fun c a d v w h => by cases d <;> exact h) ((Upd.refl noBlk wr).drew.drew) ?_
        simp only [OT.sures]
        iterate 6 (apply wpT_sure rfl rfl; focus (intro w' hw'; obtain ⟨n0, n1, n2, n3, n4, n5, n6, n7, n8⟩ := cells9 (HTW.out w' hw'); go_simp; rfl))
        refine wpT_nil ?_
        obtain ⟨k0, k1, k2⟩ := HCO.out wr (Upd.refl _ _)
        have f0 := HR2.out.free (x * 9 + c * 3)
        have f1 := HR2.out.free (x * 9 + c * 3 + 1)
        have f2 := HR2.out.free (x * 9 + c * 3 + 2)
        have hset := upd_put3 (w := wr) (g := G) (o := x * 9 + c * 3) (.int .i64 a0) (.int .i64 a1) (.int .i64 a2)
        have HVS := Lib.hid (HV2.out.trans hset)
        clear hset HR2 HCO HV2 HTW HPW HXR
        go_wp2_with fail
        exact ⟨⟨c + 1, by push_cast; rfl, HC3.out, (HPT.out.keep (Upd.refl noBlk _).drew id).keep (Upd.refl noBlk _).drew id, HVS.out.drew.drew⟩, by simp only [intOf]; have := HC3.out; omega⟩
       ·have HSK := rowF_skip (b6, b7, b8) (a0, a1, a2) l x c HXL.out HC3.out (by rw [← HPC.out]; exact heq)
        rw [HSK] at HR2
        have hne : e0 ≠ b6 ∨ e1 ≠ b7 ∨ e2 ≠ b8 := by
         by_cases h0 : e0 = b6
         ·by_cases h1 : e1 = b7
          ·exact .inr (.inr (fun h2 => heq (by rw [h0, h1, h2])))
          ·exact .inr (.inl h1)
         ·exact .inl h0
        have HEND : Hid (RowAt wr.drew G (rowF (b6, b7, b8) (a0, a1, a2) l x (c + 1)) ∧ Upd (fun b => b = G) wf wr.drew) := ⟨HR2.out.keep (Upd.refl noBlk wr).drew id, HV2.out.drew⟩
        clear heq HPC HSK HCO HXR HR2 HV2 HTW HPW
        by_cases h0 : e0 = b6
        ·by_cases h1 : e1 = b7
         ·have h2 : ¬ e2 = b8 := by rcases hne with h | h | h; exact absurd h0 h; exact absurd h1 h; exact h
          clear hne
          go_wp2_with fail
          exact ⟨⟨c + 1, by push_cast; rfl, HC3.out, HEND.out.1, HEND.out.2⟩, by simp only [intOf]; have := HC3.out; omega⟩
         ·clear hne
          go_wp2_with fail
          exact ⟨⟨c + 1, by push_cast; rfl, HC3.out, HEND.out.1, HEND.out.2⟩, by simp only [intOf]; have := HC3.out; omega⟩
        ·clear hne
         go_wp2_with fail
         exact ⟨⟨c + 1, by push_cast; rfl, HC3.out, HEND.out.1, HEND.out.2⟩, by simp only [intOf]; have := HC3.out; omega⟩
      ·obtain rfl : c = 3 := by omega
       have HRN := HR2.out
       rw [rowF_next] at HRN
       have HRM := Lib.hid HRN
       clear HRN
       go_wp2_with fail
       exact ⟨⟨x + 1, by push_cast; rfl, HXL.out, HRM.out, HV2.out⟩, by simp only [intOf]; have := HXL.out; omega⟩
    ·obtain rfl : x = l.length := by omega
     have HRN := HR.out
     rw [rowF_end] at HRN
     have HRM := Lib.hid HRN
     have HUS := Lib.hid (HU9.out.then HV.out (fun i hi e => by have e' : i = G := e; have := HGW.out; have := HQE.out; omega))
     clear HRN HR
     go_wp2_with fail
     go_ret
     rw [HTE.out]
     exact ⟨_, rfl, by have h := HRM.out.rd (cap := c3) (by rw [List.length_map]; exact HGC.out); rw [List.length_map] at h; exact h, HUS.out⟩
  ·
   obtain ⟨k1, hk1⟩ : ∃ k1, k1 = 1 + k := ⟨_, rfl⟩
   have HTE : Hid (T = l.take k1) := by show _ = _; rw [HTM.out, hk1]; rfl
   have HK1 : Hid ((l.take k1).length = k1) := by show _ = _; rw [List.length_take]; have := HKL.out; omega
   have e1 : 1 + ((k : Nat) : Int) = ((k1 : Nat) : Int) := by omega
   have e2 : ((k1 : Nat) : Int) ≤ ((c3 : Nat) : Int) := by have := HGC.out; have := HKL.out; omega
   have HK2 : Hid (k1 ≤ c3) := by show _ ≤ _; have := HGC.out; have := HKL.out; omega
   have hc3 : ((l.length : Nat) : Int) ≤ ((c3 : Nat) : Int) := by have := HGC.out; omega
   clear hk1
   go_wp2_with fail
   go_ret
   rw [HTE.out]
   exact ⟨_, rfl, by have h := (HRB.out.take k1).rd (cap := c3) (by rw [HK1.out]; exact HK2.out); rw [HK1.out] at h; exact h, HUB.out⟩
  ·
   obtain ⟨n0, n1, n2, n3, n4, n5, n6, n7, n8⟩ := triAt9 HAKB.out
   obtain ⟨t0, t1, t2, t3, t4, t5, t6, t7, t8⟩ := cells9 HT8.out
   have f0 := HRB.out.free (k * 9)
   have f1 := HRB.out.free (k * 9 + 1)
   have f2 := HRB.out.free (k * 9 + 2)
   have f3 := HRB.out.free (k * 9 + 3)
   have f4 := HRB.out.free (k * 9 + 4)
   have f5 := HRB.out.free (k * 9 + 5)
   have f6 := HRB.out.free (k * 9 + 6)
   have f7 := HRB.out.free (k * 9 + 7)
   have f8 := HRB.out.free (k * 9 + 8)
   have HPT := Lib.hid (HRB.out.put9 HKL.out a6 a7 a8 a0 a1 a2 a3 a4 a5)
   have HTE : Hid (T = l.set k ((a6, a7, a8), (a0, a1, a2), (a3, a4, a5))) := by show _ = _; rw [HTM.out]; unfold spoilM; simp only [← HTK.out]
   have hset := upd_put9 (w := we) (g := G) (k := k) (.int .i64 a6) (.int .i64 a7) (.int .i64 a8) (.int .i64 a0) (.int .i64 a1) (.int .i64 a2) (.int .i64 a3) (.int .i64 a4) (.int .i64 a5)
   have HUS := Lib.hid (HUB.out.then hset (fun i hi e => by have e' : i = G := e; have := HGW.out; have := HQE.out; omega))
   clear hset HRB HOB HUB HQB HAKB HAJB HTM
   go_wp2_with fail
   go_ret
   rw [HTE.out]
   exact ⟨_, rfl, by have h := HPT.out.rd (cap := c3) (by rw [List.length_set]; exact HGC.out); rw [List.length_set] at h; exact h, HUS.out⟩
  ·
   have HTE : Hid (T = l) := HTM.out
   go_wp2_with fail
   go_ret
   rw [HTE.out]
   exact ⟨_, rfl, HRB.out.rd HGC.out, HUB.out⟩
  ·
   have HTE : Hid (T = l) := HTM.out
   go_wp2_with fail
   go_ret
   rw [HTE.out]
   exact ⟨_, rfl, HRB.out.rd HGC.out, HUB.out⟩
  ·
   have HTE : Hid (T = l) := HTM.out
   go_wp2_with fail
   go_ret
   rw [HTE.out]
   exact ⟨_, rfl, HRB.out.rd HGC.out, HUB.out⟩
end Go.Proofs.YtcikldoaidmnhaaGreatDoor
