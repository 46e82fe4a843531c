/- The lists of triangles that the reference makes, as plain functions. No condition. Rows of numbers; numbers modulo others. No condition. Walks of the reference's makers: two triangles, a corner of hills. No condition. Walks of the reference's makers: a cube. No condition. -/
import Derived.Test.YtcikldoaidmnhaaGreatDoorC2
import Derived.Test.YtcikldoaidmnhaaGreatDoorC6
import Derived.Test.YtcikldoaidmnhaaGreatDoorC9
import Derived.Test.YtcikldoaidmnhaaGreatDoorC18
namespace Go.Proofs.YtcikldoaidmnhaaGreatDoor
open Go Go.RowKit
namespace Pk
/-- A number modulo another one. -/
def modI (n m : Int) : Int := ((n.tmod m) + m).tmod m
theorem modI_range {n m : Int} (h : 0 < m) : 0 ≤ modI n m ∧ modI n m < m := by
  unfold modI
  have h1 := Int.lt_tmod_of_pos n h
  have h2 := Int.tmod_lt_of_pos n h
  exact ⟨Int.tmod_nonneg _ (by omega), Int.tmod_lt_of_pos _ h⟩
theorem modI_eq (n : Int) {m : Int} (h : 0 < m) : modI n m = n % m := by
  unfold modI
  have h1 := Int.lt_tmod_of_pos n h
  rw [Int.tmod_eq_emod_of_nonneg (by omega), Int.add_emod_right, Int.tmod_eq_emod]
  split
  · simp
  · rw [Int.natAbs_of_nonneg (by omega), Int.sub_emod_right, Int.emod_emod_of_dvd _ (Int.dvd_refl m)]
/-- Two triangles. -/
def quadT (a b c d : Pt) : List Tri := [(a, b, c), (a, c, d)]
def cubeP (p : Pt) (s : Int) (n : Nat) : Pt := (p.1 + ((n % 2 : Nat) : Int) * s, p.2.1 + ((n / 2 % 2 : Nat) : Int) * s, p.2.2 + ((n / 4 : Nat) : Int) * s)
def cubeT (p : Pt) (s : Int) : List Tri := quadT (cubeP p s 0) (cubeP p s 2) (cubeP p s 3) (cubeP p s 1) ++ quadT (cubeP p s 4) (cubeP p s 5) (cubeP p s 7) (cubeP p s 6) ++ quadT (cubeP p s 0) (cubeP p s 1) (cubeP p s 5) (cubeP p s 4) ++ quadT (cubeP p s 2) (cubeP p s 6) (cubeP p s 7) (cubeP p s 3) ++ quadT (cubeP p s 0) (cubeP p s 4) (cubeP p s 6) (cubeP p s 2) ++ quadT (cubeP p s 1) (cubeP p s 3) (cubeP p s 7) (cubeP p s 5)
theorem cubeT_len (p : Pt) (s : Int) : (cubeT p s).length = 12 := rfl
/-- A bit of a number. -/
def bitV (bits : Int) (n : Nat) : Bool := decide (bits / 2 ^ n % 2 = 1)
def stepsV (f : Nat) : Int × Int × Int := ([(0, 0, -1), (0, 0, 1), (0, -1, 0), (0, 1, 0), (-1, 0, 0), (1, 0, 0)] : List (Int × Int × Int)).getD f (0, 0, 0)
/-- Whether the cube beside is in the set. -/
def nearV (bits : Int) (n f : Nat) : Bool :=
  let u := ((n % 3 : Nat) : Int) + (stepsV f).1
  let v := ((n / 3 % 3 : Nat) : Int) + (stepsV f).2.1
  let w := ((n / 9 : Nat) : Int) + (stepsV f).2.2
  decide (0 ≤ u ∧ u < 3 ∧ 0 ≤ v ∧ v < 3 ∧ 0 ≤ w ∧ w < 3) && bitV bits ((w * 3 + v) * 3 + u).toNat
def pointV (step : Int) (at_ : Pt) (n : Nat) : Pt := (at_.1 + ((n % 3 : Nat) : Int) * step, at_.2.1 + ((n / 3 % 3 : Nat) : Int) * step, at_.2.2 + ((n / 9 : Nat) : Int) * step)
def sideV (bits step : Int) (at_ : Pt) (n f : Nat) : List Tri := if nearV bits n f then [] else [(cubeT (pointV step at_ n) step).getD (2 * f) ((0, 0, 0), (0, 0, 0), (0, 0, 0)), (cubeT (pointV step at_ n) step).getD (2 * f + 1) ((0, 0, 0), (0, 0, 0), (0, 0, 0))]
def cubeV (bits step : Int) (at_ : Pt) (n : Nat) : List Tri := if bitV bits n then (List.range 6).flatMap (sideV bits step at_ n) else []
/-- The surface of a set of cubes. -/
def voxelsT (bits step : Int) (at_ : Pt) : List Tri := (List.range 27).flatMap (cubeV bits step at_)
def hillP (x y : Nat) (step : Int) (hs : List Int) : Pt := ((x : Int) * step, (y : Int) * step, 100 + (if hs = [] then 0 else modI (hs.getD ((y * 7 + x) % hs.length) 0) 64))
def hillsN (n : Int) : Nat := (1 + modI n 6).toNat
def hillsT (n step : Int) (hs : List Int) : List Tri := (List.range (hillsN n)).flatMap fun y => (List.range (hillsN n)).flatMap fun x => quadT (hillP x y step hs) (hillP (x + 1) y step hs) (hillP (x + 1) (y + 1) step hs) (hillP x (y + 1) step hs)
/-- The corners of a triangle are exchanged for others. -/
def swapP (p r : Pt) (t : Tri) : Tri := (if t.1 = p then r else t.1, if t.2.1 = p then r else t.2.1, if t.2.2 = p then r else t.2.2)
def z3 : Tri := ((0, 0, 0), (0, 0, 0), (0, 0, 0))
/-- One thing is changed. -/
def spoilT (l : List Tri) (q0 q1 q2 : Int) : List Tri :=
  if l = [] then [] else
  let k := (modI q1 l.length).toNat
  let j := (modI q2 l.length).toNat
  let t := l.getD k z3
  let u := l.getD j z3
  match (modI q0 12).toNat with
  | 0 => l.take k ++ l.drop (k + 1)
  | 1 => l.set k (t.1, t.2.2, t.2.1)
  | 2 => l ++ [u]
  | 3 => l.set k (u.2.1, t.2.1, t.2.2)
  | 4 => l.set k (t.1, t.1, t.2.2)
  | 5 => l ++ [(t.1, t.2.2, t.2.1)]
  | 6 => l.map (swapP u.2.2 t.1)
  | 7 => l.take (1 + k)
  | 8 => l.set k (t.2.2, t.1, t.2.1)
  | _ => l
theorem spoilT_len (l : List Tri) (q0 q1 q2 : Int) : (spoilT l q0 q1 q2).length ≤ l.length + 1 := by
  unfold spoilT
  split
  · simp
  · simp only
    split <;> simp <;> omega
end Pk
end Go.Proofs.YtcikldoaidmnhaaGreatDoor
namespace Go.Proofs.YtcikldoaidmnhaaGreatDoor
open Go Go.RowKit Pk
set_option maxRecDepth 100000
noncomputable def kInt : Kd Tryz.prog Int := { T := 3, S := 23, k := 1, bytes := 8, enc := fun n => [.int .i64 n], len := fun _ => rfl, one := fun n v hv => by rw [List.mem_singleton.1 hv]; rfl, pos := by decide, small := by decide, und := Tryz.underlying23, info := kinfo_of (by kernel_rfl) }
theorem cell_lt {w : World} {b o : Nat} {v : Value} (h : w.cell? ⟨b, o, none⟩ = some v) : b < w.heap.size := by
  unfold World.cell? at h
  by_cases hb : b < w.heap.size
  · exact hb
  · rw [Array.getElem?_eq_none (by show w.heap.size ≤ b; omega)] at h; cases h
theorem hMod_any (c m : Int) (hm : 0 < m) (hb : m ≤ 1000000000) (w : World) : Calls Tryz.prog 70 #[.int .i64 c, .int .i64 m] w fun e w' => e = .returned (.int .i64 (modI c m)) ∧ w' = w := by
  have k1 := Int.lt_tmod_of_pos c hm
  have k2 := Int.tmod_lt_of_pos c hm
  have e1 : wrap64 (c.tmod m + m) = c.tmod m + m := IntWalk.wrap64_in _ (by omega)
  have e3 : (m == 0) = false := by rw [beq_eq_false_iff_ne]; omega
  have e4 : ¬ m = -1 := by omega
  have h1 : -9223372036854775808 ≤ c.tmod m ∧ c.tmod m ≤ 9223372036854775807 := by omega
  obtain ⟨R, hR⟩ : ∃ R, R = modI c m := ⟨_, rfl⟩
  have e2 : (c.tmod m + m).tmod m = R := by rw [hR]; rfl
  have h2 : -9223372036854775808 ≤ R ∧ R ≤ 9223372036854775807 := by have := modI_range (n := c) hm; omega
  rw [← hR]
  clear hR k1 k2
  go_enter Tryz.func70, Tryz.ntmps70
  go_wp2_with fail
  go_ret
  exact ⟨rfl, rfl⟩
theorem if_wanted {c : Bool} {A B : Prop} (h : c = true) (ha : A) : if c = true then A else B := by rw [if_pos h]; exact ha
theorem wp_val {P : Program} {o : Oper} {a : Act} {w : World} {K : Act → World → Prop} {Q : Exit → Act → World → Prop} (v : Value) (w' : World) (hv : (execOp a.eval o).run P w = .ok (.value v) w') (h : K (a.put o.dst v) w') : Oper.wp P o a w K Q := by
  unfold Oper.wp
  rw [hv]
  exact h
end Go.Proofs.YtcikldoaidmnhaaGreatDoor
namespace Go.Proofs.YtcikldoaidmnhaaGreatDoor
open Go Go.RowKit Pk
set_option maxRecDepth 100000
/-- A row as it was laid. -/
theorem Kd.Own.lit {P : Program} {α : Type} {K : Kd P α} {base : Nat} {w : World} {g : Nat} {cs : Array Value} (l : List α) (hb : w.heap[g]? = some (.cells cs K.T (0, 0))) (hc : cs = (l.flatMap K.enc).toArray) (hg : base ≤ g) (hl : l.length < 4294967296) : K.Own base w (.slice (some ⟨g, 0, none⟩) l.length l.length) l := by
  subst hc
  unfold Kd.Own
  refine ⟨K.flat_len l, .inr ⟨g, _, _, rfl, hg, hb, Nat.le_refl _, by unfold maxLen; omega, ?_, ?_⟩⟩
  · rw [List.size_toArray, K.flat_len]
  · rw [← K.flat_len l, List.take_length]
theorem quad_any (a b c d : Pt) (w : World) : Calls Tryz.prog 91 #[ptV a, ptV b, ptV c, ptV d] w fun en w' => ∃ g, en = .returned (.slice (some ⟨g, 0, none⟩) 2 2) ∧ kTri.Own w.heap.size w' (.slice (some ⟨g, 0, none⟩) 2 2) (quadT a b c d) ∧ Upd noBlk w w' := by
  obtain ⟨Q, hQ⟩ : ∃ Q, Q = quadT a b c d := ⟨_, rfl⟩
  have hQ2 : Q.length = 2 := by rw [hQ]; rfl
  have hQc : (Q.flatMap kTri.enc).toArray = #[.int .i64 a.1, .int .i64 a.2.1, .int .i64 a.2.2, .int .i64 b.1, .int .i64 b.2.1, .int .i64 b.2.2, .int .i64 c.1, .int .i64 c.2.1, .int .i64 c.2.2, .int .i64 a.1, .int .i64 a.2.1, .int .i64 a.2.2, .int .i64 c.1, .int .i64 c.2.1, .int .i64 c.2.2, .int .i64 d.1, .int .i64 d.2.1, .int .i64 d.2.2] := by rw [hQ]; rfl
  rw [← hQ]
  have HQ2 := Lib.hid hQ2
  have HQC := Lib.hid hQc
  clear hQ hQ2 hQc
  obtain ⟨a0, a1, a2⟩ := a
  obtain ⟨b0, b1, b2⟩ := b
  obtain ⟨c0, c1, c2⟩ := c
  obtain ⟨d0, d1, d2⟩ := d
  simp only at HQC
  unfold ptV
  obtain ⟨w1, hw1⟩ : ∃ w1, w1 = (((w.alloc (.cells #[.int .i64 a0, .int .i64 a1, .int .i64 a2] 43)).alloc (.cells #[.int .i64 b0, .int .i64 b1, .int .i64 b2] 43)).alloc (.cells #[.int .i64 c0, .int .i64 c1, .int .i64 c2] 43)).alloc (.cells #[.int .i64 d0, .int .i64 d1, .int .i64 d2] 43) := ⟨_, rfl⟩
  have hs0 := World.size_alloc w (.cells #[.int .i64 a0, .int .i64 a1, .int .i64 a2] 43)
  have hs1 := World.size_alloc (w.alloc (.cells #[.int .i64 a0, .int .i64 a1, .int .i64 a2] 43)) (.cells #[.int .i64 b0, .int .i64 b1, .int .i64 b2] 43)
  have hs2 := World.size_alloc ((w.alloc (.cells #[.int .i64 a0, .int .i64 a1, .int .i64 a2] 43)).alloc (.cells #[.int .i64 b0, .int .i64 b1, .int .i64 b2] 43)) (.cells #[.int .i64 c0, .int .i64 c1, .int .i64 c2] 43)
  have HU : Hid (Upd noBlk w w1) := by show Upd _ _ _; rw [hw1]; exact ((((Upd.refl _ w).alloc _).alloc _).alloc _).alloc _
  have HA : Hid (w1.heap[w.heap.size]? = some (.cells #[.int .i64 a0, .int .i64 a1, .int .i64 a2] 43 (0, 0))) := by show _ = _; rw [hw1]; exact ((((Upd.refl noBlk _).alloc _).alloc _).alloc _).heap (heap_alloc_new w _) id
  have HB : Hid (w1.heap[w.heap.size + 1]? = some (.cells #[.int .i64 b0, .int .i64 b1, .int .i64 b2] 43 (0, 0))) := by
    show _ = _; rw [hw1, ← hs0]; exact (((Upd.refl noBlk _).alloc _).alloc _).heap (heap_alloc_new _ _) id
  have HC : Hid (w1.heap[w.heap.size + 1 + 1]? = some (.cells #[.int .i64 c0, .int .i64 c1, .int .i64 c2] 43 (0, 0))) := by
    show _ = _; rw [hw1, ← hs0, ← hs1]; exact ((Upd.refl noBlk _).alloc _).heap (heap_alloc_new _ _) id
  have HD : Hid (w1.heap[w.heap.size + 1 + 1 + 1]? = some (.cells #[.int .i64 d0, .int .i64 d1, .int .i64 d2] 43 (0, 0))) := by
    show _ = _; rw [hw1, ← hs0, ← hs1, ← hs2]; exact heap_alloc_new _ _
  clear hs0 hs1 hs2
  go_enter Tryz.func91, Tryz.ntmps91
  go_upto_region 1 with fail
  rw [← hw1]
  clear hw1
  have HWN : Hid (w.heap.size ≤ w1.heap.size) := HU.out.size
  obtain ⟨N, hN⟩ : ∃ N, N = w.heap.size := ⟨_, rfl⟩
  rw [← hN] at HA HB HC HD ⊢
  clear hN
  obtain ⟨x0, x1, x2⟩ := cells3 HA.out
  obtain ⟨x3, x4, x5⟩ := cells3 HB.out
  obtain ⟨x6, x7, x8⟩ := cells3 HC.out
  obtain ⟨x9, x10, x11⟩ := cells3 HD.out
  go_wp2_with fail
  go_ret
  have h1 := heap_alloc_new w1 (.cells #[.int .i64 a0, .int .i64 a1, .int .i64 a2, .int .i64 b0, .int .i64 b1, .int .i64 b2, .int .i64 c0, .int .i64 c1, .int .i64 c2, .int .i64 a0, .int .i64 a1, .int .i64 a2, .int .i64 c0, .int .i64 c1, .int .i64 c2, .int .i64 d0, .int .i64 d1, .int .i64 d2] 45)
  have h2 := Kd.Own.lit (K := kTri) (base := w.heap.size) Q h1 HQC.out.symm HWN.out (by rw [HQ2.out]; decide)
  rw [HQ2.out] at h2
  exact ⟨_, rfl, h2, HU.out.alloc _⟩
/-- The place among the heights, and the height. -/
theorem hill_any (x y : Nat) (step : Int) (v : Value) (hs : List Int) (w : World) (hx : x < 100) (hy : y < 100) (h0 : 0 ≤ step) (h1 : step ≤ 1000000) (hl : hs.length ≤ 9223372036854775807) (h : kInt.Rd w v hs) :
    Calls Tryz.prog 90 #[.int .i64 x, .int .i64 y, .int .i64 step, v] w fun en w' => en = .returned (ptV (hillP x y step hs)) ∧ Upd noBlk w w' := by
  obtain ⟨A, cap, rfl, hcap, hxx⟩ := h
  have HX := Lib.hid hxx
  have HM := fun n W => Lib.hid (hMod_any n 64 (by decide) (by decide) W)
  have hl' : ((hs.length : Nat) : Int) ≤ 9223372036854775807 := by omega
  have p1 : 0 ≤ (x : Int) * step ∧ (x : Int) * step ≤ 100000000 := ⟨Int.mul_nonneg (by omega) h0, Int.le_trans (Int.mul_le_mul (by omega : (x : Int) ≤ 100) h1 h0 (by decide)) (by decide)⟩
  have p2 : 0 ≤ (y : Int) * step ∧ (y : Int) * step ≤ 100000000 := ⟨Int.mul_nonneg (by omega) h0, Int.le_trans (Int.mul_le_mul (by omega : (y : Int) ≤ 100) h1 h0 (by decide)) (by decide)⟩
  obtain ⟨px, hpx⟩ : ∃ px, px = (x : Int) * step := ⟨_, rfl⟩
  obtain ⟨py, hpy⟩ : ∃ py, py = (y : Int) * step := ⟨_, rfl⟩
  rw [← hpx] at p1
  rw [← hpy] at p2
  obtain ⟨p1a, p1b⟩ := p1
  obtain ⟨p2a, p2b⟩ := p2
  have wx : IntKind.i64.wrap ((x : Int) * step) = px := by rw [← hpx]; simp [IntKind.wrap, IntKind.signed, IntKind.bits]; omega
  have wy : IntKind.i64.wrap ((y : Int) * step) = py := by rw [← hpy]; simp [IntKind.wrap, IntKind.signed, IntKind.bits]; omega
  have HP : Hid (hillP x y step hs = (px, py, 100 + (if hs = [] then 0 else modI (hs.getD ((y * 7 + x) % hs.length) 0) 64))) := by show _ = _; rw [hpx, hpy]; rfl
  clear hpx hpy hxx hl h0 h1
  have HZ : Hid ((w.alloc (.cells #[.int .i64 0, .int .i64 0, .int .i64 0] 43)).heap[w.heap.size]? = some (.cells #[.int .i64 0, .int .i64 0, .int .i64 0] 43 (0, 0))) := heap_alloc_new w _
  have HU0 : Hid (Upd noBlk w (w.alloc (.cells #[.int .i64 0, .int .i64 0, .int .i64 0] 43))) := (Upd.refl _ w).alloc _
  go_enter Tryz.func90, Tryz.ntmps90
  go_upto_region 1 with fail
  obtain ⟨N, hN⟩ : ∃ N, N = w.heap.size := ⟨_, rfl⟩
  have HWN : Hid (w.heap.size ≤ N) := by show _ ≤ _; omega
  rw [← hN] at HZ ⊢
  clear hN
  generalize w.alloc (.cells #[.int .i64 0, .int .i64 0, .int .i64 0] 43) = w1 at *
  go_upto_if 12 with fail
  go_cut [9, 12] (fun c _ wc => ∃ hh : Int, c = .int .i64 hh ∧ 0 ≤ hh ∧ hh ≤ 64 ∧ hillP x y step hs = (px, py, 100 + hh) ∧ Upd noBlk w1 wc)
  case first =>
    by_cases hn : hs = []
    · subst hn
      rw [if_pos rfl] at HP
      go_wp2_with fail
      go_meet
      exact ⟨0, rfl, by decide, by decide, HP.out, Upd.refl _ _⟩
    · rw [if_neg hn] at HP
      have hpos : 0 < hs.length := by cases hs with | nil => exact absurd rfl hn | cons a r => simp
      have hpos' : (0 : Int) < ((hs.length : Nat) : Int) := by omega
      obtain ⟨k, hk⟩ : ∃ k, k = (y * 7 + x) % hs.length := ⟨_, rfl⟩
      have hkl : k < hs.length := by rw [hk]; exact Nat.mod_lt _ hpos
      have hk2 : ((y : Int) * 7 + (x : Int)).tmod ((hs.length : Nat) : Int) = ((k : Nat) : Int) := by rw [hk, Int.tmod_eq_emod_of_nonneg (by omega)]; push_cast; rfl
      rw [← hk] at HP
      clear hk
      have hkl' : ((k : Nat) : Int) < ((hs.length : Nat) : Int) := by omega
      have hne : (((hs.length : Nat) : Int) == 0) = false := by rw [beq_eq_false_iff_ne]; omega
      have hn1 : ¬ ((hs.length : Nat) : Int) = -1 := by omega
      obtain ⟨b, off, rfl, f1⟩ := HX.out hpos
      have hc : w1.cell? ⟨b, off + k, none⟩ = some (.int .i64 (hs.getD k 0)) := by
        have := (f1 k hkl).keep HU0.out
        have hk1 : kInt.k = 1 := rfl
        rw [hk1, Nat.mul_one] at this
        rw [List.getD_eq_getElem?_getD, List.getElem?_eq_getElem hkl]
        exact this 0 _ rfl
      generalize hs.getD k 0 = q at *
      have HMQ := HM q w1
      have HR := modI_range (n := q) (m := 64) (by decide)
      have HR2 := Lib.hid HR
      generalize modI q 64 = md at *
      clear f1 HX HM
      go_wp2_with fail
      refine HMQ.out.mono ?_
      rintro e w2 ⟨rfl, rfl⟩
      go_wp2_with fail
      go_meet
      exact ⟨md, rfl, HR2.out.1, by have h : 0 ≤ md ∧ md < 64 := HR2.out; omega, HP.out, Upd.refl _ _⟩
  case rest =>
    obtain ⟨hh, rfl, h0, h1, hp, hu⟩ := hcut
    have HPP := Lib.hid hp
    have HU := Lib.hid hu
    have HZ2 := Lib.hid (hu.heap HZ.out id)
    clear hp hu HP HX HM
    obtain ⟨c0, c1, c2⟩ := cells3 HZ2.out
    have hf : ∀ j, wc.frozen? ⟨N, j, none⟩ = false := fun j => by simp [World.frozen?, HZ2.out]
    obtain ⟨f0, f1, f2⟩ : wc.frozen? ⟨N, 0, none⟩ = false ∧ wc.frozen? ⟨N, 1, none⟩ = false ∧ wc.frozen? ⟨N, 2, none⟩ = false := ⟨hf 0, hf 1, hf 2⟩
    go_wp2_with fail
    have s0 := heap_setCell_eq (i := 0) (.int .i64 px) HZ2.out
    have s1 := heap_setCell_eq (i := 1) (.int .i64 py) s0
    have s2 := heap_setCell_eq (i := 2) (.int .i64 (100 + hh)) s1
    have hset := (((Upd.refl (fun k => k = N) wc).setCell (p := ⟨N, 0, none⟩) (fun _ => rfl) (.int .i64 px)).setCell (p := ⟨N, 1, none⟩) (fun _ => rfl) (.int .i64 py)).setCell (p := ⟨N, 2, none⟩) (fun _ => rfl) (.int .i64 (100 + hh))
    (try simp only [Exit.inBlock, Exit.then])
    refine bodyPost_ret (results_cell_row rfl _ _ N 43 _ (0, 0) _ rfl s2 Tryz.underlying43 rfl (by kernel_rfl)) rfl ?_
    rw [HPP.out]
    exact ⟨rfl, (HU0.out.trans HU.out).then hset (fun i hi e => by have e' : i = N := e; have := HWN.out; omega)⟩
end Go.Proofs.YtcikldoaidmnhaaGreatDoor
namespace Go.Proofs.YtcikldoaidmnhaaGreatDoor
open Go Go.RowKit Pk
set_option maxRecDepth 100000
theorem Kd.Own.ats {P : Program} {α : Type} {K : Kd P α} {base : Nat} {w : World} {g n c : Nat} {l : List α} (h : K.Own base w (.slice (some ⟨g, 0, none⟩) n c) l) (h0 : 0 < l.length) : ∀ j (hj : j < l.length), K.At w g (0 + j * K.k) l[j] := by
  obtain ⟨A, cap, e, _, f⟩ := h.rd
  obtain ⟨b, off, e2, f2⟩ := f h0
  subst e2
  cases e
  exact f2
theorem cellsF24 {w : World} {b : Nat} {x0 x1 x2 x3 x4 x5 x6 x7 x8 x9 x10 x11 x12 x13 x14 x15 x16 x17 x18 x19 x20 x21 x22 x23 : Value} {t : TypeId} (h : w.heap[b]? = some (.cells #[x0, x1, x2, x3, x4, x5, x6, x7, x8, x9, x10, x11, x12, x13, x14, x15, x16, x17, x18, x19, x20, x21, x22, x23] t (0, 0))) : (w.cell? ⟨b, 0, none⟩ = some x0 ∧ w.cell? ⟨b, 1, none⟩ = some x1 ∧ w.cell? ⟨b, 2, none⟩ = some x2 ∧ w.cell? ⟨b, 3, none⟩ = some x3 ∧ w.cell? ⟨b, 4, none⟩ = some x4 ∧ w.cell? ⟨b, 5, none⟩ = some x5 ∧ w.cell? ⟨b, 6, none⟩ = some x6 ∧ w.cell? ⟨b, 7, none⟩ = some x7 ∧ w.cell? ⟨b, 8, none⟩ = some x8 ∧ w.cell? ⟨b, 9, none⟩ = some x9 ∧ w.cell? ⟨b, 10, none⟩ = some x10 ∧ w.cell? ⟨b, 11, none⟩ = some x11 ∧ w.cell? ⟨b, 12, none⟩ = some x12 ∧ w.cell? ⟨b, 13, none⟩ = some x13 ∧ w.cell? ⟨b, 14, none⟩ = some x14 ∧ w.cell? ⟨b, 15, none⟩ = some x15 ∧ w.cell? ⟨b, 16, none⟩ = some x16 ∧ w.cell? ⟨b, 17, none⟩ = some x17 ∧ w.cell? ⟨b, 18, none⟩ = some x18 ∧ w.cell? ⟨b, 19, none⟩ = some x19 ∧ w.cell? ⟨b, 20, none⟩ = some x20 ∧ w.cell? ⟨b, 21, none⟩ = some x21 ∧ w.cell? ⟨b, 22, none⟩ = some x22 ∧ w.cell? ⟨b, 23, none⟩ = some x23) ∧ (∀ j, w.frozen? ⟨b, j, none⟩ = false) := by
  refine ⟨?_, fun j => by simp [World.frozen?, h]⟩
  simp [World.cell?, h]
set_option maxHeartbeats 4000000 in
theorem cube_any (p : Pt) (s : Int) (w : World) (hp0 : -100000000 ≤ p.1 ∧ p.1 ≤ 100000000) (hp1 : -100000000 ≤ p.2.1 ∧ p.2.1 ≤ 100000000) (hp2 : -100000000 ≤ p.2.2 ∧ p.2.2 ≤ 100000000) (hs : 0 ≤ s ∧ s ≤ 100000000) :
    Calls Tryz.prog 76 #[ptV p, .int .i64 s] w fun en w' => ∃ v, en = .returned v ∧ kTri.Own w.heap.size w' v (cubeT p s) ∧ Upd noBlk w w' := by
  obtain ⟨p0, p1, p2⟩ := p
  simp only at hp0 hp1 hp2
  obtain ⟨hp0a, hp0b⟩ := hp0
  obtain ⟨hp1a, hp1b⟩ := hp1
  obtain ⟨hp2a, hp2b⟩ := hp2
  obtain ⟨hsa, hsb⟩ := hs
  have hct : cubeT (p0, p1, p2) s = quadT (p0, p1, p2) (p0, p1 + s, p2) (p0 + s, p1 + s, p2) (p0 + s, p1, p2) ++ quadT (p0, p1, p2 + s) (p0 + s, p1, p2 + s) (p0 + s, p1 + s, p2 + s) (p0, p1 + s, p2 + s) ++ quadT (p0, p1, p2) (p0 + s, p1, p2) (p0 + s, p1, p2 + s) (p0, p1, p2 + s) ++ quadT (p0, p1 + s, p2) (p0, p1 + s, p2 + s) (p0 + s, p1 + s, p2 + s) (p0 + s, p1 + s, p2) ++ quadT (p0, p1, p2) (p0, p1, p2 + s) (p0, p1 + s, p2 + s) (p0, p1 + s, p2) ++ quadT (p0 + s, p1, p2) (p0 + s, p1 + s, p2) (p0 + s, p1 + s, p2 + s) (p0 + s, p1, p2 + s) := by simp [cubeT, cubeP]
  rw [hct]
  clear hct
  obtain ⟨Q0, hQ0⟩ : ∃ Q, Q = quadT (p0, p1, p2) (p0, p1 + s, p2) (p0 + s, p1 + s, p2) (p0 + s, p1, p2) := ⟨_, rfl⟩
  have HL0 : Hid (Q0.length = 2) := by show _ = _; rw [hQ0]; rfl
  have HQ0 := fun W => Lib.hid (quad_any (p0, p1, p2) (p0, p1 + s, p2) (p0 + s, p1 + s, p2) (p0 + s, p1, p2) W)
  rw [← hQ0] at HQ0 ⊢
  clear hQ0
  obtain ⟨Q1, hQ1⟩ : ∃ Q, Q = quadT (p0, p1, p2 + s) (p0 + s, p1, p2 + s) (p0 + s, p1 + s, p2 + s) (p0, p1 + s, p2 + s) := ⟨_, rfl⟩
  have HL1 : Hid (Q1.length = 2) := by show _ = _; rw [hQ1]; rfl
  have HQ1 := fun W => Lib.hid (quad_any (p0, p1, p2 + s) (p0 + s, p1, p2 + s) (p0 + s, p1 + s, p2 + s) (p0, p1 + s, p2 + s) W)
  rw [← hQ1] at HQ1 ⊢
  clear hQ1
  obtain ⟨Q2, hQ2⟩ : ∃ Q, Q = quadT (p0, p1, p2) (p0 + s, p1, p2) (p0 + s, p1, p2 + s) (p0, p1, p2 + s) := ⟨_, rfl⟩
  have HL2 : Hid (Q2.length = 2) := by show _ = _; rw [hQ2]; rfl
  have HQ2 := fun W => Lib.hid (quad_any (p0, p1, p2) (p0 + s, p1, p2) (p0 + s, p1, p2 + s) (p0, p1, p2 + s) W)
  rw [← hQ2] at HQ2 ⊢
  clear hQ2
  obtain ⟨Q3, hQ3⟩ : ∃ Q, Q = quadT (p0, p1 + s, p2) (p0, p1 + s, p2 + s) (p0 + s, p1 + s, p2 + s) (p0 + s, p1 + s, p2) := ⟨_, rfl⟩
  have HL3 : Hid (Q3.length = 2) := by show _ = _; rw [hQ3]; rfl
  have HQ3 := fun W => Lib.hid (quad_any (p0, p1 + s, p2) (p0, p1 + s, p2 + s) (p0 + s, p1 + s, p2 + s) (p0 + s, p1 + s, p2) W)
  rw [← hQ3] at HQ3 ⊢
  clear hQ3
  obtain ⟨Q4, hQ4⟩ : ∃ Q, Q = quadT (p0, p1, p2) (p0, p1, p2 + s) (p0, p1 + s, p2 + s) (p0, p1 + s, p2) := ⟨_, rfl⟩
  have HL4 : Hid (Q4.length = 2) := by show _ = _; rw [hQ4]; rfl
  have HQ4 := fun W => Lib.hid (quad_any (p0, p1, p2) (p0, p1, p2 + s) (p0, p1 + s, p2 + s) (p0, p1 + s, p2) W)
  rw [← hQ4] at HQ4 ⊢
  clear hQ4
  obtain ⟨Q5, hQ5⟩ : ∃ Q, Q = quadT (p0 + s, p1, p2) (p0 + s, p1 + s, p2) (p0 + s, p1 + s, p2 + s) (p0 + s, p1, p2 + s) := ⟨_, rfl⟩
  have HL5 : Hid (Q5.length = 2) := by show _ = _; rw [hQ5]; rfl
  have HQ5 := fun W => Lib.hid (quad_any (p0 + s, p1, p2) (p0 + s, p1 + s, p2) (p0 + s, p1 + s, p2 + s) (p0 + s, p1, p2 + s) W)
  rw [← hQ5] at HQ5 ⊢
  clear hQ5
  unfold ptV at *
  simp only at *
  obtain ⟨y0, hy0⟩ : ∃ y0, y0 = (w.alloc (.cells #[.int .i64 p0, .int .i64 p1, .int .i64 p2] 43)).alloc (.cells #[.int .i64 0, .int .i64 0, .int .i64 0, .int .i64 0, .int .i64 0, .int .i64 0, .int .i64 0, .int .i64 0, .int .i64 0, .int .i64 0, .int .i64 0, .int .i64 0, .int .i64 0, .int .i64 0, .int .i64 0, .int .i64 0, .int .i64 0, .int .i64 0, .int .i64 0, .int .i64 0, .int .i64 0, .int .i64 0, .int .i64 0, .int .i64 0] 197) := ⟨_, rfl⟩
  have HU : Hid (Upd noBlk w y0) := by show Upd _ _ _; rw [hy0]; exact ((Upd.refl _ w).alloc _).alloc _
  have HA : Hid (y0.heap[w.heap.size]? = some (.cells #[.int .i64 p0, .int .i64 p1, .int .i64 p2] 43 (0, 0))) := by show _ = _; rw [hy0]; exact ((Upd.refl noBlk _).alloc _).heap (heap_alloc_new w _) id
  have HB : Hid (y0.heap[w.heap.size + 1]? = some (.cells #[.int .i64 0, .int .i64 0, .int .i64 0, .int .i64 0, .int .i64 0, .int .i64 0, .int .i64 0, .int .i64 0, .int .i64 0, .int .i64 0, .int .i64 0, .int .i64 0, .int .i64 0, .int .i64 0, .int .i64 0, .int .i64 0, .int .i64 0, .int .i64 0, .int .i64 0, .int .i64 0, .int .i64 0, .int .i64 0, .int .i64 0, .int .i64 0] 197 (0, 0))) := by
    show _ = _; rw [hy0, ← World.size_alloc w (.cells #[.int .i64 p0, .int .i64 p1, .int .i64 p2] 43)]; exact heap_alloc_new _ _
  go_enter Tryz.func76, Tryz.ntmps76
  go_upto_region 2 with fail
  rw [← hy0]
  clear hy0
  obtain ⟨N, hN⟩ : ∃ N, N = w.heap.size := ⟨_, rfl⟩
  have HWN : Hid (w.heap.size ≤ N) := by show _ ≤ _; omega
  rw [← hN] at HA HB ⊢
  clear hN
  obtain ⟨M, hM⟩ : ∃ M, M = N + 1 := ⟨_, rfl⟩
  have HNM : Hid (¬ N = M ∧ w.heap.size ≤ M) := by show _ ∧ _; have := HWN.out; omega
  rw [← hM] at HB ⊢
  clear hM
  go_wp2_with fail
  refine wp_loop_rounds 9 ?_
  rw [rounds_succ]
  obtain ⟨a0, a1, a2⟩ := cells3 HA.out
  obtain ⟨⟨g0, g1, g2, g3, g4, g5, g6, g7, g8, g9, g10, g11, g12, g13, g14, g15, g16, g17, g18, g19, g20, g21, g22, g23⟩, hfz⟩ := cellsF24 HB.out
  have f0 := hfz 0
  have f1 := hfz 1
  have f2 := hfz 2
  clear hfz
  go_upto_region 4 with fail
  have s0 := heap_setCell_eq (i := 0) (.int .i64 p0) HB.out
  have s1 := heap_setCell_eq (i := 1) (.int .i64 p1) s0
  have s2 := heap_setCell_eq (i := 2) (.int .i64 p2) s1
  have HBn : Hid ((((y0.setCell ⟨M, 0, none⟩ (.int .i64 p0)).setCell ⟨M, 1, none⟩ (.int .i64 p1)).setCell ⟨M, 2, none⟩ (.int .i64 p2)).heap[M]? = some (.cells #[.int .i64 p0, .int .i64 p1, .int .i64 p2, .int .i64 0, .int .i64 0, .int .i64 0, .int .i64 0, .int .i64 0, .int .i64 0, .int .i64 0, .int .i64 0, .int .i64 0, .int .i64 0, .int .i64 0, .int .i64 0, .int .i64 0, .int .i64 0, .int .i64 0, .int .i64 0, .int .i64 0, .int .i64 0, .int .i64 0, .int .i64 0, .int .i64 0] 197 (0, 0))) := s2
  have hset := (((Upd.refl (fun i => i = M) y0).setCell (p := ⟨M, 0, none⟩) (fun _ => rfl) (.int .i64 p0)).setCell (p := ⟨M, 1, none⟩) (fun _ => rfl) (.int .i64 p1)).setCell (p := ⟨M, 2, none⟩) (fun _ => rfl) (.int .i64 p2)
  have HAn := Lib.hid (hset.heap HA.out HNM.out.1)
  have HUn := Lib.hid (upd_newE HU.out hset HNM.out.2)
  clear HA HB HU hset s0 s1 s2 a0 a1 a2 f0 f1 f2 g0 g1 g2 g3 g4 g5 g6 g7 g8 g9 g10 g11 g12 g13 g14 g15 g16 g17 g18 g19 g20 g21 g22 g23
  generalize ((y0.setCell ⟨M, 0, none⟩ (.int .i64 p0)).setCell ⟨M, 1, none⟩ (.int .i64 p1)).setCell ⟨M, 2, none⟩ (.int .i64 p2) = y1 at *
  have HA := HAn
  have HB := HBn
  have HU := HUn
  clear HAn HBn HUn
  go_wp2_with fail
  rw [rounds_succ]
  obtain ⟨a0, a1, a2⟩ := cells3 HA.out
  obtain ⟨⟨g0, g1, g2, g3, g4, g5, g6, g7, g8, g9, g10, g11, g12, g13, g14, g15, g16, g17, g18, g19, g20, g21, g22, g23⟩, hfz⟩ := cellsF24 HB.out
  have f0 := hfz 3
  have f1 := hfz 4
  have f2 := hfz 5
  clear hfz
  go_upto_region 4 with fail
  have s0 := heap_setCell_eq (i := 3) (.int .i64 (p0 + s)) HB.out
  have s1 := heap_setCell_eq (i := 4) (.int .i64 p1) s0
  have s2 := heap_setCell_eq (i := 5) (.int .i64 p2) s1
  have HBn : Hid ((((y1.setCell ⟨M, 3, none⟩ (.int .i64 (p0 + s))).setCell ⟨M, 4, none⟩ (.int .i64 p1)).setCell ⟨M, 5, none⟩ (.int .i64 p2)).heap[M]? = some (.cells #[.int .i64 p0, .int .i64 p1, .int .i64 p2, .int .i64 (p0 + s), .int .i64 p1, .int .i64 p2, .int .i64 0, .int .i64 0, .int .i64 0, .int .i64 0, .int .i64 0, .int .i64 0, .int .i64 0, .int .i64 0, .int .i64 0, .int .i64 0, .int .i64 0, .int .i64 0, .int .i64 0, .int .i64 0, .int .i64 0, .int .i64 0, .int .i64 0, .int .i64 0] 197 (0, 0))) := s2
  have hset := (((Upd.refl (fun i => i = M) y1).setCell (p := ⟨M, 3, none⟩) (fun _ => rfl) (.int .i64 (p0 + s))).setCell (p := ⟨M, 4, none⟩) (fun _ => rfl) (.int .i64 p1)).setCell (p := ⟨M, 5, none⟩) (fun _ => rfl) (.int .i64 p2)
  have HAn := Lib.hid (hset.heap HA.out HNM.out.1)
  have HUn := Lib.hid (upd_newE HU.out hset HNM.out.2)
  clear HA HB HU hset s0 s1 s2 a0 a1 a2 f0 f1 f2 g0 g1 g2 g3 g4 g5 g6 g7 g8 g9 g10 g11 g12 g13 g14 g15 g16 g17 g18 g19 g20 g21 g22 g23
  generalize ((y1.setCell ⟨M, 3, none⟩ (.int .i64 (p0 + s))).setCell ⟨M, 4, none⟩ (.int .i64 p1)).setCell ⟨M, 5, none⟩ (.int .i64 p2) = y2 at *
  have HA := HAn
  have HB := HBn
  have HU := HUn
  clear HAn HBn HUn
  go_wp2_with fail
  rw [rounds_succ]
  obtain ⟨a0, a1, a2⟩ := cells3 HA.out
  obtain ⟨⟨g0, g1, g2, g3, g4, g5, g6, g7, g8, g9, g10, g11, g12, g13, g14, g15, g16, g17, g18, g19, g20, g21, g22, g23⟩, hfz⟩ := cellsF24 HB.out
  have f0 := hfz 6
  have f1 := hfz 7
  have f2 := hfz 8
  clear hfz
  go_upto_region 4 with fail
  have s0 := heap_setCell_eq (i := 6) (.int .i64 p0) HB.out
  have s1 := heap_setCell_eq (i := 7) (.int .i64 (p1 + s)) s0
  have s2 := heap_setCell_eq (i := 8) (.int .i64 p2) s1
  have HBn : Hid ((((y2.setCell ⟨M, 6, none⟩ (.int .i64 p0)).setCell ⟨M, 7, none⟩ (.int .i64 (p1 + s))).setCell ⟨M, 8, none⟩ (.int .i64 p2)).heap[M]? = some (.cells #[.int .i64 p0, .int .i64 p1, .int .i64 p2, .int .i64 (p0 + s), .int .i64 p1, .int .i64 p2, .int .i64 p0, .int .i64 (p1 + s), .int .i64 p2, .int .i64 0, .int .i64 0, .int .i64 0, .int .i64 0, .int .i64 0, .int .i64 0, .int .i64 0, .int .i64 0, .int .i64 0, .int .i64 0, .int .i64 0, .int .i64 0, .int .i64 0, .int .i64 0, .int .i64 0] 197 (0, 0))) := s2
  have hset := (((Upd.refl (fun i => i = M) y2).setCell (p := ⟨M, 6, none⟩) (fun _ => rfl) (.int .i64 p0)).setCell (p := ⟨M, 7, none⟩) (fun _ => rfl) (.int .i64 (p1 + s))).setCell (p := ⟨M, 8, none⟩) (fun _ => rfl) (.int .i64 p2)
  have HAn := Lib.hid (hset.heap HA.out HNM.out.1)
  have HUn := Lib.hid (upd_newE HU.out hset HNM.out.2)
  clear HA HB HU hset s0 s1 s2 a0 a1 a2 f0 f1 f2 g0 g1 g2 g3 g4 g5 g6 g7 g8 g9 g10 g11 g12 g13 g14 g15 g16 g17 g18 g19 g20 g21 g22 g23
  generalize ((y2.setCell ⟨M, 6, none⟩ (.int .i64 p0)).setCell ⟨M, 7, none⟩ (.int .i64 (p1 + s))).setCell ⟨M, 8, none⟩ (.int .i64 p2) = y3 at *
  have HA := HAn
  have HB := HBn
  have HU := HUn
  clear HAn HBn HUn
  go_wp2_with fail
  rw [rounds_succ]
  obtain ⟨a0, a1, a2⟩ := cells3 HA.out
  obtain ⟨⟨g0, g1, g2, g3, g4, g5, g6, g7, g8, g9, g10, g11, g12, g13, g14, g15, g16, g17, g18, g19, g20, g21, g22, g23⟩, hfz⟩ := cellsF24 HB.out
  have f0 := hfz 9
  have f1 := hfz 10
  have f2 := hfz 11
  clear hfz
  go_upto_region 4 with fail
  have s0 := heap_setCell_eq (i := 9) (.int .i64 (p0 + s)) HB.out
  have s1 := heap_setCell_eq (i := 10) (.int .i64 (p1 + s)) s0
  have s2 := heap_setCell_eq (i := 11) (.int .i64 p2) s1
  have HBn : Hid ((((y3.setCell ⟨M, 9, none⟩ (.int .i64 (p0 + s))).setCell ⟨M, 10, none⟩ (.int .i64 (p1 + s))).setCell ⟨M, 11, none⟩ (.int .i64 p2)).heap[M]? = some (.cells #[.int .i64 p0, .int .i64 p1, .int .i64 p2, .int .i64 (p0 + s), .int .i64 p1, .int .i64 p2, .int .i64 p0, .int .i64 (p1 + s), .int .i64 p2, .int .i64 (p0 + s), .int .i64 (p1 + s), .int .i64 p2, .int .i64 0, .int .i64 0, .int .i64 0, .int .i64 0, .int .i64 0, .int .i64 0, .int .i64 0, .int .i64 0, .int .i64 0, .int .i64 0, .int .i64 0, .int .i64 0] 197 (0, 0))) := s2
  have hset := (((Upd.refl (fun i => i = M) y3).setCell (p := ⟨M, 9, none⟩) (fun _ => rfl) (.int .i64 (p0 + s))).setCell (p := ⟨M, 10, none⟩) (fun _ => rfl) (.int .i64 (p1 + s))).setCell (p := ⟨M, 11, none⟩) (fun _ => rfl) (.int .i64 p2)
  have HAn := Lib.hid (hset.heap HA.out HNM.out.1)
  have HUn := Lib.hid (upd_newE HU.out hset HNM.out.2)
  clear HA HB HU hset s0 s1 s2 a0 a1 a2 f0 f1 f2 g0 g1 g2 g3 g4 g5 g6 g7 g8 g9 g10 g11 g12 g13 g14 g15 g16 g17 g18 g19 g20 g21 g22 g23
  generalize ((y3.setCell ⟨M, 9, none⟩ (.int .i64 (p0 + s))).setCell ⟨M, 10, none⟩ (.int .i64 (p1 + s))).setCell ⟨M, 11, none⟩ (.int .i64 p2) = y4 at *
  have HA := HAn
  have HB := HBn
  have HU := HUn
  clear HAn HBn HUn
  go_wp2_with fail
  rw [rounds_succ]
  obtain ⟨a0, a1, a2⟩ := cells3 HA.out
  obtain ⟨⟨g0, g1, g2, g3, g4, g5, g6, g7, g8, g9, g10, g11, g12, g13, g14, g15, g16, g17, g18, g19, g20, g21, g22, g23⟩, hfz⟩ := cellsF24 HB.out
  have f0 := hfz 12
  have f1 := hfz 13
  have f2 := hfz 14
  clear hfz
  go_upto_region 4 with fail
  have s0 := heap_setCell_eq (i := 12) (.int .i64 p0) HB.out
  have s1 := heap_setCell_eq (i := 13) (.int .i64 p1) s0
  have s2 := heap_setCell_eq (i := 14) (.int .i64 (p2 + s)) s1
  have HBn : Hid ((((y4.setCell ⟨M, 12, none⟩ (.int .i64 p0)).setCell ⟨M, 13, none⟩ (.int .i64 p1)).setCell ⟨M, 14, none⟩ (.int .i64 (p2 + s))).heap[M]? = some (.cells #[.int .i64 p0, .int .i64 p1, .int .i64 p2, .int .i64 (p0 + s), .int .i64 p1, .int .i64 p2, .int .i64 p0, .int .i64 (p1 + s), .int .i64 p2, .int .i64 (p0 + s), .int .i64 (p1 + s), .int .i64 p2, .int .i64 p0, .int .i64 p1, .int .i64 (p2 + s), .int .i64 0, .int .i64 0, .int .i64 0, .int .i64 0, .int .i64 0, .int .i64 0, .int .i64 0, .int .i64 0, .int .i64 0] 197 (0, 0))) := s2
  have hset := (((Upd.refl (fun i => i = M) y4).setCell (p := ⟨M, 12, none⟩) (fun _ => rfl) (.int .i64 p0)).setCell (p := ⟨M, 13, none⟩) (fun _ => rfl) (.int .i64 p1)).setCell (p := ⟨M, 14, none⟩) (fun _ => rfl) (.int .i64 (p2 + s))
  have HAn := Lib.hid (hset.heap HA.out HNM.out.1)
  have HUn := Lib.hid (upd_newE HU.out hset HNM.out.2)
  clear HA HB HU hset s0 s1 s2 a0 a1 a2 f0 f1 f2 g0 g1 g2 g3 g4 g5 g6 g7 g8 g9 g10 g11 g12 g13 g14 g15 g16 g17 g18 g19 g20 g21 g22 g23
  generalize ((y4.setCell ⟨M, 12, none⟩ (.int .i64 p0)).setCell ⟨M, 13, none⟩ (.int .i64 p1)).setCell ⟨M, 14, none⟩ (.int .i64 (p2 + s)) = y5 at *
  have HA := HAn
  have HB := HBn
  have HU := HUn
  clear HAn HBn HUn
  go_wp2_with fail
  rw [rounds_succ]
  obtain ⟨a0, a1, a2⟩ := cells3 HA.out
  obtain ⟨⟨g0, g1, g2, g3, g4, g5, g6, g7, g8, g9, g10, g11, g12, g13, g14, g15, g16, g17, g18, g19, g20, g21, g22, g23⟩, hfz⟩ := cellsF24 HB.out
  have f0 := hfz 15
  have f1 := hfz 16
  have f2 := hfz 17
  clear hfz
  go_upto_region 4 with fail
  have s0 := heap_setCell_eq (i := 15) (.int .i64 (p0 + s)) HB.out
  have s1 := heap_setCell_eq (i := 16) (.int .i64 p1) s0
  have s2 := heap_setCell_eq (i := 17) (.int .i64 (p2 + s)) s1
  have HBn : Hid ((((y5.setCell ⟨M, 15, none⟩ (.int .i64 (p0 + s))).setCell ⟨M, 16, none⟩ (.int .i64 p1)).setCell ⟨M, 17, none⟩ (.int .i64 (p2 + s))).heap[M]? = some (.cells #[.int .i64 p0, .int .i64 p1, .int .i64 p2, .int .i64 (p0 + s), .int .i64 p1, .int .i64 p2, .int .i64 p0, .int .i64 (p1 + s), .int .i64 p2, .int .i64 (p0 + s), .int .i64 (p1 + s), .int .i64 p2, .int .i64 p0, .int .i64 p1, .int .i64 (p2 + s), .int .i64 (p0 + s), .int .i64 p1, .int .i64 (p2 + s), .int .i64 0, .int .i64 0, .int .i64 0, .int .i64 0, .int .i64 0, .int .i64 0] 197 (0, 0))) := s2
  have hset := (((Upd.refl (fun i => i = M) y5).setCell (p := ⟨M, 15, none⟩) (fun _ => rfl) (.int .i64 (p0 + s))).setCell (p := ⟨M, 16, none⟩) (fun _ => rfl) (.int .i64 p1)).setCell (p := ⟨M, 17, none⟩) (fun _ => rfl) (.int .i64 (p2 + s))
  have HAn := Lib.hid (hset.heap HA.out HNM.out.1)
  have HUn := Lib.hid (upd_newE HU.out hset HNM.out.2)
  clear HA HB HU hset s0 s1 s2 a0 a1 a2 f0 f1 f2 g0 g1 g2 g3 g4 g5 g6 g7 g8 g9 g10 g11 g12 g13 g14 g15 g16 g17 g18 g19 g20 g21 g22 g23
  generalize ((y5.setCell ⟨M, 15, none⟩ (.int .i64 (p0 + s))).setCell ⟨M, 16, none⟩ (.int .i64 p1)).setCell ⟨M, 17, none⟩ (.int .i64 (p2 + s)) = y6 at *
  have HA := HAn
  have HB := HBn
  have HU := HUn
  clear HAn HBn HUn
  go_wp2_with fail
  rw [rounds_succ]
  obtain ⟨a0, a1, a2⟩ := cells3 HA.out
  obtain ⟨⟨g0, g1, g2, g3, g4, g5, g6, g7, g8, g9, g10, g11, g12, g13, g14, g15, g16, g17, g18, g19, g20, g21, g22, g23⟩, hfz⟩ := cellsF24 HB.out
  have f0 := hfz 18
  have f1 := hfz 19
  have f2 := hfz 20
  clear hfz
  go_upto_region 4 with fail
  have s0 := heap_setCell_eq (i := 18) (.int .i64 p0) HB.out
  have s1 := heap_setCell_eq (i := 19) (.int .i64 (p1 + s)) s0
  have s2 := heap_setCell_eq (i := 20) (.int .i64 (p2 + s)) s1
  have HBn : Hid ((((y6.setCell ⟨M, 18, none⟩ (.int .i64 p0)).setCell ⟨M, 19, none⟩ (.int .i64 (p1 + s))).setCell ⟨M, 20, none⟩ (.int .i64 (p2 + s))).heap[M]? = some (.cells #[.int .i64 p0, .int .i64 p1, .int .i64 p2, .int .i64 (p0 + s), .int .i64 p1, .int .i64 p2, .int .i64 p0, .int .i64 (p1 + s), .int .i64 p2, .int .i64 (p0 + s), .int .i64 (p1 + s), .int .i64 p2, .int .i64 p0, .int .i64 p1, .int .i64 (p2 + s), .int .i64 (p0 + s), .int .i64 p1, .int .i64 (p2 + s), .int .i64 p0, .int .i64 (p1 + s), .int .i64 (p2 + s), .int .i64 0, .int .i64 0, .int .i64 0] 197 (0, 0))) := s2
  have hset := (((Upd.refl (fun i => i = M) y6).setCell (p := ⟨M, 18, none⟩) (fun _ => rfl) (.int .i64 p0)).setCell (p := ⟨M, 19, none⟩) (fun _ => rfl) (.int .i64 (p1 + s))).setCell (p := ⟨M, 20, none⟩) (fun _ => rfl) (.int .i64 (p2 + s))
  have HAn := Lib.hid (hset.heap HA.out HNM.out.1)
  have HUn := Lib.hid (upd_newE HU.out hset HNM.out.2)
  clear HA HB HU hset s0 s1 s2 a0 a1 a2 f0 f1 f2 g0 g1 g2 g3 g4 g5 g6 g7 g8 g9 g10 g11 g12 g13 g14 g15 g16 g17 g18 g19 g20 g21 g22 g23
  generalize ((y6.setCell ⟨M, 18, none⟩ (.int .i64 p0)).setCell ⟨M, 19, none⟩ (.int .i64 (p1 + s))).setCell ⟨M, 20, none⟩ (.int .i64 (p2 + s)) = y7 at *
  have HA := HAn
  have HB := HBn
  have HU := HUn
  clear HAn HBn HUn
  go_wp2_with fail
  rw [rounds_succ]
  obtain ⟨a0, a1, a2⟩ := cells3 HA.out
  obtain ⟨⟨g0, g1, g2, g3, g4, g5, g6, g7, g8, g9, g10, g11, g12, g13, g14, g15, g16, g17, g18, g19, g20, g21, g22, g23⟩, hfz⟩ := cellsF24 HB.out
  have f0 := hfz 21
  have f1 := hfz 22
  have f2 := hfz 23
  clear hfz
  go_upto_region 4 with fail
  have s0 := heap_setCell_eq (i := 21) (.int .i64 (p0 + s)) HB.out
  have s1 := heap_setCell_eq (i := 22) (.int .i64 (p1 + s)) s0
  have s2 := heap_setCell_eq (i := 23) (.int .i64 (p2 + s)) s1
  have HBn : Hid ((((y7.setCell ⟨M, 21, none⟩ (.int .i64 (p0 + s))).setCell ⟨M, 22, none⟩ (.int .i64 (p1 + s))).setCell ⟨M, 23, none⟩ (.int .i64 (p2 + s))).heap[M]? = some (.cells #[.int .i64 p0, .int .i64 p1, .int .i64 p2, .int .i64 (p0 + s), .int .i64 p1, .int .i64 p2, .int .i64 p0, .int .i64 (p1 + s), .int .i64 p2, .int .i64 (p0 + s), .int .i64 (p1 + s), .int .i64 p2, .int .i64 p0, .int .i64 p1, .int .i64 (p2 + s), .int .i64 (p0 + s), .int .i64 p1, .int .i64 (p2 + s), .int .i64 p0, .int .i64 (p1 + s), .int .i64 (p2 + s), .int .i64 (p0 + s), .int .i64 (p1 + s), .int .i64 (p2 + s)] 197 (0, 0))) := s2
  have hset := (((Upd.refl (fun i => i = M) y7).setCell (p := ⟨M, 21, none⟩) (fun _ => rfl) (.int .i64 (p0 + s))).setCell (p := ⟨M, 22, none⟩) (fun _ => rfl) (.int .i64 (p1 + s))).setCell (p := ⟨M, 23, none⟩) (fun _ => rfl) (.int .i64 (p2 + s))
  have HAn := Lib.hid (hset.heap HA.out HNM.out.1)
  have HUn := Lib.hid (upd_newE HU.out hset HNM.out.2)
  clear HA HB HU hset s0 s1 s2 a0 a1 a2 f0 f1 f2 g0 g1 g2 g3 g4 g5 g6 g7 g8 g9 g10 g11 g12 g13 g14 g15 g16 g17 g18 g19 g20 g21 g22 g23
  generalize ((y7.setCell ⟨M, 21, none⟩ (.int .i64 (p0 + s))).setCell ⟨M, 22, none⟩ (.int .i64 (p1 + s))).setCell ⟨M, 23, none⟩ (.int .i64 (p2 + s)) = y8 at *
  have HA := HAn
  have HB := HBn
  have HU := HUn
  clear HAn HBn HUn
  go_wp2_with fail
  rw [rounds_succ]
  go_upto_region 6 with fail
  obtain ⟨⟨g0, g1, g2, g3, g4, g5, g6, g7, g8, g9, g10, g11, g12, g13, g14, g15, g16, g17, g18, g19, g20, g21, g22, g23⟩, _⟩ := cellsF24 HB.out
  have HC := HQ0 y8
  go_wp2_with fail
  refine HC.out.mono ?_
  rintro e v0 ⟨b0, rfl, o0, u0⟩
  have HBn := Lib.hid (u0.heap HB.out id)
  have HUn := Lib.hid (HU.out.trans u0)
  have HO0 : Hid (kTri.Own w.heap.size v0 (.slice (some ⟨b0, 0, none⟩) 2 2) Q0) := o0.mono (HU.out.size)
  have HLL0 : Hid (Q0.length = 2) := HL0.out
  clear g0 g1 g2 g3 g4 g5 g6 g7 g8 g9 g10 g11 g12 g13 g14 g15 g16 g17 g18 g19 g20 g21 g22 g23 HB HU o0 u0 HC HA
  obtain ⟨⟨g0, g1, g2, g3, g4, g5, g6, g7, g8, g9, g10, g11, g12, g13, g14, g15, g16, g17, g18, g19, g20, g21, g22, g23⟩, _⟩ := cellsF24 HBn.out
  go_wp2_with fail
  have HB := HBn
  have HU := HUn
  clear HBn HUn
  have HC := HQ1 v0
  refine HC.out.mono ?_
  rintro e z1 ⟨c1, rfl, o1, u1⟩
  have HUz := Lib.hid (HU.out.trans u1)
  have HBz := Lib.hid (u1.heap HB.out id)
  have hoz := HO0.out.upd u1
  obtain ⟨b1, k1, v1, r1, q1, t1, _⟩ := hoz.appN HUz.out.size (c := 2) Q1 (o1.ats (by rw [HL1.out]; decide)) (by rw [HLL0.out, HL1.out]; decide) (by rw [HL1.out]; decide)
  rw [HLL0.out, HL1.out] at r1 q1
  have R1 := Lib.hid r1
  have HO1 := Lib.hid q1
  have HGE : Hid (∀ i, ((.slice (some ⟨b0, 0, none⟩) 2 2) : Value).ownBlock = some i → w.heap.size ≤ i) := fun i e => (HO0.out.blk e).1
  have HUn := Lib.hid (HUz.out.then t1 (fun i hi e => absurd hi (by have := HGE.out i e; omega)))
  have HBn := Lib.hid (t1.heap HBz.out (fun e => by have := (HO0.out.blk e).1; have h2 := (hoz.blk e).2; obtain ⟨cur, h2⟩ := h2; rw [HBz.out] at h2; cases h2))
  have HLL1 : Hid ((Q0 ++ Q1).length = 4) := by show _ = _; rw [List.length_append, HLL0.out, HL1.out]
  clear g0 g1 g2 g3 g4 g5 g6 g7 g8 g9 g10 g11 g12 g13 g14 g15 g16 g17 g18 g19 g20 g21 g22 g23 HB HU o1 u1 HC hoz r1 q1 t1 HUz HBz HGE HO0 HQ1
  obtain ⟨⟨g0, g1, g2, g3, g4, g5, g6, g7, g8, g9, g10, g11, g12, g13, g14, g15, g16, g17, g18, g19, g20, g21, g22, g23⟩, _⟩ := cellsF24 HBn.out
  go_wp2_with (at_builtin; refine wpList_append_run rfl _ _ _ rfl rfl rfl R1.out ?_)
  have HB := HBn
  have HU := HUn
  clear HBn HUn
  have HC := HQ2 v1
  refine HC.out.mono ?_
  rintro e z2 ⟨c2, rfl, o2, u2⟩
  have HUz := Lib.hid (HU.out.trans u2)
  have HBz := Lib.hid (u2.heap HB.out id)
  have hoz := HO1.out.upd u2
  obtain ⟨b2, k2, v2, r2, q2, t2, _⟩ := hoz.appN HUz.out.size (c := 2) Q2 (o2.ats (by rw [HL2.out]; decide)) (by rw [HLL1.out, HL2.out]; decide) (by rw [HL2.out]; decide)
  rw [HLL1.out, HL2.out] at r2 q2
  have R2 := Lib.hid r2
  have HO2 := Lib.hid q2
  have HGE : Hid (∀ i, ((.slice (some ⟨b1, 0, none⟩) 4 k1) : Value).ownBlock = some i → w.heap.size ≤ i) := fun i e => (HO1.out.blk e).1
  have HUn := Lib.hid (HUz.out.then t2 (fun i hi e => absurd hi (by have := HGE.out i e; omega)))
  have HBn := Lib.hid (t2.heap HBz.out (fun e => by have := (HO1.out.blk e).1; have h2 := (hoz.blk e).2; obtain ⟨cur, h2⟩ := h2; rw [HBz.out] at h2; cases h2))
  have HLL2 : Hid (((Q0 ++ Q1) ++ Q2).length = 6) := by show _ = _; rw [List.length_append, HLL1.out, HL2.out]
  clear g0 g1 g2 g3 g4 g5 g6 g7 g8 g9 g10 g11 g12 g13 g14 g15 g16 g17 g18 g19 g20 g21 g22 g23 HB HU o2 u2 HC hoz r2 q2 t2 HUz HBz HGE HO1 HQ2
  obtain ⟨⟨g0, g1, g2, g3, g4, g5, g6, g7, g8, g9, g10, g11, g12, g13, g14, g15, g16, g17, g18, g19, g20, g21, g22, g23⟩, _⟩ := cellsF24 HBn.out
  go_wp2_with (at_builtin; refine wpList_append_run rfl _ _ _ rfl rfl rfl R2.out ?_)
  have HB := HBn
  have HU := HUn
  clear HBn HUn
  have HC := HQ3 v2
  refine HC.out.mono ?_
  rintro e z3 ⟨c3, rfl, o3, u3⟩
  have HUz := Lib.hid (HU.out.trans u3)
  have HBz := Lib.hid (u3.heap HB.out id)
  have hoz := HO2.out.upd u3
  obtain ⟨b3, k3, v3, r3, q3, t3, _⟩ := hoz.appN HUz.out.size (c := 2) Q3 (o3.ats (by rw [HL3.out]; decide)) (by rw [HLL2.out, HL3.out]; decide) (by rw [HL3.out]; decide)
  rw [HLL2.out, HL3.out] at r3 q3
  have R3 := Lib.hid r3
  have HO3 := Lib.hid q3
  have HGE : Hid (∀ i, ((.slice (some ⟨b2, 0, none⟩) 6 k2) : Value).ownBlock = some i → w.heap.size ≤ i) := fun i e => (HO2.out.blk e).1
  have HUn := Lib.hid (HUz.out.then t3 (fun i hi e => absurd hi (by have := HGE.out i e; omega)))
  have HBn := Lib.hid (t3.heap HBz.out (fun e => by have := (HO2.out.blk e).1; have h2 := (hoz.blk e).2; obtain ⟨cur, h2⟩ := h2; rw [HBz.out] at h2; cases h2))
  have HLL3 : Hid ((((Q0 ++ Q1) ++ Q2) ++ Q3).length = 8) := by show _ = _; rw [List.length_append, HLL2.out, HL3.out]
  clear g0 g1 g2 g3 g4 g5 g6 g7 g8 g9 g10 g11 g12 g13 g14 g15 g16 g17 g18 g19 g20 g21 g22 g23 HB HU o3 u3 HC hoz r3 q3 t3 HUz HBz HGE HO2 HQ3
  obtain ⟨⟨g0, g1, g2, g3, g4, g5, g6, g7, g8, g9, g10, g11, g12, g13, g14, g15, g16, g17, g18, g19, g20, g21, g22, g23⟩, _⟩ := cellsF24 HBn.out
  go_wp2_with (at_builtin; refine wpList_append_run rfl _ _ _ rfl rfl rfl R3.out ?_)
  have HB := HBn
  have HU := HUn
  clear HBn HUn
  have HC := HQ4 v3
  refine HC.out.mono ?_
  rintro e z4 ⟨c4, rfl, o4, u4⟩
  have HUz := Lib.hid (HU.out.trans u4)
  have HBz := Lib.hid (u4.heap HB.out id)
  have hoz := HO3.out.upd u4
  obtain ⟨b4, k4, v4, r4, q4, t4, _⟩ := hoz.appN HUz.out.size (c := 2) Q4 (o4.ats (by rw [HL4.out]; decide)) (by rw [HLL3.out, HL4.out]; decide) (by rw [HL4.out]; decide)
  rw [HLL3.out, HL4.out] at r4 q4
  have R4 := Lib.hid r4
  have HO4 := Lib.hid q4
  have HGE : Hid (∀ i, ((.slice (some ⟨b3, 0, none⟩) 8 k3) : Value).ownBlock = some i → w.heap.size ≤ i) := fun i e => (HO3.out.blk e).1
  have HUn := Lib.hid (HUz.out.then t4 (fun i hi e => absurd hi (by have := HGE.out i e; omega)))
  have HBn := Lib.hid (t4.heap HBz.out (fun e => by have := (HO3.out.blk e).1; have h2 := (hoz.blk e).2; obtain ⟨cur, h2⟩ := h2; rw [HBz.out] at h2; cases h2))
  have HLL4 : Hid (((((Q0 ++ Q1) ++ Q2) ++ Q3) ++ Q4).length = 10) := by show _ = _; rw [List.length_append, HLL3.out, HL4.out]
  clear g0 g1 g2 g3 g4 g5 g6 g7 g8 g9 g10 g11 g12 g13 g14 g15 g16 g17 g18 g19 g20 g21 g22 g23 HB HU o4 u4 HC hoz r4 q4 t4 HUz HBz HGE HO3 HQ4
  obtain ⟨⟨g0, g1, g2, g3, g4, g5, g6, g7, g8, g9, g10, g11, g12, g13, g14, g15, g16, g17, g18, g19, g20, g21, g22, g23⟩, _⟩ := cellsF24 HBn.out
  go_wp2_with (at_builtin; refine wpList_append_run rfl _ _ _ rfl rfl rfl R4.out ?_)
  have HB := HBn
  have HU := HUn
  clear HBn HUn
  have HC := HQ5 v4
  refine HC.out.mono ?_
  rintro e z5 ⟨c5, rfl, o5, u5⟩
  have HUz := Lib.hid (HU.out.trans u5)
  have HBz := Lib.hid (u5.heap HB.out id)
  have hoz := HO4.out.upd u5
  obtain ⟨b5, k5, v5, r5, q5, t5, _⟩ := hoz.appN HUz.out.size (c := 2) Q5 (o5.ats (by rw [HL5.out]; decide)) (by rw [HLL4.out, HL5.out]; decide) (by rw [HL5.out]; decide)
  rw [HLL4.out, HL5.out] at r5 q5
  have R5 := Lib.hid r5
  have HO5 := Lib.hid q5
  have HGE : Hid (∀ i, ((.slice (some ⟨b4, 0, none⟩) 10 k4) : Value).ownBlock = some i → w.heap.size ≤ i) := fun i e => (HO4.out.blk e).1
  have HUn := Lib.hid (HUz.out.then t5 (fun i hi e => absurd hi (by have := HGE.out i e; omega)))
  have HBn := Lib.hid (t5.heap HBz.out (fun e => by have := (HO4.out.blk e).1; have h2 := (hoz.blk e).2; obtain ⟨cur, h2⟩ := h2; rw [HBz.out] at h2; cases h2))
  have HLL5 : Hid ((((((Q0 ++ Q1) ++ Q2) ++ Q3) ++ Q4) ++ Q5).length = 12) := by show _ = _; rw [List.length_append, HLL4.out, HL5.out]
  clear g0 g1 g2 g3 g4 g5 g6 g7 g8 g9 g10 g11 g12 g13 g14 g15 g16 g17 g18 g19 g20 g21 g22 g23 HB HU o5 u5 HC hoz r5 q5 t5 HUz HBz HGE HO4 HQ5
  obtain ⟨⟨g0, g1, g2, g3, g4, g5, g6, g7, g8, g9, g10, g11, g12, g13, g14, g15, g16, g17, g18, g19, g20, g21, g22, g23⟩, _⟩ := cellsF24 HBn.out
  go_wp2_with (at_builtin; refine wpList_append_run rfl _ _ _ rfl rfl rfl R5.out ?_)
  go_ret
  exact ⟨_, rfl, HO5.out, HUn.out⟩
end Go.Proofs.YtcikldoaidmnhaaGreatDoor
