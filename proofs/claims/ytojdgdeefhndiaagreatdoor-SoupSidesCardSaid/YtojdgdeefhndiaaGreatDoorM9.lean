/- The two forms of text, on the lines that have words. No condition. Corners denoted by numbers; how great the numbers are. No condition. Walks of the program of the polygon files: reader.number. Numbers of a few bytes, the least significant one first, as plain sums. No condition. Walks of the program of the polygon files: reader.number. -/
import Derived.Test.YtojdgdeefhndiaaGreatDoorM7
import Derived.Test.YtojdgdeefhndiaaGreatDoorM8
import Derived.Test.YtojdgdeefhndiaaGreatDoorM2
import Derived.Test.YtojdgdeefhndiaaGreatDoorM1
import Derived.Laws.BitsAllLaws
namespace Go.Proofs.YtojdgdeefhndiaaGreatDoor
open Go Go.RowKit Sp
namespace Sp
def oneStep (i : Nat) (w : Bytes) (ws : List Bytes) (cs : List Pt) (ps : List Poly) (next : List Pt → List Poly → Out) : Out :=
  if w = wV then (match cornerS ws with
    | .bad e => .bad i e
    | .ok p => next (cs ++ [p]) ps)
  else if w = wF then (match faceS cs ws with
    | .bad e => .bad i e
    | .ok c => if 65536 ≤ ps.length then .bad i 2 else next cs (ps ++ [(c, i)]))
  else .bad i 10
def oneN : List (Nat × List Bytes) → List Pt → List Poly → Out
  | [], _, ps => .ok ps
  | (i, ws) :: r, cs, ps => match ws with
    | [] => oneN r cs ps
    | w :: ws => oneStep i w ws cs ps (oneN r)
theorem oneGo_eq : ∀ (ls : List Bytes) (i : Nat) (cs : List Pt) (ps : List Poly), oneGo i ls cs ps = oneN (numbered i ls) cs ps
  | [], _, _, _ => rfl
  | l :: r, i, cs, ps => by
    rw [oneGo, numbered]
    cases hw : wordsOf l with
    | nil => exact oneGo_eq r (i + 1) cs ps
    | cons w ws =>
      simp only
      rw [oneN]
      unfold oneStep
      simp only [oneGo_eq r (i + 1)]
      cases cornerS ws <;> cases faceS cs ws <;> rfl
theorem oneN_v {i : Nat} {ws : List Bytes} {r : List (Nat × List Bytes)} {cs : List Pt} {ps : List Poly} : oneN ((i, wV :: ws) :: r) cs ps = match cornerS ws with | .bad e => .bad i e | .ok p => oneN r (cs ++ [p]) ps := by
  rw [oneN]; unfold oneStep; rw [if_pos rfl]
theorem oneN_f {i : Nat} {ws : List Bytes} {r : List (Nat × List Bytes)} {cs : List Pt} {ps : List Poly} : oneN ((i, wF :: ws) :: r) cs ps = match faceS cs ws with | .bad e => .bad i e | .ok c => if 65536 ≤ ps.length then .bad i 2 else oneN r cs (ps ++ [(c, i)]) := by
  rw [oneN]; unfold oneStep; rw [if_neg (by decide), if_pos rfl]
theorem oneN_other {i : Nat} {w : Bytes} {ws : List Bytes} {r : List (Nat × List Bytes)} {cs : List Pt} {ps : List Poly} (h1 : w ≠ wV) (h2 : w ≠ wF) : oneN ((i, w :: ws) :: r) cs ps = .bad i 10 := by
  rw [oneN]; unfold oneStep; rw [if_neg h1, if_neg h2]
def twoN : List (Nat × List Bytes) → Nat → List Poly → Nat → Out
  | [], left, ps, last => if left = 0 then .ok ps else .bad last 12
  | (i, ws) :: r, left, ps, last => if left = 0 then (match headS ws with
      | .bad e => .bad i e
      | .ok n => if 65536 ≤ ps.length then .bad i 2 else twoN r n (ps ++ [([], i)]) last)
    else (match cornerS ws with
      | .bad e => .bad i e
      | .ok p => twoN r (left - 1) (addLast ps p) last)
theorem twoGo_eq : ∀ (ls : List Bytes) (i left : Nat) (ps : List Poly), twoGo i ls left ps = twoN (numbered i ls) left ps (i + ls.length - 1)
  | [], i, left, ps => by rw [twoGo, numbered, twoN]; rfl
  | l :: r, i, left, ps => by
    have e : i + (l :: r).length - 1 = i + 1 + r.length - 1 := by rw [List.length_cons]; omega
    rw [twoGo, numbered, e]
    cases hw : wordsOf l with
    | nil => exact twoGo_eq r (i + 1) left ps
    | cons w ws =>
      simp only
      rw [twoN]
      simp only [twoGo_eq r (i + 1)]
      cases headS (w :: ws) <;> cases cornerS (w :: ws) <;> rfl
theorem faceS_nums (cs : List Pt) (ws : List Bytes) : faceS cs ws = match numsP 3 64 ws with | .bad e => .bad e | .ok zs => pick cs zs := by
  unfold faceS numsP
  have e : (decide (ws.length < 3) || !ws.all isNum) = (decide (ws.length < 3) || ws.any fun x => !isNum x) := by
    rw [List.not_all_eq_any_not]
  rw [e]
  split
  · rfl
  · split
    · rfl
    · split <;> rfl
end Sp
/-- What a round may turn: cells of its own function's, no strings. -/
theorem round_of_upd {F : Nat → Prop} {N0 : Nat} {W W' : World} (hu : Upd F W W') (hF : ∀ k, F k → k < W.heap.size → N0 ≤ k ∧ ∃ cs T fr, W.heap[k]? = some (.cells cs T fr) ∧ T ≠ 9) (hN : N0 ≤ W.heap.size) : KeepsOthers W W' ∧ KpS N0 W W' := by
  refine ⟨⟨hu.size, fun k o h hc => ?_⟩, hu.size, fun k hk => hu.block k (by omega) (fun hf => ?_), fun k cs fr h => ?_⟩
  · exact hu.heap h (fun hf => by
      obtain ⟨_, cs, T, fr, h1, _⟩ := hF k hf (lt_of_heap h)
      rw [h] at h1; cases h1; cases hc)
  · have := (hF k hf (by omega)).1
    omega
  · exact hu.heap h (fun hf => by
      obtain ⟨_, cs, T, fr, h1, h2⟩ := hF k hf (lt_of_heap h)
      rw [h] at h1; cases h1; exact h2 rfl)
end Go.Proofs.YtojdgdeefhndiaaGreatDoor
namespace Go.Proofs.YtojdgdeefhndiaaGreatDoor
open Go Go.RowKit Sp
namespace Sp
theorem numbered_len : ∀ (ls : List Bytes) (j : Nat), (numbered j ls).length ≤ ls.length
  | [], j => by simp [numbered]
  | a :: r, j => by
    have := numbered_len r (j + 1)
    rw [numbered]
    split
    · rw [List.length_cons]; omega
    · simp only [List.length_cons]; omega
theorem natOf_lt : ∀ (l : Bytes) (a : Nat), l.all isDig = true → l.foldl (fun a c => 10 * a + (c.toNat - 48)) a < (a + 1) * 10 ^ l.length
  | [], a, _ => by simp
  | c :: r, a, h => by
    rw [List.all_cons, Bool.and_eq_true] at h
    have hc : 48 ≤ c.toNat ∧ c.toNat ≤ 57 := by simpa [isDig] using h.1
    have ih := natOf_lt r (10 * a + (c.toNat - 48)) h.2
    rw [List.foldl_cons, List.length_cons, Nat.pow_succ, Nat.mul_comm (10 ^ r.length) 10, ← Nat.mul_assoc]
    refine Nat.lt_of_lt_of_le ih (Nat.mul_le_mul_right _ ?_)
    omega
theorem valOf_small {w : Bytes} (h1 : isNum w = true) (h2 : Sp.long w = false) : -1000000000000000 ≤ Sp.valOf w ∧ Sp.valOf w ≤ 1000000000000000 := by
  unfold isNum at h1
  rw [Bool.and_eq_true] at h1
  unfold Sp.long at h2
  have hl : (unminus w).length ≤ 15 := by simpa using h2
  have hn : natOf (unminus w) < 10 ^ (unminus w).length := by
    have := natOf_lt (unminus w) 0 h1.2
    unfold natOf
    omega
  have h15 : 10 ^ (unminus w).length ≤ 10 ^ 15 := Nat.pow_le_pow_right (by decide) hl
  have e : (10 : Nat) ^ 15 = 1000000000000000 := by decide
  unfold Sp.valOf
  generalize natOf (unminus w) = n at *
  generalize 10 ^ (unminus w).length = m at *
  split <;> omega
theorem numsP_ok {least most : Nat} {ws : List Bytes} {zs : List Int} (h : numsP least most ws = .ok zs) : zs = ws.map Sp.valOf ∧ least ≤ ws.length ∧ ws.length ≤ most ∧ ∀ z, z ∈ zs → -1000000000000000 ≤ z ∧ z ≤ 1000000000000000 := by
  unfold numsP at h
  split at h
  · cases h
  rename_i h1
  split at h
  · cases h
  split at h
  · cases h
  rename_i h2 h3
  cases h
  rw [Bool.or_eq_true, not_or] at h1
  refine ⟨rfl, by have := h1.1; simp at this; omega, by omega, fun z hz => ?_⟩
  rw [List.mem_map] at hz
  obtain ⟨x, hx, rfl⟩ := hz
  have a : isNum x = true := by
    have := h1.2
    rw [Bool.not_eq_true, List.any_eq_false] at this
    simpa using this x hx
  have b : Sp.long x = false := by
    rw [Bool.not_eq_true, List.any_eq_false] at h3
    simpa using h3 x hx
  exact valOf_small a b
/-- The place that a number denotes, from 1 on. -/
def denote (n : Nat) (z : Int) : Int := if z < 0 then z + (n + 1) else z
theorem pick_bad {cs : List Pt} {z : Int} {r : List Int} (h : ¬ (1 ≤ denote cs.length z ∧ denote cs.length z ≤ cs.length)) : pick cs (z :: r) = .bad 14 := by
  rw [pick]
  unfold denote at h
  split
  · rfl
  · rename_i p hp
    have hp' := (List.getElem?_eq_some_iff.1 hp).1
    rw [if_pos]
    by_cases hz : z < 0
    · simp only [hz, if_true] at h hp' ⊢; omega
    · simp only [hz, if_false] at h hp' ⊢; omega
theorem pick_ok {cs : List Pt} {z : Int} {r : List Int} (h1 : 1 ≤ denote cs.length z) (h2 : denote cs.length z ≤ cs.length) :
    ∃ p, cs[(denote cs.length z - 1).toNat]? = some p ∧ pick cs (z :: r) = match pick cs r with | .bad e => .bad e | .ok l => .ok (p :: l) := by
  have e : (if z < 0 then (cs.length : Int) + z else z - 1) = denote cs.length z - 1 := by unfold denote; split <;> omega
  have hlt : (denote cs.length z - 1).toNat < cs.length := by omega
  refine ⟨cs[(denote cs.length z - 1).toNat], List.getElem?_eq_getElem hlt, ?_⟩
  rw [pick, e]
  rw [List.getElem?_eq_getElem hlt]
  simp only
  rw [if_neg (by omega)]
  cases pick cs r <;> rfl
end Sp
theorem ptsVs_get {l : List Pt} {j : Nat} {p : Pt} (h : l[j]? = some p) : (ptsVs l)[3 * j]? = some (.int .i64 p.1) ∧ (ptsVs l)[3 * j + 1]? = some (.int .i64 p.2.1) ∧ (ptsVs l)[3 * j + 2]? = some (.int .i64 p.2.2) := by
  induction l generalizing j with
  | nil => simp at h
  | cons a r ih =>
    cases j with
    | zero =>
      simp at h
      subst h
      exact ⟨rfl, rfl, rfl⟩
    | succ j =>
      simp at h
      have := ih h
      have e : ptsVs (a :: r) = .int .i64 a.1 :: .int .i64 a.2.1 :: .int .i64 a.2.2 :: ptsVs r := rfl
      rw [e, show 3 * (j + 1) = 3 * j + 1 + 1 + 1 by omega]
      simpa using this
theorem OwnPts.at {w : World} {base : Nat} {v : Value} {l : List Pt} (h : OwnPts base w v l) {j : Nat} {p : Pt} (hj : l[j]? = some p) :
    ∃ g cap, v = .slice (some ⟨g, 0, none⟩) l.length cap ∧ w.cell? ⟨g, j * 3, none⟩ = some (.int .i64 p.1) ∧ w.cell? ⟨g, j * 3 + 1, none⟩ = some (.int .i64 p.2.1) ∧ w.cell? ⟨g, j * 3 + 2, none⟩ = some (.int .i64 p.2.2) := by
  have hlt := (List.getElem?_eq_some_iff.1 hj).1
  rcases h.2 with ⟨_, h0⟩ | ⟨g, cap, cur, rfl, _⟩
  · omega
  · obtain ⟨a, b, c⟩ := ptsVs_get hj
    refine ⟨g, cap, rfl, ?_, ?_, ?_⟩
    · rw [World.ownsRow.cellAt h _ (by omega), Nat.mul_comm]; exact a
    · rw [World.ownsRow.cellAt h _ (by omega), Nat.mul_comm]; exact b
    · rw [World.ownsRow.cellAt h _ (by omega), Nat.mul_comm]; exact c
theorem OwnPts.len {w : World} {base : Nat} {v : Value} {l : List Pt} (h : OwnPts base w v l) : ∃ A cap, v = .slice A l.length cap := by
  rcases h.2 with ⟨rfl, h0⟩ | ⟨g, cap, cur, rfl, _⟩
  · exact ⟨none, 0, by rw [h0]⟩
  · exact ⟨_, _, rfl⟩
theorem OwnQs.len {w : World} {base : Nat} {v : Value} {qs : List (Value × Poly)} (h : OwnQs base w v qs) : ∃ A cap, v = .slice A qs.length cap := by
  rcases h.2.2 with ⟨rfl, h0⟩ | ⟨g, cap, cur, rfl, _⟩
  · exact ⟨none, 0, by rw [h0]⟩
  · exact ⟨_, _, rfl⟩
end Go.Proofs.YtojdgdeefhndiaaGreatDoor
namespace Go.Proofs.YtojdgdeefhndiaaGreatDoor
open Go Go.RowKit Sp
set_option maxRecDepth 100000
set_option maxHeartbeats 1000000

theorem number_short (s : Bytes) (p n most : Nat) (e : Int) (B _t : Nat) (hs : s.length ≤ 4294967296) (hp : p ≤ s.length) (hn : n ≤ 8) (hc : ¬ p + n ≤ s.length) (w : World)
    (c0 : w.cell? ⟨B, 0, none⟩ = some (.string (bs s))) (c1 : w.cell? ⟨B, 1, none⟩ = some (.int .i64 p)) :
    Calls Tryz.prog 46 #[.pointer (some ⟨B, 0, none⟩), .int .i64 n, .int .i64 most, .int .i64 e] w fun en w' => en = .panicked (fail s.length 12) ∧ Upd noBlk w w' := by
  have c1' : decide (((p : Nat) : Int) + n ≤ ((s.length : Nat) : Int)) = false := by simp; omega
  have hb : (bs s).size = s.length := bs_size s
  go_enter Tryz.func46, Tryz.ntmps46
  go_wp2_with fail
  refine wp_region_tree 14 (OT.sures [0, 1, 2, 3, 4, 5, 6, 7, 8, 9, 10, 11, 12, 13] .nil) (fun w' => w'.cell? ⟨B, 0, none⟩ = some (.string (bs s))) (by kernel_rfl) (by kernel_rfl) (fun c a d v w h => by cases d <;> exact h) c0 ?_
  simp only [OT.sures]
  iterate 14 (first | (apply wpT_sure rfl rfl; focus (intro w' hw'; have g1 := hw'; go_simp; rfl)) | (refine wpT_sureG rfl (by go_simp) _ (fun w' hw' => by have g1 := hw'; go_simp; rfl) ?_))
  refine wpT_nil ?_
  go_wp2_with fail
  rw [c1']
  refine (check_bad _ _ _).mono ?_
  rintro e w2 ⟨rfl, rfl⟩
  exact ⟨rfl, rfl, (Upd.refl _ _).drew⟩
end Go.Proofs.YtojdgdeefhndiaaGreatDoor
namespace Go.Proofs.YtojdgdeefhndiaaGreatDoor
open Go Go.RowKit Sp

theorem i64_or_nat (a b : Nat) (ha : a < 4611686018427387904) (hb : b < 4611686018427387904) : bits .or .i64 (a : Int) (b : Int) = ((a ||| b : Nat) : Int) := by
  have hx : a ||| b < 2 ^ 62 := Nat.or_lt_two_pow (by omega) (by omega)
  have h1 : (BitVec.ofInt 64 (a : Int)).toNat = a := by
    rw [BitVec.ofInt_natCast, BitVec.toNat_ofNat]; exact Nat.mod_eq_of_lt (by omega)
  have h2 : (BitVec.ofInt 64 (b : Int)).toNat = b := by
    rw [BitVec.ofInt_natCast, BitVec.toNat_ofNat]; exact Nat.mod_eq_of_lt (by omega)
  show IntKind.i64.wrap ((BitVec.ofInt 64 (a : Int) ||| BitVec.ofInt 64 (b : Int)).toNat : Int) = _
  rw [BitVec.toNat_or, h1, h2, IntKind.wrap_i64]
  omega
theorem leNat_snoc : ∀ (l : Bytes) (c : UInt8), leNat (l ++ [c]) = leNat l + c.toNat * 256 ^ l.length
  | [], c => by simp [leNat]
  | d :: l, c => by
    rw [List.cons_append, leNat, leNat_snoc l c, leNat, List.length_cons, Nat.pow_succ]
    rw [Nat.mul_add, ← Nat.mul_assoc, Nat.mul_comm 256 c.toNat, Nat.mul_assoc, Nat.mul_comm 256 (256 ^ l.length), Nat.add_assoc]
theorem leNat_lt : ∀ (l : Bytes), leNat l < 256 ^ l.length
  | [] => by simp [leNat]
  | d :: l => by
    have := leNat_lt l
    have hd : d.toNat < 256 := d.toNat_lt
    rw [leNat, List.length_cons, Nat.pow_succ]
    omega
/-- One more byte, as the machine adds it. -/
theorem or_byte (v k : Nat) (c : UInt8) (hk : k ≤ 3) (hv : v < 256 ^ k) :
    bits BinOp.or IntKind.i64 (v : Int) (wrap64 (wrap64 (c.toNat : Int) * 2 ^ (8 * k))) = ((v + c.toNat * 256 ^ k : Nat) : Int) := by
  have hc : c.toNat < 256 := c.toNat_lt
  have e1 : wrap64 (c.toNat : Int) = c.toNat := by simp [wrap64]; omega
  have e2 : (2 ^ (8 * k) : Int) = ((256 ^ k : Nat) : Int) := by rw [Int.natCast_pow, Int.pow_mul]; rfl
  have hk3 : 256 ^ k ≤ 256 ^ 3 := Nat.pow_le_pow_right (by decide) hk
  have hm : c.toNat * 256 ^ k ≤ 255 * 256 ^ 3 := Nat.mul_le_mul (by omega) hk3
  have e3 : wrap64 (((c.toNat * 256 ^ k : Nat) : Int)) = ((c.toNat * 256 ^ k : Nat) : Int) := by
    generalize c.toNat * 256 ^ k = m at *
    have : m ≤ 4278190080 := by simpa using hm
    simp [wrap64]; omega
  rw [e1, e2, ← Int.natCast_mul, e3]
  have hv3 : v < 4611686018427387904 := by
    have : (256 : Nat) ^ 3 = 16777216 := rfl
    omega
  have hm3 : c.toNat * 256 ^ k < 4611686018427387904 := by
    have : (255 * 256 ^ 3 : Nat) = 4278190080 := rfl
    omega
  rw [i64_or_nat _ _ hv3 hm3]
  congr 1
  have e4 : c.toNat * 256 ^ k = c.toNat <<< (8 * k) := by rw [Nat.shiftLeft_eq, Nat.pow_mul]
  rw [e4, Nat.or_comm, ← Nat.shiftLeft_add_eq_or_of_lt (by rw [Nat.pow_mul]; exact hv), Nat.add_comm]
theorem take_drop_snoc {s : Bytes} {p k : Nat} (h : p + k < s.length) : (s.drop p).take (k + 1) = (s.drop p).take k ++ [s[p + k]] := by
  rw [List.take_succ_eq_append_getElem (by rw [List.length_drop]; omega), List.getElem_drop]
theorem leNat_step {s : Bytes} {p k : Nat} (h : p + k < s.length) : leNat ((s.drop p).take (k + 1)) = leNat ((s.drop p).take k) + (s[p + k]).toNat * 256 ^ k := by
  rw [take_drop_snoc h, leNat_snoc, List.length_take, List.length_drop, Nat.min_eq_left (by omega)]
theorem leNat_take_lt (s : Bytes) (k : Nat) : leNat (s.take k) < 256 ^ k := by
  refine Nat.lt_of_lt_of_le (leNat_lt _) (Nat.pow_le_pow_right (by decide) (List.length_take_le _ _))
end Go.Proofs.YtojdgdeefhndiaaGreatDoor
namespace Go.Proofs.YtojdgdeefhndiaaGreatDoor
open Go Go.RowKit Sp
set_option maxRecDepth 100000

/-- What reader.number comes to. -/
def numQ (r : N) (B T : Nat) (s : Bytes) (p n : Nat) (w : World) (en : Ending) (w' : World) : Prop :=
  match r with
  | .ok v => en = .returned (.tuple #[.int .i64 v, .int .i64 p]) ∧ Upd (fun k => k = B) w w' ∧ w'.heap[B]? = some (.cells #[.string (bs s), .int .i64 ((p + n : Nat) : Int)] T (0, 0))
  | .bad place e => en = .panicked (fail place e) ∧ Upd noBlk w w'

theorem number_first {s : Bytes} {p n most e : Nat} (hc : ¬ p + n ≤ s.length) : numS s p n most e = .bad s.length 12 := by
  unfold numS; rw [if_pos (by omega)]
theorem number_much {s : Bytes} {p n most e : Nat} (hc : p + n ≤ s.length) (h : most < leNat ((s.drop p).take n)) : numS s p n most e = .bad p e := by
  unfold numS; rw [if_neg (by omega), if_pos h]
theorem number_good {s : Bytes} {p n most e : Nat} (hc : p + n ≤ s.length) (h : ¬ most < leNat ((s.drop p).take n)) : numS s p n most e = .ok (leNat ((s.drop p).take n)) := by
  unfold numS; rw [if_neg (by omega), if_neg h]

theorem bs_get (s : Bytes) (i : Nat) (h : i < s.length) : (bs s)[i]'(by rw [bs_size]; exact h) = s[i] := by
  unfold bs
  show s.toArray[i]'(by simpa using h) = s[i]
  simp
set_option maxHeartbeats 1000000 in
theorem number_any (s : Bytes) (p n most e : Nat) (B T : Nat) (hs : s.length ≤ 4294967296) (hp : p ≤ s.length) (hn : n ≤ 4) (w : World)
    (hB : w.heap[B]? = some (.cells #[.string (bs s), .int .i64 p] T (0, 0))) :
    Calls Tryz.prog 46 #[.pointer (some ⟨B, 0, none⟩), .int .i64 n, .int .i64 most, .int .i64 e] w fun en w' => numQ (numS s p n most e) B T s p n w en w' := by
  have c0 : w.cell? ⟨B, 0, none⟩ = some (.string (bs s)) := by simp [World.cell?, hB]
  have c1 : w.cell? ⟨B, 1, none⟩ = some (.int .i64 p) := by simp [World.cell?, hB]
  by_cases hc : p + n ≤ s.length
  · have z1 : w.frozen? ⟨B, 1, none⟩ = false := by simp [World.frozen?, hB]
    have HB := Lib.hid hB
    clear hB
    have c1' : decide (((p : Nat) : Int) + n ≤ ((s.length : Nat) : Int)) = true := by simp; omega
    have hb : (bs s).size = s.length := bs_size s
    go_enter Tryz.func46, Tryz.ntmps46
    go_wp2_with fail
    refine wp_region_tree 14 (OT.sures [0, 1, 2, 3, 4, 5, 6, 7, 8, 9, 10, 11, 12, 13] .nil) (fun w' => w'.cell? ⟨B, 0, none⟩ = some (.string (bs s)) ∧ w'.cell? ⟨B, 1, none⟩ = some (.int .i64 p)) (by kernel_rfl) (by kernel_rfl) (fun c a d v w h => by cases d <;> exact h) ⟨c0, c1⟩ ?_
    simp only [OT.sures]
    iterate 14 (first | (apply wpT_sure rfl rfl; focus (intro w' hw'; have g1 := hw'.1; go_simp; rfl)) | (refine wpT_sureG rfl (by go_simp) _ (fun w' hw' => by have g1 := hw'; go_simp; rfl) ?_))
    refine wpT_nil ?_
    go_wp2_with fail
    rw [c1']
    refine (check_ok _ _ _).mono ?_
    rintro e w2 ⟨rfl, rfl⟩
    go_wp2_with fail
    go_loop [11, 12, 33] (fun v _ i => ∃ k : Nat, i = .int .i64 k ∧ k ≤ n ∧ v = .int .i64 (leNat ((s.drop p).take k))) (fun _ _ i => n - (intOf i).toNat)
    case atStart => exact ⟨0, rfl, Nat.zero_le _, by simp [leNat]⟩
    case round =>
      obtain ⟨k, rfl, hk, rfl⟩ := hrel
      have c0' : w.drew.cell? ⟨B, 0, none⟩ = some (.string (bs s)) := c0
      by_cases hlt : k < n
      · have hlt' : ((k : Nat) : Int) < ((n : Nat) : Int) := by omega
        have hor := or_byte (leNat ((s.drop p).take k)) k (s[p + k]'(by omega)) (by omega) (leNat_take_lt _ _)
        rw [← leNat_step] at hor
        have hget : (bs s)[p + k]'(by rw [hb]; omega) = s[p + k]'(by omega) := bs_get s (p + k) (by omega)
        rw [← hget] at hor
        have HO := Lib.hid hor
        clear hor hget
        generalize leNat ((s.drop p).take k) = v at *
        go_wp2_with fail
        refine ⟨⟨k + 1, by go_num, hlt, ?_⟩, by simp [intOf]; omega⟩
        exact congrArg (Value.int .i64) HO.out
      · obtain rfl : k = n := by omega
        clear hlt
        by_cases hm : most < leNat ((s.drop p).take k)
        · have hr := Lib.hid (number_much (e := e) hc hm)
          have hd : decide (leNat ((s.drop p).take k) ≤ most) = false := by simp; omega
          generalize leNat ((s.drop p).take k) = v at *
          go_wp2_with fail
          refine (check_bad _ _ _).mono ?_
          rintro e w2 ⟨rfl, rfl⟩
          refine ⟨rfl, ?_⟩
          rw [hr.out]
          exact ⟨rfl, (Upd.refl _ _).drew⟩
        · have hr := Lib.hid (number_good (e := e) hc hm)
          have hd : decide (leNat ((s.drop p).take k) ≤ most) = true := by simp; omega
          generalize leNat ((s.drop p).take k) = v at *
          have c1'' : w.drew.cell? ⟨B, 1, none⟩ = some (.int .i64 p) := c1
          have z1' : w.drew.frozen? ⟨B, 1, none⟩ = false := z1
          go_wp2_with fail
          refine (check_ok _ _ _).mono ?_
          rintro e w2 ⟨rfl, rfl⟩
          go_wp2_with fail
          go_ret2
          rw [hr.out]
          refine ⟨rfl, (((Upd.refl (fun k => k = B) _).setCell (p := ⟨B, 1, none⟩) (fun _ => rfl) _)).drew, ?_⟩
          have := heap_setCell_eq (w := w) (g := B) (i := 1) (.int .i64 ((p : Int) + k)) HB.out
          refine this.trans ?_
          simp
  · have hp := Lib.hid (number_first (most := most) (e := e) hc)
    rw [hp.out]
    exact number_short s p n most e B T hs (by omega) (by omega) hc w c0 c1
end Go.Proofs.YtojdgdeefhndiaaGreatDoor
