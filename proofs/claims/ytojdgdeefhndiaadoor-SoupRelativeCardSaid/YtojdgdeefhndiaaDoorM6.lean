/- Walks of the program of the polygon files: lines, and the iterator that it hands back. The walk of one function's own activations, where its body holds a range over a function whose rounds may panic. No condition. -/
import Derived.Test.YtojdgdeefhndiaaDoorM3
import Derived.Test.YtojdgdeefhndiaaDoorM4
import Derived.Test.YtojdgdeefhndiaaDoorM5
import Derived.LoopIn
import Derived.OwnWalkIn
import Derived.Outline
import Derived.Test.YtojdgdeefhndiaaDoorM2
namespace Go.Proofs.YtojdgdeefhndiaaDoor
open Go Go.RowKit Sp
set_option maxRecDepth 100000

set_option maxHeartbeats 400000 in
theorem lines11_any (x : Nat) (w : World) : Calls Tryd.prog 35 #[.int .i32 (x : Int)] w fun en w' => en = .returned (.bool (blankR x)) ∧ w = w' := by
  by_cases h1 : x = 32
  · subst h1
    go_enter Tryd.func35, Tryd.ntmps35
    go_wp2
    go_ret
    exact ⟨rfl, rfl⟩
  · have e1 : (((x : Nat) : Int) == 32) = false := by rw [beq_eq_false_iff_ne]; omega
    by_cases h2 : x = 9
    · subst h2
      go_enter Tryd.func35, Tryd.ntmps35
      go_wp2
      go_ret
      exact ⟨rfl, rfl⟩
    · have e2 : (((x : Nat) : Int) == 9) = false := by rw [beq_eq_false_iff_ne]; omega
      have e4 : Hid (blankR x = (((x : Nat) : Int) == 13)) := by
        show _ = _
        rw [Bool.eq_iff_iff]
        unfold blankR
        simp [h1, h2]
        omega
      clear h1 h2
      go_enter Tryd.func35, Tryd.ntmps35
      go_wp2
      go_ret
      exact ⟨by rw [e4.out]; rfl, rfl⟩
theorem lines11_pred (w : World) : PredAtRunes Tryd.prog 35 #[] blankR w := fun W x _ _ =>
  (lines11_any x W).mono fun e w' ⟨he, hw⟩ => ⟨he, 0, by rw [← hw]; rfl⟩
set_option maxHeartbeats 400000 in
theorem lines_any (s : Bytes) (w : World) : Calls Tryd.prog 22 #[.string (bs s)] w fun en w' => en = .returned (.func (.func 31) #[] #[.pointer (some ⟨w.heap.size, 0, none⟩)]) ∧ w.alloc (.cells #[.string (bs s)] 9) = w' := by
  have hmf : ∀ (fn : Fn) (first cap : Array Value) (w : World), (Instr.makeFunc fn first cap).run Tryd.prog w = .ok (.func fn first cap) w := fun _ _ _ _ => rfl
  go_enter Tryd.func22, Tryd.ntmps22
  go_wp2
  go_ret
  exact ⟨rfl, rfl⟩
/-- What a round leaves alone: all that lay below, and rows of strings. -/
structure KpS (N0 : Nat) (A B : World) : Prop where
  size : A.heap.size ≤ B.heap.size
  low : ∀ k, k < N0 → B.heap[k]? = A.heap[k]?
  str : ∀ (k : Nat) (cs : Array Value) (fr : Nat × Nat), A.heap[k]? = some (.cells cs 9 fr) → B.heap[k]? = some (.cells cs 9 fr)
theorem KpS.trans {N0 : Nat} {A B C : World} (h : KpS N0 A B) (k : KpS N0 B C) : KpS N0 A C :=
  ⟨Nat.le_trans h.size k.size, fun i hi => (k.low i hi).trans (h.low i hi), fun i cs fr hc => k.str i cs fr (h.str i cs fr hc)⟩
/-- A line with words is handed over: its number, and a slice of its words. -/
def ArL (x : Nat × List Bytes) (args : Array Value) (W : World) : Prop :=
  ∃ A, args = #[.int .i64 x.1, .slice A x.2.length x.2.length] ∧ RdW W A x.2
def preL (s : Bytes) (pre : List (Nat × List Bytes)) : Prop := ∃ rest, pre ++ rest = linesAll s
theorem ArL.keep {x : Nat × List Bytes} {args : Array Value} {A B : World} {row : Option Nat} (h : ArL x args A) (hg : A.grownBy B row) (hr : ∀ r, row = some r → ∃ o : Obj, A.heap[r]? = some o ∧ o.isCells = false) : ArL x args B := by
  obtain ⟨a, e, hw⟩ := h
  refine ⟨a, e, fun h0 => ?_⟩
  obtain ⟨b, off, e1, hc⟩ := hw h0
  refine ⟨b, off, e1, fun j hj => ?_⟩
  have := hc j hj
  refine hg.cell this (fun e => ?_)
  obtain ⟨o, ho, hoc⟩ := hr b e.symm
  obtain ⟨cs, T, fr, h1⟩ : ∃ cs T fr, A.heap[b]? = some (.cells cs T fr) := by
    unfold World.cell? at this
    cases hb : A.heap[b]? with
    | none => rw [hb] at this; simp at this
    | some o' =>
      rw [hb] at this
      cases o' <;> first | exact ⟨_, _, _, rfl⟩ | (simp at this)
  rw [h1] at ho
  cases ho
  cases hoc
theorem split_values (s : Bytes) : (Lib.splitB nl 0 (Lib.countB (bs s) nl) (bs s)).map Value.string = (linesOf s).map (fun l => Value.string (bs l)) := by
  have h := split_lines (bs s).size (bs s) (Nat.le_refl _)
  rw [bs_data] at h
  rw [← h, List.map_map]
  apply List.map_congr_left
  intro x _
  show Value.string x = Value.string (bs x.data.toList)
  rw [bs_of]
theorem split_len : ∀ (n : Nat) (s : ByteArray), s.size ≤ n → Lib.countB s nl + 1 = (Lib.splitB nl 0 (Lib.countB s nl) s).length
  | n, s, hn => by
    rcases index_split 10 s.data.toList with ⟨h1, h2⟩ | ⟨i, h1, h2, h3, h4⟩
    · have h5 : Lib.indexB s nl = -1 := h1
      rw [Lib.countB_miss s nl h5, Lib.splitB_miss nl 0 0 s h5]; rfl
    · have h5 : Lib.indexB s nl = i := h1
      have h6 := Lib.countB_hit s nl i (by decide) h5
      have hsz : s.data.toList.length = s.size := by simp
      rw [h6, Nat.add_comm 1, Lib.splitB_hit nl 0 _ s i h5, List.length_cons]
      cases n with
      | zero => omega
      | succ n =>
        have hnl : nl.size = 1 := rfl
        rw [split_len n (s.extract (i + nl.size) s.size) (by rw [hnl, ByteArray.size_extract]; omega)]
theorem split_count (s : Bytes) : Lib.countB (bs s) nl + 1 = (linesOf s).length := by
  have h := split_lines (bs s).size (bs s) (Nat.le_refl _)
  rw [bs_data] at h
  rw [← h, List.length_map]
  exact split_len (bs s).size (bs s) (Nat.le_refl _)

theorem RdW.ofOwn {w : World} {base A n cap : Nat} {ws : List Bytes} (h : w.ownsRow base 9 1 (.slice (some ⟨A, 0, none⟩) n cap) n (ws.map (fun x => Value.string (bs x)))) : RdW w (some ⟨A, 0, none⟩) ws := by
  intro _
  refine ⟨A, 0, rfl, fun j hj => ?_⟩
  have hn : ws.length = n := by have := h.1; simpa using this
  have := h.cellAt j (by omega)
  rw [Nat.zero_add, this]
  simp [hj]
theorem fields_any (l : Bytes) (hl : l.length ≤ 4294967296) (w : World) : Calls Tryd.prog 34 #[.string (bs (Sp.ahead l)), .func (.func 35) #[] #[]] w fun e w' =>
    ∃ A, e = .returned (.slice (some ⟨A, 0, none⟩) (wordsOf l).length (wordsOf l).length) ∧ RdW w' (some ⟨A, 0, none⟩) (wordsOf l) ∧ Upd noBlk w w' := by
  refine (Tryd.strings_FieldsFunc_runes 35 #[] (enters_of Tryd.func35 (by kernel_rfl) rfl) blankR (bs (Sp.ahead l)) w (by rw [bs_size]; have := ahead_len l; omega) (lines11_pred w)).mono ?_
  have h := goFields_eq (bs (Sp.ahead l))
  rw [bs_data] at h
  have h1 : (Lib.goFieldsP blankR (bs (Sp.ahead l))).length = (wordsOf l).length := by
    unfold wordsOf; rw [← h, List.length_map]
  have h2 : (Lib.goFieldsP blankR (bs (Sp.ahead l))).map Value.string = (wordsOf l).map (fun x => Value.string (bs x)) := by
    unfold wordsOf; rw [← h, List.map_map]
    apply List.map_congr_left
    intro x _
    show Value.string x = Value.string (bs x.data.toList)
    rw [bs_of]
  rw [h1, h2]
  rintro e w' ⟨A, he, _, ho, hb⟩
  exact ⟨A, he, RdW.ofOwn ho, Upd.ofBelow hb⟩
theorem grown_of_upd {w w' : World} (h : Upd noBlk w w') : w.grownBy w' none := ⟨h.os, h.tape, h.output, h.size, fun k hk _ => h.block k hk id⟩

set_option maxHeartbeats 2000000 in
theorem lines1_seq (s : Bytes) (hs : s.length < 4294967281) (n N0 Bx : Nat) (w0 w : World) (hw0 : w0.ShapedOpen Tryd.prog) (hN : w0.heap.size = N0) (hlow : ∀ k, k < N0 → w.heap[k]? = w0.heap[k]?) (hNw : N0 ≤ w.heap.size)
    (hbx : w.heap[Bx]? = some (.cells #[.string (bs s)] 9 (0, 0))) :
    SeqP Fence.wide n Tryd.prog 31 #[.pointer (some ⟨Bx, 0, none⟩)] ArL (KpS N0) (preL s) (fun xs => xs = linesAll s) (preL s) w := by
  intro l J Jx Jp W hW hJ hY h0
  have HW := Lib.hid hW
  have hbW : W.cell? ⟨Bx, 0, none⟩ = some (.string (bs s)) := by simp [World.cell?, (hW.block Bx (lt_of_heap hbx)).trans hbx]
  have hshW : W.ShapedOpen Tryd.prog := shaped_same hw0 (fun k hk => (hW.block k (by omega)).trans (hlow k (by omega)))
  refine callsIn_of_wp Tryd.func31 rfl trivial ?_ rfl
  simp only [Tryd.ntmps31, List.size_toArray, List.length_cons, List.length_nil, Nat.reduceAdd, Nat.reduceSub, Array.replicate_succ, Array.replicate_zero, List.push_toArray, List.append_toArray, List.nil_append, List.cons_append]
  have hsp : Calls Tryd.prog 32 #[.string (bs s), .string ⟨#[10]⟩] W fun e w' => e = .returned (.slice (some ⟨W.heap.size, 0, none⟩) (linesOf s).length (linesOf s).length) ∧ w' = W.alloc (.cells (((linesOf s).map (fun l => Value.string (bs l))).toArray) 9) := by
    have := Tryd.strings_Split_shaped (bs s) nl W hshW (by rw [bs_size]; exact hs) (by decide)
    rw [split_values, split_count] at this
    exact this
  have HSP := Lib.hid hsp
  clear hsp
  gi_wp2_with fail
  refine ⟨trivial, fun h => (by simp [Fence.wide] at h), (callsIn_wide.2 HSP.out).mono ?_⟩
  rintro e w1 ⟨rfl, rfl⟩
  gi_wp2_with fail
  obtain ⟨ls, hls⟩ : ∃ ls, ls = linesOf s := ⟨_, rfl⟩
  have HLS := Lib.hid hls
  rw [← hls]
  have hll : ls.length ≤ s.length + 1 := by rw [hls]; exact (linesOf_len s).1
  have hlm : Hid (∀ x, x ∈ ls → x.length ≤ s.length) := by show ∀ x, _; rw [hls]; exact (linesOf_len s).2
  have hNW : N0 ≤ W.heap.size := by have := hW.size; omega
  have HJ := Lib.hid hJ
  have HY := Lib.hid hY
  have hL1 : Hid (∀ k, k < N0 → (W.alloc (.cells ((ls.map (fun l => Value.string (bs l))).toArray) 9)).heap[k]? = w0.heap[k]?) := fun k hk => ((heap_alloc_old W _ (by have := hW.size; omega)).trans (hW.block k (by omega))).trans (hlow k (by omega))
  have hS1 : Hid ((W.alloc (.cells ((ls.map (fun l => Value.string (bs l))).toArray) 9)).heap[W.heap.size]? = some (.cells ((ls.map (fun l => Value.string (bs l))).toArray) 9)) := heap_alloc_new _ _
  have hJ1 : Hid (J [] (W.alloc (.cells ((ls.map (fun l => Value.string (bs l))).toArray) 9))) := hJ _ _ _ h0 (World.grownBy_alloc _ _ _)
  have HSH := Lib.hid hw0
  clear hls HSP hbW hshW hw0 hbx hlow hW hJ hY h0 HW
  gi_loopw [3, 4, 5, 9] (fun _ _ _ i wr => ∃ k : Nat, i = .int .i64 k ∧ k ≤ ls.length ∧ J (numbered 1 (ls.take k)) wr ∧ (∀ i, i < N0 → wr.heap[i]? = w0.heap[i]?) ∧ wr.heap[W.heap.size]? = some (.cells ((ls.map (fun l => Value.string (bs l))).toArray) 9)) (fun _ _ _ i _ => ls.length - (intOf i).toNat)
  case atStart => exact ⟨0, rfl, Nat.zero_le _, hJ1.out, hL1.out, hS1.out⟩
  case round =>
    obtain ⟨k, rfl, hk, hj, hlo, hrow⟩ := hrel
    have HJK := Lib.hid hj
    have HLO := Lib.hid hlo
    have HROW := Lib.hid hrow
    clear hj hlo hrow hJ1 hL1 hS1
    by_cases hlt : k < ls.length
    · have hlt' : ((k : Nat) : Int) < ((ls.length : Nat) : Int) := by omega
      have c0 : wr.cell? ⟨W.heap.size, k, none⟩ = some (.string (bs ls[k])) := by simp [World.cell?, HROW.out, hlt]
      have hlk : Hid (ls[k].length ≤ s.length) := hlm.out _ (List.getElem_mem hlt)
      have hcut : ∀ w' : World, w'.ShapedOpen Tryd.prog → Calls Tryd.prog 33 #[.string (bs ls[k]), .string ⟨#[35]⟩] w' fun e w'' => (∃ b1 b2, e = .returned (.tuple #[.string (bs (Sp.ahead ls[k])), b1, b2])) ∧ ∃ n, w'' = w'.drewN n := fun w' hw' => by
        have := Tryd.strings_Cut_shaped (bs ls[k]) ⟨#[35]⟩ w' hw' (by rw [bs_size]; have := hlk.out; omega)
        rw [bs_data, show (⟨#[35]⟩ : ByteArray).data.toList = [35] from rfl, cut_ahead] at this
        exact this.mono fun e w'' ⟨he, hw⟩ => ⟨⟨_, _, he⟩, hw⟩
      have HCUT := Lib.hid hcut
      clear hcut
      gi_wp2_with fail
      refine ⟨trivial, fun h => (by simp [Fence.wide] at h), (callsIn_wide.2 (HCUT.out _ (shaped_same HSH.out (fun i hi => HLO.out i (by omega))))).mono ?_⟩
      rintro e w2 ⟨⟨b1, b2, rfl⟩, m, rfl⟩
      have HFF := Lib.hid (fields_any ls[k] (by have := hlk.out; omega) (wr.drewN m))
      gi_wp2_with fail
      refine ⟨trivial, fun h => (by simp [Fence.wide] at h), (callsIn_wide.2 HFF.out).mono ?_⟩
      rintro e w3 ⟨A, rfl, hrd, u3⟩
      have hu3 : Upd noBlk wr w3 := (Upd.ofDrewN wr m).trans u3
      have HJ3 : Hid (J (numbered 1 (ls.take k)) w3) := HJ.out _ _ _ HJK.out (grown_of_upd hu3)
      have HL3 : Hid (∀ i, i < N0 → w3.heap[i]? = w0.heap[i]?) := fun i hi => (hu3.block i (by have := lt_of_heap HROW.out; omega) id).trans (HLO.out i hi)
      have HR3 : Hid (w3.heap[W.heap.size]? = some (.cells ((ls.map (fun l => Value.string (bs l))).toArray) 9)) := hu3.heap HROW.out id
      have HRD := Lib.hid hrd
      have hnt := Lib.hid (numbered_take hlt)
      have hpre := Lib.hid (numbered_pre ls (k + 1))
      clear hrd u3 hu3 HJK HLO HROW HFF c0 HCUT
      generalize ls[k] = lk at *
      by_cases hw : wordsOf lk = []
      · have h0 : (wordsOf lk).length = 0 := by rw [hw]; rfl
        have hn0 : Hid (numbered 1 (ls.take (k + 1)) = numbered 1 (ls.take k)) := by show _ = _; rw [hnt.out, if_pos hw]; simp
        rw [h0]
        clear hw h0
        gi_wp2_with fail
        refine ⟨fun _ _ => trivial, ?_⟩
        gi_wp2_with fail
        refine ⟨⟨k + 1, by go_num, hlt, by rw [hn0.out]; exact HJ3.out, HL3.out, HR3.out⟩, by simp [intOf]; omega⟩
      · have h0 : 0 < (wordsOf lk).length := List.length_pos_iff.2 hw
        have hn0 : Hid (numbered 1 (ls.take (k + 1)) = numbered 1 (ls.take k) ++ [(k + 1, wordsOf lk)]) := by show _ = _; rw [hnt.out, if_neg hw]
        have hok : preL s (numbered 1 (ls.take k) ++ [(k + 1, wordsOf lk)]) := by
          obtain ⟨rest, hr⟩ := hpre.out
          exact ⟨rest, by rw [← hn0.out, hr, HLS.out]; rfl⟩
        obtain ⟨fn, tmps, assign, body, hy, hR⟩ := HY.out (numbered 1 (ls.take k)) (k + 1, wordsOf lk) #[.int .i64 ((k : Int) + 1), .slice (some ⟨A, 0, none⟩) (wordsOf lk).length (wordsOf lk).length] w3 HJ3.out ⟨_, rfl, HRD.out⟩ hok
        have HRR := Lib.hid hR
        have HOK := Lib.hid hok
        clear hw hok hR
        generalize hwl : wordsOf lk = wl at *
        gi_wp2_with fail
        refine ⟨fun h => (by simp [Fence.wide] at h), HRR.out.mono ?_⟩
        rintro e w4 (⟨rfl, hj4, hk4⟩ | ⟨rfl, hj4⟩ | ⟨chain, rfl, hj4⟩)
        · have HJ4 := Lib.hid hj4
          have HL4 : Hid (∀ i, i < N0 → w4.heap[i]? = w0.heap[i]?) := fun i hi => (hk4.low i hi).trans (HL3.out i hi)
          have HR4 : Hid (w4.heap[W.heap.size]? = some (.cells ((ls.map (fun l => Value.string (bs l))).toArray) 9)) := hk4.str _ _ _ HR3.out
          clear hj4 hk4
          gi_wp2_with fail
          refine ⟨⟨k + 1, by go_num, hlt, by rw [hn0.out]; exact HJ4.out, HL4.out, HR4.out⟩, by simp [intOf]; omega⟩
        · have HJ4 := Lib.hid hj4
          clear hj4
          gi_wp2_with fail
          refine bodyPost_ret (results_none rfl _ _ _) rfl ?_
          exact .inl ⟨_, rfl, .inr ⟨_, HOK.out, HJ4.out⟩⟩
        · exact ⟨rfl, .inr ⟨chain, rfl, hj4⟩⟩
    · have hw : ls.take k = ls := List.take_of_length_le (by omega)
      have hlt' : ¬ ((k : Nat) : Int) < ((ls.length : Nat) : Int) := by omega
      have HJ5 : Hid (J (linesAll s) wr) := by
        have := HJK.out
        rw [hw, HLS.out] at this
        exact this
      clear hw
      gi_wp2_with fail
      go_end0
      exact .inl ⟨⟨_, rfl⟩, .inl HJ5.out⟩
end Go.Proofs.YtojdgdeefhndiaaDoor
namespace Go.Proofs.YtojdgdeefhndiaaDoor
open Go Go.RowKit
variable {P : Program} {Q : Exit → Act → World → Prop} {a : Act} {w : World} {n : Nat} {f : Nat}

/-- What a piece of code does in every activation of function f outside of rounds. -/
def wpAt (f : Nat) (P : Program) (c : Code) (Q : Exit → Act → World → Prop) (a : Act) (w : World) : Prop :=
  ∀ (b : Frame) (k : List Item) (cs : List Frame), b.roundOf = none → b.fn = f →
    ∃ e a' w', Q e a' w' ∧ ArrivesIn (Machine.fenced P Fence.wide) P (lone (b.atR a (.code c :: k)) cs w) b k cs e a' w'
theorem wpAt_of {c : Code} (h : c.wpIn Fence.wide n P Q a w) : wpAt f P c Q a w := fun b k cs hro _ => h b k cs hro trivial (room_wide _)
theorem wide_calm (fr : Frame) (cs : List Frame) (w : World) : (lone fr cs w).fenced P Fence.wide := fenced_wide P _
theorem wpAt_seq {x y : Code} (h : wpAt f P x (Exit.then (wpAt f P y Q) Q) a w) : wpAt f P (.seq x y) Q a w := by
  intro b k cs hro hb
  obtain ⟨e, a1, w1, hq, harr⟩ := h b (.code y :: k) cs hro hb
  have s0 : StepsIn (Machine.fenced P Fence.wide) P (lone (b.atR a (.code (.seq x y) :: k)) cs w) (lone (b.atR a (.code x :: .code y :: k)) cs w) := .one (wide_calm _ _ _) stepR_seq
  cases e with
  | normal =>
    obtain ⟨e2, a2, w2, hq2, harr2⟩ := hq b k cs hro hb
    exact ⟨e2, a2, w2, hq2, .of_steps (StepsIn.trans s0 harr) harr2⟩
  | exit id => exact ⟨_, a1, w1, hq, .of_steps s0 (.pass (x := .code y) rfl (fun _ _ => .inl (by simp)) harr)⟩
  | goto l => exact ⟨_, a1, w1, hq, .of_steps s0 (.pass (x := .code y) rfl (fun _ _ => .inl (by simp)) harr)⟩
  | ret => exact ⟨_, a1, w1, hq, .of_steps s0 (.pass (x := .code y) rfl (fun _ _ => .inl (by simp)) harr)⟩
  | panic ch => exact ⟨_, a1, w1, hq, .of_steps s0 (.pass (x := .code y) rfl (fun _ _ => .inl (by simp)) harr)⟩
  | outgrown => exact ⟨_, a1, w1, hq, .of_steps s0 (.pass (x := .code y) rfl (fun _ _ => .inl (by simp)) harr)⟩
theorem wpAt_block {id : Nat} {c : Code} (h : wpAt f P c (Exit.inBlock id Q) a w) : wpAt f P (.block id c) Q a w := by
  intro b k cs hro hb
  obtain ⟨e, a1, w1, hq, harr⟩ := h b (.inBlock id :: k) cs hro hb
  have s0 : StepsIn (Machine.fenced P Fence.wide) P (lone (b.atR a (.code (.block id c) :: k)) cs w) (lone (b.atR a (.code c :: .inBlock id :: k)) cs w) := .one (wide_calm _ _ _) stepR_block
  cases e with
  | normal => exact ⟨.normal, a1, w1, hq, StepsIn.trans s0 (StepsIn.trans harr (.one (wide_calm _ _ _) stepR_inBlock))⟩
  | exit id' =>
    by_cases hid : id' = id
    · simp only [Exit.inBlock, hid, if_true] at hq
      exact ⟨.normal, a1, w1, hq, StepsIn.trans s0 (harr.1 k (by simp [exitTo, hid]))⟩
    · simp only [Exit.inBlock, hid, if_false] at hq
      have this : (id == id') = false := by simp; exact fun h => hid h.symm
      have hx : exitTo id' (.inBlock id :: k) = exitTo id' k := by simp [exitTo, this]
      exact ⟨.exit id', a1, w1, hq, fun k' hk => StepsIn.trans s0 (harr.1 k' (by rw [hx]; exact hk)),
        fun hr' hk => let ⟨k1, h1, h2⟩ := harr.2 hr' (by rw [hx]; exact hk); ⟨k1, h1, StepsIn.trans s0 h2⟩⟩
  | goto l =>
    have hx : gotoIn l (.inBlock id :: k) = gotoIn l k := by simp [gotoIn]
    exact ⟨_, a1, w1, hq, fun k' hk => StepsIn.trans s0 (harr.1 k' (by rw [hx]; exact hk)),
      fun hr' hk => let ⟨k1, h1, h2⟩ := harr.2 hr' (by rw [hx]; exact hk); ⟨k1, h1, StepsIn.trans s0 h2⟩⟩
  | ret => exact ⟨_, a1, w1, hq, .of_steps s0 harr⟩
  | panic ch => exact ⟨_, a1, w1, hq, .of_steps s0 harr⟩
  | outgrown => exact ⟨_, a1, w1, hq, .of_steps s0 harr⟩
theorem wpAt_range {g : Operand} {ps : Array Tmp} {assign body : Code}
    (h : ∃ (l : Nat) (mark : List Deferred) (w₁ : World) (d : Deferred) (w₁' : World) (gf : FuncId) (args : Array Value) (w₂ : World),
      (Instr.enterLoop f a.tmps ps assign body none).run P w = .ok (l, mark) w₁ ∧
      (resolve a.eval (rangeCall g l) 0).run P w₁ = .ok d w₁' ∧
      (∀ f', Target.leads P w₁' d.target d.args = some f' → Fence.wide.fn f') ∧
      (invoke d.target d.args).run P w₁' = .ok (.enter gf args) w₂ ∧
      (Fence.wide.depth.isSome = true → 1 ≤ n) ∧
      CallsIn Fence.wide (n - 1) P gf args w₂ (rangePost Fence.wide n P l Q { a with defers := mark ++ a.defers })) :
    wpAt f P (.rangeFunc g ps assign body) Q a w := by
  intro b k cs hro hb
  obtain ⟨l, mark, w₁, d, w₁', gf, args, w₂, he, hres, _, hinv, _, _, hcall⟩ := h
  subst hb
  rw [← hro] at he
  have henter := stepR_rangeFunc (P := P) (b := b) (a := a) (k := k) (cs := cs) (w := w) he hres hinv
  obtain ⟨e, w₃, fr, hR, hsteps, _, hleave⟩ := hcall (b.atR { a with defers := mark ++ a.defers } (.inRangeFunc l :: k) :: cs) (room_wide _)
  have s0 := StepsIn.one (I := Machine.fenced P Fence.wide) (wide_calm _ _ _) henter
  cases e with
  | outgrown =>
    obtain ⟨a₀, w₀, hq⟩ := hR
    exact ⟨.outgrown, a₀, w₀, hq, .inr (Outgrown.of_steps (.one henter) hsteps)⟩
  | returned v =>
    obtain ⟨jump, w₄, hend, hj⟩ := hR
    have s1 : StepsIn (Machine.fenced P Fence.wide) P (lone (b.atR a (.code (.rangeFunc g ps assign body) :: k)) cs w) (lone (b.atR { a with defers := mark ++ a.defers } ((jump.map Item.code).toList ++ k)) cs w₄) := by
      refine StepsIn.trans s0 (StepsIn.trans hsteps (.head (wide_calm _ _ _) ?_ (.one (wide_calm _ _ _) (stepR_endRangeFunc hend))))
      rw [← finish_atR_inRangeFunc l v]; exact step_leave_returned hleave
    cases jump with
    | none => exact ⟨.normal, _, w₄, hj, s1⟩
    | some c =>
      obtain ⟨e', a'', w₅, hq, harr⟩ := hj b k cs hro trivial (room_wide _)
      exact ⟨e', a'', w₅, hq, .of_steps s1 harr⟩
  | panicked chain =>
    refine ⟨.panic chain, _, w₃, hR, .inRangeFunc l :: k, StepsIn.trans s0 (StepsIn.trans hsteps (.one (wide_calm _ _ _) ?_))⟩
    rw [← Frame.raise_atR]; exact step_leave_panicked hleave
/-- A function's contract out of the walk of its own activations. -/
theorem calls_of_wpAt {fn : Func} {c : Code} {args : Array Value} {R : Ending → World → Prop} (hf : P.funcs[f]? = some fn) (hb : fn.body = some c)
    (h : wpAt f P c (bodyPostM Fence.wide n P fn R) { tmps := args ++ Array.replicate (fn.ntmps - args.size) undef, defers := [] } w) : Calls P f args w R := by
  refine (callsIn_wide (n := n)).1 ⟨trivial, fun cs hr => ?_⟩
  let b : Frame := { (default : Frame) with fn := f, kind := .normal, roundOf := none }
  have henter : Frame.enter P f args .normal = b.atR { tmps := args ++ Array.replicate (fn.ntmps - args.size) undef, defers := [] } [.code c] := by
    simp [Frame.enter, Frame.atR, hf, hb, b]
  obtain ⟨e, a', w', hq, harr⟩ := h b [] cs rfl rfl
  rw [← henter] at harr
  cases e with
  | normal =>
    obtain ⟨e', w'', fr', hR, hs, hfn, hl⟩ := leaves_stepsInM a'.defers .returning w' { b.atR a' [] with mode := .returning } cs rfl rfl rfl hf rfl trivial hr hq
    exact ⟨e', w'', fr', hR, ComesIn.of_steps (StepsIn.trans harr (.one (wide_calm _ _ _) (stepR_end rfl))) hs, hfn, hl⟩
  | ret =>
    obtain ⟨todo, hs₀⟩ := harr.1 rfl
    obtain ⟨e', w'', fr', hR, hs, hfn, hl⟩ := leaves_stepsInM a'.defers .returning w' { b.atR a' todo with mode := .returning } cs rfl rfl rfl hf rfl trivial hr hq
    exact ⟨e', w'', fr', hR, ComesIn.of_steps hs₀ hs, hfn, hl⟩
  | panic chain =>
    obtain ⟨todo, hs₀⟩ := harr
    obtain ⟨e', w'', fr', hR, hs, hfn, hl⟩ := leaves_stepsInM a'.defers (.panicking chain) w' { b.atR a' todo with mode := .panicking chain } cs rfl rfl rfl hf rfl trivial hr hq
    exact ⟨e', w'', fr', hR, ComesIn.of_steps hs₀ hs, hfn, hl⟩
  | exit id => exact hq.elim
  | goto l => exact hq.elim
  | outgrown => exact ⟨.outgrown, w', b, hq, harr.resolve_left (by simp [b]), rfl, trivial⟩
theorem upd_putObj0 (W : World) (D : Nat) (o : Obj) : Upd (fun k => k = D) W (W.putObj D o) := ⟨rfl, rfl, rfl, by simp, fun _ _ h => World.putObj_heap_other h⟩
/-- The end of a function behind a range: a panic is told apart from the frame. -/
def doneQ (D : Nat) (P : Program) (fn : Func) (R : Ending → World → Prop) : Exit → Act → World → Prop
  | .panic chain, a, W => a.defers = [{ target := .collected D, args := #[] }] ∧ W.heap[D]? = some (.deferred (some [])) ∧ R (.panicked chain) (W.putObj D (.deferred none))
  | e, a, W => bodyPostM Fence.wide 5 P fn R e a W
theorem doneQ_ret {D : Nat} {P : Program} {fn : Func} {R : Ending → World → Prop} {a : Act} {W : World} (h : bodyPostM Fence.wide 5 P fn R .ret a W) : doneQ D P fn R .ret a W := h
theorem doneQ_post {D : Nat} {P : Program} {fn : Func} {R : Ending → World → Prop} {e : Exit} {a : Act} {W : World} (h : doneQ D P fn R e a W) : bodyPostM Fence.wide 5 P fn R e a W := by
  cases e with
  | panic chain =>
    obtain ⟨h1, h2, h3⟩ := h
    unfold bodyPostM
    simp only [h1]
    exact ⟨by simp, .inl ⟨_, _, rfl, run_takeDeferred h2, h3⟩⟩
  | _ => exact h
/-- What the book-keeping of a range leaves alone. -/
theorem grown_upd {F : Nat → Prop} {w0 X Y : World} {B : Nat} {row : Option Nat} (h : Upd F w0 X) (hB : w0.heap.size ≤ B) (hg : X.grownBy Y row) (hr : ∀ r, row = some r → B ≤ r ∧ ∃ o : Obj, X.heap[r]? = some o ∧ o.isCells = false) : Upd F w0 Y :=
  h.grown hg (fun k hk hl => by have := (hr k hk).1; omega)
theorem grown_cells {X Y : World} {B k : Nat} {row : Option Nat} {cs : Array Value} {T : TypeId} {fr : Nat × Nat} (h : X.heap[k]? = some (.cells cs T fr)) (hg : X.grownBy Y row) (hr : ∀ r, row = some r → B ≤ r ∧ ∃ o : Obj, X.heap[r]? = some o ∧ o.isCells = false) : Y.heap[k]? = some (.cells cs T fr) :=
  (hg.block k (lt_of_heap h) (fun e => by
    obtain ⟨_, o, ho, hc⟩ := hr k e.symm
    rw [h] at ho; cases ho; cases hc)).trans h
theorem grown_other {X Y : World} {B : Nat} {row : Option Nat} (hg : X.grownBy Y row) (hr : ∀ r, row = some r → B ≤ r ∧ ∃ o : Obj, X.heap[r]? = some o ∧ o.isCells = false) : ∀ {g : Nat} {cs : Array Value} {T : TypeId} {fr : Nat × Nat}, X.heap[g]? = some (.cells cs T fr) → Y.heap[g]? = some (.cells cs T fr) :=
  fun h => grown_cells h hg hr
end Go.Proofs.YtojdgdeefhndiaaDoor
