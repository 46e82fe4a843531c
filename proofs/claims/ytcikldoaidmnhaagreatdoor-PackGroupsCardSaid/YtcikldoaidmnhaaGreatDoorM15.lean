/- Walks of the coder: the reader's Bit. Walks of the coder: NewReader. Walks of the reference's coder: Mod, split, take. Walks of the reference's coder: the reader's Bit. -/
import Derived.Test.YtcikldoaidmnhaaGreatDoorM14
namespace Go.Proofs.YtcikldoaidmnhaaGreatDoor
open Go Go.RowKit Pc
set_option maxRecDepth 100000

def nx (left : List Nat) (off : Nat) : List Nat × Nat :=
  match left with
  | [] => ([], off * 256 % 4294967296)
  | x :: r => (r, (off * 256 + x) % 4294967296)
theorem next_eq (d : D) : d.next = ⟨d.m, (nx d.left d.off).1, (nx d.left d.off).2⟩ := by
  unfold D.next nx; split <;> rename_i h <;> simp [h]

theorem or_byte (off x : Nat) (hx : x < 256) : bits .or .u32 (((off : Nat) : Int) * 256 % 4294967296) ((x : Nat) : Int) = (((off * 256 + x) % 4294967296 : Nat) : Int) := by
  have e : ((off : Nat) : Int) * 256 % 4294967296 = ((off * 256 % 4294967296 : Nat) : Int) := by omega
  rw [e, u32_or_nat _ _ (by omega) (by omega), nat_join 8 _ _ (by omega) (by omega)]
  congr 1
  omega

set_option maxHeartbeats 1000000 in
theorem next_any (b : Nat) (c0 c1 : Value) (T : TypeId) (left : List Nat) (off : Nat) (hoff : off < 4294967296) (hl : ∀ d, d ∈ left → d < 256) (w : World)
    (hb : w.heap[b]? = some (.cells #[c0, c1, .string (str left), .int .u32 off] T (0, 0))) :
    Calls Tryz.prog 176 #[.pointer (some ⟨b, 0, none⟩)] w fun e w' => e = .returned (.tuple #[]) ∧
      w'.heap[b]? = some (.cells #[c0, c1, .string (str (nx left off).1), .int .u32 ((nx left off).2 : Nat)] T (0, 0)) ∧ Upd (· = b) w w' := by
  have h2 : w.cell? ⟨b, 2, none⟩ = some (.string (str left)) := by rw [cell_of_row w b 2 _ _ _ hb]; rfl
  have h3 : w.cell? ⟨b, 3, none⟩ = some (.int .u32 off) := by rw [cell_of_row w b 3 _ _ _ hb]; rfl
  have f2 := frozen_of_row w b 2 _ _ hb
  have f3 := frozen_of_row w b 3 _ _ hb
  have ho : ((off : Nat) : Int) < 4294967296 := by omega
  rcases left with _ | ⟨x, r⟩
  · have hs : (str []).toList = [] := str_toList _
    clear hoff hl
    go_enter Tryz.func176, Tryz.ntmps176
    go_wp2
    go_end0
    have hor : bits .or .u32 (((off : Nat) : Int) * 256 % 4294967296) 0 = ((nx [] off).2 : Nat) := (or_byte off 0 (by omega)).trans rfl
    rw [hor]
    exact ⟨rfl, heap_setCell_eq (i := 3) _ hb, (Upd.refl (· = b) w).setCell (fun _ => rfl) _⟩
  · have hs : (str (x :: r)).toList = UInt8.ofNat x :: r.map UInt8.ofNat := str_toList _
    have hx : ((x : Nat) : Int) < 256 := by have := hl x (by simp); omega
    have hz : (str (x :: r)).size = r.length + 1 := by rw [str_size]; simp
    have hi : ∀ (h : 0 < (str (x :: r)).size), ((str (x :: r))[0]'h).toNat = x := fun h => str_get (by simp) hl h
    clear hoff hl
    go_enter Tryz.func176, Tryz.ntmps176
    go_wp2
    go_region
    go_wp2
    go_end0
    have hor := or_byte off x (by omega)
    have hex : (str (x :: r)).extract 1 (r.length + 1) = str r := by rw [str_extract]; simp
    simp only [hor, hex]
    exact ⟨by trivial, heap_setCell_eq (w := w.drew.setCell ⟨b, 2, none⟩ _) (i := 3) _ (heap_setCell_eq (w := w.drew) (i := 2) _ hb), ((((Upd.refl (· = b) w).drew).setCell (fun _ => rfl) _).setCell (fun _ => rfl) _)⟩

/-- A reader behind its first bit. -/
structure RLive (w : World) (b wb : Nat) (d : D) : Prop where
  wf : d.Wf
  blk : w.heap[b]? = some (.cells #[.slice (some ⟨wb, 0, none⟩) 4096 4096, .int .u32 d.m.size, .string (str d.left), .int .u32 d.off] 227 (0, 0))
  wt : Wts w wb d.m.p
  n1 : b ≠ wb
def rFoot (b wb : Nat) : Nat → Prop := fun k => k = b ∨ k = wb
/-- A reader, at its code's beginning or not; its blocks. -/
def RRep (w : World) (b : Nat) (d : D) (F : Nat → Prop) : Prop :=
  (∃ code, (∀ x, x ∈ code → x < 256) ∧ d = D.ofCode code ∧ w.heap[b]? = some (.cells #[.slice none 0 0, .int .u32 0, .string (str code), .int .u32 0] 227 (0, 0)) ∧ F = (· = b)) ∨ ∃ wb, RLive w b wb d ∧ F = rFoot b wb

theorem RLive.keep {w w' : World} {b wb : Nat} {d : D} (h : RLive w b wb d) (hk : ∀ k, rFoot b wb k → w'.heap[k]? = w.heap[k]?) : RLive w' b wb d :=
  ⟨h.wf, (hk b (.inl rfl)).trans h.blk, h.wt.keep (hk wb (.inr rfl)), h.n1⟩
theorem RRep.keep {w w' : World} {b : Nat} {d : D} {F : Nat → Prop} (h : RRep w b d F) (hk : ∀ k, F k → w'.heap[k]? = w.heap[k]?) : RRep w' b d F := by
  rcases h with ⟨code, h0, h1, h2, rfl⟩ | ⟨wb, h1, rfl⟩
  · exact .inl ⟨code, h0, h1, (hk b rfl).trans h2, rfl⟩
  · exact .inr ⟨wb, h1.keep hk, rfl⟩
theorem RLive.lt {w : World} {b wb : Nat} {d : D} (h : RLive w b wb d) : ∀ k, rFoot b wb k → k < w.heap.size := by
  rintro k (rfl | rfl)
  · exact lt_of_heap h.blk
  · exact h.wt.lt
theorem RRep.lt {w : World} {b : Nat} {d : D} {F : Nat → Prop} (h : RRep w b d F) : ∀ k, F k → k < w.heap.size := by
  rcases h with ⟨code, h0, h1, h2, rfl⟩ | ⟨wb, h1, rfl⟩
  · intro k hk; subst hk; exact lt_of_heap h2
  · exact h1.lt
theorem RRep.upd {w w' : World} {b : Nat} {d : D} {F G : Nat → Prop} (h : RRep w b d F) (hu : Upd G w w') (hd : ∀ k, F k → ¬ G k) : RRep w' b d F :=
  h.keep fun k hk => hu.block k (h.lt k hk) (hd k hk)
theorem RRep.wf {w : World} {b : Nat} {d : D} {F : Nat → Prop} (h : RRep w b d F) : d.Wf := by
  rcases h with ⟨code, h0, h1, h2, rfl⟩ | ⟨wb, h1, rfl⟩
  · rw [h1]; exact D.ofCode_wf h0
  · exact h1.wf

/-- next, at a reader. -/
theorem next_R (b wb : Nat) (d : D) (w : World) (h : RLive w b wb d) :
    Calls Tryz.prog 176 #[.pointer (some ⟨b, 0, none⟩)] w fun e w' => e = .returned (.tuple #[]) ∧ RLive w' b wb d.next ∧ Upd (· = b) w w' := by
  refine (next_any b _ _ _ d.left d.off h.wf.off h.wf.left w h.blk).mono ?_
  rintro e w' ⟨rfl, h1, h2⟩
  have hw := D.next_wf h.wf
  rw [next_eq] at hw ⊢
  exact ⟨rfl, ⟨hw, h1, h.wt.keep (h2.block wb h.wt.lt (fun x => h.n1 x.symm)), h.n1⟩, h2⟩

def nextN : Nat → D → D
  | 0, d => d
  | n + 1, d => (nextN n d).next

/-- update, at a reader whose offset has been lowered. -/
theorem upd_R (c : Int) (one : Bool) (b wb : Nat) (d : D) (w : World) (h : RLive w b wb d) :
    Calls Tryz.prog 103 #[.pointer (some ⟨b, 0, none⟩), .int .i64 c, .bool one, .func (.func 176) #[.pointer (some ⟨b, 0, none⟩)] #[]] w fun en w' => en = .returned (.tuple #[]) ∧
      RLive w' b wb (if d.m.shifts (ctx c) one then (D.next ⟨d.m.step (ctx c) one, d.left, d.off⟩) else ⟨d.m.step (ctx c) one, d.left, d.off⟩) ∧ Upd (rFoot b wb) w w' := by
  have hw : D.Wf ⟨d.m.step (ctx c) one, d.left, d.off⟩ := ⟨M.step_wf h.wf.m (ctx_lt c) one, h.wf.off, h.wf.left⟩
  refine update_R c one b wb b d.m h.wf.m w _ _ h.blk rfl rfl h.wt h.n1 _ ?_ ?_
  · intro hs w' hu
    rw [hs]
    exact ⟨⟨hw, hu.blk, hu.wt, h.n1⟩, hu.up⟩
  · intro hs w' hu
    rw [hs]
    refine (next_R b wb ⟨d.m.step (ctx c) one, d.left, d.off⟩ w' ⟨hw, hu.blk, hu.wt, h.n1⟩).mono ?_
    rintro en w'' ⟨rfl, h1, h2⟩
    refine ⟨rfl, ?_, h1, hu.up.trans (h2.mono fun k _ hk => .inl hk)⟩
    rw [cell_of_row w'' b 1 _ _ _ h1.blk, next_eq]; rfl

/-- begin, at a reader. -/
theorem begin_R (b : Nat) (d : D) (F : Nat → Prop) (w : World) (h : RRep w b d F) :
    Calls Tryz.prog 99 #[.pointer (some ⟨b, 0, none⟩)] w fun en w' => ∃ r wb d0, en = .returned (.bool r) ∧ RLive w' b wb d0 ∧ d = (if r then nextN 4 d0 else d0) ∧ Upd F w w' ∧ ∀ k, rFoot b wb k → F k ∨ w.heap.size ≤ k := by
  rcases h with ⟨code, h0, rfl, h2, rfl⟩ | ⟨wb, h1, rfl⟩
  · refine (begin_new b w _ 227 h2 rfl (by show 1 < 4; decide)).mono ?_
    rintro en w' ⟨rfl, wb, hlt, hb, hwt, hup⟩
    have hlb := lt_of_heap h2
    refine ⟨true, wb, ⟨M.init, code, 0⟩, rfl, ⟨⟨M.init_wf, by show 0 < 4294967296; omega, h0⟩, hb, hwt, by omega⟩, rfl, hup, ?_⟩
    rintro k (rfl | rfl)
    · exact .inl rfl
    · exact .inr hlt
  · have hc : w.cell? ⟨b, 0, none⟩ = some (.slice (some ⟨wb, 0, none⟩) 4096 4096) := by rw [cell_of_row w b 0 _ _ _ h1.blk]; rfl
    refine (begin_old b w _ _ _ hc).mono ?_
    rintro en w' ⟨rfl, rfl⟩
    exact ⟨false, wb, d, rfl, h1, rfl, Upd.refl _ _, fun k hk => .inl hk⟩

/-- What holds of a reader's Bit behind its beginning. -/
structure RAt (w wr : World) (b wb : Nat) (d : D) (F : Nat → Prop) : Prop where
  live : RLive wr b wb d
  up : Upd F w wr
  foot : ∀ k, rFoot b wb k → F k ∨ w.heap.size ≤ k
theorem RAt.step {w wr w2 : World} {b wb : Nat} {d d2 : D} {F : Nat → Prop} (h : RAt w wr b wb d F) (hl : RLive w2 b wb d2) (hu : Upd (rFoot b wb) wr w2) : RAt w w2 b wb d2 F :=
  ⟨hl, h.up.then hu (fun i hi hf => (h.foot i hf).elim id (fun x => absurd hi (by omega))), h.foot⟩
theorem RAt.done {w wr : World} {b wb : Nat} {d : D} {F : Nat → Prop} (h : RAt w wr b wb d F) : ∃ F', RRep wr b d F' ∧ Upd F w wr ∧ ∀ k, F' k → F k ∨ w.heap.size ≤ k :=
  ⟨_, .inr ⟨wb, h.live, rfl⟩, h.up, h.foot⟩

theorem RLive.setOff {w : World} {b wb : Nat} {d : D} (h : RLive w b wb d) {off : Nat} (ho : off < 4294967296) (n : Nat) :
    RLive ((w.drewN n).setCell ⟨b, 3, none⟩ (.int .u32 off)) b wb ⟨d.m, d.left, off⟩ :=
  ⟨⟨h.wf.m, ho, h.wf.left⟩, heap_setCell_eq (w := w.drewN n) (i := 3) _ h.blk, h.wt.keep (heap_setCell_other (w.drewN n) ⟨b, 3, none⟩ wb _ (fun x => h.n1 x.symm)), h.n1⟩
theorem RLive.drew {w : World} {b wb : Nat} {d : D} (h : RLive w b wb d) (n : Nat) : RLive (w.drewN n) b wb d := h.keep fun _ _ => rfl
theorem bit_of {d : D} {c : Int} {one : Bool} (h : d.one c = one) : (if d.m.shifts (ctx c) one then (D.next ⟨d.m.step (ctx c) one, d.left, d.off1 c⟩) else ⟨d.m.step (ctx c) one, d.left, d.off1 c⟩) = d.bit c := by
  unfold D.bit; rw [h]

set_option maxHeartbeats 1000000 in
theorem RBit_any (b : Nat) (c : Int) (d : D) (F : Nat → Prop) (w : World) (h : RRep w b d F) :
    Calls Tryz.prog 151 #[.pointer (some ⟨b, 0, none⟩), .int .i64 c] w fun en w' => en = .returned (.bool (d.one c)) ∧
      ∃ F', RRep w' b (d.bit c) F' ∧ Upd F w w' ∧ ∀ k, F' k → F k ∨ w.heap.size ≤ k := by
  go_enter Tryz.func151, Tryz.ntmps151
  go_wp2_with fail
  refine (begin_R b d F w h).mono ?_
  rintro en w1 ⟨r, wb, d0, rfl, h1, hd, h2, h3⟩
  have HA : Hid (RAt w w1 b wb d0 F) := ⟨h1, h2, h3⟩
  have HD := Lib.hid hd
  clear h1 hd h2 h3 h
  go_upto_if 12 with (fail)
  go_cut [] (fun wc => RAt w wc b wb d F)
  case first =>
    cases r
    · go_wp2_with fail
      go_meet
      rw [HD.out]
      exact HA.out
    · go_wp2_with fail
      go_loopw [13] (fun i wr => ∃ k : Nat, i = .int .i64 k ∧ k ≤ 4 ∧ RAt w wr b wb (nextN k d0) F) (fun i _ => 4 - (intOf i).toNat)
      case atStart => exact ⟨0, rfl, by omega, HA.out⟩
      case round =>
        obtain ⟨k, rfl, hk, ha⟩ := hrel
        have HR := Lib.hid ha
        clear ha
        by_cases hlt : k < 4
        · go_wp2_with (go_at_call 176; refine (next_R b wb _ _ HR.out.live).mono ?_; rintro e w2 ⟨rfl, q1, q2⟩)
          go_roundw
          case rel => exact ⟨k + 1, by go_num, hlt, HR.out.step q1 (q2.mono fun k _ hk => .inl hk)⟩
          case measure => simp [intOf]; omega
        · obtain rfl : k = 4 := by omega
          go_wp2_with fail
          go_meet
          rw [HD.out]
          exact HR.out
  case rest =>
    have HC := Lib.hid hcut
    have c0 : wc.cell? ⟨b, 0, none⟩ = some (.slice (some ⟨wb, 0, none⟩) 4096 4096) := by rw [cell_of_row wc b 0 _ _ _ hcut.live.blk]; rfl
    have c1 : wc.cell? ⟨b, 1, none⟩ = some (.int .u32 d.m.size) := by rw [cell_of_row wc b 1 _ _ _ hcut.live.blk]; rfl
    have c3 : wc.cell? ⟨b, 3, none⟩ = some (.int .u32 d.off) := by rw [cell_of_row wc b 3 _ _ _ hcut.live.blk]; rfl
    have f1 := frozen_of_row wc b 1 _ _ hcut.live.blk
    have f3 := frozen_of_row wc b 3 _ _ hcut.live.blk
    have hmod : Hid (Mod wc b wb d.m) := ⟨c0, c1, f1, hcut.live.wt, hcut.live.n1⟩
    have hwf := hcut.live.wf
    clear hcut
    by_cases ho : d.m.split (ctx c) ≤ d.off
    · have e1 : d.one c = true := by unfold D.one; simpa using ho
      have e2 : d.off1 c = d.off - d.m.split (ctx c) := by unfold D.off1; rw [e1]; simp
      have t1 : ((d.m.split (ctx c) : Nat) : Int) ≤ ((d.off : Nat) : Int) := by omega
      have t2 : (((d.off : Nat) : Int) - ((d.m.split (ctx c) : Nat) : Int)) % 4294967296 = ((d.off1 c : Nat) : Int) := by have := hwf.off; rw [e2]; omega
      have E1 := Lib.hid e1
      clear e1 e2 ho
      go_wp2_with (first | (go_at_call 101; refine (split_any _ _ _ _ hwf.m _ hmod.out).mono ?_; rintro e w' ⟨rfl, n, rfl⟩))
      have hl2 := Lib.hid (HC.out.live.setOff (D.off1_lt hwf c) n)
      refine (upd_R c true b wb ⟨d.m, d.left, d.off1 c⟩ _ hl2.out).mono ?_
      rintro en w3 ⟨rfl, q1, q2⟩
      have Q1 : Hid (RLive w3 b wb (d.bit c)) := by have := q1; rw [bit_of E1.out] at this; exact this
      have Q2 : Hid (Upd (rFoot b wb) wc w3) := ((Upd.ofDrewN wc n).setCell (fun _ => .inl rfl) _).trans q2
      clear q1 q2
      go_wp2
      go_ret
      exact ⟨by rw [E1.out]; rfl, (HC.out.step Q1.out Q2.out).done⟩
    · have e1 : d.one c = false := by unfold D.one; simpa using ho
      have e2 : d.off1 c = d.off := by unfold D.off1; rw [e1]; simp
      have t1 : ¬ ((d.m.split (ctx c) : Nat) : Int) ≤ ((d.off : Nat) : Int) := by omega
      have E1 := Lib.hid e1
      have E2 := Lib.hid e2
      clear e1 e2 ho
      go_wp2_with (first | (go_at_call 101; refine (split_any _ _ _ _ hwf.m _ hmod.out).mono ?_; rintro e w' ⟨rfl, n, rfl⟩))
      refine (upd_R c false b wb d _ (HC.out.live.drew n)).mono ?_
      rintro en w3 ⟨rfl, q1, q2⟩
      have Q1 : Hid (RLive w3 b wb (d.bit c)) := by have := q1; rw [← bit_of E1.out, E2.out]; exact this
      have Q2 : Hid (Upd (rFoot b wb) wc w3) := (Upd.ofDrewN wc n).trans q2
      clear q1 q2
      go_wp2
      go_ret
      exact ⟨by rw [E1.out]; rfl, (HC.out.step Q1.out Q2.out).done⟩
end Go.Proofs.YtcikldoaidmnhaaGreatDoor
namespace Go.Proofs.YtcikldoaidmnhaaGreatDoor
open Go Go.RowKit Pc
set_option maxRecDepth 100000

def rZero (code : List Nat) : Array Value := #[.slice none 0 0, .int .u32 0, .string (str code), .int .u32 0]
set_option maxHeartbeats 400000 in
theorem NewReader_any (code : List Nat) (w : World) : Calls Tryz.prog 115 #[.string (str code)] w fun e w' => e = .returned (.pointer (some ⟨w.heap.size, 0, none⟩)) ∧ w.alloc (.cells (rZero code) 227) = w' := by
  go_enter Tryz.func115, Tryz.ntmps115
  go_wp2
  go_ret
  exact ⟨rfl, rfl⟩
theorem NewReader_rep {code : List Nat} (h : ∀ x, x ∈ code → x < 256) (w : World) : RRep (w.alloc (.cells (rZero code) 227)) w.heap.size (D.ofCode code) (· = w.heap.size) :=
  .inl ⟨code, h, rfl, heap_alloc_new w _, rfl⟩

end Go.Proofs.YtcikldoaidmnhaaGreatDoor
namespace Go.Proofs.YtcikldoaidmnhaaGreatDoor
open Go Go.RowKit Pc
set_option maxRecDepth 100000

theorem tmod_cases (c m : Int) (hm : 0 < m) : c.tmod m = c % m ∨ c.tmod m = c % m - m := by
  rw [Int.tmod_eq_emod]
  split
  · left; omega
  · right; omega
theorem mod_eq (c m : Int) (hm : 0 < m) : (c.tmod m + m).tmod m = c % m := by
  have h1 := Int.emod_nonneg c (show m ≠ 0 by omega)
  have h2 := Int.emod_lt_of_pos c hm
  rcases tmod_cases c m hm with h | h
  · rw [h, Int.tmod_eq_emod_of_nonneg (by omega), Int.add_emod_right, Int.emod_emod_of_dvd _ (Int.dvd_refl m)]
  · rw [h, Int.tmod_eq_emod_of_nonneg (by omega), Int.sub_add_cancel, Int.emod_emod_of_dvd _ (Int.dvd_refl m)]
theorem mod_wrap (c m : Int) (hm : 0 < m) (hb : m ≤ 1000000) : wrap64 (c.tmod m + m) = c.tmod m + m := by
  have h1 := Int.emod_nonneg c (show m ≠ 0 by omega)
  have h2 := Int.emod_lt_of_pos c hm
  exact IntWalk.wrap64_in _ (by rcases tmod_cases c m hm with h | h <;> rw [h] <;> omega)

set_option maxHeartbeats 400000 in
theorem Mod_any (c m : Int) (hm : 0 < m) (hb : m ≤ 1000000) (w : World) : Calls Tryz.prog 148 #[.int .i64 c, .int .i64 m] w fun e w' => e = .returned (.int .i64 (c % m)) ∧ w = w' := by
  have e1 := mod_wrap c m hm hb
  have e2 := mod_eq c m hm
  have e3 : (m == 0) = false := by rw [beq_eq_false_iff_ne]; omega
  have e4 : ¬ m = -1 := by omega
  have h1 : -9223372036854775808 ≤ c.tmod m ∧ c.tmod m ≤ 9223372036854775807 := by
    have h1 := Int.emod_nonneg c (show m ≠ 0 by omega)
    have h2 := Int.emod_lt_of_pos c hm
    rcases tmod_cases c m hm with h | h <;> rw [h] <;> omega
  go_enter Tryz.func148, Tryz.ntmps148
  go_wp2
  go_ret
  exact ⟨rfl, rfl⟩

/-- The reference's model at a block's head. -/
structure MArr (arr : Array Value) (m : M) : Prop where
  ws : ∀ i, i < 4096 → arr[i]? = some (.int .i64 (((m.p i : Nat) : Int) - 1024))
  sh : arr[4096]? = some (.int .i64 (4294967295 - ((m.size : Nat) : Int)))
theorem MArr.size {arr : Array Value} {m : M} (h : MArr arr m) : 4096 < arr.size := (Array.getElem?_eq_some_iff.1 h.sh).1
theorem MArr.step {arr : Array Value} {m : M} (h : MArr arr m) (i : Nat) (hi : i < 4096) (one : Bool) :
    MArr ((arr.setIfInBounds i (.int .i64 (((m.newp i one : Nat) : Int) - 1024))).setIfInBounds 4096 (.int .i64 (4294967295 - (((m.step i one).size : Nat) : Int)))) (m.step i one) := by
  have hs := h.size
  refine ⟨fun j hj => ?_, ?_⟩
  · rw [Array.getElem?_setIfInBounds_ne (by omega)]
    show _ = some (Value.int .i64 (((upd m.p i (m.newp i one) j : Nat) : Int) - 1024))
    rw [Array.getElem?_setIfInBounds]
    unfold upd
    by_cases e : i = j
    · subst e; rw [if_pos rfl, if_pos rfl]; simp; omega
    · rw [if_neg e, if_neg (fun h => e h.symm)]; exact h.ws j hj
  · rw [Array.getElem?_setIfInBounds_self_of_lt (by simpa using hs)]
theorem MArr.setFar {arr : Array Value} {m : M} (h : MArr arr m) {j : Nat} (hj : 4096 < j) (v : Value) : MArr (arr.setIfInBounds j v) m :=
  ⟨fun i hi => by rw [Array.getElem?_setIfInBounds_ne (by omega)]; exact h.ws i hi, by rw [Array.getElem?_setIfInBounds_ne (by omega)]; exact h.sh⟩

set_option maxHeartbeats 1000000 in
theorem rsplit_any (c : Int) (b : Nat) (m : M) (hm : m.Wf) (w : World) (arr : Array Value) (T : TypeId) (hb : w.heap[b]? = some (.cells arr T (0, 0))) (h : MArr arr m) :
    Calls Tryz.prog 108 #[.pointer (some ⟨b, 0, none⟩), .int .i64 c] w fun e w' => e = .returned (.int .i64 ((m.split (ctx c) : Nat) : Int)) ∧ ∃ n, w' = w.drewN n := by
  have hc0 : w.cell? ⟨b, ctx c, none⟩ = some (.int .i64 (((m.p (ctx c) : Nat) : Int) - 1024)) := by rw [cell_of_row w b _ _ _ _ hb]; exact h.ws _ (ctx_lt c)
  have hc1 : w.cell? ⟨b, 4096, none⟩ = some (.int .i64 (4294967295 - ((m.size : Nat) : Int))) := by rw [cell_of_row w b _ _ _ _ hb]; exact h.sh
  have hcx := ctx_lt c
  have hct : c % 4096 = ((ctx c : Nat) : Int) := (ctx_cast c).symm
  have s1 := hm.lo
  have s2 := hm.hi
  have s3 := hm.pl _ hcx
  have s4 := hm.ph _ hcx
  have sb := M.split_bd hm hcx
  have a1 : 4294967295 - (4294967295 - ((m.size : Nat) : Int)) = ((m.size : Nat) : Int) := by omega
  have a2 : 1024 + (((m.p (ctx c) : Nat) : Int) - 1024) = ((m.p (ctx c) : Nat) : Int) := by omega
  have a3 : ((m.size : Nat) : Int) / 2048 * ((m.p (ctx c) : Nat) : Int) = ((m.split (ctx c) : Nat) : Int) := by
    unfold M.split; rw [Int.natCast_mul]; rfl
  have b1 : ((m.size : Nat) : Int) ≤ 4294967295 := by omega
  have b2 : ((m.p (ctx c) : Nat) : Int) ≤ 2017 := by omega
  have b3 : ((m.split (ctx c) : Nat) : Int) ≤ 4294967295 := by omega
  clear s1 s2 s3 s4 sb hb h hm
  go_enter Tryz.func108, Tryz.ntmps108
  go_wp2_with (go_at_call 148; refine (Mod_any _ _ (by omega) (by omega) _).mono ?_; rintro e w' ⟨rfl, rfl⟩)
  go_quiet (fail)
  go_wp2
  go_ret
  exact ⟨rfl, _, rfl⟩

def smallV (v : Value) : Nat := if intOf v < 16777216 then 1 else 0
theorem smallV_lt {k k' : IntKind} {a b : Int} (h1 : ¬ a < 16777216) (h2 : b < 16777216) : smallV (.int k a) < smallV (.int k' b) := by
  unfold smallV
  show (if a < 16777216 then 1 else 0) < (if b < 16777216 then 1 else 0)
  rw [if_neg h1, if_pos h2]; omega
def shiftN (b : Bool) : Int := if b then 1 else 0

set_option maxHeartbeats 1000000 in
theorem rtake_any (c : Int) (one : Bool) (b : Nat) (m : M) (hm : m.Wf) (w : World) (arr : Array Value) (T : TypeId) (hb : w.heap[b]? = some (.cells arr T (0, 0))) (h : MArr arr m) :
    Calls Tryz.prog 110 #[.pointer (some ⟨b, 0, none⟩), .int .i64 c, .bool one] w fun e w' => e = .returned (.int .i64 (shiftN (m.shifts (ctx c) one))) ∧
      w'.heap[b]? = some (.cells ((arr.setIfInBounds (ctx c) (.int .i64 (((m.newp (ctx c) one : Nat) : Int) - 1024))).setIfInBounds 4096 (.int .i64 (4294967295 - (((m.step (ctx c) one).size : Nat) : Int)))) T (0, 0)) ∧ Upd (· = b) w w' := by
  have hc0 : w.cell? ⟨b, ctx c, none⟩ = some (.int .i64 (((m.p (ctx c) : Nat) : Int) - 1024)) := by rw [cell_of_row w b _ _ _ _ hb]; exact h.ws _ (ctx_lt c)
  have hc1 : w.cell? ⟨b, 4096, none⟩ = some (.int .i64 (4294967295 - ((m.size : Nat) : Int))) := by rw [cell_of_row w b _ _ _ _ hb]; exact h.sh
  have hf0 := frozen_of_row w b (ctx c) _ _ hb
  have hf1 := frozen_of_row w b 4096 _ _ hb
  have hcx := ctx_lt c
  have hct : c % 4096 = ((ctx c : Nat) : Int) := (ctx_cast c).symm
  have rb := M.raw_bd hm hcx one
  have nb := norm_bd rb.1 rb.2
  have pb := M.newp_bd hm hcx one
  have sb := M.split_bd hm hcx
  have s2 := hm.hi
  have s3 := hm.pl _ hcx
  have s4 := hm.ph _ hcx
  have a1 : 4294967295 - (4294967295 - ((m.size : Nat) : Int)) = ((m.size : Nat) : Int) := by omega
  have a2 : 1024 + (((m.p (ctx c) : Nat) : Int) - 1024) = ((m.p (ctx c) : Nat) : Int) := by omega
  have b1 : ((m.size : Nat) : Int) ≤ 4294967295 := by omega
  have b2 : ((m.p (ctx c) : Nat) : Int) ≤ 2017 := by omega
  have b3 : ((m.split (ctx c) : Nat) : Int) ≤ ((m.size : Nat) : Int) := by omega
  have b4 : ((m.newp (ctx c) one : Nat) : Int) ≤ 2017 := by omega
  have b5 : ((m.raw (ctx c) one : Nat) : Int) ≤ 4294967295 := by omega
  have hfin : Hid (∀ n W, W = (w.drewN n).setCell ⟨b, ctx c, none⟩ (.int .i64 (((m.newp (ctx c) one : Nat) : Int) - 1024)) →
      (W.setCell ⟨b, 4096, none⟩ (.int .i64 (4294967295 - (((m.step (ctx c) one).size : Nat) : Int)))).heap[b]? = some (.cells ((arr.setIfInBounds (ctx c) (.int .i64 (((m.newp (ctx c) one : Nat) : Int) - 1024))).setIfInBounds 4096 (.int .i64 (4294967295 - (((m.step (ctx c) one).size : Nat) : Int)))) T (0, 0)) ∧
      Upd (· = b) w (W.setCell ⟨b, 4096, none⟩ (.int .i64 (4294967295 - (((m.step (ctx c) one).size : Nat) : Int))))) := by
    intro n W hW; subst hW
    exact ⟨heap_setCell_eq (w := (w.drewN n).setCell ⟨b, ctx c, none⟩ _) _ (heap_setCell_eq (w := w.drewN n) _ hb), ((Upd.ofDrewN (F := (· = b)) w n).setCell (fun _ => rfl) _).setCell (fun _ => rfl) _⟩
  have hstep : Hid ((m.step (ctx c) one).size = norm (m.raw (ctx c) one)) := rfl
  have hsh : Hid (m.shifts (ctx c) one = decide (m.raw (ctx c) one < 16777216)) := rfl
  have HB := Lib.hid hb
  have HH := Lib.hid h
  have RB := Lib.hid rb
  have NB := Lib.hid nb
  have hm' := Lib.hid hm
  cases one
  · have v1 : ((m.p (ctx c) : Nat) : Int) + (2048 - ((m.p (ctx c) : Nat) : Int)) / 32 = ((m.newp (ctx c) false : Nat) : Int) := by unfold M.newp; simp only [Bool.false_eq_true, if_false]; omega
    have v2 := raw_val0 m (ctx c)
    clear s2 s3 s4 sb hb h rb nb pb hm
    go_enter Tryz.func110, Tryz.ntmps110
    go_wp2_with (first | (go_at_call 148; refine (Mod_any _ _ (by omega) (by omega) _).mono ?_; rintro e w' ⟨rfl, rfl⟩) | (go_at_call 108; refine (rsplit_any _ _ _ hm'.out _ _ _ HB.out HH.out).mono ?_; rintro e w' ⟨rfl, n, rfl⟩))
    have hfn := Lib.hid (hfin.out n _ rfl)
    have hcc : w.cell? ⟨b, ctx c, none⟩ = some (.int .i64 (((m.p (ctx c) : Nat) : Int) - 1024)) := hc0
    clear v1 v2 hc0 a2
    go_loop [9, 11] (fun s k => (s = .int .i64 ((m.raw (ctx c) false : Nat) : Int) ∧ k = .int .i64 0) ∨ (m.raw (ctx c) false < 16777216 ∧ s = .int .i64 ((m.raw (ctx c) false : Nat) * 256 : Int) ∧ k = .int .i64 1))
      (fun s _ => smallV s)
    case atStart => exact .inl ⟨rfl, rfl⟩
    case round =>
      rcases hrel with ⟨rfl, rfl⟩ | ⟨hlt, rfl, rfl⟩
      · by_cases hs : ((m.raw (ctx c) false : Nat) : Int) < 16777216
        · go_wp2
          go_round
          case rel => exact .inr ⟨by omega, rfl, rfl⟩
          case measure =>
            have := RB.out
            exact smallV_lt (by omega) hs
        · have e1 : ((m.raw (ctx c) false : Nat) : Int) = (((m.step (ctx c) false).size : Nat) : Int) := by rw [hstep.out]; unfold norm; rw [if_neg (by omega)]
          have e2 : Hid (m.shifts (ctx c) false = false) := by show _ = _; rw [hsh.out]; simp; omega
          have e3 : ((((m.step (ctx c) false).size : Nat) : Int)) ≤ 4294967295 := by rw [← e1]; exact b5
          rw [e1] at hs ⊢
          clear e1 b5
          go_wp2
          go_ret
          refine ⟨by rw [e2.out]; rfl, ?_⟩
          exact hfn.out
      · have hs : ¬ ((m.raw (ctx c) false : Nat) : Int) * 256 < 16777216 := by have := RB.out; omega
        have e1 : ((m.raw (ctx c) false : Nat) : Int) * 256 = (((m.step (ctx c) false).size : Nat) : Int) := by rw [hstep.out]; unfold norm; rw [if_pos hlt]; omega
        have e2 : Hid (m.shifts (ctx c) false = true) := by show _ = _; rw [hsh.out]; simpa using hlt
        have e3 : ((((m.step (ctx c) false).size : Nat) : Int)) ≤ 4294967295 := by rw [← e1]; omega
        rw [e1] at hs ⊢
        clear hlt e1
        go_wp2
        go_ret
        refine ⟨by rw [e2.out]; rfl, ?_⟩
        exact hfn.out
  · have v1 : ((m.p (ctx c) : Nat) : Int) - ((m.p (ctx c) : Nat) : Int) / 32 = ((m.newp (ctx c) true : Nat) : Int) := by unfold M.newp; simp only [if_true]; omega
    have v2 : ((m.size : Nat) : Int) - ((m.split (ctx c) : Nat) : Int) = ((m.raw (ctx c) true : Nat) : Int) := by unfold M.raw; simp only [if_true]; omega
    clear s2 s3 s4 sb hb h rb nb pb hm
    go_enter Tryz.func110, Tryz.ntmps110
    go_wp2_with (first | (go_at_call 148; refine (Mod_any _ _ (by omega) (by omega) _).mono ?_; rintro e w' ⟨rfl, rfl⟩) | (go_at_call 108; refine (rsplit_any _ _ _ hm'.out _ _ _ HB.out HH.out).mono ?_; rintro e w' ⟨rfl, n, rfl⟩))
    have hfn := Lib.hid (hfin.out n _ rfl)
    have hcc : w.cell? ⟨b, ctx c, none⟩ = some (.int .i64 (((m.p (ctx c) : Nat) : Int) - 1024)) := hc0
    clear v1 v2 hc0 a2
    go_loop [9, 11] (fun s k => (s = .int .i64 ((m.raw (ctx c) true : Nat) : Int) ∧ k = .int .i64 0) ∨ (m.raw (ctx c) true < 16777216 ∧ s = .int .i64 ((m.raw (ctx c) true : Nat) * 256 : Int) ∧ k = .int .i64 1))
      (fun s _ => smallV s)
    case atStart => exact .inl ⟨rfl, rfl⟩
    case round =>
      rcases hrel with ⟨rfl, rfl⟩ | ⟨hlt, rfl, rfl⟩
      · by_cases hs : ((m.raw (ctx c) true : Nat) : Int) < 16777216
        · go_wp2
          go_round
          case rel => exact .inr ⟨by omega, rfl, rfl⟩
          case measure =>
            have := RB.out
            exact smallV_lt (by omega) hs
        · have e1 : ((m.raw (ctx c) true : Nat) : Int) = (((m.step (ctx c) true).size : Nat) : Int) := by rw [hstep.out]; unfold norm; rw [if_neg (by omega)]
          have e2 : Hid (m.shifts (ctx c) true = false) := by show _ = _; rw [hsh.out]; simp; omega
          have e3 : ((((m.step (ctx c) true).size : Nat) : Int)) ≤ 4294967295 := by rw [← e1]; exact b5
          rw [e1] at hs ⊢
          clear e1 b5
          go_wp2
          go_ret
          refine ⟨by rw [e2.out]; rfl, ?_⟩
          exact hfn.out
      · have hs : ¬ ((m.raw (ctx c) true : Nat) : Int) * 256 < 16777216 := by have := RB.out; omega
        have e1 : ((m.raw (ctx c) true : Nat) : Int) * 256 = (((m.step (ctx c) true).size : Nat) : Int) := by rw [hstep.out]; unfold norm; rw [if_pos hlt]; omega
        have e2 : Hid (m.shifts (ctx c) true = true) := by show _ = _; rw [hsh.out]; simpa using hlt
        have e3 : ((((m.step (ctx c) true).size : Nat) : Int)) ≤ 4294967295 := by rw [← e1]; omega
        rw [e1] at hs ⊢
        clear hlt e1
        go_wp2
        go_ret
        refine ⟨by rw [e2.out]; rfl, ?_⟩
        exact hfn.out
end Go.Proofs.YtcikldoaidmnhaaGreatDoor
namespace Go.Proofs.YtcikldoaidmnhaaGreatDoor
open Go Go.RowKit Pc
set_option maxRecDepth 100000

/-- The reference's reader, behind at most n bytes. -/
structure RRW (w : World) (b : Nat) (d : D) (n : Nat) (arr : Array Value) (code : List Nat) (at_ : Nat) : Prop where
  wf : d.Wf
  blk : w.heap[b]? = some (.cells arr 231 (0, 0))
  mod : MArr arr d.m
  s : arr[4097]? = some (.string (str code))
  a : arr[4098]? = some (.int .i64 at_)
  o : arr[4099]? = some (.int .i64 d.off)
  left : d.left = code.drop at_
  le : at_ ≤ n
  bytes : ∀ x, x ∈ code → x < 256
def RR (w : World) (b : Nat) (d : D) (n : Nat) : Prop := ∃ arr code at_, RRW w b d n arr code at_

theorem RR.keep {w w' : World} {b n : Nat} {d : D} (h : RR w b d n) (hk : w'.heap[b]? = w.heap[b]?) : RR w' b d n := by
  obtain ⟨arr, code, at_, h⟩ := h
  exact ⟨arr, code, at_, h.wf, hk.trans h.blk, h.mod, h.s, h.a, h.o, h.left, h.le, h.bytes⟩
theorem RR.lt {w : World} {b n : Nat} {d : D} (h : RR w b d n) : b < w.heap.size := by
  obtain ⟨arr, code, at_, h⟩ := h
  exact lt_of_heap h.blk
theorem RR.upd {w w' : World} {b n : Nat} {d : D} {G : Nat → Prop} (h : RR w b d n) (hu : Upd G w w') (hd : ¬ G b) : RR w' b d n := h.keep (hu.block b h.lt hd)
theorem RR.wf {w : World} {b n : Nat} {d : D} (h : RR w b d n) : d.Wf := by
  obtain ⟨arr, code, at_, h⟩ := h
  exact h.wf

set_option maxHeartbeats 1000000 in
theorem rnext_any (b n : Nat) (d : D) (hn : n ≤ 1000000) (w : World) (h : RR w b d n) :
    Calls Tryz.prog 153 #[.pointer (some ⟨b, 0, none⟩)] w fun e w' => e = .returned (.tuple #[]) ∧ RR w' b d.next (n + 1) ∧ Upd (· = b) w w' := by
  obtain ⟨arr, code, at_, h⟩ := h
  have h1 : w.cell? ⟨b, 4097, none⟩ = some (.string (str code)) := by rw [cell_of_row w b _ _ _ _ h.blk]; exact h.s
  have h2 : w.cell? ⟨b, 4098, none⟩ = some (.int .i64 at_) := by rw [cell_of_row w b _ _ _ _ h.blk]; exact h.a
  have h3 : w.cell? ⟨b, 4099, none⟩ = some (.int .i64 d.off) := by rw [cell_of_row w b _ _ _ _ h.blk]; exact h.o
  have f2 := frozen_of_row w b 4098 _ _ h.blk
  have f3 := frozen_of_row w b 4099 _ _ h.blk
  have b1 : ((at_ : Nat) : Int) ≤ 1000000 := by have := h.le; omega
  have b2 : ((d.off : Nat) : Int) < 4294967296 := by have := h.wf.off; omega
  have hsz := str_size code
  have s3 : 4099 < arr.size := (Array.getElem?_eq_some_iff.1 h.o).1
  have hwf := D.next_wf h.wf
  have HH := Lib.hid h
  have fin : Hid (∀ nq : Nat, ∀ off' : Nat, d.next = ⟨d.m, code.drop (at_ + 1), off'⟩ →
      RR (((w.drewN nq).setCell ⟨b, 4098, none⟩ (.int .i64 (((at_ + 1 : Nat)) : Int))).setCell ⟨b, 4099, none⟩ (.int .i64 off')) b d.next (n + 1) ∧
      Upd (· = b) w (((w.drewN nq).setCell ⟨b, 4098, none⟩ (.int .i64 (((at_ + 1 : Nat)) : Int))).setCell ⟨b, 4099, none⟩ (.int .i64 off'))) := by
    intro nq off' e
    refine ⟨⟨_, code, at_ + 1, hwf, heap_setCell_eq (w := (w.drewN nq).setCell ⟨b, 4098, none⟩ _) _ (heap_setCell_eq (w := w.drewN nq) _ HH.out.blk), ?_, ?_, ?_, ?_, ?_, ?_, HH.out.bytes⟩, ((Upd.ofDrewN (F := (· = b)) w nq).setCell (fun _ => rfl) _).setCell (fun _ => rfl) _⟩
    · rw [e]; exact (HH.out.mod.setFar (by omega) _).setFar (by omega) _
    · rw [Array.getElem?_setIfInBounds_ne (by omega), Array.getElem?_setIfInBounds_ne (by omega)]; exact HH.out.s
    · rw [Array.getElem?_setIfInBounds_ne (by omega), Array.getElem?_setIfInBounds_self_of_lt (by omega)]
    · rw [Array.getElem?_setIfInBounds_self_of_lt (by simpa using s3), e]
    · rw [e]
    · have := HH.out.le; omega
  clear hwf s3 h
  by_cases hlt : at_ < code.length
  · have hx : ((code[at_] : Nat) : Int) < 256 := by have := HH.out.bytes _ (List.getElem_mem hlt); omega
    have hi : ∀ (h : at_ < (str code).size), ((str code)[at_]'h).toNat = code[at_] := fun h => str_get hlt HH.out.bytes h
    have hnx : Hid (d.next = ⟨d.m, code.drop (at_ + 1), (d.off * 256 + code[at_]) % 4294967296⟩) := by
      show _ = _
      unfold D.next
      have e : d.left = code[at_] :: code.drop (at_ + 1) := by rw [HH.out.left, List.drop_eq_getElem_cons hlt]
      rw [e]
    go_enter Tryz.func153, Tryz.ntmps153
    go_wp2_with fail
    go_quiet (fail)
    go_wp2_with fail
    go_quiet (fail)
    go_wp2
    go_end0
    have hf := fun nq => fin.out nq _ hnx.out
    have e1 : (((d.off * 256 + code[at_]) % 4294967296 : Nat) : Int) = (((d.off : Nat) : Int) * 256 + ((code[at_] : Nat) : Int)) % 4294967296 := by omega
    have e2 : (((at_ + 1 : Nat)) : Int) = (at_ : Int) + 1 := by omega
    simp only [e1, e2] at hf
    exact ⟨rfl, hf _⟩
  · have hnx : Hid (d.next = ⟨d.m, code.drop (at_ + 1), d.off * 256 % 4294967296⟩) := by
      show _ = _
      unfold D.next
      have e : d.left = [] := by rw [HH.out.left]; exact List.drop_eq_nil_of_le (by omega)
      rw [e, List.drop_eq_nil_of_le (by omega)]
    go_enter Tryz.func153, Tryz.ntmps153
    go_wp2_with fail
    go_quiet (fail)
    go_wp2
    go_end0
    have hf := fun nq => fin.out nq _ hnx.out
    have e1 : ((d.off * 256 % 4294967296 : Nat) : Int) = (((d.off : Nat) : Int) * 256) % 4294967296 := by omega
    have e2 : (((at_ + 1 : Nat)) : Int) = (at_ : Int) + 1 := by omega
    simp only [e1, e2] at hf
    exact ⟨rfl, hf _⟩

theorem zeroR : Tryz.zeroCells231 = Array.replicate 4097 (.int .i64 0) ++ #[.string ⟨#[]⟩, .int .i64 0, .int .i64 0] := by kernel_rfl
theorem zeroR_mod : MArr Tryz.zeroCells231 M.init := by
  rw [zeroR]
  refine ⟨fun i hi => ?_, ?_⟩
  · rw [Array.getElem?_append_left (by simp; omega), Array.getElem?_replicate, if_pos (by omega)]; rfl
  · rw [Array.getElem?_append_left (by simp), Array.getElem?_replicate, if_pos (by omega)]; rfl
theorem zeroR_size : Tryz.zeroCells231.size = 4100 := by rw [zeroR]; simp
theorem zeroR_4098 : Tryz.zeroCells231[4098]? = some (.int .i64 0) := by
  rw [zeroR, Array.getElem?_append_right (by simp)]; simp
theorem zeroR_4099 : Tryz.zeroCells231[4099]? = some (.int .i64 0) := by
  rw [zeroR, Array.getElem?_append_right (by simp)]; simp

theorem RR_zero {code : List Nat} (hcode : ∀ x, x ∈ code → x < 256) (w : World) :
    RR (w.alloc (.cells (Tryz.zeroCells231.setIfInBounds 4097 (.string (str code))) 231)) w.heap.size ⟨M.init, code, 0⟩ 0 := by
  have hs := zeroR_size
  refine ⟨_, code, 0, ⟨M.init_wf, by show 0 < 4294967296; omega, hcode⟩, heap_alloc_new w _, zeroR_mod.setFar (by omega) _, ?_, ?_, ?_, rfl, Nat.le_refl _, hcode⟩
  · rw [Array.getElem?_setIfInBounds_self_of_lt (by omega)]
  · rw [Array.getElem?_setIfInBounds_ne (by omega)]; exact zeroR_4098
  · rw [Array.getElem?_setIfInBounds_ne (by omega)]; exact zeroR_4099

set_option maxHeartbeats 1000000 in
theorem rNewReader_any (code : List Nat) (hcode : ∀ x, x ∈ code → x < 256) (w : World) : Calls Tryz.prog 119 #[.string (str code)] w fun e w' => e = .returned (.pointer (some ⟨w.heap.size, 0, none⟩)) ∧
    RR w' w.heap.size (D.ofCode code) 4 ∧ Upd noBlk w w' := by
  have h0 := Lib.hid (RR_zero hcode w)
  go_enter Tryz.func119, Tryz.ntmps119
  go_wp2_with fail
  go_loopw [4] (fun i wr => ∃ k : Nat, i = .int .i64 k ∧ k ≤ 4 ∧ RR wr w.heap.size (nextN k ⟨M.init, code, 0⟩) k ∧ Upd noBlk w wr) (fun i _ => 4 - (intOf i).toNat)
  case atStart => exact ⟨0, rfl, by omega, h0.out, (Upd.refl _ _).alloc _⟩
  case round =>
    obtain ⟨k, rfl, hk, h1, h2⟩ := hrel
    have H1 := Lib.hid h1
    have H2 := Lib.hid h2
    clear h1 h2
    by_cases hlt : k < 4
    · go_wp2_with (go_at_call 153; refine (rnext_any _ k _ (by omega) _ H1.out).mono ?_; rintro e w2 ⟨rfl, q1, q2⟩)
      go_roundw
      case rel => exact ⟨k + 1, by go_num, hlt, q1, upd_new H2.out q2 (fun j hj => by rw [hj]; exact Nat.le_refl _)⟩
      case measure => simp [intOf]; omega
    · obtain rfl : k = 4 := by omega
      go_wp2
      go_ret
      exact ⟨rfl, H1.out, H2.out⟩

set_option maxHeartbeats 1000000 in
theorem rRBit_any (b n : Nat) (c : Int) (d : D) (hn : n ≤ 999999) (w : World) (h : RR w b d n) :
    Calls Tryz.prog 121 #[.pointer (some ⟨b, 0, none⟩), .int .i64 c] w fun e w' => e = .returned (.bool (d.one c)) ∧ RR w' b (d.bit c) (n + 1) ∧ Upd (· = b) w w' := by
  obtain ⟨arr, code, at_, h⟩ := h
  have h3 : w.cell? ⟨b, 4099, none⟩ = some (.int .i64 d.off) := by rw [cell_of_row w b _ _ _ _ h.blk]; exact h.o
  have f3 := frozen_of_row w b 4099 _ _ h.blk
  have hwf := h.wf
  have b1 : ((d.off : Nat) : Int) < 4294967296 := by have := hwf.off; omega
  have b2 : ((d.m.split (ctx c) : Nat) : Int) ≤ 4294967295 := by have := M.split_bd hwf.m (ctx_lt c); have := hwf.m.hi; omega
  have s3 : 4099 < arr.size := (Array.getElem?_eq_some_iff.1 h.o).1
  have HH := Lib.hid h
  have HN := Lib.hid hn
  -- behind the offset's change
  have fin : Hid (∀ (W : World) (arr1 : Array Value), W.heap[b]? = some (.cells arr1 231 (0, 0)) → MArr arr1 d.m → arr1[4097]? = some (.string (str code)) → arr1[4098]? = some (.int .i64 at_) → arr1[4099]? = some (.int .i64 (d.off1 c : Nat)) → ∀ W',
      W'.heap[b]? = some (.cells ((arr1.setIfInBounds (ctx c) (.int .i64 (((d.m.newp (ctx c) (d.one c) : Nat) : Int) - 1024))).setIfInBounds 4096 (.int .i64 (4294967295 - (((d.m.step (ctx c) (d.one c)).size : Nat) : Int)))) 231 (0, 0)) →
      RR W' b ⟨d.m.step (ctx c) (d.one c), d.left, d.off1 c⟩ n) := by
    intro W arr1 g1 g2 g3 g4 g5 W' g6
    have hcx := ctx_lt c
    refine ⟨_, code, at_, ⟨M.step_wf hwf.m hcx _, D.off1_lt hwf c, hwf.left⟩, g6, g2.step _ hcx _, ?_, ?_, ?_, HH.out.left, HH.out.le, HH.out.bytes⟩
    · rw [Array.getElem?_setIfInBounds_ne (by omega), Array.getElem?_setIfInBounds_ne (by omega)]; exact g3
    · rw [Array.getElem?_setIfInBounds_ne (by omega), Array.getElem?_setIfInBounds_ne (by omega)]; exact g4
    · rw [Array.getElem?_setIfInBounds_ne (by omega), Array.getElem?_setIfInBounds_ne (by omega)]; exact g5
  by_cases ho : d.m.split (ctx c) ≤ d.off
  · have e1 : d.one c = true := by unfold D.one; simpa using ho
    have e2 : d.off1 c = d.off - d.m.split (ctx c) := by unfold D.off1; rw [e1]; simp
    have t1 : ((d.m.split (ctx c) : Nat) : Int) ≤ ((d.off : Nat) : Int) := by omega
    have t2 : ((d.off : Nat) : Int) - ((d.m.split (ctx c) : Nat) : Int) = ((d.off1 c : Nat) : Int) := by rw [e2]; omega
    have E1 := Lib.hid e1
    have hblk : Hid (∀ nq : Nat, ((w.drewN nq).setCell ⟨b, 4099, none⟩ (.int .i64 (d.off1 c : Nat))).heap[b]? = some (.cells (arr.setIfInBounds 4099 (.int .i64 (d.off1 c : Nat))) 231 (0, 0))) := fun nq => heap_setCell_eq (w := w.drewN nq) _ HH.out.blk
    have hma : Hid (MArr (arr.setIfInBounds 4099 (.int .i64 (d.off1 c : Nat))) d.m) := HH.out.mod.setFar (by omega) _
    clear e1 e2 ho h hn
    go_enter Tryz.func121, Tryz.ntmps121
    go_wp2_with (go_at_call 108; refine (rsplit_any _ _ _ hwf.m _ _ _ HH.out.blk HH.out.mod).mono ?_; rintro e w' ⟨rfl, nq, rfl⟩)
    refine (rtake_any c true b d.m hwf.m _ _ _ (hblk.out _) hma.out).mono ?_
    rintro e w2 ⟨rfl, q1, q2⟩
    have Q : Hid (RR w2 b ⟨d.m.step (ctx c) true, d.left, d.off1 c⟩ n) := by
      have := fin.out _ _ (hblk.out nq) hma.out (by rw [Array.getElem?_setIfInBounds_ne (by omega)]; exact HH.out.s) (by rw [Array.getElem?_setIfInBounds_ne (by omega)]; exact HH.out.a) (by rw [Array.getElem?_setIfInBounds_self_of_lt (by omega)]) w2 (by rw [E1.out]; exact q1)
      rw [E1.out] at this; exact this
    have U : Hid (Upd (· = b) w w2) := ((Upd.ofDrewN (F := (· = b)) w nq).setCell (fun _ => rfl) _).trans q2
    clear q1 q2
    have bo := bit_of E1.out
    cases hs : d.m.shifts (ctx c) true
    · have Q' : Hid (RR w2 b (d.bit c) (n + 1)) := by
        rw [hs] at bo
        have := Q.out
        obtain ⟨a1, c1, t1, h⟩ := this
        refine ⟨a1, c1, t1, ?_⟩
        rw [← bo]
        exact ⟨h.wf, h.blk, h.mod, h.s, h.a, h.o, h.left, Nat.le_succ_of_le h.le, h.bytes⟩
      have sn : shiftN false = 0 := rfl
      have sn : shiftN false = 0 := rfl
      clear bo hs
      go_wp2_with fail
      refine wp_loop_once ?_
      go_wp2
      go_ret
      exact ⟨by rw [E1.out]; rfl, Q'.out, U.out⟩
    · have Bo : Hid ((⟨d.m.step (ctx c) true, d.left, d.off1 c⟩ : D).next = d.bit c) := by rw [hs] at bo; exact bo
      have sn : shiftN true = 1 := rfl
      have sn : shiftN true = 1 := rfl
      clear bo hs
      go_wp2_with fail
      go_loopw [8] (fun i wr => (i = .int .i64 0 ∧ RR wr b ⟨d.m.step (ctx c) true, d.left, d.off1 c⟩ n ∧ Upd (· = b) w wr) ∨ (i = .int .i64 1 ∧ RR wr b (d.bit c) (n + 1) ∧ Upd (· = b) w wr)) (fun i _ => 1 - (intOf i).toNat)
      case atStart => exact .inl ⟨rfl, Q.out, U.out⟩
      case round =>
        rcases hrel with ⟨rfl, g1, g2⟩ | ⟨rfl, g1, g2⟩
        · have H1 := Lib.hid g1
          have H2 := Lib.hid g2
          clear g1 g2
          go_wp2_with (go_at_call 153; refine (rnext_any _ n _ (by have := HN.out; omega) _ H1.out).mono ?_; rintro e w3 ⟨rfl, q1, q2⟩)
          go_roundw
          case rel => exact .inr ⟨rfl, by rw [← Bo.out]; exact q1, H2.out.trans q2⟩
          case measure => simp [intOf]
        · go_wp2
          go_ret
          exact ⟨by rw [E1.out]; rfl, g1, g2⟩
  · have e1 : d.one c = false := by unfold D.one; simpa using ho
    have e2 : d.off1 c = d.off := by unfold D.off1; rw [e1]; simp
    have t1 : decide (d.m.split (ctx c) ≤ d.off) = false := by simpa using ho
    have E1 := Lib.hid e1
    have E2 := Lib.hid e2
    clear e1 e2 ho h hn
    go_enter Tryz.func121, Tryz.ntmps121
    go_wp2_with (go_at_call 108; refine (rsplit_any _ _ _ hwf.m _ _ _ HH.out.blk HH.out.mod).mono ?_; rintro e w' ⟨rfl, nq, rfl⟩)
    refine (rtake_any c false b d.m hwf.m (w.drewN nq) _ _ HH.out.blk HH.out.mod).mono ?_
    rintro e w2 ⟨rfl, q1, q2⟩
    have Q : Hid (RR w2 b ⟨d.m.step (ctx c) false, d.left, d.off1 c⟩ n) := by
      have := fin.out _ _ HH.out.blk HH.out.mod HH.out.s HH.out.a (by rw [E2.out]; exact HH.out.o) w2 (by rw [E1.out]; exact q1)
      rw [E1.out] at this; exact this
    have U : Hid (Upd (· = b) w w2) := (Upd.ofDrewN (F := (· = b)) w nq).trans q2
    clear q1 q2
    have bo := bit_of E1.out
    cases hs : d.m.shifts (ctx c) false
    · have Q' : Hid (RR w2 b (d.bit c) (n + 1)) := by
        rw [hs] at bo
        have := Q.out
        obtain ⟨a1, c1, t1, h⟩ := this
        refine ⟨a1, c1, t1, ?_⟩
        rw [← bo]
        exact ⟨h.wf, h.blk, h.mod, h.s, h.a, h.o, h.left, Nat.le_succ_of_le h.le, h.bytes⟩
      have sn : shiftN false = 0 := rfl
      have sn : shiftN false = 0 := rfl
      clear bo hs
      go_wp2_with fail
      refine wp_loop_once ?_
      go_wp2
      go_ret
      exact ⟨by rw [E1.out]; rfl, Q'.out, U.out⟩
    · have Bo : Hid ((⟨d.m.step (ctx c) false, d.left, d.off1 c⟩ : D).next = d.bit c) := by rw [hs] at bo; exact bo
      have sn : shiftN true = 1 := rfl
      have sn : shiftN true = 1 := rfl
      clear bo hs
      go_wp2_with fail
      go_loopw [8] (fun i wr => (i = .int .i64 0 ∧ RR wr b ⟨d.m.step (ctx c) false, d.left, d.off1 c⟩ n ∧ Upd (· = b) w wr) ∨ (i = .int .i64 1 ∧ RR wr b (d.bit c) (n + 1) ∧ Upd (· = b) w wr)) (fun i _ => 1 - (intOf i).toNat)
      case atStart => exact .inl ⟨rfl, Q.out, U.out⟩
      case round =>
        rcases hrel with ⟨rfl, g1, g2⟩ | ⟨rfl, g1, g2⟩
        · have H1 := Lib.hid g1
          have H2 := Lib.hid g2
          clear g1 g2
          go_wp2_with (go_at_call 153; refine (rnext_any _ n _ (by have := HN.out; omega) _ H1.out).mono ?_; rintro e w3 ⟨rfl, q1, q2⟩)
          go_roundw
          case rel => exact .inr ⟨rfl, by rw [← Bo.out]; exact q1, H2.out.trans q2⟩
          case measure => simp [intOf]
        · go_wp2
          go_ret
          exact ⟨by rw [E1.out]; rfl, g1, g2⟩
end Go.Proofs.YtcikldoaidmnhaaGreatDoor
