/- Walks of the reference's reader. -/
import Derived.Test.YtadfolnhomongaaDoorWalkR1
namespace Go.Proofs.YtadfolnhomongaaDoor
open Go Go.RowKit Pc
set_option maxRecDepth 100000

/-- The reference's reader, behind at most n bytes. -/
structure RRW (w : World) (b : Nat) (d : D) (n : Nat) (arr : Array Value) (code : List Nat) (at_ : Nat) : Prop where
  wf : d.Wf
  blk : w.heap[b]? = some (.cells arr 87 (0, 0))
  mod : MArr arr d.m
  s : arr[4097]? = some (.string (str code))
  a : arr[4098]? = some (.int .i64 at_)
  o : arr[4099]? = some (.int .i64 d.off)
  left : d.left = code.drop at_
  le : at_ ≤ n
  bytes : ∀ x, x ∈ code → x < 256
def RR (w : World) (b : Nat) (d : D) (n : Nat) : Prop := ∃ arr code at_, RRW w b d n arr code at_

theorem RR.keep {w w' : World} {b n : Nat} {d : D} (h : RR w b d n) (hk : w'.heap[b]? = w.heap[b]?) : RR w' b d n := by
  obtain ⟨arr, code, at_, h⟩ := h
  exact ⟨arr, code, at_, h.wf, hk.trans h.blk, h.mod, h.s, h.a, h.o, h.left, h.le, h.bytes⟩
theorem RR.lt {w : World} {b n : Nat} {d : D} (h : RR w b d n) : b < w.heap.size := by
  obtain ⟨arr, code, at_, h⟩ := h
  exact lt_of_heap h.blk
theorem RR.upd {w w' : World} {b n : Nat} {d : D} {G : Nat → Prop} (h : RR w b d n) (hu : Upd G w w') (hd : ¬ G b) : RR w' b d n := h.keep (hu.block b h.lt hd)
theorem RR.wf {w : World} {b n : Nat} {d : D} (h : RR w b d n) : d.Wf := by
  obtain ⟨arr, code, at_, h⟩ := h
  exact h.wf

set_option maxHeartbeats 1000000 in
theorem rnext_any (b n : Nat) (d : D) (hn : n ≤ 1000000) (w : World) (h : RR w b d n) :
    Calls Tryd.prog 44 #[.pointer (some ⟨b, 0, none⟩)] w fun e w' => e = .returned (.tuple #[]) ∧ RR w' b d.next (n + 1) ∧ Upd (· = b) w w' := by
  obtain ⟨arr, code, at_, h⟩ := h
  have h1 : w.cell? ⟨b, 4097, none⟩ = some (.string (str code)) := by rw [cell_of_row w b _ _ _ _ h.blk]; exact h.s
  have h2 : w.cell? ⟨b, 4098, none⟩ = some (.int .i64 at_) := by rw [cell_of_row w b _ _ _ _ h.blk]; exact h.a
  have h3 : w.cell? ⟨b, 4099, none⟩ = some (.int .i64 d.off) := by rw [cell_of_row w b _ _ _ _ h.blk]; exact h.o
  have f2 := frozen_of_row w b 4098 _ _ h.blk
  have f3 := frozen_of_row w b 4099 _ _ h.blk
  have b1 : ((at_ : Nat) : Int) ≤ 1000000 := by have := h.le; omega
  have b2 : ((d.off : Nat) : Int) < 4294967296 := by have := h.wf.off; omega
  have hsz := str_size code
  have s3 : 4099 < arr.size := (Array.getElem?_eq_some_iff.1 h.o).1
  have hwf := D.next_wf h.wf
  have HH := Lib.hid h
  have fin : Hid (∀ nq : Nat, ∀ off' : Nat, d.next = ⟨d.m, code.drop (at_ + 1), off'⟩ →
      RR (((w.drewN nq).setCell ⟨b, 4098, none⟩ (.int .i64 (((at_ + 1 : Nat)) : Int))).setCell ⟨b, 4099, none⟩ (.int .i64 off')) b d.next (n + 1) ∧
      Upd (· = b) w (((w.drewN nq).setCell ⟨b, 4098, none⟩ (.int .i64 (((at_ + 1 : Nat)) : Int))).setCell ⟨b, 4099, none⟩ (.int .i64 off'))) := by
    intro nq off' e
    refine ⟨⟨_, code, at_ + 1, hwf, heap_setCell_eq (w := (w.drewN nq).setCell ⟨b, 4098, none⟩ _) _ (heap_setCell_eq (w := w.drewN nq) _ HH.out.blk), ?_, ?_, ?_, ?_, ?_, ?_, HH.out.bytes⟩, ((Upd.ofDrewN (F := (· = b)) w nq).setCell (fun _ => rfl) _).setCell (fun _ => rfl) _⟩
    · rw [e]; exact (HH.out.mod.setFar (by omega) _).setFar (by omega) _
    · rw [Array.getElem?_setIfInBounds_ne (by omega), Array.getElem?_setIfInBounds_ne (by omega)]; exact HH.out.s
    · rw [Array.getElem?_setIfInBounds_ne (by omega), Array.getElem?_setIfInBounds_self_of_lt (by omega)]
    · rw [Array.getElem?_setIfInBounds_self_of_lt (by simpa using s3), e]
    · rw [e]
    · have := HH.out.le; omega
  clear hwf s3 h
  by_cases hlt : at_ < code.length
  · have hx : ((code[at_] : Nat) : Int) < 256 := by have := HH.out.bytes _ (List.getElem_mem hlt); omega
    have hi : ∀ (h : at_ < (str code).size), ((str code)[at_]'h).toNat = code[at_] := fun h => str_get hlt HH.out.bytes h
    have hnx : Hid (d.next = ⟨d.m, code.drop (at_ + 1), (d.off * 256 + code[at_]) % 4294967296⟩) := by
      show _ = _
      unfold D.next
      have e : d.left = code[at_] :: code.drop (at_ + 1) := by rw [HH.out.left, List.drop_eq_getElem_cons hlt]
      rw [e]
    go_enter Tryd.func44, Tryd.ntmps44
    go_wp2_with fail
    go_quiet (fail)
    go_wp2_with fail
    go_quiet (fail)
    go_wp2
    go_end0
    have hf := fun nq => fin.out nq _ hnx.out
    have e1 : (((d.off * 256 + code[at_]) % 4294967296 : Nat) : Int) = (((d.off : Nat) : Int) * 256 + ((code[at_] : Nat) : Int)) % 4294967296 := by omega
    have e2 : (((at_ + 1 : Nat)) : Int) = (at_ : Int) + 1 := by omega
    simp only [e1, e2] at hf
    exact ⟨rfl, hf _⟩
  · have hnx : Hid (d.next = ⟨d.m, code.drop (at_ + 1), d.off * 256 % 4294967296⟩) := by
      show _ = _
      unfold D.next
      have e : d.left = [] := by rw [HH.out.left]; exact List.drop_eq_nil_of_le (by omega)
      rw [e, List.drop_eq_nil_of_le (by omega)]
    go_enter Tryd.func44, Tryd.ntmps44
    go_wp2_with fail
    go_quiet (fail)
    go_wp2
    go_end0
    have hf := fun nq => fin.out nq _ hnx.out
    have e1 : ((d.off * 256 % 4294967296 : Nat) : Int) = (((d.off : Nat) : Int) * 256) % 4294967296 := by omega
    have e2 : (((at_ + 1 : Nat)) : Int) = (at_ : Int) + 1 := by omega
    simp only [e1, e2] at hf
    exact ⟨rfl, hf _⟩

theorem zeroR : Tryd.zeroCells87 = Array.replicate 4097 (.int .i64 0) ++ #[.string ⟨#[]⟩, .int .i64 0, .int .i64 0] := by kernel_rfl
theorem zeroR_mod : MArr Tryd.zeroCells87 M.init := by
  rw [zeroR]
  refine ⟨fun i hi => ?_, ?_⟩
  · rw [Array.getElem?_append_left (by simp; omega), Array.getElem?_replicate, if_pos (by omega)]; rfl
  · rw [Array.getElem?_append_left (by simp), Array.getElem?_replicate, if_pos (by omega)]; rfl
theorem zeroR_size : Tryd.zeroCells87.size = 4100 := by rw [zeroR]; simp
theorem zeroR_4098 : Tryd.zeroCells87[4098]? = some (.int .i64 0) := by
  rw [zeroR, Array.getElem?_append_right (by simp)]; simp
theorem zeroR_4099 : Tryd.zeroCells87[4099]? = some (.int .i64 0) := by
  rw [zeroR, Array.getElem?_append_right (by simp)]; simp

theorem RR_zero {code : List Nat} (hcode : ∀ x, x ∈ code → x < 256) (w : World) :
    RR (w.alloc (.cells (Tryd.zeroCells87.setIfInBounds 4097 (.string (str code))) 87)) w.heap.size ⟨M.init, code, 0⟩ 0 := by
  have hs := zeroR_size
  refine ⟨_, code, 0, ⟨M.init_wf, by show 0 < 4294967296; omega, hcode⟩, heap_alloc_new w _, zeroR_mod.setFar (by omega) _, ?_, ?_, ?_, rfl, Nat.le_refl _, hcode⟩
  · rw [Array.getElem?_setIfInBounds_self_of_lt (by omega)]
  · rw [Array.getElem?_setIfInBounds_ne (by omega)]; exact zeroR_4098
  · rw [Array.getElem?_setIfInBounds_ne (by omega)]; exact zeroR_4099

set_option maxHeartbeats 1000000 in
theorem rNewReader_any (code : List Nat) (hcode : ∀ x, x ∈ code → x < 256) (w : World) : Calls Tryd.prog 27 #[.string (str code)] w fun e w' => e = .returned (.pointer (some ⟨w.heap.size, 0, none⟩)) ∧
    RR w' w.heap.size (D.ofCode code) 4 ∧ Upd noBlk w w' := by
  have h0 := Lib.hid (RR_zero hcode w)
  go_enter Tryd.func27, Tryd.ntmps27
  go_wp2_with fail
  go_loopw [4] (fun i wr => ∃ k : Nat, i = .int .i64 k ∧ k ≤ 4 ∧ RR wr w.heap.size (nextN k ⟨M.init, code, 0⟩) k ∧ Upd noBlk w wr) (fun i _ => 4 - (intOf i).toNat)
  case atStart => exact ⟨0, rfl, by omega, h0.out, (Upd.refl _ _).alloc _⟩
  case round =>
    obtain ⟨k, rfl, hk, h1, h2⟩ := hrel
    have H1 := Lib.hid h1
    have H2 := Lib.hid h2
    clear h1 h2
    by_cases hlt : k < 4
    · go_wp2_with (go_at_call 44; refine (rnext_any _ k _ (by omega) _ H1.out).mono ?_; rintro e w2 ⟨rfl, q1, q2⟩)
      go_roundw
      case rel => exact ⟨k + 1, by go_num, hlt, q1, upd_new H2.out q2 (fun j hj => by rw [hj]; exact Nat.le_refl _)⟩
      case measure => simp [intOf]; omega
    · obtain rfl : k = 4 := by omega
      go_wp2
      go_ret
      exact ⟨rfl, H1.out, H2.out⟩

set_option maxHeartbeats 1000000 in
theorem rRBit_any (b n : Nat) (c : Int) (d : D) (hn : n ≤ 999999) (w : World) (h : RR w b d n) :
    Calls Tryd.prog 29 #[.pointer (some ⟨b, 0, none⟩), .int .i64 c] w fun e w' => e = .returned (.bool (d.one c)) ∧ RR w' b (d.bit c) (n + 1) ∧ Upd (· = b) w w' := by
  obtain ⟨arr, code, at_, h⟩ := h
  have h3 : w.cell? ⟨b, 4099, none⟩ = some (.int .i64 d.off) := by rw [cell_of_row w b _ _ _ _ h.blk]; exact h.o
  have f3 := frozen_of_row w b 4099 _ _ h.blk
  have hwf := h.wf
  have b1 : ((d.off : Nat) : Int) < 4294967296 := by have := hwf.off; omega
  have b2 : ((d.m.split (ctx c) : Nat) : Int) ≤ 4294967295 := by have := M.split_bd hwf.m (ctx_lt c); have := hwf.m.hi; omega
  have s3 : 4099 < arr.size := (Array.getElem?_eq_some_iff.1 h.o).1
  have HH := Lib.hid h
  have HN := Lib.hid hn
  -- behind the offset's change
  have fin : Hid (∀ (W : World) (arr1 : Array Value), W.heap[b]? = some (.cells arr1 87 (0, 0)) → MArr arr1 d.m → arr1[4097]? = some (.string (str code)) → arr1[4098]? = some (.int .i64 at_) → arr1[4099]? = some (.int .i64 (d.off1 c : Nat)) → ∀ W',
      W'.heap[b]? = some (.cells ((arr1.setIfInBounds (ctx c) (.int .i64 (((d.m.newp (ctx c) (d.one c) : Nat) : Int) - 1024))).setIfInBounds 4096 (.int .i64 (4294967295 - (((d.m.step (ctx c) (d.one c)).size : Nat) : Int)))) 87 (0, 0)) →
      RR W' b ⟨d.m.step (ctx c) (d.one c), d.left, d.off1 c⟩ n) := by
    intro W arr1 g1 g2 g3 g4 g5 W' g6
    have hcx := ctx_lt c
    refine ⟨_, code, at_, ⟨M.step_wf hwf.m hcx _, D.off1_lt hwf c, hwf.left⟩, g6, g2.step _ hcx _, ?_, ?_, ?_, HH.out.left, HH.out.le, HH.out.bytes⟩
    · rw [Array.getElem?_setIfInBounds_ne (by omega), Array.getElem?_setIfInBounds_ne (by omega)]; exact g3
    · rw [Array.getElem?_setIfInBounds_ne (by omega), Array.getElem?_setIfInBounds_ne (by omega)]; exact g4
    · rw [Array.getElem?_setIfInBounds_ne (by omega), Array.getElem?_setIfInBounds_ne (by omega)]; exact g5
  by_cases ho : d.m.split (ctx c) ≤ d.off
  · have e1 : d.one c = true := by unfold D.one; simpa using ho
    have e2 : d.off1 c = d.off - d.m.split (ctx c) := by unfold D.off1; rw [e1]; simp
    have t1 : ((d.m.split (ctx c) : Nat) : Int) ≤ ((d.off : Nat) : Int) := by omega
    have t2 : ((d.off : Nat) : Int) - ((d.m.split (ctx c) : Nat) : Int) = ((d.off1 c : Nat) : Int) := by rw [e2]; omega
    have E1 := Lib.hid e1
    have hblk : Hid (∀ nq : Nat, ((w.drewN nq).setCell ⟨b, 4099, none⟩ (.int .i64 (d.off1 c : Nat))).heap[b]? = some (.cells (arr.setIfInBounds 4099 (.int .i64 (d.off1 c : Nat))) 87 (0, 0))) := fun nq => heap_setCell_eq (w := w.drewN nq) _ HH.out.blk
    have hma : Hid (MArr (arr.setIfInBounds 4099 (.int .i64 (d.off1 c : Nat))) d.m) := HH.out.mod.setFar (by omega) _
    clear e1 e2 ho h hn
    go_enter Tryd.func29, Tryd.ntmps29
    go_wp2_with (go_at_call 46; refine (rsplit_any _ _ _ hwf.m _ _ _ HH.out.blk HH.out.mod).mono ?_; rintro e w' ⟨rfl, nq, rfl⟩)
    refine (rtake_any c true b d.m hwf.m _ _ _ (hblk.out _) hma.out).mono ?_
    rintro e w2 ⟨rfl, q1, q2⟩
    have Q : Hid (RR w2 b ⟨d.m.step (ctx c) true, d.left, d.off1 c⟩ n) := by
      have := fin.out _ _ (hblk.out nq) hma.out (by rw [Array.getElem?_setIfInBounds_ne (by omega)]; exact HH.out.s) (by rw [Array.getElem?_setIfInBounds_ne (by omega)]; exact HH.out.a) (by rw [Array.getElem?_setIfInBounds_self_of_lt (by omega)]) w2 (by rw [E1.out]; exact q1)
      rw [E1.out] at this; exact this
    have U : Hid (Upd (· = b) w w2) := ((Upd.ofDrewN (F := (· = b)) w nq).setCell (fun _ => rfl) _).trans q2
    clear q1 q2
    have bo := bit_of E1.out
    cases hs : d.m.shifts (ctx c) true
    · have Q' : Hid (RR w2 b (d.bit c) (n + 1)) := by
        rw [hs] at bo
        have := Q.out
        obtain ⟨a1, c1, t1, h⟩ := this
        refine ⟨a1, c1, t1, ?_⟩
        rw [← bo]
        exact ⟨h.wf, h.blk, h.mod, h.s, h.a, h.o, h.left, Nat.le_succ_of_le h.le, h.bytes⟩
      have sn : shiftN false = 0 := rfl
      have sn : shiftN false = 0 := rfl
      clear bo hs
      go_wp2_with fail
      refine wp_loop_once ?_
      go_wp2
      go_ret
      exact ⟨by rw [E1.out]; rfl, Q'.out, U.out⟩
    · have Bo : Hid ((⟨d.m.step (ctx c) true, d.left, d.off1 c⟩ : D).next = d.bit c) := by rw [hs] at bo; exact bo
      have sn : shiftN true = 1 := rfl
      have sn : shiftN true = 1 := rfl
      clear bo hs
      go_wp2_with fail
      go_loopw [8] (fun i wr => (i = .int .i64 0 ∧ RR wr b ⟨d.m.step (ctx c) true, d.left, d.off1 c⟩ n ∧ Upd (· = b) w wr) ∨ (i = .int .i64 1 ∧ RR wr b (d.bit c) (n + 1) ∧ Upd (· = b) w wr)) (fun i _ => 1 - (intOf i).toNat)
      case atStart => exact .inl ⟨rfl, Q.out, U.out⟩
      case round =>
        rcases hrel with ⟨rfl, g1, g2⟩ | ⟨rfl, g1, g2⟩
        · have H1 := Lib.hid g1
          have H2 := Lib.hid g2
          clear g1 g2
          go_wp2_with (go_at_call 44; refine (rnext_any _ n _ (by have := HN.out; omega) _ H1.out).mono ?_; rintro e w3 ⟨rfl, q1, q2⟩)
          go_roundw
          case rel => exact .inr ⟨rfl, by rw [← Bo.out]; exact q1, H2.out.trans q2⟩
          case measure => simp [intOf]
        · go_wp2
          go_ret
          exact ⟨by rw [E1.out]; rfl, g1, g2⟩
  · have e1 : d.one c = false := by unfold D.one; simpa using ho
    have e2 : d.off1 c = d.off := by unfold D.off1; rw [e1]; simp
    have t1 : decide (d.m.split (ctx c) ≤ d.off) = false := by simpa using ho
    have E1 := Lib.hid e1
    have E2 := Lib.hid e2
    clear e1 e2 ho h hn
    go_enter Tryd.func29, Tryd.ntmps29
    go_wp2_with (go_at_call 46; refine (rsplit_any _ _ _ hwf.m _ _ _ HH.out.blk HH.out.mod).mono ?_; rintro e w' ⟨rfl, nq, rfl⟩)
    refine (rtake_any c false b d.m hwf.m (w.drewN nq) _ _ HH.out.blk HH.out.mod).mono ?_
    rintro e w2 ⟨rfl, q1, q2⟩
    have Q : Hid (RR w2 b ⟨d.m.step (ctx c) false, d.left, d.off1 c⟩ n) := by
      have := fin.out _ _ HH.out.blk HH.out.mod HH.out.s HH.out.a (by rw [E2.out]; exact HH.out.o) w2 (by rw [E1.out]; exact q1)
      rw [E1.out] at this; exact this
    have U : Hid (Upd (· = b) w w2) := (Upd.ofDrewN (F := (· = b)) w nq).trans q2
    clear q1 q2
    have bo := bit_of E1.out
    cases hs : d.m.shifts (ctx c) false
    · have Q' : Hid (RR w2 b (d.bit c) (n + 1)) := by
        rw [hs] at bo
        have := Q.out
        obtain ⟨a1, c1, t1, h⟩ := this
        refine ⟨a1, c1, t1, ?_⟩
        rw [← bo]
        exact ⟨h.wf, h.blk, h.mod, h.s, h.a, h.o, h.left, Nat.le_succ_of_le h.le, h.bytes⟩
      have sn : shiftN false = 0 := rfl
      have sn : shiftN false = 0 := rfl
      clear bo hs
      go_wp2_with fail
      refine wp_loop_once ?_
      go_wp2
      go_ret
      exact ⟨by rw [E1.out]; rfl, Q'.out, U.out⟩
    · have Bo : Hid ((⟨d.m.step (ctx c) false, d.left, d.off1 c⟩ : D).next = d.bit c) := by rw [hs] at bo; exact bo
      have sn : shiftN true = 1 := rfl
      have sn : shiftN true = 1 := rfl
      clear bo hs
      go_wp2_with fail
      go_loopw [8] (fun i wr => (i = .int .i64 0 ∧ RR wr b ⟨d.m.step (ctx c) false, d.left, d.off1 c⟩ n ∧ Upd (· = b) w wr) ∨ (i = .int .i64 1 ∧ RR wr b (d.bit c) (n + 1) ∧ Upd (· = b) w wr)) (fun i _ => 1 - (intOf i).toNat)
      case atStart => exact .inl ⟨rfl, Q.out, U.out⟩
      case round =>
        rcases hrel with ⟨rfl, g1, g2⟩ | ⟨rfl, g1, g2⟩
        · have H1 := Lib.hid g1
          have H2 := Lib.hid g2
          clear g1 g2
          go_wp2_with (go_at_call 44; refine (rnext_any _ n _ (by have := HN.out; omega) _ H1.out).mono ?_; rintro e w3 ⟨rfl, q1, q2⟩)
          go_roundw
          case rel => exact .inr ⟨rfl, by rw [← Bo.out]; exact q1, H2.out.trans q2⟩
          case measure => simp [intOf]
        · go_wp2
          go_ret
          exact ⟨by rw [E1.out]; rfl, g1, g2⟩
end Go.Proofs.YtadfolnhomongaaDoor
