/- Parts: Walks of the reference's coder: carried. Walks of the reference's coder: the reader's Bit. Walks of the reference's coder: the writer's Bit. -/
import Derived.Test.YtcikldoaidmnhaaGreatDoorQClus28
namespace Go.Proofs.YtcikldoaidmnhaaGreatDoor
open Go Go.RowKit Pc
set_option maxRecDepth 100000
/-- The reference's reader, behind at most n bytes. -/
structure RRW (w : World) (b : Nat) (d : D) (n : Nat) (arr : Array Value) (code : List Nat) (at_ : Nat) : Prop where
 wf : d.Wf
 blk : w.heap[b]? = some (.cells arr 231 (0, 0))
 mod : MArr arr d.m
 s : arr[4097]? = some (.string (str code))
 a : arr[4098]? = some (.int .i64 at_)
 o : arr[4099]? = some (.int .i64 d.off)
 left : d.left = code.drop at_
 le : at_ ≤ n
 bytes : ∀ x, x ∈ code → x < 256
def RR (w : World) (b : Nat) (d : D) (n : Nat) : Prop := ∃ arr code at_, RRW w b d n arr code at_
theorem RR.keep {w w' : World} {b n : Nat} {d : D} (h : RR w b d n) (hk : w'.heap[b]? = w.heap[b]?) : RR w' b d n := by
 obtain ⟨arr, code, at_, h⟩ := h
 exact ⟨arr, code, at_, h.wf, hk.trans h.blk, h.mod, h.s, h.a, h.o, h.left, h.le, h.bytes⟩
theorem RR.lt {w : World} {b n : Nat} {d : D} (h : RR w b d n) : b < w.heap.size := by
 obtain ⟨arr, code, at_, h⟩ := h
 exact lt_of_heap h.blk
theorem RR.upd {w w' : World} {b n : Nat} {d : D} {G : Nat → Prop} (h : RR w b d n) (hu : Upd G w w') (hd : ¬ G b) : RR w' b d n := h.keep (hu.block b h.lt hd)
theorem RR.wf {w : World} {b n : Nat} {d : D} (h : RR w b d n) : d.Wf := by
 obtain ⟨arr, code, at_, h⟩ := h
 exact h.wf
set_option maxHeartbeats 1000000 in
theorem rnext_any (b n : Nat) (d : D) (hn : n ≤ 1000000) (w : World) (h : RR w b d n) :
  Calls Tryz.prog 153 #[.pointer (some ⟨b, 0, none⟩)] w fun e w' => e = .returned (.tuple #[]) ∧ RR w' b d.next (n + 1) ∧ Upd (· = b) w w' := by
 obtain ⟨arr, code, at_, h⟩ := h
 have h1 : w.cell? ⟨b, 4097, none⟩ = some (.string (str code)) := by rw [cell_of_row w b _ _ _ _ h.blk]; exact h.s
 have h2 : w.cell? ⟨b, 4098, none⟩ = some (.int .i64 at_) := by rw [cell_of_row w b _ _ _ _ h.blk]; exact h.a
 have h3 : w.cell? ⟨b, 4099, none⟩ = some (.int .i64 d.off) := by rw [cell_of_row w b _ _ _ _ h.blk]; exact h.o
 have f2 := frozen_of_row w b 4098 _ _ h.blk
 have f3 := frozen_of_row w b 4099 _ _ h.blk
 have b1 : ((at_ : Nat) : Int) ≤ 1000000 := by have := h.le; omega
 have b2 : ((d.off : Nat) : Int) < 4294967296 := by have := h.wf.off; omega
 have hsz := str_size code
 have s3 : 4099 < arr.size := (Array.getElem?_eq_some_iff.1 h.o).1
 have hwf := D.next_wf h.wf
 have HH := Lib.hid h
 have fin : Hid (∀ nq : Nat, ∀ off' : Nat, d.next = ⟨d.m, code.drop (at_ + 1), off'⟩ →
   RR (((w.drewN nq).setCell ⟨b, 4098, none⟩ (.int .i64 (((at_ + 1 : Nat)) : Int))).setCell ⟨b, 4099, none⟩ (.int .i64 off')) b d.next (n + 1) ∧
   Upd (· = b) w (((w.drewN nq).setCell ⟨b, 4098, none⟩ (.int .i64 (((at_ + 1 : Nat)) : Int))).setCell ⟨b, 4099, none⟩ (.int .i64 off'))) := by
  intro nq off' e
  refine ⟨⟨_, code, at_ + 1, hwf, heap_setCell_eq (w := (w.drewN nq).setCell ⟨b, 4098, none⟩ _) _ (heap_setCell_eq (w := w.drewN nq) _ HH.out.blk), ?_, ?_, ?_, ?_, ?_, ?_, HH.out.bytes⟩, ((Upd.ofDrewN (F := (· = b)) w nq).setCell (fun _ => rfl) _).setCell (fun _ => rfl) _⟩
  ·rw [e]; exact (HH.out.mod.setFar (by omega) _).setFar (by omega) _
  ·rw [Array.getElem?_setIfInBounds_ne (by omega), Array.getElem?_setIfInBounds_ne (by omega)]; exact HH.out.s
  ·rw [Array.getElem?_setIfInBounds_ne (by omega), Array.getElem?_setIfInBounds_self_of_lt (by omega)]
  ·rw [Array.getElem?_setIfInBounds_self_of_lt (by simpa using s3), e]
  ·rw [e]
  ·have := HH.out.le; omega
 clear hwf s3 h
 by_cases hlt : at_ < code.length
 ·have hx : ((code[at_] : Nat) : Int) < 256 := by have := HH.out.bytes _ (List.getElem_mem hlt); omega
  have hi : ∀ (h : at_ < (str code).size), ((str code)[at_]'h).toNat = code[at_] := fun h => str_get hlt HH.out.bytes h
  have hnx : Hid (d.next = ⟨d.m, code.drop (at_ + 1), (d.off * 256 + code[at_]) % 4294967296⟩) := by
   show _ = _
   unfold D.next
   have e : d.left = code[at_] :: code.drop (at_ + 1) := by rw [HH.out.left, List.drop_eq_getElem_cons hlt]
   rw [e]
  go_enter Tryz.func153, Tryz.ntmps153
  go_wp2_with fail
  go_quiet (fail)
  go_wp2_with fail
  go_quiet (fail)
  go_wp2
  go_end0
  have hf := fun nq => fin.out nq _ hnx.out
  have e1 : (((d.off * 256 + code[at_]) % 4294967296 : Nat) : Int) = (((d.off : Nat) : Int) * 256 + ((code[at_] : Nat) : Int)) % 4294967296 := by omega
  have e2 : (((at_ + 1 : Nat)) : Int) = (at_ : Int) + 1 := by omega
  simp only [e1, e2] at hf
  exact ⟨rfl, hf _⟩
 ·have hnx : Hid (d.next = ⟨d.m, code.drop (at_ + 1), d.off * 256 % 4294967296⟩) := by
   show _ = _
   unfold D.next
   have e : d.left = [] := by rw [HH.out.left]; exact List.drop_eq_nil_of_le (by omega)
   rw [e, List.drop_eq_nil_of_le (by omega)]
  go_enter Tryz.func153, Tryz.ntmps153
  go_wp2_with fail
  go_quiet (fail)
  go_wp2
  go_end0
  have hf := fun nq => fin.out nq _ hnx.out
  have e1 : ((d.off * 256 % 4294967296 : Nat) : Int) = (((d.off : Nat) : Int) * 256) % 4294967296 := by omega
  have e2 : (((at_ + 1 : Nat)) : Int) = (at_ : Int) + 1 := by omega
  simp only [e1, e2] at hf
  exact ⟨rfl, hf _⟩
set_option maxHeartbeats 1000000 in
theorem rRBit_any (b n : Nat) (c : Int) (d : D) (hn : n ≤ 999999) (w : World) (h : RR w b d n) :
  Calls Tryz.prog 121 #[.pointer (some ⟨b, 0, none⟩), .int .i64 c] w fun e w' => e = .returned (.bool (d.one c)) ∧ RR w' b (d.bit c) (n + 1) ∧ Upd (· = b) w w' := by
 obtain ⟨arr, code, at_, h⟩ := h
 have h3 : w.cell? ⟨b, 4099, none⟩ = some (.int .i64 d.off) := by rw [cell_of_row w b _ _ _ _ h.blk]; exact h.o
 have f3 := frozen_of_row w b 4099 _ _ h.blk
 have hwf := h.wf
 have b1 : ((d.off : Nat) : Int) < 4294967296 := by have := hwf.off; omega
 have b2 : ((d.m.split (ctx c) : Nat) : Int) ≤ 4294967295 := by have := M.split_bd hwf.m (ctx_lt c); have := hwf.m.hi; omega
 have s3 : 4099 < arr.size := (Array.getElem?_eq_some_iff.1 h.o).1
 have HH := Lib.hid h
 have HN := Lib.hid hn
 -- behind the offset's change
 have fin : Hid (∀ (W : World) (arr1 : Array Value), W.heap[b]? = some (.cells arr1 231 (0, 0)) → MArr arr1 d.m → arr1[4097]? = some (.string (str code)) → arr1[4098]? = some (.int .i64 at_) → arr1[4099]? = some (.int .i64 (d.off1 c : Nat)) → ∀ W',
   W'.heap[b]? = some (.cells ((arr1.setIfInBounds (ctx c) (.int .i64 (((d.m.newp (ctx c) (d.one c) : Nat) : Int) - 1024))).setIfInBounds 4096 (.int .i64 (4294967295 - (((d.m.step (ctx c) (d.one c)).size : Nat) : Int)))) 231 (0, 0)) →
   RR W' b ⟨d.m.step (ctx c) (d.one c), d.left, d.off1 c⟩ n) := by
  intro W arr1 g1 g2 g3 g4 g5 W' g6
  have hcx := ctx_lt c
  refine ⟨_, code, at_, ⟨M.step_wf hwf.m hcx _, D.off1_lt hwf c, hwf.left⟩, g6, g2.step _ hcx _, ?_, ?_, ?_, HH.out.left, HH.out.le, HH.out.bytes⟩
  ·rw [Array.getElem?_setIfInBounds_ne (by omega), Array.getElem?_setIfInBounds_ne (by omega)]; exact g3
  ·rw [Array.getElem?_setIfInBounds_ne (by omega), Array.getElem?_setIfInBounds_ne (by omega)]; exact g4
  ·rw [Array.getElem?_setIfInBounds_ne (by omega), Array.getElem?_setIfInBounds_ne (by omega)]; exact g5
 by_cases ho : d.m.split (ctx c) ≤ d.off
 ·have e1 : d.one c = true := by unfold D.one; simpa using ho
  have e2 : d.off1 c = d.off - d.m.split (ctx c) := by unfold D.off1; rw [e1]; simp
  have t1 : ((d.m.split (ctx c) : Nat) : Int) ≤ ((d.off : Nat) : Int) := by omega
  have t2 : ((d.off : Nat) : Int) - ((d.m.split (ctx c) : Nat) : Int) = ((d.off1 c : Nat) : Int) := by rw [e2]; omega
  have E1 := Lib.hid e1
  have hblk : Hid (∀ nq : Nat, ((w.drewN nq).setCell ⟨b, 4099, none⟩ (.int .i64 (d.off1 c : Nat))).heap[b]? = some (.cells (arr.setIfInBounds 4099 (.int .i64 (d.off1 c : Nat))) 231 (0, 0))) := fun nq => heap_setCell_eq (w := w.drewN nq) _ HH.out.blk
  have hma : Hid (MArr (arr.setIfInBounds 4099 (.int .i64 (d.off1 c : Nat))) d.m) := HH.out.mod.setFar (by omega) _
  clear e1 e2 ho h hn
  go_enter Tryz.func121, Tryz.ntmps121
  go_wp2_with (go_at_call 108; refine (rsplit_any _ _ _ hwf.m _ _ _ HH.out.blk HH.out.mod).mono ?_; rintro e w' ⟨rfl, nq, rfl⟩)
  refine (rtake_any c true b d.m hwf.m _ _ _ (hblk.out _) hma.out).mono ?_
  rintro e w2 ⟨rfl, q1, q2⟩
  have Q : Hid (RR w2 b ⟨d.m.step (ctx c) true, d.left, d.off1 c⟩ n) := by
   have := fin.out _ _ (hblk.out nq) hma.out (by rw [Array.getElem?_setIfInBounds_ne (by omega)]; exact HH.out.s) (by rw [Array.getElem?_setIfInBounds_ne (by omega)]; exact HH.out.a) (by rw [Array.getElem?_setIfInBounds_self_of_lt (by omega)]) w2 (by rw [E1.out]; exact q1)
   rw [E1.out] at this; exact this
  have U : Hid (Upd (· = b) w w2) := ((Upd.ofDrewN (F := (· = b)) w nq).setCell (fun _ => rfl) _).trans q2
  clear q1 q2
  have bo := bit_of E1.out
  cases hs : d.m.shifts (ctx c) true
  ·have Q' : Hid (RR w2 b (d.bit c) (n + 1)) := by
    rw [hs] at bo
    have := Q.out
    obtain ⟨a1, c1, t1, h⟩ := this
    refine ⟨a1, c1, t1, ?_⟩
    rw [← bo]
    exact ⟨h.wf, h.blk, h.mod, h.s, h.a, h.o, h.left, Nat.le_succ_of_le h.le, h.bytes⟩
   have sn : shiftN false = 0 := rfl
   have sn : shiftN false = 0 := rfl
   clear bo hs
   go_wp2_with fail
   refine wp_loop_once ?_
   go_wp2
   go_ret
   exact ⟨by rw [E1.out]; rfl, Q'.out, U.out⟩
  ·have Bo : Hid ((⟨d.m.step (ctx c) true, d.left, d.off1 c⟩ : D).next = d.bit c) := by rw [hs] at bo; exact bo
   have sn : shiftN true = 1 := rfl
   have sn : shiftN true = 1 := rfl
   clear bo hs
   go_wp2_with fail
   go_loopw [8] (fun i wr => (i = .int .i64 0 ∧ RR wr b ⟨d.m.step (ctx c) true, d.left, d.off1 c⟩ n ∧ Upd (· = b) w wr) ∨ (i = .int .i64 1 ∧ RR wr b (d.bit c) (n + 1) ∧ Upd (· = b) w wr)) (fun i _ => 1 - (intOf i).toNat)
   case atStart => exact .inl ⟨rfl, Q.out, U.out⟩
   case round =>
    rcases hrel with ⟨rfl, g1, g2⟩ | ⟨rfl, g1, g2⟩
    ·have H1 := Lib.hid g1
     have H2 := Lib.hid g2
     clear g1 g2
     go_wp2_with (go_at_call 153; refine (rnext_any _ n _ (by have := HN.out; omega) _ H1.out).mono ?_; rintro e w3 ⟨rfl, q1, q2⟩)
     go_roundw
     case rel => exact .inr ⟨rfl, by rw [← Bo.out]; exact q1, H2.out.trans q2⟩
     case measure => simp [intOf]
    ·go_wp2
     go_ret
     exact ⟨by rw [E1.out]; rfl, g1, g2⟩
 ·have e1 : d.one c = false := by unfold D.one; simpa using ho
  have e2 : d.off1 c = d.off := by unfold D.off1; rw [e1]; simp
  have t1 : decide (d.m.split (ctx c) ≤ d.off) = false := by simpa using ho
  have E1 := Lib.hid e1
  have E2 := Lib.hid e2
  clear e1 e2 ho h hn
  go_enter Tryz.func121, Tryz.ntmps121
  go_wp2_with (go_at_call 108; refine (rsplit_any _ _ _ hwf.m _ _ _ HH.out.blk HH.out.mod).mono ?_; rintro e w' ⟨rfl, nq, rfl⟩)
  refine (rtake_any c false b d.m hwf.m (w.drewN nq) _ _ HH.out.blk HH.out.mod).mono ?_
  rintro e w2 ⟨rfl, q1, q2⟩
  have Q : Hid (RR w2 b ⟨d.m.step (ctx c) false, d.left, d.off1 c⟩ n) := by
   have := fin.out _ _ HH.out.blk HH.out.mod HH.out.s HH.out.a (by rw [E2.out]; exact HH.out.o) w2 (by rw [E1.out]; exact q1)
   rw [E1.out] at this; exact this
  have U : Hid (Upd (· = b) w w2) := (Upd.ofDrewN (F := (· = b)) w nq).trans q2
  clear q1 q2
  have bo := bit_of E1.out
  cases hs : d.m.shifts (ctx c) false
  ·have Q' : Hid (RR w2 b (d.bit c) (n + 1)) := by
    rw [hs] at bo
    have := Q.out
    obtain ⟨a1, c1, t1, h⟩ := this
    refine ⟨a1, c1, t1, ?_⟩
    rw [← bo]
    exact ⟨h.wf, h.blk, h.mod, h.s, h.a, h.o, h.left, Nat.le_succ_of_le h.le, h.bytes⟩
   have sn : shiftN false = 0 := rfl
   have sn : shiftN false = 0 := rfl
   clear bo hs
   go_wp2_with fail
   refine wp_loop_once ?_
   go_wp2
   go_ret
   exact ⟨by rw [E1.out]; rfl, Q'.out, U.out⟩
  ·have Bo : Hid ((⟨d.m.step (ctx c) false, d.left, d.off1 c⟩ : D).next = d.bit c) := by rw [hs] at bo; exact bo
   have sn : shiftN true = 1 := rfl
   have sn : shiftN true = 1 := rfl
   clear bo hs
   go_wp2_with fail
   go_loopw [8] (fun i wr => (i = .int .i64 0 ∧ RR wr b ⟨d.m.step (ctx c) false, d.left, d.off1 c⟩ n ∧ Upd (· = b) w wr) ∨ (i = .int .i64 1 ∧ RR wr b (d.bit c) (n + 1) ∧ Upd (· = b) w wr)) (fun i _ => 1 - (intOf i).toNat)
   case atStart => exact .inl ⟨rfl, Q.out, U.out⟩
   case round =>
    rcases hrel with ⟨rfl, g1, g2⟩ | ⟨rfl, g1, g2⟩
    ·have H1 := Lib.hid g1
     have H2 := Lib.hid g2
     clear g1 g2
     go_wp2_with (go_at_call 153; refine (rnext_any _ n _ (by have := HN.out; omega) _ H1.out).mono ?_; rintro e w3 ⟨rfl, q1, q2⟩)
     go_roundw
     case rel => exact .inr ⟨rfl, by rw [← Bo.out]; exact q1, H2.out.trans q2⟩
     case measure => simp [intOf]
    ·go_wp2
     go_ret
     exact ⟨by rw [E1.out]; rfl, g1, g2⟩
end Go.Proofs.YtcikldoaidmnhaaGreatDoor
namespace Go.Proofs.YtcikldoaidmnhaaGreatDoor
open Go Go.RowKit Pc
set_option maxRecDepth 100000
def intV (d : Nat) : Value := .int .i64 d
theorem intV_one (l : List Nat) : ∀ u ∈ l.map intV, u.oneCell' = true := by
 intro u hu
 obtain ⟨d, _, rfl⟩ := List.mem_map.1 hu
 rfl
theorem info_int : (Tryz.prog.info? 3).map (fun i => (i.zero, i.size, i.bytes)) = some (some (.int .i64 0), 1, 8) := by kernel_rfl
/-- carried's loop with the digits below k left to do. -/
structure CarI (ds : List Nat) (base g cap : Nat) (w wr : World) (k : Nat) : Prop where
 le : k ≤ ds.length
 own : wr.ownsRow base 3 1 (.slice (some ⟨g, 0, none⟩) ds.length cap) ds.length ((carried ds k).map intV)
 fr : w.grownBy wr (some g)
 spec : carry ds = carry (ds.take k) ++ List.replicate (ds.length - k) 0
theorem carried_setI {ds : List Nat} {j : Nat} (hj : j < ds.length) (v : Nat) :
  (((carried ds (j + 1)).map intV).set j (intV v)) = (ds.take j ++ v :: List.replicate (ds.length - (j + 1)) 0).map intV := by
 unfold carried
 rw [take_snoc hj, ← List.map_set]
 congr 1
 have hl : (ds.take j).length = j := by simp; omega
 rw [List.append_assoc, List.set_append_right _ _ (by omega), hl]
 simp
theorem CarI.cell {ds : List Nat} {base g cap : Nat} {w wr : World} {j : Nat} (h : CarI ds base g cap w wr (j + 1)) :
  ∃ hj : j < ds.length, wr.cell? ⟨g, j, none⟩ = some (.int .i64 ds[j]) := by
 have hj := h.le
 refine ⟨hj, ?_⟩
 rw [h.own.cellAt j (by omega)]
 unfold carried
 have hj' : j < ds.length := hj
 rw [take_snoc hj', List.append_assoc, List.map_append, List.getElem?_append_right (by simp; omega)]
 simp [intV, Nat.min_eq_left (Nat.le_of_lt hj')]
theorem CarI.go {ds : List Nat} {base g cap : Nat} {w wr : World} {j : Nat} (h : CarI ds base g cap w wr (j + 1)) (hj : j < ds.length) (he : ds[j] = 255) :
  CarI ds base g cap w (wr.setCell ⟨g, j, none⟩ (.int .i64 0)) j := by
 have hs := h.own.stored j (intV 0)
 rw [carried_setI hj] at hs
 refine ⟨by omega, ?_, grownBy_trans h.fr hs.2, ?_⟩
 ·have e : ds.take j ++ 0 :: List.replicate (ds.length - (j + 1)) 0 = carried ds j := by
   unfold carried
   rw [show ds.length - j = (ds.length - (j + 1)) + 1 from by omega, List.replicate_succ]
  rw [← e]
  exact hs.1
 ·rw [h.spec, take_snoc hj, he, carry_snoc_255, List.append_assoc, show ds.length - j = (ds.length - (j + 1)) + 1 from by omega, List.replicate_succ]
  rfl
theorem CarI.stop {ds : List Nat} {base g cap : Nat} {w wr : World} {j : Nat} (h : CarI ds base g cap w wr (j + 1)) (hj : j < ds.length) (he : ds[j] ≠ 255) :
  (wr.setCell ⟨g, j, none⟩ (.int .i64 (((ds[j] : Nat) : Int) + 1))).ownsRow base 3 1 (.slice (some ⟨g, 0, none⟩) ds.length cap) ds.length ((carry ds).map intV) ∧
   w.grownBy (wr.setCell ⟨g, j, none⟩ (.int .i64 (((ds[j] : Nat) : Int) + 1))) (some g) := by
 have hs := h.own.stored j (intV (ds[j] + 1))
 rw [carried_setI hj] at hs
 refine ⟨?_, grownBy_trans h.fr hs.2⟩
 rw [h.spec, take_snoc hj, carry_snoc_ne _ he, List.append_assoc]
 exact hs.1
theorem CarI.start {ds : List Nat} {base g cap : Nat} {w : World}
  (hown : w.ownsRow base 3 1 (.slice (some ⟨g, 0, none⟩) ds.length cap) ds.length (ds.map intV)) : CarI ds base g cap w w ds.length :=
 ⟨Nat.le_refl _, by simpa [carried] using hown, ⟨rfl, rfl, rfl, Nat.le_refl _, fun _ _ _ => rfl⟩, by simp⟩
set_option maxHeartbeats 1000000 in
theorem carried_any (base : Nat) (v : Value) (ds : List Nat) (hds : ∀ d, d ∈ ds → d < 256) (hlen : ds.length ≤ 1000000) (w : World) (hown : w.ownsRow base 3 1 v ds.length (ds.map intV)) :
  Calls Tryz.prog 109 #[v] w fun e w' => ∃ v', e = .returned v' ∧ w'.ownsRow w.heap.size 3 1 v' ds.length ((carry ds).map intV) ∧ Upd noBlk w w' := by
 obtain ⟨i0, hi0, hz0, hz1, hz2⟩ := info_parts info_int
 have m1 : Hid (0 + ds.length ≤ maxLen) := by show _ ≤ _; unfold maxLen; omega
 have b1 : Hid ((0 + ds.length) * 8 ≤ 140737488355328) := by show _ ≤ _; omega
 have o0 : (w.alloc (.cells #[] 3)).ownsRow w.heap.size 3 1 (.slice (some ⟨w.heap.size, 0, none⟩) 0 0) 0 [] := World.ownsRow_lit w #[] 0 (Nat.le_refl _) (by unfold maxLen; omega) (by simp)
 obtain ⟨v1, w1, r1, o1, g1, hb1⟩ := append_src (w.alloc (.cells #[] 3)) 23 23 3 i0 _ 1 8 Tryz.underlying23 hi0 hz0 hz1 hz2 rfl (by omega) o0 (by simp) (hown.alloc _) (intV_one _) m1.out b1.out
 rw [Nat.zero_add, List.nil_append] at o1
 have U1 : Hid (Upd noBlk w w1) := by
  refine (((Upd.refl noBlk w).alloc _).then (upd_of_grown g1 (F := fun k => some k = some w.heap.size) (fun k hk _ => ?_)) (fun i hi h => ?_))
  ·simp only [Value.ownBlock, Option.some.injEq] at hk; rw [hk]
  ·simp only [Option.some.injEq] at h; omega
 have R1 := Lib.hid r1
 clear r1 m1 b1 o0 g1 hb1 hown
 have hlb : ((ds.length : Nat) : Int) ≤ 1000000 := by omega
 rcases o1.2 with ⟨rfl, h0⟩ | ⟨g, cap, cur, rfl, hg, hh, _⟩
 ·have hd : ds = [] := List.eq_nil_of_length_eq_zero h0
  subst hd
  have O1 := Lib.hid o1
  clear o1 hlb
  go_enter Tryz.func109, Tryz.ntmps109
  go_wp2_with (at_builtin; refine wpList_append_run rfl _ _ _ rfl rfl rfl R1.out ?_)
  refine wp_loop_once ?_
  go_wp2
  go_ret
  exact ⟨_, rfl, O1.out, U1.out⟩
 ·have hst := CarI.start o1
  have hgn : Hid (w.heap.size ≤ g) := hg
  clear o1 hh hg
  have fin : Hid (∀ wr, w1.grownBy wr (some g) → Upd noBlk w wr) := fun wr hr => U1.out.then (upd_of_grown hr (F := fun k => k = g) (fun k hk _ => by simpa using hk.symm)) (fun i hi h => by have := hgn.out; omega)
  go_enter Tryz.func109, Tryz.ntmps109
  go_wp2_with (at_builtin; refine wpList_append_run rfl _ _ _ rfl rfl rfl R1.out ?_)
  go_loopw [4] (fun i wr => ∃ k : Nat, i = .int .i64 ((k : Int) - 1) ∧ CarI ds w.heap.size g cap w1 wr k) (fun i _ => (intOf i + 1).toNat)
  case atStart => exact ⟨_, rfl, hst⟩
  case round =>
   obtain ⟨k, rfl, hk⟩ := hrel
   rcases k with _ | j
   ·have h1 : decide (((0 : Nat) : Int) - 1 ≥ 0) = false := by decide
    have h2 := hk.own
    have h3 := Lib.hid (fin.out _ hk.fr)
    have h4 : carry ds = carried ds 0 := by rw [hk.spec]; rfl
    rw [← h4] at h2
    have H2 := Lib.hid h2
    clear hk h4 h2
    go_wp2
    go_ret
    exact ⟨_, rfl, H2.out, h3.out⟩
   ·obtain ⟨hj, hc⟩ := hk.cell
    have hf := hk.own.frozenAt j
    have e1 : (((j + 1 : Nat) : Int) - 1) = (j : Int) := by omega
    rw [e1]
    have hd : ((ds[j] : Nat) : Int) < 256 := by have := hds ds[j] (List.getElem_mem hj); omega
    by_cases he : ds[j] = 255
    ·have e2 : (((ds[j] : Nat) : Int) == 255) = true := by rw [beq_iff_eq]; omega
     have hgo := Lib.hid (hk.go hj he)
     clear he hk hst e1
     go_wp2
     go_roundw
     case rel => exact ⟨j, rfl, hgo.out⟩
     case measure => simp [intOf] <;> omega
    ·have e2 : (((ds[j] : Nat) : Int) == 255) = false := by rw [beq_eq_false_iff_ne]; omega
     have hgo := Lib.hid (hk.stop hj he)
     clear he hk hst e1
     go_wp2
     go_ret
     exact ⟨_, rfl, hgo.out.1, fin.out _ hgo.out.2⟩
end Go.Proofs.YtcikldoaidmnhaaGreatDoor
namespace Go.Proofs.YtcikldoaidmnhaaGreatDoor
open Go Go.RowKit Pc
set_option maxRecDepth 100000
/-- The reference's writer. -/
structure RWW (w : World) (b : Nat) (e : E) (arr : Array Value) (dv : Value) : Prop where
 wf : e.Wf
 blk : w.heap[b]? = some (.cells arr 173 (0, 0))
 mod : MArr arr e.m
 o : arr[4097]? = some dv
 r : arr[4098]? = some (.int .i64 (e.low : Nat))
 own : w.ownsRow 0 3 1 dv e.done.length (e.done.map intV)
 ne : dv.ownBlock ≠ some b
def rwFoot (b : Nat) (dv : Value) : Nat → Prop := fun k => k = b ∨ inRow dv k
def RWRep (w : World) (b : Nat) (e : E) (F : Nat → Prop) : Prop := ∃ arr dv, RWW w b e arr dv ∧ F = rwFoot b dv
theorem RWW.keep {w w' : World} {b : Nat} {e : E} {arr : Array Value} {dv : Value} (h : RWW w b e arr dv) (hk : ∀ k, rwFoot b dv k → w'.heap[k]? = w.heap[k]?) : RWW w' b e arr dv :=
 ⟨h.wf, (hk b (.inl rfl)).trans h.blk, h.mod, h.o, h.r, ownsRow_keep h.own (fun k hb => hk k (.inr hb)), h.ne⟩
theorem RWRep.keep {w w' : World} {b : Nat} {e : E} {F : Nat → Prop} (h : RWRep w b e F) (hk : ∀ k, F k → w'.heap[k]? = w.heap[k]?) : RWRep w' b e F := by
 obtain ⟨arr, dv, h, rfl⟩ := h
 exact ⟨arr, dv, h.keep hk, rfl⟩
theorem RWW.lt {w : World} {b : Nat} {e : E} {arr : Array Value} {dv : Value} (h : RWW w b e arr dv) : ∀ k, rwFoot b dv k → k < w.heap.size := by
 rintro k (rfl | hk)
 ·exact lt_of_heap h.blk
 ·exact (h.own.lt k hk).2
theorem RWRep.lt {w : World} {b : Nat} {e : E} {F : Nat → Prop} (h : RWRep w b e F) : ∀ k, F k → k < w.heap.size := by
 obtain ⟨arr, dv, h, rfl⟩ := h
 exact h.lt
theorem RWRep.upd {w w' : World} {b : Nat} {e : E} {F G : Nat → Prop} (h : RWRep w b e F) (hu : Upd G w w') (hd : ∀ k, F k → ¬ G k) : RWRep w' b e F :=
 h.keep fun k hk => hu.block k (h.lt k hk) (hd k hk)
theorem RWRep.wf {w : World} {b : Nat} {e : E} {F : Nat → Prop} (h : RWRep w b e F) : e.Wf := by
 obtain ⟨arr, dv, h, rfl⟩ := h
 exact h.wf
/-- What a step of the reference's writer leaves. -/
structure RWStep (w w' : World) (b : Nat) (e' : E) (F : Nat → Prop) (arr : Array Value) (dv : Value) : Prop where
 rep : RWW w' b e' arr dv
 up : Upd F w w'
 foot : ∀ k, rwFoot b dv k → F k ∨ w.heap.size ≤ k
theorem RWStep.then {w w1 w2 : World} {b : Nat} {e1 e2 : E} {F : Nat → Prop} {arr arr2 : Array Value} {dv dv2 : Value} (h : RWStep w w1 b e1 F arr dv) (h2 : RWW w2 b e2 arr2 dv2) (hu : Upd (rwFoot b dv) w1 w2)
  (hf : dv2.ownBlock = dv.ownBlock ∨ ∃ g, dv2.ownBlock = some g ∧ w1.heap.size ≤ g) : RWStep w w2 b e2 F arr2 dv2 := by
 refine ⟨h2, h.up.then hu (fun i hi hw => (h.foot i hw).elim id (fun x => absurd hi (by omega))), ?_⟩
 have hs := h.up.size
 rintro k (rfl | hk)
 ·exact h.foot k (.inl rfl)
 ·rcases hf with h3 | ⟨g, h3, h4⟩
  ·exact h.foot k (.inr (by unfold inRow at *; rw [← h3]; exact hk))
  ·right
   have : k = g := by unfold inRow at hk; rw [h3] at hk; simpa using hk.symm
   omega
theorem RWW.cells {w : World} {b : Nat} {e : E} {arr : Array Value} {dv : Value} (h : RWW w b e arr dv) : w.cell? ⟨b, 4097, none⟩ = some dv ∧ w.cell? ⟨b, 4098, none⟩ = some (.int .i64 (e.low : Nat)) ∧ (∀ i, w.frozen? ⟨b, i, none⟩ = false) ∧ 4098 < arr.size :=
 ⟨by rw [cell_of_row w b _ _ _ _ h.blk]; exact h.o, by rw [cell_of_row w b _ _ _ _ h.blk]; exact h.r, fun i => frozen_of_row w b i _ _ h.blk, (Array.getElem?_eq_some_iff.1 h.r).1⟩
theorem RWW.setRest {w : World} {b : Nat} {e : E} {arr : Array Value} {dv : Value} (h : RWW w b e arr dv) {low : Nat} (hl : low < 4294967296) :
  RWW (w.setCell ⟨b, 4098, none⟩ (.int .i64 (low : Nat))) b ⟨e.m, e.done, low⟩ (arr.setIfInBounds 4098 (.int .i64 (low : Nat))) dv := by
 have hs := h.cells.2.2.2
 exact ⟨⟨h.wf.m, hl, h.wf.done⟩, heap_setCell_eq _ h.blk, h.mod.setFar (by omega) _, by rw [Array.getElem?_setIfInBounds_ne (by omega)]; exact h.o, by rw [Array.getElem?_setIfInBounds_self_of_lt hs],
  ownsRow_setCell_other h.own h.ne _, h.ne⟩
theorem RWW.setOut {w w1 : World} {b : Nat} {e : E} {arr : Array Value} {dv dv' : Value} (h : RWW w b e arr dv) {done : List Nat} (hd : ∀ d, d ∈ done → d < 256) (hb : w1.heap[b]? = w.heap[b]?)
  (ho : w1.ownsRow 0 3 1 dv' done.length (done.map intV)) (hn : dv'.ownBlock ≠ some b) :
  RWW (w1.setCell ⟨b, 4097, none⟩ dv') b ⟨e.m, done, e.low⟩ (arr.setIfInBounds 4097 dv') dv' := by
 have hs := h.cells.2.2.2
 exact ⟨⟨h.wf.m, h.wf.low, hd⟩, heap_setCell_eq _ (hb.trans h.blk), h.mod.setFar (by omega) _, by rw [Array.getElem?_setIfInBounds_self_of_lt (by omega)],
  by rw [Array.getElem?_setIfInBounds_ne (by omega)]; exact h.r, ownsRow_setCell_other ho hn _, hn⟩
theorem RWW.drewN {w : World} {b : Nat} {e : E} {arr : Array Value} {dv : Value} (h : RWW w b e arr dv) (n : Nat) : RWW (w.drewN n) b e arr dv := h.keep fun _ _ => rfl
theorem RWW.setRest2 {w : World} {b : Nat} {e : E} {arr : Array Value} {dv : Value} (h : RWW w b e arr dv) {low : Nat} (hl : low < 4294967296) (v : Value) :
  RWW ((w.setCell ⟨b, 4098, none⟩ v).setCell ⟨b, 4098, none⟩ (.int .i64 (low : Nat))) b ⟨e.m, e.done, low⟩ (arr.setIfInBounds 4098 (.int .i64 (low : Nat))) dv := by
 have hs := h.cells.2.2.2
 refine ⟨⟨h.wf.m, hl, h.wf.done⟩, ?_, h.mod.setFar (by omega) _, by rw [Array.getElem?_setIfInBounds_ne (by omega)]; exact h.o, by rw [Array.getElem?_setIfInBounds_self_of_lt hs],
  ownsRow_setCell_other (ownsRow_setCell_other h.own h.ne _) h.ne _, h.ne⟩
 have := heap_setCell_eq (i := 4098) (.int .i64 (low : Nat)) (heap_setCell_eq (i := 4098) v h.blk)
 rwa [Array.setIfInBounds_setIfInBounds] at this
theorem RWW.upd {w w' : World} {b : Nat} {e : E} {arr : Array Value} {dv : Value} {G : Nat → Prop} (h : RWW w b e arr dv) (hu : Upd G w w') (hd : ∀ k, rwFoot b dv k → ¬ G k) : RWW w' b e arr dv :=
 h.keep fun k hk => hu.block k (h.lt k hk) (hd k hk)
theorem own_slice {w : World} {base : Nat} {t : TypeId} {sz n : Nat} {v : Value} {xs : List Value} (h : w.ownsRow base t sz v n xs) : ∃ a m c, v = .slice a m c := by
 rcases h.2 with ⟨rfl, _⟩ | ⟨g, cap, cur, rfl, _⟩
 ·exact ⟨_, _, _, rfl⟩
 ·exact ⟨_, _, _, rfl⟩
theorem own_base {w : World} {base : Nat} {t : TypeId} {sz n : Nat} {v : Value} {xs : List Value} (h : w.ownsRow base t sz v n xs) : w.ownsRow 0 t sz v n xs :=
 ⟨h.1, h.2.imp id (fun ⟨g, cap, cur, a1, _, a3⟩ => ⟨g, cap, cur, a1, Nat.zero_le _, a3⟩)⟩
set_option maxHeartbeats 2000000 in
theorem rWBit_any (b : Nat) (c : Int) (one : Bool) (e : E) (F : Nat → Prop) (w : World) (h : RWRep w b e F) (hlen : e.done.length + 1 ≤ 1000000) :
  Calls Tryz.prog 59 #[.pointer (some ⟨b, 0, none⟩), .int .i64 c, .bool one] w fun en w' => en = .returned (.tuple #[]) ∧
   ∃ F', RWRep w' b (e.bit c one) F' ∧ Upd F w w' ∧ ∀ k, F' k → F k ∨ w.heap.size ≤ k := by
 obtain ⟨arr, dv, h, rfl⟩ := h
 have he := h.wf
 have HL := Lib.hid hlen
 have HH := Lib.hid h
 obtain ⟨c1, c2, cf, cs⟩ := h.cells
 have f1 := cf 4097
 have f2 := cf 4098
 clear cf cs hlen
 go_enter Tryz.func59, Tryz.ntmps59
 go_upto_if 8 with fail
 go_cut [] (fun wc => ∃ arr1 dv1, RWStep w wc b ⟨e.m, e.done1 (ctx c) one, e.low1 (ctx c) one⟩ (rwFoot b dv) arr1 dv1)
 case first =>
  cases one
  ·go_wp2_with fail
   go_meet
   exact ⟨arr, dv, HH.out, Upd.refl _ _, fun k hk => .inl hk⟩
  ·have hsp : ((e.m.split (ctx c) : Nat) : Int) < 4294967296 := by
    have := M.split_bd he.m (ctx_lt c)
    have := he.m.hi
    omega
   have hlw : ((e.low : Nat) : Int) < 4294967296 := by have := he.low; omega
   go_wp2_with fail
   refine wp_region_ord 13 [(0, true), (1, true), (2, true), (3, true), (4, true), (5, true), (6, true), (7, true), (8, true), (9, false), (10, true), (11, true), (12, true)] (fun w' => ∃ n, w' = w.drewN n) (by kernel_rfl) (by kernel_rfl) (fun c a d v w h => by cases d <;> exact h) ⟨1, rfl⟩ ?_
   (apply wpG_sure rfl rfl; focus (intro w' hw'; obtain ⟨n, rfl⟩ := hw'; go_simp; rfl))
   (apply wpG_sure rfl rfl; focus (intro w' hw'; obtain ⟨n, rfl⟩ := hw'; go_simp; rfl))
   (apply wpG_sure rfl rfl; focus (intro w' hw'; obtain ⟨n, rfl⟩ := hw'; go_simp; rfl))
   (apply wpG_sure rfl rfl; focus (intro w' hw'; obtain ⟨n, rfl⟩ := hw'; go_simp; rfl))
   (apply wpG_sure rfl rfl; focus (intro w' hw'; obtain ⟨n, rfl⟩ := hw'; go_simp; rfl))
   (apply wpG_sure rfl rfl; focus (intro w' hw'; obtain ⟨n, rfl⟩ := hw'; go_simp; rfl))
   (apply wpG_sure rfl rfl; focus (intro w' hw'; obtain ⟨n, rfl⟩ := hw'; go_simp; rfl))
   (apply wpG_sure rfl rfl; focus (intro w' hw'; obtain ⟨n, rfl⟩ := hw'; go_simp; rfl))
   (apply wpG_sure rfl rfl; focus (intro w' hw'; obtain ⟨n, rfl⟩ := hw'; go_simp; rfl))
   (refine wpG_do rfl (fun K hK => ?_); go_simp; refine (rsplit_any _ _ _ he.m w.drew _ _ HH.out.blk HH.out.mod).mono ?_; rintro en w1 ⟨rfl, n, rfl⟩; refine hK _ _ ⟨⟨1 + n, by rw [← World.drewN_drewN]; rfl⟩, ?_⟩; clear hK K)
   (apply wpG_sure rfl rfl; focus (intro w' hw'; obtain ⟨n2, rfl⟩ := hw'; go_simp; rfl))
   (apply wpG_sure rfl rfl; focus (intro w' hw'; obtain ⟨n2, rfl⟩ := hw'; go_simp; rfl))
   (apply wpG_sure rfl rfl; focus (intro w' hw'; obtain ⟨n2, rfl⟩ := hw'; go_simp; rfl))
   refine wpG_nil ?_
   by_cases hov : 4294967296 ≤ ((e.low : Nat) : Int) + ((e.m.split (ctx c) : Nat) : Int)
   ·have hq : ((e.low : Nat) : Int) + ((e.m.split (ctx c) : Nat) : Int) - 4294967296 = ((e.low1 (ctx c) true : Nat) : Int) := by unfold E.low1; simp only [if_true]; omega
    have hdn : Hid (e.done1 (ctx c) true = Pc.carry e.done) := by show _ = _; unfold E.done1; rw [if_pos (by simp; omega)]
    have h1 := Lib.hid ((HH.out.drewN (1 + n)).setRest2 (E.low1_lt he (ctx c) true) (.int .i64 (((e.low : Nat) : Int) + ((e.m.split (ctx c) : Nat) : Int))))
    go_wp2_with fail
    refine (carried_any 0 dv e.done he.done (by have := HL.out; omega) _ h1.out.own).mono ?_
    rintro en w3 ⟨v', rfl, q1, q2⟩
    obtain ⟨va, vn, vc, rfl⟩ := own_slice q1
    have hb3 := q2.block b (lt_of_heap h1.out.blk) id
    have hnv : (Value.slice va vn vc).ownBlock ≠ some b := by
     intro x
     have := (q1.lt b x).1
     have := lt_of_heap h1.out.blk
     omega
    have k1 : w3.cell? ⟨b, 4097, none⟩ = some dv := q2.cell h1.out.cells.1 id
    have kf := (World.frozen?_of_block (a := ⟨b, 4097, none⟩) hb3).trans (h1.out.cells.2.2.1 4097)
    have h3 := Lib.hid (h1.out.setOut (done := Pc.carry e.done) (carry_lt he.done) hb3 (by rw [carry_length]; exact own_base q1) hnv)
    have hst : Hid (RWStep w w3 b ⟨e.m, e.done, e.low1 (ctx c) true⟩ (rwFoot b dv) (arr.setIfInBounds 4098 (.int .i64 (e.low1 (ctx c) true : Nat))) dv) :=
     ⟨h1.out.upd q2 (fun _ _ => id), (((Upd.ofDrewN w (1 + n)).setCell (fun _ => .inl rfl) _).setCell (fun _ => .inl rfl) _).trans (q2.mono fun _ _ x => x.elim), fun k hk => .inl hk⟩
    clear hb3
    have hfoot : Hid (∀ k, rwFoot b (Value.slice va vn vc) k → rwFoot b dv k ∨ w.heap.size ≤ k) := by
     rintro k (rfl | hk)
     ·exact .inl (.inl rfl)
     ·have := (q1.lt k hk).1
      right; simpa using this
    go_wp2_with fail
    go_meet
    rw [hdn.out]
    exact ⟨_, _, h3.out, hst.out.up.setCell (fun _ => .inl rfl) _, hfoot.out⟩
   ·have hq : ((e.low : Nat) : Int) + ((e.m.split (ctx c) : Nat) : Int) = ((e.low1 (ctx c) true : Nat) : Int) := by unfold E.low1; simp only [if_true]; omega
    have hlt : ((e.low1 (ctx c) true : Nat) : Int) < 4294967296 := by rw [← hq]; omega
    have hdn : Hid (e.done1 (ctx c) true = e.done) := by show _ = _; unfold E.done1; rw [if_neg (by simp; omega)]
    have h1 := Lib.hid ((HH.out.drewN (1 + n)).setRest (E.low1_lt he (ctx c) true))
    have u1 : Hid (Upd (rwFoot b dv) w ((w.drewN (1 + n)).setCell ⟨b, 4098, none⟩ (.int .i64 (e.low1 (ctx c) true : Nat)))) := (Upd.ofDrewN w (1 + n)).setCell (fun _ => .inl rfl) _
    have HQ := Lib.hid hq
    clear hq hlt
    go_wp2_with fail
    go_meet
    rw [HQ.out, hdn.out]
    exact ⟨_, _, h1.out, u1.out, fun k hk => .inl hk⟩
 case rest =>
  obtain ⟨arr1, dv1, hs⟩ := hcut
  have HS := Lib.hid hs
  have hw1 := E.low1_lt he (ctx c) one
  clear hs h c1 c2 f1 f2
  go_wp2_with fail
  refine (rtake_any c one b e.m he.m wc arr1 _ HS.out.rep.blk HS.out.rep.mod).mono ?_
  rintro en w2 ⟨rfl, q1, q2⟩
  have Q : Hid (RWStep w w2 b ⟨e.m.step (ctx c) one, e.done1 (ctx c) one, e.low1 (ctx c) one⟩ (rwFoot b dv) ((arr1.setIfInBounds (ctx c) (.int .i64 (((e.m.newp (ctx c) one : Nat) : Int) - 1024))).setIfInBounds 4096 (.int .i64 (4294967295 - (((e.m.step (ctx c) one).size : Nat) : Int)))) dv1) := by
   have hcx := ctx_lt c
   have hr := HS.out.rep
   refine HS.out.then ⟨⟨M.step_wf he.m hcx one, hr.wf.low, hr.wf.done⟩, q1, hr.mod.step _ hcx _, ?_, ?_, ?_, hr.ne⟩ (q2.mono fun k _ hk => .inl hk) (.inl rfl)
   ·rw [Array.getElem?_setIfInBounds_ne (by omega), Array.getElem?_setIfInBounds_ne (by omega)]; exact hr.o
   ·rw [Array.getElem?_setIfInBounds_ne (by omega), Array.getElem?_setIfInBounds_ne (by omega)]; exact hr.r
   ·exact ownsRow_keep hr.own (fun k hk => q2.block k (hr.own.lt k hk).2 (fun x => hr.ne (by rw [hk, x])))
  clear q1 q2
  cases hsh : e.m.shifts (ctx c) one
  ·have hb : Hid (e.bit c one = ⟨e.m.step (ctx c) one, e.done1 (ctx c) one, e.low1 (ctx c) one⟩) := by show _ = _; unfold E.bit; simp [hsh]
   have sn : shiftN false = 0 := rfl
   clear hsh
   go_wp2_with fail
   refine wp_loop_once ?_
   go_wp2
   go_end0
   exact ⟨rfl, _, ⟨_, _, by rw [hb.out]; exact Q.out.rep, rfl⟩, Q.out.up, Q.out.foot⟩
  ·have hb : Hid (e.bit c one = ⟨e.m.step (ctx c) one, e.done1 (ctx c) one ++ [e.low1 (ctx c) one / 16777216], e.low1 (ctx c) one % 16777216 * 256⟩) := by show _ = _; unfold E.bit; simp [hsh]
   have sn : shiftN true = 1 := rfl
   clear hsh
   go_wp2_with fail
   go_loopw [7] (fun i wr => (i = .int .i64 0 ∧ ∃ arr2 dv2, RWStep w wr b ⟨e.m.step (ctx c) one, e.done1 (ctx c) one, e.low1 (ctx c) one⟩ (rwFoot b dv) arr2 dv2) ∨ (i = .int .i64 1 ∧ ∃ arr2 dv2, RWStep w wr b (e.bit c one) (rwFoot b dv) arr2 dv2)) (fun i _ => 1 - (intOf i).toNat)
   case atStart => exact .inl ⟨rfl, _, _, Q.out⟩
   case round =>
    rcases hrel with ⟨rfl, arr2, dv2, g⟩ | ⟨rfl, arr2, dv2, g⟩
    ·have G := Lib.hid g
     obtain ⟨c1, c2, cf, cs⟩ := g.rep.cells
     have f1 := cf 4097
     have f2 := cf 4098
     have hlow : ((e.low1 (ctx c) one : Nat) : Int) < 4294967296 := by omega
     have e8' : ((e.low1 (ctx c) one : Nat) : Int) / 16777216 = ((e.low1 (ctx c) one / 16777216 : Nat) : Int) := by omega
     have e9' : ((e.low1 (ctx c) one : Nat) : Int) % 16777216 * 256 = ((e.low1 (ctx c) one % 16777216 * 256 : Nat) : Int) := by omega
     have e8 := Lib.hid e8'
     have e9 := Lib.hid e9'
     clear e8' e9'
     have hdl : Hid ((e.done1 (ctx c) one).length = e.done.length) := E.done1_length _ _ _
     have m1 : Hid ((e.done1 (ctx c) one).length + 1 ≤ maxLen) := by show _ ≤ _; rw [hdl.out]; have := HL.out; unfold maxLen; omega
     have b1 : Hid (((e.done1 (ctx c) one).length + 1) * 8 ≤ 140737488355328) := by show _ ≤ _; rw [hdl.out]; have := HL.out; omega
     obtain ⟨i0, hi0, hz0, hz1, hz2⟩ := info_parts info_int
     have nb := g.rep.ne
     have lb := lt_of_heap g.rep.blk
     have HW := Lib.hid hw1
     clear g cf cs hw1
     go_wp2_with fail
     refine wp_region_ord 14 [(0, true), (1, true), (2, true), (3, true), (4, true), (5, true), (6, true), (7, true), (8, true), (9, true), (10, false), (11, false), (12, true), (13, true)]
      (fun w' => w'.cell? ⟨b, 4097, none⟩ = some dv2 ∧ w'.cell? ⟨b, 4098, none⟩ = some (.int .i64 (e.low1 (ctx c) one : Nat))) (by kernel_rfl) (by kernel_rfl)
      (fun c a d v w h => by cases d <;> exact h) ⟨c1, c2⟩ ?_
     (apply wpG_sure rfl rfl; focus (intro w' hw'; obtain ⟨g1, g2⟩ := hw'; go_simp; rfl))
     (apply wpG_sure rfl rfl; focus (intro w' hw'; obtain ⟨g1, g2⟩ := hw'; go_simp; rfl))
     (apply wpG_sure rfl rfl; focus (intro w' hw'; obtain ⟨g1, g2⟩ := hw'; go_simp; rfl))
     (apply wpG_sure rfl rfl; focus (intro w' hw'; obtain ⟨g1, g2⟩ := hw'; go_simp; rfl))
     (apply wpG_sure rfl rfl; focus (intro w' hw'; obtain ⟨g1, g2⟩ := hw'; go_simp; rfl))
     (apply wpG_sure rfl rfl; focus (intro w' hw'; obtain ⟨g1, g2⟩ := hw'; go_simp; rfl))
     (apply wpG_sure rfl rfl; focus (intro w' hw'; obtain ⟨g1, g2⟩ := hw'; go_simp; rfl))
     (apply wpG_sure rfl rfl; focus (intro w' hw'; obtain ⟨g1, g2⟩ := hw'; go_simp; rfl))
     (apply wpG_sure rfl rfl; focus (intro w' hw'; obtain ⟨g1, g2⟩ := hw'; go_simp; rfl))
     (apply wpG_sure rfl rfl; focus (intro w' hw'; obtain ⟨g1, g2⟩ := hw'; go_simp; rfl))
     (refine wpG_do rfl (fun K hK => ?_); go_simp; refine hK _ _ ⟨⟨cell_alloc_keep _ c1, cell_alloc_keep _ c2⟩, ?_⟩; clear hK K)
     refine wpG_do rfl (fun K hK => ?_)
     refine step_append_lies _ rfl (.tmp 58) (.tmp 64) 23 rfl 0 3 i0 _ 1 8 Tryz.underlying23 hi0 hz0 hz1 hz2 rfl (by omega) dv2 _ _ rfl ((G.out.rep.own.alloc _).drew)
      ⟨wr.heap.size, 0, none⟩ 1 1 [.int .i64 (((e.low1 (ctx c) one : Nat) : Int) / 16777216)] rfl rfl (World.news_of_block (cs := #[.int .i64 (((e.low1 (ctx c) one : Nat) : Int) / 16777216)]) (t := 3) (fr := (0, 0)) (heap_alloc_new wr _)) (by simp [Value.oneCell'])
      (by omega) m1.out b1.out (by simp) (wr.heap.size + 1) (by simp) ?_
     intro gg cap w3 hown1 hgrow hat hlt
     have k1 := grown_cell hgrow c1 nb
     have k2 := grown_cell hgrow c2 nb
     have kf1 := grown_free hgrow (a := ⟨b, 4097, none⟩) lb f1 nb
     have kf2 := grown_free hgrow (a := ⟨b, 4098, none⟩) lb f2 nb
     have ng : gg ≠ b := by
      rcases hat with h | h
      ·intro x; subst x; exact nb h
      ·omega
     have O1 : Hid (w3.ownsRow 0 3 1 (.slice (some ⟨gg, 0, none⟩) ((e.done1 (ctx c) one).length + 1) cap) (e.done1 (ctx c) one ++ [e.low1 (ctx c) one / 16777216]).length ((e.done1 (ctx c) one ++ [e.low1 (ctx c) one / 16777216]).map intV)) := by
      show World.ownsRow _ _ _ _ _ _ _
      rw [List.length_append, List.map_append, List.map_singleton]; unfold intV at hown1 ⊢; rw [← e8.out]; exact hown1
     have hup : Upd (rwFoot b dv2) wr w3 := upd_grown_new hgrow (fun k hk _ => .inr hk)
     have hd8 : ∀ d, d ∈ e.done1 (ctx c) one ++ [e.low1 (ctx c) one / 16777216] → d < 256 := by
      intro d hd
      have := HW.out
      rcases List.mem_append.1 hd with h | h
      ·exact E.done1_lt he _ _ d h
      ·simp at h; omega
     have r1 := G.out.rep.setOut (w1 := w3) (done := e.done1 (ctx c) one ++ [e.low1 (ctx c) one / 16777216]) hd8 ((grown_heap hgrow G.out.rep.blk nb).trans G.out.rep.blk.symm) O1.out (by simpa [Value.ownBlock] using ng)
     have r2 := r1.setRest (low := e.low1 (ctx c) one % 16777216 * 256) (by omega)
     have FIN : Hid (∃ arr3 dv3, RWStep w ((w3.setCell ⟨b, 4097, none⟩ (.slice (some ⟨gg, 0, none⟩) ((e.done1 (ctx c) one).length + 1) cap)).setCell ⟨b, 4098, none⟩ (.int .i64 (((e.low1 (ctx c) one : Nat) : Int) % 16777216 * 256))) b (e.bit c one) (rwFoot b dv) arr3 dv3) := by
      have r3 := G.out.then r2 ((hup.setCell (fun _ => .inl rfl) _).setCell (fun _ => .inl rfl) _) (by
       rcases hat with h | h
       ·exact .inl (by rw [h]; rfl)
       ·exact .inr ⟨gg, rfl, by omega⟩)
      show ∃ arr3 dv3, RWStep _ _ _ _ _ arr3 dv3
      rw [hb.out, e9.out]; exact ⟨_, _, r3⟩
     refine hK _ _ ⟨⟨k1, k2⟩, ?_⟩
     clear hK K hown1 hgrow hat hup r1 r2 hd8 hlt c1 c2 f1 f2 he
     (apply wpG_sure rfl rfl; focus (intro w' hw'; obtain ⟨g1, g2⟩ := hw'; go_simp; rfl))
     (apply wpG_sure rfl rfl; focus (intro w' hw'; obtain ⟨g1, g2⟩ := hw'; go_simp; rfl))
     refine wpG_nil ?_
     go_wp2
     go_roundw
     case rel => exact .inr ⟨rfl, FIN.out⟩
     case measure => simp [intOf]
    ·go_wp2
     go_end0
     exact ⟨rfl, _, ⟨_, _, g.rep, rfl⟩, g.up, g.foot⟩
end Go.Proofs.YtcikldoaidmnhaaGreatDoor
