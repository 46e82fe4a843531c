/- Parts: A reader of the coder and one of the reference side by side. The reference's walk and a writer, a reader, side by side: what each step leaves. No condition. Walks of the reference's coder: Finish. Walks of the reference's coder: the length of a number, a writer of bits. No condition. Walks of the reference's coder: the reader's Number. Walks of the reference's coder: the writer's Number. -/
import Derived.Test.YtcikldoaidmnhaaGreatDoorQClus2
import Derived.Test.YtcikldoaidmnhaaGreatDoorQClus14
import Derived.Test.YtcikldoaidmnhaaGreatDoorQClus15
import Derived.Test.YtcikldoaidmnhaaGreatDoorQClus28
import Derived.Test.YtcikldoaidmnhaaGreatDoorQClus29
import Derived.Deep.CutBlock
namespace Go.Proofs.YtcikldoaidmnhaaGreatDoor
open Go Go.RowKit Pc
set_option maxRecDepth 100000
theorem zeroWr : Tryz.zeroCells173 = Array.replicate 4097 (.int .i64 0) ++ #[.slice none 0 0, .int .i64 0] := by kernel_rfl
theorem zeroWr_mod : MArr Tryz.zeroCells173 M.init := by
 rw [zeroWr]
 refine ⟨fun i hi => ?_, ?_⟩
 ·rw [Array.getElem?_append_left (by simp; omega), Array.getElem?_replicate, if_pos (by omega)]; rfl
 ·rw [Array.getElem?_append_left (by simp), Array.getElem?_replicate, if_pos (by omega)]; rfl
theorem rNewWriter_rep (w : World) : RWRep (w.alloc (.cells Tryz.zeroCells173 173)) w.heap.size E.init (· = w.heap.size) := by
 refine ⟨_, .slice none 0 0, ⟨E.init_wf, heap_alloc_new w _, zeroWr_mod, ?_, ?_, World.ownsRow_nil _ _ _ _, by simp [Value.ownBlock]⟩, ?_⟩
 ·rw [zeroWr, Array.getElem?_append_right (by simp)]; simp
 ·rw [zeroWr, Array.getElem?_append_right (by simp)]; simp [E.init]
 ·funext k; simp [rwFoot, inRow, Value.ownBlock]
set_option maxHeartbeats 400000 in
theorem rNewWriter_any (w : World) : Calls Tryz.prog 55 #[] w fun e w' => e = .returned (.pointer (some ⟨w.heap.size, 0, none⟩)) ∧ w.alloc (.cells Tryz.zeroCells173 173) = w' := by
 go_enter Tryz.func55, Tryz.ntmps55
 go_wp2
 go_ret
 exact ⟨rfl, rfl⟩
/-- The digits ahead of the trimming: all but the last, and the last. -/
structure FinAt (w wr : World) (e : E) (vo : Value) (xs : List Nat) (l : Nat) : Prop where
 own : wr.ownsRow w.heap.size 3 1 vo xs.length (xs.map intV)
 len : xs.length = e.done.length
 fin : trim (xs ++ [l]) = e.finish
 bytes : ∀ d, d ∈ xs ++ [l] → d < 256
 up : Upd noBlk w wr
theorem own_cap {w : World} {base g n cap : Nat} {t : TypeId} {sz : Nat} {xs : List Value} (h : w.ownsRow base t sz (.slice (some ⟨g, 0, none⟩) n cap) n xs) : n ≤ cap := by
 rcases h.2 with ⟨h1, _⟩ | ⟨g', cap', cur, h1, _, _, h2, _⟩
 ·cases h1
 ·simp only [Value.slice.injEq, true_and] at h1
  rw [h1.2]; exact h2
def lenOfS : Value → Nat | .slice _ n _ => n | _ => 0
theorem trim_take_all {xs : List Nat} {k : Nat} (hk : k < xs.length) (h0 : xs[k] = 0) : trim (xs.take (k + 1)) = trim (xs.take k) := by
 rw [take_snoc hk, h0, trim_snoc_zero]
theorem trim_take_stop {xs : List Nat} {k : Nat} (hk : k < xs.length) (h0 : xs[k] ≠ 0) : trim (xs.take (k + 1)) = xs.take (k + 1) := by
 rw [take_snoc hk, trim_snoc_ne _ h0]
set_option maxHeartbeats 2000000 in
theorem rWFinish_any (b : Nat) (e : E) (F : Nat → Prop) (w : World) (h : RWRep w b e F) (hlen : e.done.length + 1 ≤ 1000000) :
  Calls Tryz.prog 64 #[.pointer (some ⟨b, 0, none⟩)] w fun en w' => en = .returned (.string (str e.finish)) ∧ Upd noBlk w w' := by
 obtain ⟨arr, dv, h, rfl⟩ := h
 have he := h.wf
 obtain ⟨c1, c2, cf, cs⟩ := h.cells
 obtain ⟨i0, hi0, hz0, hz1, hz2⟩ := info_parts info_int
 have hlow : ((e.low : Nat) : Int) < 4294967296 := by have := he.low; omega
 have m1 : Hid (0 + e.done.length ≤ maxLen) := by show _ ≤ _; unfold maxLen; omega
 have b1 : Hid ((0 + e.done.length) * 8 ≤ 140737488355328) := by show _ ≤ _; omega
 have m2 : Hid (e.done.length + 1 ≤ maxLen) := by show _ ≤ _; unfold maxLen; omega
 have b2 : Hid ((e.done.length + 1) * 8 ≤ 140737488355328) := by show _ ≤ _; omega
 have o0 : (w.alloc (.cells #[] 3)).ownsRow w.heap.size 3 1 (.slice (some ⟨w.heap.size, 0, none⟩) 0 0) 0 [] := World.ownsRow_lit w #[] 0 (Nat.le_refl _) (by unfold maxLen; omega) (by simp)
 obtain ⟨v1, w1, r1, o1, g1, hb1⟩ := append_src (w.alloc (.cells #[] 3)) 23 23 3 i0 _ 1 8 Tryz.underlying23 hi0 hz0 hz1 hz2 rfl (by omega) o0 (by simp) (h.own.alloc _) (intV_one _) m1.out b1.out
 rw [Nat.zero_add, List.nil_append] at o1
 have U1 : Hid (Upd noBlk w w1) := by
  refine (((Upd.refl noBlk w).alloc _).then (upd_of_grown g1 (F := fun k => some k = some w.heap.size) (fun k hk _ => ?_)) (fun i hi h => ?_))
  ·simp only [Value.ownBlock, Option.some.injEq] at hk; rw [hk]
  ·simp only [Option.some.injEq] at h; omega
 have lb := lt_of_heap h.blk
 have R1 := Lib.hid r1
 have O1 := Lib.hid o1
 have HD := Lib.hid he.done
 have HL := Lib.hid hlen
 have hq : (((e.low : Nat) : Int) + 16777216 - 1) / 16777216 = ((e.last : Nat) : Int) := by unfold E.last; omega
 have hlast : Hid (e.last ≤ 256) := by show _ ≤ _; unfold E.last; omega
 clear r1 m1 b1 o0 g1 hb1 o1 cf cs h hlen he
 -- behind the last append: the loops
 go_enter Tryz.func64, Tryz.ntmps64
 go_upto_if 21 with (at_builtin; refine wpList_append_run rfl _ _ _ rfl rfl rfl R1.out ?_)
 go_cut [3, 4] (fun vl vo wc => ∃ xs l, vl = .int .i64 (l : Nat) ∧ FinAt w wc e vo xs l)
 case first =>
  by_cases hl : e.last = 256
  ·have ht : (((e.last : Nat) : Int) == 256) = true := by rw [beq_iff_eq]; omega
   have HE := Lib.hid hl
   clear hl
   simp only [ht]
   clear ht hq
   go_wp2_with fail
   refine (carried_any _ v1 e.done HD.out (by have := HL.out; omega) w1 O1.out).mono ?_
   rintro en w2 ⟨v2, rfl, q1, q2⟩
   have Q : Hid (FinAt w w2 e v2 (carry e.done) 0) := by
    refine ⟨?_, carry_length _, ?_, ?_, U1.out.trans q2⟩
    ·rw [carry_length]
     exact ⟨q1.1, q1.2.imp id (fun ⟨g, cap, cur, a1, a2, a3⟩ => ⟨g, cap, cur, a1, Nat.le_trans U1.out.size a2, a3⟩)⟩
    ·unfold E.finish; rw [if_pos HE.out]
    ·intro d hd
     rcases List.mem_append.1 hd with h | h
     ·exact carry_lt HD.out d h
     ·simp at h; omega
   clear q1 q2
   go_wp2_with fail
   go_meet
   exact ⟨_, 0, rfl, Q.out⟩
  ·have ht : (((e.last : Nat) : Int) == 256) = false := by rw [beq_eq_false_iff_ne]; omega
   have Q : Hid (FinAt w w1 e v1 e.done e.last) := by
    refine ⟨O1.out, rfl, ?_, ?_, U1.out⟩
    ·unfold E.finish; rw [if_neg hl]
    ·intro d hd
     have := hlast.out
     rcases List.mem_append.1 hd with h | h
     ·exact HD.out d h
     ·simp at h; omega
   clear hl
   simp only [ht]
   clear ht hq
   go_wp2_with fail
   go_meet
   exact ⟨_, _, rfl, Q.out⟩
 case rest =>
  obtain ⟨xs, l, rfl, hf⟩ := hcut
  obtain ⟨gg, cap, w3, r3, o3, g3, hat, hlt⟩ := append_one wc 23 23 3 i0 _ 1 8 Tryz.underlying23 hi0 hz0 hz1 hz2 rfl (by omega) hf.own hf.up.size [intV l] rfl (intV_one [l]) (by rw [hf.len]; exact m2.out) (by rw [hf.len]; exact b2.out)
  have R3 := Lib.hid r3
  have hxl : Hid ((xs ++ [l]).length = xs.length + 1) := by show _ = _; simp
  have O3 : Hid (w3.ownsRow w.heap.size 3 1 (.slice (some ⟨gg, 0, none⟩) (xs ++ [l]).length cap) (xs ++ [l]).length ((xs ++ [l]).map intV)) := by
   show World.ownsRow _ _ _ _ _ _ _
   rw [hxl.out, List.map_append]; exact o3
  have U3 : Hid (Upd noBlk w w3) := by
   refine hf.up.then ((upd_of_grown (World.grownBy_alloc wc _ u4.ownBlock) (F := inRow u4) (fun k hk _ => hk)).trans (upd_of_grown g3 (fun k hk _ => hk))) (fun j hj hj' => ?_)
   have := (hf.own.lt j hj').1; omega
  have HF := Lib.hid hf
  clear r3 o3 g3 hat hlt hf
  rw [show xs.length + 1 = (xs ++ [l]).length from hxl.out.symm] at R3
  have hzb := HF.out.bytes
  have hzl : (xs ++ [l]).length ≤ 1000000 := by rw [hxl.out, HF.out.len]; exact HL.out
  have HFI : Hid (trim (xs ++ [l]) = e.finish) := HF.out.fin
  clear hxl HF R1 O1 c1 c2 hlow hq hlast lb
  generalize xs ++ [l] = zs at *
  have hzl' : ((zs.length : Nat) : Int) ≤ 1000000 := by omega
  have HZ := Lib.hid hzl
  have HB := Lib.hid hzb
  clear hzl hzb
  go_upto_block 0 with (at_builtin; refine wpList_append_run rfl _ _ _ rfl rfl rfl R3.out ?_)
  go_cut [4] (fun v wc => ∃ k : Nat, v = .slice (some ⟨gg, 0, none⟩) k cap ∧ k ≤ zs.length ∧ zs.take k = trim zs ∧ wc = w3)
  case first =>
   go_wp2_with fail
   go_loop [4] (fun v => ∃ k : Nat, v = .slice (some ⟨gg, 0, none⟩) k cap ∧ k ≤ zs.length ∧ trim (zs.take k) = trim zs) (fun v => lenOfS v)
   case atStart => exact ⟨_, rfl, Nat.le_refl _, by rw [List.take_length]⟩
   case round =>
    obtain ⟨k, rfl, hk, ht⟩ := hrel
    rcases k with _ | j
    ·have HT : Hid (zs.take 0 = trim zs) := by show _ = _; rw [← ht]; rfl
     clear ht
     go_wp2_with fail
     go_meet
     exact ⟨0, rfl, Nat.zero_le _, HT.out, rfl⟩
    ·have hj : j < zs.length := hk
     have hc : w3.cell? ⟨gg, j, none⟩ = some (.int .i64 (zs[j] : Nat)) := by rw [O3.out.cellAt j (by omega)]; simp [hj, intV]
     have hcap : ((j : Nat) : Int) ≤ ((cap : Nat) : Int) := by have := own_cap O3.out; omega
     by_cases h0 : zs[j] = 0
     ·have e2 : (((zs[j] : Nat) : Int) == 0) = true := by rw [beq_iff_eq]; omega
      have HT : Hid (trim (zs.take j) = trim zs) := by show _ = _; rw [← ht, trim_take_all hj h0]
      clear h0 ht
      go_wp2_with fail
      go_round
      case rel => exact ⟨j, by simp, by omega, HT.out⟩
      case measure => simp [lenOfS]
     ·have e2 : (((zs[j] : Nat) : Int) == 0) = false := by rw [beq_eq_false_iff_ne]; omega
      have HT : Hid (zs.take (j + 1) = trim zs) := by show _ = _; rw [← ht, trim_take_stop hj h0]
      clear h0 ht
      go_wp2_with fail
      go_meet
      exact ⟨j + 1, rfl, hk, HT.out, rfl⟩
  case rest =>
   obtain ⟨k, rfl, hk, ht, rfl⟩ := hcut
   have HT := Lib.hid ht
   clear ht
   go_wp2_with fail
   go_loopw [5, 6] (fun s i wr => ∃ j : Nat, i = .int .i64 (j : Nat) ∧ j ≤ k ∧ s = .string (str ((zs.take k).take j)) ∧ Upd noBlk wc wr) (fun _ i _ => k - (intOf i).toNat)
   case atStart => exact ⟨0, rfl, Nat.zero_le _, rfl, Upd.refl _ _⟩
   case round =>
    obtain ⟨j, rfl, hj, rfl, hu⟩ := hrel
    by_cases hlt : j < k
    ·have hjz : j < zs.length := by omega
     have hc : wr.cell? ⟨gg, j, none⟩ = some (.int .i64 (zs[j] : Nat)) := hu.cell (by rw [O3.out.cellAt j (by omega)]; simp [hjz, intV]) id
     have hb8 : IntKind.u8.wrap ((zs[j] : Nat) : Int) = ((zs[j] : Nat) : Int) := wrap_u8 (by omega) (by have := HB.out _ (List.getElem_mem hjz); omega)
     have hcv := conv_own (P := Tryz.prog) (src := 41) (e := 5) (dst := 9) (l := [zs[j]]) Tryz.underlying41 Tryz.underlying5 Tryz.underlying9 (World.ownsRow_lit (base := 0) wr #[byteV zs[j]] 1 (Nat.zero_le _) (by unfold maxLen; omega) (by simp))
     have hsa := run_add (P := Tryz.prog) (a := (zs.take k).take j) (b := [zs[j]]) (c := (zs.take k).take (j + 1)) (by simp; omega) (by rw [take_snoc (l := zs.take k) (by simp; omega)]; simp)
     unfold byteV at hcv
     have HU := Lib.hid hu
     clear hu
     go_wp2_with fail
     go_roundw
     case rel => exact ⟨j + 1, by go_num, hlt, rfl, HU.out.alloc _⟩
     case measure => simp [intOf]; omega
    ·have hjk : j = k := by omega
     have HF : Hid (str ((zs.take k).take j) = str e.finish) := by show _ = _; rw [hjk, List.take_take, Nat.min_self, HT.out, HFI.out]
     have HU := Lib.hid (U3.out.trans hu)
     clear hu hjk
     go_wp2_with fail
     go_ret
     exact ⟨by rw [← HF.out]; rfl, HU.out⟩
end Go.Proofs.YtcikldoaidmnhaaGreatDoor
namespace Go.Proofs.YtcikldoaidmnhaaGreatDoor
open Go Go.RowKit Pc
set_option maxRecDepth 100000
/-- Both readers, the blocks of the first one, and what was there before. -/
structure RdAt (w wr : World) (r m : Nat) (d dm : D) (n : Nat) (F : Nat → Prop) : Prop where
 rep : RRep wr r d F
 rr : RR wr m dm n
 new : NewF F w
 mnew : w.heap.size ≤ m
 ne : ¬ F m
 up : Upd noBlk w wr
theorem RdAt.upd {w wr w2 : World} {r m : Nat} {d dm : D} {n : Nat} {F : Nat → Prop} (h : RdAt w wr r m d dm n F) (hu : Upd noBlk wr w2) : RdAt w w2 r m d dm n F :=
 ⟨h.rep.upd hu (fun _ _ => id), h.rr.upd hu id, h.new, h.mnew, h.ne, h.up.trans hu⟩
theorem RdAt.drew {w wr : World} {r m : Nat} {d dm : D} {n : Nat} {F : Nat → Prop} (h : RdAt w wr r m d dm n F) : RdAt w wr.drew r m d dm n F := h.upd (Upd.refl noBlk wr).drew
theorem RdAt.make {w wa wc wd : World} {code : List Nat} (hcode : ∀ x, x ∈ code → x < 256) (h : Upd noBlk w wa) (hc : Upd noBlk (wa.alloc (.cells (rZero code) 227)) wc) (hr : RR wd wc.heap.size (D.ofCode code) 4) (hd : Upd noBlk wc wd) :
  RdAt w wd wa.heap.size wc.heap.size (D.ofCode code) (D.ofCode code) 4 (· = wa.heap.size) := by
 have h1 := h.size
 have h2 := hc.size
 simp at h2
 exact ⟨((NewReader_rep hcode wa).upd hc (fun _ _ => id)).upd hd (fun _ _ => id), hr, fun k hk => by subst hk; exact h1, by omega, by omega, ((h.alloc _).trans hc).trans hd⟩
/-- A writer and what was there before. -/
structure WAt (w wr : World) (b : Nat) (e : E) (F : Nat → Prop) : Prop where
 rep : WRep wr b e F
 new : NewF F w
 up : Upd noBlk w wr
theorem WAt.upd {w wr w2 : World} {b : Nat} {e : E} {F : Nat → Prop} (h : WAt w wr b e F) (hu : Upd noBlk wr w2) : WAt w w2 b e F := ⟨h.rep.upd hu (fun _ _ => id), h.new, h.up.trans hu⟩
theorem WAt.drew {w wr : World} {b : Nat} {e : E} {F : Nat → Prop} (h : WAt w wr b e F) : WAt w wr.drew b e F := h.upd (Upd.refl noBlk wr).drew
theorem WAt.make {w w1 : World} (h : Upd noBlk w w1) : WAt w (w1.alloc (.cells wZero 159)) w1.heap.size E.init (· = w1.heap.size) := ⟨NewWriter_rep w1, fun k hk => by subst hk; exact h.size, h.alloc _⟩
theorem WAt.bit {w wr : World} {b : Nat} {e : E} {F : Nat → Prop} (h : WAt w wr b e F) (c : Int) (one : Bool) (hlen : e.done.length + 1 ≤ 1000000) :
  Calls Tryz.prog 49 #[.pointer (some ⟨b, 0, none⟩), .int .i64 c, .bool one] wr fun en w' => en = .returned (.tuple #[]) ∧ ∃ F', WAt w w' b (e.bit c one) F' := by
 refine (WBit_any b c one e F wr h.rep hlen).mono ?_
 rintro en w2 ⟨rfl, F', q1, q2, q3⟩
 exact ⟨rfl, F', q1, fun j hj => (q3 j hj).elim (h.new j) (fun x => Nat.le_trans h.up.size x), upd_new h.up q2 h.new⟩
theorem WAt.finish {w wr : World} {b : Nat} {e : E} {F : Nat → Prop} (h : WAt w wr b e F) (hlen : e.done.length + 1 ≤ 1000000) :
  Calls Tryz.prog 54 #[.pointer (some ⟨b, 0, none⟩)] wr fun en w' => en = .returned (.string (str e.finish)) ∧ WAt w w' b e F := by
 refine (WFinish_any b e F wr h.rep hlen).mono ?_
 rintro en w2 ⟨rfl, u⟩
 exact ⟨rfl, h.upd u⟩
end Go.Proofs.YtcikldoaidmnhaaGreatDoor
namespace Go.Proofs.YtcikldoaidmnhaaGreatDoor
open Go Go.RowKit Pc
set_option maxRecDepth 100000
/-- A reference's writer whose blocks were F0 in the first world. -/
structure RWG (F0 : Nat → Prop) (w wr : World) (b : Nat) (e : E) (F : Nat → Prop) : Prop where
 rep : RWRep wr b e F
 new : ∀ k, F k → F0 k ∨ w.heap.size ≤ k
 up : Upd F0 w wr
theorem RWG.self {w : World} {b : Nat} {e : E} {F : Nat → Prop} (h : RWRep w b e F) : RWG F w w b e F := ⟨h, fun _ hk => .inl hk, Upd.refl _ _⟩
theorem RWG.upd {F0 : Nat → Prop} {w wr w2 : World} {b : Nat} {e : E} {F : Nat → Prop} (h : RWG F0 w wr b e F) (hu : Upd noBlk wr w2) : RWG F0 w w2 b e F :=
 ⟨h.rep.upd hu (fun _ _ => id), h.new, h.up.trans (hu.mono (fun _ _ x => x.elim))⟩
theorem RWG.bit {F0 : Nat → Prop} {w wr : World} {b : Nat} {e : E} {F : Nat → Prop} (h : RWG F0 w wr b e F) (c : Int) (one : Bool) (hlen : e.done.length + 1 ≤ 1000000) :
  Calls Tryz.prog 59 #[.pointer (some ⟨b, 0, none⟩), .int .i64 c, .bool one] wr fun en w' => en = .returned (.tuple #[]) ∧ ∃ F', RWG F0 w w' b (e.bit c one) F' := by
 refine (rWBit_any b c one e F wr h.rep hlen).mono ?_
 rintro en w2 ⟨rfl, F', q1, q2, q3⟩
 exact ⟨rfl, F', q1, fun j hj => (q3 j hj).elim (h.new j) (fun x => .inr (Nat.le_trans h.up.size x)), upd_foot h.up q2 h.new⟩
set_option maxHeartbeats 1000000 in
theorem rlength_any (n : Nat) (hn : n < 2 ^ 64) (w : World) : Calls Tryz.prog 107 #[.int .u64 n] w fun e w' => e = .returned (.int .i64 (blen n)) ∧ w = w' := by
 have hk := blen_le hn
 have HN := Lib.hid hn
 have hnn : ((n : Nat) : Int) ≤ 18446744073709551615 := by omega
 clear hn
 go_enter Tryz.func107, Tryz.ntmps107
 go_wp2_with fail
 go_loop [0, 3] (fun x k => ∃ y j : Nat, x = .int .u64 y ∧ k = .int .i64 j ∧ y ≤ n ∧ j + blen y = blen n) (fun x _ => (intOf x).toNat)
 case atStart => exact ⟨n, 0, rfl, rfl, Nat.le_refl _, by omega⟩
 case round =>
  obtain ⟨y, j, rfl, rfl, hy, hj⟩ := hrel
  have hjb : ((j : Nat) : Int) ≤ 64 := by omega
  by_cases hlt : 0 < y
  ·have HJ : Hid (j + 1 + blen (y / 2) = blen n) := by show _ = _; have := blen_pos hlt; omega
   have hlt' : 0 < ((y : Nat) : Int) := by omega
   have hyn : ((y : Nat) : Int) ≤ 18446744073709551615 := by omega
   clear hj
   go_wp2
   go_round
   case rel => exact ⟨y / 2, j + 1, by go_num, by go_num, by omega, HJ.out⟩
   case measure => simp [intOf]; omega
  ·obtain rfl : y = 0 := by omega
   have HJ : Hid (j = blen n) := by show _ = _; rw [blen_zero] at hj; omega
   have h1 : decide (((0 : Nat) : Int) > 0) = false := by decide
   clear hj hlt
   go_wp2
   go_ret
   exact ⟨by rw [HJ.out]; rfl, rfl⟩
end Go.Proofs.YtcikldoaidmnhaaGreatDoor
namespace Go.Proofs.YtcikldoaidmnhaaGreatDoor
open Go Go.RowKit Pc
set_option maxRecDepth 100000
/-- What is left to write behind i rounds. -/
def restBits (c : Int) (n i : Nat) : List (Int × Bool) := if i ≤ blen n then obits c i (blen n - i) ++ vbits c n (blen n - 1) else vbits c n (blen n - 1)
theorem rest_one {c : Int} {n i : Nat} (h : i < blen n) : restBits c n i = (nctx c i, true) :: restBits c n (i + 1) := by
 unfold restBits
 rw [if_pos (by omega), if_pos (by omega), show blen n - i = (blen n - (i + 1)) + 1 by omega]; rfl
theorem rest_zero (c : Int) (n : Nat) : restBits c n (blen n) = (nctx c (blen n), false) :: restBits c n (blen n + 1) := by
 unfold restBits
 rw [if_pos (Nat.le_refl _), if_neg (by omega), Nat.sub_self]; rfl
theorem bit_val2 {n j : Nat} : (((n : Nat) : Int) / 2 ^ j % 2 == 1) = decide (n / 2 ^ j % 2 = 1) := by
 have e : ((n : Nat) : Int) / 2 ^ j = ((n / 2 ^ j : Nat) : Int) := by push_cast; rfl
 rw [e, Bool.eq_iff_iff]
 simp
 omega
set_option maxHeartbeats 1000000 in
theorem rWNumber_any {F0 : Nat → Prop} {w0 w : World} {b : Nat} {e : E} {F : Nat → Prop} (h : RWG F0 w0 w b e F) (c : Int) (n : Nat) (hn : n < 2 ^ 64) (hlen : e.done.length + 200 ≤ 1000000) :
  Calls Tryz.prog 56 #[.pointer (some ⟨b, 0, none⟩), .int .i64 c, .int .u64 n] w fun en w' => en = .returned (.tuple #[]) ∧ ∃ F', RWG F0 w0 w' b (encFrom e (numBits c n)) F' := by
 have H := Lib.hid h
 have HL := Lib.hid hlen
 have HN := Lib.hid hn
 have hk := blen_le hn
 clear h hlen hn
 go_enter Tryz.func56, Tryz.ntmps56
 go_wp2_with fail
 refine (rlength_any n HN.out w).mono ?_
 rintro e0 w2 ⟨rfl, rfl⟩
 go_wp2_with fail
 go_loopw [7] (fun i wr => ∃ k : Nat, i = .int .i64 k ∧ k ≤ blen n + 1 ∧ ∃ e' F', RWG F0 w0 wr b e' F' ∧ e'.done.length ≤ e.done.length + k ∧ encFrom e' (restBits c n k) = encFrom e (numBits c n)) (fun i _ => 66 - (intOf i).toNat)
 case atStart => exact ⟨0, rfl, Nat.zero_le _, e, F, H.out, Nat.le_refl _, by unfold restBits; rw [if_pos (Nat.zero_le _)]; rfl⟩
 case round =>
  obtain ⟨k, rfl, hkn, e', F', h1, h2, h3⟩ := hrel
  have H1 := Lib.hid h1
  have H2 := Lib.hid h2
  have H3 := Lib.hid h3
  clear h1 h2 h3
  have hkb : ((k : Nat) : Int) ≤ 65 := by omega
  have HS : Hid (e'.done.length + 2 ≤ 1000000) := by show _ ≤ _; have := H2.out; have := HL.out; omega
  by_cases hlt : k < blen n
  ·have HX : Hid (encFrom (e'.bit (nctx c k) true) (restBits c n (k + 1)) = encFrom e (numBits c n)) := by
    show _ = _; rw [← H3.out, rest_one hlt]; rfl
   have hlt' : decide (k < blen n) = true := by simp; omega
   go_wp2_with (go_at_call 59; refine (H1.out.bit _ true (by have := HS.out; omega)).mono ?_; rintro en w3 ⟨rfl, F3, q⟩; have Q : Hid (RWG F0 w0 w3 b (e'.bit (nctx c k) true) F3) := q; clear q)
   go_roundw
   case rel => exact ⟨k + 1, by go_num, by omega, _, F3, Q.out, by have := E.bit_done_length e' (nctx c k) true; have := H2.out; omega, HX.out⟩
   case measure => simp [intOf]; omega
  ·by_cases heq : k = blen n
   ·have HX : Hid (encFrom (e'.bit (nctx c k) false) (restBits c n (k + 1)) = encFrom e (numBits c n)) := by
     show _ = _; rw [← H3.out, heq, rest_zero]; rfl
    have hle : ((k : Nat) : Int) ≤ ((blen n : Nat) : Int) := by omega
    have hlt' : decide (k < blen n) = false := by simp; omega
    have HQ := Lib.hid heq
    clear heq hlt
    go_wp2_with (go_at_call 59; refine (H1.out.bit _ false (by have := HS.out; omega)).mono ?_; rintro en w3 ⟨rfl, F3, q⟩; have Q : Hid (RWG F0 w0 w3 b (e'.bit (nctx c k) false) F3) := q; clear q)
    go_roundw
    case rel => exact ⟨k + 1, by go_num, by have := HQ.out; omega, _, F3, Q.out, by have := E.bit_done_length e' (nctx c k) false; have := H2.out; omega, HX.out⟩
    case measure => simp [intOf]; omega
   ·have hgt : ¬ ((k : Nat) : Int) ≤ ((blen n : Nat) : Int) := by omega
    have HX : Hid (encFrom e' (vbits c n (blen n - 1)) = encFrom e (numBits c n)) := by
     show _ = _; rw [← H3.out]; unfold restBits; rw [if_neg (by omega)]
    have HT : Hid (e'.done.length ≤ e.done.length + 66) := by show _ ≤ _; have := H2.out; omega
    clear H3 H2 heq hlt
    go_wp2_with fail
    go_loopw [8] (fun i wr => ∃ (z : Int) (m : Nat), i = .int .i64 z ∧ (z = ((m : Nat) : Int) - 1 ∨ (z = -2 ∧ m = 0)) ∧ m ≤ 63 ∧ ∃ e' F', RWG F0 w0 wr b e' F' ∧ e'.done.length + m ≤ e.done.length + 130 ∧ encFrom e' (vbits c n m) = encFrom e (numBits c n)) (fun i _ => (intOf i + 1).toNat)
    case atStart => exact ⟨_, blen n - 1, rfl, by omega, by omega, _, F', H1.out, by have := HT.out; omega, HX.out⟩
    case round =>
     obtain ⟨z, m, rfl, hz, hm, e2, F2, h1, h2, h3⟩ := hrel
     have R1 := Lib.hid h1
     have R2 := Lib.hid h2
     have R3 := Lib.hid h3
     clear h1 h2 h3 H1 HX HS HT
     rcases m with _ | j
     ·have hz0 : z < 0 := by omega
      have R4 : Hid (encFrom e2 [] = encFrom e (numBits c n)) := R3.out
      clear hz
      go_wp2_with fail
      go_end0
      exact ⟨rfl, F2, by rw [← R4.out]; exact R1.out⟩
     ·obtain rfl : z = ((j : Nat) : Int) := by omega
      have hj : ((j : Nat) : Int) ≤ 63 := by omega
      have HX : Hid (encFrom (e2.bit (vctx c j) (decide (n / 2 ^ j % 2 = 1))) (vbits c n j) = encFrom e (numBits c n)) := R3.out
      have HS : Hid (e2.done.length + 1 ≤ 1000000) := by show _ ≤ _; have := R2.out; have := HL.out; omega
      have hnb : ((n : Nat) : Int) ≤ 18446744073709551615 := by have := HN.out; omega
      clear hz
      go_wp2_with (go_at_call 59; refine (R1.out.bit _ _ HS.out).mono ?_; rintro en w4 ⟨rfl, F4, q⟩; have Q : Hid (RWG F0 w0 w4 b (e2.bit (vctx c j) (decide (n / 2 ^ j % 2 = 1))) F4) := (by rw [← bit_val2]; exact q); clear q)
      go_roundw
      case rel => exact ⟨_, j, by go_num, by omega, by omega, _, F4, Q.out, by have := E.bit_done_length e2 (vctx c j) (decide (n / 2 ^ j % 2 = 1)); have := R2.out; omega, HX.out⟩
      case measure => simp [intOf] <;> omega
end Go.Proofs.YtcikldoaidmnhaaGreatDoor
namespace Go.Proofs.YtcikldoaidmnhaaGreatDoor
open Go Go.RowKit Pc
set_option maxRecDepth 100000
set_option maxHeartbeats 1000000 in
theorem rRNumber_any {w : World} {r N : Nat} {d : D} (h : RR w r d N) (hN : N + 200 ≤ 999999) (c : Int) :
  Calls Tryz.prog 120 #[.pointer (some ⟨r, 0, none⟩), .int .i64 c] w fun en w' => en = .returned (numV (d.number c)) ∧ ∃ N', N' ≤ N + 130 ∧ RR w' r (d.number c).d N' ∧ Upd (· = r) w w' := by
 have H := Lib.hid h
 have HN := Lib.hid hN
 clear h hN
 go_enter Tryz.func120, Tryz.ntmps120
 go_wp2_with fail
 go_loopw [6] (fun i wr => ∃ k : Nat, i = .int .i64 k ∧ k ≤ 64 ∧ ∃ d', (RR wr r d' (N + k) ∧ Upd (· = r) w wr) ∧ D.ones c (65 - k) d' = D.ones c 65 d) (fun i _ => 65 - (intOf i).toNat)
 case atStart => exact ⟨0, rfl, Nat.zero_le _, d, ⟨H.out, Upd.refl _ _⟩, rfl⟩
 case round =>
  obtain ⟨k, rfl, hk, d', h1, h2⟩ := hrel
  have H1 := Lib.hid h1
  have H2 : Hid ((if d'.one (nctx c k) then D.ones c (64 - k) (d'.bit (nctx c k)) else (k, d'.bit (nctx c k))) = D.ones c 65 d) := by show _ = _; rw [← ones_step hk]; exact h2
  have hkb : ((k : Nat) : Int) ≤ 64 := by omega
  clear h1 h2
  by_cases ho : d'.one (nctx c k) = true
  ·have HO := Lib.hid ho
   have hcall : Calls Tryz.prog 121 #[.pointer (some ⟨r, 0, none⟩), .int .i64 (nctx c k)] wr fun en w' => en = .returned (.bool true) ∧ RR w' r (d'.bit (nctx c k)) (N + k + 1) ∧ Upd (· = r) w w' := by
    have := rRBit_any r (N + k) (nctx c k) d' (by have := HN.out; omega) wr H1.out.1; rw [ho] at this; exact this.mono fun e w' ⟨q1, q2, q3⟩ => ⟨q1, q2, H1.out.2.trans q3⟩
   have HC := Lib.hid hcall
   clear ho hcall
   by_cases hlt : k < 64
   ·have HX : Hid (D.ones c (65 - (k + 1)) (d'.bit (nctx c k)) = D.ones c 65 d) := by
     show _ = _; rw [← H2.out, HO.out, if_pos rfl, show 65 - (k + 1) = 64 - k by omega]
    have hlt' : ((k : Nat) : Int) < 64 := by omega
    go_wp2_with (go_at_call 121; refine HC.out.mono ?_; rintro en w3 ⟨rfl, q⟩; have Q := Lib.hid q; clear q)
    go_roundw
    case rel => exact ⟨k + 1, by go_num, hlt, _, Q.out, HX.out⟩
    case measure => simp [intOf]; omega
   ·obtain rfl : k = 64 := by omega
    have HX : Hid (d.number c = ⟨0, false, d'.bit (nctx c 64)⟩) := number_many (by rw [← H2.out, HO.out, if_pos rfl]; rfl)
    go_wp2_with (go_at_call 121; refine HC.out.mono ?_; rintro en w3 ⟨rfl, q⟩; have Q := Lib.hid q; clear q)
    go_ret2
    exact ⟨by rw [HX.out]; rfl, N + 64 + 1, by omega, by rw [HX.out]; exact Q.out.1, Q.out.2⟩
  ·have ho' : d'.one (nctx c k) = false := by simpa using ho
   have HE : Hid ((k, d'.bit (nctx c k)) = D.ones c 65 d) := by show _ = _; rw [← H2.out, ho', if_neg (by simp)]
   have hcall : Calls Tryz.prog 121 #[.pointer (some ⟨r, 0, none⟩), .int .i64 (nctx c k)] wr fun en w' => en = .returned (.bool false) ∧ RR w' r (d'.bit (nctx c k)) (N + k + 1) ∧ Upd (· = r) w w' := by
    have := rRBit_any r (N + k) (nctx c k) d' (by have := HN.out; omega) wr H1.out.1; rw [ho'] at this; exact this.mono fun e w' ⟨q1, q2, q3⟩ => ⟨q1, q2, H1.out.2.trans q3⟩
   have HC := Lib.hid hcall
   clear ho ho' hcall H2
   rcases Nat.eq_zero_or_pos k with hk0 | hk0
   ·subst hk0
    have HX : Hid (d.number c = ⟨0, true, d'.bit (nctx c 0)⟩) := number_none HE.out
    go_wp2_with (go_at_call 121; refine HC.out.mono ?_; rintro en w3 ⟨rfl, q⟩; have Q := Lib.hid q; clear q)
    refine wp_loop_once ?_
    go_wp2
    go_ret2
    exact ⟨by rw [HX.out]; rfl, N + 0 + 1, by omega, by rw [HX.out]; exact Q.out.1, Q.out.2⟩
   ·have HX : Hid (d.number c = ⟨(D.val c (k - 1) 1 (d'.bit (nctx c k))).1, true, (D.val c (k - 1) 1 (d'.bit (nctx c k))).2⟩) := number_some HE.out hk0 hk
    have hne : (((k : Nat) : Int) == 0) = false := by rw [beq_eq_false_iff_ne]; omega
    go_wp2_with (go_at_call 121; refine HC.out.mono ?_; rintro en w3 ⟨rfl, q⟩; have Q := Lib.hid q; clear q)
    clear hne HC HE
    generalize d'.bit (nctx c k) = d1 at *
    rw [show min ((k : Nat) : Int) 1 = 1 by omega]
    go_loopw [8, 9] (fun x i wr => ∃ (v m : Nat), x = .int .u64 v ∧ i = .int .i64 (((m : Nat) : Int) - 1) ∧ m ≤ 63 ∧ v < 2 ^ (64 - m) ∧ ∃ d2 N2, (RR wr r d2 N2 ∧ N2 + m ≤ N + 130 ∧ Upd (· = r) w wr) ∧ D.val c m v d2 = D.val c (k - 1) 1 d1) (fun _ i _ => (intOf i + 1).toNat)
    case atStart => exact ⟨1, k - 1, rfl, by go_num, by omega, Nat.one_lt_two_pow (by omega), _, _, ⟨Q.out.1, by omega, Q.out.2⟩, rfl⟩
    case round =>
     obtain ⟨v, m, rfl, rfl, hm, hv, d2, N2, h1, h2⟩ := hrel
     have R1 := Lib.hid h1
     have R2 := Lib.hid h2
     clear h1 h2 H1 Q
     rcases m with _ | j
     ·have h0 : decide (((0 : Nat) : Int) - 1 ≥ 0) = false := by decide
      have HV : Hid ((v, d2) = D.val c (k - 1) 1 d1) := R2.out
      clear hv
      go_wp2_with fail
      go_ret2
      exact ⟨by rw [HX.out, ← HV.out]; rfl, N2, by have := R1.out.2.1; omega, by rw [HX.out, ← HV.out]; exact R1.out.1, R1.out.2.2⟩
     ·have e1 : (((j + 1 : Nat) : Int) - 1) = (j : Int) := by omega
      rw [e1]
      have hj : ((j : Nat) : Int) ≤ 62 := by omega
      obtain ⟨v1, v2⟩ := val_bd hm hv
      have hvb : ((v : Nat) : Int) < 9223372036854775808 := by omega
      have hor := or_one v1
      have V2 := Lib.hid v2
      have R3 : Hid (D.val c j (2 * v + if d2.one (vctx c j) then 1 else 0) (d2.bit (vctx c j)) = D.val c (k - 1) 1 d1) := R2.out
      clear hv e1 v1 v2 R2
      by_cases ho : d2.one (vctx c j) = true
      ·have hcall : Calls Tryz.prog 121 #[.pointer (some ⟨r, 0, none⟩), .int .i64 (vctx c j)] wr fun en w' => en = .returned (.bool true) ∧ RR w' r (d2.bit (vctx c j)) (N2 + 1) ∧ (N2 + 1) + j ≤ N + 130 ∧ Upd (· = r) w w' := by
        have := rRBit_any r N2 (vctx c j) d2 (by have := HN.out; have := R1.out.2.1; omega) wr R1.out.1; rw [ho] at this; exact this.mono fun e w' ⟨q1, q2, q3⟩ => ⟨q1, q2, by have := R1.out.2.1; omega, R1.out.2.2.trans q3⟩
       have HC := Lib.hid hcall
       have R4 : Hid (D.val c j (2 * v + 1) (d2.bit (vctx c j)) = D.val c (k - 1) 1 d1) := by show _ = _; rw [← R3.out, ho]; rfl
       clear ho hcall
       go_wp2_with (go_at_call 121; refine HC.out.mono ?_; rintro en w4 ⟨rfl, q⟩; have Q4 := Lib.hid q; clear q)
       go_roundw
       case rel => exact ⟨2 * v + 1, j, by go_num, by go_num, by omega, V2.out, _, _, Q4.out, R4.out⟩
       case measure => simp [intOf] <;> omega
      ·have ho' : d2.one (vctx c j) = false := by simpa using ho
       have hcall : Calls Tryz.prog 121 #[.pointer (some ⟨r, 0, none⟩), .int .i64 (vctx c j)] wr fun en w' => en = .returned (.bool false) ∧ RR w' r (d2.bit (vctx c j)) (N2 + 1) ∧ (N2 + 1) + j ≤ N + 130 ∧ Upd (· = r) w w' := by
        have := rRBit_any r N2 (vctx c j) d2 (by have := HN.out; have := R1.out.2.1; omega) wr R1.out.1; rw [ho'] at this; exact this.mono fun e w' ⟨q1, q2, q3⟩ => ⟨q1, q2, by have := R1.out.2.1; omega, R1.out.2.2.trans q3⟩
       have HC := Lib.hid hcall
       have R4 : Hid (D.val c j (2 * v) (d2.bit (vctx c j)) = D.val c (k - 1) 1 d1) := by show _ = _; rw [← R3.out, ho']; rfl
       clear ho ho' hcall hor
       go_wp2_with (go_at_call 121; refine HC.out.mono ?_; rintro en w4 ⟨rfl, q⟩; have Q4 := Lib.hid q; clear q)
       go_roundw
       case rel => exact ⟨2 * v, j, by go_num, by go_num, by omega, by have := V2.out; omega, _, _, Q4.out, R4.out⟩
       case measure => simp [intOf] <;> omega
end Go.Proofs.YtcikldoaidmnhaaGreatDoor
namespace Go.Proofs.YtcikldoaidmnhaaGreatDoor
open Go Go.RowKit Pk Pc
set_option maxRecDepth 100000
structure JW (D : Nat → Prop) (w0 wr : World) (b : Nat) (S : Wk) (bw : Nat) (l : Pk.Bits) : Prop where
 ex : ∃ G F, JRep wr b S G ∧ RWRep wr bw (encFrom E.init l) F ∧ (∀ k, G k → ¬ F k) ∧ (∀ k, G k ∨ F k → D k ∨ w0.heap.size ≤ k)
 up : Upd D w0 wr
theorem JW.upd {D : Nat → Prop} {w0 wr w2 : World} {b : Nat} {S : Wk} {bw : Nat} {l : Pk.Bits} (h : JW D w0 wr b S bw l) (hu : Upd noBlk wr w2) : JW D w0 w2 b S bw l := by
 obtain ⟨⟨G, F, h1, h2, h3, h4⟩, h5⟩ := h
 exact ⟨⟨G, F, h1.upd hu (fun _ _ => id), h2.upd hu (fun _ _ => id), h3, h4⟩, h5.trans (hu.mono (fun _ _ h => h.elim))⟩
theorem JW.drew {D : Nat → Prop} {w0 wr : World} {b : Nat} {S : Wk} {bw : Nat} {l : Pk.Bits} (h : JW D w0 wr b S bw l) : JW D w0 wr.drew b S bw l := h.upd (Upd.refl _ wr).drew
/-- A step of the writer. -/
theorem JW.stepW {D : Nat → Prop} {w0 wr w' : World} {b : Nat} {S : Wk} {bw : Nat} {e' : E} {l' : Pk.Bits} {G F F' : Nat → Prop} (he : e' = encFrom E.init l') (h1 : JRep wr b S G) (h3 : ∀ k, G k → ¬ F k) (h4 : ∀ k, G k ∨ F k → D k ∨ w0.heap.size ≤ k) (h5 : Upd D w0 wr) (h : RWG F wr w' bw e' F') : JW D w0 w' b S bw l' := by
 subst he
 obtain ⟨r, n, u⟩ := h
 refine ⟨⟨G, F', h1.upd u (fun k hk => h3 k hk), r, fun k hk hf => ?_, fun k hk => ?_⟩, h5.then u (fun i hi hf => (h4 i (.inr hf)).resolve_right (by omega))⟩
 ·rcases n k hf with h | h
  ·exact h3 k hk h
  ·have := h1.lt k hk; omega
 ·rcases hk with h | h
  ·exact h4 k (.inl h)
  ·rcases n k h with h | h
   ·exact h4 k (.inr h)
   ·exact .inr (by have := h5.size; omega)
/-- A step of the state. -/
theorem JW.stepS {D : Nat → Prop} {w0 wr w' : World} {b : Nat} {S' : Wk} {bw : Nat} {l : Pk.Bits} {G F : Nat → Prop} (h2 : RWRep wr bw (encFrom E.init l) F) (h3 : ∀ k, G k → ¬ F k) (h4 : ∀ k, G k ∨ F k → D k ∨ w0.heap.size ≤ k) (h5 : Upd D w0 wr) (h : JPost G wr w' b S') : JW D w0 w' b S' bw l := by
 obtain ⟨G', r, n, u⟩ := h
 refine ⟨⟨G', F, r, h2.upd u (fun k hf hk => h3 k hk hf), fun k hk hf => ?_, fun k hk => ?_⟩, h5.then u (fun i hi hg => (h4 i (.inl hg)).resolve_right (by omega))⟩
 ·rcases n k hk with h | h
  ·exact h3 k h hf
  ·have := h2.lt k hf; omega
 ·rcases hk with h | h
  ·rcases n k h with h | h
   ·exact h4 k (.inl h)
   ·exact .inr (by have := h5.size; omega)
  ·exact h4 k (.inr h)
theorem JW.bit {D : Nat → Prop} {w0 wr : World} {b : Nat} {S : Wk} {bw : Nat} {l : Pk.Bits} (h : JW D w0 wr b S bw l) (c : Int) (one : Bool) (hl : l.length ≤ 900000) :
  Calls Tryz.prog 59 #[.pointer (some ⟨bw, 0, none⟩), .int .i64 c, .bool one] wr fun en w' => en = .returned (.tuple #[]) ∧ JW D w0 w' b S bw (l ++ [(c, one)]) := by
 obtain ⟨⟨G, F, h1, h2, h3, h4⟩, h5⟩ := h
 refine ((RWG.self h2).bit c one (by have := done_len hl; omega)).mono ?_
 rintro e w' ⟨rfl, F', h'⟩
 exact ⟨rfl, JW.stepW (by rw [encFrom_snoc]) h1 h3 h4 h5 h'⟩
theorem JW.number {D : Nat → Prop} {w0 wr : World} {b : Nat} {S : Wk} {bw : Nat} {l : Pk.Bits} (h : JW D w0 wr b S bw l) (c : Int) (n : Nat) (hn : n < 2 ^ 64) (hl : l.length ≤ 900000) :
  Calls Tryz.prog 56 #[.pointer (some ⟨bw, 0, none⟩), .int .i64 c, .int .u64 n] wr fun en w' => en = .returned (.tuple #[]) ∧ JW D w0 w' b S bw (l ++ numBits c n) := by
 obtain ⟨⟨G, F, h1, h2, h3, h4⟩, h5⟩ := h
 refine (rWNumber_any (RWG.self h2) c n hn (done_len hl)).mono ?_
 rintro e w' ⟨rfl, F', h'⟩
 exact ⟨rfl, JW.stepW (by rw [encFrom_app]) h1 h3 h4 h5 h'⟩
theorem JW.finish {D : Nat → Prop} {w0 wr : World} {b : Nat} {S : Wk} {bw : Nat} {l : Pk.Bits} (h : JW D w0 wr b S bw l) (hl : l.length ≤ 900000) :
  Calls Tryz.prog 64 #[.pointer (some ⟨bw, 0, none⟩)] wr fun en w' => en = .returned (.string (str (encode l))) ∧ Upd noBlk wr w' := by
 obtain ⟨⟨G, F, h1, h2, h3, h4⟩, h5⟩ := h
 exact rWFinish_any bw _ F wr h2 (by have := done_len hl; omega)
theorem JW.enter {D : Nat → Prop} {w0 wr : World} {b : Nat} {S : Wk} {bw : Nat} {l : Pk.Bits} (h : JW D w0 wr b S bw l) : ∃ D1 : Nat → Prop, (∀ k, D1 k → k < wr.heap.size) ∧ (∀ w1, Upd noBlk wr w1 → JW D1 w1 w1 b S bw l) ∧ (∀ w1 w' S' l', Upd noBlk wr w1 → JW D1 w1 w' b S' bw l' → JW D w0 w' b S' bw l') ∧ (∀ k, D1 k → D k ∨ w0.heap.size ≤ k) := by
 obtain ⟨⟨G, F, h1, h2, h3, h4⟩, h5⟩ := h
 refine ⟨fun k => G k ∨ F k, fun k hk => ?_, fun w1 hu => ?_, fun w1 w' S' l' hu h' => ?_, h4⟩
 ·rcases hk with h | h
  ·exact h1.lt k h
  ·exact h2.lt k h
 ·exact ⟨⟨G, F, h1.upd hu (fun _ _ => id), h2.upd hu (fun _ _ => id), h3, fun k hk => .inl hk⟩, Upd.refl _ _⟩
 ·obtain ⟨⟨G', F', k1, k2, k3, k4⟩, k5⟩ := h'
  have hs := hu.size
  have hs5 := h5.size
  refine ⟨⟨G', F', k1, k2, k3, fun k hk => ?_⟩, ?_⟩
  ·rcases k4 k hk with h | h
   ·exact h4 k h
   ·exact .inr (by omega)
  ·exact (h5.trans (hu.mono (fun _ _ h => h.elim))).then k5 (fun i hi hd => (h4 i hd).resolve_right (by omega))
theorem JW.keepObj {D : Nat → Prop} {w0 wr : World} {b : Nat} {S : Wk} {bw : Nat} {l : Pk.Bits} (h : JW D w0 wr b S bw l) {k : Nat} {o : Obj} (ho : w0.heap[k]? = some o) (hk : ¬ D k) : wr.heap[k]? = some o := h.up.heap ho hk
/-- The walk and a reader; n bounds how much was read. -/
structure JR (Z : Nat → Prop) (w0 wr : World) (b : Nat) (S : Wk) (br : Nat) (d : D) (n : Nat) : Prop where
 ex : ∃ G, JRep wr b S G ∧ RR wr br d n ∧ ¬ G br ∧ (∀ k, G k ∨ k = br → Z k ∨ w0.heap.size ≤ k)
 up : Upd Z w0 wr
theorem JR.upd {Z : Nat → Prop} {w0 wr w2 : World} {b : Nat} {S : Wk} {br : Nat} {d : D} {n : Nat} (h : JR Z w0 wr b S br d n) (hu : Upd noBlk wr w2) : JR Z w0 w2 b S br d n := by
 obtain ⟨⟨G, h1, h2, h3, h4⟩, h5⟩ := h
 exact ⟨⟨G, h1.upd hu (fun _ _ => id), h2.upd hu id, h3, h4⟩, h5.trans (hu.mono (fun _ _ h => h.elim))⟩
theorem JR.drew {Z : Nat → Prop} {w0 wr : World} {b : Nat} {S : Wk} {br : Nat} {d : D} {n : Nat} (h : JR Z w0 wr b S br d n) : JR Z w0 wr.drew b S br d n := h.upd (Upd.refl _ wr).drew
/-- A step of the reader. -/
theorem JR.stepR {Z : Nat → Prop} {w0 wr w' : World} {b : Nat} {S : Wk} {br : Nat} {d' : D} {n' : Nat} {G : Nat → Prop} (h1 : JRep wr b S G) (h3 : ¬ G br) (h4 : ∀ k, G k ∨ k = br → Z k ∨ w0.heap.size ≤ k) (h5 : Upd Z w0 wr) (r : RR w' br d' n') (u : Upd (· = br) wr w') : JR Z w0 w' b S br d' n' :=
 ⟨⟨G, h1.upd u (fun k hk e => by have e' : k = br := e; subst e'; exact h3 hk), r, h3, h4⟩, h5.then u (fun i hi hf => (h4 i (.inr hf)).resolve_right (by omega))⟩
/-- A step of the state. -/
theorem JR.stepS {Z : Nat → Prop} {w0 wr w' : World} {b : Nat} {S' : Wk} {br : Nat} {d : D} {n : Nat} {G : Nat → Prop} (h2 : RR wr br d n) (h3 : ¬ G br) (h4 : ∀ k, G k ∨ k = br → Z k ∨ w0.heap.size ≤ k) (h5 : Upd Z w0 wr) (h : JPost G wr w' b S') : JR Z w0 w' b S' br d n := by
 obtain ⟨G', r, m, u⟩ := h
 refine ⟨⟨G', r, h2.upd u h3, fun hk => ?_, fun k hk => ?_⟩, h5.then u (fun i hi hg => (h4 i (.inl hg)).resolve_right (by omega))⟩
 ·rcases m br hk with h | h
  ·exact h3 h
  ·have := h2.lt; omega
 ·rcases hk with h | h
  ·rcases m k h with h | h
   ·exact h4 k (.inl h)
   ·exact .inr (by have := h5.size; omega)
  ·exact h4 k (.inr h)
theorem JR.bit {Z : Nat → Prop} {w0 wr : World} {b : Nat} {S : Wk} {br : Nat} {d : D} {n : Nat} (h : JR Z w0 wr b S br d n) (hn : n ≤ 999999) (c : Int) :
  Calls Tryz.prog 121 #[.pointer (some ⟨br, 0, none⟩), .int .i64 c] wr fun en w' => en = .returned (.bool (d.one c)) ∧ JR Z w0 w' b S br (d.bit c) (n + 1) := by
 obtain ⟨⟨G, h1, h2, h3, h4⟩, h5⟩ := h
 refine (rRBit_any br n c d hn wr h2).mono ?_
 rintro e w' ⟨rfl, r, u⟩
 exact ⟨rfl, JR.stepR h1 h3 h4 h5 r u⟩
theorem RR.more {w : World} {b n m : Nat} {d : D} (h : RR w b d n) (hm : n ≤ m) : RR w b d m := by
 obtain ⟨arr, code, at_, h⟩ := h
 exact ⟨arr, code, at_, h.wf, h.blk, h.mod, h.s, h.a, h.o, h.left, Nat.le_trans h.le hm, h.bytes⟩
theorem JR.number {Z : Nat → Prop} {w0 wr : World} {b : Nat} {S : Wk} {br : Nat} {d : D} {n : Nat} (h : JR Z w0 wr b S br d n) (hn : n + 200 ≤ 999999) (c : Int) :
  Calls Tryz.prog 120 #[.pointer (some ⟨br, 0, none⟩), .int .i64 c] wr fun en w' => en = .returned (numV (d.number c)) ∧ JR Z w0 w' b S br (d.number c).d (n + 130) := by
 obtain ⟨⟨G, h1, h2, h3, h4⟩, h5⟩ := h
 refine (rRNumber_any h2 hn c).mono ?_
 rintro e w' ⟨rfl, n', hn', r, u⟩
 exact ⟨rfl, JR.stepR h1 h3 h4 h5 (r.more hn') u⟩
theorem JR.more {Z : Nat → Prop} {w0 wr : World} {b : Nat} {S : Wk} {br : Nat} {d : D} {n m : Nat} (h : JR Z w0 wr b S br d n) (hm : n ≤ m) : JR Z w0 wr b S br d m := by
 obtain ⟨⟨G, h1, h2, h3, h4⟩, h5⟩ := h
 exact ⟨⟨G, h1, h2.more hm, h3, h4⟩, h5⟩
/-- A call's own frame. -/
theorem JR.enter {Z : Nat → Prop} {w0 wr : World} {b : Nat} {S : Wk} {br : Nat} {d : D} {n : Nat} (h : JR Z w0 wr b S br d n) : ∃ Z1 : Nat → Prop, (∀ k, Z1 k → k < wr.heap.size) ∧ (∀ w1, Upd noBlk wr w1 → JR Z1 w1 w1 b S br d n) ∧ (∀ w1 w' S' d' n', Upd noBlk wr w1 → JR Z1 w1 w' b S' br d' n' → JR Z w0 w' b S' br d' n') ∧ (∀ k, Z1 k → Z k ∨ w0.heap.size ≤ k) := by
 obtain ⟨⟨G, h1, h2, h3, h4⟩, h5⟩ := h
 refine ⟨fun k => G k ∨ k = br, fun k hk => ?_, fun w1 hu => ?_, fun w1 w' S' d' n' hu h' => ?_, h4⟩
 ·rcases hk with h | h
  ·exact h1.lt k h
  ·subst h; exact h2.lt
 ·exact ⟨⟨G, h1.upd hu (fun _ _ => id), h2.upd hu id, h3, fun k hk => .inl hk⟩, Upd.refl _ _⟩
 ·obtain ⟨⟨G', k1, k2, k3, k4⟩, k5⟩ := h'
  have hs := hu.size
  have hs5 := h5.size
  refine ⟨⟨G', k1, k2, k3, fun k hk => ?_⟩, ?_⟩
  ·rcases k4 k hk with h | h
   ·exact h4 k h
   ·exact .inr (by omega)
  ·exact (h5.trans (hu.mono (fun _ _ h => h.elim))).then k5 (fun i hi hd => (h4 i hd).resolve_right (by omega))
theorem JR.keepObj {Z : Nat → Prop} {w0 wr : World} {b : Nat} {S : Wk} {br : Nat} {d : D} {n : Nat} (h : JR Z w0 wr b S br d n) {k : Nat} {o : Obj} (ho : w0.heap[k]? = some o) (hk : ¬ Z k) : wr.heap[k]? = some o := h.up.heap ho hk
end Go.Proofs.YtcikldoaidmnhaaGreatDoor
