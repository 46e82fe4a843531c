/- Walks: the reference's NewWriter, Finish, Encode. -/
import Derived.Test.YtadfolnhomongaaDoorWalkR5
import Derived.Deep.CutBlock
namespace Go.Proofs.YtadfolnhomongaaDoor
open Go Go.RowKit Pc
set_option maxRecDepth 100000

theorem zeroWr : Tryd.zeroCells91 = Array.replicate 4097 (.int .i64 0) ++ #[.slice none 0 0, .int .i64 0] := by kernel_rfl
theorem zeroWr_mod : MArr Tryd.zeroCells91 M.init := by
  rw [zeroWr]
  refine ⟨fun i hi => ?_, ?_⟩
  · rw [Array.getElem?_append_left (by simp; omega), Array.getElem?_replicate, if_pos (by omega)]; rfl
  · rw [Array.getElem?_append_left (by simp), Array.getElem?_replicate, if_pos (by omega)]; rfl
theorem rNewWriter_rep (w : World) : RWRep (w.alloc (.cells Tryd.zeroCells91 91)) w.heap.size E.init (· = w.heap.size) := by
  refine ⟨_, .slice none 0 0, ⟨E.init_wf, heap_alloc_new w _, zeroWr_mod, ?_, ?_, World.ownsRow_nil _ _ _ _, by simp [Value.ownBlock]⟩, ?_⟩
  · rw [zeroWr, Array.getElem?_append_right (by simp)]; simp
  · rw [zeroWr, Array.getElem?_append_right (by simp)]; simp [E.init]
  · funext k; simp [rwFoot, inRow, Value.ownBlock]

set_option maxHeartbeats 400000 in
theorem rNewWriter_any (w : World) : Calls Tryd.prog 32 #[] w fun e w' => e = .returned (.pointer (some ⟨w.heap.size, 0, none⟩)) ∧ w.alloc (.cells Tryd.zeroCells91 91) = w' := by
  go_enter Tryd.func32, Tryd.ntmps32
  go_wp2
  go_ret
  exact ⟨rfl, rfl⟩

/-- The digits ahead of the trimming: all but the last, and the last. -/
structure FinAt (w wr : World) (e : E) (vo : Value) (xs : List Nat) (l : Nat) : Prop where
  own : wr.ownsRow w.heap.size 3 1 vo xs.length (xs.map intV)
  len : xs.length = e.done.length
  fin : trim (xs ++ [l]) = e.finish
  bytes : ∀ d, d ∈ xs ++ [l] → d < 256
  up : Upd noBlk w wr
theorem own_cap {w : World} {base g n cap : Nat} {t : TypeId} {sz : Nat} {xs : List Value} (h : w.ownsRow base t sz (.slice (some ⟨g, 0, none⟩) n cap) n xs) : n ≤ cap := by
  rcases h.2 with ⟨h1, _⟩ | ⟨g', cap', cur, h1, _, _, h2, _⟩
  · cases h1
  · simp only [Value.slice.injEq, true_and] at h1
    rw [h1.2]; exact h2
def lenOfS : Value → Nat | .slice _ n _ => n | _ => 0
theorem trim_take_all {xs : List Nat} {k : Nat} (hk : k < xs.length) (h0 : xs[k] = 0) : trim (xs.take (k + 1)) = trim (xs.take k) := by
  rw [take_snoc hk, h0, trim_snoc_zero]
theorem trim_take_stop {xs : List Nat} {k : Nat} (hk : k < xs.length) (h0 : xs[k] ≠ 0) : trim (xs.take (k + 1)) = xs.take (k + 1) := by
  rw [take_snoc hk, trim_snoc_ne _ h0]

set_option maxHeartbeats 2000000 in
theorem rWFinish_any (b : Nat) (e : E) (F : Nat → Prop) (w : World) (h : RWRep w b e F) (hlen : e.done.length + 1 ≤ 1000000) :
    Calls Tryd.prog 36 #[.pointer (some ⟨b, 0, none⟩)] w fun en w' => en = .returned (.string (str e.finish)) ∧ Upd noBlk w w' := by
  obtain ⟨arr, dv, h, rfl⟩ := h
  have he := h.wf
  obtain ⟨c1, c2, cf, cs⟩ := h.cells
  obtain ⟨i0, hi0, hz0, hz1, hz2⟩ := info_parts info_int
  have hlow : ((e.low : Nat) : Int) < 4294967296 := by have := he.low; omega
  have m1 : Hid (0 + e.done.length ≤ maxLen) := by show _ ≤ _; unfold maxLen; omega
  have b1 : Hid ((0 + e.done.length) * 8 ≤ 140737488355328) := by show _ ≤ _; omega
  have m2 : Hid (e.done.length + 1 ≤ maxLen) := by show _ ≤ _; unfold maxLen; omega
  have b2 : Hid ((e.done.length + 1) * 8 ≤ 140737488355328) := by show _ ≤ _; omega
  have o0 : (w.alloc (.cells #[] 3)).ownsRow w.heap.size 3 1 (.slice (some ⟨w.heap.size, 0, none⟩) 0 0) 0 [] := World.ownsRow_lit w #[] 0 (Nat.le_refl _) (by unfold maxLen; omega) (by simp)
  obtain ⟨v1, w1, r1, o1, g1, hb1⟩ := append_src (w.alloc (.cells #[] 3)) 29 29 3 i0 _ 1 8 Tryd.underlying29 hi0 hz0 hz1 hz2 rfl (by omega) o0 (by simp) (h.own.alloc _) (intV_one _) m1.out b1.out
  rw [Nat.zero_add, List.nil_append] at o1
  have U1 : Hid (Upd noBlk w w1) := by
    refine (((Upd.refl noBlk w).alloc _).then (upd_of_grown g1 (F := fun k => some k = some w.heap.size) (fun k hk _ => ?_)) (fun i hi h => ?_))
    · simp only [Value.ownBlock, Option.some.injEq] at hk; rw [hk]
    · simp only [Option.some.injEq] at h; omega
  have lb := lt_of_heap h.blk
  have R1 := Lib.hid r1
  have O1 := Lib.hid o1
  have HD := Lib.hid he.done
  have HL := Lib.hid hlen
  have hq : (((e.low : Nat) : Int) + 16777216 - 1) / 16777216 = ((e.last : Nat) : Int) := by unfold E.last; omega
  have hlast : Hid (e.last ≤ 256) := by show _ ≤ _; unfold E.last; omega
  clear r1 m1 b1 o0 g1 hb1 o1 cf cs h hlen he
  -- behind the last append: the loops
  go_enter Tryd.func36, Tryd.ntmps36
  go_upto_if 21 with (at_builtin; refine wpList_append_run rfl _ _ _ rfl rfl rfl R1.out ?_)
  go_cut [3, 4] (fun vl vo wc => ∃ xs l, vl = .int .i64 (l : Nat) ∧ FinAt w wc e vo xs l)
  case first =>
    by_cases hl : e.last = 256
    · have ht : (((e.last : Nat) : Int) == 256) = true := by rw [beq_iff_eq]; omega
      have HE := Lib.hid hl
      clear hl
      simp only [ht]
      clear ht hq
      go_wp2_with fail
      refine (carried_any _ v1 e.done HD.out (by have := HL.out; omega) w1 O1.out).mono ?_
      rintro en w2 ⟨v2, rfl, q1, q2⟩
      have Q : Hid (FinAt w w2 e v2 (carry e.done) 0) := by
        refine ⟨?_, carry_length _, ?_, ?_, U1.out.trans q2⟩
        · rw [carry_length]
          exact ⟨q1.1, q1.2.imp id (fun ⟨g, cap, cur, a1, a2, a3⟩ => ⟨g, cap, cur, a1, Nat.le_trans U1.out.size a2, a3⟩)⟩
        · unfold E.finish; rw [if_pos HE.out]
        · intro d hd
          rcases List.mem_append.1 hd with h | h
          · exact carry_lt HD.out d h
          · simp at h; omega
      clear q1 q2
      go_wp2_with fail
      go_meet
      exact ⟨_, 0, rfl, Q.out⟩
    · have ht : (((e.last : Nat) : Int) == 256) = false := by rw [beq_eq_false_iff_ne]; omega
      have Q : Hid (FinAt w w1 e v1 e.done e.last) := by
        refine ⟨O1.out, rfl, ?_, ?_, U1.out⟩
        · unfold E.finish; rw [if_neg hl]
        · intro d hd
          have := hlast.out
          rcases List.mem_append.1 hd with h | h
          · exact HD.out d h
          · simp at h; omega
      clear hl
      simp only [ht]
      clear ht hq
      go_wp2_with fail
      go_meet
      exact ⟨_, _, rfl, Q.out⟩
  case rest =>
    obtain ⟨xs, l, rfl, hf⟩ := hcut
    obtain ⟨gg, cap, w3, r3, o3, g3, hat, hlt⟩ := append_one wc 29 29 3 i0 _ 1 8 Tryd.underlying29 hi0 hz0 hz1 hz2 rfl (by omega) hf.own hf.up.size [intV l] rfl (intV_one [l]) (by rw [hf.len]; exact m2.out) (by rw [hf.len]; exact b2.out)
    have R3 := Lib.hid r3
    have hxl : Hid ((xs ++ [l]).length = xs.length + 1) := by show _ = _; simp
    have O3 : Hid (w3.ownsRow w.heap.size 3 1 (.slice (some ⟨gg, 0, none⟩) (xs ++ [l]).length cap) (xs ++ [l]).length ((xs ++ [l]).map intV)) := by
      show World.ownsRow _ _ _ _ _ _ _
      rw [hxl.out, List.map_append]; exact o3
    have U3 : Hid (Upd noBlk w w3) := by
      refine hf.up.then ((upd_of_grown (World.grownBy_alloc wc _ u4.ownBlock) (F := inRow u4) (fun k hk _ => hk)).trans (upd_of_grown g3 (fun k hk _ => hk))) (fun j hj hj' => ?_)
      have := (hf.own.lt j hj').1; omega
    have HF := Lib.hid hf
    clear r3 o3 g3 hat hlt hf
    rw [show xs.length + 1 = (xs ++ [l]).length from hxl.out.symm] at R3
    have hzb := HF.out.bytes
    have hzl : (xs ++ [l]).length ≤ 1000000 := by rw [hxl.out, HF.out.len]; exact HL.out
    have HFI : Hid (trim (xs ++ [l]) = e.finish) := HF.out.fin
    clear hxl HF R1 O1 c1 c2 hlow hq hlast lb
    generalize xs ++ [l] = zs at *
    have hzl' : ((zs.length : Nat) : Int) ≤ 1000000 := by omega
    have HZ := Lib.hid hzl
    have HB := Lib.hid hzb
    clear hzl hzb
    go_upto_block 0 with (at_builtin; refine wpList_append_run rfl _ _ _ rfl rfl rfl R3.out ?_)
    go_cut [4] (fun v wc => ∃ k : Nat, v = .slice (some ⟨gg, 0, none⟩) k cap ∧ k ≤ zs.length ∧ zs.take k = trim zs ∧ wc = w3)
    case first =>
      go_wp2_with fail
      go_loop [4] (fun v => ∃ k : Nat, v = .slice (some ⟨gg, 0, none⟩) k cap ∧ k ≤ zs.length ∧ trim (zs.take k) = trim zs) (fun v => lenOfS v)
      case atStart => exact ⟨_, rfl, Nat.le_refl _, by rw [List.take_length]⟩
      case round =>
        obtain ⟨k, rfl, hk, ht⟩ := hrel
        rcases k with _ | j
        · have HT : Hid (zs.take 0 = trim zs) := by show _ = _; rw [← ht]; rfl
          clear ht
          go_wp2_with fail
          go_meet
          exact ⟨0, rfl, Nat.zero_le _, HT.out, rfl⟩
        · have hj : j < zs.length := hk
          have hc : w3.cell? ⟨gg, j, none⟩ = some (.int .i64 (zs[j] : Nat)) := by rw [O3.out.cellAt j (by omega)]; simp [hj, intV]
          have hcap : ((j : Nat) : Int) ≤ ((cap : Nat) : Int) := by have := own_cap O3.out; omega
          by_cases h0 : zs[j] = 0
          · have e2 : (((zs[j] : Nat) : Int) == 0) = true := by rw [beq_iff_eq]; omega
            have HT : Hid (trim (zs.take j) = trim zs) := by show _ = _; rw [← ht, trim_take_all hj h0]
            clear h0 ht
            go_wp2_with fail
            go_round
            case rel => exact ⟨j, by simp, by omega, HT.out⟩
            case measure => simp [lenOfS]
          · have e2 : (((zs[j] : Nat) : Int) == 0) = false := by rw [beq_eq_false_iff_ne]; omega
            have HT : Hid (zs.take (j + 1) = trim zs) := by show _ = _; rw [← ht, trim_take_stop hj h0]
            clear h0 ht
            go_wp2_with fail
            go_meet
            exact ⟨j + 1, rfl, hk, HT.out, rfl⟩
    case rest =>
      obtain ⟨k, rfl, hk, ht, rfl⟩ := hcut
      have HT := Lib.hid ht
      clear ht
      go_wp2_with fail
      go_loopw [5, 6] (fun s i wr => ∃ j : Nat, i = .int .i64 (j : Nat) ∧ j ≤ k ∧ s = .string (str ((zs.take k).take j)) ∧ Upd noBlk wc wr) (fun _ i _ => k - (intOf i).toNat)
      case atStart => exact ⟨0, rfl, Nat.zero_le _, rfl, Upd.refl _ _⟩
      case round =>
        obtain ⟨j, rfl, hj, rfl, hu⟩ := hrel
        by_cases hlt : j < k
        · have hjz : j < zs.length := by omega
          have hc : wr.cell? ⟨gg, j, none⟩ = some (.int .i64 (zs[j] : Nat)) := hu.cell (by rw [O3.out.cellAt j (by omega)]; simp [hjz, intV]) id
          have hb8 : IntKind.u8.wrap ((zs[j] : Nat) : Int) = ((zs[j] : Nat) : Int) := wrap_u8 (by omega) (by have := HB.out _ (List.getElem_mem hjz); omega)
          have hcv := conv_own (P := Tryd.prog) (src := 32) (e := 5) (dst := 9) (l := [zs[j]]) Tryd.underlying32 Tryd.underlying5 Tryd.underlying9 (World.ownsRow_lit (base := 0) wr #[byteV zs[j]] 1 (Nat.zero_le _) (by unfold maxLen; omega) (by simp))
          have hsa := run_add (P := Tryd.prog) (a := (zs.take k).take j) (b := [zs[j]]) (c := (zs.take k).take (j + 1)) (by simp; omega) (by rw [take_snoc (l := zs.take k) (by simp; omega)]; simp)
          unfold byteV at hcv
          have HU := Lib.hid hu
          clear hu
          go_wp2_with fail
          go_roundw
          case rel => exact ⟨j + 1, by go_num, hlt, rfl, HU.out.alloc _⟩
          case measure => simp [intOf]; omega
        · have hjk : j = k := by omega
          have HF : Hid (str ((zs.take k).take j) = str e.finish) := by show _ = _; rw [hjk, List.take_take, Nat.min_self, HT.out, HFI.out]
          have HU := Lib.hid (U3.out.trans hu)
          clear hu hjk
          go_wp2_with fail
          go_ret
          exact ⟨by rw [← HF.out]; rfl, HU.out⟩
end Go.Proofs.YtadfolnhomongaaDoor
