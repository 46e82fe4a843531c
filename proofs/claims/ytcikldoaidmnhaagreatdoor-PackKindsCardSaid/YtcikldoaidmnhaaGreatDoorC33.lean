/- Walks of the reference of packets: digits, hashes. No condition. Walks of the reference of packets: hashes that numbers determine. No condition. Walks of the reference of packets: parts, and the packet of a root. No condition. Walks of the reference of packets: parts that numbers determine. No condition. Walks of the reference of packets: lists of parts compared. No condition. -/
import Derived.Test.YtcikldoaidmnhaaGreatDoorC22
import Derived.Test.YtcikldoaidmnhaaGreatDoorC24
import Derived.Test.YtcikldoaidmnhaaGreatDoorC28
namespace Go.Proofs.YtcikldoaidmnhaaGreatDoor
open Go Go.RowKit Pk
set_option maxRecDepth 100000
set_option maxHeartbeats 1000000 in
theorem jdigits_any (n : Nat) (hn : n < 9223372036854775808) (w : World) : Calls Tryz.prog 82 #[.int .i64 n] w fun en w' => strR (digB n) w en w' := by
  have HN : Hid (n < 9223372036854775808) := hn
  have HT := Lib.hid (digB_ten hn)
  have h63 : ((n : Nat) : Int) ≤ 9223372036854775807 := by omega
  clear hn
  go_enter Tryz.func82, Tryz.ntmps82
  go_wp2_with fail
  go_loopw [0, 3] (fun i o wr => ∃ (m : Nat) (L : Bytes), i = .int .i64 m ∧ L ++ digB m = digB n ∧ m ≤ n ∧ o = .string (bs L) ∧ Upd noBlk w wr) (fun i _ _ => (intOf i).toNat)
  case atStart => exact ⟨n, [], rfl, rfl, Nat.le_refl _, rfl, Upd.refl _ _⟩
  case round =>
    obtain ⟨m, L, rfl, h1, h2, rfl, h4⟩ := hrel
    have HL := Lib.hid h1
    have HM := Lib.hid h2
    have HU := Lib.hid h4
    have hm63 : ((m : Nat) : Int) ≤ 9223372036854775807 := by omega
    have HLL : Hid (L.length ≤ 10) := by have h5 := congrArg List.length h1; rw [List.length_append] at h5; have := HT.out; show _ ≤ _; omega
    clear h1 h2 h4 h63
    by_cases hb : m < 128
    · have hb' : ((m : Nat) : Int) < 128 := by omega
      have hb'' : ¬ (128 : Int) ≤ ((m : Nat) : Int) := by omega
      have HB := Lib.hid hb
      clear hb
      obtain ⟨x, hx⟩ : ∃ x, x = UInt8.ofNat m := ⟨_, rfl⟩
      have hxm : ((x.toNat : Nat) : Int) = ((m : Nat) : Int) := by rw [hx, u8_small (by have := HB.out; omega)]
      have HU2 : Hid (Upd noBlk w (wr.alloc (.cells #[.int .u8 m] 5))) := HU.out.alloc _
      have hcv := conv_one x wr.heap.size (wr.alloc (.cells #[.int .u8 m] 5)) (by rw [hxm]; exact heap_alloc_new wr _)
      have hsz : ¬ 9223372036854775807 < (bs L).size + (bs [x]).size := by rw [bs_size, bs_size]; have := HLL.out; simp only [List.length_cons, List.length_nil]; omega
      have hwm : IntKind.u8.wrap ((m : Nat) : Int) = ((m : Nat) : Int) := by simp [IntKind.wrap, IntKind.signed, IntKind.bits]; omega
      go_wp2_with fail
      go_ret
      refine ⟨?_, HU2.out⟩
      show Ending.returned (.string (bs L ++ bs [UInt8.ofNat m])) = _
      rw [bs_append, ← HL.out, digB_small HB.out]
    · have hb' : (128 : Int) ≤ ((m : Nat) : Int) := by omega
      have HB := Lib.hid hb
      clear hb
      obtain ⟨x, hx⟩ : ∃ x, x = UInt8.ofNat (m % 128 + 128) := ⟨_, rfl⟩
      have hxm : ((x.toNat : Nat) : Int) = ((m : Nat) : Int) % 128 + 128 := by rw [hx, u8_small (by omega)]; omega
      have HX : Hid (x = UInt8.ofNat (m % 128 + 128)) := hx
      clear hx
      have HU2 : Hid (Upd noBlk w (wr.alloc (.cells #[.int .u8 (((m : Nat) : Int) % 128 + 128)] 5))) := HU.out.alloc _
      have hcv := conv_one x wr.heap.size (wr.alloc (.cells #[.int .u8 (((m : Nat) : Int) % 128 + 128)] 5)) (by rw [hxm]; exact heap_alloc_new wr _)
      have hsz : ¬ 9223372036854775807 < (bs L).size + (bs [x]).size := by rw [bs_size, bs_size]; have := HLL.out; simp only [List.length_cons, List.length_nil]; omega
      clear hxm
      go_wp2_with fail
      refine ⟨⟨m / 128, L ++ [x], by go_num, ?_, by have := HM.out; omega, by rw [← bs_append], HU2.out⟩, ?_⟩
      · rw [← HL.out, digB_big HB.out, HX.out]; simp
      · simp only [intOf]; have := HB.out; omega
set_option maxHeartbeats 1000000 in
theorem jbytes_any (h : H32) (w : World) : Calls Tryz.prog 83 #[.agg (byV h.1).toArray] w fun en w' => strR h.1 w en w' := by
  have HB : Hid ((w.alloc (.cells (byV h.1).toArray 81)).heap[w.heap.size]? = some (.cells (byV h.1).toArray 81 (0, 0))) := heap_alloc_new w _
  have HU0 : Hid (Upd noBlk w (w.alloc (.cells (byV h.1).toArray 81))) := (Upd.refl _ w).alloc _
  go_enter Tryz.func83, Tryz.ntmps83
  go_wp2_with fail
  generalize w.alloc (.cells (byV h.1).toArray 81) = w1 at *
  obtain ⟨N, hN⟩ : ∃ N, N = w.heap.size := ⟨_, rfl⟩
  rw [← hN] at HB ⊢
  have HWN : Hid (w.heap.size ≤ N) := by show _ ≤ _; omega
  clear hN
  go_loopw [3, 4] (fun o i wr => ∃ k : Nat, i = .int .i64 k ∧ k ≤ 32 ∧ wr.ownsRow w1.heap.size 5 1 o k (byV (h.1.take k)) ∧ Upd noBlk w1 wr) (fun _ i _ => 32 - (intOf i).toNat)
  case atStart => exact ⟨0, rfl, by omega, World.ownsRow_nil _ _ _ _, Upd.refl _ _⟩
  case round =>
    obtain ⟨k, rfl, hk, ho, hu⟩ := hrel
    have HO := Lib.hid ho
    have HU := Lib.hid hu
    obtain ⟨A, cap, rfl⟩ := own_form ho
    clear ho hu
    have hl32 : h.1.length = 32 := h.2
    have HTL : Hid ((h.1.take k).length = k) := by show _ = _; rw [List.length_take]; omega
    by_cases hlt : k < 32
    · have hlt' : ((k : Nat) : Int) < 32 := by omega
      have hc : wr.cell? ⟨N, k, none⟩ = some (.int .u8 ((h.1[k]'(by omega)).toNat)) := by
        rw [cell_of_row _ _ k _ 81 (0, 0) (HU.out.heap HB.out id)]
        simp [byV, hl32, hlt]
      have HTK : Hid (h.1.take (k + 1) = h.1.take k ++ [h.1[k]'(by omega)]) := List.take_succ_eq_append_getElem (by omega)
      generalize h.1[k]'(by omega) = x at *
      have ho2 := HO.out
      rw [show (Value.slice A k cap) = Value.slice A (h.1.take k).length cap by rw [HTL.out]] at ho2
      have hup : Upd noBlk w wr := HU0.out.trans HU.out
      have ho3 : wr.ownsRow w1.heap.size 5 1 (.slice A (h.1.take k).length cap) (h.1.take k).length (byV (h.1.take k)) := by have := HO.out; rw [HTL.out]; exact this
      obtain ⟨g, cap3, w3, r3, o3, u3⟩ := append_by HU.out.size ho3 x (by rw [HTL.out]; omega)
      rw [HTL.out] at r3 o3
      rw [← HTK.out] at o3
      have R3 := Lib.hid r3
      have O3 := Lib.hid o3
      have HU3 := Lib.hid (HU.out.then u3 (fun i hi e => absurd hi (by have := (ho3.lt i e).1; omega)))
      clear r3 o3 u3 ho2 ho3 hup
      go_wp2_with (first | (at_builtin; refine wpList_append_run rfl _ _ _ rfl rfl rfl R3.out ?_))
      exact ⟨⟨k + 1, by push_cast; rfl, hlt, by have := O3.out; rw [List.length_take, Nat.min_eq_left (by omega)] at this; exact this, HU3.out⟩, by simp only [intOf]; omega⟩
    · obtain rfl : k = 32 := by omega
      have hcv : (convert 41 9 (.slice A 32 cap)).run Tryz.prog wr = .ok (.string (bs h.1)) wr := by
        have hx := HO.out
        have e : h.1.take 32 = h.1 := List.take_of_length_le (by omega)
        rw [e] at hx
        have h1 := conv_bs (l := h.1) (n := 32) hl32.symm hx
        exact h1
      have HUZ := Lib.hid (HU0.out.trans HU.out)
      go_wp2_with fail
      go_ret
      exact ⟨rfl, HUZ.out⟩
end Go.Proofs.YtcikldoaidmnhaaGreatDoor
namespace Go.Proofs.YtcikldoaidmnhaaGreatDoor
open Go Go.RowKit Pk
set_option maxRecDepth 100000
def hashB (n : Int) (k : Nat) : Int := wrap64 (n + (wrap64 ((k : Int) * n)).tmod 7) % 256
def hashTo (n : Int) (k : Nat) : Array Value := ((List.range 32).map (fun j => Value.int .u8 (if j < k then hashB n j else 0))).toArray
theorem hashTo_zero (n : Int) : hashTo n 0 = Array.replicate 32 (.int .u8 0) := by rfl
theorem hashTo_get (n : Int) (k j : Nat) (h : j < 32) : (hashTo n k)[j]? = some (.int .u8 (if j < k then hashB n j else 0)) := by
  simp [hashTo, h]
theorem hashTo_succ (n : Int) (k : Nat) : (hashTo n k).setIfInBounds k (.int .u8 (hashB n k)) = hashTo n (k + 1) := by
  apply Array.ext_getElem?
  intro j
  rw [Array.getElem?_setIfInBounds]
  by_cases h : j < 32
  · rw [hashTo_get n k j h, hashTo_get n (k + 1) j h]
    by_cases e : k = j
    · subst e
      rw [if_pos rfl, if_pos (by simpa [hashTo] using h), if_pos (by omega)]
    · rw [if_neg e]
      by_cases h2 : j < k
      · rw [if_pos h2, if_pos (by omega)]
      · rw [if_neg h2, if_neg (by omega)]
  · have h1 : ∀ q, (hashTo n q)[j]? = none := fun q => by simp [hashTo]; omega
    rw [h1, h1]
    by_cases e : k = j
    · subst e
      rw [if_pos rfl, if_neg (by simpa [hashTo] using h)]
    · rw [if_neg e]
set_option maxHeartbeats 1000000 in
theorem jhash_any (n : Int) (w : World) : Calls Tryz.prog 72 #[.int .i64 n] w fun en w' => en = .returned (.agg (hashTo n 32)) ∧ Upd noBlk w w' := by
  go_enter Tryz.func72, Tryz.ntmps72
  have hrep : (Array.replicate 32 (Value.int .u8 0)) = #[.int .u8 0, .int .u8 0, .int .u8 0, .int .u8 0, .int .u8 0, .int .u8 0, .int .u8 0, .int .u8 0, .int .u8 0, .int .u8 0, .int .u8 0, .int .u8 0, .int .u8 0, .int .u8 0, .int .u8 0, .int .u8 0, .int .u8 0, .int .u8 0, .int .u8 0, .int .u8 0, .int .u8 0, .int .u8 0, .int .u8 0, .int .u8 0, .int .u8 0, .int .u8 0, .int .u8 0, .int .u8 0, .int .u8 0, .int .u8 0, .int .u8 0, .int .u8 0] := rfl
  have b0 : Hid (((w.alloc (.cells (Array.replicate 32 (.int .u8 0)) 81)).alloc (.cells (Array.replicate 32 (.int .u8 0)) 81)).heap[w.heap.size]? = some (.cells (Array.replicate 32 (.int .u8 0)) 81 (0, 0))) := ((Upd.refl noBlk _).alloc _).heap (heap_alloc_new w _) id
  have b1 : Hid (((w.alloc (.cells (Array.replicate 32 (.int .u8 0)) 81)).alloc (.cells (Array.replicate 32 (.int .u8 0)) 81)).heap[w.heap.size + 1]? = some (.cells (hashTo n 0) 81 (0, 0))) := by
    have h := heap_alloc_new (w.alloc (.cells (Array.replicate 32 (.int .u8 0)) 81)) (.cells (Array.replicate 32 (.int .u8 0)) 81)
    rw [show (w.alloc (.cells (Array.replicate 32 (.int .u8 0)) 81)).heap.size = w.heap.size + 1 from Array.size_push ..] at h
    exact h
  have HU0 : Hid (Upd noBlk w ((w.alloc (.cells (Array.replicate 32 (.int .u8 0)) 81)).alloc (.cells (Array.replicate 32 (.int .u8 0)) 81))) := ((Upd.refl noBlk w).alloc _).alloc _
  rw [hrep] at b0 b1 HU0
  go_wp2_with fail
  generalize (w.alloc _).alloc _ = w1 at *
  obtain ⟨N, hN⟩ : ∃ N, N = w.heap.size := ⟨_, rfl⟩
  rw [← hN] at b0 b1 ⊢
  have HWN : Hid (w.heap.size ≤ N) := by show _ ≤ _; omega
  clear hN
  go_loopw [4] (fun i wr => ∃ k : Nat, i = .int .i64 k ∧ k ≤ 32 ∧ wr.heap[N + 1]? = some (.cells (hashTo n k) 81 (0, 0)) ∧ Upd (fun b => b = N + 1) w1 wr) (fun i _ => 32 - (intOf i).toNat)
  case atStart => exact ⟨0, rfl, by omega, b1.out, Upd.refl _ _⟩
  case round =>
    obtain ⟨k, rfl, hk, hb, hu⟩ := hrel
    have HB := Lib.hid hb
    have HU := Lib.hid hu
    clear hb hu
    by_cases hlt : k < 32
    · have hlt' : ((k : Nat) : Int) < 32 := by omega
      have hc : wr.cell? ⟨N + 1, k, none⟩ = some (.int .u8 0) := by
        rw [cell_of_row _ _ k _ 81 (0, 0) HB.out, hashTo_get n k k hlt, if_neg (by omega)]
      have hf : wr.frozen? ⟨N + 1, k, none⟩ = false := by simp [World.frozen?, HB.out]
      go_wp2_with fail
      have hs := heap_setCell_eq (i := k) (.int .u8 (hashB n k)) HB.out
      rw [hashTo_succ] at hs
      exact ⟨⟨k + 1, by push_cast; rfl, hlt, hs, HU.out.setCell (p := ⟨N + 1, k, none⟩) (fun _ => rfl) _⟩, by simp only [intOf]; omega⟩
    · obtain rfl : k = 32 := by omega
      have HB0 := Lib.hid (HU.out.heap b0.out (by omega))
      have hl32 : (hashTo n 32).size = 32 := by simp [hashTo]
      have h1 : ∀ v ∈ (hashTo n 32).toList, v.oneCell' = true := by
        intro v hv
        simp [hashTo] at hv
        obtain ⟨j, _, rfl⟩ := hv
        rfl
      obtain ⟨X, hst, hx1, hx2⟩ := store_row (P := Tryz.prog) HB0.out (vs := (hashTo n 32).toList) (by simp [hashTo]) h1
      have HRA : Hid (wr.rangeAt (N + 1) 0 (hashTo n 32).toList) := fun j v hv => by
        rw [Nat.zero_add, cell_of_row _ _ j _ 81 (0, 0) HB.out]
        simpa using hv
      have HI : Hid ((Tryz.prog.info? 81).map (·.size) = some (hashTo n 32).toList.length) := by show _ = _; rw [show (hashTo n 32).toList.length = 32 by simp [hashTo]]; kernel_rfl
      have hlen : (hashTo n 32).toList.length = 32 := by simp [hashTo]
      go_wp2_with (first | (refine wpList_load_mid rfl _ _ rfl (N + 1) 0 rfl (hashTo n 32).toList _ HRA.out Tryz.underlying81 rfl HI.out ?_))
      (try simp only [Exit.inBlock, Exit.then])
      refine bodyPost_ret (results_cell_row rfl _ _ N 81 _ (0, 0) _ rfl hx1 Tryz.underlying81 rfl (by have := HI.out; simpa using this)) rfl ?_
      refine ⟨rfl, ?_⟩
      have h1 := upd_newE HU0.out (HU.out) (by have := HWN.out; omega)
      exact upd_newE h1 hx2 HWN.out
def hashV (n : Int) : H32 := ⟨(List.range 32).map (fun k => UInt8.ofNat (hashB n k).toNat), by simp⟩
theorem hashTo_V (n : Int) : hashTo n 32 = (hashC (hashV n)).toArray := by
  unfold hashTo hashC hashV byV
  congr 1
  rw [List.map_map]
  apply List.map_congr_left
  intro j hj
  have hj := List.mem_range.1 hj
  rw [if_pos hj]
  simp only [Function.comp_apply]
  congr 1
  have h1 : 0 ≤ hashB n j := Int.emod_nonneg _ (by decide)
  have h2 : hashB n j < 256 := Int.emod_lt_of_pos _ (by decide)
  rw [u8_small (by omega)]
  omega
theorem jhash_V (n : Int) (w : World) : Calls Tryz.prog 72 #[.int .i64 n] w fun en w' => en = .returned (.agg (hashC (hashV n)).toArray) ∧ Upd noBlk w w' := by
  rw [← hashTo_V]
  exact jhash_any n w
end Go.Proofs.YtcikldoaidmnhaaGreatDoor
namespace Go.Proofs.YtcikldoaidmnhaaGreatDoor
open Go Go.RowKit Pk
set_option maxRecDepth 100000
theorem load_hash {w : World} {b o : Nat} (h : H32) (ha : w.rangeAt b o (byV h.1)) : (loadVar 81 ⟨b, o, none⟩).run Tryz.prog w = .ok (.agg (byV h.1).toArray) w :=
  run_loadVar_mid w b o 81 (byV h.1) _ ha Tryz.underlying81 rfl (by rw [byV_len, h.2]; kernel_rfl)
theorem exec_load_mid {P : Program} {op : Oper} {e : Operand → Value} {w : World} (ty : TypeId) (x : Operand) (ho : op.op = .load ty x) (b o : Nat) (hx : e x = .pointer (some ⟨b, o, none⟩)) (cs : List Value) (d : TypeDesc) (hc : w.rangeAt b o cs) (hu : P.underlying ty = some d) (hd : d.isRow = true) (hi : (P.info? ty).map (·.size) = some cs.length) : (execOp e op).run P w = .ok (.value (.agg cs.toArray)) w := by
  unfold execOp
  simp only [ho, hx, Instr.loadAt, Instr.sureAddr, Sem.run_bind, Sem.run_pure, Result.andThen_ok, run_loadVar_mid w b o ty cs d hc hu hd hi]
theorem size_hash (h : H32) : (Tryz.prog.info? 81).map (·.size) = some (byV h.1).length := by rw [byV_len, h.2]; kernel_rfl
set_option maxHeartbeats 2000000 in
theorem jparts_any (v : Value) (l : List P32) (hl : l.length ≤ 65536) (w : World) (h : kPart.Rd w v l) : Calls Tryz.prog 75 #[v] w fun en w' => strR (partsB (l.map plainP)) w en w' := by
  obtain ⟨A, cap, rfl, hcap, hx⟩ := h
  have HX := Lib.hid hx
  have HDG := fun W => Lib.hid (jdigits_any l.length (by omega) W)
  have hl' : ((l.length : Nat) : Int) ≤ 65536 := by omega
  have HPB : Hid (partsB (l.map plainP) = digB l.length ++ (l.map plainP).flatMap (fun p => p.1 ++ p.2)) := by show _ = _; unfold partsB; rw [List.length_map]
  have HDL := Lib.hid (digB_ten (n := l.length) (by omega))
  have HBY := fun h W => Lib.hid (jbytes_any h W)
  clear hx hl
  go_enter Tryz.func75, Tryz.ntmps75
  go_wp2_with fail
  refine (HDG _).out.mono ?_
  rintro e w1 ⟨rfl, u1⟩
  have U1 := Lib.hid u1
  clear u1 HDG
  go_wp2_with fail
  go_loopw [3, 4] (fun s i wr => ∃ k : Nat, i = .int .i64 k ∧ k ≤ l.length ∧ s = .string (bs (digB l.length ++ ((l.take k).map plainP).flatMap (fun p => p.1 ++ p.2))) ∧ Upd noBlk w wr) (fun _ i _ => l.length - (intOf i).toNat)
  case atStart => exact ⟨0, rfl, Nat.zero_le _, by simp, U1.out⟩
  case round =>
    obtain ⟨k, rfl, hk, rfl, hu⟩ := hrel
    have HU := Lib.hid hu
    clear hu
    by_cases hlt : k < l.length
    · have hlt' : ((k : Nat) : Int) < ((l.length : Nat) : Int) := by omega
      obtain ⟨b, off, rfl, f1⟩ := HX.out (by omega)
      have hat := (f1 k hlt).keep HU.out
      have hk64 : kPart.k = 64 := rfl
      rw [hk64] at hat
      have HAT := Lib.hid hat
      have HTK : Hid (((l.take (k + 1)).map plainP).flatMap (fun p => p.1 ++ p.2) = ((l.take k).map plainP).flatMap (fun p => p.1 ++ p.2) ++ (l[k].1.1 ++ l[k].2.1)) := by
        show _ = _
        rw [List.take_succ_eq_append_getElem hlt, List.map_append, List.flatMap_append]
        simp [plainP]
      clear f1 hat hk64
      generalize l[k] = pk at *
      have HPL : Hid ((digB l.length ++ ((l.take k).map plainP).flatMap (fun p => p.1 ++ p.2)).length ≤ 10 + k * 64) := by
        show _ ≤ _
        have h1 := HDL.out
        have h2 : (((l.take k).map plainP).flatMap (fun p => p.1 ++ p.2)).length = (l.take k).length * 64 := by
          generalize l.take k = q
          induction q with
          | nil => rfl
          | cons p q ih => rw [List.map_cons, List.flatMap_cons, List.length_append, ih]; simp [plainP, p.1.2, p.2.2]; omega
        rw [List.length_append, h2, List.length_take, Nat.min_eq_left hk]
        omega
      have HEQ : Hid (digB l.length ++ ((l.take (k + 1)).map plainP).flatMap (fun p => p.1 ++ p.2) = (digB l.length ++ ((l.take k).map plainP).flatMap (fun p => p.1 ++ p.2)) ++ pk.1.1 ++ pk.2.1) := by
        show _ = _
        rw [HTK.out]; simp only [List.append_assoc]
      clear HTK HX
      have hpre : ∃ pre, pre = digB l.length ++ ((l.take k).map plainP).flatMap (fun p => p.1 ++ p.2) := ⟨_, rfl⟩
      obtain ⟨pre, hpre⟩ := hpre
      rw [← hpre] at HPL HEQ ⊢
      clear hpre
      have HS1 : Hid (¬ 9223372036854775807 < (bs pre).size + (bs pk.1.1).size) := by show ¬ _; rw [bs_size, bs_size, pk.1.2]; have := HPL.out; omega
      have HS2 : Hid (¬ 9223372036854775807 < (bs pre).size + (bs pk.1.1).size + (bs pk.2.1).size) := by show ¬ _; rw [bs_size, bs_size, bs_size, pk.1.2, pk.2.2]; have := HPL.out; omega
      have HA1 : Hid (bs pre ++ bs pk.1.1 = bs (pre ++ pk.1.1)) := by show _ = _; rw [bs_append]
      have HA2 : Hid (bs (pre ++ pk.1.1) ++ bs pk.2.1 = bs (pre ++ pk.1.1 ++ pk.2.1)) := by show _ = _; rw [bs_append]
      have HB1 := HBY pk.1
      have HB2 := HBY pk.2
      clear HBY HDL
      go_wp2_with fail
      refine wp_region_tree 14 (OT.sures [0, 1, 2, 8, 9, 3, 10, 4, 11, 5, 12] (.run 6 (OT.sures [7] (.run 13 .nil)))) (fun w' => Upd noBlk wr w') (by kernel_rfl) (by kernel_rfl) (fun c a d v w h => by cases d <;> exact h) ((Upd.refl noBlk wr).drew) ?_
      simp only [OT.sures]
      iterate 9 (apply wpT_sure rfl rfl; focus (intro w' hw'; go_simp; rfl))
      apply wpT_sure rfl rfl
      focus (intro w' hw'; obtain ⟨ra, rb⟩ := part_ranges (HAT.out.keep hw'); exact exec_load_mid 81 (.tmp 18) rfl b (off + k * 64) (by go_simp) (byV pk.1.1) _ ra Tryz.underlying81 rfl (size_hash pk.1))
      apply wpT_sure rfl rfl
      focus (intro w' hw'; obtain ⟨ra, rb⟩ := part_ranges (HAT.out.keep hw'); exact exec_load_mid 81 (.tmp 25) rfl b (off + k * 64 + 32) (by go_simp) (byV pk.2.1) _ rb Tryz.underlying81 rfl (size_hash pk.2))
      refine wpT_run (fun w' => Upd noBlk wr w') (fun _ h => h) rfl (fun K' hK => ?_)
      go_simp
      refine (HB1 _).out.mono ?_
      rintro e wz ⟨rfl, uz⟩
      have UZ := Lib.hid ((Upd.refl noBlk wr).drew.trans uz)
      refine hK _ _ ⟨UZ.out, ?_⟩
      clear hK K' uz HB1
      apply wpT_sure rfl rfl
      focus (intro w' hw'; have s1 := HS1.out; go_simp; rfl)
      refine wpT_run (fun w' => Upd noBlk wr w') (fun _ h => h) rfl (fun K' hK => ?_)
      go_simp
      refine (HB2 _).out.mono ?_
      rintro e wy ⟨rfl, uy⟩
      have UY := Lib.hid (HU.out.trans (UZ.out.trans uy))
      refine hK _ _ ⟨UZ.out.trans uy, ?_⟩
      clear hK K' uy HB2
      refine wpT_nil ?_
      have s2 := HS2.out
      go_wp2_with fail
      refine ⟨⟨k + 1, by push_cast; rfl, hlt, ?_, UY.out⟩, by simp only [intOf]; omega⟩
      rw [HEQ.out, ← HA2.out, ← HA1.out]
    · obtain rfl : k = l.length := by omega
      go_wp2_with fail
      go_ret
      refine ⟨?_, HU.out⟩
      rw [HPB.out, List.take_length]; rfl
set_option maxHeartbeats 2000000 in
theorem jRoot_any (v : Value) (l : List P32) (w : World) (h : kPart.Rd w v l) : Calls Tryz.prog 27 #[.agg #[v]] w fun en w' => strR (if 65536 < l.length then [] else rootB (l.map plainP)) w en w' := by
  have HPA : Hid (∀ W, l.length ≤ 65536 → Upd noBlk w W → Calls Tryz.prog 75 #[v] W fun en w' => strR (partsB (l.map plainP)) W en w') := fun W hl hW => jparts_any v l hl W (h.keep hW)
  obtain ⟨A, cap, rfl, hcap, hx⟩ := h
  clear hx
  go_enter Tryz.func27, Tryz.ntmps27
  have HU0 : Hid (Upd noBlk w (w.alloc (.cells #[.slice A l.length cap] 50))) := (Upd.refl _ w).alloc _
  by_cases hl : 65536 < l.length
  · have hl' : (65536 : Int) < ((l.length : Nat) : Int) := by omega
    rw [if_pos hl]
    clear HPA
    go_wp2_with fail
    go_ret
    exact ⟨rfl, HU0.out⟩
  · have hl' : ((l.length : Nat) : Int) ≤ 65536 := by omega
    rw [if_neg hl]
    have HSZ := Lib.hid (partsB_len l (by omega))
    have HP := HPA.out _ (by omega) HU0.out
    have hs : ¬ 9223372036854775807 < (⟨#[3]⟩ : ByteArray).size + (bs (partsB (l.map plainP))).size := by
      rw [bs_size]
      have := HSZ.out
      show ¬ _ < 1 + _
      omega
    clear hl
    go_wp2_with fail
    refine HP.mono ?_
    rintro e w2 ⟨rfl, u2⟩
    have HU2 := Lib.hid (HU0.out.trans u2)
    clear u2 HP HPA
    go_wp2_with fail
    go_ret
    refine ⟨?_, HU2.out⟩
    show Ending.returned (.string (⟨#[3]⟩ ++ bs (partsB (l.map plainP)))) = _
    rw [show (⟨#[3]⟩ : ByteArray) = bs [3] from rfl, bs_append]
    rfl
end Go.Proofs.YtcikldoaidmnhaaGreatDoor
namespace Go.Proofs.YtcikldoaidmnhaaGreatDoor
open Go Go.RowKit Pk
set_option maxRecDepth 100000
def partOf (n : Int) : P32 := (hashV n, hashV (IntKind.i64.wrap (n.tdiv 256)))
set_option maxHeartbeats 2000000 in
theorem jParts_any (v : Value) (l : List Int) (w : World) (hlen : l.length ≤ 9223372036854775807) (h : kInt.Rd w v l) : Calls Tryz.prog 24 #[v] w fun en w' => ∃ v, en = .returned v ∧ kPart.Own w.heap.size w' v ((l.take 10).map partOf) ∧ Upd noBlk w w' := by
  obtain ⟨A, cap, rfl, hcap, hx⟩ := h
  have HX := Lib.hid hx
  have hl' : ((l.length : Nat) : Int) ≤ 9223372036854775807 := by omega
  have HJ := fun n W => Lib.hid (jhash_V n W)
  clear hx hlen
  go_enter Tryz.func24, Tryz.ntmps24
  go_wp2_with fail
  go_loopw [3, 4] (fun o i wr => ∃ k : Nat, i = .int .i64 k ∧ k ≤ l.length ∧ k ≤ 10 ∧ kPart.Own w.heap.size wr o ((l.take k).map partOf) ∧ Upd noBlk w wr) (fun _ i _ => l.length - (intOf i).toNat)
  case atStart => exact ⟨0, rfl, Nat.zero_le _, by omega, Kd.Own.nil _ _ _, Upd.refl _ _⟩
  case round =>
    obtain ⟨k, rfl, hk, hk10, ho, hu⟩ := hrel
    have HO := Lib.hid ho
    have HU := Lib.hid hu
    clear ho hu
    by_cases hlt : k < l.length
    · have hlt' : ((k : Nat) : Int) < ((l.length : Nat) : Int) := by omega
      by_cases hlt10 : k < 10
      · have hlt10' : ((k : Nat) : Int) < 10 := by omega
        obtain ⟨b, off, rfl, f1⟩ := HX.out (by omega)
        have hat := f1 k hlt
        have hk1 : kInt.k = 1 := rfl
        rw [hk1, Nat.mul_one] at hat
        have HAT : Hid (∀ W, Upd noBlk w W → W.cell? ⟨b, off + k, none⟩ = some (.int .i64 l[k])) := fun W hW => by
          have h0 := hW.cell (hat 0 _ rfl) id
          exact h0
        have HTK : Hid ((l.take (k + 1)).map partOf = (l.take k).map partOf ++ [partOf l[k]]) := by
          show _ = _
          rw [List.take_succ_eq_append_getElem hlt, List.map_append]; rfl
        have HLN : Hid (((l.take k).map partOf).length = k) := by show _ = _; rw [List.length_map, List.length_take]; omega
        clear f1 hat hk1 HX
        generalize l[k] = n at *
        have HB1 := HJ n
        have HB2 := HJ (IntKind.i64.wrap (n.tdiv 256))
        clear HJ
        go_wp2_with fail
        refine wp_region_tree 15 (OT.sures [0, 1, 2, 6, 7, 3, 8, 4, 9, 10] (.run 5 (.run 11 (OT.sures [12] (.run 13 (.run 14 .nil)))))) (fun w' => Upd noBlk w w') (by kernel_rfl) (by kernel_rfl) (fun c a d v w h => by cases d <;> exact h) (HU.out.drew) ?_
        simp only [OT.sures]
        iterate 10 (apply wpT_sure rfl rfl; focus (intro w' hw'; have c1 := HAT.out w' hw'; go_simp; rfl))
        refine wpT_run (fun w' => Upd noBlk w w') (fun _ h => h) rfl (fun K' hK => ?_)
        go_simp
        refine (HB1 _).out.mono ?_
        rintro e wz ⟨rfl, uz⟩
        have UZ := Lib.hid ((Upd.refl noBlk wr).drew.trans uz)
        refine hK _ _ ⟨HU.out.trans UZ.out, ?_⟩
        clear hK K' uz HB1
        refine wpT_run (fun w' => Upd noBlk w w') (fun _ h => h) rfl (fun K' hK => ?_)
        go_simp
        refine (HB2 _).out.mono ?_
        rintro e wy ⟨rfl, uy⟩
        have UY := Lib.hid (UZ.out.trans uy)
        refine hK _ _ ⟨HU.out.trans UY.out, ?_⟩
        clear hK K' uy HB2 UZ
        apply wpT_sure rfl rfl
        focus (intro w' hw'; exact exec_build_part (hashV n) (hashV (IntKind.i64.wrap (n.tdiv 256))) w' (.tmp 20) (.tmp 26) rfl (by go_simp) (by go_simp))
        refine wpT_run (fun w' => Upd noBlk w w') (fun _ h => h) rfl (fun K' hK => ?_)
        refine if_wanted (by go_simp) ?_
        have HSZ : Hid ((sizeOf 83).run Tryz.prog wy = .ok 64 wy) := by show _ = _; kernel_rfl
        have HZ : Hid ((zeroValue 83).run Tryz.prog wy = .ok (.agg (Array.replicate 64 (.int .u8 0))) wy) := by show _ = _; kernel_rfl
        refine wp_val _ _ (exec_build1 wy (.tmp 27) (partC (partOf n)) Tryz.underlying47 HSZ.out HZ.out (by decide) (by decide) (partC_len _) rfl (by go_simp; rfl)) ?_
        refine hK _ _ ⟨(HU.out.trans UY.out).alloc _, ?_⟩
        clear hK K' HSZ HZ
        have HUW := Lib.hid (HU.out.trans UY.out)
        have HOW := Lib.hid (HO.out.upd UY.out)
        obtain ⟨g, cap3, w3, r3, o3, v3, _⟩ := HOW.out.app1 HUW.out.size (partOf n) (by rw [HLN.out]; omega)
        rw [HLN.out] at r3 o3
        rw [← HTK.out] at o3
        have R3 := Lib.hid r3
        have O3 := Lib.hid o3
        have HU3 := Lib.hid (HUW.out.then v3 (fun i hi e => absurd hi (by have := (HOW.out.blk e).1; omega)))
        clear r3 o3 v3 HUW
        refine wpT_run (fun w' => Upd noBlk w w') (fun _ h => h) rfl (fun K' hK => ?_)
        refine if_wanted (by go_simp) ?_
        refine wp_append_run (.tmp 15) (.tmp 28) _ rfl (by go_simp) (by go_simp) R3.out ?_
        refine hK _ _ ⟨HU3.out, ?_⟩
        clear hK K'
        refine wpT_nil ?_
        go_wp2_with fail
        exact ⟨⟨k + 1, by push_cast; rfl, hlt, hlt10, O3.out, HU3.out⟩, by simp only [intOf]; omega⟩
      · obtain rfl : k = 10 := by omega
        go_wp2_with fail
        go_ret
        exact ⟨_, rfl, HO.out, HU.out⟩
    · obtain rfl : k = l.length := by omega
      have HTK : Hid (l.take 10 = l.take l.length) := by
        show _ = _
        rw [List.take_length, List.take_of_length_le hk10]
      go_wp2_with fail
      go_ret
      exact ⟨_, rfl, by rw [HTK.out]; exact HO.out, HU.out⟩
end Go.Proofs.YtcikldoaidmnhaaGreatDoor
namespace Go.Proofs.YtcikldoaidmnhaaGreatDoor
open Go Go.RowKit Pk
set_option maxRecDepth 100000
theorem eqItems_bytes (d : Nat) (l m : Bytes) (hl : l.length = 32) (hm : m.length = 32) (W : World) : ∀ is : List Nat, (∀ i, i ∈ is → i < 32) →
    (Op.eqItems (d + 1) 5 1 (byV l).toArray (byV m).toArray is).run Tryz.prog W = .ok (decide (∀ i, i ∈ is → l[i]? = m[i]?)) W
  | [], _ => by simp [Op.eqItems]
  | i :: is, h => by
    have ih := eqItems_bytes d l m hl hm W is (fun j hj => h j (List.mem_cons_of_mem _ hj))
    have hi := h i (by simp)
    have e1 : (byV l).toArray[i * 1]? = some (.int .u8 ((l[i]'(by omega)).toNat : Nat)) := by simp [byV, hl, hi]
    have e2 : (byV m).toArray[i * 1]? = some (.int .u8 ((m[i]'(by omega)).toNat : Nat)) := by simp [byV, hm, hi]
    have hp : Tryz.prog.plainKey 5 = true := by kernel_rfl
    rw [Op.eqItems, Sem.run_bind, run_part_plain W hp e1, Result.andThen_ok, Sem.run_bind, run_part_plain W hp e2, Result.andThen_ok, Sem.run_bind, run_equalIn_int W d 5 .u8 .u8 _ _ Tryz.underlying5, Result.andThen_ok]
    have q1 : l[i]? = some (l[i]'(by omega)) := List.getElem?_eq_getElem (by omega)
    have q2 : m[i]? = some (m[i]'(by omega)) := List.getElem?_eq_getElem (by omega)
    by_cases hx : l[i]'(by omega) = m[i]'(by omega)
    · have hb : ((((l[i]'(by omega)).toNat : Nat) : Int) == (((m[i]'(by omega)).toNat : Nat) : Int)) = true := by rw [hx]; simp
      rw [hb]
      simp only [Bool.not_true, Bool.false_eq_true, if_false, ih]
      congr 1
      rw [decide_eq_decide]
      constructor
      · intro h1 j hj
        rcases List.mem_cons.1 hj with rfl | hj
        · rw [q1, q2, hx]
        · exact h1 j hj
      · exact fun h1 j hj => h1 j (List.mem_cons_of_mem _ hj)
    · have hb : ((((l[i]'(by omega)).toNat : Nat) : Int) == (((m[i]'(by omega)).toNat : Nat) : Int)) = false := by
        rw [beq_eq_false_iff_ne]
        intro e
        exact hx (UInt8.toNat_inj.1 (by omega))
      rw [hb]
      simp only [Bool.not_false, if_true, Sem.run_pure]
      congr 1
      symm
      rw [decide_eq_false_iff_not]
      intro h1
      have h2 := h1 i (by simp)
      rw [q1, q2] at h2
      exact hx (Option.some.inj h2)
theorem eq_hash (d : Nat) (a b : H32) (W : World) : (Op.equalIn (d + 2) 81 (.agg (byV a.1).toArray) (.agg (byV b.1).toArray)).run Tryz.prog W = .ok (decide (a = b)) W := by
  obtain ⟨i, hi⟩ : ∃ i, Tryz.prog.info? 5 = some i := by
    cases h : Tryz.prog.info? 5 with
    | none => have : (Tryz.prog.info? 5).isSome = true := by kernel_rfl
              rw [h] at this; cases this
    | some i => exact ⟨i, rfl⟩
  rw [run_equalIn_array W (d + 1) _ _ Tryz.underlying81 hi, show Tryz.prog.cellsOf 5 = 1 by kernel_rfl, eqItems_bytes d a.1 b.1 a.2 b.2 W _ (fun i hi => List.mem_range.1 hi)]
  congr 1
  rw [decide_eq_decide]
  constructor
  · intro h
    apply Subtype.ext
    apply List.ext_getElem?
    intro j
    by_cases hj : j < 32
    · exact h j (List.mem_range.2 hj)
    · rw [List.getElem?_eq_none (by rw [a.2]; omega), List.getElem?_eq_none (by rw [b.2]; omega)]
  · rintro rfl i _
    rfl
theorem part_hash (W : World) (p : P32) : (part 81 (partC p).toArray 0).run Tryz.prog W = .ok (.agg (byV p.1.1).toArray) W ∧ (part 81 (partC p).toArray 32).run Tryz.prog W = .ok (.agg (byV p.2.1).toArray) W := by
  have h1 : (isAgg 81).run Tryz.prog W = .ok true W := by kernel_rfl
  have h2 : (sizeOf 81).run Tryz.prog W = .ok 32 W := by kernel_rfl
  have l1 : (byV p.1.1).length = 32 := by rw [byV_len, p.1.2]
  have l2 : (byV p.2.1).length = 32 := by rw [byV_len, p.2.2]
  unfold part
  constructor
  · simp only [Sem.run_bind, h1, h2, Result.andThen_ok, if_true, Sem.run_pure]
    congr 2
    apply Array.ext'
    simp [partC, l1]
  · simp only [Sem.run_bind, h1, h2, Result.andThen_ok, if_true, Sem.run_pure]
    congr 2
    apply Array.ext'
    have e : (partC p).toArray.extract 32 (32 + 32) = (byV p.2.1).toArray := by
      unfold partC
      simp [l1]
      exact List.take_of_length_le (by omega)
    rw [e]
theorem fields_part : ∃ f0 f1, (Tryz.prog.fieldsOf 83).toList = [f0, f1] ∧ (f0.name ≠ "_" ∧ f0.type = 81 ∧ f0.offset = 0) ∧ (f1.name ≠ "_" ∧ f1.type = 81 ∧ f1.offset = 32) := by
  rcases h : (Tryz.prog.fieldsOf 83).toList with _ | ⟨f0, _ | ⟨f1, _ | ⟨f2, r⟩⟩⟩
  · have : (Tryz.prog.fieldsOf 83).toList.length = 2 := by kernel_rfl
    rw [h] at this; cases this
  · have : (Tryz.prog.fieldsOf 83).toList.length = 2 := by kernel_rfl
    rw [h] at this; cases this
  · have e : (Tryz.prog.fieldsOf 83).toList.map (fun f => (f.name == "_", f.type, f.offset)) = [(false, 81, 0), (false, 81, 32)] := by kernel_rfl
    rw [h] at e
    simp only [List.map_cons, List.map_nil, List.cons.injEq, Prod.mk.injEq, beq_eq_false_iff_ne] at e
    exact ⟨f0, f1, rfl, e.1, e.2.1⟩
  · have : (Tryz.prog.fieldsOf 83).toList.length = 2 := by kernel_rfl
    rw [h] at this
    simp at this
theorem st1 : Tryz.prog.underlying 83 = some (.struct (Tryz.prog.fieldsOf 83)) := by kernel_rfl
theorem st2 : Tryz.prog.stoodInHeld 83 = false := by kernel_rfl
theorem eq_st (d : Nat) (xs ys : Array Value) (W : World) (f0 f1 : Field) (hf : (Tryz.prog.fieldsOf 83).toList = [f0, f1]) : (Op.equalIn (d + 1) 83 (.agg xs) (.agg ys)).run Tryz.prog W = (Op.eqFields d xs ys [f0, f1]).run Tryz.prog W := by
  rw [run_equalIn_struct W d 83 xs ys st1 st2, hf]
theorem eqFields_two {P : Program} (W : World) (d : Nat) (xs ys : Array Value) (f0 f1 : Field) (a0 b0 a1 b1 : Value) (r0 r1 : Bool) (n0 : f0.name ≠ "_") (n1 : f1.name ≠ "_")
    (p0 : (part f0.type xs f0.offset).run P W = .ok a0 W) (q0 : (part f0.type ys f0.offset).run P W = .ok b0 W) (e0 : (Op.equalIn d f0.type a0 b0).run P W = .ok r0 W)
    (p1 : (part f1.type xs f1.offset).run P W = .ok a1 W) (q1 : (part f1.type ys f1.offset).run P W = .ok b1 W) (e1 : (Op.equalIn d f1.type a1 b1).run P W = .ok r1 W) :
    (Op.eqFields d xs ys [f0, f1]).run P W = .ok (r0 && r1) W := by
  rcases r0 with _ | _ <;> rcases r1 with _ | _ <;> simp only [Op.eqFields, n0, n1, ne_eq, not_false_eq_true, if_true, Sem.run_bind, p0, q0, e0, p1, q1, e1, Result.andThen_ok, Sem.run_ite, Sem.run_pure, Bool.not_true, Bool.not_false, Bool.false_eq_true, if_false, Bool.and_true, Bool.and_false]
theorem dec_part (p q : P32) : decide (p = q) = (decide (p.1 = q.1) && decide (p.2 = q.2)) := by
  rw [Bool.eq_iff_iff]
  simp [Prod.ext_iff]
theorem eq_part (d : Nat) (p q : P32) (W : World) : (Op.equalIn (d + 3) 83 (.agg (partC p).toArray) (.agg (partC q).toArray)).run Tryz.prog W = .ok (decide (p = q)) W := by
  obtain ⟨f0, f1, hf, ⟨n0, t0, o0⟩, ⟨n1, t1, o1⟩⟩ := fields_part
  obtain ⟨a1, a2⟩ := part_hash W p
  obtain ⟨b1, b2⟩ := part_hash W q
  rw [dec_part]
  have c1 : (part f0.type (partC p).toArray f0.offset).run Tryz.prog W = .ok (.agg (byV p.1.1).toArray) W := by rw [t0, o0]; exact a1
  have c2 : (part f0.type (partC q).toArray f0.offset).run Tryz.prog W = .ok (.agg (byV q.1.1).toArray) W := by rw [t0, o0]; exact b1
  have c3 : (part f1.type (partC p).toArray f1.offset).run Tryz.prog W = .ok (.agg (byV p.2.1).toArray) W := by rw [t1, o1]; exact a2
  have c4 : (part f1.type (partC q).toArray f1.offset).run Tryz.prog W = .ok (.agg (byV q.2.1).toArray) W := by rw [t1, o1]; exact b2
  have c5 : (Op.equalIn (d + 2) f0.type (.agg (byV p.1.1).toArray) (.agg (byV q.1.1).toArray)).run Tryz.prog W = .ok (decide (p.1 = q.1)) W := by rw [t0]; exact eq_hash d p.1 q.1 W
  have c6 : (Op.equalIn (d + 2) f1.type (.agg (byV p.2.1).toArray) (.agg (byV q.2.1).toArray)).run Tryz.prog W = .ok (decide (p.2 = q.2)) W := by rw [t1]; exact eq_hash d p.2 q.2 W
  exact (eq_st (d + 2) _ _ W f0 f1 hf).trans (eqFields_two W (d + 2) _ _ f0 f1 _ _ _ _ _ _ n0 n1 c1 c2 c5 c3 c4 c6)
theorem take_part (p : P32) : List.take 32 (partC p) = byV p.1.1 ∧ List.take 32 (List.drop 32 (partC p)) = byV p.2.1 := by
  have l1 : (byV p.1.1).length = 32 := by rw [byV_len, p.1.2]
  have l2 : (byV p.2.1).length = 32 := by rw [byV_len, p.2.2]
  unfold partC
  generalize byV p.1.1 = x at *
  generalize byV p.2.1 = y at *
  constructor
  · exact List.take_left' l1
  · rw [List.drop_left' l1]
    exact List.take_of_length_le (by omega)
/-- The two comparisons that the comparison of parts comes to. -/
theorem eq_part2 (p q : P32) (W : World) : (Op.equalIn 9999 81 (.agg (List.take 32 (partC p)).toArray) (.agg (List.take 32 (partC q)).toArray)).run Tryz.prog W = .ok (decide (p.1 = q.1)) W ∧ (Op.equalIn 9999 81 (.agg (List.take 32 (List.drop 32 (partC p))).toArray) (.agg (List.take 32 (List.drop 32 (partC q))).toArray)).run Tryz.prog W = .ok (decide (p.2 = q.2)) W := by
  have e1 := eq_hash 9997 p.1 q.1 W
  have e2 := eq_hash 9997 p.2 q.2 W
  simp only [Nat.reduceAdd] at e1 e2
  rw [(take_part p).1, (take_part q).1, (take_part p).2, (take_part q).2]
  exact ⟨e1, e2⟩
set_option maxHeartbeats 2000000 in
theorem jSameParts_any (va vb : Value) (a b : List P32) (hla : a.length ≤ 9223372036854775807) (w : World) (ha : kPart.Rd w va a) (hb : kPart.Rd w vb b) : Calls Tryz.prog 28 #[va, vb] w fun en w' => en = .returned (.bool (decide (a = b))) ∧ Upd noBlk w w' := by
  obtain ⟨A, cap, rfl, hcap, hxa⟩ := ha
  obtain ⟨B, capb, rfl, hcapb, hxb⟩ := hb
  have HXA := Lib.hid hxa
  have HXB := Lib.hid hxb
  have hl' : ((a.length : Nat) : Int) ≤ 9223372036854775807 := by omega
  clear hxa hxb hla
  go_enter Tryz.func28, Tryz.ntmps28
  by_cases hln : a.length = b.length
  · have hln' : ((a.length : Nat) : Int) = ((b.length : Nat) : Int) := by omega
    have HLN := Lib.hid hln
    have hlb : ((b.length : Nat) : Int) ≤ 9223372036854775807 := by omega
    clear hln
    go_wp2_with fail
    go_loopw [5] (fun i wr => ∃ k : Nat, i = .int .i64 k ∧ k ≤ a.length ∧ a.take k = b.take k ∧ Upd noBlk w wr) (fun i _ => a.length - (intOf i).toNat)
    case atStart => exact ⟨0, rfl, Nat.zero_le _, rfl, Upd.refl _ _⟩
    case round =>
      obtain ⟨k, rfl, hk, htk, hu⟩ := hrel
      have HT := Lib.hid htk
      have HU := Lib.hid hu
      clear htk hu
      by_cases hlt : k < a.length
      · have hlt' : ((k : Nat) : Int) < ((a.length : Nat) : Int) := by omega
        have hltb : k < b.length := by have := HLN.out; omega
        have hltb' : ((k : Nat) : Int) < ((b.length : Nat) : Int) := by omega
        obtain ⟨ba, oa, rfl, f1⟩ := HXA.out (by omega)
        obtain ⟨bb, ob, rfl, f2⟩ := HXB.out (by omega)
        have hk64 : kPart.k = 64 := rfl
        have hf1 := (f1 k hlt).keep HU.out
        have hf2 := (f2 k hltb).keep HU.out
        rw [hk64] at hf1 hf2
        have HF1 := Lib.hid hf1
        have HF2 := Lib.hid hf2
        have HTK : Hid (a[k] = b[k] → a.take (k + 1) = b.take (k + 1)) := fun e => by
          rw [List.take_succ_eq_append_getElem hlt, List.take_succ_eq_append_getElem hltb, HT.out, e]
        have HNE : Hid (a[k] ≠ b[k] → decide (a = b) = false) := fun e => decide_eq_false (fun h => e (by subst h; rfl))
        clear f1 f2 hf1 hf2 hk64 HXA HXB
        generalize a[k] = p at *
        generalize b[k] = q at *
        have HSZ : Hid (∀ x : P32, (Tryz.prog.info? 83).map (·.size) = some (partC x).length) := fun x => by rw [partC_len]; kernel_rfl
        obtain ⟨he1, he2⟩ := eq_part2 p q wr.drew
        go_wp2_with fail
        refine wp_region_tree 8 (OT.sures [0, 1, 4, 5, 2, 6, 3, 7] .nil) (fun w' => Upd noBlk wr w') (by kernel_rfl) (by kernel_rfl) (fun c a d v w h => by cases d <;> exact h) ((Upd.refl noBlk wr).drew) ?_
        simp only [OT.sures]
        iterate 6 (apply wpT_sure rfl rfl; focus (intro w' hw'; go_simp; rfl))
        apply wpT_sure rfl rfl
        focus (intro w' hw'; exact exec_load_mid 83 (.tmp 19) rfl ba (oa + k * 64) (by go_simp) (partC p) _ (HF1.out.keep hw') Tryz.underlying83 rfl (HSZ.out p))
        apply wpT_sure rfl rfl
        focus (intro w' hw'; exact exec_load_mid 83 (.tmp 23) rfl bb (ob + k * 64) (by go_simp) (partC q) _ (HF2.out.keep hw') Tryz.underlying83 rfl (HSZ.out q))
        refine wpT_nil ?_
        by_cases hpq : p = q
        · have HTK2 := Lib.hid (HTK.out hpq)
          have h1 : p.1 = q.1 := by rw [hpq]
          have h2 : p.2 = q.2 := by rw [hpq]
          rw [decide_eq_true h1] at he1
          rw [decide_eq_true h2] at he2
          clear HTK HNE hpq h1 h2
          go_wp2_with fail
          exact ⟨⟨k + 1, by push_cast; rfl, hlt, HTK2.out, HU.out.drew⟩, by simp only [intOf]; omega⟩
        · have HNE2 := Lib.hid (HNE.out hpq)
          by_cases h1 : p.1 = q.1
          · have h2 : ¬ p.2 = q.2 := fun e => hpq (Prod.ext h1 e)
            rw [decide_eq_true h1] at he1
            rw [decide_eq_false h2] at he2
            clear HTK HNE hpq h1 h2
            go_wp2_with fail
            go_ret
            exact ⟨by rw [HNE2.out]; rfl, HU.out.drew⟩
          · rw [decide_eq_false h1] at he1
            clear HTK HNE hpq h1 he2
            go_wp2_with fail
            go_ret
            exact ⟨by rw [HNE2.out]; rfl, HU.out.drew⟩
      · obtain rfl : k = a.length := by omega
        have HEQ : Hid (decide (a = b) = true) := by
          show _ = _
          have h := HT.out
          rw [List.take_length, HLN.out, List.take_length] at h
          exact decide_eq_true h
        clear HT
        go_wp2_with fail
        go_ret
        exact ⟨by rw [HEQ.out]; rfl, HU.out⟩
  · have hln' : ¬ ((a.length : Nat) : Int) = ((b.length : Nat) : Int) := by omega
    have hne : decide (a = b) = false := decide_eq_false (fun e => hln (by rw [e]))
    go_wp2_with fail
    go_ret
    exact ⟨by rw [hne]; rfl, Upd.refl _ _⟩
end Go.Proofs.YtcikldoaidmnhaaGreatDoor
