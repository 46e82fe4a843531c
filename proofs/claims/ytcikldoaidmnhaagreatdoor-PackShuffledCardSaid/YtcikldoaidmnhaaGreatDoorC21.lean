/- Walks of the packets' program: OpenCluster. No condition. Walks of the packets' program: bytes and numbers are read. No condition. Opening group packets as plain functions on bytes; what is accepted is the packet of what is returned. No condition. Walks of the packets' program: digits. No condition. Hashes and parts as they lie in memory; strings made of bytes in the middle of a block. No condition. Walks of the packets' program: parts. No condition. -/
import Derived.Test.YtcikldoaidmnhaaGreatDoorC18
import Derived.Test.YtcikldoaidmnhaaGreatDoorC20
import Derived.Test.YtcikldoaidmnhaaGreatDoorC5
import Derived.Test.YtcikldoaidmnhaaGreatDoorC9
import Derived.Laws.BitsAllLaws
import Derived.Test.YtcikldoaidmnhaaGreatDoorC6
import Derived.Laws.BytesArg
import Derived.Deep.CutBlock
import Derived.Deep.WholeRow
namespace Go.Proofs.YtcikldoaidmnhaaGreatDoor
open Go Go.RowKit Pk Pc
set_option maxRecDepth 100000
theorem openCluster_any (l : List Nat) (hl : ∀ d, d ∈ l → d < 256) (w : World) :
    Calls Tryz.prog 67 #[.string (str l)] w fun en w' => openQ (openM false l) w en w' := by
  by_cases h : ∃ code, l = 1 :: code
  · obtain ⟨code, rfl⟩ := h
    exact openCluster_one code (fun d hd => hl d (List.mem_cons_of_mem _ hd)) w
  · have hn : openM false l = none := by
      unfold openM
      split
      · rename_i code; exact absurd ⟨code, rfl⟩ h
      · rfl
    rw [hn]
    refine (openCluster_bad l hl (fun code e => h ⟨code, e⟩) w).mono ?_
    rintro e w' ⟨v, rfl, hu⟩
    exact ⟨hu, v, rfl⟩
theorem clusterN_lt (c : List Tri) : ∀ d, d ∈ clusterN c → d < 256 := fun d hd => by
  unfold clusterN at hd
  split at hd
  · unfold packC at hd
    rcases List.mem_cons.1 hd with rfl | hd
    · decide
    · exact encode_lt _ d hd
  · cases hd
def openP (o : Option (List Tri)) (w : World) (en : Ending) (w' : World) : Prop := Upd noBlk w w' ∧ ∃ v, match o with
  | some l => en = .returned (.tuple #[v, .int .i64 0]) ∧ kTri.Rd w' v l
  | none => en = .returned (.tuple #[v, .int .i64 13]) ∧ kTri.Rd w' v []
set_option maxHeartbeats 2000000 in
theorem OpenCluster_any (l : List Nat) (hl : ∀ d, d ∈ l → d < 256) (w : World) :
    Calls Tryz.prog 19 #[.string (str l)] w fun en w' => openP (openN l) w en w' := by
  have HOP := Lib.hid (openCluster_any l hl w)
  obtain ⟨tgt, htgt⟩ : ∃ t, t = openN l := ⟨_, rfl⟩
  rw [← htgt]
  have HT := Lib.hid htgt
  clear htgt
  go_enter Tryz.func19, Tryz.ntmps19
  go_wp2_with fail
  refine HOP.out.mono ?_
  rintro e w2 ⟨hu, v, hv⟩
  have HU := Lib.hid hu
  rcases hm : openM false l with _ | T
  · rw [hm] at hv
    simp only at hv
    subst hv
    have HTN : Hid (tgt = none) := by show _ = _; rw [HT.out]; unfold openN; rw [hm]
    clear hu HOP hm
    go_wp2_with fail
    go_ret2
    rw [HTN.out]
    exact ⟨HU.out, _, rfl, Kd.Rd.nil kTri w2⟩
  · rw [hm] at hv
    obtain ⟨rfl, hrd⟩ := hv
    have HTS : Hid (tgt = if clusterN (canon T) = l then some (canon T) else none) := by show _ = _; rw [HT.out]; unfold openN; rw [hm]
    obtain ⟨ht2, ht1⟩ := openM_in hm
    have HCL := Lib.hid (Cluster_any v (canon T) (by rw [canon_length]; omega) (fun t ht => okT_of (canon_in ht2 t ht)) w2 hrd)
    have HRD := Lib.hid hrd
    clear hu HOP hm hrd ht1 ht2
    go_wp2_with fail
    refine HCL.out.mono ?_
    rintro e w3 ⟨rfl, u3⟩
    have HU3 := Lib.hid u3
    have hlt := clusterN_lt (canon T)
    clear u3 HCL
    by_cases hc : clusterN (canon T) = l
    · have HTN : Hid (tgt = some (canon T)) := by show _ = _; rw [HTS.out]; exact if_pos hc
      rw [hc]
      clear hlt hc
      go_wp2_with fail
      go_ret2
      rw [HTN.out]
      exact ⟨HU.out.trans HU3.out, _, rfl, HRD.out.keep HU3.out⟩
    · have HTN : Hid (tgt = none) := by show _ = _; rw [HTS.out]; exact if_neg hc
      have hne : ((str (clusterN (canon T))).toList == (str l).toList) = false := by
        rw [beq_eq_false_iff_ne]
        intro e
        exact hc (map_ofNat_inj hlt hl (by rw [← str_toList, ← str_toList, e]))
      clear hlt hc
      generalize str (clusterN (canon T)) = z at *
      go_wp2_with fail
      go_ret2
      rw [HTN.out]
      exact ⟨HU.out.trans HU3.out, _, rfl, Kd.Rd.nil kTri w3⟩
end Go.Proofs.YtcikldoaidmnhaaGreatDoor
namespace Go.Proofs.YtcikldoaidmnhaaGreatDoor
open Go Go.RowKit Pk Pc
set_option maxRecDepth 100000
/-- A reader of bytes at block b. -/
def RdS (w : World) (b : Nat) (s : Bytes) : Prop := w.heap[b]? = some (.cells #[.string (bs s)] 193 (0, 0))
theorem takeR_short {n : Nat} {s : Bytes} (h : s.length < n) : takeR n s = none := if_pos h
theorem takeR_good {n : Nat} {s : Bytes} (h : ¬ s.length < n) : takeR n s = some (s.take n, s.drop n) := if_neg h
set_option maxHeartbeats 1000000 in
theorem kTake_any (b n : Nat) (s : Bytes) (w : World) (h : RdS w b s) :
    Calls Tryz.prog 136 #[.pointer (some ⟨b, 0, none⟩), .int .i64 n] w fun en w' => orFail (takeR n s) (fun a en w' => en = .returned (.string (bs a.1)) ∧ RdS w' b a.2 ∧ Upd (fun k => k = b) w w') (fun w' => w = w') en w' := by
  have HF := fun W => Lib.hid (fail_any W)
  obtain ⟨hc, hf⟩ := cellF1 h
  have HH : Hid (w.heap[b]? = some (.cells #[.string (bs s)] 193 (0, 0))) := h
  obtain ⟨tgt, htgt⟩ : ∃ t, t = takeR n s := ⟨_, rfl⟩
  rw [← htgt]
  by_cases hl : s.length < n
  · have HTN : Hid (tgt = none) := by show _ = _; rw [htgt]; exact takeR_short hl
    have hsz : ((bs s).size : Int) < (n : Int) := by rw [bs_size]; omega
    clear htgt h
    go_enter Tryz.func136, Tryz.ntmps136
    go_wp2_with fail
    refine (HF _).out.mono ?_
    rintro e w2 ⟨rfl, rfl⟩
    unfold panicW
    go_wp2_with fail
    refine ⟨rfl, ?_⟩
    rw [HTN.out]
    exact ⟨rfl, rfl⟩
  · have HTS : Hid (tgt = some (s.take n, s.drop n)) := by show _ = _; rw [htgt]; exact takeR_good hl
    have hsz : ¬ ((bs s).size : Int) < (n : Int) := by rw [bs_size]; omega
    have hsz2 : (n : Int) ≤ ((bs s).size : Int) := by omega
    have hx1 : (bs s).extract 0 n = bs (s.take n) := by rw [bs_extract]; simp
    have hx2 : (bs s).extract n (bs s).size = bs (s.drop n) := by rw [bs_extract, bs_size]; congr 1; rw [List.take_of_length_le (by rw [List.length_drop]; omega)]
    clear htgt h
    go_enter Tryz.func136, Tryz.ntmps136
    go_wp2_with fail
    go_ret
    rw [HTS.out]
    exact ⟨rfl, heap_setCell_eq (i := 0) _ HH.out, (Upd.refl (fun k => k = b) w).setCell (p := ⟨b, 0, none⟩) (fun _ => rfl) _⟩
theorem bs_get0 (c : UInt8) (r : Bytes) : ∀ h : 0 < (bs (c :: r)).size, ((bs (c :: r))[0]'h) = c := fun _ => rfl
def kindM (k : Nat) : Bytes → Option Bytes
  | [] => none
  | c :: r => if c.toNat = k then some r else none
set_option maxHeartbeats 1000000 in
theorem kKind_any (b k : Nat) (s : Bytes) (w : World) (h : RdS w b s) :
    Calls Tryz.prog 123 #[.pointer (some ⟨b, 0, none⟩), .int .u8 k] w fun en w' => orFail (kindM k s) (fun a en w' => en = .returned (.tuple #[]) ∧ RdS w' b a ∧ Upd (fun k => k = b) w w') (Upd (fun k => k = b) w) en w' := by
  have HF := fun W => Lib.hid (fail_any W)
  have HTK := Lib.hid (kTake_any b 1 s w h)
  obtain ⟨tgt, htgt⟩ : ∃ t, t = kindM k s := ⟨_, rfl⟩
  rw [← htgt]
  have HT := Lib.hid htgt
  clear htgt h
  go_enter Tryz.func123, Tryz.ntmps123
  go_wp2_with fail
  refine HTK.out.mono ?_
  intro e w2 hp
  cases s with
  | nil =>
    have HTN : Hid (tgt = none) := HT.out
    rw [takeR_short (by decide)] at hp
    obtain ⟨rfl, rfl⟩ := hp
    clear HTK HT
    unfold panicW
    go_wp2_with fail
    refine ⟨rfl, ?_⟩
    rw [HTN.out]
    exact ⟨rfl, Upd.refl _ _⟩
  | cons c r =>
    rw [takeR_good (by simp)] at hp
    obtain ⟨rfl, h2, u2⟩ := hp
    have HR := Lib.hid h2
    have HU := Lib.hid u2
    clear HTK h2 u2
    simp only [List.take_succ_cons, List.take_zero, List.drop_succ_cons, List.drop_zero] at HR ⊢
    have hz : 0 < (bs [c]).size := by rw [bs_size]; simp
    have h0 : ((bs [c])[0]'hz).toNat = c.toNat := rfl
    by_cases hk : c.toNat = k
    · have HTS : Hid (tgt = some r) := by show _ = _; rw [HT.out]; exact if_pos hk
      subst hk
      clear HT
      go_wp2_with fail
      go_end0
      rw [HTS.out]
      exact ⟨rfl, HR.out, HU.out⟩
    · have HTN : Hid (tgt = none) := by show _ = _; rw [HT.out]; exact if_neg hk
      have hk2 : ¬ (c.toNat : Int) = (k : Int) := by omega
      clear HT
      go_wp2_with fail
      refine (HF _).out.mono ?_
      rintro e w3 ⟨rfl, rfl⟩
      unfold panicW
      go_wp2_with fail
      refine ⟨rfl, ?_⟩
      rw [HTN.out]
      exact ⟨rfl, HU.out⟩
theorem i64_or_nat {a y : Nat} (ha : a < 2 ^ 63) (hy : y < 2 ^ 63) : bits .or .i64 (a : Int) (y : Int) = ((a ||| y : Nat) : Int) := by
  have h := Nat.or_lt_two_pow ha hy
  show IntKind.i64.wrap ((BitVec.ofInt 64 (a : Int) ||| BitVec.ofInt 64 (y : Int)).toNat : Int) = _
  rw [BitVec.toNat_or, BitVec.ofInt_natCast, BitVec.ofInt_natCast, BitVec.toNat_ofNat, BitVec.toNat_ofNat, Nat.mod_eq_of_lt (by omega), Nat.mod_eq_of_lt (by omega), IntKind.wrap_i64]
  omega
theorem u8_and127 (c : Nat) : bits .and .u8 (c : Int) 127 = ((c % 128 : Nat) : Int) := by
  have h127 : (BitVec.ofInt 8 127).toNat = 2 ^ 7 - 1 := by decide
  have key : (BitVec.ofInt 8 (c : Int) &&& BitVec.ofInt 8 127).toNat = c % 2 ^ 7 := by
    rw [BitVec.toNat_and, BitVec.ofInt_natCast, BitVec.toNat_ofNat, h127, Nat.and_two_pow_sub_one_eq_mod]
    omega
  show IntKind.u8.wrap ((BitVec.ofInt 8 (c : Int) &&& BitVec.ofInt 8 127).toNat : Nat) = _
  rw [key, IntKind.wrap_u8]
  omega
theorem digit_acc {acc k c : Nat} (hk : k < 9) (ha : acc < 128 ^ k) : bits BinOp.or IntKind.i64 ((acc : Nat) : Int) (wrap64 (wrap64 (bits BinOp.and IntKind.u8 ((c : Nat) : Int) 127) * 2 ^ (7 * k))) = ((acc + c % 128 * 128 ^ k : Nat) : Int) := by
  have e : (128 : Nat) ^ k = 2 ^ (7 * k) := by rw [Nat.pow_mul]
  have hp : (128 : Nat) ^ k ≤ 2 ^ 56 := by rw [e]; exact Nat.pow_le_pow_right (by decide) (by omega)
  have hm : c % 128 * 128 ^ k ≤ 127 * 2 ^ 56 := Nat.mul_le_mul (by omega) hp
  rw [u8_and127 c]
  have e1 : wrap64 ((c % 128 : Nat) : Int) = ((c % 128 : Nat) : Int) := by unfold wrap64; omega
  have e2 : ((c % 128 : Nat) : Int) * 2 ^ (7 * k) = ((c % 128 * 128 ^ k : Nat) : Int) := by rw [e]; push_cast; rfl
  have e3 : wrap64 ((c % 128 * 128 ^ k : Nat) : Int) = ((c % 128 * 128 ^ k : Nat) : Int) := by unfold wrap64; omega
  rw [e1, e2, e3, i64_or_nat (by omega) (by omega)]
  have := Nat.two_pow_add_eq_or_of_lt (i := 7 * k) (b := acc) (by rw [← e]; exact ha) (c % 128)
  rw [e, Nat.or_comm, Nat.mul_comm (c % 128), ← this, Nat.add_comm]
theorem acc_lt {acc k c : Nat} (ha : acc < 128 ^ k) : acc + c % 128 * 128 ^ k < 128 ^ (k + 1) := by
  have h : c % 128 * 128 ^ k ≤ 127 * 128 ^ k := Nat.mul_le_mul_right _ (by omega)
  rw [Nat.pow_succ]; omega
set_option maxHeartbeats 1000000 in
theorem kNum_any (b : Nat) (s : Bytes) (w : World) (h : RdS w b s) :
    Calls Tryz.prog 131 #[.pointer (some ⟨b, 0, none⟩)] w fun en w' => orFail (readNum s) (fun a en w' => en = .returned (.int .i64 (a.1 : Nat)) ∧ RdS w' b a.2 ∧ Upd (fun k => k = b) w w') (Upd (fun k => k = b) w) en w' := by
  have HF := fun W => Lib.hid (fail_any W)
  have HTK := fun s W hW => Lib.hid (kTake_any b 1 s W hW)
  obtain ⟨tgt, htgt⟩ : ∃ t, t = readNum s := ⟨_, rfl⟩
  rw [← htgt]
  have HT : Hid (numR 9 1 0 s = tgt) := htgt.symm
  have HR := Lib.hid h
  clear htgt h
  go_enter Tryz.func131, Tryz.ntmps131
  go_wp2_with fail
  go_loopw [3, 4] (fun n i wr => ∃ (k acc : Nat) (s' : Bytes), n = .int .i64 acc ∧ i = .int .i64 ((7 * k : Nat) : Int) ∧ k ≤ 9 ∧ acc < 128 ^ k ∧ RdS wr b s' ∧ numR (9 - k) (128 ^ k) acc s' = tgt ∧ Upd (fun k => k = b) w wr) (fun _ i _ => 63 - (intOf i).toNat)
  case atStart => exact ⟨0, 0, s, rfl, rfl, by decide, by decide, HR.out, HT.out, Upd.refl _ _⟩
  case round =>
    obtain ⟨k, acc, s', rfl, rfl, hk, ha, hr, ht, hu⟩ := hrel
    have HR2 := Lib.hid hr
    have HT2 := Lib.hid ht
    have HU := Lib.hid hu
    have HA : Hid (acc < 128 ^ k) := ha
    clear hr ht hu ha
    by_cases hk9 : k < 9
    · have hlt : ((7 * k : Nat) : Int) < 63 := by omega
      have HK : Hid (k < 9) := hk9
      have HT1 := Lib.hid (HTK s' wr HR2.out)
      clear hk hk9
      have hws : wrap64 (7 * (k : Int) + 7) = 7 * (k : Int) + 7 := by unfold wrap64; omega
      go_wp2_with fail
      refine HT1.out.out.mono ?_
      intro e w2 hp
      cases s' with
      | nil =>
        have HTN : Hid (tgt = none) := by
          show _ = _; rw [← HT2.out]
          obtain ⟨j, hj⟩ : ∃ j, 9 - k = j + 1 := ⟨8 - k, by have := HK.out; omega⟩
          rw [hj]; rfl
        rw [takeR_short (by decide)] at hp
        obtain ⟨rfl, rfl⟩ := hp
        clear HT1 HT
        unfold panicW
        go_wp2_with fail
        refine ⟨rfl, ?_⟩
        rw [HTN.out]
        exact ⟨rfl, HU.out⟩
      | cons c r =>
        obtain ⟨j, hj⟩ : ∃ j, 9 - k = j + 1 := ⟨8 - k, by have := HK.out; omega⟩
        have ht := HT2.out
        rw [hj] at ht
        have HT3 : Hid ((if c.toNat < 128 then some (acc + c.toNat % 128 * 128 ^ k, r) else numR j (128 ^ k * 128) (acc + c.toNat % 128 * 128 ^ k) r) = tgt) := ht
        have HJ : Hid (9 - k = j + 1) := hj
        have hv := digit_acc (c := c.toNat) HK.out HA.out
        have HA2 := Lib.hid (acc_lt (c := c.toNat) HA.out)
        clear ht hj HT HT2
        rw [takeR_good (by simp)] at hp
        obtain ⟨rfl, h2, u2⟩ := hp
        have HR3 := Lib.hid h2
        have HU2 := Lib.hid (HU.out.trans u2)
        clear HT1 h2 u2
        simp only [List.take_succ_cons, List.take_zero, List.drop_succ_cons, List.drop_zero] at HR3 ⊢
        have hz : 0 < (bs [c]).size := by rw [bs_size]; simp
        have h0 : ((bs [c])[0]'hz).toNat = c.toNat := rfl
        generalize acc + c.toNat % 128 * 128 ^ k = acc2 at *
        by_cases hc : c.toNat < 128
        · have HTS : Hid (tgt = some (acc2, r)) := by show _ = _; rw [← HT3.out]; exact if_pos hc
          have hc' : (c.toNat : Int) < 128 := by omega
          go_wp2_with fail
          go_ret
          rw [HTS.out]
          exact ⟨rfl, HR3.out, HU2.out⟩
        · have HT4 : Hid (numR j (128 ^ k * 128) acc2 r = tgt) := by show _ = _; rw [← HT3.out]; exact (if_neg hc).symm
          have hc' : ¬ (c.toNat : Int) < 128 := by omega
          clear HT3
          go_wp2_with fail
          refine ⟨⟨k + 1, acc2, r, rfl, by congr 1, by have := HK.out; omega, HA2.out, HR3.out, ?_, HU2.out⟩, ?_⟩
          · have e : 9 - (k + 1) = j := by have := HJ.out; omega
            rw [e, Nat.pow_succ]; exact HT4.out
          · simp only [intOf]; have := HK.out; omega
    · obtain rfl : k = 9 := by omega
      have HTN : Hid (tgt = none) := HT2.out.symm
      clear HT HT2 HA
      go_wp2_with fail
      refine (HF _).out.mono ?_
      rintro e w3 ⟨rfl, rfl⟩
      unfold panicW
      go_wp2_with fail
      refine ⟨rfl, ?_⟩
      rw [HTN.out]
      exact ⟨rfl, HU.out⟩
end Go.Proofs.YtcikldoaidmnhaaGreatDoor
namespace Go.Proofs.YtcikldoaidmnhaaGreatDoor
open Go Go.RowKit
namespace Pk
abbrev Mv := (Int × Int × Int) × (Int × Int × Int)
def moveR (s : Bytes) : Option (Mv × Bytes) := match listR readNum 6 s with
  | some ([a, b, c, d, e, f], r) => some ((((a : Int), (b : Int), (c : Int)), ((d : Int), (e : Int), (f : Int))), r)
  | _ => none
/-- The fields of a group packet behind the first byte; mag is all that is left, and the number is the one of Delta. -/
def grpF (s : Bytes) : Option (Grp × Nat) :=
  match readNum s with
  | none => none
  | some (lv, s1) => match manyR partR s1 with
    | none => none
    | some (ins, s2) => match manyR (takeR 32) s2 with
      | none => none
      | some (outs, s3) => match manyR moveR s3 with
        | none => none
        | some (moves, s4) => match readNum s4 with
          | none => none
          | some (er, s5) => match readNum s5 with
            | none => none
            | some (tot, s6) => match readNum s6 with
              | none => none
              | some (size, s7) => some (⟨lv, ins, outs, moves, er, tot, decide (size % 2 = 1), s7⟩, size)
def withMag (g : Grp) (m : Bytes) : Grp := { g with mag := m }
def goodG (g : Grp) : Prop := (∀ p, p ∈ g.ins → goodPart p) ∧ (∀ h, h ∈ g.outs → h.length = 32)
/-- What opening a group packet comes to: program, reference. -/
def grpR (s : Bytes) : Option Grp := match s with
  | [] => none
  | b :: r => if b ≠ 2 then none else match grpF r with
    | none => none
    | some (g, size) => if g.mag.length < size / 2 then none else if rightG (withMag g (g.mag.take (size / 2))) = true ∧ groupB (withMag g (g.mag.take (size / 2))) = s then some (withMag g (g.mag.take (size / 2))) else none
def grpRR (s : Bytes) : Option Grp := match s with
  | [] => none
  | b :: r => if b ≠ 2 then none else match grpF r with
    | none => none
    | some (g, size) => if size / 2 ≠ g.mag.length then none else if rightG g = true ∧ groupB g = s then some g else none
theorem moveR_app {m : Mv} {r : Bytes} (h : (coordsM m).all insideC = true) : moveR ((coordsM m).flatMap (fun n => digB n.toNat) ++ r) = some (m, r) := by
  obtain ⟨⟨a, b, c⟩, ⟨d, e, f⟩⟩ := m
  simp only [coordsM, List.all_cons, List.all_nil, Bool.and_true, Bool.and_eq_true, insideC, decide_eq_true_eq] at h
  obtain ⟨h1, h2, h3, h4, h5, h6⟩ := h
  have e1 : (coordsM ((a, b, c), (d, e, f))).flatMap (fun n => digB n.toNat) = [a.toNat, b.toNat, c.toNat, d.toNat, e.toNat, f.toNat].flatMap digB := rfl
  have e2 := listR_app readNum digB (fun n => n < 9223372036854775808) (fun x r h => readNum_dig h r) [a.toNat, b.toNat, c.toNat, d.toNat, e.toNat, f.toNat] r (fun x hx => by
    simp only [List.mem_cons, List.not_mem_nil, or_false] at hx
    rcases hx with rfl | rfl | rfl | rfl | rfl | rfl <;> omega)
  unfold moveR
  rw [e1]
  have e3 : [a.toNat, b.toNat, c.toNat, d.toNat, e.toNat, f.toNat].length = 6 := rfl
  rw [e3] at e2
  rw [e2]
  simp only
  congr 2
  simp only [Prod.mk.injEq]
  omega
theorem manyR_app {α : Type} (one : Bytes → Option (α × Bytes)) (enc : α → Bytes) (good : α → Prop) (h : ∀ x r, good x → one (enc x ++ r) = some (x, r)) (l : List α) (r : Bytes) (hl : l.length ≤ 65536) (hg : ∀ x, x ∈ l → good x) : manyR one (digB l.length ++ (l.flatMap enc ++ r)) = some (l, r) := by
  unfold manyR
  rw [readNum_dig (by omega)]
  simp only
  rw [if_neg (by omega)]
  exact listR_app one enc good h l r hg
theorem flatten_flatMap (l : List Bytes) : l.flatten = l.flatMap id := by simp [List.flatMap]
structure NumsG (g : Grp) : Prop where
  level : 0 ≤ g.level ∧ g.level ≤ 9223372036854775807
  err : 0 ≤ g.err ∧ g.err ≤ 9223372036854775807
  total : 0 ≤ g.total ∧ g.total ≤ 9223372036854775807
theorem right_nums {g : Grp} (h : rightG g = true) : 0 ≤ g.level ∧ 0 ≤ g.err ∧ 0 ≤ g.total ∧ g.ins.length ≤ 65536 ∧ g.outs.length ≤ 65536 ∧ g.moves.length ≤ 65536 := by
  unfold rightG at h
  simp only [Bool.and_eq_true, decide_eq_true_eq] at h
  exact h.1.1
theorem right_moves {g : Grp} (h : rightG g = true) : ∀ m, m ∈ g.moves → (coordsM m).all insideC = true := by
  unfold rightG at h
  simp only [Bool.and_eq_true] at h
  exact List.all_eq_true.1 h.1.2
/-- What was packed is read again. -/
theorem grpF_back {g : Grp} (h : rightG g = true) (hg : goodG g) (hn : g.level ≤ 9223372036854775807 ∧ g.err ≤ 9223372036854775807 ∧ g.total ≤ 9223372036854775807) (hm : g.mag.length < 4611686018427387904) (r : Bytes) (hr : groupB g = 2 :: r) : grpF r = some (g, sizeG g) := by
  have e : r = digB g.level.toNat ++ (partsB g.ins ++ (digB g.outs.length ++ (g.outs.flatMap id ++ (digB g.moves.length ++ (g.moves.flatMap (fun m => (coordsM m).flatMap (fun n => digB n.toNat)) ++ (digB g.err.toNat ++ (digB g.total.toNat ++ (digB (sizeG g) ++ g.mag)))))))) := by
    unfold groupB at hr
    rw [List.cons.injEq] at hr
    rw [← hr.2, flatten_flatMap]
    simp only [movesB, List.append_assoc]
  obtain ⟨h1, h2, h3, h4, h5, h6⟩ := right_nums h
  obtain ⟨n1, n2, n3⟩ := hn
  have hs : sizeG g < 9223372036854775808 := by unfold sizeG; split <;> omega
  subst e
  unfold grpF
  rw [readNum_dig (by omega)]; simp only
  rw [manyR_parts _ _ h4 hg.1]; simp only
  rw [manyR_app (takeR 32) id (fun h => h.length = 32) (fun x r h => takeR_app h) g.outs _ h5 hg.2]; simp only
  rw [manyR_app moveR (fun m => (coordsM m).flatMap (fun n => digB n.toNat)) (fun m => (coordsM m).all insideC = true) (fun x r h => moveR_app h) g.moves _ h6 (right_moves h)]; simp only
  rw [readNum_dig (by omega)]; simp only
  rw [readNum_dig (by omega)]; simp only
  rw [readNum_dig hs]; simp only
  have e1 : decide (sizeG g % 2 = 1) = g.neg := by
    unfold sizeG
    cases g.neg with
    | true => rw [if_pos rfl]; exact decide_eq_true (by omega)
    | false => rw [if_neg (by simp)]; exact decide_eq_false (by omega)
  obtain ⟨lv, ins, outs, moves, er, tot, neg, mag⟩ := g
  simp only at *
  rw [e1, show ((lv.toNat : Nat) : Int) = lv by omega, show ((er.toNat : Nat) : Int) = er by omega, show ((tot.toNat : Nat) : Int) = tot by omega]
theorem sizeG_half (g : Grp) : sizeG g / 2 = g.mag.length := by unfold sizeG; split <;> omega
theorem numR_bound : ∀ (k unit acc : Nat) (s : Bytes) (n : Nat) (r : Bytes), acc < unit → numR k unit acc s = some (n, r) → n < unit * 128 ^ k
  | 0, _, _, _, _, _, _, h => by cases h
  | _ + 1, _, _, [], _, _, _, h => by cases h
  | k + 1, unit, acc, b :: r', n, r, ha, h => by
    rw [numR] at h
    have hb : b.toNat % 128 * unit ≤ 127 * unit := Nat.mul_le_mul_right _ (by omega)
    split at h
    · cases h
      have : unit * 128 ≤ unit * 128 ^ (k + 1) := Nat.mul_le_mul_left _ (by rw [Nat.pow_succ]; have := Nat.one_le_two_pow (n := k); have h2 : 1 ≤ 128 ^ k := Nat.one_le_pow _ _ (by decide); omega)
      omega
    · have := numR_bound k (unit * 128) _ r' n r (by omega) h
      rw [Nat.mul_assoc, ← Nat.pow_succ'] at this; exact this
theorem readNum_bound {s : Bytes} {n : Nat} {r : Bytes} (h : readNum s = some (n, r)) : n < 9223372036854775808 := by
  have := numR_bound 9 1 0 s n r (by decide) h
  exact Nat.lt_of_lt_of_le this (by decide)
theorem numR_len : ∀ (k unit acc : Nat) (s : Bytes) (n : Nat) (r : Bytes), numR k unit acc s = some (n, r) → r.length < s.length
  | 0, _, _, _, _, _, h => by cases h
  | _ + 1, _, _, [], _, _, h => by cases h
  | k + 1, unit, acc, b :: r', n, r, h => by
    rw [numR] at h
    split at h
    · cases h; simp
    · have := numR_len k _ _ r' n r h
      simp; omega
theorem readNum_len {s : Bytes} {n : Nat} {r : Bytes} (h : readNum s = some (n, r)) : r.length < s.length := numR_len _ _ _ _ _ _ h
theorem takeR_len {k : Nat} {s a r : Bytes} (h : takeR k s = some (a, r)) : a.length = k ∧ r.length + k = s.length := by
  unfold takeR at h
  split at h
  · cases h
  · cases h; simp; omega
theorem partR_good {s r : Bytes} {p : Part} (h : partR s = some (p, r)) : goodPart p ∧ r.length < s.length := by
  unfold partR at h
  cases h1 : takeR 32 s with
  | none => rw [h1] at h; cases h
  | some x =>
    obtain ⟨a, r1⟩ := x
    rw [h1] at h
    simp only at h
    cases h2 : takeR 32 r1 with
    | none => rw [h2] at h; cases h
    | some y =>
      obtain ⟨b, r2⟩ := y
      rw [h2] at h; cases h
      have k1 := takeR_len h1
      have k2 := takeR_len h2
      exact ⟨⟨k1.1, k2.1⟩, by omega⟩
theorem listR_all {α : Type} {one : Bytes → Option (α × Bytes)} {good : α → Prop} (h : ∀ s x r, one s = some (x, r) → good x) : ∀ (k : Nat) (s : Bytes) (l : List α) (r : Bytes), listR one k s = some (l, r) → (∀ x, x ∈ l → good x) ∧ l.length = k
  | 0, s, l, r, e => by cases e; exact ⟨fun x hx => (by cases hx), rfl⟩
  | k + 1, s, l, r, e => by
    rw [listR] at e
    cases h1 : one s with
    | none => rw [h1] at e; cases e
    | some x =>
      obtain ⟨x, r1⟩ := x
      rw [h1] at e
      simp only at e
      cases h2 : listR one k r1 with
      | none => rw [h2] at e; cases e
      | some y =>
        obtain ⟨l', r2⟩ := y
        rw [h2] at e; cases e
        obtain ⟨k1, k2⟩ := listR_all h k r1 l' r h2
        refine ⟨fun z hz => ?_, by simp [k2]⟩
        rcases List.mem_cons.1 hz with rfl | hz
        · exact h _ _ _ h1
        · exact k1 z hz
theorem manyR_all {α : Type} {one : Bytes → Option (α × Bytes)} {good : α → Prop} (h : ∀ s x r, one s = some (x, r) → good x) {s : Bytes} {l : List α} {r : Bytes} (e : manyR one s = some (l, r)) : (∀ x, x ∈ l → good x) ∧ l.length ≤ 65536 := by
  unfold manyR at e
  cases h1 : readNum s with
  | none => rw [h1] at e; cases e
  | some x =>
    obtain ⟨n, r1⟩ := x
    rw [h1] at e
    simp only at e
    split at e
    · cases e
    · obtain ⟨k1, k2⟩ := listR_all h _ _ _ _ e
      exact ⟨k1, by omega⟩
theorem grpF_good {s : Bytes} {g : Grp} {size : Nat} (h : grpF s = some (g, size)) : goodG g ∧ (g.level ≤ 9223372036854775807 ∧ g.err ≤ 9223372036854775807 ∧ g.total ≤ 9223372036854775807) ∧ size < 9223372036854775808 := by
  unfold grpF at h
  cases h1 : readNum s with
  | none => rw [h1] at h; cases h
  | some x1 =>
    obtain ⟨lv, s1⟩ := x1
    rw [h1] at h; simp only at h
    cases h2 : manyR partR s1 with
    | none => rw [h2] at h; cases h
    | some x2 =>
      obtain ⟨ins, s2⟩ := x2
      rw [h2] at h; simp only at h
      cases h3 : manyR (takeR 32) s2 with
      | none => rw [h3] at h; cases h
      | some x3 =>
        obtain ⟨outs, s3⟩ := x3
        rw [h3] at h; simp only at h
        cases h4 : manyR moveR s3 with
        | none => rw [h4] at h; cases h
        | some x4 =>
          obtain ⟨moves, s4⟩ := x4
          rw [h4] at h; simp only at h
          cases h5 : readNum s4 with
          | none => rw [h5] at h; cases h
          | some x5 =>
            obtain ⟨er, s5⟩ := x5
            rw [h5] at h; simp only at h
            cases h6 : readNum s5 with
            | none => rw [h6] at h; cases h
            | some x6 =>
              obtain ⟨tot, s6⟩ := x6
              rw [h6] at h; simp only at h
              cases h7 : readNum s6 with
              | none => rw [h7] at h; cases h
              | some x7 =>
                obtain ⟨sz, s7⟩ := x7
                rw [h7] at h; simp only at h
                cases h
                have b1 := readNum_bound h1
                have b5 := readNum_bound h5
                have b6 := readNum_bound h6
                have b7 := readNum_bound h7
                refine ⟨⟨(manyR_all (fun s x r e => (partR_good e).1) h2).1, (manyR_all (fun s x r e => (takeR_len e).1) h3).1⟩, ⟨?_, ?_, ?_⟩, b7⟩
                · show ((lv : Nat) : Int) ≤ _; omega
                · show ((er : Nat) : Int) ≤ _; omega
                · show ((tot : Nat) : Int) ≤ _; omega
theorem grp_same (s : Bytes) (hs : s.length < 4611686018427387904) : grpR s = grpRR s := by
  cases s with
  | nil => rfl
  | cons b r =>
    unfold grpR grpRR
    simp only
    by_cases hb : b = 2
    · subst hb
      rw [if_neg (by simp), if_neg (by simp)]
      cases h : grpF r with
      | none => rfl
      | some x =>
        obtain ⟨g, size⟩ := x
        simp only
        obtain ⟨hg, hn, hsz⟩ := grpF_good h
        have key : ∀ m : Bytes, m.length ≤ (2 :: r : Bytes).length → rightG (withMag g m) = true → groupB (withMag g m) = 2 :: r → withMag g m = g ∧ sizeG g = size := by
          intro m hm k1 k2
          have := grpF_back k1 (g := withMag g m) hg hn (by show m.length < _; omega) r k2
          rw [h] at this
          simp only [Option.some.injEq, Prod.mk.injEq] at this
          exact ⟨this.1.symm, by rw [this.2, ← this.1]⟩
        have hl : ∀ m, groupB (withMag g m) = 2 :: r → m.length ≤ (2 :: r : Bytes).length := fun m e => by
          rw [← e]
          unfold groupB
          simp only [List.length_cons, List.length_append, withMag]
          omega
        by_cases hz : size / 2 = g.mag.length
        · rw [if_neg (by omega), if_neg (not_not_intro hz), hz, List.take_length]
          rfl
        · rw [if_pos hz]
          by_cases hz2 : g.mag.length < size / 2
          · rw [if_pos hz2]
          · rw [if_neg hz2]
            by_cases hk : rightG (withMag g (g.mag.take (size / 2))) = true ∧ groupB (withMag g (g.mag.take (size / 2))) = 2 :: r
            · obtain ⟨k1, k2⟩ := key _ (hl _ hk.2) hk.1 hk.2
              have := sizeG_half g
              rw [k2] at this
              exact absurd this hz
            · rw [if_neg hk]
    · rw [if_pos hb, if_pos hb]
theorem grpR_some {s : Bytes} {g : Grp} (h : grpR s = some g) : rightG g = true ∧ groupB g = s ∧ goodG g := by
  cases s with
  | nil => cases h
  | cons b r =>
    unfold grpR at h
    simp only at h
    split at h
    · cases h
    · cases h1 : grpF r with
      | none => rw [h1] at h; cases h
      | some x =>
        obtain ⟨g0, size⟩ := x
        rw [h1] at h
        simp only at h
        split at h
        · cases h
        · split at h
          · rename_i hk
            cases h
            exact ⟨hk.1, hk.2, (grpF_good h1).1⟩
          · cases h
theorem group_back {g : Grp} (h : rightG g = true) (hg : goodG g) (hn : g.level ≤ 9223372036854775807 ∧ g.err ≤ 9223372036854775807 ∧ g.total ≤ 9223372036854775807) (hm : g.mag.length < 4611686018427387904) : grpR (groupB g) = some g := by
  have hb : ∃ r, groupB g = 2 :: r := ⟨_, rfl⟩
  obtain ⟨r, hr⟩ := hb
  have h1 := grpF_back h hg hn hm r hr
  rw [hr]
  unfold grpR
  simp only
  rw [if_neg (by simp), h1]
  simp only
  rw [sizeG_half, if_neg (by omega), List.take_length]
  have e : withMag g g.mag = g := rfl
  rw [e, if_pos ⟨h, hr⟩]
theorem rootR_some {s : Bytes} {l : List Part} (h : rootR s = some l) : rootB l = s ∧ (∀ p, p ∈ l → goodPart p) ∧ l.length ≤ 65536 := by
  cases s with
  | nil => cases h
  | cons b r =>
    unfold rootR at h
    simp only at h
    split at h
    · cases h
    · cases h1 : manyR partR r with
      | none => rw [h1] at h; cases h
      | some x =>
        obtain ⟨l', r'⟩ := x
        rw [h1] at h
        simp only at h
        split at h
        · rename_i hk
          cases h
          obtain ⟨k1, k2⟩ := manyR_all (fun s x r e => (partR_good e).1) h1
          exact ⟨hk, k1, k2⟩
        · cases h
end Pk
end Go.Proofs.YtcikldoaidmnhaaGreatDoor
namespace Go.Proofs.YtcikldoaidmnhaaGreatDoor
open Go Go.RowKit Pk
set_option maxRecDepth 100000
theorem or128 : ∀ x, x < 256 → x ||| 128 = x % 128 + 128 := by decide +kernel
theorem digB_small {n : Nat} (h : n < 128) : digB n = [UInt8.ofNat n] := by rw [digB, dif_pos h]
theorem digB_big {n : Nat} (h : ¬ n < 128) : digB n = UInt8.ofNat (n % 128 + 128) :: digB (n / 128) := by rw [digB, dif_neg h]
theorem digB_len : ∀ n : Nat, (digB n).length ≤ n + 1
  | n => by
    by_cases h : n < 128
    · rw [digB_small h]; simp
    · rw [digB_big h, List.length_cons]
      have := digB_len (n / 128)
      omega
termination_by n => n
decreasing_by omega
theorem digB_len9 : ∀ (k n : Nat), n < 128 ^ k → 0 < k → (digB n).length ≤ k
  | 0, _, _, h => absurd h (by omega)
  | k + 1, n, h, _ => by
    by_cases hn : n < 128
    · rw [digB_small hn]; simp
    · rw [digB_big hn, List.length_cons]
      have hk : 0 < k := by
        rcases Nat.eq_zero_or_pos k with rfl | hk
        · simp at h; omega
        · exact hk
      have := digB_len9 k (n / 128) (by rw [Nat.pow_succ] at h; omega) hk
      omega
theorem digB_ten {n : Nat} (h : n < 9223372036854775808) : (digB n).length ≤ 10 := digB_len9 10 n (Nat.lt_of_lt_of_le h (by decide)) (by decide)
theorem u8_or {m : Nat} : bits .or .u8 (((m : Nat) : Int) % 256) 128 = (((UInt8.ofNat (m % 128 + 128)).toNat : Nat) : Int) := by
  have e : ((m : Nat) : Int) % 256 = ((m % 256 : Nat) : Int) := by omega
  have e2 : (128 : Int) = ((128 : Nat) : Int) := rfl
  rw [e, e2, u8_or_nat _ _ (by omega) (by omega), or128 _ (by omega), u8_small (by omega)]
  congr 1
  omega
set_option maxHeartbeats 1000000 in
theorem digits_any (n : Nat) (hn : n < 9223372036854775808) (w : World) : Calls Tryz.prog 80 #[.int .i64 n] w fun en w' => strR (digB n) w en w' := by
  have HN : Hid (n < 9223372036854775808) := hn
  have HT := Lib.hid (digB_ten hn)
  have h63 : ((n : Nat) : Int) ≤ 9223372036854775807 := by omega
  clear hn
  go_enter Tryz.func80, Tryz.ntmps80
  go_wp2_with fail
  go_loopw [0, 3] (fun i o wr => ∃ (m : Nat) (L : Bytes), i = .int .i64 m ∧ L ++ digB m = digB n ∧ m ≤ n ∧ wr.ownsRow w.heap.size 5 1 o L.length (byV L) ∧ Upd noBlk w wr) (fun i _ _ => (intOf i).toNat)
  case atStart => exact ⟨n, [], rfl, rfl, Nat.le_refl _, World.ownsRow_nil _ _ _ _, Upd.refl _ _⟩
  case round =>
    obtain ⟨m, L, rfl, h1, h2, h3, h4⟩ := hrel
    have HL := Lib.hid h1
    have HM := Lib.hid h2
    have HO := Lib.hid h3
    have HU := Lib.hid h4
    have hm63 : ((m : Nat) : Int) ≤ 9223372036854775807 := by omega
    have HLL : Hid (L.length ≤ 10) := by have h5 := congrArg List.length h1; rw [List.length_append] at h5; have := HT.out; show _ ≤ _; omega
    obtain ⟨A, cap, rfl⟩ := own_form h3
    clear h1 h2 h3 h4 h63
    by_cases hb : m < 128
    · have hb' : ((m : Nat) : Int) < 128 := by omega
      have hb'' : ¬ (128 : Int) ≤ ((m : Nat) : Int) := by omega
      have HB := Lib.hid hb
      clear hb
      obtain ⟨g, cap3, w3, r3, o3, u3⟩ := append_by HU.out.size HO.out (UInt8.ofNat m) (by have := HLL.out; omega)
      rw [u8_small (by have := HB.out; omega)] at r3
      have R3 := Lib.hid r3
      have HW3 : Hid (Upd noBlk w w3) := HU.out.then u3 (fun i hi e => absurd (HO.out.lt i e).1 (by omega))
      have HCV := Lib.hid (conv_bs rfl o3)
      have hlen : (L ++ [UInt8.ofNat m]).length = L.length + 1 := by simp
      have HDN : Hid (L ++ [UInt8.ofNat m] = digB n) := by show _ = _; rw [← HL.out, digB_small HB.out]
      have hc3 : ((convert 41 9 (.slice (some ⟨g, 0, none⟩) (L.length + 1) cap3)).run Tryz.prog w3 = .ok (.string (bs (digB n))) w3) := by rw [← HDN.out]; exact HCV.out
      clear r3 o3 u3 hlen HCV
      go_wp2_with (first | (at_builtin; refine wpList_append_run rfl _ _ _ rfl rfl rfl R3.out ?_))
      go_ret
      exact ⟨rfl, HW3.out⟩
    · have hb' : (128 : Int) ≤ ((m : Nat) : Int) := by omega
      have HB := Lib.hid hb
      clear hb
      have hor := u8_or (m := m)
      obtain ⟨g, cap3, w3, r3, o3, u3⟩ := append_by HU.out.size HO.out (UInt8.ofNat (m % 128 + 128)) (by have := HLL.out; omega)
      obtain ⟨x, hx⟩ : ∃ x, x = (UInt8.ofNat (m % 128 + 128)).toNat := ⟨_, rfl⟩
      rw [← hx] at r3 hor
      have R3 := Lib.hid r3
      have O3 := Lib.hid o3
      have HW3 : Hid (Upd noBlk w w3) := HU.out.then u3 (fun i hi e => absurd (HO.out.lt i e).1 (by omega))
      clear r3 o3 u3 hx
      go_wp2_with (first | (at_builtin; refine wpList_append_run rfl _ _ _ rfl rfl rfl R3.out ?_))
      refine ⟨⟨m / 128, L ++ [UInt8.ofNat (m % 128 + 128)], by go_num, ?_, by have := HM.out; omega, ?_, HW3.out⟩, ?_⟩
      · rw [← HL.out, digB_big HB.out]; simp
      · have := O3.out
        rw [List.length_append] at this ⊢
        exact this
      · simp only [intOf]; have := HB.out; omega
end Go.Proofs.YtcikldoaidmnhaaGreatDoor
namespace Go.Proofs.YtcikldoaidmnhaaGreatDoor
open Go Go.RowKit Pk
set_option maxRecDepth 100000
abbrev H32 := {h : Bytes // h.length = 32}
abbrev P32 := H32 × H32
def hashC (h : H32) : List Value := byV h.1
def partC (p : P32) : List Value := byV p.1.1 ++ byV p.2.1
def plainP (p : P32) : Part := (p.1.1, p.2.1)
theorem byV_len (l : Bytes) : (byV l).length = l.length := by simp [byV]
theorem hashC_len (h : H32) : (hashC h).length = 32 := by unfold hashC; rw [byV_len, h.2]
theorem partC_len (p : P32) : (partC p).length = 64 := by unfold partC; rw [List.length_append, byV_len, byV_len, p.1.2, p.2.2]
theorem byV_one (l : Bytes) : ∀ v, v ∈ byV l → v.oneCell' = true := by
  intro v hv
  obtain ⟨c, _, rfl⟩ := List.mem_map.1 hv
  rfl
theorem partC_one (p : P32) : ∀ v, v ∈ partC p → v.oneCell' = true := by
  intro v hv
  rcases List.mem_append.1 hv with h | h
  · exact byV_one _ v h
  · exact byV_one _ v h
noncomputable def kHash : Kd Tryz.prog H32 := { T := 81, S := 63, k := 32, bytes := 32, enc := hashC, len := hashC_len, one := fun h => byV_one h.1, pos := by decide, small := by decide, und := Tryz.underlying63, info := kinfo_of (by kernel_rfl) }
noncomputable def kPart : Kd Tryz.prog P32 := { T := 83, S := 47, k := 64, bytes := 64, enc := partC, len := partC_len, one := partC_one, pos := by decide, small := by decide, und := Tryz.underlying47, info := kinfo_of (by kernel_rfl) }
theorem byV_inj {a b : Bytes} (h : byV a = byV b) : a = b := by
  induction a generalizing b with
  | nil => cases b with
    | nil => rfl
    | cons y b => simp [byV] at h
  | cons x a ih => cases b with
    | nil => simp [byV] at h
    | cons y b =>
      simp only [byV, List.map_cons, List.cons.injEq, Value.int.injEq, true_and] at h
      have hx : x = y := UInt8.toNat_inj.1 (by omega)
      rw [hx, ih (b := b) (by simpa [byV] using h.2)]
/-- Bytes in the middle of a block, made a string. -/
theorem conv_mid {w : World} {b off cap : Nat} {l : Bytes} (h : w.rangeAt b off (byV l)) : (convert 41 9 (.slice (some ⟨b, off, none⟩) l.length cap)).run Tryz.prog w = .ok (.string (bs l)) w := by
  have e : l.length = (l.map UInt8.toNat).length := by simp
  rw [run_convert_bytes_arg w 41 5 Tryz.underlying41 Tryz.underlying5 b off l.length cap ((l.map UInt8.toNat).map fun (d : Nat) => (d : Int)) (by simp) (fun i hi => ?_) 9 Tryz.underlying9, strOfNums_cast, str_bs]
  refine h i _ ?_
  simp [byV, hi]
theorem part_ranges {w : World} {b o : Nat} {p : P32} (h : kPart.At w b o p) : w.rangeAt b o (byV p.1.1) ∧ w.rangeAt b (o + 32) (byV p.2.1) := by
  have h' : w.rangeAt b o (byV p.1.1 ++ byV p.2.1) := h
  refine ⟨fun j v hv => h' j v ?_, fun j v hv => ?_⟩
  · have hj := (List.getElem?_eq_some_iff.1 hv).1
    rw [List.getElem?_append_left hj]; exact hv
  · rw [Nat.add_assoc]
    refine h' (32 + j) v ?_
    rw [List.getElem?_append_right (by rw [byV_len, p.1.2]; omega), byV_len, p.1.2, Nat.add_sub_cancel_left]; exact hv
end Go.Proofs.YtcikldoaidmnhaaGreatDoor
namespace Go.Proofs.YtcikldoaidmnhaaGreatDoor
open Go Go.RowKit Pk
set_option maxRecDepth 100000
theorem conv32 (h : H32) {w : World} {b off : Nat} (ha : w.rangeAt b off (byV h.1)) : (convert 41 9 (.slice (some ⟨b, off, none⟩) 32 32)).run Tryz.prog w = .ok (.string (bs h.1)) w := by
  have := conv_mid (cap := 32) ha
  rw [h.2] at this
  exact this
set_option maxHeartbeats 2000000 in
theorem parts_any (v : Value) (l : List P32) (hl : l.length ≤ 65536) (w : World) (h : kPart.Rd w v l) : Calls Tryz.prog 73 #[v] w fun en w' => strR (partsB (l.map plainP)) w en w' := by
  obtain ⟨A, cap, rfl, hcap, hx⟩ := h
  have HX := Lib.hid hx
  have HDG := fun W => Lib.hid (digits_any l.length (by omega) W)
  have hl' : ((l.length : Nat) : Int) ≤ 65536 := by omega
  have HPB : Hid (partsB (l.map plainP) = digB l.length ++ (l.map plainP).flatMap (fun p => p.1 ++ p.2)) := by show _ = _; unfold partsB; rw [List.length_map]
  have HDL := Lib.hid (digB_ten (n := l.length) (by omega))
  clear hx hl
  go_enter Tryz.func73, Tryz.ntmps73
  go_wp2_with fail
  refine (HDG _).out.mono ?_
  rintro e w1 ⟨rfl, u1⟩
  have U1 := Lib.hid u1
  clear u1 HDG
  go_wp2_with fail
  go_loopw [3, 11] (fun s i wr => ∃ k : Nat, i = .int .i64 k ∧ k ≤ l.length ∧ s = .string (bs (digB l.length ++ ((l.take k).map plainP).flatMap (fun p => p.1 ++ p.2))) ∧ Upd noBlk w wr) (fun _ i _ => l.length - (intOf i).toNat)
  case atStart => exact ⟨0, rfl, Nat.zero_le _, by simp, U1.out⟩
  case round =>
    obtain ⟨k, rfl, hk, rfl, hu⟩ := hrel
    have HU := Lib.hid hu
    clear hu
    by_cases hlt : k < l.length
    · have hlt' : ((k : Nat) : Int) < ((l.length : Nat) : Int) := by omega
      obtain ⟨b, off, rfl, f1⟩ := HX.out (by omega)
      have hat := (f1 k hlt).keep HU.out
      have hk64 : kPart.k = 64 := rfl
      rw [hk64] at hat
      have HAT := Lib.hid hat
      have HTK : Hid (((l.take (k + 1)).map plainP).flatMap (fun p => p.1 ++ p.2) = ((l.take k).map plainP).flatMap (fun p => p.1 ++ p.2) ++ (l[k].1.1 ++ l[k].2.1)) := by
        show _ = _
        rw [List.take_succ_eq_append_getElem hlt, List.map_append, List.flatMap_append]
        simp [plainP]
      clear f1 hat hk64
      generalize l[k] = pk at *
      have HI : Hid ((Tryz.prog.info? 83).map (·.size) = some (partC pk).length) := by show _ = _; rw [partC_len]; kernel_rfl
      have HST : ∀ c : Array Value, c.size = 64 → (storeCells ⟨wr.heap.size, 0, none⟩ (partC pk) 0).run Tryz.prog (wr.alloc (.cells c 83)) = .ok () (wr.alloc (.cells (partC pk).toArray 83)) := fun c hc => by
        have := run_storeCells_new (P := Tryz.prog) wr 83 c (partC pk).toArray (by simpa using HI.out) (by simp [hc, partC_len]) (all_oneCell_toArray (partC_one pk))
        simpa using this
      have hlen := partC_len pk
      go_wp2_with (first | (refine wpList_load_mid rfl _ _ rfl b (off + k * 64) rfl (partC pk) _ HAT.out Tryz.underlying83 rfl HI.out ?_))
      clear HST
      have HR1 : Hid (kPart.At (wr.alloc (.cells (partC pk).toArray 83)) wr.heap.size 0 pk) := by
        show World.rangeAt _ _ _ _
        intro j v hv
        rw [Nat.zero_add, cell_of_row _ _ j (partC pk).toArray 83 (0, 0) (heap_alloc_last wr _)]
        have hv' : (partC pk)[j]? = some v := hv
        simpa using hv'
      have HU1 : Hid (Upd noBlk w (wr.alloc (.cells (partC pk).toArray 83))) := HU.out.alloc _
      have HBS : Hid (wr.heap.size < (wr.alloc (.cells (partC pk).toArray 83)).heap.size) := by show _ < (wr.heap.push _).size; rw [Array.size_push]; omega
      have HPL : Hid ((digB l.length ++ ((l.take k).map plainP).flatMap (fun p => p.1 ++ p.2)).length ≤ 10 + k * 64) := by
        show _ ≤ _
        have h1 := HDL.out
        have h2 : (((l.take k).map plainP).flatMap (fun p => p.1 ++ p.2)).length = (l.take k).length * 64 := by
          generalize l.take k = q
          induction q with
          | nil => rfl
          | cons p q ih => rw [List.map_cons, List.flatMap_cons, List.length_append, ih]; simp [plainP, p.1.2, p.2.2]; omega
        rw [List.length_append, h2, List.length_take, Nat.min_eq_left hk]
        omega
      have HEQ : Hid (digB l.length ++ ((l.take (k + 1)).map plainP).flatMap (fun p => p.1 ++ p.2) = (digB l.length ++ ((l.take k).map plainP).flatMap (fun p => p.1 ++ p.2)) ++ (pk.1.1 ++ pk.2.1)) := by
        show _ = _
        rw [HTK.out, List.append_assoc]
      clear HTK HAT HI HX
      have hpre : ∃ pre, pre = digB l.length ++ ((l.take k).map plainP).flatMap (fun p => p.1 ++ p.2) := ⟨_, rfl⟩
      obtain ⟨pre, hpre⟩ := hpre
      simp only [← List.map_take]
      rw [← hpre] at HPL HEQ ⊢
      clear hpre
      generalize hbb : wr.heap.size = bb at *
      generalize wr.alloc (.cells (partC pk).toArray 83) = wa at *
      clear hbb hlen
      have HS1 : Hid (¬ 9223372036854775807 < (bs pk.1.1).size + (bs pk.2.1).size) := by show ¬ _; rw [bs_size, bs_size, pk.1.2, pk.2.2]; omega
      have HS2 : Hid (¬ 9223372036854775807 < (bs pre).size + ((bs pk.1.1).size + (bs pk.2.1).size)) := by show ¬ _; rw [bs_size, bs_size, bs_size, pk.1.2, pk.2.2]; have := HPL.out; omega
      refine wp_region_tree 9 (OT.sures [0, 1, 2, 3, 4, 5, 6, 7, 8] .nil) (fun w' => Upd noBlk wa w') (by kernel_rfl) (by kernel_rfl) (fun c a d v w h => by cases d <;> exact h) ((Upd.refl noBlk wa).drew) ?_
      simp only [OT.sures]
      iterate 9 (apply wpT_sure rfl rfl; focus (intro w' hw'; obtain ⟨ra, rb⟩ := part_ranges (HR1.out.keep hw'); have c1 := conv32 pk.1 ra; have c2 := conv32 pk.2 rb; have s1 := HS1.out; have s2 := HS2.out; go_simp; rfl))
      refine wpT_nil ?_
      go_wp2_with fail
      refine ⟨⟨k + 1, by push_cast; rfl, by omega, ?_, HU1.out.drew⟩, ?_⟩
      · rw [HEQ.out, bs_append, bs_append]
      · simp only [intOf]
        omega
    · obtain rfl : k = l.length := by omega
      go_wp2_with fail
      go_ret
      refine ⟨?_, HU.out⟩
      rw [HPB.out, List.take_length]; rfl
end Go.Proofs.YtcikldoaidmnhaaGreatDoor
