/- Walks of the laws of the polygon files: SoupComments. -/
import Derived.Test.YtojdgdeefhndiaaGreatDoorM39
namespace Go.Proofs.YtojdgdeefhndiaaGreatDoor
open Go Go.RowKit Sp
set_option maxRecDepth 100000
def endsC : Array Value := #[.string ⟨#[10]⟩, .string ⟨#[32, 35, 32, 112, 111, 108, 121, 32, 51, 32, 102, 10]⟩, .string ⟨#[13, 10]⟩, .string ⟨#[10, 10, 32, 9, 10]⟩, .string ⟨#[35, 118, 10, 35, 32, 102, 32, 49, 32, 49, 32, 49, 10]⟩]
def sepsC : Array Value := #[.string ⟨#[32]⟩, .string ⟨#[32, 32]⟩, .string ⟨#[9]⟩, .string ⟨#[13, 32]⟩]
theorem endsC_get (k : Nat) : endsC[k % 5]? = some (.string (bs (endOf k))) := by
  have h : k % 5 < 5 := Nat.mod_lt _ (by decide)
  unfold endOf
  generalize k % 5 = m at *
  match m, h with
  | 0, _ => rfl | 1, _ => rfl | 2, _ => rfl | 3, _ => rfl | 4, _ => rfl
theorem sepsC_get (k : Nat) : sepsC[k / 5 % 4]? = some (.string (bs (sepOf k))) := by
  have h : k / 5 % 4 < 4 := Nat.mod_lt _ (by decide)
  unfold sepOf
  generalize k / 5 % 4 = m at *
  match m, h with
  | 0, _ => rfl | 1, _ => rfl | 2, _ => rfl | 3, _ => rfl
/-- What is put in, by lines. -/
def kfQ (q : Bytes) (i : Nat) : Nat := ((q[i % q.length]?).getD 0).toNat
theorem kfQ_lt (q : Bytes) (i : Nat) : kfQ q i < 256 := UInt8.toNat_lt _
theorem qWrite12_any (m : Nat) (hm : m < 2) (v : Value) (ps : List Poly) (hn : ps.length ≤ 100) (hv : ∀ p, p ∈ ps → validP p.1) (w : World) (h : RdPolys w v ps) :
    ∃ s : Bytes, s.length ≤ 2500 * ps.length ∧ (∀ kf, ∃ ps', ps'.map (·.1) = ps.map (·.1) ∧ readS (trC kf 0 s) = .ok ps') ∧ Calls Tryz.prog 14 #[.int .i64 (1 + (m : Int)), v] w fun en w' => writeR s 0 w en w' := by
  have hc : m = 0 ∨ m = 1 := by omega
  rcases hc with rfl | rfl
  · exact ⟨write1 ps, write1_length ps [] hv (by simp; omega), fun kf => comm_one kf ps hv (by omega), qWrite1_any v ps hn hv w h⟩
  · exact ⟨write2 ps, by have := body2_length ps hv; rw [write2_body]; omega, fun kf => comm_two kf ps hv (by omega), qWrite2_any v ps hn hv w h⟩
set_option maxHeartbeats 1500000 in
theorem lawSoupComments_c (A : Option Addr) (cap : Nat) (l : List Quad) (n : Int) (A2 : Option Addr) (cap2 : Nat) (q : Bytes) (hl : l.length ≤ cap) (hc : cap ≤ maxLen) (_hf : (Lit.int .i64 n).wf = true) (hl2 : q.length ≤ cap2) (hc2 : cap2 ≤ maxLen) (w : World) (hsh : w.ShapedOpen Tryz.prog) (h : RdQ w A l) (h2 : RdBy w A2 q) :
    Calls Tryz.prog 5 #[.slice A l.length cap, .int .i64 n, .slice A2 q.length cap2] w fun en w' => en = .returned (.bool true) ∧ Upd noBlk w w' := by
  have H := Lib.hid h
  have H2 := Lib.hid h2
  have HSH := Lib.hid hsh
  have HC := Lib.hid hc
  have HQ : Hid (q.length ≤ 9223372036854775807) := by unfold maxLen at hc2; show _ ≤ _; omega
  have H1 := Lib.hid (sanity_any w hsh)
  clear h h2 hsh hc hl2 hc2
  go_enter Tryz.func5, Tryz.ntmps5
  go_wp2_with fail
  refine H1.out.mono ?_
  rintro e1 w1 ⟨rfl, u1⟩
  have U1 := Lib.hid u1
  clear u1
  go_wp2_with fail
  refine (qMade_any A cap l hl HC.out w1 (H.out.keep U1.out)).mono ?_
  rintro e1 w2 ⟨v, ps, rfl, hps, hg, ho, u2⟩
  have U2 := Lib.hid (U1.out.trans u2)
  have HG := Lib.hid (goodPs_valid hg)
  have HO := Lib.hid ho.rd
  obtain ⟨Av, cv, hv⟩ := ho.len
  subst hv
  clear u2 hg ho
  obtain ⟨m, hm⟩ : ∃ m : Nat, n % 2 = m := ⟨(n % 2).toNat, by omega⟩
  have hm' : m < 2 := by omega
  obtain ⟨s, hs1, hs2, hs3⟩ := qWrite12_any m hm' _ ps (by omega) HG.out w2 HO.out
  have HS2 := Lib.hid hs2
  have HS3 := Lib.hid hs3
  clear hs2 hs3
  go_wp2_with (go_at_call 16; refine (Mod_any _ _ (by decide) (by decide) _).mono ?_; rintro e1 w1 ⟨rfl, rfl⟩)
  refine HS3.out.mono ?_
  rintro e1 w3 ⟨rfl, u3⟩
  have U3 := Lib.hid u3
  clear u3
  have hsl : s.length ≤ 50000 := by omega
  have hb : (bs s).size = s.length := bs_size s
  go_wp2_with fail
  go_loopw [11, 12, 13, 14] (fun tv lv i _ wr => ∃ (k ln : Nat) (acc : Bytes), tv = .string (bs acc) ∧ lv = .int .i64 ln ∧ i = .int .i64 k ∧ k ≤ s.length ∧ ln ≤ k ∧ acc.length ≤ 13 * k ∧ acc ++ trC (kfQ q) ln (s.drop k) = trC (kfQ q) 0 s ∧ Upd noBlk w3 wr) (fun _ _ i _ _ => s.length - (intOf i).toNat)
  case atStart => exact ⟨0, 0, [], rfl, rfl, rfl, Nat.zero_le _, Nat.zero_le _, Nat.zero_le _, rfl, Upd.refl _ _⟩
  case round =>
    obtain ⟨k, ln, acc, rfl, rfl, rfl, hk, hln, hacc, hsp, hu⟩ := hrel
    have HSP := Lib.hid hsp
    have HU := Lib.hid hu
    clear hsp hu
    have hba : (bs acc).size = acc.length := bs_size acc
    by_cases hlt : k < s.length
    · have hlt' : ((k : Nat) : Int) < ((s.length : Nat) : Int) := by omega
      have hget : (bs s)[k]'(by omega) = s[k] := bs_get s k hlt
      have hsp2 : Hid (acc ++ trC (kfQ q) ln (s[k] :: s.drop (k + 1)) = trC (kfQ q) 0 s) := by show _ = _; rw [← List.drop_eq_getElem_cons hlt]; exact HSP.out
      have HKV := Lib.hid (kfQ_lt q ln)
      obtain ⟨kv, hkv⟩ : ∃ kv, kv = kfQ q ln := ⟨_, rfl⟩
      rw [← hkv] at HKV
      have hce := endsC_get kv
      have hcs := sepsC_get kv
      have hee : Hid (endOf kv = endOf (kfQ q ln)) := by show _ = _; rw [hkv]
      have hes : Hid (sepOf kv = sepOf (kfQ q ln)) := by show _ = _; rw [hkv]
      have hle : (endOf kv).length ≤ 13 := (endOf_ok kv).1
      have hls : (sepOf kv).length ≤ 2 := (sepOf_ok kv).2.2
      have hlt256 : kv < 256 := HKV.out
      go_upto_if 37 with fail
      go_cut [14, 37] (fun kk _ wx => wr = wx ∧ kk = .int .u8 (kv : Nat))
      case first =>
        by_cases hq0 : q.length = 0
        · have e0 : ¬ (0 : Int) < ((q.length : Nat) : Int) := by omega
          have hk0 : kv = 0 := by
            rw [hkv]; unfold kfQ
            rw [List.length_eq_zero_iff.1 hq0]; rfl
          subst hk0
          clear hq0 hkv
          go_wp2_with fail
          go_meet
          case rel => exact ⟨rfl, rfl⟩
        · have e0 : (0 : Int) < ((q.length : Nat) : Int) := by omega
          obtain ⟨b2, off2, rfl, ea2⟩ := H2.out (by omega)
          have hmlt : ln % q.length < q.length := Nat.mod_lt _ (by omega)
          have hc2 := (((U2.out.trans U3.out).trans HU.out).cell (ea2 _ hmlt) id)
          have hrem : (((ln : Nat) : Int)).tmod ((q.length : Nat) : Int) = ((ln % q.length : Nat) : Int) := by rw [Int.tmod_eq_emod_of_nonneg (by omega)]; rfl
          have hmI : ((ln % q.length : Nat) : Int) < ((q.length : Nat) : Int) := by omega
          have hkv2 : (q[ln % q.length]'hmlt).toNat = kv := by rw [hkv]; unfold kfQ; rw [List.getElem?_eq_getElem hmlt]; rfl
          rw [hkv2] at hc2
          have hqb := HQ.out
          clear ea2 hkv hkv2
          generalize ln % q.length = m2 at *
          go_wp2_with fail
          go_meet
          case rel => exact ⟨rfl, rfl⟩
      case rest =>
        obtain ⟨rfl, rfl⟩ := hcut
        clear hkv
        by_cases hc10 : s[k] = 10
        · have e2 : ((((bs s)[k]'(by omega)).toNat : Int) == 10) = true := by rw [hget, hc10]; rfl
          have hst : Hid ((acc ++ endOf kv) ++ trC (kfQ q) (ln + 1) (s.drop (k + 1)) = trC (kfQ q) 0 s) := by
            show _ = _
            rw [← hsp2.out, hc10, trC, if_pos rfl, ← hee.out, List.append_assoc]
          have hrem : (((kv : Nat) : Int)).tmod 5 = ((kv % 5 : Nat) : Int) := by rw [Int.tmod_eq_emod_of_nonneg (by omega)]; rfl
          have hm5 : ((kv % 5 : Nat) : Int) < 5 := by omega
          have hcc : (wr.alloc (.cells endsC 9)).cell? ⟨wr.heap.size, kv % 5, none⟩ = some (.string (bs (endOf kv))) := by rw [cell_of_row _ _ _ _ _ _ (heap_alloc_new wr (.cells endsC 9))]; exact hce
          have hbe : (bs (endOf kv)).size = (endOf kv).length := bs_size _
          unfold endsC at hcc
          clear hce hcs hget hc10 hlt256
          generalize kv % 5 = m5 at *
          go_wp2_with fail
          exact ⟨⟨k + 1, ln + 1, acc ++ endOf kv, by rw [← bs_append], by go_num, by go_num, hlt, by omega, by rw [List.length_append]; omega, hst.out, HU.out.alloc _⟩, by simp [intOf]; omega⟩
        · have e2 : ((((bs s)[k]'(by omega)).toNat : Int) == 10) = false := by
            rw [hget, beq_eq_false_iff_ne]; intro e; exact hc10 (by rw [← UInt8.toNat_inj]; exact_mod_cast e)
          by_cases hc32 : s[k] = 32
          · have e3 : ((((bs s)[k]'(by omega)).toNat : Int) == 32) = true := by rw [hget, hc32]; rfl
            have hst : Hid ((acc ++ sepOf kv) ++ trC (kfQ q) ln (s.drop (k + 1)) = trC (kfQ q) 0 s) := by
              show _ = _
              rw [← hsp2.out, trC, if_neg hc10, if_pos hc32, ← hes.out, List.append_assoc]
            have hdiv : (((kv : Nat) : Int)).tdiv 5 = ((kv / 5 : Nat) : Int) := by rw [Int.tdiv_eq_ediv_of_nonneg (by omega)]; rfl
            have hrem : (((kv / 5 : Nat) : Int)).tmod 4 = ((kv / 5 % 4 : Nat) : Int) := by rw [Int.tmod_eq_emod_of_nonneg (by omega)]; rfl
            have hm5 : ((kv / 5 % 4 : Nat) : Int) < 4 := by omega
            have hd255 : ((kv / 5 : Nat) : Int) < 256 := by omega
            have hcc : (wr.alloc (.cells sepsC 9)).cell? ⟨wr.heap.size, kv / 5 % 4, none⟩ = some (.string (bs (sepOf kv))) := by rw [cell_of_row _ _ _ _ _ _ (heap_alloc_new wr (.cells sepsC 9))]; exact hcs
            have hbe : (bs (sepOf kv)).size = (sepOf kv).length := bs_size _
            unfold sepsC at hcc
            clear hce hcs hget hc10 hc32 hlt256
            generalize kv / 5 % 4 = m5 at *
            generalize kv / 5 = m6 at *
            go_wp2_with fail
            exact ⟨⟨k + 1, ln, acc ++ sepOf kv, by rw [← bs_append], rfl, by go_num, hlt, by omega, by rw [List.length_append]; omega, hst.out, HU.out.alloc _⟩, by simp [intOf]; omega⟩
          · have e3 : ((((bs s)[k]'(by omega)).toNat : Int) == 32) = false := by
              rw [hget, beq_eq_false_iff_ne]; intro e; exact hc32 (by rw [← UInt8.toNat_inj]; exact_mod_cast e)
            have hst : Hid ((acc ++ [s[k]]) ++ trC (kfQ q) ln (s.drop (k + 1)) = trC (kfQ q) 0 s) := by
              show _ = _
              rw [← hsp2.out, trC, if_neg hc10, if_neg hc32, List.append_assoc]; rfl
            have hext : (bs s).extract k (k + 1) = bs [s[k]] := by
              rw [bs_extract, List.drop_eq_getElem_cons hlt, show k + 1 - k = 1 by omega]; rfl
            have hbe : (bs [s[k]]).size = 1 := rfl
            have hkb : (k : Int) + 1 ≤ ((bs s).size : Int) := by omega
            clear hce hcs hget hc10 hc32 hlt256
            go_wp2_with fail
            refine ⟨⟨k + 1, ln, acc ++ [s[k]], ?_, rfl, by go_num, hlt, by omega, by rw [List.length_append]; simp; omega, hst.out, HU.out⟩, by simp [intOf]; omega⟩
            rw [← bs_append]
    · obtain rfl : k = s.length := by omega
      have HE : Hid (acc = trC (kfQ q) 0 s) := by
        show _ = _
        rw [← HSP.out, List.drop_length, trC, List.append_nil]
      obtain ⟨ps', m1, r1⟩ := HS2.out (kfQ q)
      rw [← HE.out] at r1
      have M1 := Lib.hid m1
      have hv' : Hid (∀ p, p ∈ ps' → validP p.1) := fun p hp => by
        have h1 : p.1 ∈ ps'.map (·.1) := List.mem_map.2 ⟨p, hp, rfl⟩
        rw [M1.out] at h1
        obtain ⟨p0, h2, h3⟩ := List.mem_map.1 h1
        rw [← h3]; exact HG.out p0 h2
      have hl' : Hid (ps'.length = ps.length) := Lib.hid (by have := congrArg List.length M1.out; simpa using this)
      have UW := Lib.hid ((U2.out.trans U3.out).trans HU.out)
      have HR := Lib.hid (read_ba acc _ r1 (by omega) wr (UW.out.shaped HSH.out))
      clear m1 r1
      go_wp2_with fail
      refine HR.out.mono ?_
      rintro e1 w5 ⟨v5, rfl, o5, u5⟩
      obtain ⟨A5, c5, hv5⟩ := o5.len
      subst hv5
      have S1 := Lib.hid (same_ok _ _ ps ps' M1.out.symm (by rw [hl'.out]; omega) hv'.out w5 (HO.out.keep ((U3.out.trans HU.out).trans u5)) o5.rd)
      have U5 := Lib.hid (UW.out.trans u5)
      clear o5 u5
      go_wp2_with fail
      refine S1.out.mono ?_
      rintro e1 w6 ⟨rfl, n6, rfl⟩
      go_wp2_with fail
      go_ret
      exact ⟨rfl, U5.out.drewN n6⟩
end Go.Proofs.YtojdgdeefhndiaaGreatDoor
