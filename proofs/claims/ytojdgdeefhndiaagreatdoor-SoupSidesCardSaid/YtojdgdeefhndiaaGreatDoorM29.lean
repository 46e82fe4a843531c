/- Walks of the reference of the polygon files: Write, form 3. A string made a row of bytes, one byte turned, and made a string again. No condition. Walks of the laws of the polygon files: SoupBinary. Numbers as digits to the base 65536, in plain lists; and in the call's own memory. No condition. -/
import Derived.Test.YtojdgdeefhndiaaGreatDoorM28
import Derived.Test.YtojdgdeefhndiaaGreatDoorM27
import Derived.Laws.IdiomStrings
import Derived.Test.YtojdgdeefhndiaaGreatDoorM26
namespace Go.Proofs.YtojdgdeefhndiaaGreatDoor
open Go Go.RowKit Sp
set_option maxRecDepth 100000
set_option maxHeartbeats 1500000 in
theorem qWrite3_any (v : Value) (ps : List Poly) (hn : ps.length ≤ 100) (hv : ∀ p, p ∈ ps → validP p.1) (w : World) (h : RdPolys w v ps) :
    Calls Tryz.prog 14 #[.int .i64 3, v] w fun en w' => writeR (write3 ps) 0 w en w' := by
  obtain ⟨A, cap, rfl, hr⟩ := h
  have HR := Lib.hid hr
  have HV := Lib.hid hv
  have hlen : ((ps.length : Nat) : Int) ≤ 100 := by omega
  clear hr hv
  go_enter Tryz.func14, Tryz.ntmps14
  go_wp2_with fail
  go_loopw [6, 7] (fun i _ wr => ∃ k : Nat, i = .int .i64 k ∧ k ≤ ps.length ∧ Upd noBlk w wr) (fun i _ _ => ps.length - (intOf i).toNat)
  case atStart => exact ⟨0, rfl, Nat.zero_le _, Upd.refl _ _⟩
  case round =>
    obtain ⟨k, rfl, hk, hu⟩ := hrel
    have HU := Lib.hid hu
    clear hu
    by_cases hlt : k < ps.length
    · have hlt' : ((k : Nat) : Int) < ((ps.length : Nat) : Int) := by omega
      obtain ⟨b, off, rfl, f1⟩ := HR.out (by omega)
      obtain ⟨pv, c10, c11, r1⟩ := f1 k hlt
      have d0 := HU.out.cell c10 id
      have d1 := HU.out.cell c11 id
      have hw0 := wrongS_valid (HV.out _ (List.getElem_mem hlt))
      have HW := Lib.hid (qwrong_any pv ps[k].2 ps[k].1 wr (r1.keep HU.out))
      rw [hw0] at HW
      clear f1 c10 c11 r1 hw0
      generalize ps[k] = pk at *
      go_wp2_with fail
      refine HW.out.mono ?_
      rintro e1 w2 ⟨rfl, u2⟩
      go_wp2_with fail
      exact ⟨⟨k + 1, by go_num, hlt, HU.out.trans u2⟩, by simp [intOf]; omega⟩
    · obtain rfl : k = ps.length := by omega
      have HB := Lib.hid (qbytes_any ps.length 4 (by omega) (by omega) wr)
      go_wp2_with fail
      refine HB.out.mono ?_
      rintro e1 w2 ⟨rfl, u2⟩
      have U2 := Lib.hid (HU.out.trans u2)
      have H0 : Hid (write3 ps = magic ++ leB 4 ps.length ++ bodyB (ps.drop 0)) := rfl
      have HLT : Hid ((write3 ps).length ≤ 100000) := by have := (write3_length ps HV.out).2; show _ ≤ _; omega
      clear u2 HB
      go_wp2_with fail
      go_loopw [8, 9, 10, 11] (fun sv i _ _ wr' => ∃ (k : Nat) (acc : Bytes), sv = .string (bs acc) ∧ i = .int .i64 k ∧ k ≤ ps.length ∧ write3 ps = acc ++ bodyB (ps.drop k) ∧ Upd noBlk w wr') (fun _ i _ _ _ => ps.length - (intOf i).toNat)
      case atStart => exact ⟨0, magic ++ leB 4 ps.length, by rw [← bs_append]; rfl, rfl, Nat.zero_le _, H0.out, U2.out⟩
      case round =>
        obtain ⟨k, acc, rfl, rfl, hk, hsp, hu⟩ := hrel
        have HU := Lib.hid hu
        have HSP := Lib.hid hsp
        have hsz : (bs acc).size ≤ 100000 := by rw [bs_size]; have := HLT.out; rw [HSP.out, List.length_append] at this; omega
        clear hu hsp
        by_cases hlt : k < ps.length
        · have hlt' : ((k : Nat) : Int) < ((ps.length : Nat) : Int) := by omega
          obtain ⟨b, off, rfl, f1⟩ := HR.out (by omega)
          obtain ⟨pv, c10, c11, r1⟩ := f1 k hlt
          have d0 := HU.out.cell c10 id
          have HBD := Lib.hid (bodyB_drop hlt)
          have HVK := Lib.hid (HV.out _ (List.getElem_mem hlt))
          have r2 := r1.keep HU.out
          clear f1 c10 c11 r1
          generalize ps[k] = pk at *
          obtain ⟨pts, place⟩ := pk
          obtain ⟨B, cp, rfl, e1⟩ := r2
          have E1 := Lib.hid e1
          clear e1
          have hpl : ((pts.length : Nat) : Int) ≤ 64 := by have := HVK.out.2.1; simp only at this; omega
          have HB := Lib.hid (qbytes_any pts.length 1 (by omega) (by omega) wr)
          simp only at d0
          go_wp2_with fail
          refine HB.out.mono ?_
          rintro e1 w3 ⟨rfl, u3⟩
          have U3 := Lib.hid u3
          have H1 : Hid (write3 ps = acc ++ leB 1 pts.length ++ (ptsB (pts.drop 0) ++ bodyB (ps.drop (k + 1)))) := by show _ = _; rw [HSP.out, HBD.out, polyB]; simp
          have hsb : (bs (leB 1 pts.length)).size ≤ 1 := by rw [bs_size, leB_length]; omega
          clear u3 HB
          go_wp2_with fail
          obtain ⟨wo, rfl⟩ : ∃ wo : World, wo = wr := ⟨_, rfl⟩
          go_loopw [8, 11] (fun sv i wr' => ∃ (j : Nat) (acc2 : Bytes), sv = .string (bs acc2) ∧ i = .int .i64 j ∧ j ≤ pts.length ∧ write3 ps = acc2 ++ (ptsB (pts.drop j) ++ bodyB (ps.drop (k + 1))) ∧ Upd noBlk wo wr') (fun _ i _ => pts.length - (intOf i).toNat)
          case atStart => exact ⟨0, acc ++ leB 1 pts.length, by rw [bs_append], rfl, Nat.zero_le _, H1.out, U3.out⟩
          case round =>
            obtain ⟨j, acc2, rfl, rfl, hj, hsp, hu⟩ := hrel
            have HU4 := Lib.hid hu
            have HS4 := Lib.hid hsp
            have hsz2 : (bs acc2).size ≤ 100000 := by rw [bs_size]; have := HLT.out; rw [HS4.out, List.length_append] at this; omega
            clear hu hsp
            by_cases hjt : j < pts.length
            · have hjt' : ((j : Nat) : Int) < ((pts.length : Nat) : Int) := by omega
              obtain ⟨d1, p1, rfl, g1⟩ := E1.out (by omega)
              obtain ⟨x1, x2, x3⟩ := (g1 j hjt).keep HU4.out
              have HPD := Lib.hid (ptsB_drop hjt)
              have hin : inR pts[j] = true := List.all_eq_true.1 HVK.out.2.2 _ (List.getElem_mem hjt)
              clear g1
              generalize pts[j] = pt at *
              obtain ⟨px, py, pz⟩ := pt
              obtain ⟨i1, i2, i3, i4, i5, i6⟩ := (inR_iff _ _ _).1 hin
              obtain ⟨nx, rfl⟩ : ∃ n : Nat, px = n := ⟨px.toNat, by omega⟩
              obtain ⟨ny, rfl⟩ : ∃ n : Nat, py = n := ⟨py.toNat, by omega⟩
              obtain ⟨nz, rfl⟩ : ∃ n : Nat, pz = n := ⟨pz.toNat, by omega⟩
              simp only at x1 x2 x3
              have X1 := Lib.hid x1
              have X2 := Lib.hid x2
              have X3 := Lib.hid x3
              clear hin x1 x2 x3
              go_wp2_with fail
              refine wp_region_tree 22 (OT.sures [0, 1, 2, 3, 4, 5, 8, 9, 10, 11, 12, 15, 16, 17, 18, 19] (.run 6 (.sure 7 (.run 13 (.sure 14 (.run 20 (.sure 21 .nil))))))) (fun w' => Upd noBlk wr w') (by kernel_rfl) (by kernel_rfl) (fun c a d v w h => by cases d <;> exact h) (Upd.refl _ _).drew ?_
              simp only [OT.sures]
              iterate 16 (apply wpT_sure rfl rfl; focus (intro w' hw'; have y1 := hw'.cell X1.out id; have y2 := hw'.cell X2.out id; have y3 := hw'.cell X3.out id; go_simp; rfl))
              refine wpT_run (fun w' => Upd noBlk wr w') (fun _ h => h) rfl (fun K hK => ?_)
              go_simp
              refine (qbytes_any nx 3 (by omega) (by omega) _).mono ?_
              rintro e1 w4 ⟨rfl, u4⟩
              refine hK _ _ ⟨(Upd.refl _ _).drew.trans u4, ?_⟩
              clear hK K
              have U4 := Lib.hid ((Upd.refl noBlk wr).drew.trans u4)
              have hs1 : (bs (leB 3 nx)).size ≤ 3 := by rw [bs_size, leB_length]; omega
              have hs2 : (bs (leB 3 ny)).size ≤ 3 := by rw [bs_size, leB_length]; omega
              have hs3 : (bs (leB 3 nz)).size ≤ 3 := by rw [bs_size, leB_length]; omega
              refine wpT_sure rfl rfl (.string (bs acc2 ++ bs (leB 3 nx))) (fun w' _ => by go_simp; omega) ?_
              refine wpT_run (fun w' => Upd noBlk wr w') (fun _ h => h) rfl (fun K hK => ?_)
              go_simp
              refine (qbytes_any ny 3 (by omega) (by omega) _).mono ?_
              rintro e1 w5 ⟨rfl, u5⟩
              refine hK _ _ ⟨U4.out.trans u5, ?_⟩
              clear hK K
              have U5 := Lib.hid (U4.out.trans u5)
              refine wpT_sure rfl rfl (.string (bs acc2 ++ bs (leB 3 nx) ++ bs (leB 3 ny))) (fun w' _ => by go_simp; omega) ?_
              refine wpT_run (fun w' => Upd noBlk wr w') (fun _ h => h) rfl (fun K hK => ?_)
              go_simp
              refine (qbytes_any nz 3 (by omega) (by omega) _).mono ?_
              rintro e1 w6 ⟨rfl, u6⟩
              refine hK _ _ ⟨U5.out.trans u6, ?_⟩
              clear hK K
              have U6 := Lib.hid (U5.out.trans u6)
              refine wpT_sure rfl rfl (.string (bs acc2 ++ bs (leB 3 nx) ++ bs (leB 3 ny) ++ bs (leB 3 nz))) (fun w' _ => by go_simp; omega) ?_
              refine wpT_nil ?_
              simp only [List.drop_succ_cons, List.drop_zero]
              go_wp2_with fail
              refine ⟨⟨j + 1, acc2 ++ ptB ((nx : Int), (ny : Int), (nz : Int)), ?_, by go_num, hjt, ?_, HU4.out.trans U6.out⟩, by simp [intOf]; omega⟩
              · simp only [bs_append, ptB, Int.toNat_natCast, List.append_assoc]
              · rw [HS4.out, HPD.out]; simp only [List.append_assoc]
            · obtain rfl : j = pts.length := by omega
              go_wp2_with fail
              refine ⟨⟨k + 1, acc2, rfl, by go_num, hlt, ?_, HU.out.trans HU4.out⟩, by simp [intOf]; omega⟩
              rw [HS4.out, List.drop_eq_nil_of_le (Nat.le_refl _)]; rfl
        · obtain rfl : k = ps.length := by omega
          go_wp2_with fail
          go_ret2
          show writeR (write3 ps) 0 w _ _
          refine ⟨?_, HU.out⟩
          rw [HSP.out, List.drop_eq_nil_of_le (Nat.le_refl _)]
          simp [bodyB]
end Go.Proofs.YtojdgdeefhndiaaGreatDoor
namespace Go.Proofs.YtojdgdeefhndiaaGreatDoor
open Go Go.RowKit Sp
set_option maxRecDepth 100000
/-- A row of bytes at a block. -/
def RowB (w : World) (N : Nat) (l : Bytes) : Prop := ∀ j (h : j < l.length), w.cell? ⟨N, j, none⟩ = some (.int .u8 (l[j].toNat : Nat)) ∧ w.frozen? ⟨N, j, none⟩ = false
theorem bytes_of (l : Bytes) (w : World) : ∃ cap W, (convert 9 33 (.string (bs l))).run Tryz.prog w = .ok (.slice (some ⟨w.heap.size, 0, none⟩) l.length cap) W ∧ Upd noBlk w W ∧ w.heap.size < W.heap.size ∧ RowB W w.heap.size l := by
  have h := run_bytes_of_string (P := Tryz.prog) w 9 33 5 (bs l) Tryz.underlying9 Tryz.underlying33 Tryz.underlying5
  rw [bs_size] at h
  generalize grownCap w l.length 0 5 = cap at h
  refine ⟨cap, _, h, ((Upd.refl _ _).drew).alloc _, by simp, fun j hj => ?_⟩
  have hg : (w.drew.alloc (.cells (bytesRow (bs l) cap) 5 ((bytesRow (bs l) cap).size, (bytesRow (bs l) cap).size + 1))).heap[w.heap.size]? = some (.cells (bytesRow (bs l) cap) 5 ((bytesRow (bs l) cap).size, (bytesRow (bs l) cap).size + 1)) := heap_alloc_new w.drew _
  have hs : j < (bs l).data.size := by unfold bs; simpa using hj
  constructor
  · simp only [World.cell?, hg]
    rw [bytesRow_at (bs l) cap j hs]
    simp [bs]
  · simp only [World.frozen?, hg]
    have : j < (bytesRow (bs l) cap).size := by unfold bytesRow; rw [Array.size_append, Array.size_map]; omega
    simp; omega
theorem RowB.set {w : World} {N k : Nat} {l : Bytes} (h : RowB w N l) (hk : k < l.length) (c : UInt8) : RowB (w.setCell ⟨N, k, none⟩ (.int .u8 (c.toNat : Nat))) N (l.set k c) := by
  intro j hj
  rw [List.length_set] at hj
  obtain ⟨h1, h2⟩ := h j hj
  refine ⟨?_, ?_⟩
  · by_cases e : j = k
    · subst e
      rw [World.cell?_setCell_same _ _ _ h1]; simp
    · rw [List.getElem_set_ne (Ne.symm e), ← h1, World.cell?_setCell_other _ _ _ _ (fun x => e (by cases x; rfl))]
  · rw [← h2]; simp
theorem RowB.conv {w : World} {N n cap : Nat} {l : Bytes} (hn : n = l.length) (h : RowB w N l) : (convert 33 9 (.slice (some ⟨N, 0, none⟩) n cap)).run Tryz.prog w = .ok (.string (bs l)) w := by
  subst hn
  exact run_convert_bytes_back (P := Tryz.prog) w 33 9 5 ⟨N, 0, none⟩ cap l Tryz.underlying33 Tryz.underlying5 Tryz.underlying9 (fun j hj => by
    have := (h j hj).1
    by_cases e : j = 0
    · subst e; simpa [Addr.add] using this
    · simpa [Addr.add, e] using this)
end Go.Proofs.YtojdgdeefhndiaaGreatDoor
namespace Go.Proofs.YtojdgdeefhndiaaGreatDoor
open Go Go.RowKit Sp
set_option maxRecDepth 100000
theorem goodPs_valid {ps : List Poly} (h : goodPs ps) : ∀ p, p ∈ ps → validP p.1 := fun p hp => (h p hp).2
set_option maxHeartbeats 1000000 in
theorem lawSoupBinary_c (A : Option Addr) (cap : Nat) (l : List Quad) (x y z : Int) (t : ByteArray) (hl : l.length ≤ cap) (hc : cap ≤ maxLen) (_hf : fits x ∧ fits y ∧ fits z) (ht : t.size ≤ maxLen) (w : World) (hsh : w.ShapedOpen Tryz.prog) (h : RdQ w A l) :
    Calls Tryz.prog 4 #[.slice A l.length cap, .agg #[.int .i64 x, .int .i64 y, .int .i64 z], .string t] w fun en w' => en = .returned (.bool true) ∧ Upd noBlk w w' := by
  unfold maxLen at ht
  have H := Lib.hid h
  have HSH := Lib.hid hsh
  have HC := Lib.hid hc
  have HUA : Hid (Upd noBlk w (w.alloc (.cells #[.int .i64 x, .int .i64 y, .int .i64 z] 27))) := (Upd.refl _ _).alloc _
  have HBA : Hid ((w.alloc (.cells #[.int .i64 x, .int .i64 y, .int .i64 z] 27)).heap[w.heap.size]? = some (.cells #[.int .i64 x, .int .i64 y, .int .i64 z] 27)) := heap_alloc_new _ _
  have H1 := Lib.hid (sanity_any (w.alloc (.cells #[.int .i64 x, .int .i64 y, .int .i64 z] 27)) (HUA.out.shaped hsh))
  clear h hsh hc
  go_enter Tryz.func4, Tryz.ntmps4
  go_wp2_with fail
  refine H1.out.mono ?_
  rintro e1 w1 ⟨rfl, u1⟩
  have U1 := Lib.hid (HUA.out.trans u1)
  have B1 := Lib.hid (u1.heap HBA.out id)
  clear u1
  go_wp2_with fail
  refine (qMade_any A cap l hl HC.out w1 (H.out.keep U1.out)).mono ?_
  rintro e1 w2 ⟨v, ps, rfl, hps, hg, ho, u2⟩
  have U2 := Lib.hid (U1.out.trans u2)
  have B2 := Lib.hid (u2.heap B1.out id)
  have HG := Lib.hid (goodPs_valid hg)
  have HO := Lib.hid ho.rd
  clear u2 hg ho
  go_wp2_with fail
  refine (qWrite3_any v ps (by omega) HG.out w2 HO.out).mono ?_
  rintro e1 w3 ⟨rfl, u3⟩
  have U3 := Lib.hid (U2.out.trans u3)
  have B3 := Lib.hid (u3.heap B2.out id)
  obtain ⟨hl8, hlm⟩ := write3_length ps HG.out
  have hpre : Hid (∃ r, write3 ps = magic ++ r) := ⟨leB 4 ps.length ++ bodyB ps, by unfold write3; simp⟩
  have hbz : (bs (write3 ps)).size = (write3 ps).length := bs_size _
  clear u3
  generalize write3 ps = s at *
  obtain ⟨cp, W, hcv, uW, hltW, hrow⟩ := bytes_of s w3
  have UW := Lib.hid (U3.out.trans uW)
  have BW := Lib.hid (uW.heap B3.out id)
  have e0 : W.cell? ⟨w.heap.size, 0, none⟩ = some (.int .i64 x) := by simp [World.cell?, BW.out]
  have e1 : W.cell? ⟨w.heap.size, 1, none⟩ = some (.int .i64 y) := by simp [World.cell?, BW.out]
  have hlw : w.heap.size < w3.heap.size := by have := U3.out.size; have := lt_of_heap B3.out; omega
  obtain ⟨m, hm⟩ : ∃ m : Nat, x % ((s.length : Int) - 4) = m := ⟨(x % ((s.length : Int) - 4)).toNat, by have := Int.emod_nonneg x (show ((s.length : Int) - 4) ≠ 0 by omega); omega⟩
  have hm2 : m + 4 < s.length := by have := Int.emod_lt_of_pos x (show 0 < ((s.length : Int) - 4) by omega); omega
  obtain ⟨c, hw8⟩ : ∃ c : UInt8, IntKind.u8.wrap y = ((c.toNat : Nat) : Int) := by
    refine ⟨UInt8.ofNat (y % 256).toNat, ?_⟩
    have : IntKind.u8.wrap y = y % 256 := by simp [IntKind.wrap_u8]
    rw [this]
    have h1 := Int.emod_nonneg y (show (256 : Int) ≠ 0 by decide)
    have h2 := Int.emod_lt_of_pos y (show (0 : Int) < 256 by decide)
    simp; omega
  have hrowc := hrow (4 + m) (by omega)
  obtain ⟨r1, r2⟩ := hrowc
  have HROW := Lib.hid hrow
  clear uW hrow
  have hb2 : RowB (W.setCell ⟨w3.heap.size, 4 + m, none⟩ (.int .u8 (c.toNat : Nat))) w3.heap.size (s.set (4 + m) c) := HROW.out.set (by omega) _
  have hcv2 := RowB.conv (n := s.length) (cap := cp) (by rw [List.length_set]) hb2
  have UW2 : Hid (Upd noBlk w (W.setCell ⟨w3.heap.size, 4 + m, none⟩ (.int .u8 (c.toNat : Nat)))) := UW.out.setCell (fun h => by simp only at h; omega) _
  have BW2 : Hid ((W.setCell ⟨w3.heap.size, 4 + m, none⟩ (.int .u8 (c.toNat : Nat))).heap[w.heap.size]? = some (.cells #[.int .i64 x, .int .i64 y, .int .i64 z] 27)) := heap_setCell_ne _ BW.out (by omega)
  have htx : Hid ((t.extract 0 (min ((t.size : Nat) : Int) 30).toNat).size ≤ 30) := by show _ ≤ _; rw [ByteArray.size_extract]; omega
  have hcl : ((s.set (4 + m) c).length : Int) = s.length := by rw [List.length_set]
  clear hb2
  go_wp2_with (go_at_call 16; refine (Mod_any _ _ (by omega) (by omega) _).mono ?_; rintro e1 w1 ⟨rfl, rfl⟩)
  refine (agrees_any (s.set (4 + m) c) (by rw [List.length_set]; omega) _ (UW2.out.shaped HSH.out)).mono ?_
  rintro e1 w4 ⟨rfl, u4⟩
  have U4 := Lib.hid (UW2.out.trans u4)
  have b4 := u4.heap BW2.out id
  have e2 : w4.cell? ⟨w.heap.size, 2, none⟩ = some (.int .i64 z) := by simp [World.cell?, b4]
  clear u4 b4 hcv hcv2 e0 e1
  obtain ⟨m5, hm5⟩ : ∃ m : Nat, z % ((s.length : Int) + 1) = m := ⟨(z % ((s.length : Int) + 1)).toNat, by have := Int.emod_nonneg z (show ((s.length : Int) + 1) ≠ 0 by omega); omega⟩
  have hm6 : m5 ≤ s.length := by have := Int.emod_lt_of_pos z (show 0 < ((s.length : Int) + 1) by omega); omega
  go_wp2_with (go_at_call 16; refine (Mod_any _ _ (by omega) (by omega) _).mono ?_; rintro e1 w1 ⟨rfl, rfl⟩)
  refine (agrees_ba _ (by rw [ByteArray.size_extract]; omega) _ (U4.out.shaped HSH.out)).mono ?_
  rintro e1 w5 ⟨rfl, u5⟩
  have U5 := Lib.hid (U4.out.trans u5)
  clear u5
  have hx := htx.out
  go_wp2_with fail
  refine (agrees_ba _ (by rw [ba_size]; omega) _ (U5.out.shaped HSH.out)).mono ?_
  rintro e1 w6 ⟨rfl, u6⟩
  have U6 := Lib.hid (U5.out.trans u6)
  clear u6
  go_wp2_with fail
  refine (agrees_ba _ (by rw [ba_size]; show 4 + _ ≤ _; omega) _ (U6.out.shaped HSH.out)).mono ?_
  rintro e1 w7 ⟨rfl, u7⟩
  have U7 := Lib.hid (U6.out.trans u7)
  clear u7
  go_wp2_with fail
  refine (agrees_ba _ (by rw [ba_size]; show 8 + _ ≤ _; omega) _ (U7.out.shaped HSH.out)).mono ?_
  rintro e1 w8 ⟨rfl, u8⟩
  have U8 := Lib.hid (U7.out.trans u8)
  clear u8
  go_wp2_with fail
  go_ret
  exact ⟨rfl, U8.out⟩
end Go.Proofs.YtojdgdeefhndiaaGreatDoor
namespace Go.Proofs.YtojdgdeefhndiaaGreatDoor
open Go Go.RowKit Sp
namespace Bg
/-- The digits of a number below 2^32. -/
def dg (n : Nat) : List Nat := if n = 0 then [] else if n < 65536 then [n] else [n % 65536, n / 65536]
def valL : List Nat → Nat
  | [] => 0
  | a :: r => a + 65536 * valL r
def trimS (l : List Nat) : List Nat := (l.reverse.dropWhile (· == 0)).reverse
theorem trimS_nil : trimS [] = [] := rfl
theorem trimS_snoc0 (l : List Nat) : trimS (l ++ [0]) = trimS l := by unfold trimS; simp
theorem trimS_snoc (l : List Nat) {a : Nat} (h : a ≠ 0) : trimS (l ++ [a]) = l ++ [a] := by unfold trimS; simp [h]
theorem trim1 (a : Nat) (h : a < 65536) : trimS [a] = dg a := by
  unfold dg
  by_cases h0 : a = 0
  · subst h0; rw [if_pos rfl]; exact trimS_snoc0 []
  · rw [if_neg h0, if_pos h]; exact trimS_snoc [] h0
theorem trim2 (a b : Nat) (ha : a < 65536) (hb : b < 65536) : trimS [a, b] = dg (a + 65536 * b) := by
  by_cases h0 : b = 0
  · subst h0
    rw [show ([a, 0] : List Nat) = [a] ++ [0] from rfl, trimS_snoc0, trim1 a ha]; simp
  · rw [show ([a, b] : List Nat) = [a] ++ [b] from rfl, trimS_snoc [a] h0]
    unfold dg
    rw [if_neg (by omega), if_neg (by omega)]
    have h1 : (a + 65536 * b) % 65536 = a := by omega
    have h2 : (a + 65536 * b) / 65536 = b := by omega
    rw [h1, h2]; rfl
theorem dg0 : dg 0 = [] := rfl
theorem dg1 {n : Nat} (h0 : n ≠ 0) (h : n < 65536) : dg n = [n] := by unfold dg; rw [if_neg h0, if_pos h]
theorem dg2 {n : Nat} (h : 65536 ≤ n) : dg n = [n % 65536, n / 65536] := by unfold dg; rw [if_neg (by omega), if_neg (by omega)]
theorem dg_cases (n : Nat) : (n = 0 ∧ dg n = []) ∨ ((n ≠ 0 ∧ n < 65536) ∧ dg n = [n]) ∨ (65536 ≤ n ∧ dg n = [n % 65536, n / 65536]) := by
  by_cases h0 : n = 0
  · subst h0; exact .inl ⟨rfl, rfl⟩
  · by_cases h : n < 65536
    · exact .inr (.inl ⟨⟨h0, h⟩, dg1 h0 h⟩)
    · exact .inr (.inr ⟨by omega, dg2 (by omega)⟩)
theorem dg_le (n : Nat) : (dg n).length ≤ 2 := by
  rcases dg_cases n with ⟨_, h⟩ | ⟨_, h⟩ | ⟨_, h⟩ <;> rw [h] <;> simp
theorem dg_val {n : Nat} : valL (dg n) = n := by
  rcases dg_cases n with ⟨h0, h⟩ | ⟨h0, h⟩ | ⟨h0, h⟩ <;> rw [h] <;> simp [valL] <;> omega
theorem dg_lt {n : Nat} (hn : n < 4294967296) : ∀ d, d ∈ dg n → d < 65536 := by
  intro d hd
  rcases dg_cases n with ⟨h0, h⟩ | ⟨h0, h⟩ | ⟨h0, h⟩ <;> rw [h] at hd
  · cases hd
  · rw [List.mem_singleton] at hd; omega
  · simp at hd; omega
/-- Digits below the base, at most two: without zeros behind they are those of their value. -/
theorem trim_dg {l : List Nat} (hl : l.length ≤ 2) (h : ∀ d, d ∈ l → d < 65536) : trimS l = dg (valL l) := by
  match l, hl with
  | [], _ => rfl
  | [a], _ => rw [trim1 a (h a (by simp))]; simp [valL]
  | [a, b], _ => rw [trim2 a b (h a (by simp)) (h b (by simp))]; simp [valL]
  | _ :: _ :: _ :: _, hl => exact absurd hl (by simp)
/-- A number in decimal. -/
def dec0 (n : Nat) (s : Bytes) : Bytes := if h : n = 0 then s else dec0 (n / 10) (UInt8.ofNat (48 + n % 10) :: s)
termination_by n
decreasing_by omega
def dec (n : Nat) : Bytes := if n = 0 then [48] else dec0 n []
theorem dec0_step {n : Nat} (h : 0 < n) (s : Bytes) : dec0 n s = dec0 (n / 10) (UInt8.ofNat (48 + n % 10) :: s) := by
  conv => lhs; rw [dec0]
  rw [dif_neg (by omega)]
theorem dec0_zero (s : Bytes) : dec0 0 s = s := by rw [dec0, dif_pos rfl]
/-- The bytes of a number below 2^24, the greatest first. -/
def mag (n : Nat) : Bytes := if n = 0 then [] else if n < 256 then [UInt8.ofNat n] else if n < 65536 then [UInt8.ofNat (n / 256), UInt8.ofNat (n % 256)] else [UInt8.ofNat (n / 65536), UInt8.ofNat (n % 65536 / 256), UInt8.ofNat (n % 256)]
end Bg
open Bg
def intV (n : Nat) : Value := .int .i64 n
/-- A row of numbers in memory from a block on. -/
def OwnN (base : Nat) (w : World) (v : Value) (l : List Nat) : Prop := w.ownsRow base 3 1 v l.length (l.map intV)
theorem OwnN.nil (base : Nat) (w : World) : OwnN base w (.slice none 0 0) [] := World.ownsRow_nil _ _ _ _
theorem OwnN.upd {w w' : World} {base : Nat} {v : Value} {l : List Nat} (h : OwnN base w v l) (hu : Upd noBlk w w') : OwnN base w' v l := ownsRow_upd h hu
theorem OwnN.mono {w : World} {base base' : Nat} {v : Value} {l : List Nat} (h : OwnN base w v l) (hb : base' ≤ base) : OwnN base' w v l := ownsRow_base h hb
theorem OwnN.keep {F : Nat → Prop} {w w' : World} {base : Nat} {v : Value} {l : List Nat} (h : OwnN base w v l) (hu : Upd F w w') (hv : ∀ k, F k → v.ownBlock ≠ some k) : OwnN base w' v l :=
  ownsRow_keep h (fun g hg => hu.block g (h.lt g hg).2 (fun hf => hv g hf hg))
theorem OwnN.form {w : World} {base : Nat} {v : Value} {l : List Nat} (h : OwnN base w v l) : ∃ A cap, v = .slice A l.length cap := own_form h
/-- The cells of a row. -/
theorem OwnN.cells {w : World} {base : Nat} {v : Value} {l : List Nat} (h : OwnN base w v l) (h0 : 0 < l.length) : ∃ g cap, v = .slice (some ⟨g, 0, none⟩) l.length cap ∧ (∀ j (hj : j < l.length), w.cell? ⟨g, j, none⟩ = some (.int .i64 (l[j] : Nat))) ∧ l.length ≤ cap ∧ cap ≤ maxLen ∧ base ≤ g ∧ g < w.heap.size := by
  rcases h.2 with ⟨_, h1⟩ | ⟨g, cap, cur, rfl, hb, hg, h1, h2, _⟩
  · omega
  · refine ⟨g, cap, rfl, fun j hj => ?_, h1, h2, hb, lt_of_heap hg⟩
    rw [World.ownsRow.cellAt h j (by omega), List.getElem?_map, List.getElem?_eq_getElem hj]; rfl
/-- The same row with fewer places. -/
theorem OwnN.take {w : World} {base g cap : Nat} {l : List Nat} {n : Nat} (h : OwnN base w (.slice (some ⟨g, 0, none⟩) n cap) l) (hn : n = l.length) (k : Nat) (hk : k ≤ l.length) : OwnN base w (.slice (some ⟨g, 0, none⟩) k cap) (l.take k) := by
  subst hn
  refine ⟨by simp, ?_⟩
  rcases h.2 with ⟨e, _⟩ | ⟨g', cap', cur, e, hb, hg, h1, h2, h3, h4⟩
  · cases e
  · cases e
    refine .inr ⟨g, cap, cur, by rw [List.length_take, Nat.min_eq_left hk], hb, hg, by rw [List.length_take]; omega, h2, h3, ?_⟩
    rw [List.length_take, Nat.min_eq_left hk, List.map_take, ← h4, List.take_take]
    congr 1; omega
theorem info_in : (Tryz.prog.info? 3).map (fun i => (i.zero, i.size, i.bytes)) = some (some (.int .i64 0), 1, 8) := by kernel_rfl
/-- One number more, the row from a block on. -/
theorem append_n {w : World} {base : Nat} (hb : base ≤ w.heap.size) {v : Value} {l : List Nat} (h : OwnN base w v l) (c : Nat) (hl : l.length < 4294967296) :
    ∃ g cap w', (Builtin.append_ #[86, 86] 86 #[v, .slice (some ⟨w.heap.size, 0, none⟩) 1 1]).run Tryz.prog (w.alloc (.cells #[.int .i64 c] 3)) = .ok (.slice (some ⟨g, 0, none⟩) (l.length + 1) cap) w' ∧
      OwnN base w' (.slice (some ⟨g, 0, none⟩) (l.length + 1) cap) (l ++ [c]) ∧ Upd (fun k => v.ownBlock = some k) w w' := by
  obtain ⟨i0, hi0, hz0, hz1, hz2⟩ := info_parts info_in
  obtain ⟨g, cap, w', r, o, gr, _, _⟩ := append_one (P := Tryz.prog) w 86 86 3 i0 _ 1 8 Tryz.underlying86 hi0 hz0 hz1 hz2 rfl (by omega) h hb [.int .i64 c] rfl (by simp [Value.oneCell']) (by unfold maxLen; omega) (by omega)
  refine ⟨g, cap, w', r, ?_, (upd_of_grown (World.grownBy_alloc w _ v.ownBlock) (fun j hj _ => hj)).trans (upd_of_grown gr (fun j hj _ => hj))⟩
  unfold OwnN
  rw [List.map_append, List.length_append]
  exact o
end Go.Proofs.YtojdgdeefhndiaaGreatDoor
