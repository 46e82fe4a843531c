/- Parts: Walks of the reference of packets: steps of the state beside a writer; a corner is written. No condition. Walks of the reference's meshes: a corner is put into an ordered list; the corners of a list. No condition. Walks of the reference's meshes: edges, how often one occurs. No condition. -/
import Derived.Test.YtcikldoaidmnhaaGreatDoorQClus10
import Derived.Test.YtcikldoaidmnhaaGreatDoorQClus14
import Derived.Test.YtcikldoaidmnhaaGreatDoorQClus30
import Derived.Test.YtcikldoaidmnhaaGreatDoorQClus31
import Derived.Test.YtcikldoaidmnhaaGreatDoorQClus32
namespace Go.Proofs.YtcikldoaidmnhaaGreatDoor
open Go Go.RowKit Pk Pc
set_option maxRecDepth 100000
theorem JW.find {D : Nat → Prop} {w0 wr : World} {b : Nat} {S : Wk} {bw : Nat} {l : Pk.Bits} (h : JW D w0 wr b S bw l) (p : Pt) (hl : S.known.length ≤ 1000000) :
  Calls Tryz.prog 111 #[.pointer (some ⟨b, 0, none⟩), ptV p] wr fun en w' => en = .returned (.int .i64 (findI S.known p)) ∧ Upd noBlk wr w' := by
 obtain ⟨⟨G, F, h1, h2, h3, h4⟩, h5⟩ := h
 exact jfind_any b S G p hl wr h1
theorem JW.last {D : Nat → Prop} {w0 wr : World} {b : Nat} {S : Wk} {bw : Nat} {l : Pk.Bits} (h : JW D w0 wr b S bw l) (hl : S.known.length ≤ 1000000) :
  Calls Tryz.prog 63 #[.pointer (some ⟨b, 0, none⟩)] wr fun en w' => en = .returned (ptV (lastK S.known)) ∧ Upd noBlk wr w' := by
 obtain ⟨⟨G, F, h1, h2, h3, h4⟩, h5⟩ := h
 exact jlast_any b S G hl wr h1
theorem JW.visit {D : Nat → Prop} {w0 wr : World} {b : Nat} {S : Wk} {bw : Nat} {l : Pk.Bits} (h : JW D w0 wr b S bw l) (t : Tri) (first : Nat) (hf : first = 0 ∨ first = 1) (hl : S.tris.length ≤ 100000) (hg : S.gates.length ≤ 1000000) :
  Calls Tryz.prog 62 #[.pointer (some ⟨b, 0, none⟩), triV t, .int .i64 first] wr fun en w' => en = .returned (.tuple #[]) ∧ JW D w0 w' b (S.visit t first) bw l := by
 obtain ⟨⟨G, F, h1, h2, h3, h4⟩, h5⟩ := h
 refine (jvisit_any b S G t first hf hl hg wr h1).mono ?_
 rintro e w' ⟨rfl, h'⟩
 exact ⟨rfl, JW.stepS h2 h3 h4 h5 h'⟩
theorem JW.next {D : Nat → Prop} {w0 wr : World} {b : Nat} {S : Wk} {bw : Nat} {l : Pk.Bits} (h : JW D w0 wr b S bw l) (hl : S.tris.length ≤ 100000) (hg : S.gates.length ≤ 1000000) :
  Calls Tryz.prog 57 #[.pointer (some ⟨b, 0, none⟩)] wr fun en w' => ∃ g, en = .returned (.tuple #[gateV g, .bool (nextB S.tris S.gates)]) ∧ (nextB S.tris S.gates = true → g = nextV S.tris S.gates) ∧ JW D w0 w' b ⟨S.known, S.tris, restG S.tris S.gates⟩ bw l := by
 obtain ⟨⟨G, F, h1, h2, h3, h4⟩, h5⟩ := h
 refine (jnext_any b S G hl hg wr h1).mono ?_
 rintro e w' ⟨g, rfl, hg, h'⟩
 exact ⟨g, rfl, hg, JW.stepS h2 h3 h4 h5 h'⟩
/-- What is known, as a slice in the state's block. -/
theorem JW.state {D : Nat → Prop} {w0 wr : World} {b : Nat} {S : Wk} {bw : Nat} {l : Pk.Bits} (h : JW D w0 wr b S bw l) : ∃ AK cK AT cT vG, wr.heap[b]? = some (.cells #[.slice AK S.known.length cK, .slice AT S.tris.length cT, vG] 120 (0, 0)) ∧ S.known.length ≤ cK ∧ S.tris.length ≤ cT ∧ kTri.Rd wr (.slice AT S.tris.length cT) S.tris := by
 obtain ⟨⟨G, F, ⟨vK, vT, vG, h1, rfl⟩, h2, h3, h4⟩, h5⟩ := h
 obtain ⟨AK, cK, rfl, k1⟩ := h1.comp.known.form
 obtain ⟨AT, cT, rfl, k2⟩ := h1.comp.tris.form
 exact ⟨AK, cK, AT, cT, vG, h1.blk, k1, k2, h1.comp.tris.rd⟩
/-- A new corner is noted. -/
theorem JW.know {D : Nat → Prop} {w0 wr : World} {b : Nat} {S : Wk} {bw : Nat} {l : Pk.Bits} (h : JW D w0 wr b S bw l) (p : Pt) (hl : S.known.length ≤ 1000000) : ∃ A cap g cap3 x3 vT vG, wr.heap[b]? = some (.cells #[.slice A S.known.length cap, vT, vG] 120 (0, 0)) ∧
   (Builtin.append_ #[98, 98] 98 #[.slice A S.known.length cap, .slice (some ⟨wr.heap.size, 0, none⟩) 1 1]).run Tryz.prog (wr.drew.alloc (.cells (ptC p).toArray 43)) = .ok (.slice (some ⟨g, 0, none⟩) (S.known.length + 1) cap3) x3 ∧
   x3.heap[b]? = some (.cells #[.slice A S.known.length cap, vT, vG] 120 (0, 0)) ∧ (∀ k o, w0.heap[k]? = some o → ¬ D k → x3.heap[k]? = some o) ∧ JW D w0 (x3.setCell ⟨b, 0, none⟩ (.slice (some ⟨g, 0, none⟩) (S.known.length + 1) cap3)) b ⟨S.known ++ [p], S.tris, S.gates⟩ bw l := by
 obtain ⟨⟨G, F, ⟨vK, vT, vG, h1, rfl⟩, h2, h3, h4⟩, h5⟩ := h
 obtain ⟨K, tr, gs⟩ := S
 obtain ⟨A, cap, g, cap3, x3, rfl, r3, L3, hb3, u3, a3⟩ := jk_step h1 p hl
 refine ⟨A, cap, g, cap3, x3, vT, vG, h1.blk, r3, hb3, fun k o ho hk => u3.heap (h5.heap ho hk) (fun e => ?_), JW.stepS h2 h3 h4 h5 (S' := ⟨K ++ [p], tr, gs⟩) ⟨_, ⟨_, _, _, L3, rfl⟩, jFoot_k a3, (u3.mono (fun i _ e => .inr (.inl e))).setCell (fun _ => .inl rfl) _⟩⟩
 rcases h4 k (.inl (.inr (.inl e))) with h | h
 ·exact hk h
 ·have := lt_of_heap ho; omega
theorem findI_yes {K : List Pt} {p : Pt} (h : p ∈ K) : ∃ ix : Nat, findI K p = ((ix : Nat) : Int) ∧ ix < K.length ∧ K.idxOf p = ix := ⟨K.idxOf p, by unfold findI; rw [if_pos h], List.idxOf_lt_length_of_mem h, rfl⟩
theorem zig_u64 {n : Int} (h0 : -100000000 ≤ n) (h1 : n ≤ 100000000) : zig n < 2 ^ 64 ∧ zig n < 4294967296 := by
 have : zig n < 4294967296 := by unfold zig; split <;> omega
 exact ⟨by omega, this⟩
set_option maxHeartbeats 4000000 in
theorem JW.corner {D : Nat → Prop} {w0 wq : World} {b : Nat} {S : Wk} {bw : Nat} {l : Pk.Bits} (h : JW D w0 wq b S bw l) (p near : Pt) (bit number place : Int) (hc : 0 ≤ place ∧ place ≤ 1000) (h1 : farC p.1 near.1) (h2 : farC p.2.1 near.2.1) (h3 : farC p.2.2 near.2.2) (hk : S.known.length ≤ 900000) (hl : l.length ≤ 700000) :
  Calls Tryz.prog 60 #[.pointer (some ⟨b, 0, none⟩), .pointer (some ⟨bw, 0, none⟩), ptV p, ptV near, .int .i64 bit, .int .i64 number, .int .i64 place] wq fun en w' => en = .returned (.tuple #[]) ∧ JW D w0 w' b ⟨meetK S.known p, S.tris, S.gates⟩ bw (l ++ cornerB S.known p near bit number place) := by
 obtain ⟨D1, e1, e2, e3, _⟩ := h.enter
 obtain ⟨K, tr, gs⟩ := S
 simp only at hk ⊢
 obtain ⟨CB, hCB⟩ : ∃ CB, CB = cornerB K p near bit number place := ⟨_, rfl⟩
 obtain ⟨MK, hMK⟩ : ∃ MK, MK = meetK K p := ⟨_, rfl⟩
 rw [← hCB, ← hMK]
 have HCY : Hid (p ∈ K → CB = [(bit, true)] ++ numBits number (K.length - 1 - K.idxOf p) ∧ MK = K) := fun h => by
  rw [hCB, hMK]; unfold cornerB meetK; rw [if_pos h, if_pos h]; exact ⟨rfl, rfl⟩
 have HCN : Hid (p ∉ K → CB = [(bit, false)] ++ numBits place (zig (p.1 - near.1)) ++ numBits (place + 64) (zig (p.2.1 - near.2.1)) ++ numBits (place + 128) (zig (p.2.2 - near.2.2)) ∧ MK = K ++ [p]) := fun h => by
  rw [hCB, hMK]; unfold cornerB meetK placeB; rw [if_neg h, if_neg h]
  refine ⟨?_, rfl⟩
  simp only [List.append_assoc, List.cons_append, List.nil_append]
 have HKL : Hid (K.length ≤ 900000) := hk
 have HLL : Hid (l.length ≤ 700000) := hl
 clear hCB hMK hk hl
 obtain ⟨w1, hw1⟩ : ∃ w1, w1 = (wq.alloc (.cells #[.int .i64 p.1, .int .i64 p.2.1, .int .i64 p.2.2] 43)).alloc (.cells #[.int .i64 near.1, .int .i64 near.2.1, .int .i64 near.2.2] 43) := ⟨_, rfl⟩
 have hu1 : Upd noBlk wq w1 := by rw [hw1]; exact ((Upd.refl _ wq).alloc _).alloc _
 have HC1 := Lib.hid (e2 w1 hu1)
 have HP1 : Hid (w1.heap[wq.heap.size]? = some (.cells #[.int .i64 p.1, .int .i64 p.2.1, .int .i64 p.2.2] 43 (0, 0))) := by show _ = _; rw [hw1]; exact ((Upd.refl noBlk _).alloc _).heap (heap_alloc_new wq _) id
 have HN1 : Hid (w1.heap[wq.heap.size + 1]? = some (.cells #[.int .i64 near.1, .int .i64 near.2.1, .int .i64 near.2.2] 43 (0, 0))) := by
  show _ = _; rw [hw1]
  have := heap_alloc_new (wq.alloc (.cells #[.int .i64 p.1, .int .i64 p.2.1, .int .i64 p.2.2] 43)) (.cells #[.int .i64 near.1, .int .i64 near.2.1, .int .i64 near.2.2] 43)
  rwa [World.size_alloc] at this
 have HE3 : Hid (∀ w' S' l', JW D1 w1 w' b S' bw l' → JW D w0 w' b S' bw l') := fun w' S' l' => e3 w1 w' S' l' hu1
 obtain ⟨pb, hpb⟩ : ∃ pb, pb = wq.heap.size := ⟨_, rfl⟩
 obtain ⟨nb, hnb⟩ : ∃ nb, nb = wq.heap.size + 1 := ⟨_, rfl⟩
 have HD0 : Hid (¬ D1 pb) := fun h => by have := e1 _ h; omega
 have HD1 : Hid (¬ D1 nb) := fun h => by have := e1 _ h; omega
 rw [← hpb] at HP1
 rw [← hnb] at HN1
 clear h e1 e2 e3 hu1
 obtain ⟨p0, p1, p2⟩ := p
 obtain ⟨n0, n1, n2⟩ := near
 unfold ptV
 simp only at HP1 HN1 h1 h2 h3 HCN hw1
 go_enter Tryz.func60, Tryz.ntmps60
 go_upto_region 1 with fail
 rw [← hw1, ← hnb, ← hpb]
 clear hw1 hpb hnb
 obtain ⟨k0, k1, k2⟩ := cells3 HP1.out
 have HF := Lib.hid (HC1.out.find (p0, p1, p2) (by have := HKL.out; show K.length ≤ _; omega))
 simp only at HF
 unfold ptV at HF
 by_cases hm : (p0, p1, p2) ∈ K
 ·obtain ⟨ix, hf, hlt, hid⟩ := findI_yes hm
  obtain ⟨hcb, rfl⟩ := HCY.out hm
  rw [hid] at hcb
  rw [hf] at HF
  obtain ⟨m, hmm⟩ : ∃ m, m = MK.length - 1 - ix := ⟨_, rfl⟩
  rw [← hmm] at hcb
  have HCB := Lib.hid hcb
  have hmI : ((MK.length : Nat) : Int) = ((m : Nat) : Int) + ((ix : Nat) : Int) + 1 := by omega
  have hKI : ((MK.length : Nat) : Int) ≤ 900000 := by have := HKL.out; omega
  have hw1 : IntKind.i64.wrap (((MK.length : Nat) : Int) - 1) = ((MK.length : Nat) : Int) - 1 := wrapN (by omega) (by omega)
  have hw2 : IntKind.i64.wrap (((MK.length : Nat) : Int) - 1 - ((ix : Nat) : Int)) = ((m : Nat) : Int) := by rw [wrapN (by omega) (by omega)]; omega
  have hw3 : IntKind.u64.wrap ((m : Nat) : Int) = ((m : Nat) : Int) := by have := IntKind.wrap_u64 ((m : Nat) : Int); omega
  have hge : (0 : Int) ≤ ((ix : Nat) : Int) := by omega
  have HM : Hid (m < 1000000) := by have := HKL.out; show _ < _; omega
  clear hf hlt hid hcb hmm hmI hm HCY HCN h1 h2 h3
  go_wp2_with fail
  refine HF.out.mono ?_
  rintro e w2 ⟨rfl, u2⟩
  have HC2 := Lib.hid (HC1.out.upd u2)
  have HB := Lib.hid (HC2.out.bit bit true (by have := HLL.out; omega))
  clear u2 HF k0 k1 k2 HC1
  go_wp2_with fail
  refine HB.out.mono ?_
  rintro e w3 ⟨rfl, c3⟩
  have HC3 := Lib.hid c3
  obtain ⟨AK, cK, AT, cT, vG, hst, _, _, _⟩ := c3.state
  have HNU := Lib.hid (c3.number number m (by have := HM.out; omega) (by have := HLL.out; rw [List.length_append]; simp only [List.length_cons, List.length_nil]; omega))
  obtain ⟨⟨s0, s1, s2⟩, _⟩ := cellsF3 hst
  clear c3 HB HC2 hst
  go_wp2_with fail
  refine HNU.out.mono ?_
  rintro e w4 ⟨rfl, c4⟩
  have HC4 := Lib.hid (HE3.out w4 _ _ c4)
  clear c4 HNU s0 s1 s2
  go_wp2_with fail
  (try simp only [Exit.inBlock, Exit.then])
  refine bodyPost_ret (results_none rfl _ _ _) rfl ?_
  exact ⟨rfl, by rw [HCB.out, ← List.append_assoc]; exact HC4.out⟩
 ·have hf : findI K (p0, p1, p2) = -1 := by unfold findI; rw [if_neg hm]
  obtain ⟨hcb, hmk⟩ := HCN.out hm
  subst hmk
  rw [hf] at HF
  have HCB := Lib.hid hcb
  unfold farC at h1 h2 h3
  have hx0 : IntKind.i64.wrap (p0 - n0) = p0 - n0 := wrapN (by omega) (by omega)
  have hx1 : IntKind.i64.wrap (p1 - n1) = p1 - n1 := wrapN (by omega) (by omega)
  have hx2 : IntKind.i64.wrap (p2 - n2) = p2 - n2 := wrapN (by omega) (by omega)
  have hq1 : IntKind.i64.wrap (place + 64) = place + 64 := wrapN (by omega) (by omega)
  have hq2 : IntKind.i64.wrap (place + 128) = place + 128 := wrapN (by omega) (by omega)
  have Z0 := fun W => Lib.hid (jzigzag_any (p0 - n0) (by omega) (by omega) W)
  have Z1 := fun W => Lib.hid (jzigzag_any (p1 - n1) (by omega) (by omega) W)
  have Z2 := fun W => Lib.hid (jzigzag_any (p2 - n2) (by omega) (by omega) W)
  have Y0 := Lib.hid (zig_u64 (n := p0 - n0) (by omega) (by omega))
  have Y1 := Lib.hid (zig_u64 (n := p1 - n1) (by omega) (by omega))
  have Y2 := Lib.hid (zig_u64 (n := p2 - n2) (by omega) (by omega))
  have L0 : Hid ((numBits place (zig (p0 - n0))).length ≤ 128) := numBits_length _ Y0.out.1
  have L1 : Hid ((numBits (place + 64) (zig (p1 - n1))).length ≤ 128) := numBits_length _ Y1.out.1
  clear hf hcb hm HCY HCN h1 h2 h3
  generalize zig (p0 - n0) = z0 at *
  generalize zig (p1 - n1) = z1 at *
  generalize zig (p2 - n2) = z2 at *
  go_wp2_with fail
  refine HF.out.mono ?_
  rintro e w2 ⟨rfl, u2⟩
  have HC2 := Lib.hid (HC1.out.upd u2)
  have HB := Lib.hid (HC2.out.bit bit false (by have := HLL.out; omega))
  clear u2 HF k0 k1 k2 HC1
  go_wp2_with fail
  refine HB.out.mono ?_
  rintro e w3 ⟨rfl, c3⟩
  have HC3 := Lib.hid c3
  have HP3 := Lib.hid (c3.keepObj HP1.out HD0.out)
  have HN3 := Lib.hid (c3.keepObj HN1.out HD1.out)
  have HNU := Lib.hid (c3.number place z0 Y0.out.1 (by have := HLL.out; rw [List.length_append]; simp only [List.length_cons, List.length_nil]; omega))
  obtain ⟨k0, k1, k2⟩ := cells3 HP3.out
  obtain ⟨m0, m1, m2⟩ := cells3 HN3.out
  clear c3 HB HC2
  go_wp2_with fail
  refine (Z0 _).out.mono ?_
  rintro e w3' ⟨rfl, rfl⟩
  go_wp2_with fail
  refine HNU.out.mono ?_
  rintro e w4 ⟨rfl, c4⟩
  have HC4 := Lib.hid c4
  have HP4 := Lib.hid (c4.keepObj HP1.out HD0.out)
  have HN4 := Lib.hid (c4.keepObj HN1.out HD1.out)
  have HNU := Lib.hid (c4.number (place + 64) z1 Y1.out.1 (by have := HLL.out; have := L0.out; rw [List.length_append, List.length_append]; simp only [List.length_cons, List.length_nil]; omega))
  clear c4 k0 k1 k2 m0 m1 m2 HP3 HN3 HC3
  obtain ⟨k0, k1, k2⟩ := cells3 HP4.out
  obtain ⟨m0, m1, m2⟩ := cells3 HN4.out
  go_wp2_with fail
  refine (Z1 _).out.mono ?_
  rintro e w4' ⟨rfl, rfl⟩
  go_wp2_with fail
  refine HNU.out.mono ?_
  rintro e w5 ⟨rfl, c5⟩
  have HC5 := Lib.hid c5
  have HP5 := Lib.hid (c5.keepObj HP1.out HD0.out)
  have HN5 := Lib.hid (c5.keepObj HN1.out HD1.out)
  have HNU := Lib.hid (c5.number (place + 128) z2 Y2.out.1 (by have := HLL.out; have := L0.out; have := L1.out; rw [List.length_append, List.length_append, List.length_append]; simp only [List.length_cons, List.length_nil]; omega))
  clear c5 k0 k1 k2 m0 m1 m2 HP4 HN4 HC4
  obtain ⟨k0, k1, k2⟩ := cells3 HP5.out
  obtain ⟨m0, m1, m2⟩ := cells3 HN5.out
  go_wp2_with fail
  refine (Z2 _).out.mono ?_
  rintro e w5' ⟨rfl, rfl⟩
  go_wp2_with fail
  refine HNU.out.mono ?_
  rintro e w6 ⟨rfl, c6⟩
  have HC6 := Lib.hid c6
  have HP6 := Lib.hid (c6.keepObj HP1.out HD0.out)
  clear c6 k0 k1 k2 m0 m1 m2 HP5 HN5 HC5 HNU
  obtain ⟨A, cap, g, cap3, x3, vT, vG, hst, r3, hst3, hkp, c7⟩ := HC6.out.know (p0, p1, p2) (by have := HKL.out; show K.length ≤ _; omega)
  simp only at hst r3 hst3 c7
  have HST := Lib.hid hst
  have HST3 := Lib.hid hst3
  have HR3 := Lib.hid r3
  have HC7 := Lib.hid (HE3.out _ _ _ c7)
  have HMB : Hid ((w6.drew.alloc (.cells (ptC (p0, p1, p2)).toArray 43)).heap[b]? = some (.cells #[.slice A K.length cap, vT, vG] 120 (0, 0))) := ((Upd.refl noBlk w6).drew.alloc _).heap hst id
  have HPX := Lib.hid (hkp pb _ HP1.out HD0.out)
  clear hst r3 hst3 c7 hkp
  unfold ptC at HR3 HMB
  go_upto_region 8 with fail
  refine wp_region_tree 8 (OT.sures [0, 1, 5, 2, 3, 4] (.run 6 (.run 7 .nil))) (fun w' => w'.heap[b]? = some (.cells #[.slice A K.length cap, vT, vG] 120 (0, 0)) ∧ w'.heap[pb]? = some (.cells #[.int .i64 p0, .int .i64 p1, .int .i64 p2] 43 (0, 0))) (by kernel_rfl) (by kernel_rfl) (fun c a d v w h => by cases d <;> exact h) ⟨(Upd.refl noBlk w6).drew.heap HST.out id, (Upd.refl noBlk w6).drew.heap HP6.out id⟩ ?_
  simp only [OT.sures]
  iterate 6 (apply wpT_sure rfl rfl; focus (intro w' hw'; obtain ⟨⟨k0, k1, k2⟩, _⟩ := cellsF3 hw'.1; obtain ⟨g0, g1, g2⟩ := cells3 hw'.2; go_simp; rfl))
  refine wpT_run _ (fun _ h => h) rfl (fun K' hK => ?_)
  go_simp
  refine hK _ _ ⟨⟨HMB.out, ((Upd.refl noBlk w6).drew.alloc _).heap HP6.out id⟩, ?_⟩
  clear hK K'
  refine wpT_run _ (fun _ h => h) rfl (fun K' hK => ?_)
  rw [if_pos (by rfl)]
  refine wp_append_run _ _ _ rfl rfl rfl HR3.out ?_
  refine hK _ _ ⟨⟨HST3.out, HPX.out⟩, ?_⟩
  clear hK K' HR3 HMB
  refine wpT_nil ?_
  obtain ⟨⟨k0, k1, k2⟩, ⟨f0, f1, f2⟩⟩ := cellsF3 HST3.out
  go_wp2_with fail
  go_end0
  exact ⟨rfl, by rw [HCB.out, ← List.append_assoc, ← List.append_assoc, ← List.append_assoc]; exact HC7.out⟩
end Go.Proofs.YtcikldoaidmnhaaGreatDoor
namespace Go.Proofs.YtcikldoaidmnhaaGreatDoor
open Go Go.RowKit Pk
set_option maxRecDepth 100000
def prC (e : Pt × Pt) : List Value := [.int .i64 e.1.1, .int .i64 e.1.2.1, .int .i64 e.1.2.2, .int .i64 e.2.1, .int .i64 e.2.2.1, .int .i64 e.2.2.2]
noncomputable def kPair : Kd Tryz.prog (Pt × Pt) := { T := 201, S := 198, k := 6, bytes := 48, enc := prC, len := fun _ => rfl, one := fun x v hv => by simp [prC] at hv; rcases hv with rfl | rfl | rfl | rfl | rfl | rfl <;> rfl, pos := by decide, small := by decide, und := Tryz.underlying198, info := kinfo_of (by kernel_rfl) }
theorem prAt6 {w : World} {b o : Nat} {e : Pt × Pt} (h : kPair.At w b o e) : w.cell? ⟨b, o, none⟩ = some (.int .i64 e.1.1) ∧ w.cell? ⟨b, o + 1, none⟩ = some (.int .i64 e.1.2.1) ∧ w.cell? ⟨b, o + 2, none⟩ = some (.int .i64 e.1.2.2) ∧ w.cell? ⟨b, o + 3, none⟩ = some (.int .i64 e.2.1) ∧ w.cell? ⟨b, o + 4, none⟩ = some (.int .i64 e.2.2.1) ∧ w.cell? ⟨b, o + 5, none⟩ = some (.int .i64 e.2.2.2) :=
 ⟨h 0 _ rfl, h 1 _ rfl, h 2 _ rfl, h 3 _ rfl, h 4 _ rfl, h 5 _ rfl⟩
theorem row_at {α : Type} {K : Kd Tryz.prog α} {w : World} {b : Nat} {l : List α} {fr : Nat × Nat} {T : TypeId} (h : w.heap[b]? = some (.cells (l.flatMap K.enc).toArray T fr)) : ∀ j (hj : j < l.length), K.At w b (0 + j * K.k) l[j] := fun j hj i v hv => by
 have hi : i < K.k := by
  have := (List.getElem?_eq_some_iff.1 hv).1
  rw [K.len] at this; exact this
 rw [Nat.zero_add, cell_of_row _ _ _ _ _ _ h, ← Array.getElem?_toList, K.flat_get l j hj i hi]
 exact hv
set_option maxHeartbeats 2000000 in
theorem hEdges_any (v : Value) (l : List Tri) (hn : l.length ≤ 1000000) (w : World) (h : kTri.Rd w v l) :
  Calls Tryz.prog 126 #[v] w fun en w' => ∃ v', en = .returned v' ∧ kPair.Own w.heap.size w' v' (edgesL l) ∧ Upd noBlk w w' := by
 obtain ⟨A, cap, rfl, hcap, hx⟩ := h
 have HX := Lib.hid hx
 have hn' : ((l.length : Nat) : Int) ≤ 1000000 := by omega
 have HLE : Hid (l.length ≤ 1000000) := hn
 clear hx hn
 go_enter Tryz.func126, Tryz.ntmps126
 go_wp2_with fail
 go_loopw [3, 4] (fun o i wr => ∃ k : Nat, i = .int .i64 k ∧ k ≤ l.length ∧ kPair.Own w.heap.size wr o (edgesL (l.take k)) ∧ Upd noBlk w wr) (fun _ i _ => l.length - (intOf i).toNat)
 case atStart => exact ⟨0, rfl, Nat.zero_le _, Kd.Own.nil _ _ _, Upd.refl _ _⟩
 case round =>
  obtain ⟨k, rfl, hk, ho, hu⟩ := hrel
  have HO := Lib.hid ho
  have HU := Lib.hid hu
  clear ho hu
  by_cases hlt : k < l.length
  ·have hlt' : ((k : Nat) : Int) < ((l.length : Nat) : Int) := by omega
   obtain ⟨b, off, rfl, f1⟩ := HX.out (by omega)
   obtain ⟨g0, g1, g2, g3, g4, g5, g6, g7, g8⟩ := triAt9 ((f1 k hlt).keep HU.out)
   have hk9 : kTri.k = 9 := rfl
   rw [hk9] at g0 g1 g2 g3 g4 g5 g6 g7 g8
   have HT : Hid (edgesL (l.take (k + 1)) = edgesL (l.take k) ++ edgesT l[k]) := by show _ = _; rw [List.take_succ_eq_append_getElem hlt, edgesL_app]
   have HL : Hid ((edgesL (l.take k)).length = 3 * k) := by show _ = _; rw [edgesL_length, List.length_take]; omega
   have HK : Hid (k < l.length) := hlt
   clear f1 hk9
   generalize l[k] = tk at *
   obtain ⟨⟨a0, a1, a2⟩, ⟨a3, a4, a5⟩, ⟨a6, a7, a8⟩⟩ := tk
   simp only at g0 g1 g2 g3 g4 g5 g6 g7 g8
   obtain ⟨E, hE⟩ : ∃ E, E = edgesL (l.take k) := ⟨_, rfl⟩
   rw [← hE] at HO HT HL
   clear hE
   obtain ⟨A3, c3, rfl, _⟩ := HO.out.form
   rw [HL.out] at HO
   rw [HL.out]
   obtain ⟨y, hy⟩ : ∃ y, y = wr.alloc (.cells #[.int .i64 a0, .int .i64 a1, .int .i64 a2, .int .i64 a3, .int .i64 a4, .int .i64 a5, .int .i64 a6, .int .i64 a7, .int .i64 a8] 45) := ⟨_, rfl⟩
   obtain ⟨tb, htb⟩ : ∃ tb, tb = wr.heap.size := ⟨_, rfl⟩
   have hu1 : Upd noBlk wr y := by rw [hy]; exact (Upd.refl _ wr).alloc _
   have HZ : Hid (y.heap[tb]? = some (.cells #[.int .i64 a0, .int .i64 a1, .int .i64 a2, .int .i64 a3, .int .i64 a4, .int .i64 a5, .int .i64 a6, .int .i64 a7, .int .i64 a8] 45 (0, 0))) := by show _ = _; rw [hy, htb]; exact heap_alloc_new wr _
   have HU1 := Lib.hid (HU.out.trans hu1)
   have hu2 : Upd noBlk y (y.alloc (.cells #[.int .i64 a0, .int .i64 a1, .int .i64 a2, .int .i64 a3, .int .i64 a4, .int .i64 a5, .int .i64 a3, .int .i64 a4, .int .i64 a5, .int .i64 a6, .int .i64 a7, .int .i64 a8, .int .i64 a6, .int .i64 a7, .int .i64 a8, .int .i64 a0, .int .i64 a1, .int .i64 a2] 201)) := (Upd.refl _ y).alloc _
   have ho2 := (HO.out.upd hu1).upd hu2
   obtain ⟨g, cap2, w3, r3, o3, v3, _⟩ := ho2.appN (Nat.le_trans HU1.out.size hu2.size) (b := y.heap.size) (off := 0) (c := 3) (edgesT ((a0, a1, a2), (a3, a4, a5), (a6, a7, a8))) (row_at (K := kPair) (T := 201) (fr := (0, 0)) (heap_alloc_new y (.cells #[.int .i64 a0, .int .i64 a1, .int .i64 a2, .int .i64 a3, .int .i64 a4, .int .i64 a5, .int .i64 a3, .int .i64 a4, .int .i64 a5, .int .i64 a6, .int .i64 a7, .int .i64 a8, .int .i64 a6, .int .i64 a7, .int .i64 a8, .int .i64 a0, .int .i64 a1, .int .i64 a2] 201))) (by rw [HL.out]; have := HK.out; have := HLE.out; show 3 * k + 3 < _; omega) (by show 0 < 3; omega)
   rw [HL.out] at r3 o3
   have R3 : Hid ((Builtin.append_ #[198, 198] 198 #[.slice A3 (3 * k) c3, .slice (some ⟨y.heap.size, 0, none⟩) 3 3]).run Tryz.prog (y.alloc (.cells #[.int .i64 a0, .int .i64 a1, .int .i64 a2, .int .i64 a3, .int .i64 a4, .int .i64 a5, .int .i64 a3, .int .i64 a4, .int .i64 a5, .int .i64 a6, .int .i64 a7, .int .i64 a8, .int .i64 a6, .int .i64 a7, .int .i64 a8, .int .i64 a0, .int .i64 a1, .int .i64 a2] 201)) = .ok (.slice (some ⟨g, 0, none⟩) (3 * k + 3) cap2) w3) := r3
   have O3 := Lib.hid o3
   have HU3 := Lib.hid ((HU1.out.trans hu2).then v3 (fun i hi e => absurd hi (by have := (HO.out.blk e).1; omega)))
   clear r3 o3 v3 ho2 hu1 hu2
   have hkw : IntKind.i64.wrap (((k : Nat) : Int) + 1) = ((k : Nat) : Int) + 1 := wrapN (by omega) (by omega)
   go_upto_region 6 with fail
   rw [← hy, ← htb]
   clear hy htb g0 g1 g2 g3 g4 g5 g6 g7 g8
   obtain ⟨g0, g1, g2, g3, g4, g5, g6, g7, g8⟩ := cells9 HZ.out
   go_wp2_with (at_builtin; refine wpList_append_run rfl _ _ _ rfl rfl rfl R3.out ?_)
   refine ⟨⟨k + 1, by push_cast; rfl, HK.out, ?_, HU3.out⟩, by simp only [intOf]; have := HK.out; omega⟩
   rw [HT.out]
   exact O3.out
  ·obtain rfl : k = l.length := by omega
   have h2 := HO.out
   rw [List.take_length] at h2
   have HO2 := Lib.hid h2
   clear h2 HO
   go_wp2_with fail
   go_ret
   exact ⟨_, rfl, HO2.out, HU.out⟩
theorem eq_pair_ne {a0 a1 a2 a3 a4 a5 b0 b1 b2 b3 b4 b5 : Int} (W : World) : (Op.equalIn 10000 201 (.agg #[.int .i64 a0, .int .i64 a1, .int .i64 a2, .int .i64 a3, .int .i64 a4, .int .i64 a5]) (.agg #[.int .i64 b0, .int .i64 b1, .int .i64 b2, .int .i64 b3, .int .i64 b4, .int .i64 b5])).run Tryz.prog W = .ok (decide ((((a0, a1, a2), (a3, a4, a5)) : Pt × Pt) = ((b0, b1, b2), (b3, b4, b5)))) W := by
 obtain ⟨i, hi⟩ : ∃ i, Tryz.prog.info? 43 = some i := by
  cases h : Tryz.prog.info? 43 with
  | none =>
   have : (Tryz.prog.info? 43).isSome = true := by kernel_rfl
   rw [h] at this; cases this
  | some i => exact ⟨i, rfl⟩
 rw [run_equalIn_array W 9999 _ _ Tryz.underlying201 hi]
 have hc : Tryz.prog.cellsOf 43 = 3 := by kernel_rfl
 have hr : List.range 2 = [0, 1] := rfl
 have p0 : ∀ x0 x1 x2 x3 x4 x5 : Int, (part 43 #[.int .i64 x0, .int .i64 x1, .int .i64 x2, .int .i64 x3, .int .i64 x4, .int .i64 x5] 0).run Tryz.prog W = .ok (.agg #[.int .i64 x0, .int .i64 x1, .int .i64 x2]) W := fun _ _ _ _ _ _ => by kernel_rfl
 have p1 : ∀ x0 x1 x2 x3 x4 x5 : Int, (part 43 #[.int .i64 x0, .int .i64 x1, .int .i64 x2, .int .i64 x3, .int .i64 x4, .int .i64 x5] 3).run Tryz.prog W = .ok (.agg #[.int .i64 x3, .int .i64 x4, .int .i64 x5]) W := fun _ _ _ _ _ _ => by kernel_rfl
 have q := fun x0 x1 x2 y0 y1 y2 => eq_pt 9997 x0 x1 x2 y0 y1 y2 W
 simp only [Nat.reduceAdd] at q
 have h : decide ((((a0, a1, a2), (a3, a4, a5)) : Pt × Pt) = ((b0, b1, b2), (b3, b4, b5))) = (decide (((a0, a1, a2) : Pt) = (b0, b1, b2)) && decide (((a3, a4, a5) : Pt) = (b3, b4, b5))) := by
  rw [Bool.eq_iff_iff, decide_eq_true_iff]
  simp [and_assoc]
 rw [h, hr, hc]
 rcases d0 : decide (((a0, a1, a2) : Pt) = (b0, b1, b2)) with _ | _ <;> rcases d1 : decide (((a3, a4, a5) : Pt) = (b3, b4, b5)) with _ | _ <;> simp only [Op.eqItems, Nat.reduceMul, Sem.run_bind, p0, p1, q, Result.andThen_ok, d0, d1, Sem.run_ite, Sem.run_pure, Bool.not_true, Bool.not_false, if_true, Bool.false_eq_true, if_false, Bool.and_true, Bool.and_false]
set_option maxHeartbeats 2000000 in
theorem hcount_any (v : Value) (l : List (Pt × Pt)) (e : Pt × Pt) (hn : l.length ≤ 3000000) (w : World) (h : kPair.Rd w v l) :
  Calls Tryz.prog 127 #[v, .agg (prC e).toArray] w fun en w' => en = .returned (.int .i64 ((l.count e : Nat) : Int)) ∧ Upd noBlk w w' := by
 obtain ⟨R, hR⟩ : ∃ R, R = l.count e := ⟨_, rfl⟩
 rw [← hR]
 have HR := Lib.hid hR
 obtain ⟨A, cap, rfl, hcap, hx⟩ := h
 have HX := Lib.hid hx
 have hn' : ((l.length : Nat) : Int) ≤ 3000000 := by omega
 obtain ⟨⟨e0, e1, e2⟩, ⟨e3, e4, e5⟩⟩ := e
 clear hx hR hn
 unfold prC
 obtain ⟨x0, hx0⟩ : ∃ x0, x0 = w.alloc (.cells #[.int .i64 e0, .int .i64 e1, .int .i64 e2, .int .i64 e3, .int .i64 e4, .int .i64 e5] 201) := ⟨_, rfl⟩
 have HU : Hid (Upd noBlk w x0) := by show Upd _ _ _; rw [hx0]; exact (Upd.refl _ w).alloc _
 have HZ : Hid (x0.heap[w.heap.size]? = some (.cells #[.int .i64 e0, .int .i64 e1, .int .i64 e2, .int .i64 e3, .int .i64 e4, .int .i64 e5] 201 (0, 0))) := by show _ = _; rw [hx0]; exact heap_alloc_new w _
 simp only at HR ⊢
 go_enter Tryz.func127, Tryz.ntmps127
 go_upto_region 1 with fail
 rw [← hx0]
 clear hx0
 generalize w.heap.size = eb at *
 go_wp2_with fail
 go_loopw [5, 6] (fun c i wr => ∃ k m : Nat, i = .int .i64 k ∧ c = .int .i64 m ∧ k ≤ l.length ∧ m ≤ k ∧ (l.take k).count ((e0, e1, e2), (e3, e4, e5)) = m ∧ Upd noBlk x0 wr) (fun _ i _ => l.length - (intOf i).toNat)
 case atStart => exact ⟨0, 0, rfl, rfl, Nat.zero_le _, Nat.le_refl _, rfl, Upd.refl _ _⟩
 case round =>
  obtain ⟨k, m, rfl, rfl, hk, hmk, hm, hu⟩ := hrel
  have HM := Lib.hid hm
  have HV := Lib.hid hu
  have HZR := Lib.hid (hu.heap HZ.out id)
  clear hm hu
  by_cases hlt : k < l.length
  ·have hlt' : ((k : Nat) : Int) < ((l.length : Nat) : Int) := by omega
   obtain ⟨b, off, rfl, f1⟩ := HX.out (by omega)
   have hat := f1 k hlt
   rw [show kPair.k = 6 from rfl] at hat
   have HAT := Lib.hid ((hat.keep HU.out).keep HV.out)
   have HT : Hid ((l.take (k + 1)).count ((e0, e1, e2), (e3, e4, e5)) = m + if l[k] = ((e0, e1, e2), (e3, e4, e5)) then 1 else 0) := by
    show _ = _
    rw [List.take_succ_eq_append_getElem hlt, List.count_append, HM.out, List.count_singleton]
    congr 1
    simp only [beq_iff_eq]
   have HK : Hid (k < l.length ∧ m ≤ k) := ⟨hlt, hmk⟩
   have hkw : IntKind.i64.wrap (((k : Nat) : Int) + 1) = ((k : Nat) : Int) + 1 := wrapN (by omega) (by omega)
   have hmw : IntKind.i64.wrap (((m : Nat) : Int) + 1) = ((m : Nat) : Int) + 1 := wrapN (by omega) (by omega)
   clear hat f1 hk hmk
   generalize l[k] = d at *
   clear hlt
   obtain ⟨⟨d0, d1, d2⟩, ⟨d3, d4, d5⟩⟩ := d
   by_cases he : (((d0, d1, d2), (d3, d4, d5)) : Pt × Pt) = ((e0, e1, e2), (e3, e4, e5))
   ·have heq := fun W => eq_pair_ne (a0 := d0) (a1 := d1) (a2 := d2) (a3 := d3) (a4 := d4) (a5 := d5) (b0 := e0) (b1 := e1) (b2 := e2) (b3 := e3) (b4 := e4) (b5 := e5) W
    simp only [decide_eq_true he] at heq
    have h2 := HT.out
    rw [if_pos he] at h2
    have HT2 := Lib.hid h2
    clear he h2 HT
    go_wp2_with fail
    refine wp_region_tree 5 (OT.sures [0, 1, 4, 2, 3] .nil) (fun w' => Gr wr w') (by kernel_rfl) (by kernel_rfl) (fun c a d v w h => by cases d <;> exact h) ((Gr.refl wr).drew) ?_
    simp only [OT.sures]
    iterate 5 (apply wpT_sure rfl rfl; focus (intro w' hw'; obtain ⟨g0, g1, g2, g3, g4, g5⟩ := prAt6 (HAT.out.keep hw'.up); obtain ⟨z0, z1, z2, z3, z4, z5⟩ := cells6 (hw'.heap HZR.out id); go_simp; rfl))
    refine wpT_nil ?_
    go_wp2_with fail
    exact ⟨⟨k + 1, m + 1, by push_cast; rfl, by push_cast; rfl, HK.out.1, by have := HK.out; omega, HT2.out, HV.out.drew⟩, by simp only [intOf]; have := HK.out; omega⟩
   ·have heq := fun W => eq_pair_ne (a0 := d0) (a1 := d1) (a2 := d2) (a3 := d3) (a4 := d4) (a5 := d5) (b0 := e0) (b1 := e1) (b2 := e2) (b3 := e3) (b4 := e4) (b5 := e5) W
    simp only [decide_eq_false he] at heq
    have h2 := HT.out
    rw [if_neg he] at h2
    have HT2 := Lib.hid h2
    clear he h2 HT
    go_wp2_with fail
    refine wp_region_tree 5 (OT.sures [0, 1, 4, 2, 3] .nil) (fun w' => Gr wr w') (by kernel_rfl) (by kernel_rfl) (fun c a d v w h => by cases d <;> exact h) ((Gr.refl wr).drew) ?_
    simp only [OT.sures]
    iterate 5 (apply wpT_sure rfl rfl; focus (intro w' hw'; obtain ⟨g0, g1, g2, g3, g4, g5⟩ := prAt6 (HAT.out.keep hw'.up); obtain ⟨z0, z1, z2, z3, z4, z5⟩ := cells6 (hw'.heap HZR.out id); go_simp; rfl))
    refine wpT_nil ?_
    go_wp2_with fail
    exact ⟨⟨k + 1, m, by push_cast; rfl, rfl, HK.out.1, by have := HK.out; omega, HT2.out, HV.out.drew⟩, by simp only [intOf]; have := HK.out; omega⟩
  ·obtain rfl : k = l.length := by omega
   have h2 := HM.out
   rw [List.take_length, ← HR.out] at h2
   have HF := Lib.hid h2
   clear h2
   go_wp2_with fail
   go_ret
   exact ⟨by rw [HF.out]; rfl, HU.out.trans HV.out⟩
end Go.Proofs.YtcikldoaidmnhaaGreatDoor
namespace Go.Proofs.YtcikldoaidmnhaaGreatDoor
open Go Go.RowKit Pk
set_option maxRecDepth 100000
theorem tw_split {α : Type} (f : α → Bool) : ∀ (l : List α) (k : Nat), k ≤ l.length → (∀ j (hj : j < l.length), j < k → f l[j] = true) → (∀ hk : k < l.length, f l[k] = false) → l.takeWhile f = l.take k ∧ l.dropWhile f = l.drop k
 | [], k, h0, _, _ => by
  obtain rfl : k = 0 := by simpa using h0
  exact ⟨rfl, rfl⟩
 | a :: r, 0, _, _, h2 => by
  have h : f a = false := h2 (by simp)
  rw [List.takeWhile_cons_of_neg (by rw [h]; decide), List.dropWhile_cons_of_neg (by rw [h]; decide)]
  exact ⟨rfl, rfl⟩
 | a :: r, k + 1, h0, h1, h2 => by
  have ha : f a = true := h1 0 (by simp) (by omega)
  obtain ⟨i1, i2⟩ := tw_split f r k (by simpa using h0) (fun j hj hk => h1 (j + 1) (by simpa using hj) (by omega)) (fun hk => h2 (by simpa using hk))
  rw [List.takeWhile_cons_of_pos ha, List.dropWhile_cons_of_pos ha, i1, i2]
  exact ⟨rfl, rfl⟩
theorem withP_at {l : List Pt} {p : Pt} {k : Nat} (hk : k ≤ l.length) (h1 : ∀ j (hj : j < l.length), j < k → ptLt l[j] p = true) (h2 : ∀ hk : k < l.length, ptLt l[k] p = false) : withP l p = if l[k]? = some p then l else l.take k ++ [p] ++ l.drop k := by
 obtain ⟨e1, e2⟩ := tw_split (fun q => ptLt q p) l k hk h1 h2
 unfold withP
 rw [e1, e2, List.head?_drop, List.append_assoc]
 rfl
/-- 'append(own, l...)', also of nothing. -/
theorem Kd.Own.appR {α : Type} {K : Kd Tryz.prog α} {base : Nat} {w : World} {v : Value} {l : List α} (h : K.Own base w v l) (hb : base ≤ w.heap.size) {A : Option Addr} {c : Nat} {m : List α} (hm : K.Rd w (.slice A m.length c) m) (hl : l.length + m.length < 4294967296) :
  ∃ A' cap w', (Builtin.append_ #[K.S, K.S] K.S #[v, .slice A m.length c]).run Tryz.prog w = .ok (.slice A' (l.length + m.length) cap) w' ∧ K.Own base w' (.slice A' (l.length + m.length) cap) (l ++ m) ∧ Upd (fun k => v.ownBlock = some k) w w' := by
 obtain ⟨A2, c2, e, _, hx⟩ := hm
 cases e
 rcases Nat.eq_zero_or_pos m.length with h0 | h0
 ·have hm0 : m = [] := List.eq_nil_of_length_eq_zero h0
  subst hm0
  obtain ⟨Av, cv, rfl, hcv⟩ := h.form
  exact ⟨Av, cv, w, h.app0 A _, by rw [List.append_nil]; exact h, Upd.refl _ _⟩
 ·obtain ⟨b, off, rfl, hat⟩ := hx h0
  obtain ⟨g, cap, w', r, o, u, _⟩ := h.appN hb m hat hl h0
  exact ⟨_, _, _, r, o, u⟩
/-- 'l[k:]', as the walk has it. -/
def dropV (A : Option Addr) (n cap k s : Nat) : Value := .slice (if cap = k then A else A.map (fun a => a.add (k * s))) (n - k) (cap - k)
theorem Kd.Rd.dropV {α : Type} {K : Kd Tryz.prog α} {w : World} {A : Option Addr} {n cap : Nat} {l : List α} (h : K.Rd w (.slice A n cap) l) (k : Nat) (hk : k ≤ l.length) : K.Rd w (dropV A n cap k K.k) (l.drop k) := by
 obtain ⟨A2, c2, e, hc, hx⟩ := h
 cases e
 refine ⟨_, _, by rw [List.length_drop]; rfl, by rw [List.length_drop]; omega, fun h0 => ?_⟩
 rw [List.length_drop] at h0
 obtain ⟨b, off, rfl, hat⟩ := hx (by omega)
 refine ⟨b, off + k * K.k, ?_, fun j hj => ?_⟩
 ·rw [if_neg (by omega)]
  show some (Addr.add _ _) = some _
  rw [Addr.add_mid]
 ·rw [List.getElem_drop]
  have h2 := hat (k + j) (by rw [List.length_drop] at hj; omega)
  rw [Nat.add_mul, ← Nat.add_assoc] at h2
  exact h2
theorem Kd.Rd.takeV {α : Type} {K : Kd Tryz.prog α} {w : World} {A : Option Addr} {n cap : Nat} {l : List α} (h : K.Rd w (.slice A n cap) l) (k : Nat) (hk : k ≤ l.length) : K.Rd w (.slice A k cap) (l.take k) := by
 obtain ⟨A2, c2, e, hc, hx⟩ := h
 cases e
 refine ⟨_, _, by rw [List.length_take, Nat.min_eq_left hk], by rw [List.length_take]; omega, fun h0 => ?_⟩
 rw [List.length_take] at h0
 obtain ⟨b, off, rfl, hat⟩ := hx (by omega)
 refine ⟨b, off, rfl, fun j hj => ?_⟩
 rw [List.getElem_take]
 exact hat j (by rw [List.length_take] at hj; omega)
set_option maxHeartbeats 2000000 in
theorem hWith_any (v : Value) (l : List Pt) (p : Pt) (hn : l.length ≤ 3000000) (w : World) (h : kPt.Rd w v l) :
  Calls Tryz.prog 156 #[v, ptV p] w fun en w' => ∃ v', en = .returned v' ∧ kPt.Rd w' v' (withP l p) ∧ Upd noBlk w w' := by
 have hl := fun a b W => Lib.hid (oLess_any a b W)
 have HRD := Lib.hid h
 obtain ⟨A, cap, rfl, hcap, hx⟩ := h
 have HX := Lib.hid hx
 have HN : Hid (l.length ≤ 3000000) := hn
 have hn' : ((l.length : Nat) : Int) ≤ 3000000 := by omega
 have hcap' : ((l.length : Nat) : Int) ≤ ((cap : Nat) : Int) := by omega
 obtain ⟨R, hR⟩ : ∃ R, R = withP l p := ⟨_, rfl⟩
 rw [← hR]
 have HW : Hid (∀ k, k ≤ l.length → (∀ j (hj : j < l.length), j < k → ptLt l[j] p = true) → (∀ h : k < l.length, ptLt l[k] p = false) → R = if l[k]? = some p then l else l.take k ++ [p] ++ l.drop k) := fun k h0 h1 h2 => hR.trans (withP_at h0 h1 h2)
 clear hR hx hn hcap
 obtain ⟨p0, p1, p2⟩ := p
 unfold ptV
 obtain ⟨x0, hx0⟩ : ∃ x0, x0 = w.alloc (.cells #[.int .i64 p0, .int .i64 p1, .int .i64 p2] 43) := ⟨_, rfl⟩
 have HU : Hid (Upd noBlk w x0) := by show Upd _ _ _; rw [hx0]; exact (Upd.refl _ w).alloc _
 have HZ : Hid (x0.heap[w.heap.size]? = some (.cells #[.int .i64 p0, .int .i64 p1, .int .i64 p2] 43 (0, 0))) := by show _ = _; rw [hx0]; exact heap_alloc_new w _
 obtain ⟨pb, hpb⟩ : ∃ pb, pb = w.heap.size := ⟨_, rfl⟩
 rw [← hpb] at HZ
 go_enter Tryz.func156, Tryz.ntmps156
 go_upto_region 1 with fail
 rw [← hx0, ← hpb]
 clear hx0 hpb
 go_upto_block 0 with fail
 go_cut [5, 6] (fun i _ wc => ∃ k : Nat, i = .int .i64 k ∧ k ≤ l.length ∧ R = (if l[k]? = some (p0, p1, p2) then l else l.take k ++ [(p0, p1, p2)] ++ l.drop k) ∧ Upd noBlk x0 wc)
 case first =>
  go_wp2_with fail
  go_loopw [5, 6] (fun i _ wr => ∃ k : Nat, i = .int .i64 k ∧ k ≤ l.length ∧ (∀ j (hj : j < l.length), j < k → ptLt l[j] (p0, p1, p2) = true) ∧ Upd noBlk x0 wr) (fun i _ _ => l.length - (intOf i).toNat)
  case atStart => exact ⟨0, rfl, Nat.zero_le _, fun j _ h => absurd h (Nat.not_lt_zero _), Upd.refl _ _⟩
  case round =>
   obtain ⟨k, rfl, hk, hb, hu⟩ := hrel
   have HB := Lib.hid hb
   have HV := Lib.hid hu
   have HZR := Lib.hid (hu.heap HZ.out id)
   clear hb hu
   by_cases hlt : k < l.length
   ·have hlt' : ((k : Nat) : Int) < ((l.length : Nat) : Int) := by omega
    obtain ⟨b, off, rfl, f1⟩ := HX.out (by omega)
    have hc := ((f1 k hlt).keep HU.out).keep HV.out
    rw [show kPt.k = 3 from rfl] at hc
    have HC := Lib.hid hc
    have HST : Hid (ptLt l[k] (p0, p1, p2) = false → R = (if l[k]? = some (p0, p1, p2) then l else l.take k ++ [(p0, p1, p2)] ++ l.drop k)) := fun h => HW.out k (by omega) HB.out (fun _ => h)
    have HGO : Hid (ptLt l[k] (p0, p1, p2) = true → ∀ j (hj : j < l.length), j < k + 1 → ptLt l[j] (p0, p1, p2) = true) := fun h j hj hjk => by
     rcases (by omega : j < k ∨ j = k) with h' | rfl
     ·exact HB.out j hj h'
     ·exact h
    have HK : Hid (k < l.length) := hlt
    have hkw : IntKind.i64.wrap (((k : Nat) : Int) + 1) = ((k : Nat) : Int) + 1 := wrapN (by omega) (by omega)
    clear f1 hc hk
    generalize l[k] = q at *
    clear hlt
    obtain ⟨q0, q1, q2⟩ := q
    have HLT := Lib.hid (hl (q0, q1, q2) (p0, p1, p2) wr.drew)
    go_wp2_with fail
    refine wp_region_tree 5 (OT.sures [0, 1, 4, 2, 3] .nil) (fun w' => Gr wr w') (by kernel_rfl) (by kernel_rfl) (fun c a d v w h => by cases d <;> exact h) ((Gr.refl wr).drew) ?_
    simp only [OT.sures]
    iterate 5 (apply wpT_sure rfl rfl; focus (intro w' hw'; obtain ⟨⟨z0, z1, z2⟩, _⟩ := cellsF3 (hw'.heap HZR.out id); obtain ⟨d0, d1, d2⟩ := ptAt3 (HC.out.keep hw'.up); go_simp; rfl))
    refine wpT_nil ?_
    unfold ptV at HLT
    go_wp2_with fail
    refine HLT.out.mono ?_
    rintro e w2 ⟨rfl, u2⟩
    have U2 := Lib.hid (HV.out.trans ((Upd.refl noBlk wr).drew.trans u2))
    clear u2 HLT HC HV HZR
    rcases hlt9 : ptLt (q0, q1, q2) (p0, p1, p2) with _ | _
    ·have HF := Lib.hid (HST.out hlt9)
     clear hlt9 HST HGO
     go_wp2_with fail
     go_meet
     exact ⟨k, rfl, Nat.le_of_lt HK.out, HF.out, U2.out⟩
    ·have HF := Lib.hid (HGO.out hlt9)
     clear hlt9 HST HGO
     go_wp2_with fail
     go_roundw
     case rel => exact ⟨k + 1, by push_cast; rfl, HK.out, HF.out, U2.out⟩
     case measure => simp only [intOf]; have := HK.out; omega
   ·obtain rfl : k = l.length := by omega
    have HF := Lib.hid (HW.out l.length (Nat.le_refl _) HB.out (fun h => absurd h (Nat.lt_irrefl _)))
    clear HW HB
    go_wp2_with fail
    go_meet
    exact ⟨_, rfl, Nat.le_refl _, HF.out, HV.out⟩
 case rest =>
  obtain ⟨k, rfl, hk, hr, hu⟩ := hcut
  have HR := Lib.hid hr
  have HV := Lib.hid hu
  have HZR := Lib.hid (hu.heap HZ.out id)
  have HK : Hid (k ≤ l.length) := hk
  have hkI : ((k : Nat) : Int) ≤ ((l.length : Nat) : Int) := by omega
  have hkc : ((k : Nat) : Int) ≤ ((cap : Nat) : Int) := by omega
  clear HW hr hu hl
  go_upto_region 6 with fail
  go_cut [33] (fun c wx => wx = wc.drew ∧ c = .bool (decide (l[k]? = some (p0, p1, p2))))
  case first =>
   by_cases hlt : k < l.length
   ·have hlt' : ((k : Nat) : Int) < ((l.length : Nat) : Int) := by omega
    obtain ⟨b, off, rfl, f1⟩ := HX.out (by omega)
    have hc := ((f1 k hlt).keep HU.out).keep HV.out
    rw [show kPt.k = 3 from rfl] at hc
    have HC := Lib.hid hc
    have HE : Hid (l[k]? = some l[k]) := List.getElem?_eq_getElem hlt
    clear f1 hc hk
    generalize l[k] = q at *
    clear hlt
    obtain ⟨q0, q1, q2⟩ := q
    refine wp_region_tree 11 (OT.sures [0, 1, 2, 3, 4, 5, 6, 7, 8, 9, 10] .nil) (fun w' => Gr wc w') (by kernel_rfl) (by kernel_rfl) (fun c a d v w h => by cases d <;> exact h) ((Gr.refl wc).drew) ?_
    simp only [OT.sures]
    iterate 5 (apply wpT_sure rfl rfl; focus (intro w' hw'; go_simp; rfl))
    iterate 5 (refine wpT_sureG rfl (by go_simp) _ (fun w' hw' => by obtain ⟨⟨z0, z1, z2⟩, _⟩ := cellsF3 (hw'.heap HZR.out id); obtain ⟨d0, d1, d2⟩ := ptAt3 (HC.out.keep hw'.up); go_simp; rfl) ?_)
    by_cases he : ((q0, q1, q2) : Pt) = (p0, p1, p2)
    ·cases he
     refine wpT_sureG rfl (by go_simp) (.bool true) (fun w' hw' => by go_simp; try rfl) ?_
     refine wpT_nil ?_
     go_wp2_with fail
     go_meet
     exact ⟨rfl, by rw [decide_eq_true HE.out]⟩
    ·refine wpT_sureG rfl (by go_simp) (.bool false) (fun w' hw' => by rcases pt_ne he with e0 | ⟨rfl, e1⟩ | ⟨rfl, rfl, e2⟩ <;> (go_simp; try rfl)) ?_
     refine wpT_nil ?_
     go_wp2_with fail
     go_meet
     exact ⟨rfl, by rw [HE.out, decide_eq_false (fun h => he (Option.some.inj h))]⟩
   ·obtain rfl : k = l.length := by omega
    refine wp_region_tree 11 (OT.sures [0, 1, 2, 3, 4, 5, 6, 7, 8, 9, 10] .nil) (fun w' => Gr wc w') (by kernel_rfl) (by kernel_rfl) (fun c a d v w h => by cases d <;> exact h) ((Gr.refl wc).drew) ?_
    simp only [OT.sures]
    iterate 5 (apply wpT_sure rfl rfl; focus (intro w' hw'; go_simp; rfl))
    iterate 6 (refine wpT_skip rfl (by go_simp) ?_)
    refine wpT_nil ?_
    go_wp2_with fail
    go_meet
    exact ⟨rfl, by rw [decide_eq_false (by simp)]⟩
  case rest =>
   obtain ⟨hwx, rfl⟩ := hcut
   have hvx : Upd noBlk x0 wc := by rw [hwx]; exact HV.out.drew
   have HVX := Lib.hid hvx
   have HZX := Lib.hid (hvx.heap HZ.out id)
   have HRX := Lib.hid ((HRD.out.keep HU.out).keep hvx)
   have HUX := Lib.hid (HU.out.trans hvx)
   clear hwx hvx HV HZR HX
   by_cases hh : l[k]? = some (p0, p1, p2)
   ·have HF : Hid (R = l) := by show _ = _; rw [HR.out, if_pos hh]
    rw [decide_eq_true hh]
    clear hh
    go_wp2_with fail
    go_ret
    exact ⟨_, rfl, by rw [HF.out]; exact HRX.out, HUX.out⟩
   ·have HF : Hid (R = l.take k ++ [(p0, p1, p2)] ++ l.drop k) := by show _ = _; rw [HR.out, if_neg hh]
    rw [decide_eq_false hh]
    clear hh HR
    have hlt : (l.take k).length = k := by rw [List.length_take, Nat.min_eq_left HK.out]
    have hr1 : kPt.Rd wc (.slice A (l.take k).length cap) (l.take k) := by
     have h := HRX.out.takeV k HK.out
     rw [← congrArg (fun n => Value.slice A n cap) hlt] at h
     exact h
    obtain ⟨A1, c1, w1, r1, o1, v1⟩ := (Kd.Own.nil kPt wc.heap.size wc).appR (Nat.le_refl _) hr1 (by rw [hlt]; have := HN.out; have := HK.out; simp only [List.length_nil]; omega)
    simp only [List.length_nil, Nat.zero_add, List.nil_append, hlt] at r1 o1
    have R1 := Lib.hid r1
    have v1' : Upd noBlk wc w1 := v1.mono (fun i _ e => by cases e)
    have HZ1 := Lib.hid (v1'.heap HZX.out id)
    have HR1 := Lib.hid (HRX.out.keep v1')
    have HU1 := Lib.hid (HUX.out.trans v1')
    obtain ⟨g2, c2, w2, r2, o2, v2, _⟩ := o1.app1 v1'.size (p0, p1, p2) (by rw [hlt]; have := HN.out; have := HK.out; omega)
    rw [hlt] at r2 o2
    have R2 := Lib.hid r2
    have v2' : Upd noBlk wc w2 := v1'.then v2 (fun i hi e => absurd hi (by have := (o1.blk e).1; omega))
    have hdr := HRX.out.keep v2'
    have hdr2 := hdr.dropV k HK.out
    have hld : (l.drop k).length = l.length - k := List.length_drop
    have hk3 : kPt.k = 3 := rfl
    rw [hk3] at hdr2
    have HU2 := Lib.hid (HUX.out.trans v2')
    have e2 : dropV A l.length cap k 3 = .slice (if cap = k then A else A.map (fun a => a.add (k * 3))) (l.drop k).length (cap - k) := by unfold dropV; rw [hld]
    rw [e2] at hdr2
    have hl2 : (l.take k ++ [(p0, p1, p2)]).length = k + 1 := by rw [List.length_append, hlt]; rfl
    rw [← hl2] at o2
    obtain ⟨A3, c3, w3, r3, o3, v3⟩ := o2.appR v2'.size hdr2 (by rw [hl2, hld]; have := HN.out; have := HK.out; omega)
    rw [hl2, hld] at r3
    have HU3 := Lib.hid (HU2.out.then v3 (fun i hi e => absurd hi (by have := (o2.blk e).1; have := HUX.out.size; omega)))
    have R3 := Lib.hid r3
    have HO3 : Hid (kPt.Rd w3 (.slice A3 (k + 1 + (l.length - k)) c3) R) := by
     show Kd.Rd _ _ _ _
     have h := o3.rd
     rw [hl2, hld] at h
     rw [HF.out]; exact h
    clear r1 o1 v1 r2 o2 v2 r3 o3 v3 hdr hdr2 hr1 hld hlt hl2 e2 hk3 v1' v2' HF HRX
    obtain ⟨z0, z1, z2⟩ := cells3 HZ1.out
    go_upto_region 10 with (at_builtin; refine wpList_append_run rfl _ _ _ rfl rfl rfl R1.out ?_)
    go_upto_region 11 with (at_builtin; refine wpList_append_run rfl _ _ _ rfl rfl rfl R2.out ?_)
    have hk0 : (0 : Int) ≤ ((k : Nat) : Int) := by omega
    clear z0 z1 z2 R1 R2 HZ1 HZX HZ HR1 HU1 HRD HU HUX
    by_cases hc : cap = k
    ·subst hc
     simp only [if_true] at R3
     cases A with
     | none =>
      go_wp2_with (at_builtin; refine wpList_append_run rfl _ _ _ rfl rfl rfl R3.out ?_)
      go_ret
      exact ⟨_, rfl, HO3.out, HU3.out⟩
     | some a =>
      go_wp2_with (at_builtin; refine wpList_append_run rfl _ _ _ rfl rfl rfl R3.out ?_)
      go_ret
      exact ⟨_, rfl, HO3.out, HU3.out⟩
    ·simp only [if_neg hc] at R3
     cases A with
     | none =>
      simp only [Option.map_none] at R3
      go_wp2_with (at_builtin; refine wpList_append_run rfl _ _ _ rfl rfl rfl R3.out ?_)
      go_ret
      exact ⟨_, rfl, HO3.out, HU3.out⟩
     | some a =>
      simp only [Option.map_some] at R3
      go_wp2_with (at_builtin; refine wpList_append_run rfl _ _ _ rfl rfl rfl R3.out ?_)
      go_ret
      exact ⟨_, rfl, HO3.out, HU3.out⟩
end Go.Proofs.YtcikldoaidmnhaaGreatDoor
