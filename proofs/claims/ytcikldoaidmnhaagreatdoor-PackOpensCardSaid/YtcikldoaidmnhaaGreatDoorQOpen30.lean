/- Parts: Walks of the reference of packets: a coordinate, a corner is read. No condition. Walks of the reference of packets: a corner is read. No condition. Walks of the reference of packets: lists of parts compared. No condition. Walks of the reference of packets: right. No condition. Walks of the reference of packets: steps of the state beside a writer; a corner is written. No condition. -/
import Derived.Test.YtcikldoaidmnhaaGreatDoorQOpen5
import Derived.Test.YtcikldoaidmnhaaGreatDoorQOpen7
import Derived.Test.YtcikldoaidmnhaaGreatDoorQOpen14
import Derived.Test.YtcikldoaidmnhaaGreatDoorQOpen20
import Derived.Test.YtcikldoaidmnhaaGreatDoorQOpen21
import Derived.Test.YtcikldoaidmnhaaGreatDoorQOpen28
import Derived.Test.YtcikldoaidmnhaaGreatDoorQOpen29
namespace Go.Proofs.YtcikldoaidmnhaaGreatDoor
open Go Go.RowKit Pk Pc
set_option maxRecDepth 100000
theorem JW.find {D:Nat→Prop} {w0 wr:World} {b:Nat} {S:Wk} {bw:Nat} {l:Pk.Bits} (h:JW D w0 wr b S bw l) (p:Pt) (hl:S.known.length≤1000000) :
  Calls Tryz.prog 111 #[.pointer (some ⟨b,0,none⟩),ptV p] wr fun en w'=>en=.returned (.int .i64 (findI S.known p))∧Upd noBlk wr w':=by
 obtain ⟨⟨G,F,h1,h2,h3,h4⟩,h5⟩:=h;exact jfind_any b S G p hl wr h1
theorem JW.last {D:Nat→Prop} {w0 wr:World} {b:Nat} {S:Wk} {bw:Nat} {l:Pk.Bits} (h:JW D w0 wr b S bw l) (hl:S.known.length≤1000000) :
  Calls Tryz.prog 63 #[.pointer (some ⟨b,0,none⟩)] wr fun en w'=>en=.returned (ptV (lastK S.known))∧Upd noBlk wr w':=by
 obtain ⟨⟨G,F,h1,h2,h3,h4⟩,h5⟩:=h;exact jlast_any b S G hl wr h1
theorem JW.visit {D:Nat→Prop} {w0 wr:World} {b:Nat} {S:Wk} {bw:Nat} {l:Pk.Bits} (h:JW D w0 wr b S bw l) (t:Tri) (first:Nat) (hf:first=0∨first=1) (hl:S.tris.length≤100000) (hg:S.gates.length≤1000000) :
  Calls Tryz.prog 62 #[.pointer (some ⟨b,0,none⟩),triV t,.int .i64 first] wr fun en w'=>en=.returned (.tuple #[])∧JW D w0 w' b (S.visit t first) bw l:=by
 obtain ⟨⟨G,F,h1,h2,h3,h4⟩,h5⟩:=h;refine (jvisit_any b S G t first hf hl hg wr h1).mono ?_;rintro e w' ⟨rfl,h'⟩;exact ⟨rfl,JW.stepS h2 h3 h4 h5 h'⟩
theorem JW.next {D:Nat→Prop} {w0 wr:World} {b:Nat} {S:Wk} {bw:Nat} {l:Pk.Bits} (h:JW D w0 wr b S bw l) (hl:S.tris.length≤100000) (hg:S.gates.length≤1000000) :
  Calls Tryz.prog 57 #[.pointer (some ⟨b,0,none⟩)] wr fun en w'=>∃g,en=.returned (.tuple #[gateV g,.bool (nextB S.tris S.gates)])∧(nextB S.tris S.gates=true→g=nextV S.tris S.gates)∧JW D w0 w' b ⟨S.known,S.tris,restG S.tris S.gates⟩ bw l:=by
 obtain ⟨⟨G,F,h1,h2,h3,h4⟩,h5⟩:=h;refine (jnext_any b S G hl hg wr h1).mono ?_;rintro e w' ⟨g,rfl,hg,h'⟩;exact ⟨g,rfl,hg,JW.stepS h2 h3 h4 h5 h'⟩
theorem JW.state {D:Nat→Prop} {w0 wr:World} {b:Nat} {S:Wk} {bw:Nat} {l:Pk.Bits} (h:JW D w0 wr b S bw l):∃AK cK AT cT vG,wr.heap[b]?=some (.cells #[.slice AK S.known.length cK,.slice AT S.tris.length cT,vG] 120 (0,0))∧S.known.length≤cK∧S.tris.length≤cT∧kTri.Rd wr (.slice AT S.tris.length cT) S.tris:=by
 obtain ⟨⟨G,F,⟨vK,vT,vG,h1,rfl⟩,h2,h3,h4⟩,h5⟩:=h;obtain ⟨AK,cK,rfl,k1⟩:=h1.comp.known.form;obtain ⟨AT,cT,rfl,k2⟩:=h1.comp.tris.form;exact ⟨AK,cK,AT,cT,vG,h1.blk,k1,k2,h1.comp.tris.rd⟩
theorem JW.know {D:Nat→Prop} {w0 wr:World} {b:Nat} {S:Wk} {bw:Nat} {l:Pk.Bits} (h:JW D w0 wr b S bw l) (p:Pt) (hl:S.known.length≤1000000):∃A cap g cap3 x3 vT vG,wr.heap[b]?=some (.cells #[.slice A S.known.length cap,vT,vG] 120 (0,0)) ∧
   (Builtin.append_ #[98,98] 98 #[.slice A S.known.length cap,.slice (some ⟨wr.heap.size,0,none⟩) 1 1]).run Tryz.prog (wr.drew.alloc (.cells (ptC p).toArray 43))=.ok (.slice (some ⟨g,0,none⟩) (S.known.length+1) cap3) x3 ∧
   x3.heap[b]?=some (.cells #[.slice A S.known.length cap,vT,vG] 120 (0,0))∧(∀k o,w0.heap[k]?=some o→¬D k→x3.heap[k]?=some o)∧JW D w0 (x3.setCell ⟨b,0,none⟩ (.slice (some ⟨g,0,none⟩) (S.known.length+1) cap3)) b ⟨S.known++[p],S.tris,S.gates⟩ bw l:=by
 obtain ⟨⟨G,F,⟨vK,vT,vG,h1,rfl⟩,h2,h3,h4⟩,h5⟩:=h;obtain ⟨K,tr,gs⟩:=S;obtain ⟨A,cap,g,cap3,x3,rfl,r3,L3,hb3,u3,a3⟩:=jk_step h1 p hl;refine ⟨A,cap,g,cap3,x3,vT,vG,h1.blk,r3,hb3,fun k o ho hk=>u3.heap (h5.heap ho hk) (fun e=>?_),JW.stepS h2 h3 h4 h5 (S':=⟨K++[p],tr,gs⟩) ⟨_,⟨_,_,_,L3,rfl⟩,jFoot_k a3,(u3.mono (fun i _ e=>.inr (.inl e))).setCell (fun _=>.inl rfl) _⟩⟩;rcases h4 k (.inl (.inr (.inl e))) with h | h
 ·exact hk h
 ·have:=lt_of_heap ho;omega
theorem findI_yes {K:List Pt} {p:Pt} (h:p∈K):∃ix:Nat,findI K p=(ix:Int)∧ix<K.length∧K.idxOf p=ix:=⟨K.idxOf p,by unfold findI;rw [if_pos h],List.idxOf_lt_length_of_mem h,rfl⟩
theorem zig_u64 {n:Int} (h0:-100000000≤n) (h1:n≤100000000):zig n<2 ^ 64∧zig n<4294967296:=by
 have:zig n<4294967296:=by unfold zig;split<;>omega
 exact ⟨by omega,this⟩
set_option maxHeartbeats 4000000 in
theorem JW.corner {D:Nat→Prop} {w0 wq:World} {b:Nat} {S:Wk} {bw:Nat} {l:Pk.Bits} (h:JW D w0 wq b S bw l) (p near:Pt) (bit number place:Int) (hc:0≤place∧place≤1000) (h1:farC p.1 near.1) (h2:farC p.2.1 near.2.1) (h3:farC p.2.2 near.2.2) (hk:S.known.length≤900000) (hl:l.length≤700000) :
  Calls Tryz.prog 60 #[.pointer (some ⟨b,0,none⟩),.pointer (some ⟨bw,0,none⟩),ptV p,ptV near,.int .i64 bit,.int .i64 number,.int .i64 place] wq fun en w'=>en=.returned (.tuple #[])∧JW D w0 w' b ⟨meetK S.known p,S.tris,S.gates⟩ bw (l++cornerB S.known p near bit number place):=by
 obtain ⟨D1,e1,e2,e3,_⟩:=h.enter;obtain ⟨K,tr,gs⟩:=S;simp only at hk ⊢;obtain ⟨CB,hCB⟩:∃CB,CB=cornerB K p near bit number place:=⟨_,rfl⟩;obtain ⟨MK,hMK⟩:∃MK,MK=meetK K p:=⟨_,rfl⟩;rw [←hCB,←hMK];have HCY:Hid (p∈K→CB=[(bit,true)]++numBits number (K.length-1-K.idxOf p)∧MK=K):=fun h=>by
  rw [hCB,hMK];unfold cornerB meetK;rw [if_pos h,if_pos h];exact ⟨rfl,rfl⟩
 have HCN:Hid (p∉K→CB=[(bit,false)]++numBits place (zig (p.1-near.1))++numBits (place+64) (zig (p.2.1-near.2.1))++numBits (place+128) (zig (p.2.2-near.2.2))∧MK=K++[p]):=fun h=>by
  rw [hCB,hMK];unfold cornerB meetK placeB;rw [if_neg h,if_neg h];refine ⟨?_,rfl⟩;simp only [List.append_assoc,List.cons_append,List.nil_append]
 have HKL:Hid (K.length≤900000):=hk;have HLL:Hid (l.length≤700000):=hl;clear hCB hMK hk hl;obtain ⟨w1,hw1⟩:∃w1,w1=(wq.alloc (.cells #[.int .i64 p.1,.int .i64 p.2.1,.int .i64 p.2.2] 43)).alloc (.cells #[.int .i64 near.1,.int .i64 near.2.1,.int .i64 near.2.2] 43):=⟨_,rfl⟩;have hu1:Upd noBlk wq w1:=by rw [hw1];exact ((Upd.refl _ wq).alloc _).alloc _
 have HC1:=Lib.hid (e2 w1 hu1);have HP1:Hid (w1.heap[wq.heap.size]?=some (.cells #[.int .i64 p.1,.int .i64 p.2.1,.int .i64 p.2.2] 43 (0,0))):=by show _=_;rw [hw1];exact ((Upd.refl noBlk _).alloc _).heap (heap_alloc_new wq _) id
 have HN1:Hid (w1.heap[wq.heap.size+1]?=some (.cells #[.int .i64 near.1,.int .i64 near.2.1,.int .i64 near.2.2] 43 (0,0))):=by
  show _=_;rw [hw1];have:=heap_alloc_new (wq.alloc (.cells #[.int .i64 p.1,.int .i64 p.2.1,.int .i64 p.2.2] 43)) (.cells #[.int .i64 near.1,.int .i64 near.2.1,.int .i64 near.2.2] 43);rwa [World.size_alloc] at this
 have HE3:Hid (∀w' S' l',JW D1 w1 w' b S' bw l'→JW D w0 w' b S' bw l'):=fun w' S' l'=>e3 w1 w' S' l' hu1;obtain ⟨pb,hpb⟩:∃pb,pb=wq.heap.size:=⟨_,rfl⟩;obtain ⟨nb,hnb⟩:∃nb,nb=wq.heap.size+1:=⟨_,rfl⟩;have HD0:Hid (¬D1 pb):=fun h=>by have:=e1 _ h;omega
 have HD1:Hid (¬D1 nb):=fun h=>by have:=e1 _ h;omega
 rw [←hpb] at HP1;rw [←hnb] at HN1;clear h e1 e2 e3 hu1;obtain ⟨p0,p1,p2⟩:=p;obtain ⟨n0,n1,n2⟩:=near;unfold ptV;simp only at HP1 HN1 h1 h2 h3 HCN hw1;go_enter Tryz.func60,Tryz.ntmps60
 go_upto_region 1 with fail
 rw [←hw1,←hnb,←hpb];clear hw1 hpb hnb;obtain ⟨k0,k1,k2⟩:=cells3 HP1.out;have HF:=Lib.hid (HC1.out.find (p0,p1,p2) (by have:=HKL.out;show K.length≤_;omega));simp only at HF;unfold ptV at HF;by_cases hm:(p0,p1,p2)∈K
 ·obtain ⟨ix,hf,hlt,hid⟩:=findI_yes hm;obtain ⟨hcb,rfl⟩:=HCY.out hm;rw [hid] at hcb;rw [hf] at HF;obtain ⟨m,hmm⟩:∃m,m=MK.length-1-ix:=⟨_,rfl⟩;rw [←hmm] at hcb;have HCB:=Lib.hid hcb;have hmI:(MK.length:Int)=(m:Int)+(ix:Int)+1:=by omega
  have hKI:(MK.length:Int)≤900000:=by have:=HKL.out;omega
  have hw1:IntKind.i64.wrap ((MK.length:Int)-1)=(MK.length:Int)-1:=wrapN (by omega) (by omega);have hw2:IntKind.i64.wrap ((MK.length:Int)-1-(ix:Int))=(m:Int):=by rw [wrapN (by omega) (by omega)];omega
  have hw3:IntKind.u64.wrap (m:Int)=(m:Int):=by have:=IntKind.wrap_u64 (m:Int);omega
  have hge:(0:Int)≤(ix:Int):=by omega
  have HM:Hid (m<1000000):=by have:=HKL.out;show _<_;omega
  clear hf hlt hid hcb hmm hmI hm HCY HCN h1 h2 h3;go_wp2_with fail
  refine HF.out.mono ?_;rintro e w2 ⟨rfl,u2⟩;have HC2:=Lib.hid (HC1.out.upd u2);have HB:=Lib.hid (HC2.out.bit bit true (by have:=HLL.out;omega));clear u2 HF k0 k1 k2 HC1;go_wp2_with fail
  refine HB.out.mono ?_;rintro e w3 ⟨rfl,c3⟩;have HC3:=Lib.hid c3;obtain ⟨AK,cK,AT,cT,vG,hst,_,_,_⟩:=c3.state;have HNU:=Lib.hid (c3.number number m (by have:=HM.out;omega) (by have:=HLL.out;rw [List.length_append];simp only [List.length_cons,List.length_nil];omega));obtain ⟨⟨s0,s1,s2⟩,_⟩:=cellsF3 hst;clear c3 HB HC2 hst;go_wp2_with fail
  refine HNU.out.mono ?_;rintro e w4 ⟨rfl,c4⟩;have HC4:=Lib.hid (HE3.out w4 _ _ c4);clear c4 HNU s0 s1 s2;go_wp2_with fail
  (try simp only [Exit.inBlock,Exit.then])
  refine bodyPost_ret (results_none rfl _ _ _) rfl ?_;exact ⟨rfl,by rw [HCB.out,←List.append_assoc];exact HC4.out⟩
 ·have hf:findI K (p0,p1,p2)=-1:=by unfold findI;rw [if_neg hm]
  obtain ⟨hcb,hmk⟩:=HCN.out hm;subst hmk;rw [hf] at HF;have HCB:=Lib.hid hcb;unfold farC at h1 h2 h3;have hx0:IntKind.i64.wrap (p0-n0)=p0-n0:=wrapN (by omega) (by omega);have hx1:IntKind.i64.wrap (p1-n1)=p1-n1:=wrapN (by omega) (by omega);have hx2:IntKind.i64.wrap (p2-n2)=p2-n2:=wrapN (by omega) (by omega);have hq1:IntKind.i64.wrap (place+64)=place+64:=wrapN (by omega) (by omega);have hq2:IntKind.i64.wrap (place+128)=place+128:=wrapN (by omega) (by omega);have Z0:=fun W=>Lib.hid (jzigzag_any (p0-n0) (by omega) (by omega) W);have Z1:=fun W=>Lib.hid (jzigzag_any (p1-n1) (by omega) (by omega) W);have Z2:=fun W=>Lib.hid (jzigzag_any (p2-n2) (by omega) (by omega) W);have Y0:=Lib.hid (zig_u64 (n:=p0-n0) (by omega) (by omega));have Y1:=Lib.hid (zig_u64 (n:=p1-n1) (by omega) (by omega));have Y2:=Lib.hid (zig_u64 (n:=p2-n2) (by omega) (by omega));have L0:Hid ((numBits place (zig (p0-n0))).length≤128):=numBits_length _ Y0.out.1;have L1:Hid ((numBits (place+64) (zig (p1-n1))).length≤128):=numBits_length _ Y1.out.1;clear hf hcb hm HCY HCN h1 h2 h3;generalize zig (p0-n0)=z0 at *;generalize zig (p1-n1)=z1 at *;generalize zig (p2-n2)=z2 at *;go_wp2_with fail
  refine HF.out.mono ?_;rintro e w2 ⟨rfl,u2⟩;have HC2:=Lib.hid (HC1.out.upd u2);have HB:=Lib.hid (HC2.out.bit bit false (by have:=HLL.out;omega));clear u2 HF k0 k1 k2 HC1;go_wp2_with fail
  refine HB.out.mono ?_;rintro e w3 ⟨rfl,c3⟩;have HC3:=Lib.hid c3;have HP3:=Lib.hid (c3.keepObj HP1.out HD0.out);have HN3:=Lib.hid (c3.keepObj HN1.out HD1.out);have HNU:=Lib.hid (c3.number place z0 Y0.out.1 (by have:=HLL.out;rw [List.length_append];simp only [List.length_cons,List.length_nil];omega));obtain ⟨k0,k1,k2⟩:=cells3 HP3.out;obtain ⟨m0,m1,m2⟩:=cells3 HN3.out;clear c3 HB HC2;go_wp2_with fail
  refine (Z0 _).out.mono ?_;rintro e w3' ⟨rfl,rfl⟩;go_wp2_with fail
  refine HNU.out.mono ?_;rintro e w4 ⟨rfl,c4⟩;have HC4:=Lib.hid c4;have HP4:=Lib.hid (c4.keepObj HP1.out HD0.out);have HN4:=Lib.hid (c4.keepObj HN1.out HD1.out);have HNU:=Lib.hid (c4.number (place+64) z1 Y1.out.1 (by have:=HLL.out;have:=L0.out;rw [List.length_append,List.length_append];simp only [List.length_cons,List.length_nil];omega));clear c4 k0 k1 k2 m0 m1 m2 HP3 HN3 HC3;obtain ⟨k0,k1,k2⟩:=cells3 HP4.out;obtain ⟨m0,m1,m2⟩:=cells3 HN4.out;go_wp2_with fail
  refine (Z1 _).out.mono ?_;rintro e w4' ⟨rfl,rfl⟩;go_wp2_with fail
  refine HNU.out.mono ?_;rintro e w5 ⟨rfl,c5⟩;have HC5:=Lib.hid c5;have HP5:=Lib.hid (c5.keepObj HP1.out HD0.out);have HN5:=Lib.hid (c5.keepObj HN1.out HD1.out);have HNU:=Lib.hid (c5.number (place+128) z2 Y2.out.1 (by have:=HLL.out;have:=L0.out;have:=L1.out;rw [List.length_append,List.length_append,List.length_append];simp only [List.length_cons,List.length_nil];omega));clear c5 k0 k1 k2 m0 m1 m2 HP4 HN4 HC4;obtain ⟨k0,k1,k2⟩:=cells3 HP5.out;obtain ⟨m0,m1,m2⟩:=cells3 HN5.out;go_wp2_with fail
  refine (Z2 _).out.mono ?_;rintro e w5' ⟨rfl,rfl⟩;go_wp2_with fail
  refine HNU.out.mono ?_;rintro e w6 ⟨rfl,c6⟩;have HC6:=Lib.hid c6;have HP6:=Lib.hid (c6.keepObj HP1.out HD0.out);clear c6 k0 k1 k2 m0 m1 m2 HP5 HN5 HC5 HNU;obtain ⟨A,cap,g,cap3,x3,vT,vG,hst,r3,hst3,hkp,c7⟩:=HC6.out.know (p0,p1,p2) (by have:=HKL.out;show K.length≤_;omega);simp only at hst r3 hst3 c7;have HST:=Lib.hid hst;have HST3:=Lib.hid hst3;have HR3:=Lib.hid r3;have HC7:=Lib.hid (HE3.out _ _ _ c7);have HMB:Hid ((w6.drew.alloc (.cells (ptC (p0,p1,p2)).toArray 43)).heap[b]?=some (.cells #[.slice A K.length cap,vT,vG] 120 (0,0))):=((Upd.refl noBlk w6).drew.alloc _).heap hst id;have HPX:=Lib.hid (hkp pb _ HP1.out HD0.out);clear hst r3 hst3 c7 hkp;unfold ptC at HR3 HMB;go_upto_region 8 with fail
  refine wp_region_tree 8 (OT.sures [0,1,5,2,3,4] (.run 6 (.run 7 .nil))) (fun w'=>w'.heap[b]?=some (.cells #[.slice A K.length cap,vT,vG] 120 (0,0))∧w'.heap[pb]?=some (.cells #[.int .i64 p0,.int .i64 p1,.int .i64 p2] 43 (0,0))) (by kernel_rfl) (by kernel_rfl) (fun c a d v w h=>by cases d<;>exact h) ⟨(Upd.refl noBlk w6).drew.heap HST.out id,(Upd.refl noBlk w6).drew.heap HP6.out id⟩ ?_
  simp only [OT.sures]
  iterate 6 (apply wpT_sure rfl rfl;focus (intro w' hw';obtain ⟨⟨k0,k1,k2⟩,_⟩:=cellsF3 hw'.1;obtain ⟨g0,g1,g2⟩:=cells3 hw'.2;go_simp;rfl))
  refine wpT_run _ (fun _ h=>h) rfl (fun K' hK=>?_);go_simp
  refine hK _ _ ⟨⟨HMB.out,((Upd.refl noBlk w6).drew.alloc _).heap HP6.out id⟩,?_⟩;clear hK K';refine wpT_run _ (fun _ h=>h) rfl (fun K' hK=>?_);rw [if_pos (by rfl)];refine wp_append_run _ _ _ rfl rfl rfl HR3.out ?_;refine hK _ _ ⟨⟨HST3.out,HPX.out⟩,?_⟩;clear hK K' HR3 HMB;refine wpT_nil ?_;obtain ⟨⟨k0,k1,k2⟩,⟨f0,f1,f2⟩⟩:=cellsF3 HST3.out;go_wp2_with fail
  go_end0
  exact ⟨rfl,by rw [HCB.out,←List.append_assoc,←List.append_assoc,←List.append_assoc];exact HC7.out⟩
end Go.Proofs.YtcikldoaidmnhaaGreatDoor
namespace Go.Proofs.YtcikldoaidmnhaaGreatDoor
open Go Go.RowKit Pk
set_option maxRecDepth 100000
theorem st1:Tryz.prog.underlying 83=some (.struct (Tryz.prog.fieldsOf 83)):=by kernel_rfl
theorem st2:Tryz.prog.stoodInHeld 83=false:=by kernel_rfl
end Go.Proofs.YtcikldoaidmnhaaGreatDoor
namespace Go.Proofs.YtcikldoaidmnhaaGreatDoor
open Go Go.RowKit Pk
set_option maxRecDepth 100000
theorem jinside_any (n:Int) (w:World):Calls Tryz.prog 65 #[.int .i64 n] w fun en w'=>en=.returned (.bool (insideC n))∧Upd noBlk w w':=by
 go_enter Tryz.func65,Tryz.ntmps65
 by_cases h0:0≤n
 ·by_cases h1:n≤2097151
  ·have h:insideC n=true:=decide_eq_true ⟨h0,h1⟩;rw [h];go_wp2_with fail
   go_ret
   exact ⟨rfl,Upd.refl _ _⟩
  ·have h:insideC n=false:=decide_eq_false (fun e=>h1 e.2);rw [h];go_wp2_with fail
   go_ret
   exact ⟨rfl,Upd.refl _ _⟩
 ·have h:insideC n=false:=decide_eq_false (fun e=>h0 e.1);rw [h];go_wp2_with fail
  go_ret
  exact ⟨rfl,Upd.refl _ _⟩
end Go.Proofs.YtcikldoaidmnhaaGreatDoor
namespace Go.Proofs.YtcikldoaidmnhaaGreatDoor
open Go Go.RowKit Pk Pc
set_option maxRecDepth 100000
theorem jvalue_any (n:Nat) (hn:n≤16777216) (w:World):Calls Tryz.prog 177 #[.int .u64 n] w fun en w'=>en=.returned (.int .i64 (zag n))∧w=w':=by
 have ht:(n:Int).tmod 2=((n % 2:Nat):Int):=by rw [Int.tmod_eq_emod_of_nonneg (by omega)];omega
 have he:(n:Int) % 2=((n % 2:Nat):Int):=by omega
 have hd:(n:Int).tdiv 2=((n / 2:Nat):Int):=by rw [Int.tdiv_eq_ediv_of_nonneg (by omega)];omega
 have hd2:(n:Int) / 2=((n / 2:Nat):Int):=by omega
 obtain ⟨q,hq⟩:∃q,q=n / 2:=⟨_,rfl⟩;rw [←hq] at hd hd2;have hwu:IntKind.u64.wrap (q:Int)=(q:Int):=by have:=IntKind.wrap_u64 (q:Int);omega
 have hw0:IntKind.i64.wrap (q:Int)=(q:Int):=wrapN (by omega) (by omega);have hw1:IntKind.i64.wrap (-(q:Int))=-(q:Int):=wrapN (by omega) (by omega);have hw2:IntKind.i64.wrap (-(q:Int)-1)=-(q:Int)-1:=wrapN (by omega) (by omega);by_cases h1:n % 2=1
 ·have HZ:Hid (zag n=-(q:Int)-1):=by show _=_;unfold zag;rw [if_pos h1,hq]
  rw [h1] at ht he;clear hq h1 hn;go_enter Tryz.func177,Tryz.ntmps177
  go_wp2_with fail
  go_ret
  exact ⟨by rw [HZ.out];rfl,rfl⟩
 ·have HZ:Hid (zag n=(q:Int)):=by show _=_;unfold zag;rw [if_neg h1,hq]
  have h0:n % 2=0:=by omega
  rw [h0] at ht he;clear hq h1 hn h0;go_enter Tryz.func177,Tryz.ntmps177
  go_wp2_with fail
  go_ret
  exact ⟨by rw [HZ.out];rfl,rfl⟩
def coordP (x:NumR) (near:Int) (v:Int) (ok:Bool):Prop:=(ok=true→x.ok=true∧x.n<16777216∧inC (near+zag x.n)∧v=near+zag x.n)∧(ok=false→¬(x.ok=true∧x.n<16777216∧inC (near+zag x.n)))
theorem coordP_some {d:D} {c near v:Int} (h:coordP (d.number c) near v true):coordM d c near=some (v,(d.number c).d):=by
 obtain ⟨h1,h2,h3,rfl⟩:=h.1 rfl;unfold coordM;rw [if_pos ⟨h1,h2,h3⟩]
theorem coordP_none {d:D} {c near v:Int} (h:coordP (d.number c) near v false):coordM d c near=none:=by
 unfold coordM;rw [if_neg (h.2 rfl)]
theorem zag_big {n:Nat} (h:n≤16777216):-8388609≤zag n∧zag n≤8388608∧(n=16777216→zag n=8388608):=by
 unfold zag;split<;>omega
set_option maxHeartbeats 2000000 in
theorem JR.place {Z:Nat→Prop} {w0 wr:World} {b:Nat} {S:Wk} {br:Nat} {d:D} {n:Nat} (h:JR Z w0 wr b S br d n) (hn:n+200≤999999) (c near:Int) (h0:-2097151≤near) (h1:near≤4194302) :
  Calls Tryz.prog 154 #[.pointer (some ⟨br,0,none⟩),.int .i64 c,.int .i64 near] wr fun en w'=>∃v ok,en=.returned (.tuple #[.int .i64 v,.bool ok])∧coordP (d.number c) near v ok∧JR Z w0 w' b S br (d.number c).d (n+130):=by
 have HN:=Lib.hid (h.number hn c);have HV:=fun n hn W=>Lib.hid (jvalue_any n hn W);have HI:=fun n W=>Lib.hid (jinside_any n W);clear h hn;generalize d.number c=x at *;obtain ⟨m,ok,d'⟩:=x;unfold numV at HN;simp only at HN;go_enter Tryz.func154,Tryz.ntmps154
 go_wp2_with fail
 refine HN.out.mono ?_;rintro e w1 ⟨rfl,c1⟩;have C1:=Lib.hid c1;clear c1 HN;cases ok with
 | false=>
  go_wp2_with fail
  go_ret2
  exact ⟨_,_,rfl,⟨(fun h=>by cases h),(fun _ h=>by cases h.1)⟩,C1.out⟩
 | true=>
  by_cases hm:m≤16777216
  ·have hm':¬(16777216:Int)<(m:Int):=by omega
   have HZ:=Lib.hid (zag_big hm);have HVM:=fun W=>Lib.hid (HV m hm W).out;have HM:Hid (m≤16777216):=hm;clear hm HV;have hz:=HZ.out;have HZI:Hid (m=16777216→¬inC (near+zag m)):=fun e hi=>by have:=hz.2.2 e;unfold inC at hi;omega
   obtain ⟨z,hze⟩:∃z,z=zag m:=⟨_,rfl⟩;have HZE:Hid (zag m=z):=hze.symm;rw [←hze] at hz HZI HVM;clear hze HZ;have hwz:IntKind.i64.wrap (near+z)=near+z:=wrapN (by omega) (by omega);clear hz h0 h1;go_wp2_with fail
   refine (HVM _).out.mono ?_;rintro e w2 ⟨rfl,rfl⟩;go_wp2_with fail
   refine (HI _ _).out.mono ?_;rintro e w3 ⟨rfl,u3⟩;have C3:=Lib.hid (C1.out.upd u3);clear u3 C1 HVM HI;go_wp2_with fail
   go_ret2
   refine ⟨_,_,rfl,?_,C3.out⟩;unfold coordP;simp only;rw [HZE.out];refine ⟨fun h=>?_,fun h hh=>?_⟩
   ·have hi:inC (near+z):=of_decide_eq_true h;refine ⟨by trivial,?_,hi,rfl⟩;have h2:=HM.out;have h3:m≠16777216:=fun e=>HZI.out e hi;show m<_;omega
   ·have hi:¬inC (near+z):=of_decide_eq_false h;exact hi hh.2.2
  ·have hm':(16777216:Int)<(m:Int):=by omega
   have HM:Hid (¬m≤16777216):=hm;clear hm HV HI;go_wp2_with fail
   go_ret2
   exact ⟨_,_,rfl,⟨(fun h=>by cases h),fun _ h=>HM.out (Nat.le_of_lt h.2.1)⟩,C1.out⟩
end Go.Proofs.YtcikldoaidmnhaaGreatDoor
namespace Go.Proofs.YtcikldoaidmnhaaGreatDoor
open Go Go.RowKit Pk Pc
set_option maxRecDepth 100000
theorem JR.find {Z:Nat→Prop} {w0 wr:World} {b:Nat} {S:Wk} {br:Nat} {d:D} {n:Nat} (h:JR Z w0 wr b S br d n) (p:Pt) (hl:S.known.length≤1000000) :
  Calls Tryz.prog 111 #[.pointer (some ⟨b,0,none⟩),ptV p] wr fun en w'=>en=.returned (.int .i64 (findI S.known p))∧Upd noBlk wr w':=by
 obtain ⟨⟨G,h1,h2,h3,h4⟩,h5⟩:=h;exact jfind_any b S G p hl wr h1
theorem JR.last {Z:Nat→Prop} {w0 wr:World} {b:Nat} {S:Wk} {br:Nat} {d:D} {n:Nat} (h:JR Z w0 wr b S br d n) (hl:S.known.length≤1000000) :
  Calls Tryz.prog 63 #[.pointer (some ⟨b,0,none⟩)] wr fun en w'=>en=.returned (ptV (lastK S.known))∧Upd noBlk wr w':=by
 obtain ⟨⟨G,h1,h2,h3,h4⟩,h5⟩:=h;exact jlast_any b S G hl wr h1
theorem JR.visit {Z:Nat→Prop} {w0 wr:World} {b:Nat} {S:Wk} {br:Nat} {d:D} {n:Nat} (h:JR Z w0 wr b S br d n) (t:Tri) (first:Nat) (hf:first=0∨first=1) (hl:S.tris.length≤100000) (hg:S.gates.length≤1000000) :
  Calls Tryz.prog 62 #[.pointer (some ⟨b,0,none⟩),triV t,.int .i64 first] wr fun en w'=>en=.returned (.tuple #[])∧JR Z w0 w' b (S.visit t first) br d n:=by
 obtain ⟨⟨G,h1,h2,h3,h4⟩,h5⟩:=h;refine (jvisit_any b S G t first hf hl hg wr h1).mono ?_;rintro e w' ⟨rfl,h'⟩;exact ⟨rfl,JR.stepS h2 h3 h4 h5 h'⟩
theorem JR.next {Z:Nat→Prop} {w0 wr:World} {b:Nat} {S:Wk} {br:Nat} {d:D} {n:Nat} (h:JR Z w0 wr b S br d n) (hl:S.tris.length≤100000) (hg:S.gates.length≤1000000) :
  Calls Tryz.prog 57 #[.pointer (some ⟨b,0,none⟩)] wr fun en w'=>∃g,en=.returned (.tuple #[gateV g,.bool (nextB S.tris S.gates)])∧(nextB S.tris S.gates=true→g=nextV S.tris S.gates)∧JR Z w0 w' b ⟨S.known,S.tris,restG S.tris S.gates⟩ br d n:=by
 obtain ⟨⟨G,h1,h2,h3,h4⟩,h5⟩:=h;refine (jnext_any b S G hl hg wr h1).mono ?_;rintro e w' ⟨g,rfl,hg,h'⟩;exact ⟨g,rfl,hg,JR.stepS h2 h3 h4 h5 h'⟩
theorem JR.state {Z:Nat→Prop} {w0 wr:World} {b:Nat} {S:Wk} {br:Nat} {d:D} {n:Nat} (h:JR Z w0 wr b S br d n):∃AK cK AT cT vG,wr.heap[b]?=some (.cells #[.slice AK S.known.length cK,.slice AT S.tris.length cT,vG] 120 (0,0))∧kPt.Rd wr (.slice AK S.known.length cK) S.known∧kTri.Rd wr (.slice AT S.tris.length cT) S.tris:=by
 obtain ⟨⟨G,⟨vK,vT,vG,h1,rfl⟩,h2,h3,h4⟩,h5⟩:=h;obtain ⟨AK,cK,rfl,k1⟩:=h1.comp.known.form;obtain ⟨AT,cT,rfl,k2⟩:=h1.comp.tris.form;exact ⟨AK,cK,AT,cT,vG,h1.blk,h1.comp.known.rd,h1.comp.tris.rd⟩
theorem JR.know {Z:Nat→Prop} {w0 wr:World} {b:Nat} {S:Wk} {br:Nat} {d:D} {n:Nat} (h:JR Z w0 wr b S br d n) (p:Pt) (hl:S.known.length≤1000000):∃A cap g cap3 x3 vT vG,wr.heap[b]?=some (.cells #[.slice A S.known.length cap,vT,vG] 120 (0,0)) ∧
   (Builtin.append_ #[98,98] 98 #[.slice A S.known.length cap,.slice (some ⟨wr.heap.size,0,none⟩) 1 1]).run Tryz.prog (wr.drew.alloc (.cells (ptC p).toArray 43))=.ok (.slice (some ⟨g,0,none⟩) (S.known.length+1) cap3) x3 ∧
   x3.heap[b]?=some (.cells #[.slice A S.known.length cap,vT,vG] 120 (0,0))∧(∀k o,w0.heap[k]?=some o→¬Z k→x3.heap[k]?=some o)∧JR Z w0 (x3.setCell ⟨b,0,none⟩ (.slice (some ⟨g,0,none⟩) (S.known.length+1) cap3)) b ⟨S.known++[p],S.tris,S.gates⟩ br d n:=by
 obtain ⟨⟨G,⟨vK,vT,vG,h1,rfl⟩,h2,h3,h4⟩,h5⟩:=h;obtain ⟨K,tr,gs⟩:=S;obtain ⟨A,cap,g,cap3,x3,rfl,r3,L3,hb3,u3,a3⟩:=jk_step h1 p hl;refine ⟨A,cap,g,cap3,x3,vT,vG,h1.blk,r3,hb3,fun k o ho hk=>u3.heap (h5.heap ho hk) (fun e=>?_),JR.stepS h2 h3 h4 h5 (S':=⟨K++[p],tr,gs⟩) ⟨_,⟨_,_,_,L3,rfl⟩,jFoot_k a3,(u3.mono (fun i _ e=>.inr (.inl e))).setCell (fun _=>.inl rfl) _⟩⟩;rcases h4 k (.inl (.inr (.inl e))) with h | h
 ·exact hk h
 ·have:=lt_of_heap ho;omega
theorem JR.enterR {Z:Nat→Prop} {w0 wr:World} {b:Nat} {S:Wk} {br:Nat} {d:D} {n:Nat} (h:JR Z w0 wr b S br d n):∃Z1:Nat→Prop,(∀k,Z1 k→k<wr.heap.size)∧(∀w1,Upd noBlk wr w1→JR Z1 w1 w1 b S br d n) ∧
  (∀w1 w' w2 S' d' n' rb,Upd noBlk wr w1→JR Z1 w1 w' b S' br d' n'→wr.heap.size≤rb→rb<w1.heap.size→Upd (fun k=>k=rb) w' w2→JR Z w0 w2 b S' br d' n') ∧
  (∀w1 w' w2 rb,Upd noBlk wr w1→Upd Z1 w1 w'→wr.heap.size≤rb→Upd (fun k=>k=rb) w' w2→Upd Z w0 w2):=by
 obtain ⟨⟨G,h1,h2,h3,h4⟩,h5⟩:=h;have hz:∀k,G k∨k=br→k<wr.heap.size:=fun k hk=>by
  rcases hk with h | h
  ·exact h1.lt k h
  ·subst h;exact h2.lt
 have hup:∀w1 w' w2 rb,Upd noBlk wr w1→Upd (fun k=>G k∨k=br) w1 w'→wr.heap.size≤rb→Upd (fun k=>k=rb) w' w2→Upd Z w0 w2:=fun w1 w' w2 rb hu k5 h0 h2=>by
  have hs5:=h5.size;refine ((h5.trans (hu.mono (fun _ _ h=>h.elim))).then k5 (fun i hi hd=>(h4 i hd).resolve_right (by omega))).then h2 (fun i hi e=>?_);have e':i=rb:=e;omega
 refine ⟨fun k=>G k∨k=br,hz,fun w1 hu=>?_,fun w1 w' w2 S' d' n' rb hu h' h0 h1' h2'=>?_,hup⟩
 ·exact ⟨⟨G,h1.upd hu (fun _ _=>id),h2.upd hu id,h3,fun k hk=>.inl hk⟩,Upd.refl _ _⟩
 ·obtain ⟨⟨G',k1,k2,k3,k4⟩,k5⟩:=h';have hs:=hu.size;have hs5:=h5.size;have hne:∀k,G' k∨k=br→¬k=rb:=fun k hk e=>by
   rcases k4 k hk with h | h
   ·have:=hz k h;omega
   ·omega
  refine ⟨⟨G',k1.upd h2' (fun k hk=>hne k (.inl hk)),k2.upd h2' (hne br (.inr rfl)),k3,fun k hk=>?_⟩,hup w1 w' w2 rb hu k5 h0 h2'⟩;rcases k4 k hk with h | h
  ·exact h4 k h
  ·exact .inr (by omega)
def readP (Z:Nat→Prop) (w0:World) (b br:Nat) (S:Wk) (n:Nat) (m:Option (Pt × List Pt × D)) (en:Ending) (w':World):Prop:=
 ∃p ok,en=.returned (.tuple #[ptV p,.bool ok])∧(ok=false→m=none∧Upd Z w0 w')∧(ok=true→∃k d',m=some (p,k,d')∧JR Z w0 w' b ⟨k,S.tris,S.gates⟩ br d' (n+400))
theorem placeM_step {d:D} {c:Int} {near:Pt}:placeM d c near=match coordM d c near.1 with
  | none=>none
  | some (x,d1)=>match coordM d1 (c+64) near.2.1 with
   | none=>none
   | some (y,d2)=>match coordM d2 (c+128) near.2.2 with
    | none=>none
    | some (z,d3)=>some ((x,y,z),d3):=rfl
set_option maxHeartbeats 8000000 in
theorem JR.read {Z:Nat→Prop} {w0 wq:World} {b:Nat} {S:Wk} {br:Nat} {d:D} {n:Nat} (h:JR Z w0 wq b S br d n) (near:Pt) (hne:nearP near) (bit number place:Int) (hc:0≤place∧place≤1000) (hk:S.known.length≤900000) (hn:n+700≤999999) :
  Calls Tryz.prog 122 #[.pointer (some ⟨b,0,none⟩),.pointer (some ⟨br,0,none⟩),ptV near,.int .i64 bit,.int .i64 number,.int .i64 place] wq fun en w'=>readP Z w0 b br S n (cornerM true d S.known near bit number place) en w':=by
 obtain ⟨Z1,e1,e2,e3,e4⟩:=h.enterR;obtain ⟨K,tr,gs⟩:=S;simp only at hk ⊢;obtain ⟨tgt,htgt⟩:∃t,t=cornerM true d K near bit number place:=⟨_,rfl⟩;rw [←htgt];have HT:=Lib.hid htgt;have HKL:Hid (K.length≤900000):=hk;have HN:Hid (n+700≤999999):=hn;clear htgt hk hn;obtain ⟨n0,n1,n2⟩:=near;obtain ⟨q1,q2,q3⟩:=hne;simp only at q1 q2 q3;obtain ⟨w1,hw1⟩:∃w1,w1=(wq.alloc (.cells #[.int .i64 n0,.int .i64 n1,.int .i64 n2] 43)).alloc (.cells #[.int .i64 0,.int .i64 0,.int .i64 0] 43):=⟨_,rfl⟩;have hu1:Upd noBlk wq w1:=by rw [hw1];exact ((Upd.refl _ wq).alloc _).alloc _
 have HC1:=Lib.hid (e2 w1 hu1);have HP1:Hid (w1.heap[wq.heap.size]?=some (.cells #[.int .i64 n0,.int .i64 n1,.int .i64 n2] 43 (0,0))):=by show _=_;rw [hw1];exact ((Upd.refl noBlk _).alloc _).heap (heap_alloc_new wq _) id
 have HR1:Hid (w1.heap[wq.heap.size+1]?=some (.cells #[.int .i64 0,.int .i64 0,.int .i64 0] 43 (0,0))):=by
  show _=_;rw [hw1];have:=heap_alloc_new (wq.alloc (.cells #[.int .i64 n0,.int .i64 n1,.int .i64 n2] 43)) (.cells #[.int .i64 0,.int .i64 0,.int .i64 0] 43);rwa [World.size_alloc] at this
 obtain ⟨pb,hpb⟩:∃pb,pb=wq.heap.size:=⟨_,rfl⟩;obtain ⟨rb,hrb⟩:∃rb,rb=wq.heap.size+1:=⟨_,rfl⟩;have HDP:Hid (¬Z1 pb):=fun h=>by have:=e1 _ h;omega
 have HDR:Hid (¬Z1 rb):=fun h=>by have:=e1 _ h;omega
 rw [←hpb] at HP1;rw [←hrb] at HR1;have hrl:=lt_of_heap HR1.out;have HOK:Hid (∀w' k d' n' (y0 y1 y2:Int),JR Z1 w1 w' b ⟨k,tr,gs⟩ br d' n'→n'≤n+400→tgt=some ((y0,y1,y2),k,d')→readP Z w0 b br ⟨K,tr,gs⟩ n tgt (.returned (.tuple #[ptV (y0,y1,y2),.bool true])) (((w'.setCell ⟨rb,0,none⟩ (.int .i64 y0)).setCell ⟨rb,1,none⟩ (.int .i64 y1)).setCell ⟨rb,2,none⟩ (.int .i64 y2))):=fun w' k d' n' y0 y1 y2 hj hn' ht=>by
  refine ⟨_,_,rfl,fun h=>(by cases h),fun _=>⟨k,d',ht,?_⟩⟩;exact (e3 w1 w' _ ⟨k,tr,gs⟩ d' n' rb hu1 hj (by omega) hrl ((((Upd.refl (fun k=>k=rb) w').setCell (p:=⟨rb,0,none⟩) (fun _=>rfl) _).setCell (p:=⟨rb,1,none⟩) (fun _=>rfl) _).setCell (p:=⟨rb,2,none⟩) (fun _=>rfl) _)).more hn'
 have HNO:Hid (∀w' p (y0 y1 y2:Int),Upd Z1 w1 w'→tgt=none→readP Z w0 b br ⟨K,tr,gs⟩ n tgt (.returned (.tuple #[ptV p,.bool false])) (((w'.setCell ⟨rb,0,none⟩ (.int .i64 y0)).setCell ⟨rb,1,none⟩ (.int .i64 y1)).setCell ⟨rb,2,none⟩ (.int .i64 y2))):=fun w' p y0 y1 y2 hu ht=>
  ⟨_,_,rfl,fun _=>⟨ht,e4 w1 w' _ rb hu1 hu (by omega) ((((Upd.refl (fun k=>k=rb) w').setCell (p:=⟨rb,0,none⟩) (fun _=>rfl) _).setCell (p:=⟨rb,1,none⟩) (fun _=>rfl) _).setCell (p:=⟨rb,2,none⟩) (fun _=>rfl) _)⟩,fun h=>(by cases h)⟩
 clear h e1 e2 e3 e4 hu1 hrl;unfold ptV;go_enter Tryz.func122,Tryz.ntmps122
 go_upto_region 1 with fail
 rw [←hw1,←hrb,←hpb];clear hw1 hpb hrb;have HB:=Lib.hid (HC1.out.bit (by have:=HN.out;omega) bit);go_wp2_with fail
 refine HB.out.mono ?_;rintro e w2 ⟨rfl,c2⟩;have HC2:=Lib.hid c2;clear c2 HB HC1;rcases hb:d.one bit with _ | _
 ·have hcm:tgt=match placeM (d.bit bit) place (n0,n1,n2) with
    | none=>none
    | some (p,d')=>if true=true∧p∈K then none else some (p,meetK K p,d'):=by
   rw [HT.out];unfold cornerM;rw [hb];rfl
  have HCM:=Lib.hid hcm;have HPL:=Lib.hid (HC2.out.place (by have:=HN.out;omega) place n0 q1.1 q1.2);have HP2:=Lib.hid (HC2.out.keepObj HP1.out HDP.out);have hq1:IntKind.i64.wrap (place+64)=place+64:=wrapN (by omega) (by omega);have hq2:IntKind.i64.wrap (place+128)=place+128:=wrapN (by omega) (by omega);obtain ⟨k0,k1,k2⟩:=cells3 HP2.out;clear hcm hb HT;generalize d.bit bit=d0 at *;go_wp2_with fail
  refine HPL.out.mono ?_;rintro e w3 ⟨x0,ok,rfl,hp0,c3⟩;have HC3:=Lib.hid c3;clear c3 HPL k0 k1 k2 HP2 HC2;cases ok with
  | false=>
   have HTN:Hid (tgt=none):=by
    show _=_;rw [HCM.out,placeM_step,coordP_none hp0]
   clear hp0 HCM HOK;have HRX:=Lib.hid (HC3.out.keepObj HR1.out HDR.out);have HPX:=Lib.hid (HC3.out.keepObj HP1.out HDP.out);have HUX:=Lib.hid HC3.out.up;obtain ⟨⟨z0,z1,z2⟩,⟨f0,f1,f2⟩⟩:=cellsF3 HRX.out;obtain ⟨m0,m1,m2⟩:=cells3 HPX.out;go_wp2_with fail
   have HS:=set3 (y0:=.int .i64 n0) (y1:=.int .i64 n1) (y2:=.int .i64 n2) HRX.out
   (try simp only [Exit.inBlock,Exit.then])
   refine bodyPost_ret (results_ct rfl _ rfl (load_pt (by exact HS))) rfl ?_;exact HNO.out _ (n0,n1,n2) _ _ _ HUX.out HTN.out
  | true=>
   have hx0:=coordP_some hp0;clear hp0;generalize (d0.number place).d=d1 at *;have HX0:=Lib.hid hx0;have HPL:=Lib.hid (HC3.out.place (by have:=HN.out;omega) (place+64) n1 q2.1 q2.2);have HP2:=Lib.hid (HC3.out.keepObj HP1.out HDP.out);obtain ⟨k0,k1,k2⟩:=cells3 HP2.out;clear hx0;go_wp2_with fail
   refine HPL.out.mono ?_;rintro e w4 ⟨x1,ok,rfl,hp1,c4⟩;have HC4:=Lib.hid c4;clear c4 HPL k0 k1 k2 HP2 HC3;cases ok with
   | false=>
    have HTN:Hid (tgt=none):=by
     show _=_;rw [HCM.out,placeM_step,HX0.out];simp only;rw [coordP_none hp1]
    clear hp1 HCM HOK;have HRX:=Lib.hid (HC4.out.keepObj HR1.out HDR.out);have HPX:=Lib.hid (HC4.out.keepObj HP1.out HDP.out);have HUX:=Lib.hid HC4.out.up;obtain ⟨⟨z0,z1,z2⟩,⟨f0,f1,f2⟩⟩:=cellsF3 HRX.out;obtain ⟨m0,m1,m2⟩:=cells3 HPX.out;go_wp2_with fail
    have HS:=set3 (y0:=.int .i64 n0) (y1:=.int .i64 n1) (y2:=.int .i64 n2) HRX.out
    (try simp only [Exit.inBlock,Exit.then])
    refine bodyPost_ret (results_ct rfl _ rfl (load_pt (by exact HS))) rfl ?_;exact HNO.out _ (n0,n1,n2) _ _ _ HUX.out HTN.out
   | true=>
    have hx1:=coordP_some hp1;clear hp1;generalize (d1.number (place+64)).d=d2 at *;have HX1:=Lib.hid hx1;have HPL:=Lib.hid (HC4.out.place (by have:=HN.out;omega) (place+128) n2 q3.1 q3.2);have HP2:=Lib.hid (HC4.out.keepObj HP1.out HDP.out);obtain ⟨k0,k1,k2⟩:=cells3 HP2.out;clear hx1;go_wp2_with fail
    refine HPL.out.mono ?_;rintro e w5 ⟨x2,ok,rfl,hp2,c5⟩;have HC5:=Lib.hid c5;have HPL3:Hid (tgt=if ok=true then (if (x0,x1,x2)∈K then none else some ((x0,x1,x2),meetK K (x0,x1,x2),(d2.number (place+128)).d)) else none):=by
     show _=_;rw [HCM.out,placeM_step,HX0.out];simp only;rw [HX1.out];simp only;cases ok with
     | false=>rw [coordP_none hp2];rfl
     | true=>rw [coordP_some hp2];simp
    clear c5 HPL k0 k1 k2 HP2 HC4 hp2 HCM HX0 HX1;generalize (d2.number (place+128)).d=d3 at *;obtain ⟨Z2,g1,g2,g3,g4⟩:=HC5.out.enter;obtain ⟨w6,hw6⟩:∃w6,w6=w5.alloc (.cells #[.int .i64 x0,.int .i64 x1,.int .i64 x2] 43):=⟨_,rfl⟩;obtain ⟨vb,hvb⟩:∃vb,vb=w5.heap.size:=⟨_,rfl⟩;have hu6:Upd noBlk w5 w6:=by rw [hw6];exact (Upd.refl _ w5).alloc _
    have HC6:=Lib.hid (g2 w6 hu6);have HV6:Hid (w6.heap[vb]?=some (.cells #[.int .i64 x0,.int .i64 x1,.int .i64 x2] 43 (0,0))):=by show _=_;rw [hw6,hvb];exact heap_alloc_new w5 _
    have HDV:Hid (¬Z2 vb):=fun h=>by have:=g1 _ h;omega
    have HDR2:Hid (¬Z2 rb):=fun h=>by
     rcases g4 _ h with h | h
     ·exact HDR.out h
     ·have:=lt_of_heap HR1.out;omega
    have HR6:=Lib.hid (hu6.heap (HC5.out.keepObj HR1.out HDR.out) id);have HG3:Hid (∀w' S' d' n',JR Z2 w6 w' b S' br d' n'→JR Z1 w1 w' b S' br d' n'):=fun w' S' d' n' h=>g3 w6 w' S' d' n' hu6 h;clear g1 g2 g3 g4 hu6;go_upto_region 15 with fail
    rw [←hw6,←hvb];clear hw6 hvb HC5;have HF:=Lib.hid (HC6.out.find (x0,x1,x2) (by have:=HKL.out;show K.length≤_;omega));simp only at HF;unfold ptV at HF;obtain ⟨k0,k1,k2⟩:=cells3 HV6.out;by_cases hm:(x0,x1,x2)∈K
    ·obtain ⟨ix,hf,hlt,hid⟩:=findI_yes hm;rw [hf] at HF;have hge:¬(ix:Int)<0:=by omega
     have HTN:Hid (tgt=none):=by show _=_;rw [HPL3.out];split<;>first | (rw [if_pos hm]) | rfl
     clear hf hlt hid hm HPL3 HOK;go_wp2_with fail
     refine HF.out.mono ?_;rintro e w7 ⟨rfl,u7⟩;have HC7:=Lib.hid (HG3.out _ _ _ _ (HC6.out.upd u7));have HV7:=Lib.hid (u7.heap HV6.out id);have HR7:=Lib.hid (u7.heap HR6.out id);have HUX:=Lib.hid HC7.out.up;clear u7 HF k0 k1 k2 HC6 HC7 HV6 HR6;obtain ⟨k0,k1,k2⟩:=cells3 HV7.out;obtain ⟨⟨z0,z1,z2⟩,⟨f0,f1,f2⟩⟩:=cellsF3 HR7.out;have HS:=set3 (y0:=.int .i64 x0) (y1:=.int .i64 x1) (y2:=.int .i64 x2) HR7.out;have HZZ:=Lib.hid HS;clear HS;cases ok
     all_goals (go_wp2_with fail;(try simp only [Exit.inBlock,Exit.then]);refine bodyPost_ret (results_ct rfl _ rfl (load_pt (by exact HZZ.out))) rfl ?_;exact HNO.out _ (x0,x1,x2) _ _ _ HUX.out HTN.out)
    ·have hf:findI K (x0,x1,x2)=-1:=by unfold findI;rw [if_neg hm]
     rw [hf] at HF;have HTS:Hid (tgt=if ok=true then some ((x0,x1,x2),K++[(x0,x1,x2)],d3) else none):=by
      show _=_;rw [HPL3.out,if_neg hm];unfold meetK;rw [if_neg hm]
     clear hf hm HPL3;go_wp2_with fail
     refine HF.out.mono ?_;rintro e w7 ⟨rfl,u7⟩;have HC7:=Lib.hid (HC6.out.upd u7);have HV7:=Lib.hid (u7.heap HV6.out id);clear u7 HF k0 k1 k2 HC6;obtain ⟨A,cap,g,cap3,x3,vT,vG,hst,r3,hst3,hkp,c8⟩:=HC7.out.know (x0,x1,x2) (by have:=HKL.out;show K.length≤_;omega);simp only at hst r3 hst3 c8;have HST:=Lib.hid hst;have HST3:=Lib.hid hst3;have HR3:=Lib.hid r3;have HVX:=Lib.hid (hkp vb _ HV6.out HDV.out);have HC8:=Lib.hid (HG3.out _ _ _ _ c8);have HV8:=Lib.hid (c8.keepObj HV6.out HDV.out);have HR8:=Lib.hid (c8.keepObj HR6.out HDR2.out);have HMB:Hid ((w7.drew.alloc (.cells (ptC (x0,x1,x2)).toArray 43)).heap[b]?=some (.cells #[.slice A K.length cap,vT,vG] 120 (0,0))):=((Upd.refl noBlk w7).drew.alloc _).heap hst id;clear hst r3 hst3 hkp c8;unfold ptC at HR3 HMB;go_upto_region 17 with fail
     refine wp_region_tree 8 (OT.sures [0,1,5,2,3,4] (.run 6 (.run 7 .nil))) (fun w'=>w'.heap[b]?=some (.cells #[.slice A K.length cap,vT,vG] 120 (0,0))∧w'.heap[vb]?=some (.cells #[.int .i64 x0,.int .i64 x1,.int .i64 x2] 43 (0,0))) (by kernel_rfl) (by kernel_rfl) (fun c a d v w h=>by cases d<;>exact h) ⟨(Upd.refl noBlk w7).drew.heap HST.out id,(Upd.refl noBlk w7).drew.heap HV7.out id⟩ ?_
     simp only [OT.sures]
     iterate 6 (apply wpT_sure rfl rfl;focus (intro w' hw';obtain ⟨⟨k0,k1,k2⟩,_⟩:=cellsF3 hw'.1;obtain ⟨g0,g1,g2⟩:=cells3 hw'.2;go_simp;rfl))
     refine wpT_run _ (fun _ h=>h) rfl (fun K' hK=>?_);go_simp
     refine hK _ _ ⟨⟨HMB.out,((Upd.refl noBlk w7).drew.alloc _).heap HV7.out id⟩,?_⟩;clear hK K';refine wpT_run _ (fun _ h=>h) rfl (fun K' hK=>?_);rw [if_pos (by rfl)];refine wp_append_run _ _ _ rfl rfl rfl HR3.out ?_;refine hK _ _ ⟨⟨HST3.out,HVX.out⟩,?_⟩;clear hK K' HR3 HMB;refine wpT_nil ?_;obtain ⟨⟨k0,k1,k2⟩,⟨f0,f1,f2⟩⟩:=cellsF3 HST3.out;go_upto_region 18 with fail
     clear k0 k1 k2 f0 f1 f2 HST3 HVX HST HV7 HV6 HR6 HC7;generalize x3.setCell ⟨b,0,none⟩ (.slice (some ⟨g,0,none⟩) (K.length+1) cap3)=x4 at *;obtain ⟨k0,k1,k2⟩:=cells3 HV8.out;obtain ⟨⟨z0,z1,z2⟩,⟨f0,f1,f2⟩⟩:=cellsF3 HR8.out;have HZZ:=Lib.hid (set3 (y0:=.int .i64 x0) (y1:=.int .i64 x1) (y2:=.int .i64 x2) HR8.out);have HUX:=Lib.hid HC8.out.up;cases ok with
     | false=>
      have HTN:Hid (tgt=none):=HTS.out;go_wp2_with fail
      (try simp only [Exit.inBlock,Exit.then])
      refine bodyPost_ret (results_ct rfl _ rfl (load_pt (by exact HZZ.out))) rfl ?_;exact HNO.out _ (x0,x1,x2) _ _ _ HUX.out HTN.out
     | true=>
      have HTY:Hid (tgt=some ((x0,x1,x2),K++[(x0,x1,x2)],d3)):=HTS.out;go_wp2_with fail
      (try simp only [Exit.inBlock,Exit.then])
      refine bodyPost_ret (results_ct rfl _ rfl (load_pt (by exact HZZ.out))) rfl ?_;exact HOK.out _ _ _ _ x0 x1 x2 HC8.out (by omega) HTY.out
 ·have hcm:tgt=if ((d.bit bit).number number).ok=true∧((d.bit bit).number number).n<K.length then some (getK K ((d.bit bit).number number).n,K,((d.bit bit).number number).d) else none:=by
   rw [HT.out];unfold cornerM;rw [hb];rfl
  have HCM:=Lib.hid hcm;have HNU:=Lib.hid (HC2.out.number (by have:=HN.out;omega) number);clear hcm hb HT;generalize (d.bit bit).number number=x at *;obtain ⟨m,ok,d'⟩:=x;unfold numV at HNU;simp only at HNU HCM;go_wp2_with fail
  refine HNU.out.mono ?_;rintro e w3 ⟨rfl,c3⟩;have HC3:=Lib.hid c3;obtain ⟨AK,cK,AT,cT,vG,hst,hrd,_⟩:=c3.state;simp only at hst hrd;have HST:=Lib.hid hst;have HRD:=Lib.hid hrd;clear c3 HNU HC2 hst hrd;cases ok with
  | false=>
   have HTN:Hid (tgt=none):=by show _=_;rw [HCM.out];exact if_neg (fun h=>by cases h.1)
   clear HCM HOK;have HRX:=Lib.hid (HC3.out.keepObj HR1.out HDR.out);have HPX:=Lib.hid (HC3.out.keepObj HP1.out HDP.out);have HUX:=Lib.hid HC3.out.up;obtain ⟨⟨z0,z1,z2⟩,⟨f0,f1,f2⟩⟩:=cellsF3 HRX.out;obtain ⟨m0,m1,m2⟩:=cells3 HPX.out;go_wp2_with fail
   have HS:=set3 (y0:=.int .i64 n0) (y1:=.int .i64 n1) (y2:=.int .i64 n2) HRX.out
   (try simp only [Exit.inBlock,Exit.then])
   refine bodyPost_ret (results_ct rfl _ rfl (load_pt (by exact HS))) rfl ?_;exact HNO.out _ (n0,n1,n2) _ _ _ HUX.out HTN.out
  | true=>
   obtain ⟨⟨s0,s1,s2⟩,_⟩:=cellsF3 HST.out;have hkI:(K.length:Int)≤900000:=by have:=HKL.out;omega
   have hwk:IntKind.u64.wrap (K.length:Int)=(K.length:Int):=by have:=IntKind.wrap_u64 (K.length:Int);omega
   by_cases hm:m<K.length
   ·have hm':¬(K.length:Int)≤(m:Int):=by omega
    obtain ⟨i,hi⟩:∃i,i=K.length-1-m:=⟨_,rfl⟩;have hil:i<K.length:=by omega
    have hget:getK K m=K[i]:=by
     unfold getK;rw [←hi,List.getD_eq_getElem?_getD,List.getElem?_eq_getElem hil];rfl
    have HTY:Hid (tgt=some (K[i],K,d')):=by show _=_;rw [HCM.out,if_pos ⟨rfl,hm⟩,hget]
    have hw0:IntKind.i64.wrap (m:Int)=(m:Int):=wrapN (by omega) (by omega);have hw1:IntKind.i64.wrap ((K.length:Int)-1)=(K.length:Int)-1:=wrapN (by omega) (by omega);have hw2:IntKind.i64.wrap ((K.length:Int)-1-(m:Int))=(i:Int):=by rw [wrapN (by omega) (by omega)];omega
    have hiI:(i:Int)<(K.length:Int):=by omega
    obtain ⟨AK',cK',e,_,hx⟩:=HRD.out;cases e;obtain ⟨bk,ok',rfl,hat⟩:=hx (by omega);have hcell:=hat i hil;rw [show kPt.k=3 from rfl] at hcell;have HCE:=Lib.hid hcell;have HR3:=Lib.hid (HC3.out.keepObj HR1.out HDR.out);clear hat hcell hx hget hi hm HCM HRD;generalize K[i]=q at *;clear hil;obtain ⟨y0,y1,y2⟩:=q;go_upto_region 6 with fail
    clear s0 s1 s2;refine wp_region_tree 15 (OT.sures [0,4,10,11,1,5,2,3,6,7,8,9,12,13,14] .nil) (fun w'=>Gr w3 w') (by kernel_rfl) (by kernel_rfl) (fun c a d v w h=>by cases d<;>exact h) ((Gr.refl w3).drew) ?_
    simp only [OT.sures]
    iterate 15 (apply wpT_sure rfl rfl;focus (intro w' hw';obtain ⟨⟨s0,s1,s2⟩,_⟩:=cellsF3 (hw'.heap HST.out id);obtain ⟨k0,k1,k2⟩:=ptAt3 (HCE.out.keep hw'.up);go_simp;rfl))
    refine wpT_nil ?_;obtain ⟨⟨z0,z1,z2⟩,⟨f0,f1,f2⟩⟩:=cellsF3 HR3.out;have HZZ:=Lib.hid (set3 (y0:=.int .i64 y0) (y1:=.int .i64 y1) (y2:=.int .i64 y2) HR3.out);go_wp2_with fail
    (try simp only [Exit.inBlock,Exit.then])
    refine bodyPost_ret (results_ct rfl _ rfl (load_pt (by exact HZZ.out))) rfl ?_;exact HOK.out w3.drew _ _ _ y0 y1 y2 HC3.out.drew (by omega) HTY.out
   ·have hm':(K.length:Int)≤(m:Int):=by omega
    have HTN:Hid (tgt=none):=by show _=_;rw [HCM.out];exact if_neg (fun h=>hm h.2)
    clear HCM HOK hm;have HRX:=Lib.hid (HC3.out.keepObj HR1.out HDR.out);have HPX:=Lib.hid (HC3.out.keepObj HP1.out HDP.out);have HUX:=Lib.hid HC3.out.up;obtain ⟨⟨z0,z1,z2⟩,⟨f0,f1,f2⟩⟩:=cellsF3 HRX.out;obtain ⟨m0,m1,m2⟩:=cells3 HPX.out;go_wp2_with fail
    have HS:=set3 (y0:=.int .i64 n0) (y1:=.int .i64 n1) (y2:=.int .i64 n2) HRX.out
    (try simp only [Exit.inBlock,Exit.then])
    refine bodyPost_ret (results_ct rfl _ rfl (load_pt (by exact HS))) rfl ?_;exact HNO.out _ (n0,n1,n2) _ _ _ HUX.out HTN.out
end Go.Proofs.YtcikldoaidmnhaaGreatDoor
