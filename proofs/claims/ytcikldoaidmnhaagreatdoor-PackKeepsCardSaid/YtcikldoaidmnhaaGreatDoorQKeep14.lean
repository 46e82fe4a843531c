/- Parts: A state and a reader side by side: what each step leaves. No condition. Reading a cluster as a plain function: what stays true along the way, and that it comes to an end. No condition. Walks of the coder: the reader's Number. Walks of the packets' program: a triangle that is not at a gate is written. No condition. Walks of the packets' program: reading is abandoned; a number below a limit is read. -/
import Derived.Test.YtcikldoaidmnhaaGreatDoorQKeep7
import Derived.Test.YtcikldoaidmnhaaGreatDoorQKeep13
namespace Go.Proofs.YtcikldoaidmnhaaGreatDoor
open Go Go.RowKit Pk Pc
set_option maxRecDepth 100000
theorem index_tri (t:Tri) (j:Nat) (hj:j<3) (W:World):(Instr.index 45 (triV t) (.int .i64 (j:Int))).run Tryz.prog W=.ok (ptV (cornAt t j)) W:=by
 obtain ⟨⟨a0,a1,a2⟩,⟨a3,a4,a5⟩,⟨a6,a7,a8⟩⟩:=t;rcases (by omega:j=0∨j=1∨j=2) with rfl | rfl | rfl<;>kernel_rfl
theorem cells2 {w:World} {b:Nat} {x0 x1:Value} {t:TypeId} {fr:Nat × Nat} (h:w.heap[b]?=some (.cells #[x0,x1] t fr)):w.cell? ⟨b,0,none⟩=some x0∧w.cell? ⟨b,1,none⟩=some x1:=by simp [World.cell?,h]
set_option maxHeartbeats 4000000 in
theorem seed_any {D:Nat→Prop} {w0 wq:World} {b:Nat} {S:Wk} {bw:Nat} {l:Pk.Bits} (h:CW D w0 wq b S bw l) (t:Tri) (ht:inT t) (hk:∀p,p∈S.known→inP p) (hkl:S.known.length≤90000) (hfr:freeT false S.tris t) (htl:S.tris.length≤100000) (hgl:S.gates.length≤1000000) (hl:l.length≤700000) :
  Calls Tryz.prog 48 #[.agg #[.pointer (some ⟨b,0,none⟩),.pointer (some ⟨bw,0,none⟩)],triV t] wq fun en w'=>en=.returned (.tuple #[])∧CW D w0 w' b (Wk.visit ⟨seedK t S.known 3,S.tris,S.gates⟩ t 0) bw (l++seedBs t S.known 3):=by
 obtain ⟨D1,e1,e2,e3,_⟩:=h.enter;have HIX:=fun j hj W=>Lib.hid (index_tri t j hj W);obtain ⟨K,tr,gs⟩:=S;simp only at *;have HT:=Lib.hid ht;have HK:=Lib.hid hk;have HKL:Hid (K.length≤90000):=hkl;have HFR:=Lib.hid hfr;have HTL:Hid (tr.length≤100000):=htl;have HGL:Hid (gs.length≤1000000):=hgl;have HLL:Hid (l.length≤700000):=hl;obtain ⟨tv,htv⟩:∃tv,tv=triC t:=⟨_,rfl⟩;have htV:triV t=.agg tv.toArray:=by rw [htv];rfl
 obtain ⟨w1,hw1⟩:∃w1,w1=(wq.alloc (.cells #[.pointer (some ⟨b,0,none⟩),.pointer (some ⟨bw,0,none⟩)] 95)).alloc (.cells (triC t).toArray 45):=⟨_,rfl⟩;have hu1:Upd noBlk wq w1:=by rw [hw1];exact ((Upd.refl _ wq).alloc _).alloc _
 have HC1:=Lib.hid (e2 w1 hu1);have HB1:Hid (w1.heap[wq.heap.size]?=some (.cells #[.pointer (some ⟨b,0,none⟩),.pointer (some ⟨bw,0,none⟩)] 95 (0,0))):=by show _=_;rw [hw1];exact ((Upd.refl noBlk _).alloc _).heap (heap_alloc_new wq _) id
 have HT1:Hid (w1.heap[wq.heap.size+1]?=some (.cells (triC t).toArray 45 (0,0))):=by
  show _=_;rw [hw1];have:=heap_alloc_new (wq.alloc (.cells #[.pointer (some ⟨b,0,none⟩),.pointer (some ⟨bw,0,none⟩)] 95)) (.cells (triC t).toArray 45);rwa [World.size_alloc] at this
 have HE3:Hid (∀w' S' l',CW D1 w1 w' b S' bw l'→CW D w0 w' b S' bw l'):=fun w' S' l'=>e3 w1 w' S' l' hu1;have HD0:Hid (¬D1 wq.heap.size):=fun h=>by have:=e1 _ h;omega
 have HD1:Hid (¬D1 (wq.heap.size+1)):=fun h=>by have:=e1 _ h;omega
 clear h e1 e2 e3 ht hk hkl hfr htl hgl hl htv htV;clear tv;obtain ⟨⟨a0,a1,a2⟩,⟨a3,a4,a5⟩,⟨a6,a7,a8⟩⟩:=t;unfold triV triC at *;go_enter Tryz.func48,Tryz.ntmps48
 go_upto_region 1 with fail
 rw [←hw1];clear hw1 hu1;obtain ⟨g0,g1,g2,g3,g4,g5,g6,g7,g8⟩:=cells9 HT1.out;go_wp2_with fail
 clear g0 g1 g2 g3 g4 g5 g6 g7 g8;go_loopw [10] (fun i wr=>∃j:Nat,i=.int .i64 j∧j≤3∧CW D1 w1 wr b ⟨seedK ((a0,a1,a2),(a3,a4,a5),(a6,a7,a8)) K j,tr,gs⟩ bw (l++seedBs ((a0,a1,a2),(a3,a4,a5),(a6,a7,a8)) K j)) (fun i _=>3-(intOf i).toNat)
 case atStart=>exact ⟨0,rfl,by omega,by show CW _ _ _ _ ⟨K,tr,gs⟩ _ (l++[]);rw [List.append_nil];exact HC1.out⟩
 case round=>
  obtain ⟨j,rfl,hj,hc⟩:=hrel;have HC:=Lib.hid hc;clear hc HC1;by_cases hj3:j<3
  ·have hj':(j:Int)<3:=by omega
   have hix:=fun W=>(HIX j hj3 W).out;have hpin:=cornAt_in HT.out j;have hKin:=seedK_in HT.out HK.out j;have hKlen:=seedK_len ((a0,a1,a2),(a3,a4,a5),(a6,a7,a8)) K j;have hBlen:=seedBs_len HT.out HK.out HKL.out j hj;have hnin:=near_of_in (lastK_in hKin);have HS:Hid (seedBs ((a0,a1,a2),(a3,a4,a5),(a6,a7,a8)) K (j+1)=seedBs ((a0,a1,a2),(a3,a4,a5),(a6,a7,a8)) K j++cornerB (seedK ((a0,a1,a2),(a3,a4,a5),(a6,a7,a8)) K j) (cornAt ((a0,a1,a2),(a3,a4,a5),(a6,a7,a8)) j) (lastK (seedK ((a0,a1,a2),(a3,a4,a5),(a6,a7,a8)) K j)) 0 192 256):=rfl;have HSK:Hid (seedK ((a0,a1,a2),(a3,a4,a5),(a6,a7,a8)) K (j+1)=meetK (seedK ((a0,a1,a2),(a3,a4,a5),(a6,a7,a8)) K j) (cornAt ((a0,a1,a2),(a3,a4,a5),(a6,a7,a8)) j)):=rfl;obtain ⟨D2,d1,d2,d3,d4⟩:=HC.out.enter;have HBR:=Lib.hid (HC.out.keepObj HB1.out HD0.out);have HLT:Hid (wq.heap.size<wr.heap.size):=lt_of_heap HBR.out;have HD2:Hid (¬D2 wq.heap.size):=fun h=>by
    rcases d4 _ h with h | h
    ·exact HD0.out h
    ·have:=lt_of_heap HB1.out;omega
   have HDD:=Lib.hid d1;have HD3:=Lib.hid d2;have HD4:=Lib.hid d3;clear d1 d2 d3 d4;generalize seedK ((a0,a1,a2),(a3,a4,a5),(a6,a7,a8)) K j=KJ at *;generalize seedBs ((a0,a1,a2),(a3,a4,a5),(a6,a7,a8)) K j=BJ at *;generalize hpp:cornAt ((a0,a1,a2),(a3,a4,a5),(a6,a7,a8)) j=pj at *;clear hpp;obtain ⟨p0,p1,p2⟩:=pj;generalize hnn:lastK KJ=nj at *;have HNN:=Lib.hid hnn;clear hnn;obtain ⟨n0,n1,n2⟩:=nj;have HPIN:=Lib.hid hpin;have HNIN:=Lib.hid hnin;have HKJL:Hid (KJ.length≤90003):=by have:=HKL.out;show _≤_;omega
   have HBJL:Hid ((l++BJ).length≤702000):=by have:=HLL.out;show _≤_;rw [List.length_append];omega
   unfold ptV at hix;clear hpin hnin hKin hKlen hBlen;have hu1:Upd noBlk wr (wr.alloc (.cells #[.int .i64 p0,.int .i64 p1,.int .i64 p2] 43)):=(Upd.refl _ wr).alloc _;have HLAST:=Lib.hid ((HD3.out _ hu1).last (by have:=HKJL.out;show KJ.length≤_;omega));have HU1:=Lib.hid hu1;have HP1:=Lib.hid (heap_alloc_new wr (.cells #[.int .i64 p0,.int .i64 p1,.int .i64 p2] 43));have HB2:=Lib.hid (hu1.heap HBR.out id);obtain ⟨b0,b1⟩:=cells2 HBR.out;obtain ⟨b0',b1'⟩:=cells2 HB2.out;rw [HNN.out] at HLAST;clear hu1;go_wp2_with fail
   refine HLAST.out.mono ?_;rintro e w2 ⟨rfl,u2⟩;have HU2:=Lib.hid (HU1.out.trans u2);have HB3:=Lib.hid (u2.heap HB2.out id);have HP2:=Lib.hid (u2.heap HP1.out id);clear u2 HLAST b0 b1 b0' b1';unfold ptV;have HU3:=Lib.hid (HU2.out.alloc (.cells #[.int .i64 n0,.int .i64 n1,.int .i64 n2] 43));have hu3:Upd noBlk w2 (w2.alloc (.cells #[.int .i64 n0,.int .i64 n1,.int .i64 n2] 43)):=(Upd.refl _ w2).alloc _;have HB4:=Lib.hid (hu3.heap HB3.out id);have HP4:=Lib.hid (hu3.heap HP2.out id);have HN4:=Lib.hid (heap_alloc_new w2 (.cells #[.int .i64 n0,.int .i64 n1,.int .i64 n2] 43));have HBN:Hid (wr.heap.size≤w2.heap.size):=HU2.out.size;have HMEET:=Lib.hid ((HD3.out _ HU3.out).meet (p0,p1,p2) (okP_of HPIN.out) (by have:=HKJL.out;show KJ.length≤_;omega));obtain ⟨x3,hx3⟩:∃x3,x3=w2.alloc (.cells #[.int .i64 n0,.int .i64 n1,.int .i64 n2] 43):=⟨_,rfl⟩;rw [←hx3] at HU3 HB4 HP4 HN4 HMEET;have HBS:=HB4;have HPS:=HP4;have HNS:=HN4;obtain ⟨b0,b1⟩:=cells2 HB4.out;obtain ⟨k0,k1,k2⟩:=cells3 HP4.out;clear hu3 HB2 HP1 HB3 HP2;go_upto_region 5 with fail
   rw [←hx3];clear hx3;unfold ptV at HMEET;go_wp2_with fail
   refine HMEET.out.mono ?_;rintro e w4 ⟨rfl,hc4⟩;have HC4:=Lib.hid hc4;have HB5:=Lib.hid (hc4.keepObj HB4.out HD2.out);have HP5:=Lib.hid (hc4.keepObj HP4.out (fun h=>by have:=HDD.out _ h;omega));have HN5:=Lib.hid (hc4.keepObj HN4.out (fun h=>by have:=HDD.out _ h;have:=HBN.out;omega));clear hc4 HMEET b0 b1 k0 k1 k2 HB4 HP4 HN4;obtain ⟨b0,b1⟩:=cells2 HB5.out;by_cases hm:(p0,p1,p2)∈KJ
   ·have hd:decide ((p0,p1,p2)∈KJ)=true:=decide_eq_true hm;have HCB:Hid (cornerB KJ (p0,p1,p2) (n0,n1,n2) 0 192 256=[(0,true)]++numBits 192 (meetN KJ (p0,p1,p2))):=by
     show _=_;unfold cornerB meetN;rw [if_pos hm,if_pos hm];rfl
    have HML:Hid (meetN KJ (p0,p1,p2)≤100000):=by show _≤_;unfold meetN;have:=HKJL.out;split<;>omega
    generalize meetN KJ (p0,p1,p2)=mn at *;have hwn:IntKind.u64.wrap (mn:Int)=(mn:Int):=by have:=HML.out;have:=IntKind.wrap_u64 (mn:Int);omega
    rw [hd];have HBIT:=Lib.hid (HC4.out.bit 0 true (by have:=HBJL.out;omega));clear hm hd;go_wp2_with fail
    refine HBIT.out.mono ?_;rintro e w5 ⟨rfl,hc5⟩;have HC5:=Lib.hid hc5;have HB6:=Lib.hid (hc5.keepObj HBS.out HD2.out);clear hc5 HBIT b0 b1;obtain ⟨b0,b1⟩:=cells2 HB6.out;have HNUM:=Lib.hid (HC5.out.number 192 mn (by have:=HML.out;omega) (by have:=HBJL.out;rw [List.length_append];simp only [List.length_cons,List.length_nil];omega));go_wp2_with fail
    refine HNUM.out.mono ?_;rintro e w6 ⟨rfl,hc6⟩;have HC6:=Lib.hid (HD4.out x3 w6 _ _ HU3.out hc6);clear hc6 HNUM b0 b1;go_wp2_with fail
    refine ⟨⟨j+1,by go_num,by omega,?_⟩,by simp [intOf];omega⟩;rw [HS.out,HSK.out,HCB.out,←List.append_assoc,←List.append_assoc];exact HC6.out
   ·have hd:decide ((p0,p1,p2)∈KJ)=false:=decide_eq_false hm;have HCB:Hid (cornerB KJ (p0,p1,p2) (n0,n1,n2) 0 192 256=[(0,false)]++placeB 256 (p0,p1,p2) (n0,n1,n2)):=by
     show _=_;unfold cornerB;rw [if_neg hm];rfl
    rw [hd];have HBIT:=Lib.hid (HC4.out.bit 0 false (by have:=HBJL.out;omega));clear hm hd;go_wp2_with fail
    refine HBIT.out.mono ?_;rintro e w5 ⟨rfl,hc5⟩;have HC5:=Lib.hid hc5;have HB6:=Lib.hid (hc5.keepObj HBS.out HD2.out);have HP6:=Lib.hid (hc5.keepObj HPS.out (fun h=>by have:=HDD.out _ h;omega));have HN6:=Lib.hid (hc5.keepObj HNS.out (fun h=>by have:=HDD.out _ h;have:=HBN.out;omega));clear hc5 HBIT b0 b1;obtain ⟨b0,b1⟩:=cells2 HB6.out;obtain ⟨k0,k1,k2⟩:=cells3 HP6.out;obtain ⟨m0,m1,m2⟩:=cells3 HN6.out;obtain ⟨f1,f2,f3⟩:=far_of HPIN.out HNIN.out;have HPL:=Lib.hid (HC5.out.place 256 ⟨by omega,by omega⟩ (p0,p1,p2) (n0,n1,n2) f1 f2 f3 (by have:=HBJL.out;rw [List.length_append];simp only [List.length_cons,List.length_nil];omega));unfold ptV at HPL;clear f1 f2 f3;go_wp2_with fail
    refine HPL.out.mono ?_;rintro e w6 ⟨rfl,hc6⟩;have HC6:=Lib.hid (HD4.out x3 w6 _ _ HU3.out hc6);clear hc6 HPL b0 b1 k0 k1 k2 m0 m1 m2;go_wp2_with fail
    refine ⟨⟨j+1,by go_num,by omega,?_⟩,by simp [intOf];omega⟩;rw [HS.out,HSK.out,HCB.out,←List.append_assoc,←List.append_assoc];exact HC6.out
  ·obtain rfl:j=3:=by omega
   have HBE:=Lib.hid (HC.out.keepObj HB1.out HD0.out);have HTE:=Lib.hid (HC.out.keepObj HT1.out HD1.out);obtain ⟨b0,b1⟩:=cells2 HBE.out;obtain ⟨g0,g1,g2,g3,g4,g5,g6,g7,g8⟩:=cells9 HTE.out;have HV:=Lib.hid (HC.out.visit ((a0,a1,a2),(a3,a4,a5),(a6,a7,a8)) 0 (.inl rfl) (okT_of HT.out) HFR.out HTL.out HGL.out);unfold triV triC at HV;go_wp2_with fail
   refine HV.out.mono ?_;rintro e w6 ⟨rfl,hc6⟩;have HC6:=Lib.hid (HE3.out _ _ _ hc6);clear hc6 HV;go_wp2_with fail
   go_end0
   exact ⟨rfl,HC6.out⟩
end Go.Proofs.YtcikldoaidmnhaaGreatDoor
namespace Go.Proofs.YtcikldoaidmnhaaGreatDoor
open Go Go.RowKit Pc
set_option maxRecDepth 100000
structure RG (F0:Nat→Prop) (w wr:World) (r:Nat) (d:D) (F:Nat→Prop):Prop where
 rep:RRep wr r d F
 new:∀k,F k→F0 k∨w.heap.size≤k
 up:Upd F0 w wr
theorem RG.self {w:World} {r:Nat} {d:D} {F:Nat→Prop} (h:RRep w r d F):RG F w w r d F:=⟨h,fun _ hk=>.inl hk,Upd.refl _ _⟩
theorem RG.bit {F0:Nat→Prop} {w wr:World} {r:Nat} {d:D} {F:Nat→Prop} (h:RG F0 w wr r d F) (c:Int) :
  Calls Tryz.prog 151 #[.pointer (some ⟨r,0,none⟩),.int .i64 c] wr fun en w'=>en=.returned (.bool (d.one c))∧∃F',RG F0 w w' r (d.bit c) F':=by
 refine (RBit_any r c d F wr h.rep).mono ?_;rintro e w2 ⟨rfl,F',q1,q2,q3⟩;exact ⟨rfl,F',q1,fun j hj=>(q3 j hj).elim (h.new j) (fun x=>.inr (Nat.le_trans h.up.size x)),upd_foot h.up q2 h.new⟩
theorem ones_step {c:Int} {k:Nat} (hk:k≤64) (d:D):D.ones c (65-k) d=if d.one (nctx c k) then D.ones c (64-k) (d.bit (nctx c k)) else (k,d.bit (nctx c k)):=by
 rw [show 65-k=(64-k)+1 by omega,D.ones,show 64-(64-k)=k by omega]
def numV (x:NumR):Value:=.tuple #[.int .u64 (x.n:Int),.bool x.ok]
theorem number_many {c:Int} {d d':D} (h:(65,d')=D.ones c 65 d):d.number c=⟨0,false,d'⟩:=by unfold D.number;rw [←h];simp
theorem number_none {c:Int} {d d':D} (h:(0,d')=D.ones c 65 d):d.number c=⟨0,true,d'⟩:=by unfold D.number;rw [←h];simp
theorem number_some {c:Int} {d d':D} {k:Nat} (h:(k,d')=D.ones c 65 d) (h0:0<k) (h1:k≤64):d.number c=⟨(D.val c (k-1) 1 d').1,true,(D.val c (k-1) 1 d').2⟩:=by
 unfold D.number;rw [←h];simp only;rw [if_neg (by omega),if_neg (by omega)]
theorem or_one {x:Nat} (hx:x<9223372036854775808):bits .or .u64 ((x:Int)*2) 1=(((2*x+1:Nat)):Int):=by
 have h:=u64_or_nat (2*x) 1 (by omega) (by omega);rw [show (x:Int)*2=((2*x:Nat):Int) by omega,show (1:Int)=((1:Nat):Int) from rfl,h];rw [nat_join 1 _ _ (by omega) (by omega)]
theorem val_bd {x m:Nat} (hm:m+1≤63) (h:x<2 ^ (64-(m+1))):x<9223372036854775808∧2*x+1<2 ^ (64-m):=by
 have e:2 ^ (64-m)=2 ^ (64-(m+1))*2:=by rw [←Nat.pow_succ];congr 1;omega
 have h1:2 ^ (64-(m+1))≤2 ^ 63:=Nat.pow_le_pow_right (by omega) (by omega);constructor
 ·omega
 ·omega
set_option maxHeartbeats 1000000 in
theorem RNumber_any {F0:Nat→Prop} {w0 w:World} {r:Nat} {d:D} {F:Nat→Prop} (h:RG F0 w0 w r d F) (c:Int) :
  Calls Tryz.prog 174 #[.pointer (some ⟨r,0,none⟩),.int .i64 c] w fun en w'=>en=.returned (numV (d.number c))∧∃F',RG F0 w0 w' r (d.number c).d F':=by
 have H:=Lib.hid h;clear h;go_enter Tryz.func174,Tryz.ntmps174
 go_wp2_with fail
 go_loopw [6] (fun i wr=>∃k:Nat,i=.int .i64 k∧k≤64∧∃d' F',RG F0 w0 wr r d' F'∧D.ones c (65-k) d'=D.ones c 65 d) (fun i _=>65-(intOf i).toNat)
 case atStart=>exact ⟨0,rfl,Nat.zero_le _,d,F,H.out,rfl⟩
 case round=>
  obtain ⟨k,rfl,hk,d',F',h1,h2⟩:=hrel;have H1:=Lib.hid h1;have H2:Hid ((if d'.one (nctx c k) then D.ones c (64-k) (d'.bit (nctx c k)) else (k,d'.bit (nctx c k)))=D.ones c 65 d):=by show _=_;rw [←ones_step hk];exact h2
  have hkb:(k:Int)≤64:=by omega
  clear h1 h2;by_cases ho:d'.one (nctx c k)=true
  ·have HO:=Lib.hid ho;have hcall:Calls Tryz.prog 151 #[.pointer (some ⟨r,0,none⟩),.int .i64 (nctx c k)] wr fun en w'=>en=.returned (.bool true)∧∃F',RG F0 w0 w' r (d'.bit (nctx c k)) F':=by
    have:=H1.out.bit (nctx c k);rwa [ho] at this
   have HC:=Lib.hid hcall;clear ho hcall;by_cases hlt:k<64
   ·have HX:Hid (D.ones c (65-(k+1)) (d'.bit (nctx c k))=D.ones c 65 d):=by
     show _=_;rw [←H2.out,HO.out,if_pos rfl,show 65-(k+1)=64-k by omega]
    have hlt':(k:Int)<64:=by omega
    go_wp2_with (go_at_call 151;refine HC.out.mono ?_;rintro en w3 ⟨rfl,F3,q⟩;have Q:=Lib.hid q;clear q)
    go_roundw
    case rel=>exact ⟨k+1,by go_num,hlt,_,F3,Q.out,HX.out⟩
    case measure=>simp [intOf];omega
   ·obtain rfl:k=64:=by omega
    have HX:Hid (d.number c=⟨0,false,d'.bit (nctx c 64)⟩):=number_many (by rw [←H2.out,HO.out,if_pos rfl];rfl);go_wp2_with (go_at_call 151;refine HC.out.mono ?_;rintro en w3 ⟨rfl,F3,q⟩;have Q:=Lib.hid q;clear q)
    go_ret2
    exact ⟨by rw [HX.out];rfl,F3,by rw [HX.out];exact Q.out⟩
  ·have ho':d'.one (nctx c k)=false:=by simpa using ho
   have HE:Hid ((k,d'.bit (nctx c k))=D.ones c 65 d):=by show _=_;rw [←H2.out,ho',if_neg (by simp)]
   have hcall:Calls Tryz.prog 151 #[.pointer (some ⟨r,0,none⟩),.int .i64 (nctx c k)] wr fun en w'=>en=.returned (.bool false)∧∃F',RG F0 w0 w' r (d'.bit (nctx c k)) F':=by
    have:=H1.out.bit (nctx c k);rwa [ho'] at this
   have HC:=Lib.hid hcall;clear ho ho' hcall H2;rcases Nat.eq_zero_or_pos k with hk0 | hk0
   ·subst hk0;have HX:Hid (d.number c=⟨0,true,d'.bit (nctx c 0)⟩):=number_none HE.out;go_wp2_with (go_at_call 151;refine HC.out.mono ?_;rintro en w3 ⟨rfl,F3,q⟩;have Q:=Lib.hid q;clear q)
    go_ret2
    exact ⟨by rw [HX.out];rfl,F3,by rw [HX.out];exact Q.out⟩
   ·have HX:Hid (d.number c=⟨(D.val c (k-1) 1 (d'.bit (nctx c k))).1,true,(D.val c (k-1) 1 (d'.bit (nctx c k))).2⟩):=number_some HE.out hk0 hk;have hne:((k:Int) == 0)=false:=by rw [beq_eq_false_iff_ne];omega
    go_wp2_with (go_at_call 151;refine HC.out.mono ?_;rintro en w3 ⟨rfl,F3,q⟩;have Q:=Lib.hid q;clear q)
    clear hne HC HE;generalize d'.bit (nctx c k)=d1 at *;go_loopw [7,8] (fun x i wr=>∃(v m:Nat),x=.int .u64 v∧i=.int .i64 ((m:Int)-1)∧m≤63∧v<2 ^ (64-m)∧∃d2 F2,RG F0 w0 wr r d2 F2∧D.val c m v d2=D.val c (k-1) 1 d1) (fun _ i _=>(intOf i+1).toNat)
    case atStart=>exact ⟨1,k-1,rfl,by go_num,by omega,Nat.one_lt_two_pow (by omega),_,F3,Q.out,rfl⟩
    case round=>
     obtain ⟨v,m,rfl,rfl,hm,hv,d2,F2,h1,h2⟩:=hrel;have R1:=Lib.hid h1;have R2:=Lib.hid h2;clear h1 h2 H1 Q;rcases m with _ | j
     ·have h0:decide (((0:Nat):Int)-1 ≥ 0)=false:=by decide
      have HV:Hid ((v,d2)=D.val c (k-1) 1 d1):=R2.out;clear hv;go_wp2_with fail
      go_ret2
      exact ⟨by rw [HX.out,←HV.out];rfl,F2,by rw [HX.out,←HV.out];exact R1.out⟩
     ·have e1:(((j+1:Nat):Int)-1)=(j:Int):=by omega
      rw [e1];have hj:(j:Int)≤62:=by omega
      obtain ⟨v1,v2⟩:=val_bd hm hv;have hvb:(v:Int)<9223372036854775808:=by omega
      have hor:=or_one v1;have V2:=Lib.hid v2;have R3:Hid (D.val c j (2*v+if d2.one (vctx c j) then 1 else 0) (d2.bit (vctx c j))=D.val c (k-1) 1 d1):=R2.out;clear hv e1 v1 v2 R2;by_cases ho:d2.one (vctx c j)=true
      ·have hcall:Calls Tryz.prog 151 #[.pointer (some ⟨r,0,none⟩),.int .i64 (vctx c j)] wr fun en w'=>en=.returned (.bool true)∧∃F',RG F0 w0 w' r (d2.bit (vctx c j)) F':=by
        have:=R1.out.bit (vctx c j);rwa [ho] at this
       have HC:=Lib.hid hcall;have R4:Hid (D.val c j (2*v+1) (d2.bit (vctx c j))=D.val c (k-1) 1 d1):=by show _=_;rw [←R3.out,ho];rfl
       clear ho hcall;go_wp2_with (go_at_call 151;refine HC.out.mono ?_;rintro en w4 ⟨rfl,F4,q⟩;have Q4:=Lib.hid q;clear q)
       go_roundw
       case rel=>exact ⟨2*v+1,j,rfl,by go_num,by omega,V2.out,_,F4,Q4.out,R4.out⟩
       case measure=>simp [intOf]<;>omega
      ·have ho':d2.one (vctx c j)=false:=by simpa using ho
       have hcall:Calls Tryz.prog 151 #[.pointer (some ⟨r,0,none⟩),.int .i64 (vctx c j)] wr fun en w'=>en=.returned (.bool false)∧∃F',RG F0 w0 w' r (d2.bit (vctx c j)) F':=by
        have:=R1.out.bit (vctx c j);rwa [ho'] at this
       have HC:=Lib.hid hcall;have R4:Hid (D.val c j (2*v) (d2.bit (vctx c j))=D.val c (k-1) 1 d1):=by show _=_;rw [←R3.out,ho'];rfl
       clear ho ho' hcall hor;go_wp2_with (go_at_call 151;refine HC.out.mono ?_;rintro en w4 ⟨rfl,F4,q⟩;have Q4:=Lib.hid q;clear q)
       go_roundw
       case rel=>exact ⟨2*v,j,by go_num,by go_num,by omega,by have:=V2.out;omega,_,F4,Q4.out,R4.out⟩
       case measure=>simp [intOf]<;>omega
end Go.Proofs.YtcikldoaidmnhaaGreatDoor
namespace Go.Proofs.YtcikldoaidmnhaaGreatDoor
open Go Go.RowKit Pk Pc
set_option maxRecDepth 100000
structure CR (Z N:Nat→Prop) (w0 wr:World) (b:Nat) (S:Wk) (br:Nat) (d:D):Prop where
 ex:∃G F,SRep wr b S G∧RRep wr br d F∧(∀k,G k→¬F k)∧(∀k,G k∨F k→Z k∨w0.heap.size≤k)
 up:Upd (fun k=>Z k∨N k) w0 wr
theorem CR.upd {Z N:Nat→Prop} {w0 wr w2:World} {b:Nat} {S:Wk} {br:Nat} {d:D} (h:CR Z N w0 wr b S br d) (hu:Upd noBlk wr w2):CR Z N w0 w2 b S br d:=by
 obtain ⟨⟨G,F,h1,h2,h3,h4⟩,h5⟩:=h;exact ⟨⟨G,F,h1.upd hu (fun _ _=>id),h2.upd hu (fun _ _=>id),h3,h4⟩,h5.trans (hu.mono (fun _ _ h=>h.elim))⟩
theorem CR.drew {Z N:Nat→Prop} {w0 wr:World} {b:Nat} {S:Wk} {br:Nat} {d:D} (h:CR Z N w0 wr b S br d):CR Z N w0 wr.drew b S br d:=h.upd (Upd.refl _ wr).drew
theorem CR.stepR {Z N:Nat→Prop} {w0 wr w':World} {b:Nat} {S:Wk} {br:Nat} {d':D} {G F F':Nat→Prop} (h1:SRep wr b S G) (h3:∀k,G k→¬F k) (h4:∀k,G k∨F k→Z k∨w0.heap.size≤k) (h5:Upd (fun k=>Z k∨N k) w0 wr) (h:RG F wr w' br d' F'):CR Z N w0 w' b S br d':=by
 obtain ⟨r,n,u⟩:=h;refine ⟨⟨G,F',h1.upd u (fun k hk=>h3 k hk),r,fun k hk hf=>?_,fun k hk=>?_⟩,h5.then u (fun i hi hf=>.inl ((h4 i (.inr hf)).resolve_right (by omega)))⟩
 ·rcases n k hf with h | h
  ·exact h3 k hk h
  ·have:=h1.lt k hk;omega
 ·rcases hk with h | h
  ·exact h4 k (.inl h)
  ·rcases n k h with h | h
   ·exact h4 k (.inr h)
   ·exact .inr (by have:=h5.size;omega)
theorem CR.stepS {Z N:Nat→Prop} {w0 wr w':World} {b:Nat} {S':Wk} {br:Nat} {d:D} {G F:Nat→Prop} (h2:RRep wr br d F) (h3:∀k,G k→¬F k) (h4:∀k,G k∨F k→Z k∨w0.heap.size≤k) (h5:Upd (fun k=>Z k∨N k) w0 wr) (h:SPost G wr w' b S'):CR Z N w0 w' b S' br d:=by
 obtain ⟨G',r,n,u⟩:=h;refine ⟨⟨G',F,r,h2.upd u (fun k hf hk=>h3 k hk hf),fun k hk hf=>?_,fun k hk=>?_⟩,h5.then u (fun i hi hg=>.inl ((h4 i (.inl hg)).resolve_right (by omega)))⟩
 ·rcases n k hk with h | h
  ·exact h3 k h hf
  ·have:=h2.lt k hf;omega
 ·rcases hk with h | h
  ·rcases n k h with h | h
   ·exact h4 k (.inl h)
   ·exact .inr (by have:=h5.size;omega)
  ·exact h4 k (.inr h)
theorem CR.bit {Z N:Nat→Prop} {w0 wr:World} {b:Nat} {S:Wk} {br:Nat} {d:D} (h:CR Z N w0 wr b S br d) (c:Int) :
  Calls Tryz.prog 151 #[.pointer (some ⟨br,0,none⟩),.int .i64 c] wr fun en w'=>en=.returned (.bool (d.one c))∧CR Z N w0 w' b S br (d.bit c):=by
 obtain ⟨⟨G,F,h1,h2,h3,h4⟩,h5⟩:=h;refine ((RG.self h2).bit c).mono ?_;rintro e w' ⟨rfl,F',h'⟩;exact ⟨rfl,CR.stepR h1 h3 h4 h5 h'⟩
theorem CR.number {Z N:Nat→Prop} {w0 wr:World} {b:Nat} {S:Wk} {br:Nat} {d:D} (h:CR Z N w0 wr b S br d) (c:Int) :
  Calls Tryz.prog 174 #[.pointer (some ⟨br,0,none⟩),.int .i64 c] wr fun en w'=>en=.returned (numV (d.number c))∧CR Z N w0 w' b S br (d.number c).d:=by
 obtain ⟨⟨G,F,h1,h2,h3,h4⟩,h5⟩:=h;refine (RNumber_any (RG.self h2) c).mono ?_;rintro e w' ⟨rfl,F',h'⟩;exact ⟨rfl,CR.stepR h1 h3 h4 h5 h'⟩
theorem CR.last {Z N:Nat→Prop} {w0 wr:World} {b:Nat} {S:Wk} {br:Nat} {d:D} (h:CR Z N w0 wr b S br d) (hl:S.known.length≤1000000) :
  Calls Tryz.prog 98 #[.pointer (some ⟨b,0,none⟩)] wr fun en w'=>en=.returned (ptV (lastK S.known))∧Upd noBlk wr w':=by
 obtain ⟨G,F,h1,h2,h3,h4⟩:=h.ex;refine (last_any b S G hl wr h1).mono ?_;rintro e w' ⟨rfl,hu⟩;exact ⟨rfl,hu⟩
theorem CR.meet {Z N:Nat→Prop} {w0 wr:World} {b:Nat} {S:Wk} {br:Nat} {d:D} (h:CR Z N w0 wr b S br d) (p:Pt) (hp:okP p) (hl:S.known.length≤100000) :
  Calls Tryz.prog 50 #[.pointer (some ⟨b,0,none⟩),ptV p] wr fun en w'=>en=.returned (.tuple #[.int .i64 (meetN S.known p),.bool (decide (p∈S.known))])∧CR Z N w0 w' b ⟨meetK S.known p,S.tris,S.gates⟩ br d:=by
 obtain ⟨⟨G,F,h1,h2,h3,h4⟩,h5⟩:=h;refine (meet_any b S G p hp hl wr h1).mono ?_;rintro e w' ⟨rfl,h'⟩;exact ⟨rfl,CR.stepS h2 h3 h4 h5 h'⟩
theorem CR.visit {Z N:Nat→Prop} {w0 wr:World} {b:Nat} {S:Wk} {br:Nat} {d:D} (h:CR Z N w0 wr b S br d) (t:Tri) (first:Nat) (hf:first=0∨first=1) (ht:okT t) (hl:S.tris.length≤100000) (hg:S.gates.length≤1000000) :
  Calls Tryz.prog 53 #[.pointer (some ⟨b,0,none⟩),triV t,.int .i64 first] wr fun en w'=>en=.returned (.bool (decide (freeT false S.tris t)))∧Upd (fun k=>Z k∨N k) w0 w'∧(freeT false S.tris t→CR Z N w0 w' b (S.visit t first) br d):=by
 obtain ⟨⟨G,F,h1,h2,h3,h4⟩,h5⟩:=h;refine (visit_any b S G t first hf ht hl hg wr h1).mono ?_;rintro e w' ⟨rfl,hu,h'⟩;exact ⟨rfl,h5.then hu (fun i hi hg=>.inl ((h4 i (.inl hg)).resolve_right (by omega))),fun hfr=>CR.stepS h2 h3 h4 h5 (h' hfr)⟩
theorem CR.next {Z N:Nat→Prop} {w0 wr:World} {b:Nat} {S:Wk} {br:Nat} {d:D} (h:CR Z N w0 wr b S br d) (hok:∀g,g∈S.gates→okT g) (hl:S.gates.length≤1000000) :
  Calls Tryz.prog 47 #[.pointer (some ⟨b,0,none⟩)] wr fun en w'=>en=.returned (.tuple #[gateV (nextV S.tris S.gates),.bool (nextB S.tris S.gates)])∧CR Z N w0 w' b ⟨S.known,S.tris,restG S.tris S.gates⟩ br d:=by
 obtain ⟨⟨G,F,h1,h2,h3,h4⟩,h5⟩:=h;refine (snext_any b S G hok hl wr h1).mono ?_;rintro e w' ⟨rfl,h'⟩;exact ⟨rfl,CR.stepS h2 h3 h4 h5 h'⟩
theorem CR.own {Z N:Nat→Prop} {w0 wr w2:World} {b:Nat} {S:Wk} {br:Nat} {d:D} (h:CR Z N w0 wr b S br d) (hN:∀k,N k→¬Z k∧k<w0.heap.size) (hu:Upd N wr w2):CR Z N w0 w2 b S br d:=by
 obtain ⟨⟨G,F,h1,h2,h3,h4⟩,h5⟩:=h;have hd:∀k,G k∨F k→¬N k:=fun k hk hn=>by
  obtain ⟨q1,q2⟩:=hN k hn;rcases h4 k hk with h | h
  ·exact q1 h
  ·omega
 exact ⟨⟨G,F,h1.upd hu (fun k hk=>hd k (.inl hk)),h2.upd hu (fun k hk=>hd k (.inr hk)),h3,h4⟩,h5.trans (hu.mono (fun _ _ h=>.inr h))⟩
theorem CR.keepObj {Z N:Nat→Prop} {w0 wr:World} {b:Nat} {S:Wk} {br:Nat} {d:D} (h:CR Z N w0 wr b S br d) {k:Nat} {o:Obj} (ho:w0.heap[k]?=some o) (hk:¬Z k) (hn:¬N k):wr.heap[k]?=some o:=h.up.heap ho (fun h=>h.elim hk hn)
theorem CR.enter {Z N:Nat→Prop} {w0 wr:World} {b:Nat} {S:Wk} {br:Nat} {d:D} (h:CR Z N w0 wr b S br d) (N1:Nat→Prop) (hN1:∀k,N1 k→wr.heap.size≤k):∃Z1:Nat→Prop,(∀k,Z1 k→k<wr.heap.size)∧(∀w1,Upd noBlk wr w1→CR Z1 N1 w1 w1 b S br d)∧(∀w1 w' S' d',Upd noBlk wr w1→CR Z1 N1 w1 w' b S' br d'→CR Z N w0 w' b S' br d')∧(∀w1 w',Upd noBlk wr w1→Upd (fun k=>Z1 k∨N1 k) w1 w'→Upd (fun k=>Z k∨N k) w0 w')∧(∀k,Z1 k→Z k∨w0.heap.size≤k):=by
 obtain ⟨⟨G,F,h1,h2,h3,h4⟩,h5⟩:=h;have hq:∀w1 w',Upd noBlk wr w1→Upd (fun k=>(G k∨F k)∨N1 k) w1 w'→Upd (fun k=>Z k∨N k) w0 w':=fun w1 w' hu k5=>by
  have hs:=hu.size;have hs5:=h5.size;refine (h5.trans (hu.mono (fun _ _ h=>h.elim))).then k5 (fun i hi hd=>?_);rcases hd with hd | hd
  ·exact .inl ((h4 i hd).resolve_right (by omega))
  ·have:=hN1 i hd;omega
 refine ⟨fun k=>G k∨F k,fun k hk=>?_,fun w1 hu=>?_,fun w1 w' S' d' hu h'=>?_,hq,h4⟩
 ·rcases hk with h | h
  ·exact h1.lt k h
  ·exact h2.lt k h
 ·exact ⟨⟨G,F,h1.upd hu (fun _ _=>id),h2.upd hu (fun _ _=>id),h3,fun k hk=>.inl hk⟩,Upd.refl _ _⟩
 ·obtain ⟨⟨G',F',k1,k2,k3,k4⟩,k5⟩:=h';have hs:=hu.size;have hs5:=h5.size;refine ⟨⟨G',F',k1,k2,k3,fun k hk=>?_⟩,hq w1 w' hu k5⟩;rcases k4 k hk with h | h
  ·exact h4 k h
  ·exact .inr (by omega)
theorem CR.lift {Z N:Nat→Prop} {w0 wr:World} {b:Nat} {S:Wk} {br:Nat} {d:D} (h:CR Z N w0 wr b S br d):∃Z2:Nat→Prop,CR Z2 noBlk wr wr b S br d∧(∀k,Z2 k→k<wr.heap.size) ∧
  (∀w' S' d',CR Z2 noBlk wr w' b S' br d'→CR Z N w0 w' b S' br d'∧∀k o,wr.heap[k]?=some o→¬Z k→k<w0.heap.size→w'.heap[k]?=some o) ∧
  (∀w',Upd (fun k=>Z2 k∨noBlk k) wr w'→Upd (fun k=>Z k∨N k) w0 w'):=by
 obtain ⟨Z2,q1,q2,q3,q4,q5⟩:=h.enter noBlk (fun _ h=>h.elim);refine ⟨Z2,q2 _ (Upd.refl _ _),q1,fun w' S' d' hc=>⟨q3 _ w' S' d' (Upd.refl _ _) hc,fun k o ho hz hk=>hc.up.heap ho (fun h=>?_)⟩,fun w' hu=>q4 _ w' (Upd.refl _ _) hu⟩;rcases h with h | h
 ·rcases q5 k h with h | h
  ·exact hz h
  ·omega
 ·exact h
theorem CR.base {Z N:Nat→Prop} {w:World} {b:Nat} {S:Wk} {br:Nat} {d:D} (h:CR Z N w w b S br d) (N':Nat→Prop):CR Z N' w w b S br d:=⟨h.ex,Upd.refl _ _⟩
theorem CR.monoN {Z N N':Nat→Prop} {w0 w:World} {b:Nat} {S:Wk} {br:Nat} {d:D} (h:CR Z N w0 w b S br d) (hN:∀k,N k→N' k):CR Z N' w0 w b S br d:=⟨h.ex,h.up.mono (fun k _ hk=>hk.imp id (hN k))⟩
theorem CR.setN {Z N:Nat→Prop} {w0 wr w2:World} {b:Nat} {S:Wk} {br:Nat} {d:D} (h:CR Z N w0 wr b S br d) {k:Nat} (hk:k<w0.heap.size) (hz:¬Z k) (hu:Upd (fun i=>i=k) wr w2):CR Z (fun i=>N i∨i=k) w0 w2 b S br d:=by
 obtain ⟨⟨G,F,h1,h2,h3,h4⟩,h5⟩:=h;have hd:∀i,G i∨F i→¬i=k:=fun i hi e=>by
  subst e;rcases h4 i hi with h | h
  ·exact hz h
  ·omega
 exact ⟨⟨G,F,h1.upd hu (fun i hi=>hd i (.inl hi)),h2.upd hu (fun i hi=>hd i (.inr hi)),h3,h4⟩,(h5.mono (fun i _ hi=>hi.imp id .inl)).trans (hu.mono (fun i _ hi=>.inr (.inr hi)))⟩
theorem CR.allocSet {Z N:Nat→Prop} {w0 wr w2:World} {b:Nat} {S:Wk} {br:Nat} {d:D} (h:CR Z N w0 wr b S br d) (o:Obj) (hu:Upd (fun i=>i=wr.heap.size) (wr.alloc o) w2):CR Z N w0 w2 b S br d:=by
 obtain ⟨Z4,q1,q2,q3,_,_⟩:=h.enter (fun k=>k=wr.heap.size) (fun k hk=>by omega);have ha:Upd noBlk wr (wr.alloc o):=(Upd.refl _ wr).alloc o;refine q3 _ w2 S d ha ((q2 _ ha).own (fun k hk=>⟨fun h=>by have:=q1 _ h;omega,?_⟩) hu);rw [hk,World.size_alloc];exact Nat.lt_succ_self _
end Go.Proofs.YtcikldoaidmnhaaGreatDoor
namespace Go.Proofs.YtcikldoaidmnhaaGreatDoor
open Go Go.RowKit
namespace Pk
open Pc
theorem coordM_in {d d':D} {c near x:Int} (h:coordM d c near=some (x,d')):inC x:=by
 unfold coordM at h;split at h
 ·rename_i hc;obtain ⟨rfl,rfl⟩:=Prod.mk.inj (Option.some.inj h);exact hc.2.2
 ·cases h
theorem placeM_in {d d':D} {c:Int} {near p:Pt} (h:placeM d c near=some (p,d')):inP p:=by
 unfold placeM at h;split at h
 ·cases h
 ·rename_i x d1 h1
  split at h
  ·cases h
  ·rename_i y d2 h2
   split at h
   ·cases h
   ·rename_i z d3 h3
    obtain ⟨rfl,rfl⟩:=Prod.mk.inj (Option.some.inj h);have a1:=coordM_in h1;have a2:=coordM_in h2;have a3:=coordM_in h3;exact ⟨a1.1,a1.2,a2.1,a2.2,a3.1,a3.2⟩
theorem getK_mem {known:List Pt} {n:Nat} (h:n<known.length):getK known n∈known:=by
 unfold getK;rw [List.getD_eq_getElem?_getD,List.getElem?_eq_getElem (by omega)];exact List.getElem_mem _
theorem cornerM_in {strict:Bool} {d d':D} {known known':List Pt} {near p:Pt} {b n q:Int} (h:cornerM strict d known near b n q=some (p,known',d')) (hk:∀p,p∈known→inP p):inP p∧(∀p,p∈known'→inP p)∧known'.length≤known.length+1:=by
 unfold cornerM at h;split at h
 ·split at h
  ·rename_i hc
   obtain ⟨rfl,h2⟩:=Prod.mk.inj (Option.some.inj h);obtain ⟨rfl,rfl⟩:=Prod.mk.inj h2;exact ⟨hk _ (getK_mem hc.2),hk,Nat.le_succ _⟩
  ·cases h
 ·split at h
  ·cases h
  ·rename_i p' d1 h1
   split at h
   ·cases h
   ·obtain ⟨rfl,h2⟩:=Prod.mk.inj (Option.some.inj h);obtain ⟨rfl,rfl⟩:=Prod.mk.inj h2;exact ⟨placeM_in h1,meetK_in hk (placeM_in h1),meetK_len _ _⟩
structure OInv (w:Wk):Prop where
 known:∀p,p∈w.known→inP p
 gates:∀g,g∈w.gates→inP g.1∧inP g.2.1∧inP g.2.2
 tris:∀t,t∈w.tris→inT t
 klen:w.known.length≤3*w.tris.length
 glen:w.gates.length≤3*w.tris.length
theorem OInv.init:OInv Wk.init:=⟨fun p h=>(by cases h),fun g h=>(by cases h),fun t h=>(by cases h),Nat.le_refl _,Nat.le_refl _⟩
theorem OInv.visit {w:Wk} {t:Tri} {first:Nat} (ht:inT t) (k:∀p,p∈w.known→inP p) (g:∀g,g∈w.gates→inP g.1∧inP g.2.1∧inP g.2.2) (hs:∀t,t∈w.tris→inT t) (kl:w.known.length≤3*(w.tris.length+1)) (gl:w.gates.length+(3-first)≤3*(w.tris.length+1)):OInv (w.visit t first):=by
 refine ⟨k,fun x hx=>?_,fun x hx=>?_,?_,?_⟩
 ·rcases List.mem_append.1 hx with hx | hx
  ·exact g x hx
  ·exact gatesT_in ht (List.mem_of_mem_drop hx)
 ·rcases List.mem_append.1 hx with hx | hx
  ·exact hs x hx
  ·rw [List.mem_singleton] at hx;subst hx;exact ht
 ·show w.known.length≤3*(w.tris++[t]).length;rw [List.length_append];simp only [List.length_cons,List.length_nil];omega
 ·show (w.gates++(gatesT t).drop first).length≤3*(w.tris++[t]).length;rw [List.length_append,List.length_append,List.length_drop];have:(gatesT t).length=3:=rfl;simp only [List.length_cons,List.length_nil];omega
def potM (many:Nat) (w:Wk):Nat:=4*(many-w.tris.length)+w.gates.length
theorem potM_visit {many:Nat} {w:Wk} {t:Tri} {first n:Nat} (h:w.tris.length<many) (hn:w.gates.length+(3-first)<n+4):potM many (w.visit t first)<4*(many-w.tris.length)+n:=by
 show 4*(many-(w.tris++[t]).length)+(w.gates++(gatesT t).drop first).length<_;rw [List.length_append,List.length_append,List.length_drop];have:(gatesT t).length=3:=rfl;simp only [List.length_cons,List.length_nil];omega
theorem runM_done {strict:Bool} {many f:Nat} {d:D} {w:Wk} (h:many≤w.tris.length):runM strict many f d w=some w.tris:=by
 cases f with
 | zero=>exact if_pos h
 | succ f=>exact if_pos h
theorem runM_step {strict:Bool} {many f:Nat} {d:D} {w:Wk} (h:¬many≤w.tris.length):runM strict many (f+1) d w=match stepM strict d w with
  | none=>none
  | some (d',w')=>runM strict many f d' w':=if_neg h
theorem visitM_inv {w w':Wk} {t:Tri} {first:Nat} {d d':D} (h:visitM false w t first d=some (d',w')):w'=w.visit t first:=by
 unfold visitM at h;split at h
 ·obtain ⟨rfl,rfl⟩:=Prod.mk.inj (Option.some.inj h);rfl
 ·cases h
theorem stepM_inv {d d':D} {w w':Wk} (hi:OInv w) (h:stepM false d w=some (d',w')):OInv w'∧w'.tris.length≤w.tris.length+1:=by
 obtain ⟨K,tr,gs⟩:=w;unfold stepM at h;simp only at h;have hkl:K.length≤3*tr.length:=hi.klen;have hgl:gs.length≤3*tr.length:=hi.glen;rcases hog:openG tr gs with _ | ⟨g,r⟩
 ·rw [hog] at h;simp only at h;split at h
  ·cases h
  ·rename_i p k1 d1 h1
   split at h
   ·cases h
   ·rename_i q k2 d2 h2
    split at h
    ·cases h
    ·rename_i x k3 d3 h3
     obtain ⟨a1,b1,c1⟩:=cornerM_in h1 hi.known;obtain ⟨a2,b2,c2⟩:=cornerM_in h2 b1;obtain ⟨a3,b3,c3⟩:=cornerM_in h3 b2;rw [visitM_inv h];refine ⟨OInv.visit ⟨a1,a2,a3⟩ b3 (fun g hg=>(by cases hg)) hi.tris (by show k3.length≤3*(tr.length+1);omega) (by show 0+3≤3*(tr.length+1);omega),?_⟩;show (tr++[_]).length≤_;simp
 ·rw [hog] at h;simp only at h;have hr:∀x,x∈r→x∈gs:=fun x hx=>openG_mem (tris:=tr) (by rw [hog];exact List.mem_cons_of_mem _ hx);have hg:=hi.gates g (openG_mem (by rw [hog];exact List.mem_cons_self));have hl:r.length+1≤gs.length:=by have h1:=openG_len tr gs;rw [hog] at h1;exact h1
  split at h
  ·split at h
   ·cases h
   ·rename_i p k d1 h1
    obtain ⟨a1,b1,c1⟩:=cornerM_in h1 hi.known;rw [visitM_inv h];refine ⟨OInv.visit ⟨hg.1,hg.2.1,a1⟩ b1 (fun x hx=>hi.gates x (hr x hx)) hi.tris (by show k.length≤3*(tr.length+1);omega) (by show r.length+2≤3*(tr.length+1);omega),?_⟩;show (tr++[_]).length≤_;simp
  ·obtain ⟨_,rfl⟩:=Prod.mk.inj (Option.some.inj h);exact ⟨⟨hi.known,fun x hx=>hi.gates x (hr x hx),hi.tris,hkl,by show r.length≤3*tr.length;omega⟩,Nat.le_succ _⟩
theorem runM_inv {many:Nat}:∀{f:Nat} {d:D} {w:Wk} {T:List Tri},OInv w→w.tris.length≤many→runM false many f d w=some T→(∀t,t∈T→inT t)∧T.length≤many
 | 0,d,w,T,hi,hl,h=>by
  unfold runM at h;split at h
  ·cases h;exact ⟨hi.tris,hl⟩
  ·cases h
 | f+1,d,w,T,hi,hl,h=>by
  by_cases hm:many≤w.tris.length
  ·rw [runM_done hm] at h;cases h;exact ⟨hi.tris,hl⟩
  ·rw [runM_step hm] at h;rcases hs:stepM false d w with _ | ⟨d',w'⟩
   ·rw [hs] at h;cases h
   ·rw [hs] at h;obtain ⟨h1,h2⟩:=stepM_inv hi hs;exact runM_inv h1 (by omega) h
theorem openM_in {s:List Nat} {T:List Tri} (h:openM false s=some T):(∀t,t∈T→inT t)∧T.length≤128:=by
 unfold openM at h;split at h
 ·split at h
  ·rename_i hc
   obtain ⟨h1,h2⟩:=runM_inv OInv.init (Nat.zero_le _) h;exact ⟨h1,by omega⟩
  ·cases h
 ·cases h
theorem canon_in {T:List Tri} (h:∀t,t∈T→inT t):∀t,t∈canon T→inT t:=fun t ht=>by
 obtain ⟨t',h1,h2⟩:=(canon_alike T).mem ht;exact h2.inT (h t' h1)
end Pk
end Go.Proofs.YtcikldoaidmnhaaGreatDoor
namespace Go.Proofs.YtcikldoaidmnhaaGreatDoor
open Go Go.RowKit Pk Pc
set_option maxRecDepth 100000
def wrongV:Value:=.iface 224 (.agg #[])
def panicW:Ending:=.panicked [{ v:=wrongV,recovered:=false }]
def orFail {α:Type} (o:Option α) (good:α→Ending→World→Prop) (bad:World→Prop) (en:Ending) (w':World):Prop:=match o with
 | some a=>good a en w'
 | none=>en=panicW∧bad w'
theorem fail_any (w:World):Calls Tryz.prog 114 #[] w fun en w'=>en=panicW∧w=w':=by
 go_enter Tryz.func114,Tryz.ntmps114
 go_wp2_with fail
 exact ⟨rfl,rfl,rfl⟩
def openerV (b br:Nat):Value:=.agg #[.pointer (some ⟨b,0,none⟩),.pointer (some ⟨br,0,none⟩)]
def numM (d:D) (c lim:Int):Option (Nat × D):=if (d.number c).ok=true∧((d.number c).n:Int)<lim then some ((d.number c).n,(d.number c).d) else none
theorem RG.upd {F0 F:Nat→Prop} {w wr w2:World} {r:Nat} {d:D} (h:RG F0 w wr r d F) (hu:Upd noBlk wr w2):RG F0 w w2 r d F:=⟨h.rep.upd hu (fun _ _=>id),h.new,h.up.trans (hu.mono (fun _ _ h=>h.elim))⟩
set_option maxHeartbeats 1000000 in
theorem onumber_R {F0 F:Nat→Prop} {w0 wr:World} (b:Nat) {br:Nat} {d:D} (h:RG F0 w0 wr br d F) (c lim:Int) (h0:0≤lim) (h1:lim≤9223372036854775807) :
  Calls Tryz.prog 149 #[openerV b br,.int .i64 c,.int .i64 lim] wr fun en w'=>orFail (numM d c lim) (fun a en w'=>en=.returned (.int .i64 (a.1:Nat))∧∃F',RG F0 w0 w' br a.2 F') (Upd F0 w0) en w':=by
 have hal:=(Upd.refl noBlk wr).alloc (.cells #[.pointer (some ⟨b,0,none⟩),.pointer (some ⟨br,0,none⟩)] 183);have HC:=Lib.hid (h.upd hal);have HB:=Lib.hid (heap_alloc_new wr (.cells #[.pointer (some ⟨b,0,none⟩),.pointer (some ⟨br,0,none⟩)] 183));have HL:=Lib.hid (And.intro h0 h1);obtain ⟨tgt,htgt⟩:∃t,t=numM d c lim:=⟨_,rfl⟩;rw [←htgt];have HT:=Lib.hid htgt;have hwl:IntKind.u64.wrap lim=lim:=by have:=IntKind.wrap_u64 lim;omega
 clear h hal h0 h1 htgt;unfold openerV;go_enter Tryz.func149,Tryz.ntmps149
 go_upto_region 1 with fail
 generalize wr.heap.size=bo at *;generalize wr.alloc (.cells #[.pointer (some ⟨b,0,none⟩),.pointer (some ⟨br,0,none⟩)] 183)=w1 at *;obtain ⟨g0,g1⟩:=cells2 HB.out;go_wp2_with fail
 refine (RNumber_any HC.out c).mono ?_;rintro e w2 ⟨rfl,F',h2⟩;have H2:=Lib.hid h2;unfold numM at HT;generalize d.number c=x at *;obtain ⟨n,ok,d'⟩:=x;clear g0 g1 HC HB h2;unfold numV;simp only at HT H2 ⊢;have HF:=fun W=>Lib.hid (fail_any W);cases ok with
 | false=>
  have HN:Hid (tgt=none):=by show _=_;have:=HT.out;rw [this];simp
  go_wp2_with fail
  refine (HF _).out.mono ?_;rintro e w3 ⟨rfl,rfl⟩;unfold panicW;go_wp2_with fail
  refine ⟨rfl,?_⟩;rw [HN.out];exact ⟨rfl,H2.out.up⟩
 | true=>
  by_cases hn:(n:Int)<lim
  ·have HN:Hid (tgt=some (n,d')):=by show _=_;have:=HT.out;rw [this,if_pos ⟨rfl,hn⟩]
   have hn2:¬lim≤(n:Int):=by omega
   have hwn:IntKind.i64.wrap (n:Int)=n:=wrapN (by omega) (by have:=HL.out;omega);go_wp2_with fail
   go_ret
   rw [HN.out];exact ⟨rfl,F',H2.out⟩
  ·have HN:Hid (tgt=none):=by show _=_;have:=HT.out;rw [this];simp [hn]
   have hn2:lim≤(n:Int):=by omega
   go_wp2_with fail
   refine (HF _).out.mono ?_;rintro e w3 ⟨rfl,rfl⟩;unfold panicW;go_wp2_with fail
   refine ⟨rfl,?_⟩;rw [HN.out];exact ⟨rfl,H2.out.up⟩
theorem onumber_any {Z N:Nat→Prop} {w0 wr:World} {b:Nat} {S:Wk} {br:Nat} {d:D} (h:CR Z N w0 wr b S br d) (c lim:Int) (h0:0≤lim) (h1:lim≤9223372036854775807) :
  Calls Tryz.prog 149 #[openerV b br,.int .i64 c,.int .i64 lim] wr fun en w'=>orFail (numM d c lim) (fun a en w'=>en=.returned (.int .i64 (a.1:Nat))∧CR Z N w0 w' b S br a.2) (Upd (fun k=>Z k∨N k) w0) en w':=by
 obtain ⟨⟨G,F,q1,q2,q3,q4⟩,q5⟩:=h;refine (onumber_R b (RG.self q2) c lim h0 h1).mono ?_;intro en w' hp;rcases hm:numM d c lim with _ | ⟨n,d'⟩
 ·rw [hm] at hp;obtain ⟨rfl,hu⟩:=hp;exact ⟨rfl,q5.then hu (fun i hi hf=>.inl ((q4 i (.inr hf)).resolve_right (by omega)))⟩
 ·rw [hm] at hp;obtain ⟨rfl,F',hr⟩:=hp;exact ⟨rfl,CR.stepR q1 q3 q4 q5 hr⟩
end Go.Proofs.YtcikldoaidmnhaaGreatDoor
