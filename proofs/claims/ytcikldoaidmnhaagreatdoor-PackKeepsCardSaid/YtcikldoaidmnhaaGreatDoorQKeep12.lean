/- Parts: Walks of the coder's writer: Bit. Walks of the coder: NewWriter. Walks of the packets' program: the next gate. No condition. Walks: strings.TrimRight at one zero byte, the coder's Finish. -/
import Derived.Test.YtcikldoaidmnhaaGreatDoorQKeep1
import Derived.Test.YtcikldoaidmnhaaGreatDoorQKeep4
import Derived.Test.YtcikldoaidmnhaaGreatDoorQKeep10
namespace Go.Proofs.YtcikldoaidmnhaaGreatDoor
open Go Go.RowKit Pk
set_option maxRecDepth 100000
def gateV (g:Gate):Value:=.agg (triC g).toArray
def nextV (tris:List Tri) (gates:List Gate):Gate:=match openG tris gates with
 | g :: _=>g
 | []=>((0,0,0),(0,0,0),(0,0,0))
def nextB (tris:List Tri) (gates:List Gate):Bool:=match openG tris gates with
 | _ :: _=>true
 | []=>false
def restG (tris:List Tri) (gates:List Gate):List Gate:=match openG tris gates with
 | _ :: r=>r
 | []=>[]
theorem post9b {Q:World→Prop} {w:World} {b:Nat} {x0 x1 x2 x3 x4 x5 x6 x7 x8 y0 y1 y2 y3 y4 y5 y6 y7 y8:Value} {t:TypeId} (h:w.heap[b]?=some (.cells #[x0,x1,x2,x3,x4,x5,x6,x7,x8] t (0,0)))
  (hQ:∀wz:World,wz.heap[b]?=some (.cells #[y0,y1,y2,y3,y4,y5,y6,y7,y8] t (0,0))→Upd (fun k=>k=b) w wz→Q wz):Q (((((((((w.setCell ⟨b,0,none⟩ y0).setCell ⟨b,1,none⟩ y1).setCell ⟨b,2,none⟩ y2).setCell ⟨b,3,none⟩ y3).setCell ⟨b,4,none⟩ y4).setCell ⟨b,5,none⟩ y5).setCell ⟨b,6,none⟩ y6).setCell ⟨b,7,none⟩ y7).setCell ⟨b,8,none⟩ y8):=by
 have s:=set9 h y0 y1 y2 y3 y4 y5 y6 y7 y8;refine hQ _ s ?_;exact (((((((((Upd.refl (fun k=>k=b) w).setCell (p:=⟨b,0,none⟩) (fun _=>rfl) _).setCell (p:=⟨b,1,none⟩) (fun _=>rfl) _).setCell (p:=⟨b,2,none⟩) (fun _=>rfl) _).setCell (p:=⟨b,3,none⟩) (fun _=>rfl) _).setCell (p:=⟨b,4,none⟩) (fun _=>rfl) _).setCell (p:=⟨b,5,none⟩) (fun _=>rfl) _).setCell (p:=⟨b,6,none⟩) (fun _=>rfl) _).setCell (p:=⟨b,7,none⟩) (fun _=>rfl) _).setCell (p:=⟨b,8,none⟩) (fun _=>rfl) _
set_option maxHeartbeats 4000000 in
theorem snext_any (b:Nat) (S:Wk) (G:Nat→Prop) (hok:∀g,g∈S.gates→okT g) (hl:S.gates.length≤1000000) (w:World) (h:SRep w b S G) :
  Calls Tryz.prog 47 #[.pointer (some ⟨b,0,none⟩)] w fun en w'=>en=.returned (.tuple #[gateV (nextV S.tris S.gates),.bool (nextB S.tris S.gates)])∧SPost G w w' b ⟨S.known,S.tris,restG S.tris S.gates⟩:=by
 obtain ⟨vK,vG,vT,ba,bu,h,rfl⟩:=h;obtain ⟨K,tr,gs⟩:=S;simp only at *;have hu:=(Upd.refl noBlk w).alloc (.cells #[.int .i64 0,.int .i64 0,.int .i64 0,.int .i64 0,.int .i64 0,.int .i64 0,.int .i64 0,.int .i64 0,.int .i64 0] 105);have HL0:=Lib.hid (h.upd hu (fun _ _=>id));have HU0:Hid (Upd (sFoot b vK vG vT ba bu) w (w.alloc (.cells #[.int .i64 0,.int .i64 0,.int .i64 0,.int .i64 0,.int .i64 0,.int .i64 0,.int .i64 0,.int .i64 0,.int .i64 0] 105))):=hu.mono (fun _ _ h=>h.elim);have HZ0:=Lib.hid (heap_alloc_new w (.cells #[.int .i64 0,.int .i64 0,.int .i64 0,.int .i64 0,.int .i64 0,.int .i64 0,.int .i64 0,.int .i64 0,.int .i64 0] 105));have HBL:Hid (b<w.heap.size):=h.lt b (.inl rfl);have HOK:=Lib.hid hok;have hl0:Hid (gs.length≤1000000):=hl;obtain ⟨FT,hFT⟩:∃FT,FT=sFoot b vK vG vT ba bu:=⟨_,rfl⟩;have FN0:Hid (∀k,sFoot b vK vG vT ba bu k→FT k):=fun k hk=>by rw [hFT];exact hk
 have HFL:Hid (∀k,FT k→k<w.heap.size):=fun k hk=>h.lt k (by rw [←hFT];exact hk);rw [←hFT] at HU0;have HFB:Hid (FT b):=by show FT b;rw [hFT];exact .inl rfl
 rw [←hFT];clear h hu hok hl hFT;go_enter Tryz.func47,Tryz.ntmps47
 obtain ⟨x0,hx0⟩:∃x0,x0=w.alloc (.cells #[.int .i64 0,.int .i64 0,.int .i64 0,.int .i64 0,.int .i64 0,.int .i64 0,.int .i64 0,.int .i64 0,.int .i64 0] 105):=⟨_,rfl⟩;rw [←hx0] at HL0 HU0 HZ0;go_upto_block 0 with fail
 rw [←hx0];clear hx0;go_wp2_with fail
 go_loopw [4] (fun _ wr=>∃(g:List Gate) (vG':Value),openG tr g=openG tr gs∧g.length≤gs.length∧(∀x,x∈g→okT x)∧SLive wr b ⟨K,tr,g⟩ vK vG' vT ba bu∧Upd FT w wr∧(∀k,sFoot b vK vG' vT ba bu k→FT k)∧wr.heap[w.heap.size]?=some (.cells #[.int .i64 0,.int .i64 0,.int .i64 0,.int .i64 0,.int .i64 0,.int .i64 0,.int .i64 0,.int .i64 0,.int .i64 0] 105 (0,0))) (fun _ wr=>match wr.cell? ⟨b,3,none⟩ with | some (.slice _ n _)=>n | _=>0)
 case atStart=>exact ⟨gs,vG,rfl,Nat.le_refl _,HOK.out,HL0.out,HU0.out,FN0.out,HZ0.out⟩
 case round=>
  obtain ⟨g,vG',h1,h2,h3,h4,h5,h6,h7⟩:=hrel;have HOE:=Lib.hid h1;have HGL:=Lib.hid h2;have HGO:=Lib.hid h3;have HL:=Lib.hid h4;have HU:=Lib.hid h5;have HFN:=Lib.hid h6;have HZ:=Lib.hid h7;obtain ⟨A,cap,rfl,hcap⟩:=h4.comp.gates.form;have hgb:(g.length:Int)≤1000000:=by have:=hl0.out;omega
  clear h1 h2 h3 h4 h5 h6 h7 HL0 HU0 HZ0 FN0;have HBK:Hid (wr.heap[b]?=some (.cells #[vK,.map (some ba),.map (some bu),.slice A g.length cap,vT] 103 (0,0))):=HL.out.blk;obtain ⟨⟨k0,k1,k2,k3,k4⟩,⟨f0,f1,f2,f3,f4⟩⟩:=cells5 HBK.out;obtain ⟨⟨z0,z1,z2,z3,z4,z5,z6,z7,z8⟩,⟨y0,y1,y2,y3,y4,y5,y6,y7,y8⟩⟩:=cellsF9 HZ.out;rcases g with _ | ⟨⟨⟨a0,a1,a2⟩,⟨a3,a4,a5⟩,⟨a6,a7,a8⟩⟩,r⟩
  ·have hnv:nextV tr gs=((0,0,0),(0,0,0),(0,0,0))∧nextB tr gs=false∧restG tr gs=[]:=by
    unfold nextV nextB restG;rw [←HOE.out];exact ⟨rfl,rfl,rfl⟩
   have HNV:=Lib.hid hnv;clear hnv;go_wp2_with fail
   refine post9b (Q:=fun wz=>bodyPost _ _ _ _ _ wz) HZ.out (fun wz hz hu=>?_);obtain ⟨g0,g1,g2,g3,g4,g5,g6,g7,g8⟩:=cells9 hz;refine bodyPost_ret (by simp [results,Tryz.results47,go_sem,g0,g1,g2,g3,g4,g5,g6,g7,g8];rfl) rfl ?_;obtain ⟨n1,n2,n3⟩:=HNV.out;rw [n1,n2,n3];refine ⟨rfl,_,⟨_,_,_,_,_,HL.out.upd hu (fun k hk e=>by have:=HFL.out k (HFN.out k hk);omega),rfl⟩,fun k hk=>.inl (HFN.out k hk),?_⟩;exact HU.out.then hu (fun k hk e=>by omega)
  ·obtain ⟨A',cap',e,_,hrd⟩:=HL.out.comp.gates.rd;cases e;obtain ⟨b',off,rfl,hat⟩:=hrd (by simp);have hga:=hat 0 (by simp);have hk9:kGate.k=9:=rfl;rw [hk9,Nat.zero_mul,Nat.add_zero] at hga;have g0:wr.cell? ⟨b',off,none⟩=some (.int .i64 a0):=hga 0 _ rfl;have g1:wr.cell? ⟨b',off+1,none⟩=some (.int .i64 a1):=hga 1 _ rfl;have g2:wr.cell? ⟨b',off+2,none⟩=some (.int .i64 a2):=hga 2 _ rfl;have g3:wr.cell? ⟨b',off+3,none⟩=some (.int .i64 a3):=hga 3 _ rfl;have g4:wr.cell? ⟨b',off+4,none⟩=some (.int .i64 a4):=hga 4 _ rfl;have g5:wr.cell? ⟨b',off+5,none⟩=some (.int .i64 a5):=hga 5 _ rfl;have g6:wr.cell? ⟨b',off+6,none⟩=some (.int .i64 a6):=hga 6 _ rfl;have g7:wr.cell? ⟨b',off+7,none⟩=some (.int .i64 a7):=hga 7 _ rfl;have g8:wr.cell? ⟨b',off+8,none⟩=some (.int .i64 a8):=hga 8 _ rfl;clear hat hga hk9 hrd;rw [List.length_cons] at hcap hgb HBK k3;have HCAP:=Lib.hid hcap;have hgb':(r.length:Int)≤1000000:=by omega
   have hr0:(0:Int)<(r.length:Int)+1:=by omega
   have hA:=(Upd.refl noBlk wr).alloc (.cells #[.int .i64 a0,.int .i64 a1,.int .i64 a2,.int .i64 a3,.int .i64 a4,.int .i64 a5,.int .i64 a6,.int .i64 a7,.int .i64 a8] 105);have HLA:=Lib.hid (HL.out.upd hA (fun _ _=>id));have HUA:=Lib.hid (HU.out.trans (hA.mono (fun _ _ h=>h.elim)));have HZA:=Lib.hid (hA.heap HZ.out id);have HGA:=Lib.hid (heap_alloc_new wr (.cells #[.int .i64 a0,.int .i64 a1,.int .i64 a2,.int .i64 a3,.int .i64 a4,.int .i64 a5,.int .i64 a6,.int .i64 a7,.int .i64 a8] 105));have HWS:Hid (w.heap.size<wr.heap.size∧b<wr.heap.size):=⟨lt_of_heap HZ.out,lt_of_heap HBK.out⟩;clear hcap hgb hA;go_upto_region 3 with fail
   obtain ⟨wa,hwa⟩:∃wa,wa=wr.alloc (.cells #[.int .i64 a0,.int .i64 a1,.int .i64 a2,.int .i64 a3,.int .i64 a4,.int .i64 a5,.int .i64 a6,.int .i64 a7,.int .i64 a8] 105):=⟨_,rfl⟩;obtain ⟨bg,hbg⟩:∃bg,bg=wr.heap.size:=⟨_,rfl⟩;rw [←hwa] at HLA HUA HZA HGA;rw [←hbg] at HGA HWS;have hMS:Hid ((match wr.cell? ⟨b,3,none⟩ with | some (.slice _ n _)=>n | _=>0)=r.length+1):=by show _=_;rw [k3]
   rw [←hwa,←hbg];have HBA:Hid (wa.heap[b]?=some (.cells #[vK,.map (some ba),.map (some bu),.slice (some ⟨b',off,none⟩) (r.length+1) cap,vT] 103 (0,0))):=HLA.out.blk;clear hwa hbg k0 k1 k2 k3 k4 f0 f1 f2 f3 f4 z0 z1 z2 z3 z4 z5 z6 z7 z8 y0 y1 y2 y3 y4 y5 y6 y7 y8 g0 g1 g2 g3 g4 g5 g6 g7 g8;obtain ⟨⟨k0,k1,k2,k3,k4⟩,⟨f0,f1,f2,f3,f4⟩⟩:=cells5 HBA.out;go_cut [22] (fun _ wc=>∃vN,SLive wc b ⟨K,tr,r⟩ vK vN vT ba bu∧Upd FT w wc∧(∀k,sFoot b vK vN vT ba bu k→FT k)∧wc.heap[w.heap.size]?=some (.cells #[.int .i64 0,.int .i64 0,.int .i64 0,.int .i64 0,.int .i64 0,.int .i64 0,.int .i64 0,.int .i64 0,.int .i64 0] 105 (0,0))∧wc.heap[bg]?=some (.cells #[.int .i64 a0,.int .i64 a1,.int .i64 a2,.int .i64 a3,.int .i64 a4,.int .i64 a5,.int .i64 a6,.int .i64 a7,.int .i64 a8] 105 (0,0)))
   case first=>
    have hpop:=Kd.Que.pop HLA.out.comp.gates;have hcomp:∀vN,kGate.Que 0 wa vN r→SComp wa ⟨K,tr,r⟩ vK vN vT ba bu:=fun vN hq=>⟨HLA.out.comp.at_,HLA.out.comp.used,HLA.out.comp.known,hq,HLA.out.comp.tris,HLA.out.comp.ab⟩;have HCOMP:=Lib.hid hcomp;have HPOP:=Lib.hid hpop;have hk9:kGate.k=9:=rfl;rw [hk9] at HPOP;clear hpop hcomp hk9;have hfin:∀(off' cap':Nat),kGate.Que 0 wa (.slice (some ⟨b',off',none⟩) r.length cap') r→∃vN,SLive (wa.setCell ⟨b,3,none⟩ (.slice (some ⟨b',off',none⟩) r.length cap')) b ⟨K,tr,r⟩ vK vN vT ba bu∧Upd FT w (wa.setCell ⟨b,3,none⟩ (.slice (some ⟨b',off',none⟩) r.length cap'))∧(∀k,sFoot b vK vN vT ba bu k→FT k)∧(wa.setCell ⟨b,3,none⟩ (.slice (some ⟨b',off',none⟩) r.length cap')).heap[w.heap.size]?=some (.cells #[.int .i64 0,.int .i64 0,.int .i64 0,.int .i64 0,.int .i64 0,.int .i64 0,.int .i64 0,.int .i64 0,.int .i64 0] 105 (0,0))∧(wa.setCell ⟨b,3,none⟩ (.slice (some ⟨b',off',none⟩) r.length cap')).heap[bg]?=some (.cells #[.int .i64 a0,.int .i64 a1,.int .i64 a2,.int .i64 a3,.int .i64 a4,.int .i64 a5,.int .i64 a6,.int .i64 a7,.int .i64 a8] 105 (0,0)):=fun off' cap' hq=>
     ⟨_,SLive.put HBA.out (HCOMP.out _ hq) 3 _ rfl,HUA.out.setCell (p:=⟨b,3,none⟩) (fun _=>HFB.out) _,fun k hk=>HFN.out k (by
      rcases hk with h | h | h | h | h | h
      ·exact .inl h
      ·exact .inr (.inl h)
      ·exact .inr (.inr (.inl h))
      ·exact .inr (.inr (.inr (.inl h)))
      ·exact .inr (.inr (.inr (.inr (.inl h))))
      ·exact .inr (.inr (.inr (.inr (.inr h))))),by rw [heap_setCell_other _ _ _ _ (by have:=HBL.out;show w.heap.size≠b;omega)];exact HZA.out,by rw [heap_setCell_other _ _ _ _ (by have:=HWS.out.2;show bg≠b;omega)];exact HGA.out⟩
    have HFIN:=Lib.hid hfin;clear hfin;by_cases hc:cap=1
    ·subst hc;have hq:=HPOP.out;simp only [sliced,List.length_cons,if_true,Nat.add_sub_cancel,Nat.sub_self] at hq;have HQ:=Lib.hid hq;clear hq HPOP;go_wp2_with fail
     go_meet
     exact HFIN.out _ _ HQ.out
    ·have hadd:(⟨b',off,none⟩:Addr).add (1*9)=⟨b',off+9,none⟩:=by unfold Addr.add;split<;>simp_all
     have hq:=HPOP.out;simp only [sliced,List.length_cons,if_neg hc,Option.map_some,hadd,Nat.add_sub_cancel] at hq;have HQ:=Lib.hid hq;clear hq HPOP hadd;go_wp2_with fail
     go_meet
     exact HFIN.out _ _ HQ.out
   case rest=>
    obtain ⟨vN,h1,h2,h3,h4,h5⟩:=hcut;have HL2:=Lib.hid h1;have HU2:=Lib.hid h2;have HF2:=Lib.hid h3;have HZ2:=Lib.hid h4;have HG2:=Lib.hid h5;obtain ⟨A2,cap2,rfl,_⟩:=h1.comp.gates.form;clear h1 h2 h3 h4 h5 HLA HUA HZA HGA HBA k0 k1 k2 k3 k4 f0 f1 f2 f3 f4;have HB2:Hid (wc.heap[b]?=some (.cells #[vK,.map (some ba),.map (some bu),.slice A2 r.length cap2,vT] 103 (0,0))):=HL2.out.blk;have HKE:Hid (okE ((a0,a1,a2),(a3,a4,a5))):=by have:=HGO.out _ (List.mem_cons_self ..);exact ⟨this.1,this.2.1⟩
    have hlk:=(HL2.out.comp.used.keep (Upd.refl noBlk wc).drew).lookR (a:=((a0,a1,a2),(a3,a4,a5))) HKE.out;go_wp2_with fail
    refine wp_region_tree 6 (OT.sures [0,4,5,1,2,3] .nil) (fun w'=>Gr wc w') (by kernel_rfl) (by kernel_rfl) (fun c a d v w h=>by cases d<;>exact h) ((Gr.refl wc).drew) ?_
    simp only [OT.sures]
    iterate 6 (apply wpT_sure rfl rfl;focus (intro w' hw';obtain ⟨⟨k0,k1,k2,k3,k4⟩,_⟩:=cells5 (hw'.heap HB2.out id);obtain ⟨g0,g1,g2,g3,g4,g5,g6,g7,g8⟩:=cells9 (hw'.heap HG2.out id);go_simp;rfl))
    refine wpT_nil ?_;have hts:=third_isSome tr (a0,a1,a2) (a3,a4,a5);by_cases hm:((a0,a1,a2),(a3,a4,a5))∈edgesL tr
    ·have hv:(setF (edgesL tr) ((a0,a1,a2),(a3,a4,a5))).getD kitUsed.zero=true:=by unfold setF;rw [if_pos hm];rfl
     rw [hv] at hlk;have HK1:(Instr.lookup 100 (.map (some bu)) (.agg #[.int .i64 a0,.int .i64 a1,.int .i64 a2,.int .i64 a3,.int .i64 a4,.int .i64 a5]) false).run Tryz.prog wc.drew=.ok (.bool true) wc.drew:=hlk;have HOE2:Hid (openG tr r=openG tr gs):=by
      show _=_;rw [←HOE.out,openG,if_pos (by rw [hts];exact decide_eq_true hm)]
     clear hlk hv hm hts;go_wp2_with fail
     refine ⟨⟨r,_,HOE2.out,by have:=HGL.out;simp only [List.length_cons] at this;omega,fun x hx=>HGO.out x (List.mem_cons_of_mem _ hx),HL2.out.upd (Upd.refl noBlk wc).drew (fun _ _=>id),HU2.out.drew,HF2.out,HZ2.out⟩,?_⟩;have hc3:wc.drew.cell? ⟨b,3,none⟩=some (.slice A2 r.length cap2):=(cells5 HB2.out).1.2.2.2.1
     first
     | (rw [hc3,hMS.out];exact Nat.lt_succ_self _)
     | (have:=hMS.out;simp only [hc3];omega)
    ·have hv:(setF (edgesL tr) ((a0,a1,a2),(a3,a4,a5))).getD kitUsed.zero=false:=by unfold setF;rw [if_neg hm];rfl
     rw [hv] at hlk;have HK1:(Instr.lookup 100 (.map (some bu)) (.agg #[.int .i64 a0,.int .i64 a1,.int .i64 a2,.int .i64 a3,.int .i64 a4,.int .i64 a5]) false).run Tryz.prog wc.drew=.ok (.bool false) wc.drew:=hlk;have hnv:nextV tr gs=((a0,a1,a2),(a3,a4,a5),(a6,a7,a8))∧nextB tr gs=true∧restG tr gs=r:=by
      unfold nextV nextB restG;rw [←HOE.out,openG,if_neg (by rw [hts,decide_eq_false hm];simp)];exact ⟨rfl,rfl,rfl⟩
     have HNV:=Lib.hid hnv;clear hlk hv hm hts hnv;have hdr:Upd noBlk wc wc.drew:=(Upd.refl _ wc).drew;obtain ⟨⟨z0,z1,z2,z3,z4,z5,z6,z7,z8⟩,⟨y0,y1,y2,y3,y4,y5,y6,y7,y8⟩⟩:=cellsF9 HZ2.out;obtain ⟨g0,g1,g2,g3,g4,g5,g6,g7,g8⟩:=cells9 HG2.out;clear hdr;go_wp2_with fail
     refine post9b (Q:=fun wz=>bodyPost _ _ _ _ _ wz.drew) HZ2.out (fun wz hz hu=>?_);obtain ⟨c0,c1,c2,c3,c4,c5,c6,c7,c8⟩:=cells9 hz;refine bodyPost_ret (by simp [results,Tryz.results47,go_sem,c0,c1,c2,c3,c4,c5,c6,c7,c8];rfl) rfl ?_;obtain ⟨n1,n2,n3⟩:=HNV.out;rw [n1,n2,n3];refine ⟨rfl,_,⟨_,_,_,_,_,HL2.out.upd hu.drew (fun k hk e=>by have:=HFL.out k (HF2.out k hk);omega),rfl⟩,fun k hk=>.inl (HF2.out k hk),?_⟩;exact HU2.out.then hu.drew (fun k hk e=>by omega)
end Go.Proofs.YtcikldoaidmnhaaGreatDoor
namespace Go.Proofs.YtcikldoaidmnhaaGreatDoor
open Go Go.RowKit Pc
set_option maxRecDepth 100000
set_option maxHeartbeats 400000 in
theorem carry_nil (w:World):Calls Tryz.prog 102 #[.slice none 0 0] w fun e w'=>e=.returned (.tuple #[])∧w=w':=by
 go_enter Tryz.func102,Tryz.ntmps102
 go_wp2
 refine wp_loop_once ?_;go_wp2
 go_end0
 exact ⟨rfl,rfl⟩
theorem grownBy_refl (w:World) (r:Option Nat):w.grownBy w r:=⟨rfl,rfl,rfl,Nat.le_refl _,fun _ _ _=>rfl⟩
theorem carry_v {base:Nat} (v:Value) (ds:List Nat) (hds:∀d,d∈ds→d<256) (w:World) (hown:w.ownsRow base 5 1 v ds.length (ds.map byteV)) (hn:ds.length≤maxLen) :
  Calls Tryz.prog 102 #[v] w fun e w'=>e=.returned (.tuple #[])∧w'.ownsRow base 5 1 v ds.length ((carry ds).map byteV)∧w.grownBy w' v.ownBlock:=by
 rcases hown.2 with ⟨rfl,h0⟩ | ⟨g,cap,cur,rfl,r⟩
 ·have hd:ds=[]:=List.eq_nil_of_length_eq_zero h0;subst hd;refine (carry_nil w).mono ?_;rintro e w' ⟨rfl,rfl⟩;exact ⟨rfl,hown,grownBy_refl _ _⟩
 ·exact carry_any base cap g ds hds w hown hn
theorem wrep_fin {F:Nat→Prop} {b wb:Nat} {dv dv':Value} {w w1 w2:World} {e:E} (hu0:Upd F w w1) (hf:∀k,wFoot b wb dv k→F k∨w.heap.size≤k)
  (k1:WLive w2 b wb dv' e) (k2:Upd (wFoot b wb dv) w1 w2) (k3:dv'.ownBlock=dv.ownBlock∨∃g,dv'.ownBlock=some g∧w1.heap.size≤g) :
  ∃F',WRep w2 b e F'∧Upd F w w2∧∀k,F' k→F k∨w.heap.size≤k:=by
 refine ⟨wFoot b wb dv',.inr ⟨wb,dv',k1,rfl⟩,hu0.then k2 (fun i hi hw=>(hf i hw).elim id (fun x=>absurd hi (by omega))),?_⟩;have hs:=hu0.size;rintro k (h | h | h)
 ·exact hf k (.inl h)
 ·exact hf k (.inr (.inl h))
 ·rcases k3 with h3 | ⟨g,h3,h4⟩
  ·exact hf k (.inr (.inr (by unfold inRow at *;rw [←h3];exact h)))
  ·right;have:k=g:=by unfold inRow at h;rw [h3] at h;simpa using h.symm
   omega
theorem WLive.setLow {w:World} {b wb:Nat} {dv:Value} {e:E} (h:WLive w b wb dv e) {low:Nat} (hl:low<4294967296) (n:Nat) :
  WLive ((w.drewN n).setCell ⟨b,3,none⟩ (.int .u32 low)) b wb dv ⟨e.m,e.done,low⟩:=
 ⟨⟨h.wf.m,hl,h.wf.done⟩,heap_setCell_eq (w:=w.drewN n) (i:=3) _ h.blk,h.wt.keep (heap_setCell_other (w.drewN n) ⟨b,3,none⟩ wb _ (fun x=>h.n1 x.symm)),
  ownsRow_setCell_other (w:=w.drewN n) h.own h.n2 _,h.n1,h.n2,h.n3⟩
theorem WLive.carry {w w':World} {b wb:Nat} {dv:Value} {e:E} (h:WLive w b wb dv e) (h1:w'.ownsRow 0 5 1 dv e.done.length ((carry e.done).map byteV)) (h2:w.grownBy w' dv.ownBlock) :
  WLive w' b wb dv ⟨e.m,carry e.done,e.low⟩:=
 ⟨⟨h.wf.m,h.wf.low,carry_lt h.wf.done⟩,(h2.block b (lt_of_heap h.blk) (fun x=>h.n2 x.symm)).trans h.blk,h.wt.keep (h2.block wb h.wt.lt (fun x=>h.n3 x.symm)),
  by rw [carry_length];exact h1,h.n1,h.n2,h.n3⟩
set_option maxHeartbeats 1000000 in
theorem WBit_any (b:Nat) (c:Int) (one:Bool) (e:E) (F:Nat→Prop) (w:World) (h:WRep w b e F) (hlen:e.done.length+1≤1000000) :
  Calls Tryz.prog 49 #[.pointer (some ⟨b,0,none⟩),.int .i64 c,.bool one] w fun en w'=>en=.returned (.tuple #[]) ∧
   ∃F',WRep w' b (e.bit c one) F'∧Upd F w w'∧∀k,F' k→F k∨w.heap.size≤k:=by
 have hF:=h.lt;have he:=h.wf;have hL:=Lib.hid hlen;have hML:Hid (e.done.length≤maxLen):=by show _≤_;unfold maxLen;omega
 clear hlen;have hbx:=h.keep (w':=w.alloc (.cells #[.pointer (some ⟨b,0,none⟩)] 92)) (fun k hk=>_root_.Go.heap_alloc_old w _ (hF k hk));clear h;cases one
 all_goals
  go_enter Tryz.func49,Tryz.ntmps49
  go_wp2_with fail
  refine (begin_W b e F _ hbx).mono ?_;rintro en w1 ⟨r,rfl,wb,dv,hl,hu,hf⟩;have hwc:w1.cell? ⟨w.heap.size,0,none⟩=some (.pointer (some ⟨b,0,none⟩)):=hu.cell (World.cell?_alloc_new w _ _ 0) (fun x=>Nat.lt_irrefl _ (hF _ x));have hnf:¬wFoot b wb dv w.heap.size:=fun x=>(hf _ x).elim (fun y=>Nat.lt_irrefl _ (hF _ y)) (fun y=>by simp at y;omega);have hf':Hid (∀k,wFoot b wb dv k→F k∨w.heap.size≤k):=fun k hk=>(hf k hk).imp id (fun y=>by simp at y;omega);have H2:Hid (Upd F w w1):=((Upd.refl F w).alloc _).trans hu;have H1:=Lib.hid hl;clear hl hu hf hbx
 ·go_wp2_with fail
  refine (upd_W c false b w.heap.size wb dv e w1 he H1.out hwc hnf hL.out).mono ?_;rintro en w2 ⟨rfl,dv',k1,k2,k3⟩;go_wp2
  go_end0
  exact ⟨rfl,wrep_fin H2.out hf'.out k1 k2 k3⟩
 ·have c0:w1.cell? ⟨b,0,none⟩=some (.slice (some ⟨wb,0,none⟩) 4096 4096):=by rw [cell_of_row w1 b 0 _ _ _ H1.out.blk];rfl
  have c1:w1.cell? ⟨b,1,none⟩=some (.int .u32 e.m.size):=by rw [cell_of_row w1 b 1 _ _ _ H1.out.blk];rfl
  have c2:w1.cell? ⟨b,2,none⟩=some dv:=by rw [cell_of_row w1 b 2 _ _ _ H1.out.blk];rfl
  have c3:w1.cell? ⟨b,3,none⟩=some (.int .u32 e.low):=by rw [cell_of_row w1 b 3 _ _ _ H1.out.blk];rfl
  have f1:=frozen_of_row w1 b 1 _ _ H1.out.blk;have f3:=frozen_of_row w1 b 3 _ _ H1.out.blk;have hmod:∀n,Mod (w1.drewN n) b wb e.m:=fun n=>⟨c0,c1,f1,H1.out.wt,H1.out.n1⟩;have hsp:Hid (e.m.split (ctx c)<4294967296):=by
   have:=M.split_bd he.m (ctx_lt c);have:=he.m.hi;show _<_;omega
  have hlw:=Lib.hid he.low;have nwb:w.heap.size≠b:=fun x=>hnf (.inl x);have hM:=Lib.hid hmod;clear hmod;go_wp2_with fail
  go_quiet ((first | (go_at_call 101;exact quiet_drew (split_any _ _ _ _ he.m _ (hM.out _))) | (go_at_call 100;exact quiet_eq (add32_any _ _ hlw.out hsp.out _))))
  by_cases hov:4294967296≤e.low+e.m.split (ctx c)
  ·have hq:((((e.low+e.m.split (ctx c)) / 4294967296:Nat):Int) != 0)=true:=by rw [bne_iff_ne];omega
   have HV:=Lib.hid hov;clear hov;have hl2:=Lib.hid (H1.out.setLow (low:=(e.low+e.m.split (ctx c)) % 4294967296) (Nat.mod_lt _ (by omega)) nq);have hwc2:((w1.drewN nq).setCell ⟨b,3,none⟩ (.int .u32 (((e.low+e.m.split (ctx c)) % 4294967296:Nat):Int))).cell? ⟨w.heap.size,0,none⟩=some (.pointer (some ⟨b,0,none⟩)):=by
    rw [World.cell?_setCell_other _ _ _ _ (by simp)];exact hwc
   have hup2:Hid (Upd (wFoot b wb dv) w1 ((w1.drewN nq).setCell ⟨b,3,none⟩ (.int .u32 (((e.low+e.m.split (ctx c)) % 4294967296:Nat):Int)))):=(Upd.ofDrewN w1 nq).setCell (fun _=>.inl rfl) _;go_wp2_with fail
   refine (carry_v dv e.done he.done _ hl2.out.own hML.out).mono ?_;rintro en w3 ⟨rfl,q1,q2⟩;have hwc3:=q2.cell hwc2 (fun x=>hnf (.inr (.inr x.symm)));have hl3:Hid (WLive w3 b wb dv ⟨e.m,e.done1 (ctx c) true,e.low1 (ctx c) true⟩):=by
    have:=hl2.out.carry q1 q2;have e1:e.done1 (ctx c) true=Pc.carry e.done:=by unfold E.done1;rw [if_pos (by simpa using HV.out)]
    have e2:e.low1 (ctx c) true=(e.low+e.m.split (ctx c)) % 4294967296:=by unfold E.low1;simp
    show WLive _ _ _ _ _;rw [e1,e2];exact this
   have hup3:Hid (Upd (wFoot b wb dv) w1 w3):=hup2.out.grown q2 (fun k hk _=>.inr (.inr hk));clear q1 q2 hwc2 hwc;go_wp2_with fail
   refine (upd_W c true b w.heap.size wb dv e w3 he hl3.out hwc3 hnf hL.out).mono ?_;rintro en w2 ⟨rfl,dv',k1,k2,k3⟩;go_wp2
   go_end0
   exact ⟨rfl,wrep_fin H2.out hf'.out k1 (hup3.out.trans k2) (k3.imp id (fun ⟨g,g1,g2⟩=>⟨g,g1,Nat.le_trans hup3.out.size g2⟩))⟩
  ·have hq:((((e.low+e.m.split (ctx c)) / 4294967296:Nat):Int) != 0)=false:=by rw [bne_eq_false_iff_eq];omega
   have HV:=Lib.hid hov;clear hov;have hl2:Hid (WLive ((w1.drewN nq).setCell ⟨b,3,none⟩ (.int .u32 (((e.low+e.m.split (ctx c)) % 4294967296:Nat):Int))) b wb dv ⟨e.m,e.done1 (ctx c) true,e.low1 (ctx c) true⟩):=by
    have:=H1.out.setLow (low:=(e.low+e.m.split (ctx c)) % 4294967296) (Nat.mod_lt _ (by omega)) nq;have e1:e.done1 (ctx c) true=e.done:=by unfold E.done1;rw [if_neg (by simpa using HV.out)]
    have e2:e.low1 (ctx c) true=(e.low+e.m.split (ctx c)) % 4294967296:=by unfold E.low1;simp
    show WLive _ _ _ _ _;rw [e1,e2];exact this
   have hwc2:((w1.drewN nq).setCell ⟨b,3,none⟩ (.int .u32 (((e.low+e.m.split (ctx c)) % 4294967296:Nat):Int))).cell? ⟨w.heap.size,0,none⟩=some (.pointer (some ⟨b,0,none⟩)):=by
    rw [World.cell?_setCell_other _ _ _ _ (by simp)];exact hwc
   have hup3:Hid (Upd (wFoot b wb dv) w1 ((w1.drewN nq).setCell ⟨b,3,none⟩ (.int .u32 (((e.low+e.m.split (ctx c)) % 4294967296:Nat):Int)))):=(Upd.ofDrewN w1 nq).setCell (fun _=>.inl rfl) _;go_wp2_with fail
   refine (upd_W c true b w.heap.size wb dv e _ he hl2.out hwc2 hnf hL.out).mono ?_;rintro en w2 ⟨rfl,dv',k1,k2,k3⟩;go_wp2
   go_end0
   exact ⟨rfl,wrep_fin H2.out hf'.out k1 (hup3.out.trans k2) (k3.imp id (fun ⟨g,g1,g2⟩=>⟨g,g1,Nat.le_trans hup3.out.size g2⟩))⟩
end Go.Proofs.YtcikldoaidmnhaaGreatDoor
namespace Go.Proofs.YtcikldoaidmnhaaGreatDoor
open Go Go.RowKit Pc
set_option maxRecDepth 100000
theorem snoc_cases {α:Type} (k:List α):k=[]∨∃k0 d,k=k0++[d]:=by
 rcases List.eq_nil_or_concat k with h | ⟨k0,d,h⟩
 ·exact .inl h
 ·exact .inr ⟨k0,d,by rw [h,List.concat_eq_append]⟩
theorem trim_snoc_zero (l:List Nat):trim (l++[0])=trim l:=by simp [trim,trimR]
theorem trim_snoc_ne (l:List Nat) {d:Nat} (h:d≠0):trim (l++[d])=l++[d]:=by simp [trim,trimR,h]
set_option maxHeartbeats 400000 in
theorem trimByte_any (l:List Nat) (hl:∀d,d∈l→d<256) (hlen:l.length≤maxLen) (w:World) :
  Calls Tryz.prog 144 #[.string (str l),.int .u8 0] w fun e w'=>e=.returned (.string (str (trim l)))∧w=w':=by
 unfold maxLen at hlen;go_enter Tryz.func144,Tryz.ntmps144
 go_wp2
 go_loop [0] (fun s=>∃k,s=.string (str k)∧trim k=trim l∧(∀d,d∈k→d<256)∧k.length≤l.length) (fun s=>lenOfV s)
 case atStart=>exact ⟨l,rfl,rfl,hl,Nat.le_refl _⟩
 case round=>
  obtain ⟨k,rfl,h1,h2,h3⟩:=hrel;have hsz:=str_size k;rcases snoc_cases k with rfl | ⟨k0,d,rfl⟩
  ·have h4:Hid (trim l=[]):=h1.symm;clear h1 hl h2 h3;go_wp2
   go_ret
   exact ⟨by rw [h4.out];rfl,rfl⟩
  ·have hsz':(str (k0++[d])).size=k0.length+1:=by rw [str_size];simp
   have hk0:(k0.length:Int)<9223372036854775807:=by simp at h3;omega
   have hix:∀(i:Nat) (h:i<(str (k0++[d])).size),i=k0.length→((str (k0++[d]))[i]'h).toNat=d:=by
    intro i h e;subst e;rw [str_get (by simp) h2];simp
   by_cases hd:d=0
   ·subst hd;have H1:Hid (trim k0=trim l):=by show _=_;rw [←h1,trim_snoc_zero]
    have hq:(str (k0++[0])).extract 0 k0.length=str k0:=by rw [str_extract];simp
    have H2:Hid (∀d,d∈k0→d<256):=fun d hd=>h2 d (by simp [hd]);have h4:k0.length≤l.length:=by simp at h3;omega
    clear hl h1 h2 h3 hsz;go_wp2
    go_round
    case rel=>exact ⟨k0,rfl,H1.out,H2.out,h4⟩
    case measure=>simp [lenOfV,str_size]
   ·have hq:((d:Int) == 0)=false:=by rw [beq_eq_false_iff_ne];omega
    have H1:Hid (trim l=k0++[d]):=by show _=_;rw [←h1,trim_snoc_ne _ hd]
    clear hl h1 h2 h3 hsz;go_wp2
    go_ret
    exact ⟨by rw [H1.out];rfl,rfl⟩
set_option maxHeartbeats 400000 in
theorem trimRight_any (l:List Nat) (hl:∀d,d∈l→d<256) (hlen:l.length≤maxLen) (w:World) :
  Calls Tryz.prog 106 #[.string (str l),.string ⟨#[0]⟩] w fun e w'=>e=.returned (.string (str (trim l)))∧w=w':=by
 rcases l with _ | ⟨x,l⟩
 ·have hs0:(str []).toList=[]:=str_toList _;go_enter Tryz.func106,Tryz.ntmps106
  go_wp2
  go_ret
  exact ⟨rfl,rfl⟩
 ·have hs0:(str (x :: l)).toList=UInt8.ofNat x :: l.map UInt8.ofNat:=str_toList _;have hq:(⟨#[0]⟩:ByteArray).size=1:=rfl;go_enter Tryz.func106,Tryz.ntmps106
  go_wp2_with fail
  refine (trimByte_any _ hl hlen _).mono ?_;rintro e w' ⟨rfl,rfl⟩;go_wp2
  go_ret
  exact ⟨rfl,rfl⟩
theorem WRep.reads {w:World} {b:Nat} {e:E} {F:Nat→Prop} (h:WRep w b e F):∃dv,w.cell? ⟨b,1+1,none⟩=some dv∧w.cell? ⟨b,3,none⟩=some (.int .u32 e.low) ∧
  w.ownsRow 0 5 1 dv e.done.length (e.done.map byteV):=by
 rcases h with ⟨rfl,h2,rfl⟩ | ⟨wb,dv,h1,rfl⟩
 ·exact ⟨.slice none 0 0,by rw [cell_of_row w b _ _ _ _ h2];rfl,by rw [cell_of_row w b 3 _ _ _ h2];rfl,World.ownsRow_nil _ _ _ _⟩
 ·exact ⟨dv,by rw [cell_of_row w b _ _ _ _ h1.blk];rfl,by rw [cell_of_row w b 3 _ _ _ h1.blk];rfl,h1.own⟩
theorem byteV_one (l:List Nat):∀u∈l.map byteV,u.oneCell'=true:=by
 intro u hu;obtain ⟨d,_,rfl⟩:=List.mem_map.1 hu;rfl
set_option maxHeartbeats 1000000 in
theorem WFinish_any (b:Nat) (e:E) (F:Nat→Prop) (w:World) (h:WRep w b e F) (hlen:e.done.length+1≤1000000) :
  Calls Tryz.prog 54 #[.pointer (some ⟨b,0,none⟩)] w fun en w'=>en=.returned (.string (str e.finish))∧Upd noBlk w w':=by
 obtain ⟨dv,hc2,hc3,hown⟩:=h.reads;have he:=h.wf;have hlow:(e.low:Int)<4294967296:=by have:=he.low;omega
 obtain ⟨i0,hi0,hz0,hz1,hz2⟩:=info_parts info_u8;have m1:Hid (e.done.length≤maxLen):=by show _≤_;unfold maxLen;omega
 have m2:Hid (e.done.length+1≤maxLen):=by show _≤_;unfold maxLen;omega
 have b1:Hid ((e.done.length+1)*1≤140737488355328):=by show _≤_;omega
 obtain ⟨v1,w1,r1,o1,g1⟩:=append_copy w 41 41 5 i0 _ 1 1 Tryz.underlying41 hi0 hz0 hz1 hz2 rfl (by omega) hown (byteV_one _) m1.out (by omega);have u1:Hid (Upd noBlk w w1):=upd_of_grown g1 (fun k hk=>by simp at hk);have hc3':=g1.cell hc3 (by simp);have R1:=Lib.hid r1;have O1:=Lib.hid o1;have hq:((e.low:Int)+16777216-1) / 16777216=(e.last:Int):=by unfold E.last;omega
 have hlast:Hid (e.last≤256):=by show _≤_;unfold E.last;omega
 have hd:=Lib.hid he.done;clear r1 o1 hown h hlen;by_cases hl:e.last=256
 ·have ht:((e.last:Int) == 256)=true:=by rw [beq_iff_eq];omega
  have HL:=Lib.hid hl;clear hl;go_enter Tryz.func54,Tryz.ntmps54
  go_wp2_with (at_builtin;refine wpList_append_run rfl _ _ _ rfl rfl rfl R1.out ?_)
  refine (carry_v v1 e.done hd.out w1 O1.out m1.out).mono ?_;rintro en w2 ⟨rfl,o2,g2⟩;have hcl:Hid ((carry e.done).length=e.done.length):=carry_length _;have hbase:Hid (w.heap.size≤w2.heap.size):=Nat.le_trans u1.out.size g2.size;obtain ⟨gg,cap,w3,r3,o3,g3,hat,hlt⟩:=append_one w2 41 41 5 i0 _ 1 1 Tryz.underlying41 hi0 hz0 hz1 hz2 rfl (by omega) o2 hbase.out [byteV 0] rfl (byteV_one [0]) m2.out b1.out;have hcv:=conv_own (P:=Tryz.prog) (src:=41) (e:=5) (dst:=9) (l:=carry e.done++[0]) Tryz.underlying41 Tryz.underlying5 Tryz.underlying9 (by rw [List.length_append,hcl.out,List.map_append];exact o3);have hw8:IntKind.u8.wrap (e.last:Int)=0:=by rw [HL.out];rfl
  have R3:=Lib.hid r3;have O3:=Lib.hid o3;have hu:Hid (Upd noBlk w w3):=by
   refine (u1.out.grown g2 (fun k hk hk'=>?_)).then ((upd_of_grown (World.grownBy_alloc w2 _ v1.ownBlock) (F:=inRow v1) (fun k hk _=>hk)).trans (upd_of_grown g3 (fun k hk _=>hk))) (fun k hk hk'=>?_)
   ·have:=(O1.out.lt k hk).1;omega
   ·have:=(O1.out.lt k hk').1;omega
  clear r3 o3 o2 g2 g3;go_wp2_with (at_builtin;refine wpList_append_run rfl _ _ _ rfl rfl rfl R3.out ?_)
  have hfin:Hid (trim (carry e.done++[0])=e.finish):=by show _=_;unfold E.finish;rw [if_pos HL.out]
  have hb8:Hid (∀d,d∈carry e.done++[0]→d<256):=by
   intro d hd';rcases List.mem_append.1 hd' with h | h
   ·exact carry_lt hd.out d h
   ·simp at h;omega
  have hln:Hid ((carry e.done++[0]).length≤maxLen):=by show _≤_;rw [List.length_append,hcl.out];exact m2.out
  clear hcv;refine (trimRight_any _ hb8.out hln.out _).mono ?_;rintro en w4 ⟨rfl,rfl⟩;go_wp2
  go_ret
  exact ⟨by rw [←hfin.out];rfl,hu.out⟩
 ·have ht:((e.last:Int) == 256)=false:=by rw [beq_eq_false_iff_ne];omega
  have HL:=Lib.hid hl;have hl256:e.last<256:=by have:=hlast.out;omega
  obtain ⟨gg,cap,w3,r3,o3,g3,hat,hlt⟩:=append_one w1 41 41 5 i0 _ 1 1 Tryz.underlying41 hi0 hz0 hz1 hz2 rfl (by omega) O1.out u1.out.size [byteV e.last] rfl (byteV_one [e.last]) m2.out b1.out;have hcv:=conv_own (P:=Tryz.prog) (src:=41) (e:=5) (dst:=9) (l:=e.done++[e.last]) Tryz.underlying41 Tryz.underlying5 Tryz.underlying9 (by rw [List.length_append,List.map_append];exact o3);have hw8:IntKind.u8.wrap (e.last:Int)=(e.last:Int):=wrap_u8 (by omega) (by omega);have R3:=Lib.hid r3;have O3:=Lib.hid o3;have hu:Hid (Upd noBlk w w3):=by
   refine u1.out.then ((upd_of_grown (World.grownBy_alloc w1 _ v1.ownBlock) (F:=inRow v1) (fun k hk _=>hk)).trans (upd_of_grown g3 (fun k hk _=>hk))) (fun k hk hk'=>?_);have:=(O1.out.lt k hk').1;omega
  have hfin:Hid (trim (e.done++[e.last])=e.finish):=by show _=_;unfold E.finish;rw [if_neg hl]
  have hb8:Hid (∀d,d∈e.done++[e.last]→d<256):=by
   intro d hd';rcases List.mem_append.1 hd' with h | h
   ·exact hd.out d h
   ·simp at h;omega
  have hln:Hid ((e.done++[e.last]).length≤maxLen):=by show _≤_;rw [List.length_append];exact m2.out
  clear hl r3 o3 g3 hl256;go_enter Tryz.func54,Tryz.ntmps54
  go_wp2_with (first | (at_builtin;refine wpList_append_run rfl _ _ _ rfl rfl rfl R1.out ?_) | (at_builtin;refine wpList_append_run rfl _ _ _ rfl rfl rfl R3.out ?_))
  refine (trimRight_any _ hb8.out hln.out _).mono ?_;rintro en w4 ⟨rfl,rfl⟩;go_wp2
  go_ret
  exact ⟨by rw [←hfin.out];rfl,hu.out⟩
end Go.Proofs.YtcikldoaidmnhaaGreatDoor
namespace Go.Proofs.YtcikldoaidmnhaaGreatDoor
open Go Go.RowKit Pc
set_option maxRecDepth 100000
set_option maxHeartbeats 400000 in
theorem NewWriter_any (w:World):Calls Tryz.prog 45 #[] w fun e w'=>e=.returned (.pointer (some ⟨w.heap.size,0,none⟩))∧w.alloc (.cells wZero 159)=w':=by
 go_enter Tryz.func45,Tryz.ntmps45
 go_wp2
 go_ret
 exact ⟨rfl,rfl⟩
theorem NewWriter_rep (w:World):WRep (w.alloc (.cells wZero 159)) w.heap.size E.init (·=w.heap.size):=.inl ⟨rfl,heap_alloc_new w _,rfl⟩
end Go.Proofs.YtcikldoaidmnhaaGreatDoor
