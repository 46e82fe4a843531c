/- Parts: Walks of the packets' program: the next gate. No condition. -/
import Derived.Test.YtmgklblglpplcaaGreatDoorRPubl1
import Derived.Test.YtmgklblglpplcaaGreatDoorRPubl2
import Derived.Test.YtmgklblglpplcaaGreatDoorRPubl3
import Derived.Test.YtmgklblglpplcaaGreatDoorRPubl4
import Derived.Test.YtmgklblglpplcaaGreatDoorRPubl6
import Derived.Test.YtmgklblglpplcaaGreatDoorRPubl8
import Derived.Test.YtmgklblglpplcaaGreatDoorRPubl9
import Derived.Test.YtmgklblglpplcaaGreatDoorRPubl10
import Derived.Test.YtmgklblglpplcaaGreatDoorRPubl12
import Derived.Test.YtmgklblglpplcaaGreatDoorRPubl13
import Derived.Test.YtmgklblglpplcaaGreatDoorRPubl14
import Derived.Test.YtmgklblglpplcaaGreatDoorRPubl15
import Derived.Test.YtmgklblglpplcaaGreatDoorRPubl16
import Derived.WalkKit
import Derived.WalkSpells
import Derived.WalkLawsBesides
import Derived.Lib.Hide
import Derived.BigQuiet
import Derived.Deep.DeepFit
import Derived.Deep.DeepCutAuto
import Derived.Deep.AppendLies
import Derived.Deep.QuietTactic
import Derived.Maps.OwnOps
import Derived.Maps.OwnSet
import Derived.Maps.RangeWalk
import Derived.WideKeyEntry
import Derived.Deep.MidRow
import Derived.Lib.Bits
import Derived.Test.YtmgklblglpplcaaGreatDoorRows
import Derived.Deep.RegionHeld3
import Derived.StillTail
import Derived.Laws.EntriesVeiled
import Derived.Handy
import Derived.DeepKeys4
import Derived.ArgAppend
import Derived.Deep.Upon
import Derived.Deep.CutBlock
import Derived.Test.YtmgklblglpplcaaGreatDoorShelf2
namespace Go.Proofs.YtmgklblglpplcaaGreatDoor
open Go Go.RowKit Pk
set_option maxRecDepth 100000
def gateV (g:Gate):Value:=.agg (triC g).toArray
def nextV (tris:List Tri) (gates:List Gate):Gate:=match openG tris gates with
 | g :: _=>g
 | []=>((0,0,0),(0,0,0),(0,0,0))
def nextB (tris:List Tri) (gates:List Gate):Bool:=match openG tris gates with
 | _ :: _=>true
 | []=>false
def restG (tris:List Tri) (gates:List Gate):List Gate:=match openG tris gates with
 | _ :: r=>r
 | []=>[]
theorem post9b {Q:World→Prop} {w:World} {b:Nat} {x0 x1 x2 x3 x4 x5 x6 x7 x8 y0 y1 y2 y3 y4 y5 y6 y7 y8:Value} {t:TypeId} (h:w.heap[b]?=some (.cells #[x0,x1,x2,x3,x4,x5,x6,x7,x8] t (0,0)))
  (hQ:∀wz:World,wz.heap[b]?=some (.cells #[y0,y1,y2,y3,y4,y5,y6,y7,y8] t (0,0))→Upd (fun k=>k=b) w wz→Q wz):Q (((((((((w.setCell ⟨b,0,none⟩ y0).setCell ⟨b,1,none⟩ y1).setCell ⟨b,2,none⟩ y2).setCell ⟨b,3,none⟩ y3).setCell ⟨b,4,none⟩ y4).setCell ⟨b,5,none⟩ y5).setCell ⟨b,6,none⟩ y6).setCell ⟨b,7,none⟩ y7).setCell ⟨b,8,none⟩ y8):=by
 have s:=set9 h y0 y1 y2 y3 y4 y5 y6 y7 y8;refine hQ _ s ?_;exact (((((((((Upd.refl (fun k=>k=b) w).setCell (p:=⟨b,0,none⟩) (fun _=>rfl) _).setCell (p:=⟨b,1,none⟩) (fun _=>rfl) _).setCell (p:=⟨b,2,none⟩) (fun _=>rfl) _).setCell (p:=⟨b,3,none⟩) (fun _=>rfl) _).setCell (p:=⟨b,4,none⟩) (fun _=>rfl) _).setCell (p:=⟨b,5,none⟩) (fun _=>rfl) _).setCell (p:=⟨b,6,none⟩) (fun _=>rfl) _).setCell (p:=⟨b,7,none⟩) (fun _=>rfl) _).setCell (p:=⟨b,8,none⟩) (fun _=>rfl) _
set_option maxHeartbeats 4000000 in
theorem snext_any (b:Nat) (S:Wk) (G:Nat→Prop) (hok:∀g,g∈S.gates→okT g) (hl:S.gates.length≤1000000) (w:World) (h:SRep w b S G) :
  Calls Tryz.prog 96 #[.pointer (some ⟨b,0,none⟩)] w fun en w'=>en=.returned (.tuple #[gateV (nextV S.tris S.gates),.bool (nextB S.tris S.gates)])∧SPost G w w' b ⟨S.known,S.tris,restG S.tris S.gates⟩:=by
 obtain ⟨vK,vG,vT,ba,bu,h,rfl⟩:=h;obtain ⟨K,tr,gs⟩:=S;simp only at *;have hu:=(Upd.refl noBlk w).alloc (.cells #[.int .i64 0,.int .i64 0,.int .i64 0,.int .i64 0,.int .i64 0,.int .i64 0,.int .i64 0,.int .i64 0,.int .i64 0] 184);have HL0:=Lib.hid (h.upd hu (fun _ _=>id));have HU0:Hid (Upd (sFoot b vK vG vT ba bu) w (w.alloc (.cells #[.int .i64 0,.int .i64 0,.int .i64 0,.int .i64 0,.int .i64 0,.int .i64 0,.int .i64 0,.int .i64 0,.int .i64 0] 184))):=hu.mono (fun _ _ h=>h.elim);have HZ0:=Lib.hid (heap_alloc_new w (.cells #[.int .i64 0,.int .i64 0,.int .i64 0,.int .i64 0,.int .i64 0,.int .i64 0,.int .i64 0,.int .i64 0,.int .i64 0] 184));have HBL:Hid (b<w.heap.size):=h.lt b (.inl rfl);have HOK:=Lib.hid hok;have hl0:Hid (gs.length≤1000000):=hl;obtain ⟨FT,hFT⟩:∃FT,FT=sFoot b vK vG vT ba bu:=⟨_,rfl⟩;have FN0:Hid (∀k,sFoot b vK vG vT ba bu k→FT k):=fun k hk=>by rw [hFT];exact hk
 have HFL:Hid (∀k,FT k→k<w.heap.size):=fun k hk=>h.lt k (by rw [←hFT];exact hk);rw [←hFT] at HU0;have HFB:Hid (FT b):=by show FT b;rw [hFT];exact .inl rfl
 rw [←hFT];clear h hu hok hl hFT;go_enter Tryz.func96,Tryz.ntmps96
 obtain ⟨x0,hx0⟩:∃x0,x0=w.alloc (.cells #[.int .i64 0,.int .i64 0,.int .i64 0,.int .i64 0,.int .i64 0,.int .i64 0,.int .i64 0,.int .i64 0,.int .i64 0] 184):=⟨_,rfl⟩;rw [←hx0] at HL0 HU0 HZ0;go_upto_block 0 with fail
 rw [←hx0];clear hx0;go_wp2_with fail
 go_loopw [4] (fun _ wr=>∃(g:List Gate) (vG':Value),openG tr g=openG tr gs∧g.length≤gs.length∧(∀x,x∈g→okT x)∧SLive wr b ⟨K,tr,g⟩ vK vG' vT ba bu∧Upd FT w wr∧(∀k,sFoot b vK vG' vT ba bu k→FT k)∧wr.heap[w.heap.size]?=some (.cells #[.int .i64 0,.int .i64 0,.int .i64 0,.int .i64 0,.int .i64 0,.int .i64 0,.int .i64 0,.int .i64 0,.int .i64 0] 184 (0,0))) (fun _ wr=>match wr.cell? ⟨b,3,none⟩ with | some (.slice _ n _)=>n | _=>0)
 case atStart=>exact ⟨gs,vG,rfl,Nat.le_refl _,HOK.out,HL0.out,HU0.out,FN0.out,HZ0.out⟩
 case round=>
  obtain ⟨g,vG',h1,h2,h3,h4,h5,h6,h7⟩:=hrel;have HOE:=Lib.hid h1;have HGL:=Lib.hid h2;have HGO:=Lib.hid h3;have HL:=Lib.hid h4;have HU:=Lib.hid h5;have HFN:=Lib.hid h6;have HZ:=Lib.hid h7;obtain ⟨A,cap,rfl,hcap⟩:=h4.comp.gates.form;have hgb:(g.length:Int)≤1000000:=by have:=hl0.out;omega
  clear h1 h2 h3 h4 h5 h6 h7 HL0 HU0 HZ0 FN0;have HBK:Hid (wr.heap[b]?=some (.cells #[vK,.map (some ba),.map (some bu),.slice A g.length cap,vT] 182 (0,0))):=HL.out.blk;obtain ⟨⟨k0,k1,k2,k3,k4⟩,⟨f0,f1,f2,f3,f4⟩⟩:=cells5 HBK.out;obtain ⟨⟨z0,z1,z2,z3,z4,z5,z6,z7,z8⟩,⟨y0,y1,y2,y3,y4,y5,y6,y7,y8⟩⟩:=cellsF9 HZ.out;rcases g with _ | ⟨⟨⟨a0,a1,a2⟩,⟨a3,a4,a5⟩,⟨a6,a7,a8⟩⟩,r⟩
  ·have hnv:nextV tr gs=((0,0,0),(0,0,0),(0,0,0))∧nextB tr gs=false∧restG tr gs=[]:=by
    unfold nextV nextB restG;rw [←HOE.out];exact ⟨rfl,rfl,rfl⟩
   have HNV:=Lib.hid hnv;clear hnv;go_wp2_with fail
   refine post9b (Q:=fun wz=>bodyPost _ _ _ _ _ wz) HZ.out (fun wz hz hu=>?_);obtain ⟨g0,g1,g2,g3,g4,g5,g6,g7,g8⟩:=cells9 hz;refine bodyPost_ret (by simp [results,Tryz.results96,go_sem,g0,g1,g2,g3,g4,g5,g6,g7,g8];rfl) rfl ?_;obtain ⟨n1,n2,n3⟩:=HNV.out;rw [n1,n2,n3];refine ⟨rfl,_,⟨_,_,_,_,_,HL.out.upd hu (fun k hk e=>by have:=HFL.out k (HFN.out k hk);omega),rfl⟩,fun k hk=>.inl (HFN.out k hk),?_⟩;exact HU.out.then hu (fun k hk e=>by omega)
  ·obtain ⟨A',cap',e,_,hrd⟩:=HL.out.comp.gates.rd;cases e;obtain ⟨b',off,rfl,hat⟩:=hrd (by simp);have hga:=hat 0 (by simp);have hk9:kGate.k=9:=rfl;rw [hk9,Nat.zero_mul,Nat.add_zero] at hga;have g0:wr.cell? ⟨b',off,none⟩=some (.int .i64 a0):=hga 0 _ rfl;have g1:wr.cell? ⟨b',off+1,none⟩=some (.int .i64 a1):=hga 1 _ rfl;have g2:wr.cell? ⟨b',off+2,none⟩=some (.int .i64 a2):=hga 2 _ rfl;have g3:wr.cell? ⟨b',off+3,none⟩=some (.int .i64 a3):=hga 3 _ rfl;have g4:wr.cell? ⟨b',off+4,none⟩=some (.int .i64 a4):=hga 4 _ rfl;have g5:wr.cell? ⟨b',off+5,none⟩=some (.int .i64 a5):=hga 5 _ rfl;have g6:wr.cell? ⟨b',off+6,none⟩=some (.int .i64 a6):=hga 6 _ rfl;have g7:wr.cell? ⟨b',off+7,none⟩=some (.int .i64 a7):=hga 7 _ rfl;have g8:wr.cell? ⟨b',off+8,none⟩=some (.int .i64 a8):=hga 8 _ rfl;clear hat hga hk9 hrd;rw [List.length_cons] at hcap hgb HBK k3;have HCAP:=Lib.hid hcap;have hgb':(r.length:Int)≤1000000:=by omega
   have hr0:(0:Int)<(r.length:Int)+1:=by omega
   have hA:=(Upd.refl noBlk wr).alloc (.cells #[.int .i64 a0,.int .i64 a1,.int .i64 a2,.int .i64 a3,.int .i64 a4,.int .i64 a5,.int .i64 a6,.int .i64 a7,.int .i64 a8] 184);have HLA:=Lib.hid (HL.out.upd hA (fun _ _=>id));have HUA:=Lib.hid (HU.out.trans (hA.mono (fun _ _ h=>h.elim)));have HZA:=Lib.hid (hA.heap HZ.out id);have HGA:=Lib.hid (heap_alloc_new wr (.cells #[.int .i64 a0,.int .i64 a1,.int .i64 a2,.int .i64 a3,.int .i64 a4,.int .i64 a5,.int .i64 a6,.int .i64 a7,.int .i64 a8] 184));have HWS:Hid (w.heap.size<wr.heap.size∧b<wr.heap.size):=⟨lt_of_heap HZ.out,lt_of_heap HBK.out⟩;clear hcap hgb hA;go_upto_region 3 with fail
   obtain ⟨wa,hwa⟩:∃wa,wa=wr.alloc (.cells #[.int .i64 a0,.int .i64 a1,.int .i64 a2,.int .i64 a3,.int .i64 a4,.int .i64 a5,.int .i64 a6,.int .i64 a7,.int .i64 a8] 184):=⟨_,rfl⟩;obtain ⟨bg,hbg⟩:∃bg,bg=wr.heap.size:=⟨_,rfl⟩;rw [←hwa] at HLA HUA HZA HGA;rw [←hbg] at HGA HWS;have hMS:Hid ((match wr.cell? ⟨b,3,none⟩ with | some (.slice _ n _)=>n | _=>0)=r.length+1):=by show _=_;rw [k3]
   rw [←hwa,←hbg];have HBA:Hid (wa.heap[b]?=some (.cells #[vK,.map (some ba),.map (some bu),.slice (some ⟨b',off,none⟩) (r.length+1) cap,vT] 182 (0,0))):=HLA.out.blk;clear hwa hbg k0 k1 k2 k3 k4 f0 f1 f2 f3 f4 z0 z1 z2 z3 z4 z5 z6 z7 z8 y0 y1 y2 y3 y4 y5 y6 y7 y8 g0 g1 g2 g3 g4 g5 g6 g7 g8;obtain ⟨⟨k0,k1,k2,k3,k4⟩,⟨f0,f1,f2,f3,f4⟩⟩:=cells5 HBA.out;go_cut [22] (fun _ wc=>∃vN,SLive wc b ⟨K,tr,r⟩ vK vN vT ba bu∧Upd FT w wc∧(∀k,sFoot b vK vN vT ba bu k→FT k)∧wc.heap[w.heap.size]?=some (.cells #[.int .i64 0,.int .i64 0,.int .i64 0,.int .i64 0,.int .i64 0,.int .i64 0,.int .i64 0,.int .i64 0,.int .i64 0] 184 (0,0))∧wc.heap[bg]?=some (.cells #[.int .i64 a0,.int .i64 a1,.int .i64 a2,.int .i64 a3,.int .i64 a4,.int .i64 a5,.int .i64 a6,.int .i64 a7,.int .i64 a8] 184 (0,0)))
   case first=>
    have hpop:=Kd.Que.pop HLA.out.comp.gates;have hcomp:∀vN,kGate.Que 0 wa vN r→SComp wa ⟨K,tr,r⟩ vK vN vT ba bu:=fun vN hq=>⟨HLA.out.comp.at_,HLA.out.comp.used,HLA.out.comp.known,hq,HLA.out.comp.tris,HLA.out.comp.ab⟩;have HCOMP:=Lib.hid hcomp;have HPOP:=Lib.hid hpop;have hk9:kGate.k=9:=rfl;rw [hk9] at HPOP;clear hpop hcomp hk9;have hfin:∀(off' cap':Nat),kGate.Que 0 wa (.slice (some ⟨b',off',none⟩) r.length cap') r→∃vN,SLive (wa.setCell ⟨b,3,none⟩ (.slice (some ⟨b',off',none⟩) r.length cap')) b ⟨K,tr,r⟩ vK vN vT ba bu∧Upd FT w (wa.setCell ⟨b,3,none⟩ (.slice (some ⟨b',off',none⟩) r.length cap'))∧(∀k,sFoot b vK vN vT ba bu k→FT k)∧(wa.setCell ⟨b,3,none⟩ (.slice (some ⟨b',off',none⟩) r.length cap')).heap[w.heap.size]?=some (.cells #[.int .i64 0,.int .i64 0,.int .i64 0,.int .i64 0,.int .i64 0,.int .i64 0,.int .i64 0,.int .i64 0,.int .i64 0] 184 (0,0))∧(wa.setCell ⟨b,3,none⟩ (.slice (some ⟨b',off',none⟩) r.length cap')).heap[bg]?=some (.cells #[.int .i64 a0,.int .i64 a1,.int .i64 a2,.int .i64 a3,.int .i64 a4,.int .i64 a5,.int .i64 a6,.int .i64 a7,.int .i64 a8] 184 (0,0)):=fun off' cap' hq=>
     ⟨_,SLive.put HBA.out (HCOMP.out _ hq) 3 _ rfl,HUA.out.setCell (p:=⟨b,3,none⟩) (fun _=>HFB.out) _,fun k hk=>HFN.out k (by
      rcases hk with h | h | h | h | h | h
      ·exact .inl h
      ·exact .inr (.inl h)
      ·exact .inr (.inr (.inl h))
      ·exact .inr (.inr (.inr (.inl h)))
      ·exact .inr (.inr (.inr (.inr (.inl h))))
      ·exact .inr (.inr (.inr (.inr (.inr h))))),by rw [heap_setCell_other _ _ _ _ (by have:=HBL.out;show w.heap.size≠b;omega)];exact HZA.out,by rw [heap_setCell_other _ _ _ _ (by have:=HWS.out.2;show bg≠b;omega)];exact HGA.out⟩
    have HFIN:=Lib.hid hfin;clear hfin;by_cases hc:cap=1
    ·subst hc;have hq:=HPOP.out;simp only [sliced,List.length_cons,if_true,Nat.add_sub_cancel,Nat.sub_self] at hq;have HQ:=Lib.hid hq;clear hq HPOP;go_wp2_with fail
     go_meet
     exact HFIN.out _ _ HQ.out
    ·have hadd:(⟨b',off,none⟩:Addr).add (1*9)=⟨b',off+9,none⟩:=by unfold Addr.add;split<;>simp_all
     have hq:=HPOP.out;simp only [sliced,List.length_cons,if_neg hc,Option.map_some,hadd,Nat.add_sub_cancel] at hq;have HQ:=Lib.hid hq;clear hq HPOP hadd;go_wp2_with fail
     go_meet
     exact HFIN.out _ _ HQ.out
   case rest=>
    obtain ⟨vN,h1,h2,h3,h4,h5⟩:=hcut;have HL2:=Lib.hid h1;have HU2:=Lib.hid h2;have HF2:=Lib.hid h3;have HZ2:=Lib.hid h4;have HG2:=Lib.hid h5;obtain ⟨A2,cap2,rfl,_⟩:=h1.comp.gates.form;clear h1 h2 h3 h4 h5 HLA HUA HZA HGA HBA k0 k1 k2 k3 k4 f0 f1 f2 f3 f4;have HB2:Hid (wc.heap[b]?=some (.cells #[vK,.map (some ba),.map (some bu),.slice A2 r.length cap2,vT] 182 (0,0))):=HL2.out.blk;have HKE:Hid (okE ((a0,a1,a2),(a3,a4,a5))):=by have:=HGO.out _ (List.mem_cons_self ..);exact ⟨this.1,this.2.1⟩
    have hlk:=(HL2.out.comp.used.keep (Upd.refl noBlk wc).drew).lookR (a:=((a0,a1,a2),(a3,a4,a5))) HKE.out;go_wp2_with fail
    refine wp_region_tree 6 (OT.sures [0,4,5,1,2,3] .nil) (fun w'=>Gr wc w') (by kernel_rfl) (by kernel_rfl) (fun c a d v w h=>by cases d<;>exact h) ((Gr.refl wc).drew) ?_
    simp only [OT.sures]
    iterate 6 (apply wpT_sure rfl rfl;focus (intro w' hw';obtain ⟨⟨k0,k1,k2,k3,k4⟩,_⟩:=cells5 (hw'.heap HB2.out id);obtain ⟨g0,g1,g2,g3,g4,g5,g6,g7,g8⟩:=cells9 (hw'.heap HG2.out id);go_simp;rfl))
    refine wpT_nil ?_;have hts:=third_isSome tr (a0,a1,a2) (a3,a4,a5);by_cases hm:((a0,a1,a2),(a3,a4,a5))∈edgesL tr
    ·have hv:(setF (edgesL tr) ((a0,a1,a2),(a3,a4,a5))).getD kitUsed.zero=true:=by unfold setF;rw [if_pos hm];rfl
     rw [hv] at hlk;have HK1:(Instr.lookup 179 (.map (some bu)) (.agg #[.int .i64 a0,.int .i64 a1,.int .i64 a2,.int .i64 a3,.int .i64 a4,.int .i64 a5]) false).run Tryz.prog wc.drew=.ok (.bool true) wc.drew:=hlk;have HOE2:Hid (openG tr r=openG tr gs):=by
      show _=_;rw [←HOE.out,openG,if_pos (by rw [hts];exact decide_eq_true hm)]
     clear hlk hv hm hts;go_wp2_with fail
     refine ⟨⟨r,_,HOE2.out,by have:=HGL.out;simp only [List.length_cons] at this;omega,fun x hx=>HGO.out x (List.mem_cons_of_mem _ hx),HL2.out.upd (Upd.refl noBlk wc).drew (fun _ _=>id),HU2.out.drew,HF2.out,HZ2.out⟩,?_⟩;have hc3:wc.drew.cell? ⟨b,3,none⟩=some (.slice A2 r.length cap2):=(cells5 HB2.out).1.2.2.2.1
     first
     | (rw [hc3,hMS.out];exact Nat.lt_succ_self _)
     | (have:=hMS.out;simp only [hc3];omega)
    ·have hv:(setF (edgesL tr) ((a0,a1,a2),(a3,a4,a5))).getD kitUsed.zero=false:=by unfold setF;rw [if_neg hm];rfl
     rw [hv] at hlk;have HK1:(Instr.lookup 179 (.map (some bu)) (.agg #[.int .i64 a0,.int .i64 a1,.int .i64 a2,.int .i64 a3,.int .i64 a4,.int .i64 a5]) false).run Tryz.prog wc.drew=.ok (.bool false) wc.drew:=hlk;have hnv:nextV tr gs=((a0,a1,a2),(a3,a4,a5),(a6,a7,a8))∧nextB tr gs=true∧restG tr gs=r:=by
      unfold nextV nextB restG;rw [←HOE.out,openG,if_neg (by rw [hts,decide_eq_false hm];simp)];exact ⟨rfl,rfl,rfl⟩
     have HNV:=Lib.hid hnv;clear hlk hv hm hts hnv;have hdr:Upd noBlk wc wc.drew:=(Upd.refl _ wc).drew;obtain ⟨⟨z0,z1,z2,z3,z4,z5,z6,z7,z8⟩,⟨y0,y1,y2,y3,y4,y5,y6,y7,y8⟩⟩:=cellsF9 HZ2.out;obtain ⟨g0,g1,g2,g3,g4,g5,g6,g7,g8⟩:=cells9 HG2.out;clear hdr;go_wp2_with fail
     refine post9b (Q:=fun wz=>bodyPost _ _ _ _ _ wz.drew) HZ2.out (fun wz hz hu=>?_);obtain ⟨c0,c1,c2,c3,c4,c5,c6,c7,c8⟩:=cells9 hz;refine bodyPost_ret (by simp [results,Tryz.results96,go_sem,c0,c1,c2,c3,c4,c5,c6,c7,c8];rfl) rfl ?_;obtain ⟨n1,n2,n3⟩:=HNV.out;rw [n1,n2,n3];refine ⟨rfl,_,⟨_,_,_,_,_,HL2.out.upd hu.drew (fun k hk e=>by have:=HFL.out k (HF2.out k hk);omega),rfl⟩,fun k hk=>.inl (HF2.out k hk),?_⟩;exact HU2.out.then hu.drew (fun k hk e=>by omega)
end Go.Proofs.YtmgklblglpplcaaGreatDoor
