/- Parts: Walks of the reference of packets: the next gate. No condition. Walks of the reference of packets: visit. No condition. -/
import Derived.Test.YtcikldoaidmnhaaGreatDoorQOpen9
import Derived.Test.YtcikldoaidmnhaaGreatDoorQOpen13
import Derived.Test.YtcikldoaidmnhaaGreatDoorQOpen28
namespace Go.Proofs.YtcikldoaidmnhaaGreatDoor
open Go Go.RowKit Pk
set_option maxRecDepth 100000
theorem jk_step {x:World} {b:Nat} {K:List Pt} {tr:List Tri} {gs:List Gate} {vK vT vG:Value} (hL:JLive x b ⟨K,tr,gs⟩ vK vT vG) (p:Pt) (hl:K.length≤1000000) :
  ∃A cap g cap3 x3,vK=.slice A K.length cap∧(Builtin.append_ #[98,98] 98 #[.slice A K.length cap,.slice (some ⟨x.heap.size,0,none⟩) 1 1]).run Tryz.prog (x.drew.alloc (.cells (ptC p).toArray 43))=.ok (.slice (some ⟨g,0,none⟩) (K.length+1) cap3) x3 ∧
   JLive (x3.setCell ⟨b,0,none⟩ (.slice (some ⟨g,0,none⟩) (K.length+1) cap3)) b ⟨K++[p],tr,gs⟩ (.slice (some ⟨g,0,none⟩) (K.length+1) cap3) vT vG∧x3.heap[b]?=some (.cells #[vK,vT,vG] 120 (0,0))∧Upd (fun k=>vK.ownBlock=some k) x x3∧(vK.ownBlock=some g∨x.heap.size<g):=by
 have hn:=hL.ne;have hq:kPt.Own 0 x vK K:=hL.comp.known;obtain ⟨A,cap,rfl,_⟩:=hq.form;have hd1:Upd noBlk x x.drew:=(Upd.refl _ x).drew;obtain ⟨g,cap3,x3,r3,o3,u3,a3⟩:=(hq.upd hd1).app1 (Nat.zero_le _) p (by omega);have hU:Upd (fun k=>(Value.slice A K.length cap).ownBlock=some k) x x3:=(hd1.mono (fun _ _ h=>h.elim)).trans u3;have hb3:=hU.heap hL.blk hn.k;refine ⟨A,cap,g,cap3,x3,rfl,r3,?_,hb3,hU,a3⟩;have e:(K++[p]).length=K.length+1:=by simp
 exact JLive.put hb3 (show JComp x3 ⟨K++[p],tr,gs⟩ (.slice (some ⟨g,0,none⟩) (K.length+1) cap3) vT vG from ⟨o3,hL.comp.tris.other hU (fun i hi e=>hn.kt i e hi),hL.comp.gates.other hU (fun i hi e=>hn.kg i e hi)⟩) 0 _ rfl
theorem jt_step {x:World} {b:Nat} {K:List Pt} {tr:List Tri} {gs:List Gate} {vK vT vG:Value} (hL:JLive x b ⟨K,tr,gs⟩ vK vT vG) (t:Tri) (hl:tr.length≤1000000) :
  ∃A cap g cap3 x3,vT=.slice A tr.length cap∧(Builtin.append_ #[28,28] 28 #[.slice A tr.length cap,.slice (some ⟨x.heap.size,0,none⟩) 1 1]).run Tryz.prog (x.drew.alloc (.cells (triC t).toArray 45))=.ok (.slice (some ⟨g,0,none⟩) (tr.length+1) cap3) x3 ∧
   JLive (x3.setCell ⟨b,1,none⟩ (.slice (some ⟨g,0,none⟩) (tr.length+1) cap3)) b ⟨K,tr++[t],gs⟩ vK (.slice (some ⟨g,0,none⟩) (tr.length+1) cap3) vG∧x3.heap[b]?=some (.cells #[vK,vT,vG] 120 (0,0))∧Upd (fun k=>vT.ownBlock=some k) x x3∧(vT.ownBlock=some g∨x.heap.size<g):=by
 have hn:=hL.ne;have hq:kTri.Own 0 x vT tr:=hL.comp.tris;obtain ⟨A,cap,rfl,_⟩:=hq.form;have hd1:Upd noBlk x x.drew:=(Upd.refl _ x).drew;obtain ⟨g,cap3,x3,r3,o3,u3,a3⟩:=(hq.upd hd1).app1 (Nat.zero_le _) t (by omega);have hU:Upd (fun k=>(Value.slice A tr.length cap).ownBlock=some k) x x3:=(hd1.mono (fun _ _ h=>h.elim)).trans u3;have hb3:=hU.heap hL.blk hn.t;refine ⟨A,cap,g,cap3,x3,rfl,r3,?_,hb3,hU,a3⟩;have e:(tr++[t]).length=tr.length+1:=by simp
 exact JLive.put hb3 (show JComp x3 ⟨K,tr++[t],gs⟩ vK (.slice (some ⟨g,0,none⟩) (tr.length+1) cap3) vG from ⟨hL.comp.known.other hU (fun i hi e=>hn.kt i hi e),o3,hL.comp.gates.other hU (fun i hi e=>hn.gt i hi e)⟩) 1 _ rfl
theorem jg_step {x:World} {b:Nat} {K:List Pt} {tr:List Tri} {gs:List Gate} {vK vT vG:Value} (hL:JLive x b ⟨K,tr,gs⟩ vK vT vG) (t:Gate) (hl:gs.length≤2000000) :
  ∃A cap g off cap3 x3,vG=.slice A gs.length cap∧(Builtin.append_ #[118,118] 118 #[.slice A gs.length cap,.slice (some ⟨x.heap.size,0,none⟩) 1 1]).run Tryz.prog (x.drew.alloc (.cells (triC t).toArray 44))=.ok (.slice (some ⟨g,off,none⟩) (gs.length+1) cap3) x3 ∧
   JLive (x3.setCell ⟨b,2,none⟩ (.slice (some ⟨g,off,none⟩) (gs.length+1) cap3)) b ⟨K,tr,gs++[t]⟩ vK vT (.slice (some ⟨g,off,none⟩) (gs.length+1) cap3)∧x3.heap[b]?=some (.cells #[vK,vT,vG] 120 (0,0))∧Upd (fun k=>vG.ownBlock=some k) x x3∧(vG.ownBlock=some g∨x.heap.size<g):=by
 have hn:=hL.ne;have hq:kGate3.Que 0 x vG gs:=hL.comp.gates;obtain ⟨A,cap,rfl,_⟩:=hq.form;have hd1:Upd noBlk x x.drew:=(Upd.refl _ x).drew;obtain ⟨g,off,cap3,x3,r3,o3,u3,a3⟩:=(hq.keep hd1).app1 (Nat.zero_le _) t (by omega);have hU:Upd (fun k=>(Value.slice A gs.length cap).ownBlock=some k) x x3:=(hd1.mono (fun _ _ h=>h.elim)).trans u3;have hb3:=hU.heap hL.blk hn.g;refine ⟨A,cap,g,off,cap3,x3,rfl,r3,?_,hb3,hU,a3⟩;exact JLive.put hb3 (show JComp x3 ⟨K,tr,gs++[t]⟩ vK vT (.slice (some ⟨g,off,none⟩) (gs.length+1) cap3) from ⟨hL.comp.known.other hU (fun i hi e=>hn.kg i hi e),hL.comp.tris.other hU (fun i hi e=>hn.gt i e hi),o3⟩) 2 _ rfl
theorem jFoot_k {b g:Nat} {vK vT vG:Value} {A:Nat} {c l:Nat} {n:Nat} (h:vK.ownBlock=some g∨n<g):∀k,jFoot b (.slice (some ⟨g,A,none⟩) l c) vT vG k→jFoot b vK vT vG k∨n≤k:=by
 rintro k (hk | hk | hk | hk)
 ·exact .inl (.inl hk)
 ·have e:g=k:=by simpa [Value.ownBlock] using hk
  subst e;exact h.elim (fun h=>.inl (.inr (.inl h))) (fun h=>.inr (by omega))
 ·exact .inl (.inr (.inr (.inl hk)))
 ·exact .inl (.inr (.inr (.inr hk)))
theorem jFoot_t {b g:Nat} {vK vT vG:Value} {A:Nat} {c l:Nat} {n:Nat} (h:vT.ownBlock=some g∨n<g):∀k,jFoot b vK (.slice (some ⟨g,A,none⟩) l c) vG k→jFoot b vK vT vG k∨n≤k:=by
 rintro k (hk | hk | hk | hk)
 ·exact .inl (.inl hk)
 ·exact .inl (.inr (.inl hk))
 ·have e:g=k:=by simpa [Value.ownBlock] using hk
  subst e;exact h.elim (fun h=>.inl (.inr (.inr (.inl h)))) (fun h=>.inr (by omega))
 ·exact .inl (.inr (.inr (.inr hk)))
theorem jFoot_g {b g:Nat} {vK vT vG:Value} {A:Nat} {c l:Nat} {n:Nat} (h:vG.ownBlock=some g∨n<g):∀k,jFoot b vK vT (.slice (some ⟨g,A,none⟩) l c) k→jFoot b vK vT vG k∨n≤k:=by
 rintro k (hk | hk | hk | hk)
 ·exact .inl (.inl hk)
 ·exact .inl (.inr (.inl hk))
 ·exact .inl (.inr (.inr (.inl hk)))
 ·have e:g=k:=by simpa [Value.ownBlock] using hk
  subst e;exact h.elim (fun h=>.inl (.inr (.inr (.inr h)))) (fun h=>.inr (by omega))
theorem tri_box {w:World} {b:Nat} {t:Tri} {T:TypeId} (h:w.heap[b]?=some (.cells (triC t).toArray T (0,0))):kTri.At w b 0 t:=by
 intro i v hv;show w.cell? ⟨b,0+i,none⟩=some v;rw [Nat.zero_add,cell_of_row _ _ _ _ _ _ h,←Array.getElem?_toList];exact hv
theorem tri_corner0 {w:World} {b:Nat} {t:Tri} (h:kTri.At w b 0 t) {c:Nat} (hc:c<3):w.cell? ⟨b,c*3,none⟩=some (.int .i64 (cornAt t c).1)∧w.cell? ⟨b,c*3+1,none⟩=some (.int .i64 (cornAt t c).2.1)∧w.cell? ⟨b,c*3+2,none⟩=some (.int .i64 (cornAt t c).2.2):=by
 have:=tri_corner h hc;rw [Nat.zero_add] at this;exact this
theorem gates_drop {t:Tri} {first k:Nat} (hf:first≤k) (hk:k<3):((gatesT t).drop first).take (k+1-first)=((gatesT t).drop first).take (k-first)++[(cornAt t ((k+1) % 3),cornAt t k,cornAt t ((k+2) % 3))]:=by
 have h1:k+1-first=(k-first)+1:=by omega
 have h3:(gatesT t).length=3:=rfl;rw [h1,List.take_succ_eq_append_getElem (by rw [List.length_drop];omega)];congr 1
 rw [List.getElem_drop];congr 1
 rcases (by omega:k=0∨k=1∨k=2) with rfl | rfl | rfl
 ·obtain rfl:first=0:=by omega
  rfl
 ·rcases (by omega:first=0∨first=1) with rfl | rfl<;>rfl
 ·rcases (by omega:first=0∨first=1∨first=2) with rfl | rfl | rfl<;>rfl
set_option maxHeartbeats 4000000 in
theorem jvisit_any (b:Nat) (S:Wk) (G:Nat→Prop) (t:Tri) (first:Nat) (hf:first=0∨first=1) (hl:S.tris.length≤100000) (hg:S.gates.length≤1000000) (w:World) (h:JRep w b S G) :
  Calls Tryz.prog 62 #[.pointer (some ⟨b,0,none⟩),triV t,.int .i64 first] w fun en w'=>en=.returned (.tuple #[])∧JPost G w w' b (S.visit t first):=by
 obtain ⟨vK,vT,vG,h,rfl⟩:=h;obtain ⟨K,tr,gs⟩:=S;simp only at hl hg;have hu:=(Upd.refl noBlk w).alloc (.cells (triC t).toArray 45);have HU:=Lib.hid hu;have HL:=Lib.hid (h.upd hu (fun _ _=>id));have HZ:=Lib.hid (heap_alloc_new w (.cells (triC t).toArray 45));have HNB:Hid (∀k,jFoot b vK vT vG k→k<w.heap.size):=fun k hk=>h.lt k hk;obtain ⟨FT,hFT⟩:∃FT,FT=jFoot b vK vT vG:=⟨_,rfl⟩;have HFT:=Lib.hid hFT;rw [←hFT];have hl':Hid (tr.length≤100000):=hl;have hg':Hid (gs.length≤1000000):=hg;have hf1:(first:Int)≤1:=by omega
 have HF1:Hid (first≤1):=by show _≤_;omega
 clear h hu hl hg hFT hf;obtain ⟨tt,htt⟩:∃tt,tt=t:=⟨_,rfl⟩;rw [←htt] at HZ HL HU;unfold triV;rw [←htt];have HGD:Hid (∀k,first≤k→k<3→((gatesT tt).drop first).take (k+1-first)=((gatesT tt).drop first).take (k-first)++[(cornAt tt ((k+1) % 3),cornAt tt k,cornAt tt ((k+2) % 3))]):=fun k h1 h2=>gates_drop h1 h2;have HGE:Hid (((gatesT tt).drop first).take (3-first)=(gatesT tt).drop first):=by
  show _=_;apply List.take_of_length_le;rw [List.length_drop];exact Nat.le_refl _
 clear htt;obtain ⟨⟨a0,a1,a2⟩,⟨a3,a4,a5⟩,⟨a6,a7,a8⟩⟩:=tt;obtain ⟨x0,hx0⟩:∃x0,x0=w.alloc (.cells (triC ((a0,a1,a2),(a3,a4,a5),(a6,a7,a8))).toArray 45):=⟨_,rfl⟩;obtain ⟨tb,htb⟩:∃tb,tb=w.heap.size:=⟨_,rfl⟩;rw [←hx0] at HU HL HZ;rw [←htb] at HZ;have HTB:Hid (w.heap.size≤tb):=by show _≤_;omega
 unfold triC at HZ hx0 ⊢;go_enter Tryz.func62,Tryz.ntmps62
 go_upto_region 1 with fail
 rw [←hx0,←htb];clear hx0 htb;obtain ⟨A,cap,g,cap3,x3,rfl,r3,L3,hb3,u3,a3'⟩:=jt_step HL.out ((a0,a1,a2),(a3,a4,a5),(a6,a7,a8)) (by have:=hl'.out;omega);have HR3:(Builtin.append_ #[28,28] 28 #[.slice A tr.length cap,.slice (some ⟨x0.heap.size,0,none⟩) 1 1]).run Tryz.prog (x0.drew.alloc (.cells #[.int .i64 a0,.int .i64 a1,.int .i64 a2,.int .i64 a3,.int .i64 a4,.int .i64 a5,.int .i64 a6,.int .i64 a7,.int .i64 a8] 45))=.ok (.slice (some ⟨g,0,none⟩) (tr.length+1) cap3) x3:=r3;have HL3:=Lib.hid L3;have HB3:=Lib.hid hb3;have HU3:=Lib.hid u3;have HA3:=Lib.hid a3';have HB0:Hid (x0.heap[b]?=some (.cells #[vK,.slice A tr.length cap,vG] 120 (0,0))):=HL.out.blk;have HNT:Hid (∀k,jFoot b vK (.slice A tr.length cap) vG k→k≠tb):=fun k hk e=>by have:=HNB.out k hk;have:=HTB.out;omega
 have HZ3:=Lib.hid (u3.heap HZ.out (fun e=>HNT.out _ (.inr (.inr (.inl e))) rfl));have HMB:Hid ((x0.drew.alloc (.cells #[.int .i64 a0,.int .i64 a1,.int .i64 a2,.int .i64 a3,.int .i64 a4,.int .i64 a5,.int .i64 a6,.int .i64 a7,.int .i64 a8] 45)).heap[b]?=some (.cells #[vK,.slice A tr.length cap,vG] 120 (0,0))∧(x0.drew.alloc (.cells #[.int .i64 a0,.int .i64 a1,.int .i64 a2,.int .i64 a3,.int .i64 a4,.int .i64 a5,.int .i64 a6,.int .i64 a7,.int .i64 a8] 45)).heap[tb]?=some (.cells #[.int .i64 a0,.int .i64 a1,.int .i64 a2,.int .i64 a3,.int .i64 a4,.int .i64 a5,.int .i64 a6,.int .i64 a7,.int .i64 a8] 45 (0,0))):=⟨((Upd.refl noBlk x0).drew.alloc _).heap HB0.out id,((Upd.refl noBlk x0).drew.alloc _).heap HZ.out id⟩;clear r3 L3 hb3 u3 a3';refine wp_region_tree 8 (OT.sures [0,1,5,2,3,4] (.run 6 (.run 7 .nil))) (fun w'=>w'.heap[b]?=some (.cells #[vK,.slice A tr.length cap,vG] 120 (0,0))∧w'.heap[tb]?=some (.cells #[.int .i64 a0,.int .i64 a1,.int .i64 a2,.int .i64 a3,.int .i64 a4,.int .i64 a5,.int .i64 a6,.int .i64 a7,.int .i64 a8] 45 (0,0))) (by kernel_rfl) (by kernel_rfl) (fun c a d v w h=>by cases d<;>exact h) ⟨HB0.out,HZ.out⟩ ?_
 simp only [OT.sures]
 iterate 6 (apply wpT_sure rfl rfl;focus (intro w' hw';obtain ⟨⟨k0,k1,k2⟩,_⟩:=cellsF3 hw'.1;obtain ⟨g0,g1,g2,g3,g4,g5,g6,g7,g8⟩:=cells9 hw'.2;go_simp;rfl))
 refine wpT_run _ (fun _ h=>h) rfl (fun K' hK=>?_);go_simp
 refine hK _ _ ⟨HMB.out,?_⟩;clear hK K';refine wpT_run _ (fun _ h=>h) rfl (fun K' hK=>?_);rw [if_pos (by rfl)];refine wp_append_run _ _ _ rfl rfl rfl HR3 ?_;refine hK _ _ ⟨⟨HB3.out,HZ3.out⟩,?_⟩;clear hK K' HR3 HMB;refine wpT_nil ?_;obtain ⟨⟨k0,k1,k2⟩,⟨f0,f1,f2⟩⟩:=cellsF3 HB3.out;obtain ⟨y,hy⟩:∃y,y=x3.setCell ⟨b,1,none⟩ (.slice (some ⟨g,0,none⟩) (tr.length+1) cap3):=⟨_,rfl⟩;rw [←hy] at HL3;have HZY:Hid (y.heap[tb]?=some (.cells #[.int .i64 a0,.int .i64 a1,.int .i64 a2,.int .i64 a3,.int .i64 a4,.int .i64 a5,.int .i64 a6,.int .i64 a7,.int .i64 a8] 45 (0,0))):=by
  show _=_;rw [hy];exact ((Upd.refl (fun k=>k=b) x3).setCell (p:=⟨b,1,none⟩) (fun _=>rfl) _).heap HZ3.out (fun e=>HNT.out b (.inl rfl) (by rw [e]))
 have HUY:Hid (Upd (jFoot b vK (.slice A tr.length cap) vG) w y):=by
  show Upd _ _ _;rw [hy];exact ((HU.out.mono (fun _ _ h=>h.elim)).trans (HU3.out.mono (fun k _ e=>.inr (.inr (.inl e))))).setCell (p:=⟨b,1,none⟩) (fun _=>.inl rfl) _
 have HFY:Hid (∀k,jFoot b vK (.slice (some ⟨g,0,none⟩) (tr.length+1) cap3) vG k→jFoot b vK (.slice A tr.length cap) vG k∨w.heap.size≤k):=fun k hk=>(jFoot_t (n:=x0.heap.size) HA3.out k hk).imp id (fun h=>Nat.le_trans HU.out.size h);have HNY:Hid (∀k,jFoot b vK (.slice (some ⟨g,0,none⟩) (tr.length+1) cap3) vG k→k≠tb):=fun k hk=>(jFoot_t (n:=x0.heap.size) HA3.out k hk).elim (HNT.out k) (fun h=>by have:=lt_of_heap HZ.out;omega);go_upto_region 2 with fail
 rw [←hy];clear hy k0 k1 k2 f0 f1 f2 HB3 HZ3 HU3 HA3 HB0 HZ HL;go_wp2_with fail
 rw [←HFT.out] at HUY HFY;go_loopw [6] (fun i wr=>∃k:Nat,i=.int .i64 k∧first≤k∧k≤3∧(∃vT' vG',JLive wr b ⟨K,tr++[((a0,a1,a2),(a3,a4,a5),(a6,a7,a8))],gs++((gatesT ((a0,a1,a2),(a3,a4,a5),(a6,a7,a8))).drop first).take (k-first)⟩ vK vT' vG'∧(∀j,jFoot b vK vT' vG' j→FT j∨w.heap.size≤j)∧(∀j,jFoot b vK vT' vG' j→j≠tb))∧wr.heap[tb]?=some (.cells #[.int .i64 a0,.int .i64 a1,.int .i64 a2,.int .i64 a3,.int .i64 a4,.int .i64 a5,.int .i64 a6,.int .i64 a7,.int .i64 a8] 45 (0,0))∧Upd FT w wr) (fun i _=>3-(intOf i).toNat)
 case atStart=>exact ⟨first,rfl,Nat.le_refl _,by have:=HF1.out;omega,⟨_,_,by rw [Nat.sub_self,List.take_zero,List.append_nil];exact HL3.out,HFY.out,HNY.out⟩,HZY.out,HUY.out⟩
 case round=>
  obtain ⟨k,rfl,hfk,hk3,⟨vT',vG',hlive,hft,hne⟩,hz,hu⟩:=hrel;have HLV:=Lib.hid hlive;have HFK:=Lib.hid hft;have HNK:=Lib.hid hne;have HZK:=Lib.hid hz;have HUK:=Lib.hid hu;have HFI:Hid (first≤k):=hfk;clear hlive hft hne hz hu HL3 HFY HNY HZY HUY;by_cases hlt:k<3
  ·have hlt':(k:Int)<3:=by omega
   have HTA:=tri_box (t:=((a0,a1,a2),(a3,a4,a5),(a6,a7,a8))) HZK.out;obtain ⟨j1,hj1⟩:∃j1,j1=(k+1) % 3:=⟨_,rfl⟩;obtain ⟨j2,hj2⟩:∃j2,j2=(k+2) % 3:=⟨_,rfl⟩;have hkw1:IntKind.i64.wrap ((k:Int)+1)=(k:Int)+1:=wrapN (by omega) (by omega);have hkw2:IntKind.i64.wrap ((k:Int)+2)=(k:Int)+2:=wrapN (by omega) (by omega);have ht1:((k:Int)+1).tmod 3=(j1:Int):=by rw [Int.tmod_eq_emod_of_nonneg (by omega)];omega
   have ht2:((k:Int)+2).tmod 3=(j2:Int):=by rw [Int.tmod_eq_emod_of_nonneg (by omega)];omega
   have hjl1:(j1:Int)<3:=by omega
   have hjl2:(j2:Int)<3:=by omega
   have HGN:=Lib.hid (HGD.out k hfk hlt);have HC0:=Lib.hid (tri_corner0 HTA hlt);have HC1:=Lib.hid (tri_corner0 (c:=j1) HTA (by omega));have HC2:=Lib.hid (tri_corner0 (c:=j2) HTA (by omega));have HK3:Hid (k<3):=hlt;rw [←hj1,←hj2] at HGN;obtain ⟨GS,hGS⟩:∃GS,GS=gs++((gatesT ((a0,a1,a2),(a3,a4,a5),(a6,a7,a8))).drop first).take (k-first):=⟨_,rfl⟩;have HGS:=Lib.hid hGS;rw [←hGS] at HLV;have hgl:GS.length≤1000003:=by
    rw [hGS,List.length_append,List.length_take,List.length_drop];have h3:(gatesT ((a0,a1,a2),(a3,a4,a5),(a6,a7,a8))).length=3:=rfl;have:=hg'.out;omega
   clear hj1 hj2 HTA hlt hk3 hfk hGS;generalize cornAt ((a0,a1,a2),(a3,a4,a5),(a6,a7,a8)) k=c at *;generalize cornAt ((a0,a1,a2),(a3,a4,a5),(a6,a7,a8)) j1=d at *;generalize cornAt ((a0,a1,a2),(a3,a4,a5),(a6,a7,a8)) j2=e at *;obtain ⟨c0,c1,c2⟩:=c;obtain ⟨d0,d1,d2⟩:=d;obtain ⟨e0,e1,e2⟩:=e;simp only at HC0 HC1 HC2;obtain ⟨Ag,capg,g4,off4,cap4,x4,rfl,r4,L4,hb4,u4,a4'⟩:=jg_step HLV.out ((d0,d1,d2),(c0,c1,c2),(e0,e1,e2)) (by omega);have HR4:(Builtin.append_ #[118,118] 118 #[.slice Ag GS.length capg,.slice (some ⟨wr.heap.size,0,none⟩) 1 1]).run Tryz.prog (wr.drew.alloc (.cells #[.int .i64 d0,.int .i64 d1,.int .i64 d2,.int .i64 c0,.int .i64 c1,.int .i64 c2,.int .i64 e0,.int .i64 e1,.int .i64 e2] 44))=.ok (.slice (some ⟨g4,off4,none⟩) (GS.length+1) cap4) x4:=r4;have HL4:=Lib.hid L4;have HB4:=Lib.hid hb4;have HU4:=Lib.hid u4;have HA4:=Lib.hid a4';have HB0:Hid (wr.heap[b]?=some (.cells #[vK,vT',.slice Ag GS.length capg] 120 (0,0))):=HLV.out.blk;have HZ4:=Lib.hid (u4.heap HZK.out (fun e=>HNK.out _ (.inr (.inr (.inr e))) rfl));have HMB:Hid ((wr.drew.alloc (.cells #[.int .i64 d0,.int .i64 d1,.int .i64 d2,.int .i64 c0,.int .i64 c1,.int .i64 c2,.int .i64 e0,.int .i64 e1,.int .i64 e2] 44)).heap[b]?=some (.cells #[vK,vT',.slice Ag GS.length capg] 120 (0,0))∧(wr.drew.alloc (.cells #[.int .i64 d0,.int .i64 d1,.int .i64 d2,.int .i64 c0,.int .i64 c1,.int .i64 c2,.int .i64 e0,.int .i64 e1,.int .i64 e2] 44)).heap[tb]?=some (.cells #[.int .i64 a0,.int .i64 a1,.int .i64 a2,.int .i64 a3,.int .i64 a4,.int .i64 a5,.int .i64 a6,.int .i64 a7,.int .i64 a8] 45 (0,0))):=⟨((Upd.refl noBlk wr).drew.alloc _).heap HB0.out id,((Upd.refl noBlk wr).drew.alloc _).heap HZK.out id⟩;have HCC:Hid (∀w':World,w'.heap[tb]?=some (.cells #[.int .i64 a0,.int .i64 a1,.int .i64 a2,.int .i64 a3,.int .i64 a4,.int .i64 a5,.int .i64 a6,.int .i64 a7,.int .i64 a8] 45 (0,0))→(w'.cell? ⟨tb,k*3,none⟩=some (.int .i64 c0)∧w'.cell? ⟨tb,k*3+1,none⟩=some (.int .i64 c1)∧w'.cell? ⟨tb,k*3+2,none⟩=some (.int .i64 c2))∧(w'.cell? ⟨tb,j1*3,none⟩=some (.int .i64 d0)∧w'.cell? ⟨tb,j1*3+1,none⟩=some (.int .i64 d1)∧w'.cell? ⟨tb,j1*3+2,none⟩=some (.int .i64 d2))∧(w'.cell? ⟨tb,j2*3,none⟩=some (.int .i64 e0)∧w'.cell? ⟨tb,j2*3+1,none⟩=some (.int .i64 e1)∧w'.cell? ⟨tb,j2*3+2,none⟩=some (.int .i64 e2))):=fun w' hw'=>by
    have hs:∀o,w'.cell? ⟨tb,o,none⟩=wr.cell? ⟨tb,o,none⟩:=fun o=>by rw [cell_of_row _ _ _ _ _ _ hw',cell_of_row _ _ _ _ _ _ HZK.out]
    simp only [hs];exact ⟨HC0.out,HC1.out,HC2.out⟩
   clear r4 L4 hb4 u4 a4' HC0 HC1 HC2;go_wp2_with fail
   refine wp_region_tree 21 (OT.sures [0,1,5,10,13,2,6,11,14,3,7,12,15,4,8,16,9,17,18] (.run 19 (.run 20 .nil))) (fun w'=>w'.heap[b]?=some (.cells #[vK,vT',.slice Ag GS.length capg] 120 (0,0))∧w'.heap[tb]?=some (.cells #[.int .i64 a0,.int .i64 a1,.int .i64 a2,.int .i64 a3,.int .i64 a4,.int .i64 a5,.int .i64 a6,.int .i64 a7,.int .i64 a8] 45 (0,0))) (by kernel_rfl) (by kernel_rfl) (fun c a d v w h=>by cases d<;>exact h) ⟨HB0.out,HZK.out⟩ ?_
   simp only [OT.sures]
   iterate 19 (apply wpT_sure rfl rfl;focus (intro w' hw';obtain ⟨⟨k0,k1,k2⟩,_⟩:=cellsF3 hw'.1;obtain ⟨⟨g0,g1,g2⟩,⟨g3,g4,g5⟩,⟨g6,g7,g8⟩⟩:=HCC.out w' hw'.2;go_simp;rfl))
   refine wpT_run _ (fun _ h=>h) rfl (fun K' hK=>?_);go_simp
   refine hK _ _ ⟨HMB.out,?_⟩;clear hK K';refine wpT_run _ (fun _ h=>h) rfl (fun K' hK=>?_);rw [if_pos (by rfl)];refine wp_append_run _ _ _ rfl rfl rfl HR4 ?_;refine hK _ _ ⟨⟨HB4.out,HZ4.out⟩,?_⟩;clear hK K' HR4 HMB HCC;refine wpT_nil ?_;obtain ⟨⟨k0,k1,k2⟩,⟨f0,f1,f2⟩⟩:=cellsF3 HB4.out;obtain ⟨y,hy⟩:∃y,y=x4.setCell ⟨b,2,none⟩ (.slice (some ⟨g4,off4,none⟩) (GS.length+1) cap4):=⟨_,rfl⟩;rw [←hy] at HL4;have HEND:Hid ((∃vT' vG',JLive y b ⟨K,tr++[((a0,a1,a2),(a3,a4,a5),(a6,a7,a8))],gs++((gatesT ((a0,a1,a2),(a3,a4,a5),(a6,a7,a8))).drop first).take (k+1-first)⟩ vK vT' vG'∧(∀j,jFoot b vK vT' vG' j→FT j∨w.heap.size≤j)∧(∀j,jFoot b vK vT' vG' j→j≠tb))∧y.heap[tb]?=some (.cells #[.int .i64 a0,.int .i64 a1,.int .i64 a2,.int .i64 a3,.int .i64 a4,.int .i64 a5,.int .i64 a6,.int .i64 a7,.int .i64 a8] 45 (0,0))∧Upd FT w y):=by
    have hsz:=HUK.out.size;refine ⟨⟨vT',.slice (some ⟨g4,off4,none⟩) (GS.length+1) cap4,?_,fun j hj=>?_,fun j hj=>?_⟩,?_,?_⟩
    ·have e:gs++((gatesT ((a0,a1,a2),(a3,a4,a5),(a6,a7,a8))).drop first).take (k+1-first)=GS++[((d0,d1,d2),(c0,c1,c2),(e0,e1,e2))]:=by rw [HGN.out,HGS.out,List.append_assoc]
     rw [e];exact HL4.out
    ·rcases jFoot_g (n:=wr.heap.size) HA4.out j hj with h | h
     ·exact HFK.out j h
     ·exact .inr (by omega)
    ·rcases jFoot_g (n:=wr.heap.size) HA4.out j hj with h | h
     ·exact HNK.out j h
     ·have:=lt_of_heap HZK.out;omega
    ·rw [hy];exact ((Upd.refl (fun k=>k=b) x4).setCell (p:=⟨b,2,none⟩) (fun _=>rfl) _).heap HZ4.out (fun e=>HNK.out b (.inl rfl) (by rw [e]))
    ·rw [hy];have h1:Upd FT w x4:=HUK.out.then HU4.out (fun i hi e=>(HFK.out i (.inr (.inr (.inr e)))).resolve_right (by omega));exact h1.setCell (p:=⟨b,2,none⟩) (fun h=>(HFK.out b (.inl rfl)).resolve_right (Nat.not_le.2 h)) _
   go_wp2_with fail
   rw [←hy];exact ⟨⟨k+1,by push_cast;rfl,Nat.le_succ_of_le HFI.out,HK3.out,HEND.out.1,HEND.out.2.1,HEND.out.2.2⟩,by simp only [intOf];have:=HK3.out;omega⟩
  ·obtain rfl:k=3:=by omega
   have HEND:Hid (JPost FT w wr b ⟨K,tr++[((a0,a1,a2),(a3,a4,a5),(a6,a7,a8))],gs++(gatesT ((a0,a1,a2),(a3,a4,a5),(a6,a7,a8))).drop first⟩):=by
    show JPost _ _ _ _ _;refine ⟨_,⟨_,_,_,?_,rfl⟩,HFK.out,HUK.out⟩;have:=HLV.out;rw [HGE.out] at this;exact this
   go_wp2_with fail
   go_end0
   exact ⟨rfl,HEND.out⟩
end Go.Proofs.YtcikldoaidmnhaaGreatDoor
namespace Go.Proofs.YtcikldoaidmnhaaGreatDoor
open Go Go.RowKit Pk
set_option maxRecDepth 100000
theorem load_p3 {w:World} {xb:Nat} {a0 a1 a2 a3 a4 a5 a6 a7 a8:Value} (h:w.heap[xb]?=some (.cells #[a0,a1,a2,a3,a4,a5,a6,a7,a8] 44 (0,0))):(loadVar 44 ⟨xb,0,none⟩).run Tryz.prog w=.ok (.agg #[a0,a1,a2,a3,a4,a5,a6,a7,a8]) w:=
 run_loadVar_row w xb 44 44 #[a0,a1,a2,a3,a4,a5,a6,a7,a8] (0,0) _ h Tryz.underlying44 rfl (by kernel_rfl)
theorem openG_hit {tr:List Tri} {g:Gate} {r:List Gate} (h:(third tr g.1 g.2.1).isSome=true):openG tr (g :: r)=openG tr r:=by rw [openG,if_pos h]
theorem openG_miss {tr:List Tri} {g:Gate} {r:List Gate} (h:(third tr g.1 g.2.1).isSome=false):openG tr (g :: r)=g :: r:=by rw [openG,if_neg (by rw [h];simp)]
def jnextP (G:Nat→Prop) (w:World) (b:Nat) (S:Wk) (en:Ending) (w':World):Prop:=∃g,en=.returned (.tuple #[gateV g,.bool (nextB S.tris S.gates)])∧(nextB S.tris S.gates=true→g=nextV S.tris S.gates)∧JPost G w w' b ⟨S.known,S.tris,restG S.tris S.gates⟩
set_option maxHeartbeats 4000000 in
theorem jnext_any (b:Nat) (S:Wk) (G:Nat→Prop) (htl:S.tris.length≤100000) (hl:S.gates.length≤1000000) (w:World) (h:JRep w b S G) :
  Calls Tryz.prog 57 #[.pointer (some ⟨b,0,none⟩)] w fun en w'=>jnextP G w b S en w':=by
 obtain ⟨vK,vT,vG,h,rfl⟩:=h;obtain ⟨K,tr,gs⟩:=S;simp only at *;obtain ⟨AT,capT,rfl,hcapT⟩:=h.comp.tris.form;have hu:=((Upd.refl noBlk w).alloc (.cells #[.int .i64 0,.int .i64 0,.int .i64 0,.int .i64 0,.int .i64 0,.int .i64 0,.int .i64 0,.int .i64 0,.int .i64 0] 44)).alloc (.cells #[.int .i64 0,.int .i64 0,.int .i64 0,.int .i64 0,.int .i64 0,.int .i64 0,.int .i64 0,.int .i64 0,.int .i64 0] 44);have HL0:=Lib.hid (h.upd hu (fun _ _=>id));have HR0:Hid (((w.alloc (.cells #[.int .i64 0,.int .i64 0,.int .i64 0,.int .i64 0,.int .i64 0,.int .i64 0,.int .i64 0,.int .i64 0,.int .i64 0] 44)).alloc (.cells #[.int .i64 0,.int .i64 0,.int .i64 0,.int .i64 0,.int .i64 0,.int .i64 0,.int .i64 0,.int .i64 0,.int .i64 0] 44)).heap[w.heap.size]?=some (.cells #[.int .i64 0,.int .i64 0,.int .i64 0,.int .i64 0,.int .i64 0,.int .i64 0,.int .i64 0,.int .i64 0,.int .i64 0] 44 (0,0))):=((Upd.refl noBlk _).alloc _).heap (heap_alloc_new w _) id;have HG0:Hid (((w.alloc (.cells #[.int .i64 0,.int .i64 0,.int .i64 0,.int .i64 0,.int .i64 0,.int .i64 0,.int .i64 0,.int .i64 0,.int .i64 0] 44)).alloc (.cells #[.int .i64 0,.int .i64 0,.int .i64 0,.int .i64 0,.int .i64 0,.int .i64 0,.int .i64 0,.int .i64 0,.int .i64 0] 44)).heap[w.heap.size+1]?=some (.cells #[.int .i64 0,.int .i64 0,.int .i64 0,.int .i64 0,.int .i64 0,.int .i64 0,.int .i64 0,.int .i64 0,.int .i64 0] 44 (0,0))):=by
  show _=_;rw [←World.size_alloc w (.cells #[.int .i64 0,.int .i64 0,.int .i64 0,.int .i64 0,.int .i64 0,.int .i64 0,.int .i64 0,.int .i64 0,.int .i64 0] 44)];exact heap_alloc_new _ _
 obtain ⟨FT,hFT⟩:∃FT,FT=jFoot b vK (.slice AT tr.length capT) vG:=⟨_,rfl⟩;have HFL:Hid (∀k,FT k→k<w.heap.size):=fun k hk=>h.lt k (by rw [←hFT];exact hk);have HFB:Hid (FT b):=by show FT b;rw [hFT];exact .inl rfl
 have HF0:Hid (∀k,jFoot b vK (.slice AT tr.length capT) vG k→FT k):=fun k hk=>by rw [hFT];exact hk
 have HU0:Hid (Upd FT w ((w.alloc (.cells #[.int .i64 0,.int .i64 0,.int .i64 0,.int .i64 0,.int .i64 0,.int .i64 0,.int .i64 0,.int .i64 0,.int .i64 0] 44)).alloc (.cells #[.int .i64 0,.int .i64 0,.int .i64 0,.int .i64 0,.int .i64 0,.int .i64 0,.int .i64 0,.int .i64 0,.int .i64 0] 44))):=hu.mono (fun _ _ h=>h.elim);have HGN:Hid (gs.length≤1000000):=hl;have HTN:Hid (tr.length≤100000):=htl;rw [←hFT];clear h hu hl htl hFT;obtain ⟨w1,hw1⟩:∃w1,w1=(w.alloc (.cells #[.int .i64 0,.int .i64 0,.int .i64 0,.int .i64 0,.int .i64 0,.int .i64 0,.int .i64 0,.int .i64 0,.int .i64 0] 44)).alloc (.cells #[.int .i64 0,.int .i64 0,.int .i64 0,.int .i64 0,.int .i64 0,.int .i64 0,.int .i64 0,.int .i64 0,.int .i64 0] 44):=⟨_,rfl⟩;obtain ⟨gb,hgb⟩:∃gb,gb=w.heap.size+1:=⟨_,rfl⟩;obtain ⟨rb,hrb⟩:∃rb,rb=w.heap.size:=⟨_,rfl⟩;have HBN:Hid (w.heap.size≤rb∧w.heap.size≤gb∧rb≠gb∧∀k,FT k→k≠rb∧k≠gb):=⟨by omega,by omega,by omega,fun k hk=>by have:=HFL.out k hk;omega⟩;rw [←hw1] at HL0 HR0 HG0 HU0;rw [←hrb] at HR0;rw [←hgb] at HG0;go_enter Tryz.func57,Tryz.ntmps57
 go_upto_block 0 with fail
 rw [←hw1,←hgb,←hrb];clear hw1 hgb hrb;go_wp2_with fail
 go_loopw [5] (fun _ wr=>∃(g:List Gate) (vG':Value),openG tr g=openG tr gs∧g.length≤gs.length∧JLive wr b ⟨K,tr,g⟩ vK (.slice AT tr.length capT) vG'∧Upd FT w wr∧(∀k,jFoot b vK (.slice AT tr.length capT) vG' k→FT k)∧wr.heap[rb]?=some (.cells #[.int .i64 0,.int .i64 0,.int .i64 0,.int .i64 0,.int .i64 0,.int .i64 0,.int .i64 0,.int .i64 0,.int .i64 0] 44 (0,0))∧∃t:Gate,wr.heap[gb]?=some (.cells (triC t).toArray 44 (0,0))) (fun _ wr=>(match wr.cell? ⟨b,2,none⟩ with | some (.slice _ n _)=>n | _=>0))
 case atStart=>exact ⟨gs,vG,rfl,Nat.le_refl _,HL0.out,HU0.out,HF0.out,HR0.out,((0,0,0),(0,0,0),(0,0,0)),HG0.out⟩
 case round=>
  obtain ⟨g,vG',h1,h2,h4,h5,h6,h7,⟨⟨⟨t0,t1,t2⟩,⟨t3,t4,t5⟩,⟨t6,t7,t8⟩⟩,h8⟩⟩:=hrel;have HOE:=Lib.hid h1;have HGL:=Lib.hid h2;have HL:=Lib.hid h4;have HU:=Lib.hid h5;have HFN:=Lib.hid h6;have HZ:=Lib.hid h7;unfold triC at h8;have HG:=Lib.hid h8;obtain ⟨A,cap,rfl,hcap⟩:=h4.comp.gates.form;have hgb:(g.length:Int)≤1000000:=by have:=HGN.out;omega
  clear h1 h2 h4 h5 h6 h7 h8 HL0 HU0 HR0 HG0 HF0;have HBK:Hid (wr.heap[b]?=some (.cells #[vK,.slice AT tr.length capT,.slice A g.length cap] 120 (0,0))):=HL.out.blk;obtain ⟨⟨k0,k1,k2⟩,⟨f0,f1,f2⟩⟩:=cellsF3 HBK.out;obtain ⟨⟨z0,z1,z2,z3,z4,z5,z6,z7,z8⟩,⟨y0,y1,y2,y3,y4,y5,y6,y7,y8⟩⟩:=cellsF9 HZ.out;obtain ⟨⟨g0,g1,g2,g3,g4,g5,g6,g7,g8⟩,⟨e0,e1,e2,e3,e4,e5,e6,e7,e8⟩⟩:=cellsF9 HG.out;rcases g with _ | ⟨⟨⟨a0,a1,a2⟩,⟨a3,a4,a5⟩,⟨a6,a7,a8⟩⟩,r⟩
  ·have hnv:nextB tr gs=false∧restG tr gs=[]:=by
    unfold nextB restG;rw [←HOE.out];exact ⟨rfl,rfl⟩
   have HNV:=Lib.hid hnv;clear hnv;go_wp2_with fail
   have HS:=set9 HZ.out (.int .i64 t0) (.int .i64 t1) (.int .i64 t2) (.int .i64 t3) (.int .i64 t4) (.int .i64 t5) (.int .i64 t6) (.int .i64 t7) (.int .i64 t8);have hus:=upd9 (b:=rb) wr (.int .i64 t0) (.int .i64 t1) (.int .i64 t2) (.int .i64 t3) (.int .i64 t4) (.int .i64 t5) (.int .i64 t6) (.int .i64 t7) (.int .i64 t8);have HUS:=Lib.hid (HU.out.then hus (fun i hi e=>absurd hi (by have e':i=rb:=e;have:=HBN.out.1;omega)))
   (try simp only [Exit.inBlock,Exit.then])
   refine bodyPost_ret (results_ct rfl _ rfl (load_p3 (by exact HS))) rfl ?_;unfold jnextP;simp only;rw [HNV.out.1,HNV.out.2];refine ⟨((t0,t1,t2),(t3,t4,t5),(t6,t7,t8)),rfl,fun h=>(by cases h),_,⟨_,_,_,HL.out.upd hus (fun k hk e=>(HBN.out.2.2.2 k (HFN.out k hk)).1 e),rfl⟩,fun k hk=>.inl (HFN.out k hk),HUS.out⟩
  ·obtain ⟨A',cap',e,_,hrd⟩:=HL.out.comp.gates.rd;cases e;obtain ⟨b',off,rfl,hat⟩:=hrd (by simp);have hga:=hat 0 (by simp);have hk9:kGate3.k=9:=rfl;rw [hk9,Nat.zero_mul,Nat.add_zero] at hga;have q0:wr.cell? ⟨b',off,none⟩=some (.int .i64 a0):=hga 0 _ rfl;have q1:wr.cell? ⟨b',off+1,none⟩=some (.int .i64 a1):=hga 1 _ rfl;have q2:wr.cell? ⟨b',off+2,none⟩=some (.int .i64 a2):=hga 2 _ rfl;have q3:wr.cell? ⟨b',off+3,none⟩=some (.int .i64 a3):=hga 3 _ rfl;have q4:wr.cell? ⟨b',off+4,none⟩=some (.int .i64 a4):=hga 4 _ rfl;have q5:wr.cell? ⟨b',off+5,none⟩=some (.int .i64 a5):=hga 5 _ rfl;have q6:wr.cell? ⟨b',off+6,none⟩=some (.int .i64 a6):=hga 6 _ rfl;have q7:wr.cell? ⟨b',off+7,none⟩=some (.int .i64 a7):=hga 7 _ rfl;have q8:wr.cell? ⟨b',off+8,none⟩=some (.int .i64 a8):=hga 8 _ rfl;clear hat hga hk9 hrd;rw [List.length_cons] at hcap hgb HBK k2;have HCAP:=Lib.hid hcap;have hgb':(r.length:Int)≤1000000:=by omega
   have hr0:(0:Int)<(r.length:Int)+1:=by omega
   have hMS:Hid ((match wr.cell? ⟨b,2,none⟩ with | some (.slice _ n _)=>n | _=>0)=r.length+1):=by show _=_;rw [k2]
   clear hcap hgb;obtain ⟨wa,hwa⟩:∃wa,wa=(((((((((wr.setCell ⟨gb,0,none⟩ (.int .i64 a0)).setCell ⟨gb,1,none⟩ (.int .i64 a1)).setCell ⟨gb,2,none⟩ (.int .i64 a2)).setCell ⟨gb,3,none⟩ (.int .i64 a3)).setCell ⟨gb,4,none⟩ (.int .i64 a4)).setCell ⟨gb,5,none⟩ (.int .i64 a5)).setCell ⟨gb,6,none⟩ (.int .i64 a6)).setCell ⟨gb,7,none⟩ (.int .i64 a7)).setCell ⟨gb,8,none⟩ (.int .i64 a8)):=⟨_,rfl⟩;have hua:Upd (fun k=>k=gb) wr wa:=by rw [hwa];exact upd9 (b:=gb) wr (.int .i64 a0) (.int .i64 a1) (.int .i64 a2) (.int .i64 a3) (.int .i64 a4) (.int .i64 a5) (.int .i64 a6) (.int .i64 a7) (.int .i64 a8)
   have HGA:Hid (wa.heap[gb]?=some (.cells #[.int .i64 a0,.int .i64 a1,.int .i64 a2,.int .i64 a3,.int .i64 a4,.int .i64 a5,.int .i64 a6,.int .i64 a7,.int .i64 a8] 44 (0,0))):=by show _=_;rw [hwa];exact set9 HG.out (.int .i64 a0) (.int .i64 a1) (.int .i64 a2) (.int .i64 a3) (.int .i64 a4) (.int .i64 a5) (.int .i64 a6) (.int .i64 a7) (.int .i64 a8)
   have HLA:=Lib.hid (HL.out.upd hua (fun k hk e=>(HBN.out.2.2.2 k (HFN.out k hk)).2 e));have HUA:=Lib.hid (HU.out.then hua (fun i hi e=>absurd hi (by have e':i=gb:=e;have:=HBN.out.2.1;omega)));have HZA:=Lib.hid (hua.heap HZ.out (fun e=>HBN.out.2.2.1 e));have HBA:Hid (wa.heap[b]?=some (.cells #[vK,.slice AT tr.length capT,.slice (some ⟨b',off,none⟩) (r.length+1) cap] 120 (0,0))):=HLA.out.blk;go_upto_region 4 with fail
   rw [←hwa];clear hua hwa k0 k1 k2 f0 f1 f2 z0 z1 z2 z3 z4 z5 z6 z7 z8 y0 y1 y2 y3 y4 y5 y6 y7 y8 g0 g1 g2 g3 g4 g5 g6 g7 g8 e0 e1 e2 e3 e4 e5 e6 e7 e8 q0 q1 q2 q3 q4 q5 q6 q7 q8 HL HU HZ HG HBK;obtain ⟨⟨k0,k1,k2⟩,⟨f0,f1,f2⟩⟩:=cellsF3 HBA.out;go_cut [] (fun wc=>∃vN,JLive wc b ⟨K,tr,r⟩ vK (.slice AT tr.length capT) vN∧Upd FT w wc∧(∀k,jFoot b vK (.slice AT tr.length capT) vN k→FT k)∧wc.heap[rb]?=some (.cells #[.int .i64 0,.int .i64 0,.int .i64 0,.int .i64 0,.int .i64 0,.int .i64 0,.int .i64 0,.int .i64 0,.int .i64 0] 44 (0,0))∧wc.heap[gb]?=some (.cells #[.int .i64 a0,.int .i64 a1,.int .i64 a2,.int .i64 a3,.int .i64 a4,.int .i64 a5,.int .i64 a6,.int .i64 a7,.int .i64 a8] 44 (0,0)))
   case first=>
    have hpop:=Kd.Que.pop HLA.out.comp.gates;have HPOP:=Lib.hid hpop;have hk9:kGate3.k=9:=rfl;rw [hk9] at HPOP;clear hpop hk9;have hfin:∀(off' cap':Nat),kGate3.Que 0 wa (.slice (some ⟨b',off',none⟩) r.length cap') r→∃vN,JLive (wa.setCell ⟨b,2,none⟩ (.slice (some ⟨b',off',none⟩) r.length cap')) b ⟨K,tr,r⟩ vK (.slice AT tr.length capT) vN∧Upd FT w (wa.setCell ⟨b,2,none⟩ (.slice (some ⟨b',off',none⟩) r.length cap'))∧(∀k,jFoot b vK (.slice AT tr.length capT) vN k→FT k)∧(wa.setCell ⟨b,2,none⟩ (.slice (some ⟨b',off',none⟩) r.length cap')).heap[rb]?=some (.cells #[.int .i64 0,.int .i64 0,.int .i64 0,.int .i64 0,.int .i64 0,.int .i64 0,.int .i64 0,.int .i64 0,.int .i64 0] 44 (0,0))∧(wa.setCell ⟨b,2,none⟩ (.slice (some ⟨b',off',none⟩) r.length cap')).heap[gb]?=some (.cells #[.int .i64 a0,.int .i64 a1,.int .i64 a2,.int .i64 a3,.int .i64 a4,.int .i64 a5,.int .i64 a6,.int .i64 a7,.int .i64 a8] 44 (0,0)):=fun off' cap' hq=>
     ⟨.slice (some ⟨b',off',none⟩) r.length cap',JLive.put HBA.out (show JComp wa ⟨K,tr,r⟩ vK (.slice AT tr.length capT) (.slice (some ⟨b',off',none⟩) r.length cap') from ⟨HLA.out.comp.known,HLA.out.comp.tris,hq⟩) 2 _ rfl,HUA.out.setCell (p:=⟨b,2,none⟩) (fun _=>HFB.out) _,fun k hk=>HFN.out k (by
      rcases hk with h | h | h | h
      ·exact .inl h
      ·exact .inr (.inl h)
      ·exact .inr (.inr (.inl h))
      ·exact .inr (.inr (.inr h))),by rw [heap_setCell_other _ _ _ _ (fun e=>(HBN.out.2.2.2 b HFB.out).1 e.symm)];exact HZA.out,by rw [heap_setCell_other _ _ _ _ (fun e=>(HBN.out.2.2.2 b HFB.out).2 e.symm)];exact HGA.out⟩
    have HFIN:=Lib.hid hfin;clear hfin;by_cases hc:cap=1
    ·subst hc;have hq:=HPOP.out;simp only [sliced,List.length_cons,if_true,Nat.add_sub_cancel,Nat.sub_self] at hq;have HQ:=Lib.hid hq;clear hq HPOP;go_wp2_with fail
     go_meet
     exact HFIN.out _ _ HQ.out
    ·have hadd:(⟨b',off,none⟩:Addr).add (1*9)=⟨b',off+9,none⟩:=by unfold Addr.add;split<;>simp_all
     have hq:=HPOP.out;simp only [sliced,List.length_cons,if_neg hc,Option.map_some,hadd,Nat.add_sub_cancel] at hq;have HQ:=Lib.hid hq;clear hq HPOP hadd;go_wp2_with fail
     go_meet
     exact HFIN.out _ _ HQ.out
   case rest=>
    obtain ⟨vN,h1,h2,h3,h4,h5⟩:=hcut;have HL2:=Lib.hid h1;have HU2:=Lib.hid h2;have HF2:=Lib.hid h3;have HZ2:=Lib.hid h4;have HGC:=Lib.hid h5;obtain ⟨A2,cap2,rfl,_⟩:=h1.comp.gates.form;have HTH:Hid (∀W,Upd noBlk wc W→Calls Tryz.prog 58 #[.slice AT tr.length capT,ptV (a0,a1,a2),ptV (a3,a4,a5)] W fun en w'=>en=.returned (.tuple #[ptV ((third tr (a0,a1,a2) (a3,a4,a5)).getD (a0,a1,a2)),.bool (third tr (a0,a1,a2) (a3,a4,a5)).isSome])∧Upd noBlk W w'):=fun W hW=>jthird_any _ tr _ _ (by have:=HTN.out;omega) W (h1.comp.tris.rd.keep hW);clear h1 h2 h3 h4 h5 HLA HUA HZA HGA HBA k0 k1 k2 f0 f1 f2;have HBC:Hid (wc.heap[b]?=some (.cells #[vK,.slice AT tr.length capT,.slice A2 r.length cap2] 120 (0,0))):=HL2.out.blk;have HHIT:Hid ((third tr (a0,a1,a2) (a3,a4,a5)).isSome=true→openG tr r=openG tr gs):=fun h=>by rw [←HOE.out,openG_hit (by exact h)]
    have HMIS:Hid ((third tr (a0,a1,a2) (a3,a4,a5)).isSome=false→nextV tr gs=((a0,a1,a2),(a3,a4,a5),(a6,a7,a8))∧nextB tr gs=true∧restG tr gs=r):=fun h=>by
     unfold nextV nextB restG;rw [←HOE.out,openG_miss (by exact h)];exact ⟨rfl,rfl,rfl⟩
    obtain ⟨RP,hRP⟩:∃RP,RP=(third tr (a0,a1,a2) (a3,a4,a5)).getD (a0,a1,a2):=⟨_,rfl⟩;rw [←hRP] at HTH;clear hRP HOE;generalize (third tr (a0,a1,a2) (a3,a4,a5)).isSome=RB at *;obtain ⟨r0,r1,r2⟩:=RP;unfold ptV at HTH;simp only at HTH;go_upto_region 5 with fail
    refine wp_region_tree 14 (OT.sures [0,4,6,1,5,7,2,3] (.fork 8 (OT.sures [9,10,11] (.run 12 (.run 13 .nil))) 12 (.run 8 (OT.sures [9,10,11] (.run 13 .nil))))) (fun w'=>Upd noBlk wc w') (by kernel_rfl) (by kernel_rfl) (fun c a d v w h=>by cases d<;>exact h) ((Upd.refl noBlk wc).drew) ?_
    simp only [OT.sures]
    iterate 8 (apply wpT_sure rfl rfl;focus (intro w' hw';obtain ⟨⟨k0,k1,k2⟩,_⟩:=cellsF3 (hw'.heap HBC.out id);obtain ⟨g0,g1,g2,g3,g4,g5,g6,g7,g8⟩:=cells9 (hw'.heap HGC.out id);go_simp;rfl))
    refine wpT_fork (fun w'=>Upd noBlk wc w') (fun w'=>Upd noBlk wc w') (fun _ h=>h) (fun _ h=>h) rfl rfl (fun K' hK=>?_) (fun K' hK=>?_)
    ·go_simp
     refine (HTH.out _ ((Upd.refl noBlk wc).drew)).mono ?_;rintro e z1 ⟨rfl,u1⟩;have V1:=Lib.hid ((Upd.refl noBlk wc).drew.trans u1);refine hK _ _ ⟨V1.out,?_⟩;clear hK K' u1
     iterate 3 (apply wpT_sure rfl rfl;focus (intro w' hw';go_simp;rfl))
     refine wpT_run (fun w'=>Upd noBlk wc w') (fun _ h=>h) rfl (fun K' hK=>?_);go_simp
     have V2:=Lib.hid (V1.out.alloc (.cells #[.int .i64 0,.int .i64 0,.int .i64 0] 43));have HN2:=Lib.hid (heap_alloc_new z1 (.cells #[.int .i64 0,.int .i64 0,.int .i64 0] 43));refine hK _ _ ⟨V2.out,?_⟩;clear hK K';have HNB:Hid (wc.heap.size≤z1.heap.size):=V1.out.size;generalize z1.alloc (.cells #[.int .i64 0,.int .i64 0,.int .i64 0] 43)=z2 at *;generalize z1.heap.size=N at *;refine wpT_run (fun w'=>Upd noBlk wc w') (fun _ h=>h) rfl (fun K' hK=>?_);obtain ⟨⟨n0,n1,n2⟩,⟨m0,m1,m2⟩⟩:=cellsF3 HN2.out;go_simp
     have V3:=Lib.hid (upd3 V2.out HNB.out (.int .i64 r0) (.int .i64 r1) (.int .i64 r2));refine hK _ _ ⟨V3.out,?_⟩;clear hK K' V2 HN2 n0 n1 n2 m0 m1 m2;generalize ((z2.setCell ⟨N,0,none⟩ (.int .i64 r0)).setCell ⟨N,1,none⟩ (.int .i64 r1)).setCell ⟨N,2,none⟩ (.int .i64 r2)=z3 at *;refine wpT_nil ?_;have HV3:=Lib.hid ((V3.out).mono (G:=FT) (fun _ _ h=>h.elim));have HL3:=Lib.hid (HL2.out.upd V3.out (fun _ _=>id));have HU3:=Lib.hid (HU2.out.trans HV3.out);have HZ3:=Lib.hid (V3.out.heap HZ2.out id);have HG3:=Lib.hid (V3.out.heap HGC.out id);clear HL2 HU2 HZ2 HGC HBC V3 HV3 HTH;cases RB with
     | true=>
      have HO:=Lib.hid (HHIT.out rfl);clear HHIT HMIS;go_wp2_with fail
      refine ⟨⟨r,_,HO.out,by have:=HGL.out;simp only [List.length_cons] at this;omega,HL3.out,HU3.out,HF2.out,HZ3.out,((a0,a1,a2),(a3,a4,a5),(a6,a7,a8)),HG3.out⟩,?_⟩;have hc3:z3.cell? ⟨b,2,none⟩=some (.slice A2 r.length cap2):=(cellsF3 HL3.out.blk).1.2.2;have:=hMS.out;simp only [hc3];omega
     | false=>
      have HNV:=Lib.hid (HMIS.out rfl);clear HHIT HMIS;obtain ⟨⟨zz0,zz1,zz2,zz3,zz4,z5,z6,z7,z8⟩,⟨y0,y1,y2,y3,y4,y5,y6,y7,y8⟩⟩:=cellsF9 HZ3.out;obtain ⟨g0,g1,g2,g3,g4,g5,g6,g7,g8⟩:=cells9 HG3.out;go_wp2_with fail
      have HS:=set9 HZ3.out (.int .i64 a0) (.int .i64 a1) (.int .i64 a2) (.int .i64 a3) (.int .i64 a4) (.int .i64 a5) (.int .i64 a6) (.int .i64 a7) (.int .i64 a8);have hus:=upd9 (b:=rb) z3 (.int .i64 a0) (.int .i64 a1) (.int .i64 a2) (.int .i64 a3) (.int .i64 a4) (.int .i64 a5) (.int .i64 a6) (.int .i64 a7) (.int .i64 a8)
      (try simp only [Exit.inBlock,Exit.then])
      refine bodyPost_ret (results_ct rfl _ rfl (load_p3 (by exact HS))) rfl ?_;unfold jnextP;simp only;obtain ⟨n1,n2,n3⟩:=HNV.out;rw [n1,n2,n3];exact ⟨((a0,a1,a2),(a3,a4,a5),(a6,a7,a8)),rfl,fun _=>rfl,_,⟨_,_,_,HL3.out.upd hus (fun k hk e=>(HBN.out.2.2.2 k (HF2.out k hk)).1 e),rfl⟩,fun k hk=>.inl (HF2.out k hk),HU3.out.then hus (fun i hi e=>absurd hi (by have e':i=rb:=e;have:=HBN.out.1;omega))⟩
    ·go_simp
     have V1:=Lib.hid ((Upd.refl noBlk wc).drew.alloc (.cells #[.int .i64 0,.int .i64 0,.int .i64 0] 43));have HN1:Hid ((wc.drew.alloc (.cells #[.int .i64 0,.int .i64 0,.int .i64 0] 43)).heap[wc.heap.size]?=some (.cells #[.int .i64 0,.int .i64 0,.int .i64 0] 43 (0,0))):=heap_alloc_new wc.drew (.cells #[.int .i64 0,.int .i64 0,.int .i64 0] 43);refine hK _ _ ⟨V1.out,?_⟩;clear hK K';obtain ⟨N,hN⟩:∃N,N=wc.heap.size:=⟨_,rfl⟩;have HNB:Hid (wc.heap.size≤N):=by show _≤_;omega
     rw [←hN] at HN1 ⊢;clear hN;refine wpT_run (fun w'=>Upd noBlk wc w') (fun _ h=>h) rfl (fun K' hK=>?_);go_simp
     refine (HTH.out _ V1.out).mono ?_;rintro e z2 ⟨rfl,u2⟩;have V2:=Lib.hid (V1.out.trans u2);have HN2:=Lib.hid (u2.heap HN1.out id);refine hK _ _ ⟨V2.out,?_⟩;clear hK K' u2 HN1 V1
     iterate 3 (apply wpT_sure rfl rfl;focus (intro w' hw';go_simp;rfl))
     refine wpT_run (fun w'=>Upd noBlk wc w') (fun _ h=>h) rfl (fun K' hK=>?_);obtain ⟨⟨n0,n1,n2⟩,⟨m0,m1,m2⟩⟩:=cellsF3 HN2.out;go_simp
     have V3:=Lib.hid (upd3 V2.out HNB.out (.int .i64 r0) (.int .i64 r1) (.int .i64 r2));refine hK _ _ ⟨V3.out,?_⟩;clear hK K' V2 HN2 n0 n1 n2 m0 m1 m2;generalize ((z2.setCell ⟨N,0,none⟩ (.int .i64 r0)).setCell ⟨N,1,none⟩ (.int .i64 r1)).setCell ⟨N,2,none⟩ (.int .i64 r2)=z3 at *;refine wpT_nil ?_;have HV3:=Lib.hid ((V3.out).mono (G:=FT) (fun _ _ h=>h.elim));have HL3:=Lib.hid (HL2.out.upd V3.out (fun _ _=>id));have HU3:=Lib.hid (HU2.out.trans HV3.out);have HZ3:=Lib.hid (V3.out.heap HZ2.out id);have HG3:=Lib.hid (V3.out.heap HGC.out id);clear HL2 HU2 HZ2 HGC HBC V3 HV3 HTH;cases RB with
     | true=>
      have HO:=Lib.hid (HHIT.out rfl);clear HHIT HMIS;go_wp2_with fail
      refine ⟨⟨r,_,HO.out,by have:=HGL.out;simp only [List.length_cons] at this;omega,HL3.out,HU3.out,HF2.out,HZ3.out,((a0,a1,a2),(a3,a4,a5),(a6,a7,a8)),HG3.out⟩,?_⟩;have hc3:z3.cell? ⟨b,2,none⟩=some (.slice A2 r.length cap2):=(cellsF3 HL3.out.blk).1.2.2;have:=hMS.out;simp only [hc3];omega
     | false=>
      have HNV:=Lib.hid (HMIS.out rfl);clear HHIT HMIS;obtain ⟨⟨zz0,zz1,zz2,zz3,zz4,z5,z6,z7,z8⟩,⟨y0,y1,y2,y3,y4,y5,y6,y7,y8⟩⟩:=cellsF9 HZ3.out;obtain ⟨g0,g1,g2,g3,g4,g5,g6,g7,g8⟩:=cells9 HG3.out;go_wp2_with fail
      have HS:=set9 HZ3.out (.int .i64 a0) (.int .i64 a1) (.int .i64 a2) (.int .i64 a3) (.int .i64 a4) (.int .i64 a5) (.int .i64 a6) (.int .i64 a7) (.int .i64 a8);have hus:=upd9 (b:=rb) z3 (.int .i64 a0) (.int .i64 a1) (.int .i64 a2) (.int .i64 a3) (.int .i64 a4) (.int .i64 a5) (.int .i64 a6) (.int .i64 a7) (.int .i64 a8)
      (try simp only [Exit.inBlock,Exit.then])
      refine bodyPost_ret (results_ct rfl _ rfl (load_p3 (by exact HS))) rfl ?_;unfold jnextP;simp only;obtain ⟨n1,n2,n3⟩:=HNV.out;rw [n1,n2,n3];exact ⟨((a0,a1,a2),(a3,a4,a5),(a6,a7,a8)),rfl,fun _=>rfl,_,⟨_,_,_,HL3.out.upd hus (fun k hk e=>(HBN.out.2.2.2 k (HF2.out k hk)).1 e),rfl⟩,fun k hk=>.inl (HF2.out k hk),HU3.out.then hus (fun i hi e=>absurd hi (by have e':i=rb:=e;have:=HBN.out.1;omega))⟩
end Go.Proofs.YtcikldoaidmnhaaGreatDoor
