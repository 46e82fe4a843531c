/- Parts: Walks of the packets' program: a corner is met. No condition. -/
import Derived.Test.YtcikldoaidmnhaaGreatDoorQOpen9
namespace Go.Proofs.YtcikldoaidmnhaaGreatDoor
open Go Go.RowKit Pk
set_option maxRecDepth 100000
def meetN (known:List Pt) (p:Pt):Nat:=if p∈known then known.length-1-known.idxOf p else 0
set_option maxHeartbeats 2000000 in
theorem meet_any (b:Nat) (S:Wk) (G:Nat→Prop) (p:Pt) (hp:okP p) (hl:S.known.length≤100000) (w:World) (h:SRep w b S G) :
  Calls Tryz.prog 50 #[.pointer (some ⟨b,0,none⟩),ptV p] w fun en w'=>en=.returned (.tuple #[.int .i64 (meetN S.known p),.bool (decide (p∈S.known))])∧SPost G w w' b ⟨meetK S.known p,S.tris,S.gates⟩:=by
 obtain ⟨vK,vG,vT,ba,bu,h,rfl⟩:=h;have HL:=Lib.hid h;have HN:=Lib.hid h.ne;obtain ⟨p0,p1,p2⟩:=p;obtain ⟨A,cap,rfl,hcap⟩:=h.comp.known.form;have hu:=(Upd.refl noBlk w).alloc (.cells #[.int .i64 p0,.int .i64 p1,.int .i64 p2] 43);have HU:=Lib.hid hu;have HB:=Lib.hid (hu.heap h.blk id);have HZ:=Lib.hid (heap_alloc_new w (.cells #[.int .i64 p0,.int .i64 p1,.int .i64 p2] 43));have HA:=Lib.hid (h.comp.at_.keep hu);have HP:=Lib.hid hp;have HPB:Hid (∀k,sFoot b (.slice A S.known.length cap) vG vT ba bu k→k≠w.heap.size):=fun k hk e=>by have:=h.lt k hk;omega
 obtain ⟨tr,htr⟩:∃tr,tr=S.tris:=⟨_,rfl⟩;obtain ⟨K,hK⟩:∃K,K=S.known:=⟨_,rfl⟩;obtain ⟨gs,hgs⟩:∃gs,gs=S.gates:=⟨_,rfl⟩;obtain rfl:S=⟨K,tr,gs⟩:=by rw [htr,hK,hgs]
 simp only at *;clear htr hK hgs;have hl':(K.length:Int)≤100000:=by omega
 have hl0:Hid (K.length≤100000):=hl;have HCAP:=Lib.hid hcap;clear h hu hp hl hcap;unfold ptV;go_enter Tryz.func50,Tryz.ntmps50
 obtain ⟨wx,hwx⟩:∃wx,wx=w.alloc (.cells #[.int .i64 p0,.int .i64 p1,.int .i64 p2] 43):=⟨_,rfl⟩;rw [←hwx] at HU HB HZ HA;go_upto_region 1 with fail
 rw [←hwx];clear hwx;have hlk:=HA.out.lookOkR (a:=(p0,p1,p2)) HP.out;by_cases hm:(p0,p1,p2)∈K
 ·have hv:atF K (p0,p1,p2)=some ((K.idxOf (p0,p1,p2):Nat):Int):=by unfold atF;rw [if_pos hm]
  have hid:=List.idxOf_lt_length_iff.2 hm;have HR:Hid (meetN K (p0,p1,p2)=K.length-1-K.idxOf (p0,p1,p2)):=by show _=_;unfold meetN;rw [if_pos hm]
  have HD:Hid (decide ((p0,p1,p2)∈K)=true):=decide_eq_true hm;have HM:Hid (meetK K (p0,p1,p2)=K):=by show _=_;unfold meetK;rw [if_pos hm]
  obtain ⟨j,hj⟩:∃j,j=K.idxOf (p0,p1,p2):=⟨_,rfl⟩;rw [←hj] at hv hid HR;have hid':(j:Int)<(K.length:Int):=by omega
  have HJ:Hid (j<K.length):=hid;have HK:Hid (∀w',Gr wx w'→(Instr.lookup 99 (.map (some ba)) (.agg #[.int .i64 p0,.int .i64 p1,.int .i64 p2]) true).run Tryz.prog w'=.ok (.tuple #[.int .i64 (j:Int),.bool true]) w'):=fun w' hw'=>by
   have:=(HA.out.keep hw'.up).lookOkR (a:=(p0,p1,p2)) HP.out;rw [hv] at this;exact this
  clear hm hv hid hlk hj;refine wp_region_tree 10 (OT.sures [0,1,2,3,4,5,6,7,8,9] .nil) (fun w'=>Gr wx w') (by kernel_rfl) (by kernel_rfl) (fun c a d v w h=>by cases d<;>exact h) ((Gr.refl wx).drew) ?_
  simp only [OT.sures]
  iterate 10 (apply wpT_sure rfl rfl;focus (intro w' hw';have hk:=HK.out w' hw';obtain ⟨⟨k0,k1,k2,k3,k4⟩,_⟩:=cells5 (hw'.heap HB.out id);obtain ⟨a0,a1,a2⟩:=cells3 (hw'.heap HZ.out id);go_simp;rfl))
  refine wpT_nil ?_;obtain ⟨⟨k0,k1,k2,k3,k4⟩,_⟩:=cells5 HB.out;go_wp2_with fail
  go_ret2
  refine ⟨?_,?_⟩
  ·show Ending.returned (Value.tuple #[.int .i64 ((K.length:Int)-1-(j:Int)),.bool true])=_;rw [HD.out,HR.out];have e:((K.length-1-j:Nat):Int)=(K.length:Int)-1-(j:Int):=by have:=HJ.out;omega
   rw [e]
  ·rw [HM.out];have hU:=HU.out.drew;exact ⟨_,⟨_,_,_,_,_,HL.out.upd hU (fun _ _=>id),rfl⟩,fun k hk=>.inl hk,hU.mono (fun _ _ h=>h.elim)⟩
 ·have hv:atF K (p0,p1,p2)=none:=by unfold atF;rw [if_neg hm]
  have HR:Hid (meetN K (p0,p1,p2)=0):=by show _=_;unfold meetN;rw [if_neg hm]
  have HD:Hid (decide ((p0,p1,p2)∈K)=false):=decide_eq_false hm;have HM:Hid (meetK K (p0,p1,p2)=K++[(p0,p1,p2)]):=by show _=_;unfold meetK;rw [if_neg hm]
  have HNW:=Lib.hid (atF_new hm);have HK:Hid (∀w',Gr wx w'→(Instr.lookup 99 (.map (some ba)) (.agg #[.int .i64 p0,.int .i64 p1,.int .i64 p2]) true).run Tryz.prog w'=.ok (.tuple #[.int .i64 0,.bool false]) w'):=fun w' hw'=>by
   have:=(HA.out.keep hw'.up).lookOkR (a:=(p0,p1,p2)) HP.out;rw [hv] at this;exact this
  clear hm hv hlk;refine wp_region_tree 10 (OT.sures [0,1,2,3,4,5,6,7,8,9] .nil) (fun w'=>Gr wx w') (by kernel_rfl) (by kernel_rfl) (fun c a d v w h=>by cases d<;>exact h) ((Gr.refl wx).drew) ?_
  simp only [OT.sures]
  iterate 10 (apply wpT_sure rfl rfl;focus (intro w' hw';have hk:=HK.out w' hw';obtain ⟨⟨k0,k1,k2,k3,k4⟩,_⟩:=cells5 (hw'.heap HB.out id);obtain ⟨a0,a1,a2⟩:=cells3 (hw'.heap HZ.out id);go_simp;rfl))
  refine wpT_nil ?_;clear HK;obtain ⟨x1,hx1⟩:∃x1,x1=wx.drew:=⟨_,rfl⟩;have hU1:Upd noBlk wx x1:=by rw [hx1];exact (Upd.refl _ wx).drew
  have HU1:=Lib.hid (HU.out.trans hU1);have HB1:=Lib.hid (hU1.heap HB.out id);have HZ1:=Lib.hid (hU1.heap HZ.out id);have HA1:=Lib.hid (HA.out.keep hU1);rw [←hx1];clear hx1 hU1 HU HB HZ HA;go_wp2_with fail
  refine wp_region_tree 10 (OT.sures [0,1,2,3,4,5,6,7,8,9] .nil) (fun w'=>Gr x1 w') (by kernel_rfl) (by kernel_rfl) (fun c a d v w h=>by cases d<;>exact h) ((Gr.refl x1).drew) ?_
  simp only [OT.sures]
  iterate 10 (apply wpT_sure rfl rfl;focus (intro w' hw';obtain ⟨⟨k0,k1,k2,k3,k4⟩,_⟩:=cells5 (hw'.heap HB1.out id);obtain ⟨a0,a1,a2⟩:=cells3 (hw'.heap HZ1.out id);go_simp;rfl))
  refine wpT_nil ?_;obtain ⟨y,hr,hy,hu⟩:=(HA1.out.keep (Upd.refl noBlk x1).drew).put (by have:=hl0.out;unfold maxLen;omega) (a:=(p0,p1,p2)) HP.out (v:=(K.length:Int)) trivial;rw [HNW.out] at hy;have HY:=Lib.hid hy;have hu1:Upd (fun k=>k=ba) x1 y:=(Upd.refl _ x1).drew.trans hu;have HN':=HN.out;have HUY:=Lib.hid (HU1.out.mono (G:=sFoot b (.slice A K.length cap) vG vT ba bu) (fun _ _ h=>h.elim));have HBY:=Lib.hid (hu1.heap HB1.out (fun e=>HN'.nba e.symm));have HZY:=Lib.hid (hu1.heap HZ1.out (fun e=>HPB.out ba (.inr (.inl rfl)) e.symm));have HWY:Hid (Upd (fun k=>k=ba) w y):=(HU1.out.mono (fun _ _ h=>h.elim)).trans hu1;have HRU:(Instr.mapUpdate 99 (.map (some ba)) (.agg #[.int .i64 p0,.int .i64 p1,.int .i64 p2]) (.int .i64 (K.length:Int))).run Tryz.prog x1.drew=.ok () y:=hr;clear hr hy hu hu1 HN';go_wp2_with fail
  clear HRU HB1 HZ1 HA1 HU1;have HN':=HN.out;have hL:=HL.out;have hd1:Upd noBlk y y.drew:=(Upd.refl _ y).drew;have hown:kPt.Own 0 y.drew (.slice A K.length cap) K:=(hL.comp.known.other HWY.out (fun g hg e=>HN'.ka (by rw [hg,e]))).upd hd1;obtain ⟨g,cap3,w3,r3,o3,u3,a3⟩:=hown.app1 (Nat.zero_le _) (p0,p1,p2) (by have:=hl0.out;omega);have HG:Hid ((Value.slice A K.length cap).ownBlock=some g∨y.heap.size<g):=a3;have HU3:=Lib.hid (hd1.mono (G:=fun k=>(Value.slice A K.length cap).ownBlock=some k) (fun _ _ h=>h.elim) |>.trans u3);have HB3:=Lib.hid (HU3.out.heap HBY.out HN'.k);have HC3:Hid (SComp w3 ⟨K++[(p0,p1,p2)],tr,gs⟩ (.slice (some ⟨g,0,none⟩) (K.length+1) cap3) vG vT ba bu):=by
   refine ⟨?_,?_,o3,?_,?_,hL.comp.ab⟩
   ·have:=HY.out.other HU3.out HN'.ka;simpa using this
   ·exact (hL.comp.used.other HWY.out (fun e=>hL.comp.ab e.symm)).other HU3.out HN'.ku
   ·exact (hL.comp.gates.other HWY.out (fun i hi e=>HN'.ga (by rw [hi,e]))).other HU3.out (fun i hi e=>HN'.kg i e hi)
   ·exact (hL.comp.tris.other HWY.out (fun i hi e=>HN'.ta (by rw [hi,e]))).other HU3.out (fun i hi e=>HN'.kt i e hi)
  have HAPP:(Builtin.append_ #[98,98] 98 #[.slice A K.length cap,.slice (some ⟨y.heap.size,0,none⟩) 1 1]).run Tryz.prog (y.drew.alloc (.cells #[.int .i64 p0,.int .i64 p1,.int .i64 p2] 43))=.ok (.slice (some ⟨g,0,none⟩) (K.length+1) cap3) w3:=r3;have HAB:Hid ((y.drew.alloc (.cells #[.int .i64 p0,.int .i64 p1,.int .i64 p2] 43)).heap[b]?=some (.cells #[.slice A K.length cap,.map (some ba),.map (some bu),vG,vT] 103 (0,0))∧(y.drew.alloc (.cells #[.int .i64 p0,.int .i64 p1,.int .i64 p2] 43)).heap[w.heap.size]?=some (.cells #[.int .i64 p0,.int .i64 p1,.int .i64 p2] 43 (0,0))):=⟨(hd1.alloc _).heap HBY.out id,(hd1.alloc _).heap HZY.out id⟩;have HZ3:=Lib.hid (HU3.out.heap HZY.out (fun e=>HPB.out _ (.inr (.inr (.inr (.inl e)))) rfl));clear hown r3 o3 u3 a3 hL HN' hd1;refine wp_region_tree 8 (OT.sures [0,1,5,2,3,4] (.run 6 (.run 7 .nil))) (fun w'=>w'.heap[b]?=some (.cells #[.slice A K.length cap,.map (some ba),.map (some bu),vG,vT] 103 (0,0))∧w'.heap[w.heap.size]?=some (.cells #[.int .i64 p0,.int .i64 p1,.int .i64 p2] 43 (0,0))) (by kernel_rfl) (by kernel_rfl) (fun c a d v w h=>by cases d<;>exact h) ⟨HBY.out,HZY.out⟩ ?_
  simp only [OT.sures]
  iterate 6 (apply wpT_sure rfl rfl;focus (intro w' hw';obtain ⟨⟨k0,k1,k2,k3,k4⟩,_⟩:=cells5 hw'.1;obtain ⟨a0,a1,a2⟩:=cells3 hw'.2;go_simp;rfl))
  refine wpT_run _ (fun _ h=>h) rfl (fun K' hK=>?_);go_simp
  refine hK _ _ ⟨HAB.out,?_⟩;clear hK K';refine wpT_run _ (fun _ h=>h) rfl (fun K' hK=>?_);rw [if_pos (by rfl)];refine wp_append_run _ _ _ rfl rfl rfl HAPP ?_;refine hK _ _ ⟨⟨HB3.out,HZ3.out⟩,?_⟩;clear hK K' HAPP;refine wpT_nil ?_;obtain ⟨⟨k0,k1,k2,k3,k4⟩,⟨f0,f1,f2,f3,f4⟩⟩:=cells5 HB3.out;go_wp2_with fail
  go_ret2
  refine ⟨?_,?_⟩
  ·rw [HD.out,HR.out];rfl
  ·rw [HM.out];have hlive:=SLive.put HB3.out HC3.out 0 (.slice (some ⟨g,0,none⟩) (K.length+1) cap3) rfl;refine ⟨_,⟨_,_,_,_,_,hlive,rfl⟩,fun k hk=>?_,?_⟩
   ·rcases hk with h | h | h | h | h | h
    ·exact .inl (.inl h)
    ·exact .inl (.inr (.inl h))
    ·exact .inl (.inr (.inr (.inl h)))
    ·have e:g=k:=by simpa [Value.ownBlock] using h
     subst e;rcases HG.out with h2 | h2
     ·exact .inl (.inr (.inr (.inr (.inl h2))))
     ·exact .inr (by have:=HWY.out.size;omega)
    ·exact .inl (.inr (.inr (.inr (.inr (.inl h)))))
    ·exact .inl (.inr (.inr (.inr (.inr (.inr h)))))
   ·exact ((HWY.out.mono (G:=sFoot b (.slice A K.length cap) vG vT ba bu) (fun k _ e=>.inr (.inl e))).trans (HU3.out.mono (fun k _ e=>.inr (.inr (.inr (.inl e)))))).setCell (p:=⟨b,0,none⟩) (fun _=>.inl rfl) _
end Go.Proofs.YtcikldoaidmnhaaGreatDoor
