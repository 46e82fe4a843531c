/- Parts: Walks of the reference's meshes: what is wrong with a list. No condition. Walks of the reference's meshes: whether a corner is pinched. No condition. -/
import Derived.Test.YtcikldoaidmnhaaGreatDoorQFace28
namespace Go.Proofs.YtcikldoaidmnhaaGreatDoor
open Go Go.RowKit Pk
set_option maxRecDepth 100000
def hitsJ (t:Tri) (p:Pt) (j:Nat):List (Pt × Pt):=((edgesT t).take j).filter (fun e=>decide (e.1=p))
theorem hitsJ_succ (t:Tri) (p:Pt) {j:Nat} (hj:j<3):hitsJ t p (j+1)=hitsJ t p j++(if cornAt t j=p then [(cornAt t j,cornAt t ((j+1) % 3))] else []):=by
 have e:(edgesT t).take (j+1)=(edgesT t).take j++[(cornAt t j,cornAt t ((j+1) % 3))]:=by
  rcases (by omega:j=0∨j=1∨j=2) with rfl | rfl | rfl<;>rfl
 unfold hitsJ;rw [e,List.filter_append];congr 1
 by_cases h:cornAt t j=p
 ·rw [if_pos h,List.filter_cons_of_pos (by simpa using h)];rfl
 ·rw [if_neg h,List.filter_cons_of_neg (by simpa using h)];rfl
theorem hitsJ_len (t:Tri) (p:Pt) (j:Nat):(hitsJ t p j).length≤3:=by
 unfold hitsJ;refine Nat.le_trans (List.length_filter_le _ _) ?_;rw [List.length_take];exact Nat.min_le_right _ _
theorem mineL_succ {l:List Tri} (p:Pt) {k:Nat} (hk:k<l.length):mineL (l.take (k+1)) p=mineL (l.take k) p++(hitsJ l[k] p 3).map (fun _=>l[k]):=by
 rw [List.take_succ_eq_append_getElem hk];unfold mineL;rw [List.flatMap_append];simp only [List.flatMap_cons,List.flatMap_nil,List.append_nil];rfl
theorem startsL_succ {l:List Tri} (p:Pt) {k:Nat} (hk:k<l.length):startsL (l.take (k+1)) p=startsL (l.take k) p++(hitsJ l[k] p 3).map (·.2):=by
 rw [List.take_succ_eq_append_getElem hk];unfold startsL;rw [List.flatMap_append];simp only [List.flatMap_cons,List.flatMap_nil,List.append_nil];rfl
theorem mineL_len (l:List Tri) (p:Pt):(mineL l p).length≤3*l.length:=by
 rw [mine_length];unfold manyC;refine Nat.le_trans List.count_le_length ?_;induction l with
 | nil=>exact Nat.zero_le _
 | cons t r ih=>rw [List.flatMap_cons,List.length_append,List.length_cons];simp only [List.length_cons,List.length_nil];omega
theorem own_apart {α β:Type} {K:Kd Tryz.prog α} {K':Kd Tryz.prog β} {b b':Nat} {w:World} {v v':Value} {l:List α} {l':List β} (h:K.Own b w v l) (h':K'.Own b' w v' l') (ht:K.T≠K'.T) (g:Nat) (hg:v.ownBlock=some g):¬v'.ownBlock=some g:=fun e=>by
 obtain ⟨_,cur,hc⟩:=h.blk hg;obtain ⟨_,cur',hc'⟩:=h'.blk e;exact ne_obj hc hc' (fun e=>ht (by injection e)) rfl
set_option maxHeartbeats 4000000 in
theorem hPinched_any (v:Value) (l:List Tri) (p:Pt) (hn:l.length≤300000) (w:World) (h:kTri.Rd w v l) :
  Calls Tryz.prog 130 #[v,ptV p] w fun en w'=>en=.returned (.bool (pinchedAt l p))∧Upd noBlk w w':=by
 obtain ⟨R,hR⟩:∃R,R=pinchedAt l p:=⟨_,rfl⟩;rw [←hR];have HRT:Hid (∀k (h:k<(startsL l p).length),stepLoop (mineL l p) p (startsL l p)[k] ((mineL l p).length-1) (startsL l p)[k]=true→R=true):=fun k h e=>by
  rw [hR];exact List.any_eq_true.2 ⟨_,List.getElem_mem h,e⟩
 have HRF:Hid ((∀k (h:k<(startsL l p).length),stepLoop (mineL l p) p (startsL l p)[k] ((mineL l p).length-1) (startsL l p)[k]=false)→R=false):=fun h=>by
  rw [hR];unfold pinchedAt;rw [List.any_eq_false];intro q hq;obtain ⟨k,hk,rfl⟩:=List.getElem_of_mem hq;rw [h k hk];simp
 have HBE:=fun v q W r=>Lib.hid (hbehind_any v (mineL l p) p q (by have:=mineL_len l p;omega) W r);have HML:Hid ((mineL l p).length≤900000):=by have:=mineL_len l p;show _≤_;omega
 have HSL:Hid ((startsL l p).length≤900000):=by have:=mineL_len l p;show _≤_;rw [starts_length];omega
 obtain ⟨A,cap,rfl,hcap,hx⟩:=h;have HX:=Lib.hid hx;have HLE:Hid (l.length≤300000):=hn;have hn':(l.length:Int)≤300000:=by omega
 obtain ⟨p0,p1,p2⟩:=p;clear hx hn hR;unfold ptV;obtain ⟨x0,hx0⟩:∃x0,x0=w.alloc (.cells #[.int .i64 p0,.int .i64 p1,.int .i64 p2] 43):=⟨_,rfl⟩;have HU:Hid (Upd noBlk w x0):=by show Upd _ _ _;rw [hx0];exact (Upd.refl _ w).alloc _
 have HZ:Hid (x0.heap[w.heap.size]?=some (.cells #[.int .i64 p0,.int .i64 p1,.int .i64 p2] 43 (0,0))):=by show _=_;rw [hx0];exact heap_alloc_new w _
 have HXS:Hid (w.heap.size<x0.heap.size):=lt_of_heap HZ.out;obtain ⟨pb,hpb⟩:∃pb,pb=w.heap.size:=⟨_,rfl⟩;have HPB:Hid (pb<x0.heap.size):=by show _<_;rw [hpb];exact HXS.out
 rw [←hpb] at HZ;go_enter Tryz.func130,Tryz.ntmps130
 go_upto_region 1 with fail
 rw [←hx0,←hpb];clear hx0 hpb;go_wp2_with fail
 go_loopw [5,6,7] (fun m s i wr=>∃k:Nat,i=.int .i64 k∧k≤l.length∧kTri.Own x0.heap.size wr m (mineL (l.take k) (p0,p1,p2))∧kPt.Own x0.heap.size wr s (startsL (l.take k) (p0,p1,p2))∧Upd noBlk x0 wr) (fun _ _ i _=>l.length-(intOf i).toNat)
 case atStart=>exact ⟨0,rfl,Nat.zero_le _,Kd.Own.nil _ _ _,Kd.Own.nil _ _ _,Upd.refl _ _⟩
 case round=>
  obtain ⟨k,rfl,hk,hm,hs,hu⟩:=hrel;have HM:=Lib.hid hm;have HS:=Lib.hid hs;have HV:=Lib.hid hu;clear hm hs hu;by_cases hlt:k<l.length
  ·have hlt':(k:Int)<(l.length:Int):=by omega
   obtain ⟨b,off,rfl,f1⟩:=HX.out (by omega);have hat:=f1 k hlt;rw [show kTri.k=9 from rfl] at hat;have HAT:=Lib.hid (hat.keep HU.out);have HMS:=Lib.hid (mineL_succ (p0,p1,p2) hlt);have HSS:=Lib.hid (startsL_succ (p0,p1,p2) hlt);have HLM:Hid ((mineL (l.take k) (p0,p1,p2)).length≤900000):=by
    have h1:=mineL_len (l.take k) (p0,p1,p2);rw [List.length_take] at h1;have h2:=HLE.out;show _≤_;omega
   have HLS:Hid ((startsL (l.take k) (p0,p1,p2)).length≤900000):=by show _≤_;rw [starts_length];exact HLM.out
   have HK:Hid (k<l.length):=hlt;clear hat f1 hk HRT HRF HBE HML HSL;generalize l[k]=t at *;clear hlt;generalize mineL (l.take k) (p0,p1,p2)=M at *;generalize startsL (l.take k) (p0,p1,p2)=S at *;have hkw:IntKind.i64.wrap ((k:Int)+1)=(k:Int)+1:=wrapN (by omega) (by omega);go_wp2_with fail
   go_loopw [5,6,8] (fun m s i wz=>∃j:Nat,i=.int .i64 j∧j≤3∧kTri.Own x0.heap.size wz m (M++(hitsJ t (p0,p1,p2) j).map (fun _=>t))∧kPt.Own x0.heap.size wz s (S++(hitsJ t (p0,p1,p2) j).map (·.2))∧Upd noBlk x0 wz) (fun _ _ i _=>3-(intOf i).toNat)
   case atStart=>exact ⟨0,rfl,Nat.zero_le _,by show kTri.Own _ _ _ (M++[]);rw [List.append_nil];exact HM.out,by show kPt.Own _ _ _ (S++[]);rw [List.append_nil];exact HS.out,HV.out⟩
   case round=>
    obtain ⟨j,rfl,hj,hm,hs,hu⟩:=hrel;have HM:=Lib.hid hm;have HS:=Lib.hid hs;have HV:=Lib.hid hu;have HA:=Lib.hid (HAT.out.keep hu);have HZR:=Lib.hid (hu.heap HZ.out id);clear hm hs hu;by_cases hj3:j<3
    ·have hj3':(j:Int)<3:=by omega
     have hjw:IntKind.i64.wrap ((j:Int)+1)=(j:Int)+1:=wrapN (by omega) (by omega);obtain ⟨j1,hj1⟩:∃j1,j1=(j+1) % 3:=⟨_,rfl⟩;have ht1:((j:Int)+1).tmod 3=(j1:Int):=by rw [Int.tmod_eq_emod_of_nonneg (by omega)];omega
     have he1:((j:Int)+1) % 3=(j1:Int):=by omega
     have hjl1:(j1:Int)<3:=by omega
     have HC:=Lib.hid (tri_corner HA.out hj3);have HC1:Hid (∀W,Upd noBlk x0 W→W.cell? ⟨b,off+k*9+j1*3,none⟩=some (.int .i64 (cornAt t j1).1)∧W.cell? ⟨b,off+k*9+j1*3+1,none⟩=some (.int .i64 (cornAt t j1).2.1)∧W.cell? ⟨b,off+k*9+j1*3+2,none⟩=some (.int .i64 (cornAt t j1).2.2)):=fun W hW=>tri_corner (HAT.out.keep hW) (by omega);have hh:=hitsJ_succ t (p0,p1,p2) hj3;rw [←hj1] at hh;have HH:=Lib.hid hh;have HL:=Lib.hid (hitsJ_len t (p0,p1,p2) j);have HJ:Hid (j<3):=hj3;clear hj hj3 hj1 hh;generalize hitsJ t (p0,p1,p2) j=H at *;generalize cornAt t j=q at *;generalize cornAt t j1=qn at *;obtain ⟨q0,q1,q2⟩:=q;obtain ⟨d0,d1,d2⟩:=qn;go_wp2_with fail
     refine wp_region_tree 7 (OT.sures [0,1,2,6,3,4,5] .nil) (fun w'=>Gr wr w') (by kernel_rfl) (by kernel_rfl) (fun c a d v w h=>by cases d<;>exact h) ((Gr.refl wr).drew) ?_
     simp only [OT.sures]
     iterate 7 (apply wpT_sure rfl rfl;focus (intro w' hw';obtain ⟨⟨z0,z1,z2⟩,_⟩:=cellsF3 (hw'.heap HZR.out id);have c0:=hw'.cell HC.out.1 id;have c1:=hw'.cell HC.out.2.1 id;have c2:=hw'.cell HC.out.2.2 id;go_simp;rfl))
     refine wpT_nil ?_;by_cases he:((q0,q1,q2):Pt)=(p0,p1,p2)
     ·have hh:=HH.out;rw [if_pos he] at hh;have HH2:=Lib.hid hh;cases he;clear hh HH HZR;have hdr:Upd noBlk wr wr.drew:=(Upd.refl _ wr).drew;have HMD:=Lib.hid (HM.out.upd hdr);have HSD:=Lib.hid (HS.out.upd hdr);have HVD:=Lib.hid (HV.out.trans hdr);clear hdr HM HS HV HA HC;obtain ⟨AM,cM,hM,_⟩:=HMD.out.form;obtain ⟨AS,cS,hS,_⟩:=HSD.out.form;subst hM hS;have hlm:∀X:List Tri,X=H.map (fun _=>t)→(M++X).length≤900003:=fun X e=>by rw [e,List.length_append,List.length_map];have:=HLM.out;have:=HL.out;omega
      obtain ⟨g1,c1,w1,r1,o1,v1,_⟩:=HMD.out.app1 HVD.out.size t (by have:=hlm _ rfl;omega);have U1:=Lib.hid (HVD.out.then v1 (fun i hi e=>absurd hi (by have:=(HMD.out.blk e).1;omega)));have hs1:=HSD.out.other v1 (fun g hg e=>own_apart HMD.out HSD.out (by decide) g e hg);obtain ⟨g2,c2,w2,r2,o2,v2,_⟩:=hs1.app1 U1.out.size (d0,d1,d2) (by rw [List.length_append,List.length_map];have:=HLS.out;have:=HL.out;omega);have U2:=Lib.hid (U1.out.then v2 (fun i hi e=>absurd hi (by have:=(hs1.blk e).1;omega)));have M2:=Lib.hid (o1.other v2 (fun g hg e=>own_apart o1 hs1 (by decide) g hg e));have S2:=Lib.hid o2;have R1:=Lib.hid r1;have R2:=Lib.hid r2;have HATD:=Lib.hid (HAT.out.keep HVD.out);have HC1D:=Lib.hid (HC1.out w1 U1.out);have hlm1:(M++H.map (fun _=>t)).length<1000000:=by have:=hlm _ rfl;omega
      have hls1:(S++H.map (·.2)).length<1000000:=by rw [List.length_append,List.length_map];have:=HLS.out;have:=HL.out;omega
      clear r1 o1 v1 r2 o2 v2 hs1 hlm HMD HSD HAT HC1 HX HVD U1;generalize wr.drew=wd at *;obtain ⟨⟨a0,a1,a2⟩,⟨a3,a4,a5⟩,⟨a6,a7,a8⟩⟩:=t;obtain ⟨g0,g1',g2',g3,g4,g5,g6,g7,g8⟩:=triAt9 HATD.out;simp only at g0 g1' g2' g3 g4 g5 g6 g7 g8 HC1D;have M3:Hid (kTri.Own x0.heap.size w2 (.slice (some ⟨g1,0,none⟩) ((M++H.map (fun _=>((a0,a1,a2),(a3,a4,a5),(a6,a7,a8)))).length+1) c1) (M++(H++[((p0,p1,p2),(d0,d1,d2))]).map (fun _=>((a0,a1,a2),(a3,a4,a5),(a6,a7,a8))))):=by
       show Kd.Own _ _ _ _ _;rw [List.map_append,←List.append_assoc];exact M2.out
      have S3:Hid (kPt.Own x0.heap.size w2 (.slice (some ⟨g2,0,none⟩) ((S++H.map (·.2)).length+1) c2) (S++(H++[((p0,p1,p2),(d0,d1,d2))]).map (·.2))):=by
       show Kd.Own _ _ _ _ _;rw [List.map_append,←List.append_assoc];exact S2.out
      clear M2 S2;generalize (M++H.map (fun _=>(((a0,a1,a2),(a3,a4,a5),(a6,a7,a8)):Tri))).length=LM at *;generalize (S++H.map (·.2)).length=LS at *;go_upto_region 11 with (at_builtin;refine wpList_append_run rfl _ _ _ rfl rfl rfl R1.out ?_)
      clear R1 g0 g1' g2' g3 g4 g5 g6 g7 g8 HATD;obtain ⟨k0,k1,k2⟩:=HC1D.out;go_wp2_with (at_builtin;refine wpList_append_run rfl _ _ _ rfl rfl rfl R2.out ?_)
      exact ⟨⟨j+1,by push_cast;rfl,HJ.out,by rw [HH2.out];exact M3.out,by rw [HH2.out];exact S3.out,U2.out⟩,by simp only [intOf];have:=HJ.out;omega⟩
     ·have hh:=HH.out;rw [if_neg he,List.append_nil] at hh;have HH2:=Lib.hid hh;clear hh HH;have HN:=Lib.hid (pt_ne he);clear he;rcases HN.out with e0 | ⟨rfl,e1⟩ | ⟨rfl,rfl,e2⟩
      all_goals go_wp2_with fail
      all_goals exact ⟨⟨j+1,by push_cast;rfl,HJ.out,by rw [HH2.out];exact HM.out.upd (Upd.refl _ wr).drew,by rw [HH2.out];exact HS.out.upd (Upd.refl _ wr).drew,HV.out.drew⟩,by simp only [intOf];have:=HJ.out;omega⟩
    ·obtain rfl:j=3:=by omega
     go_wp2_with fail
     exact ⟨⟨k+1,by push_cast;rfl,HK.out,by rw [HMS.out];exact HM.out,by rw [HSS.out];exact HS.out,HV.out⟩,by simp only [intOf];have:=HK.out;omega⟩
  ·obtain rfl:k=l.length:=by omega
   have hm:=HM.out;have hs:=HS.out;rw [List.take_length] at hm hs;have HMR:=Lib.hid hm.rd;have HSR:=Lib.hid hs.rd;obtain ⟨AM,cM,rfl,_⟩:=hm.form;obtain ⟨AS,cS,rfl,hcS⟩:=hs.form;have HPZ:=Lib.hid (HV.out.heap HZ.out id);have HUV:=Lib.hid (HU.out.trans HV.out);have hmI:(((mineL l (p0,p1,p2)).length:Nat):Int)≤900000:=by have:=HML.out;omega
   have hsI:(((startsL l (p0,p1,p2)).length:Nat):Int)≤900000:=by have:=HSL.out;omega
   clear hm hs HM HS HX HV HU HZ HXS HPB;generalize mineL l (p0,p1,p2)=M at *;generalize startsL l (p0,p1,p2)=S at *;generalize wr=x1 at *;go_wp2_with fail
   go_loopw [9] (fun i wz=>∃k:Nat,i=.int .i64 k∧k≤S.length∧(∀a (h:a<S.length),a<k→stepLoop M (p0,p1,p2) S[a] (M.length-1) S[a]=false)∧Upd noBlk x1 wz) (fun i _=>S.length-(intOf i).toNat)
   case atStart=>exact ⟨0,rfl,Nat.zero_le _,fun a _ h=>absurd h (Nat.not_lt_zero _),Upd.refl _ _⟩
   case round=>
    obtain ⟨k,rfl,hk,hb,hu⟩:=hrel;have HB:=Lib.hid hb;have HV:=Lib.hid hu;clear hb hu;by_cases hlt:k<S.length
    ·have hlt':(k:Int)<(S.length:Int):=by omega
     obtain ⟨AS',cS',e,_,hx⟩:=HSR.out;cases e;obtain ⟨b,off,rfl,f1⟩:=hx (by omega);have hc:=f1 k hlt;rw [show kPt.k=3 from rfl] at hc;have HC:=Lib.hid hc;obtain ⟨T,hT⟩:∃T,T=stepLoop M (p0,p1,p2) S[k] (M.length-1) S[k]:=⟨_,rfl⟩;have HTT:Hid (T=true→R=true):=fun h=>HRT.out k hlt (by rw [←hT];exact h);have HTF:Hid (T=false→∀a (h:a<S.length),a<k+1→stepLoop M (p0,p1,p2) S[a] (M.length-1) S[a]=false):=fun h a ha hak=>by
      rcases (by omega:a<k∨a=k) with h' | rfl
      ·exact HB.out a ha h'
      ·rw [←hT];exact h
     have HK:Hid (k<S.length):=hlt;have hkw:IntKind.i64.wrap ((k:Int)+1)=(k:Int)+1:=wrapN (by omega) (by omega);have hT':=hT.symm;clear f1 hc hk hx hT HB HRT HRF;generalize S[k]=q at *;clear hlt;have HST:Hid (stepLoop M (p0,p1,p2) q (M.length-1) q=T):=hT';clear hT';obtain ⟨q0,q1,q2⟩:=q;obtain ⟨d0,d1,d2⟩:=ptAt3 (HC.out.keep HV.out);obtain ⟨y0,hy0⟩:∃y0,y0=wr.alloc (.cells #[.int .i64 q0,.int .i64 q1,.int .i64 q2] 43):=⟨_,rfl⟩;obtain ⟨zb,hzb⟩:∃zb,zb=wr.heap.size:=⟨_,rfl⟩;have HZB:Hid (y0.heap[zb]?=some (.cells #[.int .i64 q0,.int .i64 q1,.int .i64 q2] 43 (0,0))):=by show _=_;rw [hy0,hzb];exact heap_alloc_new wr _
     have HYU:Hid (Upd noBlk x1 y0):=by show Upd _ _ _;rw [hy0];exact HV.out.alloc _
     have HZL:Hid (x1.heap.size≤zb):=by show _≤_;rw [hzb];exact HV.out.size
     go_upto_region 16 with fail
     rw [←hy0,←hzb];clear hy0 hzb d0 d1 d2 HV;go_wp2_with fail
     go_loopw [11] (fun i wy=>∃(s:Nat) (c:Pt),i=.int .i64 s∧1≤s∧s≤M.length+1∧stepLoop M (p0,p1,p2) (q0,q1,q2) (M.length-s) c=T∧wy.heap[zb]?=some (.cells #[.int .i64 c.1,.int .i64 c.2.1,.int .i64 c.2.2] 43 (0,0))∧Upd noBlk x1 wy) (fun i _=>M.length-(intOf i).toNat)
     case atStart=>exact ⟨1,(q0,q1,q2),rfl,Nat.le_refl _,by omega,HST.out,HZB.out,HYU.out⟩
     case round=>
      obtain ⟨s,⟨c0,c1,c2⟩,rfl,hs1,hsM,hst,hz,hu⟩:=hrel;have HST:=Lib.hid hst;have HZB:=Lib.hid hz;have HV:=Lib.hid hu;clear hst hz hu;simp only at HZB;by_cases hslt:s<M.length
      ·have hslt':(s:Int)<(M.length:Int):=by omega
       have hsw:IntKind.i64.wrap ((s:Int)+1)=(s:Int)+1:=wrapN (by omega) (by omega);have HSB:Hid (1≤s∧s<M.length):=⟨hs1,hslt⟩;have HNX:Hid (third M (p0,p1,p2) (c0,c1,c2)=none→T=false):=fun h=>by
        have h2:=HST.out;rw [show M.length-s=(M.length-(s+1))+1 by omega,stepLoop,h] at h2;exact h2.symm
       have HNS:Hid (∀n,third M (p0,p1,p2) (c0,c1,c2)=some n→(n=(q0,q1,q2)→T=true)∧(n≠(q0,q1,q2)→stepLoop M (p0,p1,p2) (q0,q1,q2) (M.length-(s+1)) n=T)):=fun n h=>by
        have h2:=HST.out;rw [show M.length-s=(M.length-(s+1))+1 by omega,stepLoop,h] at h2;simp only at h2;refine ⟨fun e=>?_,fun e=>?_⟩
        ·rw [if_pos e] at h2;exact h2.symm
        ·rw [if_neg e] at h2;exact h2
       have HBB:=Lib.hid (HBE _ (c0,c1,c2) wr (HMR.out.keep HV.out)).out;clear HST hs1 hsM hslt;have HPW:=Lib.hid (HV.out.heap HPZ.out id);obtain ⟨⟨z0,z1,z2⟩,_⟩:=cellsF3 HPW.out;obtain ⟨⟨m0,m1,m2⟩,_⟩:=cellsF3 HZB.out;unfold ptV at HBB;rcases h3:third M (p0,p1,p2) (c0,c1,c2) with _ | n
       ·have HF:=Lib.hid (HTF.out (HNX.out h3));rw [h3] at HBB;clear HNX HNS h3;go_wp2_with fail
        refine HBB.out.mono ?_;rintro e w2 ⟨rfl,u2⟩;have V2:=Lib.hid (HV.out.trans u2);clear u2 HBB;simp only [Option.isSome_none];go_wp2_with fail
        exact ⟨⟨k+1,by push_cast;rfl,HK.out,HF.out,by first | exact V2.out.alloc _ | exact (V2.out.alloc _)⟩,by simp only [intOf];have:=HK.out;omega⟩
       ·have HF:=Lib.hid (HNS.out n h3);rw [h3] at HBB;clear HNX HNS h3;obtain ⟨n0,n1,n2⟩:=n;go_wp2_with fail
        refine HBB.out.mono ?_;rintro e w2 ⟨rfl,u2⟩;have V2:=Lib.hid (HV.out.trans u2);have HZ2:=Lib.hid (u2.heap HZB.out id);clear u2 HBB z0 z1 z2 m0 m1 m2;simp only [Option.isSome_some,Option.getD_some];have hal:Upd noBlk w2 (w2.alloc (.cells #[.int .i64 n0,.int .i64 n1,.int .i64 n2] 43)):=(Upd.refl _ w2).alloc _;have HN3:=Lib.hid (heap_alloc_new w2 (.cells #[.int .i64 n0,.int .i64 n1,.int .i64 n2] 43));have HZ3:=Lib.hid (hal.heap HZ2.out id);have V3:=Lib.hid (V2.out.trans hal);clear hal HZ2;go_upto_region 21 with fail
        obtain ⟨nb,hnb⟩:∃nb,nb=w2.heap.size:=⟨_,rfl⟩;rw [←hnb] at HN3;rw [←hnb];clear hnb V2;generalize w2.alloc (.cells #[.int .i64 n0,.int .i64 n1,.int .i64 n2] 43)=w3 at *;obtain ⟨⟨m0,m1,m2⟩,_⟩:=cellsF3 HN3.out;obtain ⟨⟨z0,z1,z2⟩,⟨e0,e1,e2⟩⟩:=cellsF3 HZ3.out;have HZ4:=Lib.hid (set3 (y0:=.int .i64 n0) (y1:=.int .i64 n1) (y2:=.int .i64 n2) HZ3.out);have V4:=Lib.hid (upd3 V3.out HZL.out (.int .i64 n0) (.int .i64 n1) (.int .i64 n2));go_upto_region 22 with fail
        clear m0 m1 m2 z0 z1 z2 e0 e1 e2 HN3 HZ3 V3;generalize ((w3.setCell ⟨zb,0,none⟩ (.int .i64 n0)).setCell ⟨zb,1,none⟩ (.int .i64 n1)).setCell ⟨zb,2,none⟩ (.int .i64 n2)=w4 at *;have HC4:=Lib.hid (HC.out.keep V4.out);refine wp_region_tree 5 (OT.sures [0,1,2,3,4] .nil) (fun w'=>Gr w4 w') (by kernel_rfl) (by kernel_rfl) (fun c a d v w h=>by cases d<;>exact h) ((Gr.refl w4).drew) ?_
        simp only [OT.sures]
        iterate 5 (apply wpT_sure rfl rfl;focus (intro w' hw';obtain ⟨⟨z0,z1,z2⟩,_⟩:=cellsF3 (hw'.heap HZ4.out id);obtain ⟨d0,d1,d2⟩:=ptAt3 (HC4.out.keep hw'.up);go_simp;rfl))
        refine wpT_nil ?_;by_cases he:((n0,n1,n2):Pt)=(q0,q1,q2)
        ·have HF2:=Lib.hid (HTT.out (HF.out.1 he));cases he;clear HF HST;go_wp2_with fail
         go_ret
         exact ⟨by rw [HF2.out];rfl,HUV.out.trans V4.out.drew⟩
        ·have HF2:=Lib.hid (HF.out.2 he);have HN:=Lib.hid (pt_ne he);clear he HF HST;rcases HN.out with e0 | ⟨rfl,e1⟩ | ⟨rfl,rfl,e2⟩
         all_goals go_wp2_with fail
         all_goals exact ⟨⟨s+1,_,by push_cast;rfl,by omega,by have:=HSB.out;omega,HF2.out,HZ4.out,V4.out.drew⟩,by simp only [intOf];have:=HSB.out;omega⟩
      ·have hT0:T=false:=by
        have h2:=HST.out;rw [show M.length-s=0 by omega,stepLoop] at h2;exact h2.symm
       have HF:=Lib.hid (HTF.out hT0);clear HST hT0;go_wp2_with fail
       exact ⟨⟨k+1,by push_cast;rfl,HK.out,HF.out,HV.out⟩,by simp only [intOf];have:=HK.out;omega⟩
    ·obtain rfl:k=S.length:=by omega
     have HF:=Lib.hid (HRF.out (fun a h=>HB.out a h h));clear HRT HRF HB;go_wp2_with fail
     go_ret
     exact ⟨by rw [HF.out];rfl,HUV.out.trans HV.out⟩
end Go.Proofs.YtcikldoaidmnhaaGreatDoor
namespace Go.Proofs.YtcikldoaidmnhaaGreatDoor
open Go Go.RowKit Pk
set_option maxRecDepth 100000
def checkX (op:Bool) (nb:Nat) (l:List Tri):Nat:=if l.any flatT then 20 else if (edgesL l).any (fun e=>decide (1<(edgesL l).count e)) then 21 else if op=false∧0<nb then 22 else if (cornersL l).any (pinchedAt l) then 23 else 0
theorem Kd.Rd.form2 {P:Program} {α:Type} {K:Kd P α} {w:World} {v:Value} {l:List α} (h:K.Rd w v l):∃A cap,v=.slice A l.length cap∧l.length≤cap:=by
 obtain ⟨A,cap,e,hc,_⟩:=h;exact ⟨A,cap,e,hc⟩
theorem any_no {α:Type} {f:α→Bool} {l:List α} (h:∀k (hk:k<l.length),f l[k]=false):l.any f=false:=by
 rw [List.any_eq_false];intro x hx;obtain ⟨k,hk,rfl⟩:=List.getElem_of_mem hx;rw [h k hk];simp
theorem any_yes {α:Type} {f:α→Bool} {l:List α} {k:Nat} (hk:k<l.length) (h:f l[k]=true):l.any f=true:=List.any_eq_true.2 ⟨_,List.getElem_mem hk,h⟩
set_option maxHeartbeats 4000000 in
theorem hcheck_gen (op:Bool) (nb:Nat) (v:Value) (l:List Tri) (hn:l.length≤100000) (w:World) (h:kTri.Rd w v l)
  (hB:op=false→∀W,Upd noBlk w W→Calls Tryz.prog 128 #[v] W fun en w'=>∃A c,en=.returned (.slice A nb c)∧Upd noBlk W w') :
  Calls Tryz.prog 77 #[v,.bool op] w fun en w'=>en=.returned (.int .i64 (checkX op nb l:Nat))∧Upd noBlk w w':=by
 obtain ⟨R,hR⟩:∃R,R=checkX op nb l:=⟨_,rfl⟩;rw [←hR];have H20:Hid (l.any flatT=true→R=20):=fun h=>by rw [hR];unfold checkX;rw [if_pos h]
 have H21:Hid (l.any flatT=false→(edgesL l).any (fun e=>decide (1<(edgesL l).count e))=true→R=21):=fun h1 h2=>by rw [hR];unfold checkX;rw [if_neg (by rw [h1];simp),if_pos h2]
 have H22:Hid (l.any flatT=false→(edgesL l).any (fun e=>decide (1<(edgesL l).count e))=false→op=false→0<nb→R=22):=fun h1 h2 h3 h4=>by rw [hR];unfold checkX;rw [if_neg (by rw [h1];simp),if_neg (by rw [h2];simp),if_pos ⟨h3,h4⟩]
 have H23:Hid (l.any flatT=false→(edgesL l).any (fun e=>decide (1<(edgesL l).count e))=false→¬(op=false∧0<nb)→(cornersL l).any (pinchedAt l)=true→R=23):=fun h1 h2 h3 h4=>by rw [hR];unfold checkX;rw [if_neg (by rw [h1];simp),if_neg (by rw [h2];simp),if_neg h3,if_pos h4]
 have H0:Hid (l.any flatT=false→(edgesL l).any (fun e=>decide (1<(edgesL l).count e))=false→¬(op=false∧0<nb)→(cornersL l).any (pinchedAt l)=false→R=0):=fun h1 h2 h3 h4=>by rw [hR];unfold checkX;rw [if_neg (by rw [h1];simp),if_neg (by rw [h2];simp),if_neg h3,if_neg (by rw [h4];simp)]
 have HED:Hid (∀W,Upd noBlk w W→Calls Tryz.prog 126 #[v] W fun en w'=>∃v',en=.returned v'∧kPair.Own W.heap.size w' v' (edgesL l)∧Upd noBlk W w'):=fun W hW=>hEdges_any v l (by omega) W (h.keep hW);have HCO:Hid (∀W,Upd noBlk w W→Calls Tryz.prog 129 #[v] W fun en w'=>∃v',en=.returned v'∧kPt.Rd w' v' (cornersL l)∧Upd noBlk W w'):=fun W hW=>hCorners_any v l (by omega) W (h.keep hW);have HPI:Hid (∀p W,Upd noBlk w W→Calls Tryz.prog 130 #[v,ptV p] W fun en w'=>en=.returned (.bool (pinchedAt l p))∧Upd noBlk W w'):=fun p W hW=>hPinched_any v l p (by omega) W (h.keep hW);have HBO:=Lib.hid hB;have HCN:=fun v' e W r=>Lib.hid (hcount_any v' (edgesL l) e (by rw [edgesL_length];omega) W r);have HEL:Hid ((edgesL l).length≤300000):=by show _≤_;rw [edgesL_length];omega
 have HCL:Hid ((cornersL l).length≤300000):=by have:=cornersL_len l;show _≤_;omega
 obtain ⟨A,cap,rfl,hcap,hx⟩:=h;have HX:=Lib.hid hx;have hn':(l.length:Int)≤100000:=by omega
 clear hx hn hB hR hcap;go_enter Tryz.func77,Tryz.ntmps77
 go_wp2_with fail
 go_loopw [5] (fun i wr=>∃k:Nat,i=.int .i64 k∧k≤l.length∧(∀a (h:a<l.length),a<k→flatT l[a]=false)∧Upd noBlk w wr) (fun i _=>l.length-(intOf i).toNat)
 case atStart=>exact ⟨0,rfl,Nat.zero_le _,fun a _ h=>absurd h (Nat.not_lt_zero _),Upd.refl _ _⟩
 case round=>
  obtain ⟨k,rfl,hk,hb,hu⟩:=hrel;have HB:=Lib.hid hb;have HU:=Lib.hid hu;clear hb hu;by_cases hlt:k<l.length
  ·have hlt':(k:Int)<(l.length:Int):=by omega
   obtain ⟨b,off,rfl,f1⟩:=HX.out (by omega);have hat:=f1 k hlt;rw [show kTri.k=9 from rfl] at hat;have HAT:=Lib.hid (hat.keep HU.out);have HF1:Hid (flatT l[k]=true→R=20):=fun h=>H20.out (any_yes hlt h);have HF0:Hid (flatT l[k]=false→∀a (h:a<l.length),a<k+1→flatT l[a]=false):=fun h a ha hak=>by
    rcases (by omega:a<k∨a=k) with h' | rfl
    ·exact HB.out a ha h'
    ·exact h
   have HK:Hid (k<l.length):=hlt;have hkw:IntKind.i64.wrap ((k:Int)+1)=(k:Int)+1:=wrapN (by omega) (by omega);clear hat f1 hk HB H20 H21 H22 H23 H0 HED HCO HPI HBO HCN;generalize l[k]=t at *;clear hlt;obtain ⟨⟨a0,a1,a2⟩,⟨a3,a4,a5⟩,⟨a6,a7,a8⟩⟩:=t;go_wp2_with fail
   have HFL:Hid (flatT ((a0,a1,a2),(a3,a4,a5),(a6,a7,a8))=decide (((a0,a1,a2):Pt)=(a3,a4,a5)∨((a3,a4,a5):Pt)=(a6,a7,a8)∨((a6,a7,a8):Pt)=(a0,a1,a2))):=rfl;refine wp_region_tree 36 (OT.sures [0,1,2,3,4,5,6,7,8,9,10,11,12,13,14,15,16,17,18,19,20,21,22,23,24,25,26,27,28,29,30,31,32,33,34,35] .nil) (fun w'=>Gr wr w') (by kernel_rfl) (by kernel_rfl) (fun c a d v w h=>by cases d<;>exact h) ((Gr.refl wr).drew) ?_
   simp only [OT.sures]
   iterate 10 (apply wpT_sure rfl rfl;focus (intro w' hw';obtain ⟨g0,g1,g2,g3,g4,g5,g6,g7,g8⟩:=triAt9 (HAT.out.keep hw'.up);go_simp;rfl))
   by_cases e0:((a0,a1,a2):Pt)=(a3,a4,a5)
   ·have HF:=Lib.hid (HF1.out (HFL.out.trans (decide_eq_true (.inl e0))));cases e0;clear HF0 HF1 HFL;refine wpT_sure rfl rfl (.bool true) (fun w' hw'=>by go_simp;try rfl) ?_;apply wpT_sure rfl rfl;focus (intro w' hw';go_simp;rfl)
    iterate 11 (refine wpT_skip rfl (by go_simp) ?_)
    iterate 2 (apply wpT_sure rfl rfl;focus (intro w' hw';go_simp;rfl))
    iterate 11 (refine wpT_skip rfl (by go_simp) ?_)
    refine wpT_nil ?_;go_wp2_with fail
    go_ret
    exact ⟨by rw [HF.out];rfl,HU.out.drew⟩
   ·refine wpT_sure rfl rfl (.bool false) (fun w' hw'=>by rcases pt_ne e0 with e0 | ⟨rfl,e1⟩ | ⟨rfl,rfl,e2⟩<;>(go_simp;try rfl)) ?_
    apply wpT_sure rfl rfl;focus (intro w' hw';go_simp;rfl)
    iterate 10 (refine wpT_sureG rfl (by go_simp) _ (fun w' hw'=>by obtain ⟨g0,g1,g2,g3,g4,g5,g6,g7,g8⟩:=triAt9 (HAT.out.keep hw'.up);go_simp;rfl) ?_)
    by_cases e1:((a3,a4,a5):Pt)=(a6,a7,a8)
    ·have HF:=Lib.hid (HF1.out (HFL.out.trans (decide_eq_true (.inr (.inl e1)))));cases e1;clear HF0 HF1 HFL;refine wpT_sureG rfl (by go_simp) (.bool true) (fun w' hw'=>by go_simp;try rfl) ?_
     iterate 2 (apply wpT_sure rfl rfl;focus (intro w' hw';go_simp;rfl))
     iterate 11 (refine wpT_skip rfl (by go_simp) ?_)
     refine wpT_nil ?_;go_wp2_with fail
     go_ret
     exact ⟨by rw [HF.out];rfl,HU.out.drew⟩
    ·refine wpT_sureG rfl (by go_simp) (.bool false) (fun w' hw'=>by rcases pt_ne e1 with e0 | ⟨rfl,e1⟩ | ⟨rfl,rfl,e2⟩<;>(go_simp;try rfl)) ?_
     iterate 2 (apply wpT_sure rfl rfl;focus (intro w' hw';go_simp;rfl))
     iterate 10 (refine wpT_sureG rfl (by go_simp) _ (fun w' hw'=>by obtain ⟨g0,g1,g2,g3,g4,g5,g6,g7,g8⟩:=triAt9 (HAT.out.keep hw'.up);go_simp;rfl) ?_)
     by_cases e2:((a6,a7,a8):Pt)=(a0,a1,a2)
     ·have HF:=Lib.hid (HF1.out (HFL.out.trans (decide_eq_true (.inr (.inr e2)))));cases e2;clear HF0 HF1 HFL;refine wpT_sureG rfl (by go_simp) (.bool true) (fun w' hw'=>by go_simp;try rfl) ?_;refine wpT_nil ?_;go_wp2_with fail
      go_ret
      exact ⟨by rw [HF.out];rfl,HU.out.drew⟩
     ·have HF:=Lib.hid (HF0.out (HFL.out.trans (decide_eq_false (fun h=>h.elim e0 (fun h=>h.elim e1 e2)))));refine wpT_sureG rfl (by go_simp) (.bool false) (fun w' hw'=>by rcases pt_ne e2 with e0 | ⟨rfl,e1⟩ | ⟨rfl,rfl,e2⟩<;>(go_simp;try rfl)) ?_
      clear HF0 HF1 HFL e0 e1 e2 HAT;refine wpT_nil ?_;go_wp2_with fail
      exact ⟨⟨k+1,by push_cast;rfl,HK.out,HF.out,HU.out.drew⟩,by simp only [intOf];have:=HK.out;omega⟩
  ·obtain rfl:k=l.length:=by omega
   have HNF:Hid (l.any flatT=false):=any_no (fun a h=>HB.out a h h);have HED':=Lib.hid (HED.out wr HU.out);clear HB H20 HED;go_wp2_with fail
   refine HED'.out.mono ?_;rintro e x1 ⟨ve,rfl,oe,u1⟩;have OE:=Lib.hid oe.rd;have U1:=Lib.hid (HU.out.trans u1);have heI:(((edgesL l).length:Nat):Int)≤300000:=by have:=HEL.out;omega
   have H21':=Lib.hid (H21.out HNF.out);have H22':=Lib.hid (H22.out HNF.out);have H23':=Lib.hid (H23.out HNF.out);have H0':=Lib.hid (H0.out HNF.out);obtain ⟨AE,cE,rfl,_⟩:=oe.form;clear oe u1 HED' HU H21 H22 H23 H0 HNF HX;generalize edgesL l=E at *;go_wp2_with fail
   go_loopw [7] (fun i wr=>∃k:Nat,i=.int .i64 k∧k≤E.length∧(∀a (h:a<E.length),a<k→decide (1<E.count E[a])=false)∧Upd noBlk x1 wr) (fun i _=>E.length-(intOf i).toNat)
   case atStart=>exact ⟨0,rfl,Nat.zero_le _,fun a _ h=>absurd h (Nat.not_lt_zero _),Upd.refl _ _⟩
   case round=>
    obtain ⟨k,rfl,hk,hb,hu⟩:=hrel;have HB:=Lib.hid hb;have HU:=Lib.hid hu;clear hb hu;by_cases hlt:k<E.length
    ·have hlt':(k:Int)<(E.length:Int):=by omega
     obtain ⟨AE',cE',e,_,hx⟩:=OE.out;cases e;obtain ⟨b,off,rfl,f1⟩:=hx (by omega);have hat:=(f1 k hlt).keep HU.out;rw [show kPair.k=6 from rfl] at hat;have HAT:=Lib.hid hat;have HF1:Hid (1<E.count E[k]→R=21):=fun h=>H21'.out (any_yes (f:=fun e=>decide (1<E.count e)) hlt (decide_eq_true h));have HF0:Hid (¬1<E.count E[k]→∀a (h:a<E.length),a<k+1→decide (1<E.count E[a])=false):=fun h a ha hak=>by
      rcases (by omega:a<k∨a=k) with h' | rfl
      ·exact HB.out a ha h'
      ·exact decide_eq_false h
     have HCW:=Lib.hid (HCN _ E[k] wr (OE.out.keep HU.out)).out;have HK:Hid (k<E.length):=hlt;have hkw:IntKind.i64.wrap ((k:Int)+1)=(k:Int)+1:=wrapN (by omega) (by omega);clear hat f1 hk hx HB H21' H22' H23' H0' HPI HCN HBO HCO OE;generalize E[k]=q at *;clear hlt;generalize E.count q=m at *;obtain ⟨⟨q0,q1,q2⟩,⟨q3,q4,q5⟩⟩:=q;unfold prC at HCW;obtain ⟨d0,d1,d2,d3,d4,d5⟩:=prAt6 HAT.out;go_wp2_with fail
     refine HCW.out.mono ?_;rintro e w4 ⟨rfl,u4⟩;have U4:=Lib.hid (HU.out.trans u4);clear u4 HCW d0 d1 d2 d3 d4 d5 HAT;by_cases hm:1<m
     ·have HF:=Lib.hid (HF1.out hm);have hm':(1:Int)<(m:Int):=by omega
      clear HF0 HF1 hm;go_wp2_with fail
      go_ret
      exact ⟨by rw [HF.out];rfl,U1.out.trans U4.out⟩
     ·have HF:=Lib.hid (HF0.out hm);have hm':¬(1:Int)<(m:Int):=by omega
      clear HF0 HF1 hm;go_wp2_with fail
      exact ⟨⟨k+1,by push_cast;rfl,HK.out,HF.out,U4.out⟩,by simp only [intOf];have:=HK.out;omega⟩
    ·obtain rfl:k=E.length:=by omega
     have HNE:Hid (E.any (fun e=>decide (1<E.count e))=false):=any_no (fun a h=>HB.out a h h);have H22:=Lib.hid (H22'.out HNE.out);have H23:=Lib.hid (H23'.out HNE.out);have H0:=Lib.hid (H0'.out HNE.out);have UB:=Lib.hid (U1.out.trans HU.out);clear HB H21' H22' H23' H0' HNE HCN OE U1 HU;cases op with
     | true=>
      have H23:=Lib.hid (H23.out (fun h=>by cases h.1));have H0:=Lib.hid (H0.out (fun h=>by cases h.1));have UC:=UB;clear H22 HBO UB;have HCO':=Lib.hid (HCO.out _ UC.out);clear HCO;go_wp2_with fail
      refine HCO'.out.mono ?_;rintro e x3 ⟨vc,rfl,oc,u3⟩;have OC:=Lib.hid oc;have U3:=Lib.hid (UC.out.trans u3);clear oc u3 HCO';have hcI:(((cornersL l).length:Nat):Int)≤300000:=by have:=HCL.out;omega
      generalize cornersL l=C at *;obtain ⟨AC,cC,rfl,hcC⟩:=OC.out.form2;go_wp2_with fail
      go_loopw [9] (fun i wr=>∃k:Nat,i=.int .i64 k∧k≤C.length∧(∀a (h:a<C.length),a<k→pinchedAt l C[a]=false)∧Upd noBlk x3 wr) (fun i _=>C.length-(intOf i).toNat)
      case atStart=>exact ⟨0,rfl,Nat.zero_le _,fun a _ h=>absurd h (Nat.not_lt_zero _),Upd.refl _ _⟩
      case round=>
       obtain ⟨k,rfl,hk,hb,hu⟩:=hrel;have HB:=Lib.hid hb;have HU:=Lib.hid hu;clear hb hu;by_cases hlt:k<C.length
       ·have hlt':(k:Int)<(C.length:Int):=by omega
        obtain ⟨AC',cC',e,_,hx⟩:=OC.out;cases e;obtain ⟨b,off,rfl,f1⟩:=hx (by omega);have hat:=(f1 k hlt).keep HU.out;rw [show kPt.k=3 from rfl] at hat;have HAT:=Lib.hid hat;have HF1:Hid (pinchedAt l C[k]=true→R=23):=fun h=>H23.out (any_yes hlt h);have HF0:Hid (pinchedAt l C[k]=false→∀a (h:a<C.length),a<k+1→pinchedAt l C[a]=false):=fun h a ha hak=>by
         rcases (by omega:a<k∨a=k) with h' | rfl
         ·exact HB.out a ha h'
         ·exact h
        have HPW:=Lib.hid (HPI.out C[k] wr (U3.out.trans HU.out));have HK:Hid (k<C.length):=hlt;have hkw:IntKind.i64.wrap ((k:Int)+1)=(k:Int)+1:=wrapN (by omega) (by omega);clear hat f1 hk hx HB H23 H0 HPI;generalize C[k]=q at *;clear hlt;obtain ⟨q0,q1,q2⟩:=q;unfold ptV at HPW;obtain ⟨d0,d1,d2⟩:=ptAt3 HAT.out;go_wp2_with fail
        refine HPW.out.mono ?_;rintro e w4 ⟨rfl,u4⟩;have U4:=Lib.hid (HU.out.trans u4);clear u4 HPW d0 d1 d2 HAT;rcases hp:pinchedAt l (q0,q1,q2) with _ | _
        ·have HF:=Lib.hid (HF0.out hp);clear HF0 HF1 hp;go_wp2_with fail
         exact ⟨⟨k+1,by push_cast;rfl,HK.out,HF.out,U4.out⟩,by simp only [intOf];have:=HK.out;omega⟩
        ·have HF:=Lib.hid (HF1.out hp);clear HF0 HF1 hp;go_wp2_with fail
         go_ret
         exact ⟨by rw [HF.out];rfl,U3.out.trans U4.out⟩
       ·obtain rfl:k=C.length:=by omega
        have HF:=Lib.hid (H0.out (any_no (fun a h=>HB.out a h h)));clear HB H23 H0;go_wp2_with fail
        go_ret
        exact ⟨by rw [HF.out];rfl,U3.out.trans HU.out⟩
     | false=>
      have HBB:=Lib.hid (HBO.out rfl wr UB.out);clear HBO;go_wp2_with fail
      refine HBB.out.mono ?_;rintro e w5 ⟨Ab,cb,rfl,u5⟩;have UC:=Lib.hid (UB.out.trans u5);clear u5 HBB UB;by_cases hnb:0<nb
      ·have HF:=Lib.hid (H22.out (by first | rfl | trivial) hnb);have hnb':(0:Int)<(nb:Int):=by omega
       clear H22 H23 H0 hnb;go_wp2_with fail
       go_ret
       exact ⟨by rw [HF.out];rfl,UC.out⟩
      ·have H23:=Lib.hid (H23.out (fun h=>hnb h.2));have H0:=Lib.hid (H0.out (fun h=>hnb h.2));have hnb':¬(0:Int)<(nb:Int):=by omega
       have hnb'':nb=0:=by omega
       clear H22 hnb;have HCO':=Lib.hid (HCO.out _ UC.out);clear HCO;go_wp2_with fail
       refine HCO'.out.mono ?_;rintro e x3 ⟨vc,rfl,oc,u3⟩;have OC:=Lib.hid oc;have U3:=Lib.hid (UC.out.trans u3);clear oc u3 HCO';have hcI:(((cornersL l).length:Nat):Int)≤300000:=by have:=HCL.out;omega
       generalize cornersL l=C at *;obtain ⟨AC,cC,rfl,hcC⟩:=OC.out.form2;go_wp2_with fail
       go_loopw [9] (fun i wr=>∃k:Nat,i=.int .i64 k∧k≤C.length∧(∀a (h:a<C.length),a<k→pinchedAt l C[a]=false)∧Upd noBlk x3 wr) (fun i _=>C.length-(intOf i).toNat)
       case atStart=>exact ⟨0,rfl,Nat.zero_le _,fun a _ h=>absurd h (Nat.not_lt_zero _),Upd.refl _ _⟩
       case round=>
        obtain ⟨k,rfl,hk,hb,hu⟩:=hrel;have HB:=Lib.hid hb;have HU:=Lib.hid hu;clear hb hu;by_cases hlt:k<C.length
        ·have hlt':(k:Int)<(C.length:Int):=by omega
         obtain ⟨AC',cC',e,_,hx⟩:=OC.out;cases e;obtain ⟨b,off,rfl,f1⟩:=hx (by omega);have hat:=(f1 k hlt).keep HU.out;rw [show kPt.k=3 from rfl] at hat;have HAT:=Lib.hid hat;have HF1:Hid (pinchedAt l C[k]=true→R=23):=fun h=>H23.out (any_yes hlt h);have HF0:Hid (pinchedAt l C[k]=false→∀a (h:a<C.length),a<k+1→pinchedAt l C[a]=false):=fun h a ha hak=>by
          rcases (by omega:a<k∨a=k) with h' | rfl
          ·exact HB.out a ha h'
          ·exact h
         have HPW:=Lib.hid (HPI.out C[k] wr (U3.out.trans HU.out));have HK:Hid (k<C.length):=hlt;have hkw:IntKind.i64.wrap ((k:Int)+1)=(k:Int)+1:=wrapN (by omega) (by omega);clear hat f1 hk hx HB H23 H0 HPI;generalize C[k]=q at *;clear hlt;obtain ⟨q0,q1,q2⟩:=q;unfold ptV at HPW;obtain ⟨d0,d1,d2⟩:=ptAt3 HAT.out;go_wp2_with fail
         refine HPW.out.mono ?_;rintro e w4 ⟨rfl,u4⟩;have U4:=Lib.hid (HU.out.trans u4);clear u4 HPW d0 d1 d2 HAT;rcases hp:pinchedAt l (q0,q1,q2) with _ | _
         ·have HF:=Lib.hid (HF0.out hp);clear HF0 HF1 hp;go_wp2_with fail
          exact ⟨⟨k+1,by push_cast;rfl,HK.out,HF.out,U4.out⟩,by simp only [intOf];have:=HK.out;omega⟩
         ·have HF:=Lib.hid (HF1.out hp);clear HF0 HF1 hp;go_wp2_with fail
          go_ret
          exact ⟨by rw [HF.out];rfl,U3.out.trans U4.out⟩
        ·obtain rfl:k=C.length:=by omega
         have HF:=Lib.hid (H0.out (any_no (fun a h=>HB.out a h h)));clear HB H23 H0;go_wp2_with fail
         go_ret
         exact ⟨by rw [HF.out];rfl,U3.out.trans HU.out⟩
end Go.Proofs.YtcikldoaidmnhaaGreatDoor
