/- Parts: Walks of the program's mesh: check, CheckOpen. No condition. Walks of the program's mesh: directed. No condition. Walks of the reference's meshes: sorted, canonical, the same. No condition. Walks of the reference's meshes: two ordered lists are merged. No condition. -/
import Derived.Test.YtcikldoaidmnhaaGreatDoorQKeep8
import Derived.Test.YtcikldoaidmnhaaGreatDoorQKeep9
import Derived.Test.YtcikldoaidmnhaaGreatDoorQKeep24
import Derived.Deep.AppendSrc
import Derived.Deep.Upon
namespace Go.Proofs.YtcikldoaidmnhaaGreatDoor
open Go Go.RowKit Pk
set_option maxRecDepth 100000
theorem Kd.Own.app0 {α:Type} {K:Kd Tryz.prog α} {base:Nat} {w:World} {v:Value} {l:List α} (h:K.Own base w v l) (A:Option Addr) (c:Nat):(Builtin.append_ #[K.S,K.S] K.S #[v,.slice A 0 c]).run Tryz.prog w=.ok v w:=by
 obtain ⟨i,z,hi,hz,h1,h2,h3⟩:=K.info;obtain ⟨Av,cap,rfl,hc⟩:=h.form;refine run_append_nothing w K.S K.S K.S K.T i K.und hi Av l.length cap hc (.slice A 0 c) ?_;cases A with
 | none=>exact Src.ofNil w K.und c
 | some a=>exact Src.ofSlice w K.und a 0 c [] (by simp) (by intro j u hu;simp at hu) (by intro u hu;cases hu)
theorem mergeT_take {a b:List Tri} {i j:Nat} (hi:i<a.length) (hj:j<b.length) (h:triLt b[j] a[i]=true):mergeT (a.drop i) (b.drop j)=b[j] :: mergeT (a.drop i) (b.drop (j+1)):=by
 rw [List.drop_eq_getElem_cons hi,List.drop_eq_getElem_cons hj];show List.takeWhile (fun t=>triLt t a[i]) (b[j] :: b.drop (j+1))++a[i] :: mergeT (a.drop (i+1)) (List.dropWhile (fun t=>triLt t a[i]) (b[j] :: b.drop (j+1)))=b[j] :: (List.takeWhile (fun t=>triLt t a[i]) (b.drop (j+1))++a[i] :: mergeT (a.drop (i+1)) (List.dropWhile (fun t=>triLt t a[i]) (b.drop (j+1))));rw [List.takeWhile_cons_of_pos (p:=fun t=>triLt t a[i]) h,List.dropWhile_cons_of_pos (p:=fun t=>triLt t a[i]) h];rfl
theorem mergeT_skip {a b:List Tri} {i j:Nat} (hi:i<a.length) (h:∀hj:j<b.length,triLt b[j] a[i]=false):mergeT (a.drop i) (b.drop j)=a[i] :: mergeT (a.drop (i+1)) (b.drop j):=by
 rw [List.drop_eq_getElem_cons hi,mergeT];by_cases hj:j<b.length
 ·have h2:=h hj;rw [List.drop_eq_getElem_cons hj,List.takeWhile_cons_of_neg (p:=fun t=>triLt t a[i]) (by rw [h2];decide),List.dropWhile_cons_of_neg (p:=fun t=>triLt t a[i]) (by rw [h2];decide)];rfl
 ·rw [List.drop_of_length_le (by omega)];rfl
theorem mergeT_end {a b:List Tri} {i j:Nat} (hi:a.length≤i):mergeT (a.drop i) (b.drop j)=b.drop j:=by
 rw [List.drop_of_length_le hi];rfl
set_option maxHeartbeats 4000000 in
theorem hMerge_any (va vb:Value) (a b:List Tri) (ha:a.length≤1000000) (hb:b.length≤1000000) (w:World) (hra:kTri.Rd w va a) (hrb:kTri.Rd w vb b) :
  Calls Tryz.prog 118 #[va,vb] w fun en w'=>∃v,en=.returned v∧kTri.Own w.heap.size w' v (mergeT a b)∧Upd noBlk w w':=by
 obtain ⟨M,hM⟩:∃M,M=mergeT a b:=⟨_,rfl⟩;rw [←hM];have hl:=fun p q W=>Lib.hid (hLessTri_any p q W);obtain ⟨A,capa,rfl,hca,hxa⟩:=hra;obtain ⟨B,capb,rfl,hcb,hxb⟩:=hrb;have HXA:=Lib.hid hxa;have HXB:=Lib.hid hxb;have HAL:Hid (a.length≤1000000):=ha;have HBL:Hid (b.length≤1000000):=hb;have HCB:Hid (b.length≤capb):=hcb;have HM:Hid ([]++mergeT (a.drop 0) (b.drop 0)=M):=hM.symm;have hal:(a.length:Int)≤1000000:=by omega
 have hbl:(b.length:Int)≤1000000:=by omega
 clear hxa hxb hM ha hb hca hcb;go_enter Tryz.func118,Tryz.ntmps118
 go_wp2_with fail
 go_loopw [5,6,7] (fun o jv iv wr=>∃(i j:Nat) (acc:List Tri),iv=.int .i64 i∧jv=.int .i64 j∧i≤a.length∧j≤b.length∧acc.length=i+j∧kTri.Own w.heap.size wr o acc∧acc++mergeT (a.drop i) (b.drop j)=M∧Upd noBlk w wr) (fun _ _ iv _=>a.length-(intOf iv).toNat)
 case atStart=>exact ⟨0,0,[],rfl,rfl,Nat.zero_le _,Nat.zero_le _,rfl,Kd.Own.nil _ _ _,HM.out,Upd.refl _ _⟩
 case round=>
  obtain ⟨i,j,acc,rfl,rfl,hi,hj,hlen,ho,hm,hu⟩:=hrel;have HO:=Lib.hid ho;have HM2:=Lib.hid hm;have HU:=Lib.hid hu;have HLN:Hid (acc.length=i+j):=hlen;have HJ:Hid (j≤b.length):=hj;clear ho hm hu hlen HM hj;by_cases hlt:i<a.length
  ·have hlt':(i:Int)<(a.length:Int):=by omega
   have HI:Hid (i<a.length):=hlt;obtain ⟨ba,oa,rfl,f1⟩:=HXA.out (by omega);have hk9:kTri.k=9:=rfl;have hf1:=f1 i hlt;rw [hk9] at hf1;have HF1:=Lib.hid hf1;have HTK:Hid (∀j' (h:j'<b.length),triLt b[j'] a[i]=true→mergeT (a.drop i) (b.drop j')=b[j'] :: mergeT (a.drop i) (b.drop (j'+1))):=fun j' h h2=>mergeT_take hlt h h2;have HSK:Hid (∀j',(∀h:j'<b.length,triLt b[j'] a[i]=false)→mergeT (a.drop i) (b.drop j')=a[i] :: mergeT (a.drop (i+1)) (b.drop j')):=fun j' h2=>mergeT_skip hlt h2;clear hf1 f1 hk9;generalize a[i]=ai at *;clear hlt hi;obtain ⟨⟨a0,a1,a2⟩,⟨a3,a4,a5⟩,⟨a6,a7,a8⟩⟩:=ai;have hwi:IntKind.i64.wrap ((i:Int)+1)=(i:Int)+1:=wrapN (by omega) (by omega);go_wp2_with fail
   go_loopw [5,6,8] (fun o jv lv wz=>∃(j:Nat) (acc:List Tri),jv=.int .i64 j∧j≤b.length∧acc.length=i+j∧kTri.Own w.heap.size wz o acc∧acc++mergeT (a.drop i) (b.drop j)=M∧Upd noBlk w wz) (fun _ jv _ _=>b.length-(intOf jv).toNat)
   case atStart=>exact ⟨j,acc,rfl,HJ.out,HLN.out,HO.out,HM2.out,HU.out⟩
   case round=>
    obtain ⟨j,acc,rfl,hj,hlen,ho,hm,hu⟩:=hrel;have HO:=Lib.hid ho;have HM2:=Lib.hid hm;have HU:=Lib.hid hu;have HLN:Hid (acc.length=i+j):=hlen;clear ho hm hu hlen;by_cases hjt:j<b.length
    ·have hjt':(j:Int)<(b.length:Int):=by omega
     obtain ⟨bb,ob,rfl,f2⟩:=HXB.out (by omega);have hk9:kTri.k=9:=rfl;have hf2:=f2 j hjt;rw [hk9] at hf2;have HF2:=Lib.hid (hf2.keep HU.out);have HF3:=Lib.hid (HF1.out.keep HU.out);have HTJ:=Lib.hid (fun h=>HTK.out j hjt h);have HSJ:=Lib.hid (fun h:triLt b[j] ((a0,a1,a2),(a3,a4,a5),(a6,a7,a8))=false=>HSK.out j (fun _=>h));have HJB:Hid (j<b.length):=hjt;clear f2 hf2 hk9;generalize b[j]=bj at *;clear hjt hj;obtain ⟨⟨b0,b1,b2⟩,⟨b3,b4,b5⟩,⟨b6,b7,b8⟩⟩:=bj;have hwj:IntKind.i64.wrap ((j:Int)+1)=(j:Int)+1:=wrapN (by omega) (by omega);have HLT:=Lib.hid (hl ((b0,b1,b2),(b3,b4,b5),(b6,b7,b8)) ((a0,a1,a2),(a3,a4,a5),(a6,a7,a8)) wr.drew);go_wp2_with fail
     refine wp_region_tree 8 (OT.sures [0,1,4,5,2,6,3,7] .nil) (fun w'=>Gr wr w') (by kernel_rfl) (by kernel_rfl) (fun c a d v w h=>by cases d<;>exact h) ((Gr.refl wr).drew) ?_
     simp only [OT.sures]
     iterate 8 (apply wpT_sure rfl rfl;focus (intro w' hw';obtain ⟨g0,g1,g2,g3,g4,g5,g6,g7,g8⟩:=triAt9 (HF2.out.keep hw'.up);obtain ⟨k0,k1,k2,k3,k4,k5,k6,k7,k8⟩:=triAt9 (HF3.out.keep hw'.up);go_simp;rfl))
     refine wpT_nil ?_;go_wp2_with fail
     refine HLT.out.mono ?_;rintro e w2 ⟨rfl,u2⟩;have U2:=Lib.hid (HU.out.trans ((Upd.refl noBlk wr).drew.trans u2));have O2:=Lib.hid (HO.out.upd ((Upd.refl noBlk wr).drew.trans u2));have HF2:=Lib.hid (HF2.out.keep ((Upd.refl noBlk wr).drew.trans u2));clear u2 HF3 HO HU HLT;rcases hlt9:triLt ((b0,b1,b2),(b3,b4,b5),(b6,b7,b8)) ((a0,a1,a2),(a3,a4,a5),(a6,a7,a8)) with _ | _
     ·have HMS:Hid (acc++(((a0,a1,a2),(a3,a4,a5),(a6,a7,a8)) :: mergeT (a.drop (i+1)) (b.drop j))=M):=by show _=_;rw [←HM2.out,HSJ.out hlt9]
      have HJL:Hid (j≤b.length):=Nat.le_of_lt HJB.out;clear hlt9 HTJ HSJ HM2 HF2;obtain ⟨g,cap2,w3,r3,o3,v3,_⟩:=O2.out.app1 (Nat.le_trans U2.out.size (Nat.le_refl _)) ((a0,a1,a2),(a3,a4,a5),(a6,a7,a8)) (by rw [HLN.out];have:=HI.out;have:=HJL.out;have:=HAL.out;have:=HBL.out;omega);rw [HLN.out] at r3 o3;have R3:=Lib.hid r3;have O3:=Lib.hid o3;have V3:=Lib.hid v3;have HV:Hid (∀k,k<w.heap.size→u5.ownBlock=some k→noBlk k):=fun k hk e=>absurd hk (by have:=(O2.out.blk e).1;omega);have U3:=Lib.hid (U2.out.then V3.out HV.out);clear r3 o3 v3;obtain ⟨g0,g1,g2,g3,g4,g5,g6,g7,g8⟩:=triAt9 (HF1.out.keep U2.out);go_wp2_with (at_builtin;refine wpList_append_run rfl _ _ _ rfl rfl rfl R3.out ?_)
      refine ⟨⟨i+1,j,acc++[((a0,a1,a2),(a3,a4,a5),(a6,a7,a8))],by push_cast;rfl,rfl,by have:=HI.out;omega,HJL.out,by rw [List.length_append,HLN.out];simp only [List.length_cons,List.length_nil];omega,?_,?_,U3.out⟩,?_⟩
      ·have h3:=O3.out;have e:i+1+j=i+j+1:=by omega
       exact h3
      ·rw [List.append_assoc];exact HMS.out
      ·simp only [intOf];have:=HI.out;omega
     ·have HMS:Hid (acc++(((b0,b1,b2),(b3,b4,b5),(b6,b7,b8)) :: mergeT (a.drop i) (b.drop (j+1)))=M):=by show _=_;rw [←HM2.out,HTJ.out hlt9]
      clear hlt9 HTJ HSJ HM2;obtain ⟨g,cap2,w3,r3,o3,v3,_⟩:=O2.out.app1 (Nat.le_trans U2.out.size (Nat.le_refl _)) ((b0,b1,b2),(b3,b4,b5),(b6,b7,b8)) (by rw [HLN.out];have:=HI.out;have:=HJB.out;have:=HAL.out;have:=HBL.out;omega);rw [HLN.out] at r3 o3;have R3:=Lib.hid r3;have O3:=Lib.hid o3;have V3:=Lib.hid v3;have HV:Hid (∀k,k<w.heap.size→u5.ownBlock=some k→noBlk k):=fun k hk e=>absurd hk (by have:=(O2.out.blk e).1;omega);have U3:=Lib.hid (U2.out.then V3.out HV.out);clear r3 o3 v3;obtain ⟨g0,g1,g2,g3,g4,g5,g6,g7,g8⟩:=triAt9 HF2.out;go_wp2_with (at_builtin;refine wpList_append_run rfl _ _ _ rfl rfl rfl R3.out ?_)
      refine ⟨⟨j+1,acc++[((b0,b1,b2),(b3,b4,b5),(b6,b7,b8))],by push_cast;rfl,HJB.out,by rw [List.length_append,HLN.out];rfl,?_,?_,U3.out⟩,?_⟩
      ·exact O3.out
      ·rw [List.append_assoc];exact HMS.out
      ·simp only [intOf];have:=HJB.out;omega
    ·obtain rfl:j=b.length:=by omega
     have HMS:Hid (acc++(((a0,a1,a2),(a3,a4,a5),(a6,a7,a8)) :: mergeT (a.drop (i+1)) (b.drop b.length))=M):=by show _=_;rw [←HM2.out,HSK.out b.length (fun h=>absurd h (Nat.lt_irrefl _))]
     have HJL:Hid (b.length≤b.length):=Nat.le_refl _;have U2:=HU;have O2:=HO;clear HM2 HU HO;obtain ⟨g,cap2,w3,r3,o3,v3,_⟩:=O2.out.app1 (Nat.le_trans U2.out.size (Nat.le_refl _)) ((a0,a1,a2),(a3,a4,a5),(a6,a7,a8)) (by rw [HLN.out];have:=HI.out;have:=HJL.out;have:=HAL.out;have:=HBL.out;omega);rw [HLN.out] at r3 o3;have R3:=Lib.hid r3;have O3:=Lib.hid o3;have V3:=Lib.hid v3;have HV:Hid (∀k,k<w.heap.size→u5.ownBlock=some k→noBlk k):=fun k hk e=>absurd hk (by have:=(O2.out.blk e).1;omega);have U3:=Lib.hid (U2.out.then V3.out HV.out);clear r3 o3 v3;obtain ⟨g0,g1,g2,g3,g4,g5,g6,g7,g8⟩:=triAt9 (HF1.out.keep U2.out);go_wp2_with (at_builtin;refine wpList_append_run rfl _ _ _ rfl rfl rfl R3.out ?_)
     refine ⟨⟨i+1,b.length,acc++[((a0,a1,a2),(a3,a4,a5),(a6,a7,a8))],by push_cast;rfl,rfl,by have:=HI.out;omega,HJL.out,by rw [List.length_append,HLN.out];simp only [List.length_cons,List.length_nil];omega,?_,?_,U3.out⟩,?_⟩
     ·have h3:=O3.out;have e:i+1+b.length=i+b.length+1:=by omega
      exact h3
     ·rw [List.append_assoc];exact HMS.out
     ·simp only [intOf];have:=HI.out;omega
  ·obtain rfl:i=a.length:=by omega
   have HMS:Hid (acc++b.drop j=M):=by show _=_;rw [←HM2.out,mergeT_end (Nat.le_refl _)]
   clear HM2;have hjn:(j:Int)≤1000000:=by have:=HJ.out;omega
   by_cases hjt:j<b.length
   ·obtain ⟨bb,ob,rfl,f2⟩:=HXB.out (by omega);have hjc:¬capb=j:=by have:=HCB.out;omega
    have hadd:(⟨bb,ob,none⟩:Addr).add (j*9)=⟨bb,ob+j*9,none⟩:=Addr.add_mid _ _ _;have hj1:(j:Int)≤(b.length:Int):=by omega
    have hj2:(b.length:Int)≤(capb:Int):=by have:=HCB.out;omega
    have hk9:kTri.k=9:=rfl;have hat:∀j' (h:j'<(b.drop j).length),kTri.At wr bb (ob+j*9+j'*kTri.k) (b.drop j)[j']:=fun j' h=>by
     rw [List.getElem_drop];have h2:=(f2 (j+j') (by rw [List.length_drop] at h;omega)).keep HU.out;rw [hk9] at h2 ⊢;rw [Nat.add_mul,←Nat.add_assoc] at h2;exact h2
    obtain ⟨g,cap2,w3,r3,o3,v3,_⟩:=HO.out.appN HU.out.size (c:=capb-j) (b.drop j) hat (by rw [List.length_drop,HLN.out];have:=HAL.out;have:=HBL.out;omega) (by rw [List.length_drop];omega);rw [List.length_drop] at r3 o3;rw [HMS.out] at o3;have R3:=Lib.hid r3;have O3:=Lib.hid o3;have U3:=Lib.hid (HU.out.then v3 (fun k hk e=>absurd hk (by have:=(HO.out.blk e).1;omega)));clear r3 o3 v3 hat f2 hk9;go_wp2_with (at_builtin;refine wpList_append_run rfl _ _ _ rfl rfl rfl R3.out ?_)
    go_ret
    exact ⟨_,rfl,O3.out,U3.out⟩
   ·obtain rfl:j=b.length:=by have:=HJ.out;omega
    have hj2:(b.length:Int)≤(capb:Int):=by have:=HCB.out;omega
    have hacc:acc=M:=by have:=HMS.out;rw [List.drop_length,List.append_nil] at this;exact this
    subst hacc;cases B with
    | none=>
     go_wp2_with (at_builtin;refine wpList_append_run rfl _ _ _ rfl rfl rfl (HO.out.app0 _ _) ?_)
     go_ret
     exact ⟨_,rfl,HO.out,HU.out⟩
    | some ad=>
     by_cases hc:capb=b.length
     ·go_wp2_with (at_builtin;refine wpList_append_run rfl _ _ _ rfl rfl rfl (HO.out.app0 _ _) ?_)
      go_ret
      exact ⟨_,rfl,HO.out,HU.out⟩
     ·go_wp2_with (at_builtin;refine wpList_append_run rfl _ _ _ rfl rfl rfl (HO.out.app0 _ _) ?_)
      go_ret
      exact ⟨_,rfl,HO.out,HU.out⟩
end Go.Proofs.YtcikldoaidmnhaaGreatDoor
namespace Go.Proofs.YtcikldoaidmnhaaGreatDoor
open Go Go.RowKit Pk
set_option maxRecDepth 100000
set_option maxHeartbeats 2000000 in
theorem hSort_any:∀(n:Nat) (va:Value) (l:List Tri),l.length≤n→l.length≤1000000→∀w:World,kTri.Rd w va l →
  Calls Tryz.prog 69 #[va] w fun en w'=>∃v,en=.returned v∧kTri.Rd w' v (l.mergeSort triLe)∧Upd noBlk w w'
 | n,va,l,hn,hl,w,h=>by
  by_cases h2:l.length<2
  ·have hs:=sort_few l h2;rw [hs];have HR:=Lib.hid h;obtain ⟨A,cap,rfl,_,_⟩:=id h;have h2':(l.length:Int)<2:=by omega
   clear h hs h2 hl hn;go_enter Tryz.func69,Tryz.ntmps69
   go_wp2_with fail
   go_ret
   exact ⟨_,rfl,HR.out,Upd.refl _ _⟩
  ·obtain ⟨m,rfl⟩:∃m,n=m+1:=⟨n-1,by omega⟩;have hs:=sort_half l;obtain ⟨hf,hhf⟩:∃hf,hf=l.length / 2:=⟨_,rfl⟩;rw [←hhf] at hs;have HIH:=fun va l' hl' hl2 W hW=>Lib.hid (hSort_any m va l' hl' hl2 W hW);obtain ⟨M,hM⟩:∃M,M=l.mergeSort triLe:=⟨_,rfl⟩;rw [←hM] at hs;rw [←hM];have HS:=Lib.hid hs;obtain ⟨A,cap,rfl,hc,hx⟩:=h;obtain ⟨b,off,rfl,f1⟩:=hx (by omega);have hk9:kTri.k=9:=rfl;have HT:Hid (kTri.Rd w (.slice (some ⟨b,off,none⟩) hf cap) (l.take hf)):=by
    refine ⟨_,cap,by rw [List.length_take,Nat.min_eq_left (by omega)],by rw [List.length_take];omega,fun _=>⟨b,off,rfl,fun j hj=>?_⟩⟩;rw [List.getElem_take];exact f1 j (by rw [List.length_take] at hj;omega)
   have HD:Hid (kTri.Rd w (.slice (some ⟨b,off+hf*9,none⟩) (l.length-hf) (cap-hf)) (l.drop hf)):=by
    refine ⟨_,cap-hf,by rw [List.length_drop],by rw [List.length_drop];omega,fun _=>⟨b,off+hf*9,rfl,fun j hj=>?_⟩⟩;rw [List.getElem_drop];have h3:=f1 (hf+j) (by rw [List.length_drop] at hj;omega);rw [hk9] at h3 ⊢;rw [Nat.add_mul,←Nat.add_assoc] at h3;exact h3
   have H1:=HIH (.slice (some ⟨b,off,none⟩) hf cap) (l.take hf) (by rw [List.length_take];omega) (by rw [List.length_take];omega);have H2:=HIH (.slice (some ⟨b,off+hf*9,none⟩) (l.length-hf) (cap-hf)) (l.drop hf) (by rw [List.length_drop];omega) (by rw [List.length_drop];omega);have HMG:Hid (∀va vb W,kTri.Rd W va ((l.take hf).mergeSort triLe)→kTri.Rd W vb ((l.drop hf).mergeSort triLe)→Calls Tryz.prog 118 #[va,vb] W fun en w'=>∃v,en=.returned v∧kTri.Own W.heap.size w' v M∧Upd noBlk W w'):=fun va vb W h1 h2=>by
    have:=hMerge_any va vb _ _ (by rw [List.length_mergeSort,List.length_take];omega) (by rw [List.length_mergeSort,List.length_drop];omega) W h1 h2;rw [hs] at this;exact this
   have h2':¬(l.length:Int)<2:=by omega
   have hq:(l.length:Int).tdiv 2=(hf:Int):=by rw [Int.tdiv_eq_ediv_of_nonneg (by omega)];omega
   have hq2:wrap64 ((l.length:Int) / 2)=(hf:Int):=by unfold wrap64;omega
   have hq3:wrap64 (hf:Int)=(hf:Int):=by unfold wrap64;omega
   have hc1:¬cap=hf:=by omega
   have hc2:(hf:Int)≤(cap:Int):=by omega
   have hc3:(hf:Int)≤(l.length:Int):=by omega
   have hc4:(l.length:Int)≤(cap:Int):=by omega
   have hadd:(⟨b,off,none⟩:Addr).add (hf*9)=⟨b,off+hf*9,none⟩:=Addr.add_mid _ _ _;clear HIH hs hhf hx f1 hk9 hM hl hn h2;go_enter Tryz.func69,Tryz.ntmps69
   go_upto_region 4 with fail
   refine wp_region_tree 9 (OT.sures [0,1,4,5,2,6] (.run 3 (.run 7 (.run 8 .nil)))) (fun _=>True) (by kernel_rfl) (by kernel_rfl) (fun c a d v w h=>by cases d<;>exact h) trivial ?_
   simp only [OT.sures]
   iterate 6 (apply wpT_sure rfl rfl;focus (intro w' hw';go_simp;rfl))
   refine wpT_run _ (fun _ h=>h) rfl (fun K' hK=>?_);go_simp
   refine (H1 _ (HT.out.keep (Upd.refl noBlk w).drew)).out.mono ?_;rintro e w1 ⟨v1,rfl,hr1,hu1⟩;have HR1:=Lib.hid hr1;have U1:Hid (Upd noBlk w w1):=(Upd.refl noBlk w).drew.trans hu1;refine hK _ _ ⟨trivial,?_⟩;clear hK K' hr1 hu1 H1 HT;refine wpT_run _ (fun _ h=>h) rfl (fun K' hK=>?_);go_simp
   refine (H2 _ (HD.out.keep U1.out)).out.mono ?_;rintro e w2 ⟨v2,rfl,hr2,hu2⟩;have HR2:=Lib.hid hr2;have HR1:=Lib.hid (HR1.out.keep hu2);have U2:=Lib.hid (U1.out.trans hu2);refine hK _ _ ⟨trivial,?_⟩;clear hK K' hr2 hu2 H2 HD;refine wpT_run _ (fun _ h=>h) rfl (fun K' hK=>?_);go_simp
   refine (HMG.out v1 v2 w2 HR1.out HR2.out).mono ?_;rintro e w3 ⟨v3,rfl,ho,hu3⟩;have HO:=Lib.hid ho;have U3:=Lib.hid (U2.out.trans hu3);refine hK _ _ ⟨trivial,?_⟩;clear hK K' ho hu3 HMG;refine wpT_nil ?_;go_wp2_with fail
   go_ret
   exact ⟨_,rfl,HO.out.rd,U3.out⟩
set_option maxHeartbeats 2000000 in
theorem hCanon_any (v:Value) (l:List Tri) (hn:l.length≤1000000) (w:World) (h:kTri.Rd w v l) :
  Calls Tryz.prog 21 #[v] w fun en w'=>∃v',en=.returned v'∧kTri.Rd w' v' (canon l)∧Upd noBlk w w':=by
 have hr:=fun t W=>Lib.hid (hRotate_any t W);obtain ⟨A,cap,rfl,hcap,hx⟩:=h;have HX:=Lib.hid hx;have hn':(l.length:Int)≤1000000:=by omega
 have HLE:Hid (l.length≤1000000):=hn;clear hx hn;go_enter Tryz.func21,Tryz.ntmps21
 go_wp2_with fail
 go_loopw [3,4] (fun o i wr=>∃k:Nat,i=.int .i64 k∧k≤l.length∧kTri.Own w.heap.size wr o ((l.take k).map rot)∧Upd noBlk w wr) (fun _ i _=>l.length-(intOf i).toNat)
 case atStart=>exact ⟨0,rfl,Nat.zero_le _,Kd.Own.nil _ _ _,Upd.refl _ _⟩
 case round=>
  obtain ⟨k,rfl,hk,ho,hu⟩:=hrel;have HO:=Lib.hid ho;have HU:=Lib.hid hu;clear ho hu;by_cases hlt:k<l.length
  ·have hlt':(k:Int)<(l.length:Int):=by omega
   obtain ⟨b,off,rfl,f1⟩:=HX.out (by omega);obtain ⟨g0,g1,g2,g3,g4,g5,g6,g7,g8⟩:=triAt9 ((f1 k hlt).keep HU.out);have hk9:kTri.k=9:=rfl;rw [hk9] at g0 g1 g2 g3 g4 g5 g6 g7 g8;have HT:Hid ((l.take (k+1)).map rot=(l.take k).map rot++[rot l[k]]):=by show _=_;rw [List.take_succ_eq_append_getElem hlt,List.map_append];rfl
   have HL:Hid (((l.take k).map rot).length=k):=by show _=_;rw [List.length_map,List.length_take];omega
   have HK:Hid (k<l.length):=hlt;clear f1 hk9;have hrt:=hr l[k];generalize l[k]=tk at *;obtain ⟨⟨a0,a1,a2⟩,⟨a3,a4,a5⟩,⟨a6,a7,a8⟩⟩:=tk;simp only at g0 g1 g2 g3 g4 g5 g6 g7 g8;have hws:IntKind.i64.wrap ((k:Int)+1)=(k:Int)+1:=wrapN (by omega) (by omega);go_wp2_with fail
   refine (hrt _).out.mono ?_;rintro e w2 ⟨rfl,u2⟩;have U2:=Lib.hid (HU.out.trans u2);have O2:=Lib.hid (HO.out.upd u2);clear u2;obtain ⟨g,cap2,w3,r3,o3,v3,_⟩:=O2.out.app1 (Nat.le_trans U2.out.size (Nat.le_refl _)) (rot ((a0,a1,a2),(a3,a4,a5),a6,a7,a8)) (by have:=HL.out;have:=HK.out;have:=HLE.out;omega);rw [HL.out] at r3 o3;have R3:=Lib.hid r3;have O3:=Lib.hid o3;have V3:=Lib.hid v3;have HV:Hid (∀i,i<w.heap.size→u3.ownBlock=some i→noBlk i):=fun i hi e=>absurd hi (by have:=(O2.out.blk e).1;omega);clear r3 o3 v3;generalize rot ((a0,a1,a2),(a3,a4,a5),a6,a7,a8)=rt at *;obtain ⟨⟨c0,c1,c2⟩,⟨c3,c4,c5⟩,⟨c6,c7,c8⟩⟩:=rt;unfold triV triC;go_wp2_with (at_builtin;refine wpList_append_run rfl _ _ _ rfl rfl rfl R3.out ?_)
   refine ⟨⟨k+1,by push_cast;rfl,HK.out,?_,U2.out.then V3.out HV.out⟩,by simp only [intOf];have:=HK.out;omega⟩;rw [HT.out];exact O3.out
  ·obtain rfl:k=l.length:=by omega
   have hl2:((l.take l.length).map rot)=l.map rot:=by rw [List.take_length]
   have hown:=HO.out;rw [hl2] at hown;have HS:=Lib.hid (hSort_any l.length u3 (l.map rot) (by rw [List.length_map];exact Nat.le_refl _) (by rw [List.length_map];exact HLE.out) wr hown.rd);clear hown hl2;go_wp2_with fail
   refine HS.out.mono ?_;rintro e w2 ⟨v2,rfl,r2,u2⟩;have R2:=Lib.hid r2;have U2:=Lib.hid (HU.out.trans u2);clear r2 u2 HS;go_wp2_with fail
   go_ret
   exact ⟨_,rfl,R2.out,U2.out⟩
set_option maxHeartbeats 1000000 in
theorem hSame_any (va vb:Value) (a b:List Tri) (ha:a.length≤1000000) (hb:b.length≤1000000) (w:World) (hra:kTri.Rd w va a) (hrb:kTri.Rd w vb b) :
  Calls Tryz.prog 39 #[va,vb] w fun en w'=>en=.returned (.bool (decide (canon a=canon b)))∧Upd noBlk w w':=by
 have H1:=Lib.hid (hCanon_any va a ha w hra);have H2:=fun W hW=>Lib.hid (hCanon_any vb b hb W hW);have H3:=fun v v' W h1 h2=>Lib.hid (hEqual_any v v' (canon a) (canon b) (by rw [canon_length];exact ha) W h1 h2);have HRB:=Lib.hid hrb;clear hra hrb;go_enter Tryz.func39,Tryz.ntmps39
 go_wp2_with fail
 refine H1.out.mono ?_;rintro e w1 ⟨v1,rfl,r1,u1⟩;have R1:=Lib.hid r1;have U1:=Lib.hid u1;have H2':=H2 w1 (HRB.out.keep u1);clear r1 u1 H1 H2;go_wp2_with fail
 refine H2'.out.mono ?_;rintro e w2 ⟨v2,rfl,r2,u2⟩;have H3':=H3 v1 v2 w2 (R1.out.keep u2) r2;have U2:=Lib.hid (U1.out.trans u2);clear r2 u2 H2' H3;go_wp2_with fail
 refine H3'.out.mono ?_;rintro e w3 ⟨rfl,u3⟩;have U3:=Lib.hid (U2.out.trans u3);clear u3 H3';go_wp2_with fail
 go_ret
 exact ⟨rfl,U3.out⟩
end Go.Proofs.YtcikldoaidmnhaaGreatDoor
namespace Go.Proofs.YtcikldoaidmnhaaGreatDoor
open Go Go.RowKit Pk
set_option maxRecDepth 100000
theorem edgesL_snoc (l:List Tri) (t:Tri):edgesL (l++[t])=edgesL l++edgesT t:=by unfold edgesL;rw [List.flatMap_append];simp
theorem nodup_snoc (E:List Ed) (e:Ed):decide (E++[e]).Nodup=(decide E.Nodup&&!decide (e∈E)):=by
 rw [Bool.eq_iff_iff,decide_eq_true_eq,Bool.and_eq_true,decide_eq_true_eq,Bool.not_eq_true',decide_eq_false_iff_not,List.nodup_append];constructor
 ·rintro ⟨h1,_,h3⟩;exact ⟨h1,fun h=>h3 e h e (by simp) rfl⟩
 ·rintro ⟨h1,h2⟩;exact ⟨h1,by simp,fun a ha b hb hab=>by simp at hb;subst hb;subst hab;exact h2 ha⟩
set_option maxHeartbeats 4000000 in
theorem mDirected_any (v:Value) (l:List Tri) (hn:l.length≤100000) (hok:∀t,t∈l→okT t) (w:World) (h:kTri.Rd w v l) :
  Calls Tryz.prog 158 #[v] w fun en w'=>en=.returned (.tuple #[.map (some w.heap.size),.bool (decide (edgesL l).Nodup)])∧kitSet.At w' w.heap.size (3*l.length) (setF (edgesL l))∧Upd noBlk w w':=by
 have hr:=fun t W=>Lib.hid (mEdges_any t W);have ha:=fun n E e he hn W h=>Lib.hid (mAdd_any w.heap.size n E e he hn W h);obtain ⟨A,cap,rfl,hcap,hx⟩:=h;have HX:=Lib.hid hx;have HOK:=Lib.hid hok;have hn':(l.length:Int)≤100000:=by omega
 have hmm:=@run_makeMap Tryz.prog;have HM0:Hid (kitSet.At (w.alloc (.map #[] 0)) w.heap.size 0 (setF (edgesL (l.take 0)))):=MapKit.At.made kitSet w;have HU0:Hid (Upd noBlk w (w.alloc (.map #[] 0))):=(Upd.refl _ _).alloc _;clear hx hok;go_enter Tryz.func158,Tryz.ntmps158
 go_wp2_with fail
 go_loopw [5,13] (fun fv i wr=>∃k:Nat,i=.int .i64 k∧k≤l.length∧fv=.bool (decide (edgesL (l.take k)).Nodup)∧kitSet.At wr w.heap.size (3*k) (setF (edgesL (l.take k)))∧Upd noBlk w wr) (fun _ i _=>l.length-(intOf i).toNat)
 case atStart=>exact ⟨0,rfl,Nat.zero_le _,rfl,HM0.out,HU0.out⟩
 case round=>
  obtain ⟨k,rfl,hk,rfl,hm,hu⟩:=hrel;have HM:=Lib.hid hm;have HU:=Lib.hid hu;clear hm hu hmm;by_cases hlt:k<l.length
  ·have hlt':(k:Int)<(l.length:Int):=by omega
   obtain ⟨b,off,rfl,f1⟩:=HX.out (by omega);obtain ⟨g0,g1,g2,g3,g4,g5,g6,g7,g8⟩:=triAt9 ((f1 k hlt).keep HU.out);have hk9:kTri.k=9:=rfl;rw [hk9] at g0 g1 g2 g3 g4 g5 g6 g7 g8;have HT:Hid (edgesL (l.take (k+1))=edgesL (l.take k)++edgesT l[k]):=by show _=_;rw [List.take_succ_eq_append_getElem hlt,edgesL_snoc]
   have HKT:=Lib.hid (HOK.out l[k] (List.getElem_mem hlt));clear f1 hk9;have hrt:=hr l[k];generalize l[k]=tk at *;obtain ⟨⟨a0,a1,a2⟩,⟨a3,a4,a5⟩,⟨a6,a7,a8⟩⟩:=tk;simp only at g0 g1 g2 g3 g4 g5 g6 g7 g8;obtain ⟨E,hE⟩:∃E,E=edgesL (l.take k):=⟨_,rfl⟩;rw [←hE] at HM HT;rw [←hE];have hET:edgesT ((a0,a1,a2),(a3,a4,a5),a6,a7,a8)=[((a0,a1,a2),(a3,a4,a5)),((a3,a4,a5),(a6,a7,a8)),((a6,a7,a8),(a0,a1,a2))]:=rfl;rw [hET] at HT;clear hE hET;have ix0:∀W:World,(Instr.index 259 (.agg (edges3C ((a0,a1,a2),(a3,a4,a5),a6,a7,a8))) (.int .i64 0)).run Tryz.prog W=.ok (edV ((a0,a1,a2),(a3,a4,a5))) W:=fun W=>by kernel_rfl
   have ix1:∀W:World,(Instr.index 259 (.agg (edges3C ((a0,a1,a2),(a3,a4,a5),a6,a7,a8))) (.int .i64 1)).run Tryz.prog W=.ok (edV ((a3,a4,a5),(a6,a7,a8))) W:=fun W=>by kernel_rfl
   have ix2:∀W:World,(Instr.index 259 (.agg (edges3C ((a0,a1,a2),(a3,a4,a5),a6,a7,a8))) (.int .i64 2)).run Tryz.prog W=.ok (edV ((a6,a7,a8),(a0,a1,a2))) W:=fun W=>by kernel_rfl
   unfold edV at ix0 ix1 ix2;go_wp2_with fail
   refine (hrt _).out.mono ?_;rintro e w2 ⟨rfl,u2⟩;have V2:=Lib.hid (((Upd.refl noBlk wr).alloc (.cells #[.int .i64 a0,.int .i64 a1,.int .i64 a2,.int .i64 a3,.int .i64 a4,.int .i64 a5,.int .i64 a6,.int .i64 a7,.int .i64 a8] 45)).trans u2.up);have U2:=Lib.hid (HU.out.trans V2.out);have M2:Hid (kitSet.At w2 w.heap.size (3*k+0) (setF (E++([((a0,a1,a2),(a3,a4,a5)),((a3,a4,a5),(a6,a7,a8)),((a6,a7,a8),(a0,a1,a2))]:List Ed).take 0))):=by
    have:=HM.out.keep V2.out;rw [List.take_zero,List.append_nil];exact this
   clear u2;go_wp2_with fail
   go_loopw [5,19] (fun fv i wi=>∃j:Nat,i=.int .i64 j∧j≤3∧fv=.bool (decide (E++([((a0,a1,a2),(a3,a4,a5)),((a3,a4,a5),(a6,a7,a8)),((a6,a7,a8),(a0,a1,a2))]:List Ed).take j).Nodup)∧kitSet.At wi w.heap.size (3*k+j) (setF (E++([((a0,a1,a2),(a3,a4,a5)),((a3,a4,a5),(a6,a7,a8)),((a6,a7,a8),(a0,a1,a2))]:List Ed).take j))∧Upd noBlk w wi) (fun _ i _=>3-(intOf i).toNat)
   case atStart=>exact ⟨0,rfl,Nat.zero_le _,by rw [List.take_zero,List.append_nil],M2.out,U2.out⟩
   case round=>
    obtain ⟨j,rfl,hj,hfv,hmj,huj⟩:=hrel;clear M2 U2 V2;by_cases hj3:j<3
    ·rcases (by omega:j=0∨j=1∨j=2) with rfl | rfl | rfl
     ·have HO3:Hid (okE ((a0,a1,a2),(a3,a4,a5))):=by have:=HKT.out;exact ⟨this.1,this.2.1⟩
      have HMJ:Hid (kitSet.At wr w.heap.size (3*k+0) (setF (E++[]))):=hmj;have HA:Hid (∀W,Upd noBlk wr W→Calls Tryz.prog 179 #[.map (some w.heap.size),edV ((a0,a1,a2),(a3,a4,a5))] W fun en w'=>en=.returned (.bool (!decide (((a0,a1,a2),(a3,a4,a5))∈E++[])))∧kitSet.At w' w.heap.size (3*k+0+1) (setF (E++[]++[((a0,a1,a2),(a3,a4,a5))]))∧Upd (fun j=>j=w.heap.size) W w'):=fun W hW=>(ha (3*k+0) (E++[]) ((a0,a1,a2),(a3,a4,a5)) HO3.out (by omega) W (HMJ.out.keep hW)).out;have HND:=Lib.hid (nodup_snoc (E++[]) ((a0,a1,a2),(a3,a4,a5)));have happ:E++[]++[((a0,a1,a2),(a3,a4,a5))]=E++[((a0,a1,a2),(a3,a4,a5))]:=by simp
      rw [happ] at HA HND;have HUJ:=Lib.hid huj;clear hmj huj happ hrt HM;obtain ⟨F,hF⟩:∃F,F=decide (E++[]:List Ed).Nodup:=⟨_,rfl⟩;rw [←hF] at HND;obtain rfl:u5=.bool F:=by rw [hF];exact hfv
      clear hF hfv;unfold edV at HA;have ixj:=ix0;clear ix0 ix1 ix2;go_wp2_with fail
      refine (HA.out _ ((Upd.refl noBlk wr).alloc _)).mono ?_;rintro e w5 ⟨rfl,m5,v5⟩;have M5:=Lib.hid m5;have U5:=Lib.hid ((HUJ.out.alloc (.cells #[.int .i64 a0,.int .i64 a1,.int .i64 a2,.int .i64 a3,.int .i64 a4,.int .i64 a5] 258)).then v5 (fun i hi e=>by have e':i=w.heap.size:=e;omega));clear m5 v5 HA;rcases hd:decide (((a0,a1,a2),(a3,a4,a5))∈E++[]) with _ | _
      ·rw [hd] at HND;go_wp2_with fail
       refine ⟨⟨1,rfl,by omega,?_,M5.out,U5.out⟩,by simp [intOf]⟩;show _=Value.bool (decide (E++[((a0,a1,a2),(a3,a4,a5))]:List Ed).Nodup);rw [HND.out];simp
      ·rw [hd] at HND;go_wp2_with fail
       refine ⟨⟨1,rfl,by omega,?_,M5.out,U5.out⟩,by simp [intOf]⟩;show _=Value.bool (decide (E++[((a0,a1,a2),(a3,a4,a5))]:List Ed).Nodup);rw [HND.out];simp
     ·have HO3:Hid (okE ((a3,a4,a5),(a6,a7,a8))):=by have:=HKT.out;exact ⟨this.2.1,this.2.2⟩
      have HMJ:Hid (kitSet.At wr w.heap.size (3*k+1) (setF (E++[((a0,a1,a2),(a3,a4,a5))]))):=hmj;have HA:Hid (∀W,Upd noBlk wr W→Calls Tryz.prog 179 #[.map (some w.heap.size),edV ((a3,a4,a5),(a6,a7,a8))] W fun en w'=>en=.returned (.bool (!decide (((a3,a4,a5),(a6,a7,a8))∈E++[((a0,a1,a2),(a3,a4,a5))])))∧kitSet.At w' w.heap.size (3*k+1+1) (setF (E++[((a0,a1,a2),(a3,a4,a5))]++[((a3,a4,a5),(a6,a7,a8))]))∧Upd (fun j=>j=w.heap.size) W w'):=fun W hW=>(ha (3*k+1) (E++[((a0,a1,a2),(a3,a4,a5))]) ((a3,a4,a5),(a6,a7,a8)) HO3.out (by omega) W (HMJ.out.keep hW)).out;have HND:=Lib.hid (nodup_snoc (E++[((a0,a1,a2),(a3,a4,a5))]) ((a3,a4,a5),(a6,a7,a8)));have happ:E++[((a0,a1,a2),(a3,a4,a5))]++[((a3,a4,a5),(a6,a7,a8))]=E++[((a0,a1,a2),(a3,a4,a5)),((a3,a4,a5),(a6,a7,a8))]:=by simp
      rw [happ] at HA HND;have HUJ:=Lib.hid huj;clear hmj huj happ hrt HM;obtain ⟨F,hF⟩:∃F,F=decide (E++[((a0,a1,a2),(a3,a4,a5))]:List Ed).Nodup:=⟨_,rfl⟩;rw [←hF] at HND;obtain rfl:u5=.bool F:=by rw [hF];exact hfv
      clear hF hfv;unfold edV at HA;have ixj:=ix1;clear ix0 ix1 ix2;go_wp2_with fail
      refine (HA.out _ ((Upd.refl noBlk wr).alloc _)).mono ?_;rintro e w5 ⟨rfl,m5,v5⟩;have M5:=Lib.hid m5;have U5:=Lib.hid ((HUJ.out.alloc (.cells #[.int .i64 a3,.int .i64 a4,.int .i64 a5,.int .i64 a6,.int .i64 a7,.int .i64 a8] 258)).then v5 (fun i hi e=>by have e':i=w.heap.size:=e;omega));clear m5 v5 HA;rcases hd:decide (((a3,a4,a5),(a6,a7,a8))∈E++[((a0,a1,a2),(a3,a4,a5))]) with _ | _
      ·rw [hd] at HND;go_wp2_with fail
       refine ⟨⟨2,rfl,by omega,?_,M5.out,U5.out⟩,by simp [intOf]⟩;show _=Value.bool (decide (E++[((a0,a1,a2),(a3,a4,a5)),((a3,a4,a5),(a6,a7,a8))]:List Ed).Nodup);rw [HND.out];simp
      ·rw [hd] at HND;go_wp2_with fail
       refine ⟨⟨2,rfl,by omega,?_,M5.out,U5.out⟩,by simp [intOf]⟩;show _=Value.bool (decide (E++[((a0,a1,a2),(a3,a4,a5)),((a3,a4,a5),(a6,a7,a8))]:List Ed).Nodup);rw [HND.out];simp
     ·have HO3:Hid (okE ((a6,a7,a8),(a0,a1,a2))):=by have:=HKT.out;exact ⟨this.2.2,this.1⟩
      have HMJ:Hid (kitSet.At wr w.heap.size (3*k+2) (setF (E++[((a0,a1,a2),(a3,a4,a5)),((a3,a4,a5),(a6,a7,a8))]))):=hmj;have HA:Hid (∀W,Upd noBlk wr W→Calls Tryz.prog 179 #[.map (some w.heap.size),edV ((a6,a7,a8),(a0,a1,a2))] W fun en w'=>en=.returned (.bool (!decide (((a6,a7,a8),(a0,a1,a2))∈E++[((a0,a1,a2),(a3,a4,a5)),((a3,a4,a5),(a6,a7,a8))])))∧kitSet.At w' w.heap.size (3*k+2+1) (setF (E++[((a0,a1,a2),(a3,a4,a5)),((a3,a4,a5),(a6,a7,a8))]++[((a6,a7,a8),(a0,a1,a2))]))∧Upd (fun j=>j=w.heap.size) W w'):=fun W hW=>(ha (3*k+2) (E++[((a0,a1,a2),(a3,a4,a5)),((a3,a4,a5),(a6,a7,a8))]) ((a6,a7,a8),(a0,a1,a2)) HO3.out (by omega) W (HMJ.out.keep hW)).out;have HND:=Lib.hid (nodup_snoc (E++[((a0,a1,a2),(a3,a4,a5)),((a3,a4,a5),(a6,a7,a8))]) ((a6,a7,a8),(a0,a1,a2)));have happ:E++[((a0,a1,a2),(a3,a4,a5)),((a3,a4,a5),(a6,a7,a8))]++[((a6,a7,a8),(a0,a1,a2))]=E++[((a0,a1,a2),(a3,a4,a5)),((a3,a4,a5),(a6,a7,a8)),((a6,a7,a8),(a0,a1,a2))]:=by simp
      rw [happ] at HA HND;have HUJ:=Lib.hid huj;clear hmj huj happ hrt HM;obtain ⟨F,hF⟩:∃F,F=decide (E++[((a0,a1,a2),(a3,a4,a5)),((a3,a4,a5),(a6,a7,a8))]:List Ed).Nodup:=⟨_,rfl⟩;rw [←hF] at HND;obtain rfl:u5=.bool F:=by rw [hF];exact hfv
      clear hF hfv;unfold edV at HA;have ixj:=ix2;clear ix0 ix1 ix2;go_wp2_with fail
      refine (HA.out _ ((Upd.refl noBlk wr).alloc _)).mono ?_;rintro e w5 ⟨rfl,m5,v5⟩;have M5:=Lib.hid m5;have U5:=Lib.hid ((HUJ.out.alloc (.cells #[.int .i64 a6,.int .i64 a7,.int .i64 a8,.int .i64 a0,.int .i64 a1,.int .i64 a2] 258)).then v5 (fun i hi e=>by have e':i=w.heap.size:=e;omega));clear m5 v5 HA;rcases hd:decide (((a6,a7,a8),(a0,a1,a2))∈E++[((a0,a1,a2),(a3,a4,a5)),((a3,a4,a5),(a6,a7,a8))]) with _ | _
      ·rw [hd] at HND;go_wp2_with fail
       refine ⟨⟨3,rfl,by omega,?_,M5.out,U5.out⟩,by simp [intOf]⟩;show _=Value.bool (decide (E++[((a0,a1,a2),(a3,a4,a5)),((a3,a4,a5),(a6,a7,a8)),((a6,a7,a8),(a0,a1,a2))]:List Ed).Nodup);rw [HND.out];simp
      ·rw [hd] at HND;go_wp2_with fail
       refine ⟨⟨3,rfl,by omega,?_,M5.out,U5.out⟩,by simp [intOf]⟩;show _=Value.bool (decide (E++[((a0,a1,a2),(a3,a4,a5)),((a3,a4,a5),(a6,a7,a8)),((a6,a7,a8),(a0,a1,a2))]:List Ed).Nodup);rw [HND.out];simp
    ·obtain rfl:j=3:=by omega
     have HMJ:Hid (kitSet.At wr w.heap.size (3*(k+1)) (setF (edgesL (l.take (k+1))))):=by rw [HT.out];exact hmj
     have HUJ:=Lib.hid huj;obtain ⟨F,hF⟩:∃F,F=decide (edgesL (l.take (k+1))).Nodup:=⟨_,rfl⟩;obtain rfl:u5=.bool F:=by rw [hF,HT.out];exact hfv
     have HFF:=Lib.hid hF;clear hmj huj hfv hF;go_wp2_with fail
     refine ⟨⟨k+1,by go_num,hlt,by rw [HFF.out],HMJ.out,HUJ.out⟩,by simp [intOf];omega⟩
  ·obtain rfl:k=l.length:=by omega
   have HM2:=HM.out;rw [List.take_length] at HM2;have HM3:=Lib.hid HM2;clear HM2;go_wp2_with fail
   go_ret2
   refine ⟨?_,HM3.out,HU.out⟩;rw [List.take_length];rfl
end Go.Proofs.YtcikldoaidmnhaaGreatDoor
namespace Go.Proofs.YtcikldoaidmnhaaGreatDoor
open Go Go.RowKit Pk
set_option maxRecDepth 100000
set_option maxHeartbeats 4000000 in
theorem mCheck_any (v:Value) (l:List Tri) (hn:l.length≤100000) (hok:∀t,t∈l→okT t) (w:World) (h:kTri.Rd w v l) :
  Calls Tryz.prog 137 #[v,.bool true] w fun en w'=>en=.returned (.int .i64 (checkO l))∧Upd noBlk w w':=by
 have HD:=fun W hW=>Lib.hid (mDirected_any v l hn hok W (h.keep hW));have HPN:=fun hnd W hW=>Lib.hid (mPinched_any v l hn hok hnd W (h.keep hW));obtain ⟨A,cap,rfl,hcap,hx⟩:=h;have HX:=Lib.hid hx;have HOK:=Lib.hid hok;have hn':(l.length:Int)≤100000:=by omega
 have HDD:Hid (∀W,Upd noBlk w W→Calls Tryz.prog 158 #[.slice A l.length cap] W fun en w'=>en=.returned (.tuple #[.map (some W.heap.size),.bool (decide (edgesL l).Nodup)])∧kitSet.At w' W.heap.size (3*l.length) (setF (edgesL l))∧Upd noBlk W w'):=fun W hW=>(HD W hW).out;have HPP:Hid ((edgesL l).Nodup→∀W,Upd noBlk w W→Calls Tryz.prog 160 #[.slice A l.length cap] W fun en w'=>en=.returned (.bool (pinched l))∧Upd noBlk W w'):=fun hnd W hW=>(HPN hnd W hW).out;clear hx hok HD HPN;go_enter Tryz.func137,Tryz.ntmps137
 go_wp2_with fail
 go_loopw [11] (fun i wr=>∃k:Nat,i=.int .i64 k∧k≤l.length∧(∀t,t∈l.take k→flatT t=false)∧Upd noBlk w wr) (fun i _=>l.length-(intOf i).toNat)
 case atStart=>exact ⟨0,rfl,Nat.zero_le _,fun t ht=>(by cases ht),Upd.refl _ _⟩
 case round=>
  obtain ⟨k,rfl,hk,hf,hu⟩:=hrel;have HF:=Lib.hid hf;have HU:=Lib.hid hu;clear hf hu;by_cases hlt:k<l.length
  ·have hlt':(k:Int)<(l.length:Int):=by omega
   obtain ⟨b,off,rfl,f1⟩:=HX.out (by omega);obtain ⟨g0,g1,g2,g3,g4,g5,g6,g7,g8⟩:=triAt9 ((f1 k hlt).keep HU.out);have hk9:kTri.k=9:=rfl;rw [hk9] at g0 g1 g2 g3 g4 g5 g6 g7 g8;have HFN:Hid (flatT l[k]=false→∀t,t∈l.take (k+1)→flatT t=false):=fun h0 t ht=>by
    rw [List.take_succ_eq_append_getElem hlt] at ht;rcases List.mem_append.1 ht with ht | ht
    ·exact HF.out t ht
    ·rw [List.mem_singleton] at ht;rw [ht];exact h0
   have HFT:Hid (flatT l[k]=true→checkO l=20):=fun h0=>by
    unfold checkO;rw [if_pos (List.any_eq_true.2 ⟨l[k],List.getElem_mem hlt,h0⟩)]
   clear f1 hk9;generalize l[k]=tk at *;obtain ⟨⟨a0,a1,a2⟩,⟨a3,a4,a5⟩,⟨a6,a7,a8⟩⟩:=tk;simp only at g0 g1 g2 g3 g4 g5 g6 g7 g8;have HFN':Hid (¬((a0=a3∧a1=a4∧a2=a5)∨(a3=a6∧a4=a7∧a5=a8)∨(a6=a0∧a7=a1∧a8=a2))→∀t,t∈l.take (k+1)→flatT t=false):=fun h=>HFN.out (by unfold flatT;rw [decide_eq_false_iff_not];simpa only [Prod.mk.injEq] using h);have HFT':Hid ((a0=a3∧a1=a4∧a2=a5)∨(a3=a6∧a4=a7∧a5=a8)∨(a6=a0∧a7=a1∧a8=a2)→checkO l=20):=fun h=>HFT.out (by unfold flatT;rw [decide_eq_true_eq];simpa only [Prod.mk.injEq] using h);clear HFN HFT;go_wp2_with fail
   all_goals first
    | (go_ret;refine ⟨?_,HU.out.alloc _⟩;rw [HFT'.out (by omega)];rfl)
    | (refine ⟨⟨k+1,by go_num,hlt,HFN'.out (by omega),HU.out.alloc _⟩,by simp [intOf];omega⟩)
  ·obtain rfl:k=l.length:=by omega
   have hfl:¬l.any flatT=true:=by
    rw [List.any_eq_true];rintro ⟨t,h1,h2⟩;have:=HF.out t (by rw [List.take_length];exact h1);rw [h2] at this;cases this
   have HC0:Hid (¬(edgesL l).Nodup→checkO l=21):=fun h=>by unfold checkO;rw [if_neg hfl,if_pos h]
   have HC1:Hid ((edgesL l).Nodup→checkO l=if pinched l then 23 else 0):=fun h=>by unfold checkO;rw [if_neg hfl,if_neg (not_not_intro h)]
   have hd:=HDD.out wr HU.out;have HDC:=Lib.hid hd;clear hfl hd;by_cases hnd:(edgesL l).Nodup
   ·rw [decide_eq_true hnd] at HDC;go_wp2_with fail
    refine HDC.out.mono ?_;rintro e w2 ⟨rfl,_,u2⟩;have U2:=Lib.hid (HU.out.trans u2);have HP2:=Lib.hid (HPP.out hnd w2 U2.out);have HC2:=Lib.hid (HC1.out hnd);clear u2 hnd HDC;go_wp2_with fail
    refine HP2.out.mono ?_;rintro e w3 ⟨rfl,u3⟩;have U3:=Lib.hid (U2.out.trans u3);clear u3 HP2;rcases hp:pinched l with _ | _
    ·rw [hp] at HC2;go_wp2_with fail
     go_ret
     exact ⟨by rw [HC2.out];rfl,U3.out⟩
    ·rw [hp] at HC2;go_wp2_with fail
     go_ret
     exact ⟨by rw [HC2.out];rfl,U3.out⟩
   ·rw [decide_eq_false hnd] at HDC;have HC2:=Lib.hid (HC0.out hnd);clear hnd;go_wp2_with fail
    refine HDC.out.mono ?_;rintro e w2 ⟨rfl,_,u2⟩;have U2:=Lib.hid (HU.out.trans u2);clear u2 HDC;go_wp2_with fail
    go_ret
    exact ⟨by rw [HC2.out];rfl,U2.out⟩
theorem mCheckOpen_any (v:Value) (l:List Tri) (hn:l.length≤100000) (hok:∀t,t∈l→okT t) (w:World) (h:kTri.Rd w v l) :
  Calls Tryz.prog 92 #[v] w fun en w'=>en=.returned (.int .i64 (checkO l))∧Upd noBlk w w':=by
 have HC:=Lib.hid (mCheck_any v l hn hok w h);go_enter Tryz.func92,Tryz.ntmps92
 go_wp2_with fail
 refine HC.out.mono ?_;rintro e w2 ⟨rfl,u2⟩;have U2:=Lib.hid u2;clear u2 HC h hok;go_wp2_with fail
 go_ret
 exact ⟨rfl,U2.out⟩
end Go.Proofs.YtcikldoaidmnhaaGreatDoor
