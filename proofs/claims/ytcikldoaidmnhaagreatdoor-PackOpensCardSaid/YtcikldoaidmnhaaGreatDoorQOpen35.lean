/- Parts: A packet's length. No condition. A region that draws its order, walked whole along a tree of orders. No condition. Opening group packets, whatever their length; no string is a packet of two kinds. No condition. The group packet that fields determine. No condition. The law: OpenCluster agrees with the reference, and what it accepts is the packet of what it returns. No condition. Walks of the refere -/
import Derived.Test.YtcikldoaidmnhaaGreatDoorQOpen4
import Derived.Test.YtcikldoaidmnhaaGreatDoorQOpen5
import Derived.Test.YtcikldoaidmnhaaGreatDoorQOpen19
import Derived.Test.YtcikldoaidmnhaaGreatDoorQOpen20
import Derived.Test.YtcikldoaidmnhaaGreatDoorQOpen21
import Derived.Test.YtcikldoaidmnhaaGreatDoorQOpen22
import Derived.Test.YtcikldoaidmnhaaGreatDoorQOpen26
import Derived.Test.YtcikldoaidmnhaaGreatDoorQOpen30
import Derived.Test.YtcikldoaidmnhaaGreatDoorQOpen34
namespace Go.Proofs.YtcikldoaidmnhaaGreatDoor
open Go Go.RowKit Pk Pc
set_option maxRecDepth 100000
theorem stepW_len {c:List Tri} {W W':Wk} {b:Pk.Bits} (hc:Fine c) (h:Inv c W) (hl:W.tris.length<c.length) (hk:W.known.length≤90000) (hs:stepW c W=some (b,W')):b.length≤1300:=by
 obtain ⟨K,tr,gs⟩:=W;simp only at hl hk;unfold stepW at hs;simp only at hs;rcases hog:openG tr gs with _ | ⟨g,r⟩
 ·rw [hog] at hs;simp only at hs;obtain ⟨t,e,h1,h2,h3,h4⟩:=seed_some hc h hl;rw [e] at hs;simp only at hs;have hb:=(Prod.mk.inj (Option.some.inj hs)).1;have h5:=seedBs_len h2 h.known hk 3 (by omega);have h6:seedBs t K 3=b:=by rw [←hb];simp [seedBs,seedK,cornAt]
  rw [h6] at h5;omega
 ·rw [hog] at hs;simp only at hs;rcases h3:third c g.1 g.2.1 with _ | p
  ·rw [h3] at hs;simp only at hs;have hb:=(Prod.mk.inj (Option.some.inj hs)).1;rw [←hb];simp
  ·rw [h3] at hs;simp only at hs;have hb:=(Prod.mk.inj (Option.some.inj hs)).1;obtain ⟨hp,_,_⟩:=gate_some hc h hog h3;have h5:(cornerB K p (expG g) 2 128 448).length≤400:=corner_len hp (near_exp (gate_in h hog)) (by omega);rw [←hb,List.length_cons];omega
theorem walkB_len {c:List Tri} (hc:Fine c):∀(f:Nat) (W:Wk),Inv c W→W.left c≤f→W.known.length+3*f≤1536→(walkB c f W).length≤1300*f
 | 0,W,_,_,_=>by rw [walkB];exact Nat.zero_le _
 | f+1,W,h,hf,hk=>by
  rw [walkB];by_cases hl:c.length≤W.tris.length
  ·rw [if_pos hl];exact Nat.zero_le _
  ·rw [if_neg hl];obtain ⟨b,W',e1,e2,e3,_⟩:=step_lock false hc h (by omega) (by omega);rw [e1];simp only;have h1:=stepW_len hc h (by omega) (by omega) e1;have h2:=step_left (by omega) e1;have h3:=walkB_len hc f W' e2 (by omega) (by omega);rw [List.length_append];omega
theorem clusterN_len (T:List Tri):(clusterN T).length≤700000:=by
 unfold clusterN;split
 ·rename_i hp
  obtain ⟨hc,hl⟩:=canon_fine hp;have h0:Wk.init.left (canon T)=4*(canon T).length:=by unfold Wk.left Wk.init;simp
  have h1:=walkB_len hc (4*(canon T).length) Wk.init (Inv.init _) (by omega) (by show 0+_≤_;omega);have h2:=numBits_length 64 (n:=(canon T).length) (by omega);have h3:=encode_length (bitsC (canon T));have h4:(bitsC (canon T)).length≤128+1300*(4*(canon T).length):=by
   unfold bitsC;rw [List.length_append,h0];omega
  unfold packC;rw [List.length_cons];omega
 ·exact Nat.zero_le _
end Go.Proofs.YtcikldoaidmnhaaGreatDoor
namespace Go.Proofs.YtcikldoaidmnhaaGreatDoor
open Go Go.RowKit Pk
set_option maxRecDepth 100000
theorem modI_to (q:Int) {n:Nat} (h:0<n):∃k:Nat,modI q n=(k:Int)∧k<n:=by
 have:=modI_range (n:=q) (m:=(n:Int)) (by omega);exact ⟨(modI q n).toNat,by omega,by omega⟩
def spoilP (s:ByteArray) (w:World) (en:Ending) (w':World):Prop:=∃R:ByteArray,en=.returned (.string R)∧R.size≤s.size+1∧Upd noBlk w w'
set_option maxHeartbeats 2000000 in
theorem jSpoiled_any (s:ByteArray) (hs:s.size≤1000000) (q0 q1 q2:Int) (w:World):Calls Tryz.prog 22 #[.string s,.agg #[.int .i64 q0,.int .i64 q1,.int .i64 q2]] w fun en w'=>spoilP s w en w':=by
 have HS:Hid (s.size≤1000000):=hs;have hsI:(s.size:Int)≤1000000:=by omega
 obtain ⟨w1,hw1⟩:∃w1,w1=w.alloc (.cells #[.int .i64 q0,.int .i64 q1,.int .i64 q2] 24):=⟨_,rfl⟩;have HU1:Hid (Upd noBlk w w1):=by show Upd _ _ _;rw [hw1];exact (Upd.refl _ w).alloc _
 have HQ:Hid (w1.heap[w.heap.size]?=some (.cells #[.int .i64 q0,.int .i64 q1,.int .i64 q2] 24 (0,0))):=by show _=_;rw [hw1];exact heap_alloc_new w _
 obtain ⟨qb,hqb⟩:∃qb,qb=w.heap.size:=⟨_,rfl⟩;rw [←hqb] at HQ;clear hs;go_enter Tryz.func22,Tryz.ntmps22
 go_upto_region 1 with fail
 rw [←hw1,←hqb];clear hw1 hqb;rcases Nat.eq_zero_or_pos s.size with h0 | h0
 ·have h0I:(s.size:Int)=0:=by omega
  have HP:Hid (spoilP s w (.returned (.string s)) w1):=⟨s,rfl,Nat.le_succ _,HU1.out⟩;go_wp2_with fail
  go_ret
  exact HP.out
 ·have h0I:¬(s.size:Int)=0:=by omega
  have h0N:¬s.size=0:=by omega
  obtain ⟨k,hk,hkl⟩:=modI_to q1 h0;have HM1:=Lib.hid (hMod_any q1 (s.size:Int) (by omega) (by omega) w1);rw [hk] at HM1;have HM0:=fun W=>Lib.hid (hMod_any q0 6 (by omega) (by omega) W);obtain ⟨m,hm,hml⟩:=modI_to q0 (n:=6) (by omega);rw [show ((6:Nat):Int)=6 from rfl] at hm;rw [hm] at HM0;have HKL:Hid (k<s.size):=hkl;obtain ⟨⟨z0,z1,z2⟩,_⟩:=cellsF3 HQ.out;clear hk hm h0;go_wp2_with fail
  refine HM1.out.mono ?_;rintro e w1' ⟨rfl,rfl⟩;clear HM1;obtain ⟨x,hx⟩:∃x,x=UInt8.ofNat (q2 % 256).toNat:=⟨_,rfl⟩;have hxm:(x.toNat:Int)=q2 % 256:=by rw [hx,u8_small (by omega)];omega
  have hcv:=conv_one x w1'.heap.size (w1'.alloc (.cells #[.int .u8 (q2 % 256)] 5)) (by rw [hxm];exact heap_alloc_new w1' _);clear hx hxm;have HU2:=Lib.hid (HU1.out.alloc (.cells #[.int .u8 (q2 % 256)] 5));have HQ2:=Lib.hid (((Upd.refl noBlk w1').alloc (.cells #[.int .u8 (q2 % 256)] 5)).heap HQ.out id);go_upto_region 5 with fail
  clear hcv z0 z1 z2 HQ HU1;generalize w1'.alloc (.cells #[.int .u8 (q2 % 256)] 5)=w2 at *;have hk0:(0:Int)≤(k:Int):=by omega
  have hkI:(k:Int)≤(s.size:Int):=by omega
  have hk1:(k:Int)+1≤(s.size:Int):=by omega
  have hkw:IntKind.i64.wrap ((k:Int)+1)=(k:Int)+1:=wrapN (by omega) (by omega);have hbx:(bs [x]).size=1:=rfl;have e1:(s.extract 0 k).size=k:=by rw [ByteArray.size_extract];omega
  have e2:(s.extract (k+1) s.size).size=s.size-(k+1):=by rw [ByteArray.size_extract];omega
  have e3:(s.extract k s.size).size=s.size-k:=by rw [ByteArray.size_extract];omega
  obtain ⟨c,hc⟩:∃c,c=bs [x]:=⟨_,rfl⟩;rw [←hc] at hbx ⊢;clear hc;rcases (by omega:m=0∨m=1∨m=2∨m=3∨m=4∨m=5) with rfl | rfl | rfl | rfl | rfl | rfl
  ·obtain ⟨⟨z0,z1,z2⟩,_⟩:=cellsF3 HQ2.out;have HMW:=HM0 w2;clear HM0 hml;go_wp2_with fail
   refine HMW.out.mono ?_;rintro e w3 ⟨rfl,rfl⟩;clear HMW z0 z1 z2 HQ2;have s1:¬9223372036854775807<k+1:=by omega
   have s2:¬9223372036854775807<k+1+(s.size-(k+1)):=by omega
   go_wp2_with fail
   refine wp_region_tree 10 (OT.sures [0,1,2,3,4,5,6,7,8,9] .nil) (fun w'=>Gr w3 w') (by kernel_rfl) (by kernel_rfl) (fun c a d v w h=>by cases d<;>exact h) ((Gr.refl w3).drew) ?_
   simp only [OT.sures]
   iterate 10 (apply wpT_sure rfl rfl;focus (intro w' hw';go_simp;rfl))
   refine wpT_nil ?_;go_wp2_with fail
   go_ret
   exact ⟨_,rfl,by rw [ByteArray.size_append,ByteArray.size_append];omega,HU2.out.drew⟩
  ·obtain ⟨⟨z0,z1,z2⟩,_⟩:=cellsF3 HQ2.out;have HMW:=HM0 w2;clear HM0 hml;go_wp2_with fail
   refine HMW.out.mono ?_;rintro e w3 ⟨rfl,rfl⟩;clear HMW z0 z1 z2 HQ2;have s1:¬9223372036854775807<k+(s.size-(k+1)):=by omega
   go_wp2_with fail
   refine wp_region_tree 8 (OT.sures [0,1,2,3,4,5,6,7] .nil) (fun w'=>Gr w3 w') (by kernel_rfl) (by kernel_rfl) (fun c a d v w h=>by cases d<;>exact h) ((Gr.refl w3).drew) ?_
   simp only [OT.sures]
   iterate 8 (apply wpT_sure rfl rfl;focus (intro w' hw';go_simp;rfl))
   refine wpT_nil ?_;go_wp2_with fail
   go_ret
   exact ⟨_,rfl,by rw [ByteArray.size_append];omega,HU2.out.drew⟩
  ·obtain ⟨⟨z0,z1,z2⟩,_⟩:=cellsF3 HQ2.out;have HMW:=HM0 w2;clear HM0 hml;go_wp2_with fail
   refine HMW.out.mono ?_;rintro e w3 ⟨rfl,rfl⟩;clear HMW z0 z1 z2 HQ2;have s1:¬9223372036854775807<k+1:=by omega
   have s2:¬9223372036854775807<k+1+(s.size-k):=by omega
   go_wp2_with fail
   refine wp_region_tree 9 (OT.sures [0,1,2,3,4,5,6,7,8] .nil) (fun w'=>Gr w3 w') (by kernel_rfl) (by kernel_rfl) (fun c a d v w h=>by cases d<;>exact h) ((Gr.refl w3).drew) ?_
   simp only [OT.sures]
   iterate 9 (apply wpT_sure rfl rfl;focus (intro w' hw';go_simp;rfl))
   refine wpT_nil ?_;go_wp2_with fail
   go_ret
   exact ⟨_,rfl,by rw [ByteArray.size_append,ByteArray.size_append];omega,HU2.out.drew⟩
  ·obtain ⟨⟨z0,z1,z2⟩,_⟩:=cellsF3 HQ2.out;have HMW:=HM0 w2;clear HM0 hml;go_wp2_with fail
   refine HMW.out.mono ?_;rintro e w3 ⟨rfl,rfl⟩;clear HMW z0 z1 z2 HQ2;go_wp2_with fail
   go_ret
   exact ⟨_,rfl,by omega,HU2.out⟩
  ·obtain ⟨⟨z0,z1,z2⟩,_⟩:=cellsF3 HQ2.out;have HMW:=HM0 w2;clear HM0 hml;go_wp2_with fail
   refine HMW.out.mono ?_;rintro e w3 ⟨rfl,rfl⟩;clear HMW z0 z1 z2 HQ2;have s1:¬9223372036854775807<s.size+1:=by omega
   go_wp2_with fail
   go_ret
   exact ⟨_,rfl,by rw [ByteArray.size_append];omega,HU2.out⟩
  ·obtain ⟨⟨z0,z1,z2⟩,_⟩:=cellsF3 HQ2.out;have HMW:=HM0 w2;clear HM0 hml;go_wp2_with fail
   refine HMW.out.mono ?_;rintro e w3 ⟨rfl,rfl⟩;clear HMW z0 z1 z2 HQ2;go_wp2_with fail
   go_ret
   exact ⟨_,rfl,by omega,HU2.out⟩
end Go.Proofs.YtcikldoaidmnhaaGreatDoor
namespace Go.Proofs.YtcikldoaidmnhaaGreatDoor
open Go Go.RowKit Pk Pc
set_option maxRecDepth 100000
def natsB (l:Bytes):List Nat:=l.map (·.toNat)
theorem str_nats (l:Bytes):str (natsB l)=bs l:=by
 unfold str natsB bs;rw [List.map_map];congr 2
 have:l.map (UInt8.ofNat ∘ fun x:UInt8=>x.toNat)=l.map id:=List.map_congr_left (fun x _=>by simp);rw [this,List.map_id]
theorem natsB_lt (l:Bytes):∀d,d∈natsB l→d<256:=fun d hd=>by
 obtain ⟨x,_,rfl⟩:=List.mem_map.1 hd;exact x.toNat_lt
end Go.Proofs.YtcikldoaidmnhaaGreatDoor
namespace Go.Proofs.YtcikldoaidmnhaaGreatDoor
open Go Go.RowKit Pk
set_option maxRecDepth 100000
structure FV where
 level:Int
 err:Int
 total:Int
 ins:List Int
 outs:List Int
 moves:List Mv
 neg:Bool
 mag:Bytes
def FV.V (x:FV) (vi vo vm:Value):Value:=.agg #[.int .i64 x.level,.int .i64 x.err,.int .i64 x.total,vi,vo,vm,.bool x.neg,.string (bs x.mag)]
theorem bs_cut (s:Bytes) (m:Nat):(bs s).extract 0 m=bs (s.take m):=by
 apply ByteArray.ext;simp [bs]
end Go.Proofs.YtcikldoaidmnhaaGreatDoor
namespace Go.Proofs.YtcikldoaidmnhaaGreatDoor
open Go Go.RowKit
section
variable {P:Program} {ops:Array Oper} {md:Region.Mode} {C:World→Prop} {Q:Exit→Act→World→Prop}
theorem wpAnyG_firstF {n i:Nat} {oi:Oper} {v:Value} {L:Array Bool→Act→World→Prop} (hi:ops[i]?=some oi) (hsel:∀(j:Nat) (o:Oper) cs b,ops[j]?=some o→o.op≠.select cs b)
  (hQ:∀c a w,Q (.panic c) (a.put oi.dst v) w→Q (.panic c) a w)
  (hn:n=ops.size) (hin:i<n)
  (hdone:∀listed a w,L listed a w→∀j∈Region.ready md ops listed,n≤j) :
  ∀(f:Nat) (listed:Array Bool) (a:Act) (w:World),HeadInv md ops n listed→C w →
   (∀j oj,ops[j]?=some oj→j≠i→listed.getD j true=false→(∀e∈oj.after,Region.binds md e=true→e.on≠i)→oi.apart ops oj=true) →
   i∈Region.ready md ops listed→Sure P ops C oi v a →
   wpAnyG P md ops Q C n L f (listed.setIfInBounds i true) (a.put oi.dst v) w→wpAnyG P md ops Q C n L (f+1) listed a w:=by
 intro f;induction f with
 | zero=>
  intro listed a w inv hC _ hr hy H;have hun:=(mem_ready.1 hr).1;refine ⟨fun h=>(by rw [h] at hr;cases hr),fun j hj=>?_⟩;have hjn:j<n:=by
   obtain ⟨_,ojn,hojn,_⟩:=mem_ready.1 hj;have:=(Array.getElem?_eq_some_iff.1 hojn).1;omega
  refine ⟨hjn,?_⟩;by_cases hji:j=i
  ·subst hji;exact hy.wpOp hi hC ⟨hC,H⟩
  ·have:=hdone _ _ _ H j (ready_mono hj hji);omega
 | succ f ih=>
  intro listed a w inv hC hfree hr hy H;have hun:=(mem_ready.1 hr).1;refine ⟨fun h=>(by rw [h] at hr;cases hr),fun j hj=>?_⟩;have hjn:j<n:=by
   obtain ⟨_,ojn,hojn,_⟩:=mem_ready.1 hj;have:=(Array.getElem?_eq_some_iff.1 hojn).1;omega
  refine ⟨hjn,?_⟩;by_cases hji:j=i
  ·subst hji;exact hy.wpOp hi hC ⟨hC,H⟩
  ·have h1:=(H.2 j (ready_mono hj hji)).2;obtain ⟨hjun,oj,hoj,hall⟩:=mem_ready.1 hj;have hnot:∀e∈oj.after,Region.binds md e=true→e.on≠i:=fun e he hb heq=>by
    have h1:=hall e he hb;rw [heq,getD_both hun] at h1;cases h1
   have h2:=wpOp_putSure hoj (hfree j oj hoj hji hjun hnot) (fun cs b=>hsel i oi cs b hi) (fun cs b=>hsel j oj cs b hoj) hQ hy h1;have hfree':∀k ok,ops[k]?=some ok→k≠i→(listed.setIfInBounds j true).getD k true=false →
     (∀e∈ok.after,Region.binds md e=true→e.on≠i)→oi.apart ops ok=true:=fun k ok hk hki hun hno=>by
    refine hfree k ok hk hki ?_ hno;by_cases hjk:j=k
    ·subst hjk;exact hjun
    ·rw [getD_set_ne true hjk] at hun;exact hun
   refine wpOp_mono (fun a' w' h3=>⟨h3.2.1,ih (listed.setIfInBounds j true) a' w' (inv.set hj hjn) h3.2.1 hfree' (ready_mono hr (Ne.symm hji)) h3.1 ?_⟩) h2;rw [Array.setIfInBounds_comm _ _ hji];exact h3.2.2
theorem wpAnyG_treeF {n:Nat} {Lq:Act→World→Prop} (hsel:Region.noSelect ops=true) (hQ:∀c a d v w,Q (.panic c) (Act.put a d v) w→Q (.panic c) a w)
  (hn:n=ops.size) :
  ∀(f:Nat) (t:OT) (C:World→Prop) (listed:Array Bool) (a:Act) (w:World),C w→HeadInv md ops n listed→treeB md ops n f t listed=true→wpT P ops Q Lq t C a w →
  wpAnyG P md ops Q C n (fun listed' a' w'=>Region.seqB md ops (ops.size-n) n listed'=true∧Lq a' w') f listed a w
 | 0,.nil,C,listed,a,w,_,inv,hB,h=>⟨by simpa [treeB] using hB,h⟩
 | f+1,.sure i r,C,listed,a,w,hC,inv,hB,h=>by
  obtain ⟨o,v,h0,hy,hK⟩:=h;simp only [treeB,Bool.and_eq_true,decide_eq_true_eq] at hB;obtain ⟨⟨⟨hin,hr⟩,hf⟩,hB'⟩:=hB;have hr':i∈Region.ready md ops listed:=by simpa using hr
  exact wpAnyG_firstF h0 (Region.noSelect_spec hsel) (fun c a w=>hQ c a _ _ w) hn hin (fun listed' a' w' hL=>fun j hj=>by
   have h1:=hL.1;rw [hn,Nat.sub_self] at h1;simp only [Region.seqB,List.isEmpty_iff] at h1;rw [h1] at hj;cases hj) f listed a w inv hC (Region.free_spec h0 hf) hr' hy
   (wpAnyG_treeF hsel hQ hn f r C _ _ w hC (inv.set hr' hin) hB' hK)
 | f+1,.run i r,C,listed,a,w,hC,inv,hB,h=>by
  obtain ⟨C',hCC,h⟩:=h;simp only [treeB,Bool.and_eq_true,decide_eq_true_eq] at hB;obtain ⟨⟨hin,hr⟩,hB'⟩:=hB;have hr':i∈Region.ready md ops listed:=by rw [hr];simp
  refine ⟨fun h0=>(by rw [h0] at hr;cases hr),fun j hj=>?_⟩;rw [hr] at hj;obtain rfl:j=i:=by simpa using hj
  exact ⟨hin,wpOp_mono (fun a' w' h'=>⟨hCC _ h'.1,wpAnyG_mono hCC f _ _ _ (wpAnyG_treeF hsel hQ hn f r C' _ a' w' h'.1 (inv.set hr' hin) hB' h'.2)⟩) h⟩
 | f+1,.fork i ri j rj,C,listed,a,w,hC,inv,hB,h=>by
  obtain ⟨⟨C1,hC1,h1⟩,⟨C2,hC2,h2⟩⟩:=h;simp only [treeB,Bool.and_eq_true,decide_eq_true_eq] at hB;obtain ⟨⟨⟨⟨hin,hjn⟩,hr⟩,hB1⟩,hB2⟩:=hB;have hri:i∈Region.ready md ops listed:=by rw [hr];simp
  have hrj:j∈Region.ready md ops listed:=by rw [hr];simp
  refine ⟨fun h0=>(by rw [h0] at hr;cases hr),fun k hk=>?_⟩;rw [hr] at hk;rcases (by simpa using hk:k=i∨k=j) with rfl | rfl
  ·exact ⟨hin,wpOp_mono (fun a' w' h'=>⟨hC1 _ h'.1,wpAnyG_mono hC1 f _ _ _ (wpAnyG_treeF hsel hQ hn f ri C1 _ a' w' h'.1 (inv.set hri hin) hB1 h'.2)⟩) h1⟩
  ·exact ⟨hjn,wpOp_mono (fun a' w' h'=>⟨hC2 _ h'.1,wpAnyG_mono hC2 f _ _ _ (wpAnyG_treeF hsel hQ hn f rj C2 _ a' w' h'.1 (inv.set hrj hjn) hB2 h'.2)⟩) h2⟩
 | 0,.sure _ _,_,_,_,_,_,_,hB,_=>by simp [treeB] at hB
 | 0,.run _ _,_,_,_,_,_,_,hB,_=>by simp [treeB] at hB
 | 0,.fork _ _ _ _,_,_,_,_,_,_,hB,_=>by simp [treeB] at hB
 | _+1,.nil,_,_,_,_,_,_,hB,_=>by simp [treeB] at hB
def treeFullB (md:Region.Mode) (ops:Array Oper) (n:Nat) (t:OT):Bool:=
 Region.noSelect ops&&decide (n=ops.size)&&treeB md ops n n t (Array.replicate ops.size false)
theorem wp_region_full {id:Nat} {a:Act} {w:World} {l:List Oper} (n:Nat) (t:OT) (C:World→Prop) (hm:P.follows .mixedOrders=true) (hB:treeFullB .any l.toArray n t=true)
  (hQ:∀c a d v w,Q (.panic c) (Act.put a d v) w→Q (.panic c) a w) (hC:C w.drew)
  (h:wpT P l.toArray Q (fun a' w'=>wpList P l.toArray Q [] a' w') t C a w.drew):(Code.region id l.toArray true).wp P Q a w:=by
 simp only [treeFullB,Bool.and_eq_true,decide_eq_true_eq] at hB;obtain ⟨⟨hsel,hn⟩,hlex⟩:=hB;have inv0:HeadInv .any l.toArray n (Array.replicate l.toArray.size false):=
  ⟨by simp,fun j oj _ hl=>(by rw [getD_replicate_false] at hl;cases hl),fun t _ ht=>getD_in (by simpa using ht) (getD_replicate_false _ _)⟩
 have H:=wpAnyG_treeF (md:=.any) hsel hQ hn n t C _ a w.drew hC inv0 hlex h;refine wp_region_any hm ?_;have:=wpAny_of_G (g:=0) (fun listed a' w' hL=>by
  have h1:=hL.1;rw [hn,Nat.sub_self] at h1;exact wpAny_of_seq (md:=.any) (Q':=Q) [] n listed a' w' (fun j=>by
   rw [hn];symm;simp) h1 hL.2) _ _ _ _ H
 rw [Nat.add_zero,hn] at this;exact this
end
end Go.Proofs.YtcikldoaidmnhaaGreatDoor
namespace Go.Proofs.YtcikldoaidmnhaaGreatDoor
open Go Go.RowKit Pk Pc
set_option maxRecDepth 100000
theorem cluster_open {l:Bytes} {T:List Tri} (h:openN (natsB l)=some T) (v:Value) (W:World) (hv:kTri.Rd W v T):Calls Tryz.prog 16 #[v] W fun en w'=>en=.returned (.string (bs l))∧Upd noBlk W w':=by
 obtain ⟨h1,h2,h3⟩:=openN_some h;have h4:T.length≤128:=by
  have:=(canon_fine h2).2;rw [h3] at this;exact this
 have h5:∀t,t∈T→okT t:=fun t ht=>by
  have:=(canon_fine h2).1.ins;rw [h3] at this;exact okT_of (this t ht)
 have hk:=Cluster_any v T (by omega) h5 W hv;rw [h1,str_nats] at hk;exact hk
theorem openN_len {l:List Nat} {T:List Tri} (h:openN l=some T):T.length≤128:=by
 obtain ⟨h1,h2,h3⟩:=openN_some h;have:=(canon_fine h2).2;rw [h3] at this;exact this
set_option maxHeartbeats 8000000 in
theorem lawPackOpens_c (x:SV) (vh:Value) (q0 q1 q2:Int) (raw:ByteArray) (hx:x.Ok) (hraw:raw.size≤maxLen) (w:World) (h:kInt.Rd w vh x.heights):Calls Tryz.prog 5 #[x.V vh,.agg #[.int .i64 q0,.int .i64 q1,.int .i64 q2],.string raw] w fun en w'=>en=.returned (.bool true)∧Upd noBlk w w':=by
 have HS:=fun W=>Lib.hid (sanity_any W);have HTR:Hid (∀W,Upd noBlk w W→Calls Tryz.prog 15 #[x.V vh] W fun en w'=>∃v,en=.returned v∧kTri.Rd w' v x.tris∧x.tris.length≤200∧Upd noBlk W w'):=fun W hW=>tris_any x vh W hx (h.keep hW);obtain ⟨T,hT⟩:∃T,T=x.tris:=⟨_,rfl⟩;rw [←hT] at HTR;have HSP:=fun s hs W=>Lib.hid (jSpoiled_any s hs q0 q1 q2 W);have HCZ:Hid ((str (clusterN T)).size≤900001):=by
  show _≤_;rw [str_size];have:=clusterN_len T;omega
 obtain ⟨RW,hRW⟩:∃RW:Bytes,raw=bs RW:=⟨raw.data.toList,rfl⟩;subst hRW;obtain ⟨mn,hmn⟩:∃mn:Nat,min (((bs RW).size:Nat):Int) 200=(mn:Int):=⟨min (bs RW).size 200,by omega⟩;have hmz:(mn:Int)≤(((bs RW).size:Nat):Int):=by omega
 have hmz2:mn≤(bs RW).size:=by omega
 have hcut:(bs RW).extract 0 mn=bs (RW.take mn):=bs_cut RW mn;have hRL:(RW.take mn).length≤200:=by rw [List.length_take];omega
 have HRL:Hid ((RW.take mn).length≤200):=hRL;have hraw':(((bs RW).size:Nat):Int)≤9223372036854775807:=by unfold maxLen at hraw;omega
 obtain ⟨Ah,ch,hvh,_⟩:=h;subst hvh;clear hT hx hraw hRL;generalize RW.take mn=RC at *;unfold SV.V at *;obtain ⟨w0,hw0⟩:∃w0,w0=(w.alloc (.cells #[.bool x.op,.int .u32 x.bits,.int .u32 x.side,.slice Ah x.heights.length ch,.int .u8 x.frm,.int .u8 x.many,.int .i64 x.q0,.int .i64 x.q1,.int .i64 x.q2] 26)).alloc (.cells #[.int .i64 q0,.int .i64 q1,.int .i64 q2] 24):=⟨_,rfl⟩;have HU0:Hid (Upd noBlk w w0):=by show Upd _ _ _;rw [hw0];exact ((Upd.refl _ w).alloc _).alloc _
 have HX:Hid (w0.heap[w.heap.size]?=some (.cells #[.bool x.op,.int .u32 x.bits,.int .u32 x.side,.slice Ah x.heights.length ch,.int .u8 x.frm,.int .u8 x.many,.int .i64 x.q0,.int .i64 x.q1,.int .i64 x.q2] 26 (0,0))):=by show _=_;rw [hw0];exact ((Upd.refl noBlk _).alloc _).heap (heap_alloc_new w _) id
 have HY:Hid (w0.heap[w.heap.size+1]?=some (.cells #[.int .i64 q0,.int .i64 q1,.int .i64 q2] 24 (0,0))):=by
  show _=_;rw [hw0,←World.size_alloc w (.cells #[.bool x.op,.int .u32 x.bits,.int .u32 x.side,.slice Ah x.heights.length ch,.int .u8 x.frm,.int .u8 x.many,.int .i64 x.q0,.int .i64 x.q1,.int .i64 x.q2] 26)];exact heap_alloc_new _ _
 go_enter Tryz.func5,Tryz.ntmps5
 go_upto_region 1 with fail
 rw [←hw0];clear hw0;generalize w.heap.size=xb at *;obtain ⟨yb,hyb⟩:∃yb,yb=xb+1:=⟨_,rfl⟩;rw [←hyb] at HY ⊢;clear hyb;go_wp2_with fail
 refine (HS _).out.mono ?_;rintro e w1 ⟨rfl,u1⟩;have U1:=Lib.hid (HU0.out.trans u1);have HX1:=Lib.hid (u1.heap HX.out id);have HY1:=Lib.hid (u1.heap HY.out id);clear u1 HS HX HY HU0;go_upto_region 3 with fail
 clear hmn hmz hmz2 hcut hraw';go_cut [28,29,30] (fun s n i wc=>∃sb L0 L1 L2,s=.slice (some ⟨sb,0,none⟩) 3 3∧n=.int .i64 3∧i=.int .i64 0∧wc.heap[sb]?=some (.cells #[.string (bs L0),.string (bs L1),.string (bs L2)] 9 (0,0))∧Upd noBlk w1 wc)
 case first=>
  have hsz:¬9223372036854775807<1+(bs RC).size:=by
   have h1:=HRL.out;rw [bs_size];omega
  refine wp_region_full 11 (OT.sures [0,3,5,6,7,10] (.run 1 (.run 2 (.run 4 (.run 8 (OT.sures [9] .nil)))))) (fun w'=>Upd noBlk w1 w') (by kernel_rfl) (by kernel_rfl) (fun c a d v w h=>by cases d<;>exact h) ((Upd.refl noBlk w1).drew) ?_
  simp only [OT.sures]
  iterate 6 (apply wpT_sure rfl rfl;focus (intro w' hw';obtain ⟨a0,a1,a2,a3,a4,a5,a6,a7,a8⟩:=cells9 (hw'.heap HX1.out id);obtain ⟨⟨b0,b1,b2⟩,_⟩:=cellsF3 (hw'.heap HY1.out id);go_simp;rfl))
  refine wpT_run (fun w'=>Upd noBlk w1 w') (fun _ h=>h) rfl (fun K' hK=>?_);go_simp
  refine (HTR.out _ (U1.out.trans (Upd.refl noBlk w1).drew)).mono ?_;rintro e z1 ⟨vt,rfl,ht,hl,u1⟩;have V1:=Lib.hid ((Upd.refl noBlk w1).drew.trans u1);have HC1:=Lib.hid (jCluster_any vt T (by omega) z1 ht);refine hK _ _ ⟨V1.out,?_⟩;clear hK K' u1 ht hl HTR;refine wpT_run (fun w'=>Upd noBlk w1 w') (fun _ h=>h) rfl (fun K' hK=>?_);go_simp
  refine HC1.out.mono ?_;rintro e z2 ⟨rfl,u2⟩;have V2:=Lib.hid (V1.out.trans u2);have HS2:=HSP (str (clusterN T)) (by have:=HCZ.out;omega) z2;refine hK _ _ ⟨V2.out,?_⟩;clear hK K' u2 HC1 V1 HSP HCZ;refine wpT_run (fun w'=>Upd noBlk w1 w') (fun _ h=>h) rfl (fun K' hK=>?_);go_simp
  refine HS2.out.mono ?_;rintro e z3 ⟨R,rfl,_,u3⟩;have V3:=Lib.hid (V2.out.trans u3);refine hK _ _ ⟨V3.out,?_⟩;clear hK K' u3 HS2 V2;obtain ⟨L0,hL0⟩:∃L0:Bytes,R=bs L0:=⟨R.data.toList,rfl⟩;obtain ⟨L2,hL2⟩:∃L2:Bytes,(⟨#[1]⟩:ByteArray)++bs RC=bs L2:=⟨_,rfl⟩;subst hL0;refine wpT_run (fun w'=>Upd noBlk w1 w') (fun _ h=>h) rfl (fun K' hK=>?_);go_simp
  have HN:Hid ((z3.alloc (.cells #[.string (bs L0),.string (bs RC),.string (bs L2)] 9)).heap[z3.heap.size]?=some (.cells #[.string (bs L0),.string (bs RC),.string (bs L2)] 9 (0,0))):=heap_alloc_new z3 _;have V4:=Lib.hid (V3.out.alloc (.cells #[.string (bs L0),.string (bs RC),.string (bs L2)] 9));refine hK _ _ ⟨V4.out,?_⟩;clear hK K' V3;apply wpT_sure rfl rfl
  focus (intro w' hw';go_simp;rfl)
  refine wpT_nil ?_;go_wp2_with fail
  go_meet
  exact ⟨_,L0,RC,L2,rfl,rfl,rfl,HN.out,V4.out⟩
 case rest=>
  obtain ⟨sb,L0,L1,L2,rfl,rfl,rfl,hsb,hu⟩:=hcut;have HSB:Hid (∀k,k<3→∃L,wc.cell? ⟨sb,k,none⟩=some (.string (bs L))):=fun k hk=>by
   rw [cell_of_row _ _ k _ 9 (0,0) hsb];rcases (by omega:k=0∨k=1∨k=2) with rfl | rfl | rfl
   ·exact ⟨L0,rfl⟩
   ·exact ⟨L1,rfl⟩
   ·exact ⟨L2,rfl⟩
  have UC:=Lib.hid (U1.out.trans hu);clear hsb hu HTR HRL HX1 HY1 U1 HSP HCZ;go_wp2_with fail
  go_loopw [30] (fun i wr=>∃k:Nat,i=.int .i64 k∧k≤3∧Upd noBlk wc wr) (fun i _=>3-(intOf i).toNat)
  case atStart=>exact ⟨0,rfl,by omega,Upd.refl _ _⟩
  case round=>
   obtain ⟨k,rfl,hk,hu⟩:=hrel;have HU:=Lib.hid hu;clear hu;by_cases hlt:k<3
   ·have hlt':(k:Int)<3:=by omega
    have HK:Hid (k<3):=hlt;obtain ⟨L,hc0⟩:=HSB.out k hlt;have hc:=HU.out.cell hc0 id;have HOC:=fun W=>Lib.hid (OpenCluster_any (natsB L) (natsB_lt L) W);have HJC:=fun W=>Lib.hid (jOpenCluster_any (natsB L) (natsB_lt L) W);rw [str_nats] at HOC HJC;have hss:((bs L).toList == (bs L).toList)=true:=by simp
    clear hc0 hlt;rcases hon:openN (natsB L) with _ | T'
    ·rw [hon] at HOC HJC;have HEQ:=fun va vb W h1 h2=>Lib.hid (hEqual_any va vb [] [] (by simp) W h1 h2);rw [decide_eq_true rfl] at HEQ;clear hon;go_wp2_with fail
     refine (HOC _).out.mono ?_;rintro e w4 ⟨u4,vc,rfl,hvc⟩;have U4:=Lib.hid (HU.out.trans u4);have HVC:=Lib.hid hvc;clear u4 hvc HOC hc;go_wp2_with fail
     refine (HJC _).out.mono ?_;rintro e w5 ⟨u5,rfl⟩;have U5:=Lib.hid (U4.out.trans u5);have HE5:=HEQ vc (.slice none 0 0) w5 (HVC.out.keep u5) (Kd.Rd.nil _ _);clear u5 HJC HEQ HVC U4;go_wp2_with fail
     refine HE5.out.mono ?_;rintro e w6 ⟨rfl,u6⟩;have U6:=Lib.hid (U5.out.trans u6);clear u6 HE5 U5;go_wp2_with fail
     exact ⟨⟨k+1,by push_cast;rfl,HK.out,U6.out⟩,by simp only [intOf];have:=HK.out;omega⟩
    ·rw [hon] at HOC HJC;have HEQ:=fun va vb W h1 h2=>Lib.hid (hEqual_any va vb T' T' (by have:=openN_len hon;omega) W h1 h2);rw [decide_eq_true rfl] at HEQ;have HAG:=fun v W hv=>Lib.hid (cluster_open hon v W hv);clear hon;go_wp2_with fail
     refine (HOC _).out.mono ?_;rintro e w4 ⟨u4,vc,rfl,hvc⟩;have U4:=Lib.hid (HU.out.trans u4);have HVC:=Lib.hid hvc;clear u4 hvc HOC hc;go_wp2_with fail
     refine (HJC _).out.mono ?_;rintro e w5 ⟨u5,vd,rfl,hvd⟩;have U5:=Lib.hid (U4.out.trans u5);have HV5:=Lib.hid (HVC.out.keep u5);have HE5:=HEQ vc vd w5 HV5.out hvd;clear u5 HJC HEQ HVC U4 hvd;go_wp2_with fail
     refine HE5.out.mono ?_;rintro e w6 ⟨rfl,u6⟩;have U6:=Lib.hid (U5.out.trans u6);have HA6:=HAG vc w6 (HV5.out.keep u6);clear u6 HE5 U5 HV5 HAG;go_wp2_with fail
     refine HA6.out.mono ?_;rintro e w7 ⟨rfl,u7⟩;have U7:=Lib.hid (U6.out.trans u7);clear u7 HA6 U6;go_wp2_with fail
     exact ⟨⟨k+1,by push_cast;rfl,HK.out,U7.out⟩,by simp only [intOf];have:=HK.out;omega⟩
   ·obtain rfl:k=3:=by omega
    go_wp2_with fail
    go_ret
    exact ⟨rfl,UC.out.trans HU.out⟩
end Go.Proofs.YtcikldoaidmnhaaGreatDoor
