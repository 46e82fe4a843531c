/- Parts: Walks of the reference of packets: lists of parts compared. No condition. Walks of the reference of packets: numbers modulo others, moves that numbers determine. No condition. -/
import Derived.Test.YtcikldoaidmnhaaGreatDoorQKeep6
import Derived.Test.YtcikldoaidmnhaaGreatDoorQKeep16
import Derived.Test.YtcikldoaidmnhaaGreatDoorQKeep19
namespace Go.Proofs.YtcikldoaidmnhaaGreatDoor
open Go Go.RowKit Pk
set_option maxRecDepth 100000
theorem eqItems_bytes (d:Nat) (l m:Bytes) (hl:l.length=32) (hm:m.length=32) (W:World):∀is:List Nat,(∀i,i∈is→i<32) →
  (Op.eqItems (d+1) 5 1 (byV l).toArray (byV m).toArray is).run Tryz.prog W=.ok (decide (∀i,i∈is→l[i]?=m[i]?)) W
 | [],_=>by simp [Op.eqItems]
 | i :: is,h=>by
  have ih:=eqItems_bytes d l m hl hm W is (fun j hj=>h j (List.mem_cons_of_mem _ hj));have hi:=h i (by simp);have e1:(byV l).toArray[i*1]?=some (.int .u8 ((l[i]'(by omega)).toNat:Nat)):=by simp [byV,hl,hi]
  have e2:(byV m).toArray[i*1]?=some (.int .u8 ((m[i]'(by omega)).toNat:Nat)):=by simp [byV,hm,hi]
  have hp:Tryz.prog.plainKey 5=true:=by kernel_rfl
  rw [Op.eqItems,Sem.run_bind,run_part_plain W hp e1,Result.andThen_ok,Sem.run_bind,run_part_plain W hp e2,Result.andThen_ok,Sem.run_bind,run_equalIn_int W d 5 .u8 .u8 _ _ Tryz.underlying5,Result.andThen_ok];have q1:l[i]?=some (l[i]'(by omega)):=List.getElem?_eq_getElem (by omega);have q2:m[i]?=some (m[i]'(by omega)):=List.getElem?_eq_getElem (by omega);by_cases hx:l[i]'(by omega)=m[i]'(by omega)
  ·have hb:((((l[i]'(by omega)).toNat:Nat):Int) == (((m[i]'(by omega)).toNat:Nat):Int))=true:=by rw [hx];simp
   rw [hb];simp only [Bool.not_true,Bool.false_eq_true,if_false,ih];congr 1
   rw [decide_eq_decide];constructor
   ·intro h1 j hj;rcases List.mem_cons.1 hj with rfl | hj
    ·rw [q1,q2,hx]
    ·exact h1 j hj
   ·exact fun h1 j hj=>h1 j (List.mem_cons_of_mem _ hj)
  ·have hb:((((l[i]'(by omega)).toNat:Nat):Int) == (((m[i]'(by omega)).toNat:Nat):Int))=false:=by
    rw [beq_eq_false_iff_ne];intro e;exact hx (UInt8.toNat_inj.1 (by omega))
   rw [hb];simp only [Bool.not_false,if_true,Sem.run_pure];congr 1
   symm
   rw [decide_eq_false_iff_not];intro h1;have h2:=h1 i (by simp);rw [q1,q2] at h2;exact hx (Option.some.inj h2)
theorem eq_hash (d:Nat) (a b:H32) (W:World):(Op.equalIn (d+2) 81 (.agg (byV a.1).toArray) (.agg (byV b.1).toArray)).run Tryz.prog W=.ok (decide (a=b)) W:=by
 obtain ⟨i,hi⟩:∃i,Tryz.prog.info? 5=some i:=by
  cases h:Tryz.prog.info? 5 with
  | none=>
   have:(Tryz.prog.info? 5).isSome=true:=by kernel_rfl
   rw [h] at this;cases this
  | some i=>exact ⟨i,rfl⟩
 rw [run_equalIn_array W (d+1) _ _ Tryz.underlying81 hi,show Tryz.prog.cellsOf 5=1 by kernel_rfl,eqItems_bytes d a.1 b.1 a.2 b.2 W _ (fun i hi=>List.mem_range.1 hi)];congr 1
 rw [decide_eq_decide];constructor
 ·intro h;apply Subtype.ext;apply List.ext_getElem?;intro j;by_cases hj:j<32
  ·exact h j (List.mem_range.2 hj)
  ·rw [List.getElem?_eq_none (by rw [a.2];omega),List.getElem?_eq_none (by rw [b.2];omega)]
 ·rintro rfl i _;rfl
theorem st1:Tryz.prog.underlying 83=some (.struct (Tryz.prog.fieldsOf 83)):=by kernel_rfl
theorem st2:Tryz.prog.stoodInHeld 83=false:=by kernel_rfl
theorem take_part (p:P32):List.take 32 (partC p)=byV p.1.1∧List.take 32 (List.drop 32 (partC p))=byV p.2.1:=by
 have l1:(byV p.1.1).length=32:=by rw [byV_len,p.1.2]
 have l2:(byV p.2.1).length=32:=by rw [byV_len,p.2.2]
 unfold partC;generalize byV p.1.1=x at *;generalize byV p.2.1=y at *;constructor
 ·exact List.take_left' l1
 ·rw [List.drop_left' l1];exact List.take_of_length_le (by omega)
theorem eq_part2 (p q:P32) (W:World):(Op.equalIn 9999 81 (.agg (List.take 32 (partC p)).toArray) (.agg (List.take 32 (partC q)).toArray)).run Tryz.prog W=.ok (decide (p.1=q.1)) W∧(Op.equalIn 9999 81 (.agg (List.take 32 (List.drop 32 (partC p))).toArray) (.agg (List.take 32 (List.drop 32 (partC q))).toArray)).run Tryz.prog W=.ok (decide (p.2=q.2)) W:=by
 have e1:=eq_hash 9997 p.1 q.1 W;have e2:=eq_hash 9997 p.2 q.2 W;simp only [Nat.reduceAdd] at e1 e2;rw [(take_part p).1,(take_part q).1,(take_part p).2,(take_part q).2];exact ⟨e1,e2⟩
set_option maxHeartbeats 2000000 in
theorem jSameParts_any (va vb:Value) (a b:List P32) (hla:a.length≤9223372036854775807) (w:World) (ha:kPart.Rd w va a) (hb:kPart.Rd w vb b):Calls Tryz.prog 28 #[va,vb] w fun en w'=>en=.returned (.bool (decide (a=b)))∧Upd noBlk w w':=by
 obtain ⟨A,cap,rfl,hcap,hxa⟩:=ha;obtain ⟨B,capb,rfl,hcapb,hxb⟩:=hb;have HXA:=Lib.hid hxa;have HXB:=Lib.hid hxb;have hl':(a.length:Int)≤9223372036854775807:=by omega
 clear hxa hxb hla;go_enter Tryz.func28,Tryz.ntmps28
 by_cases hln:a.length=b.length
 ·have hln':(a.length:Int)=(b.length:Int):=by omega
  have HLN:=Lib.hid hln;have hlb:(b.length:Int)≤9223372036854775807:=by omega
  clear hln;go_wp2_with fail
  go_loopw [5] (fun i wr=>∃k:Nat,i=.int .i64 k∧k≤a.length∧a.take k=b.take k∧Upd noBlk w wr) (fun i _=>a.length-(intOf i).toNat)
  case atStart=>exact ⟨0,rfl,Nat.zero_le _,rfl,Upd.refl _ _⟩
  case round=>
   obtain ⟨k,rfl,hk,htk,hu⟩:=hrel;have HT:=Lib.hid htk;have HU:=Lib.hid hu;clear htk hu;by_cases hlt:k<a.length
   ·have hlt':(k:Int)<(a.length:Int):=by omega
    have hltb:k<b.length:=by have:=HLN.out;omega
    have hltb':(k:Int)<(b.length:Int):=by omega
    obtain ⟨ba,oa,rfl,f1⟩:=HXA.out (by omega);obtain ⟨bb,ob,rfl,f2⟩:=HXB.out (by omega);have hk64:kPart.k=64:=rfl;have hf1:=(f1 k hlt).keep HU.out;have hf2:=(f2 k hltb).keep HU.out;rw [hk64] at hf1 hf2;have HF1:=Lib.hid hf1;have HF2:=Lib.hid hf2;have HTK:Hid (a[k]=b[k]→a.take (k+1)=b.take (k+1)):=fun e=>by
     rw [List.take_succ_eq_append_getElem hlt,List.take_succ_eq_append_getElem hltb,HT.out,e]
    have HNE:Hid (a[k]≠b[k]→decide (a=b)=false):=fun e=>decide_eq_false (fun h=>e (by subst h;rfl));clear f1 f2 hf1 hf2 hk64 HXA HXB;generalize a[k]=p at *;generalize b[k]=q at *;have HSZ:Hid (∀x:P32,(Tryz.prog.info? 83).map (·.size)=some (partC x).length):=fun x=>by rw [partC_len];kernel_rfl
    obtain ⟨he1,he2⟩:=eq_part2 p q wr.drew;go_wp2_with fail
    refine wp_region_tree 8 (OT.sures [0,1,4,5,2,6,3,7] .nil) (fun w'=>Upd noBlk wr w') (by kernel_rfl) (by kernel_rfl) (fun c a d v w h=>by cases d<;>exact h) ((Upd.refl noBlk wr).drew) ?_
    simp only [OT.sures]
    iterate 6 (apply wpT_sure rfl rfl;focus (intro w' hw';go_simp;rfl))
    apply wpT_sure rfl rfl
    focus (intro w' hw';exact exec_load_mid 83 (.tmp 19) rfl ba (oa+k*64) (by go_simp) (partC p) _ (HF1.out.keep hw') Tryz.underlying83 rfl (HSZ.out p))
    apply wpT_sure rfl rfl
    focus (intro w' hw';exact exec_load_mid 83 (.tmp 23) rfl bb (ob+k*64) (by go_simp) (partC q) _ (HF2.out.keep hw') Tryz.underlying83 rfl (HSZ.out q))
    refine wpT_nil ?_;by_cases hpq:p=q
    ·have HTK2:=Lib.hid (HTK.out hpq);have h1:p.1=q.1:=by rw [hpq]
     have h2:p.2=q.2:=by rw [hpq]
     rw [decide_eq_true h1] at he1;rw [decide_eq_true h2] at he2;clear HTK HNE hpq h1 h2;go_wp2_with fail
     exact ⟨⟨k+1,by push_cast;rfl,hlt,HTK2.out,HU.out.drew⟩,by simp only [intOf];omega⟩
    ·have HNE2:=Lib.hid (HNE.out hpq);by_cases h1:p.1=q.1
     ·have h2:¬p.2=q.2:=fun e=>hpq (Prod.ext h1 e);rw [decide_eq_true h1] at he1;rw [decide_eq_false h2] at he2;clear HTK HNE hpq h1 h2;go_wp2_with fail
      go_ret
      exact ⟨by rw [HNE2.out];rfl,HU.out.drew⟩
     ·rw [decide_eq_false h1] at he1;clear HTK HNE hpq h1 he2;go_wp2_with fail
      go_ret
      exact ⟨by rw [HNE2.out];rfl,HU.out.drew⟩
   ·obtain rfl:k=a.length:=by omega
    have HEQ:Hid (decide (a=b)=true):=by
     show _=_;have h:=HT.out;rw [List.take_length,HLN.out,List.take_length] at h;exact decide_eq_true h
    clear HT;go_wp2_with fail
    go_ret
    exact ⟨by rw [HEQ.out];rfl,HU.out⟩
 ·have hln':¬(a.length:Int)=(b.length:Int):=by omega
  have hne:decide (a=b)=false:=decide_eq_false (fun e=>hln (by rw [e]));go_wp2_with fail
  go_ret
  exact ⟨by rw [hne];rfl,Upd.refl _ _⟩
end Go.Proofs.YtcikldoaidmnhaaGreatDoor
namespace Go.Proofs.YtcikldoaidmnhaaGreatDoor
open Go Go.RowKit Pk
set_option maxRecDepth 100000
def sixI (n:Int):Int:=modI n 2097153-(if n<0 then 1 else 0)
def moveOf (m:Mv):Mv:=((sixI m.1.1,sixI m.1.2.1,sixI m.1.2.2),(sixI m.2.1,sixI m.2.2.1,sixI m.2.2.2))
noncomputable def kSix:Kd Tryz.prog Mv:={ T:=142,S:=60,k:=6,bytes:=48,enc:=mvC,len:=fun _=>rfl,one:=fun x v hv=>by simp [mvC] at hv;rcases hv with rfl | rfl | rfl | rfl | rfl | rfl<;>rfl,pos:=by decide,small:=by decide,und:=Tryz.underlying60,info:=kinfo_of (by kernel_rfl) }
def sixTo (m:Mv) (k:Nat):Array Value:=((List.range 6).map (fun j=>Value.int .i64 (if j<k then sixI (coordAt m j) else 0))).toArray
theorem sixTo_get (m:Mv) (k j:Nat) (h:j<6):(sixTo m k)[j]?=some (.int .i64 (if j<k then sixI (coordAt m j) else 0)):=by simp [sixTo,h]
theorem sixTo_set (m:Mv) (k:Nat) (hk:k<6):(sixTo m k).setIfInBounds k (.int .i64 (sixI (coordAt m k)))=sixTo m (k+1):=by
 apply Array.ext_getElem?;intro j;rw [Array.getElem?_setIfInBounds];by_cases h:j<6
 ·rw [sixTo_get m k j h,sixTo_get m (k+1) j h];by_cases e:k=j
  ·subst e;rw [if_pos rfl,if_pos (by simpa [sixTo] using h),if_pos (by omega)]
  ·rw [if_neg e];by_cases h2:j<k
   ·rw [if_pos h2,if_pos (by omega)]
   ·rw [if_neg h2,if_neg (by omega)]
 ·have h1:∀q,(sixTo m q)[j]?=none:=fun q=>by simp [sixTo];omega
  rw [h1,h1,if_neg (by omega)]
theorem sixTo_all (m:Mv):sixTo m 6=(mvC (moveOf m)).toArray:=by
 obtain ⟨⟨a0,a1,a2⟩,⟨a3,a4,a5⟩⟩:=m;rfl
set_option maxHeartbeats 2000000 in
theorem jMoves_any (v:Value) (l:List Mv) (w:World) (hlen:l.length≤9223372036854775807) (h:kSix.Rd w v l):Calls Tryz.prog 78 #[v] w fun en w'=>∃v,en=.returned v∧kMove.Own w.heap.size w' v ((l.take 10).map moveOf)∧Upd noBlk w w':=by
 obtain ⟨A,cap,rfl,hcap,hx⟩:=h;have HX:=Lib.hid hx;have hl':(l.length:Int)≤9223372036854775807:=by omega
 have HM:=fun n W=>Lib.hid (hMod_any n 2097153 (by decide) (by decide) W);clear hx hlen;go_enter Tryz.func78,Tryz.ntmps78
 go_wp2_with fail
 go_loopw [3,4] (fun o i wr=>∃k:Nat,i=.int .i64 k∧k≤l.length∧k≤10∧kMove.Own w.heap.size wr o ((l.take k).map moveOf)∧Upd noBlk w wr) (fun _ i _=>l.length-(intOf i).toNat)
 case atStart=>exact ⟨0,rfl,Nat.zero_le _,by omega,Kd.Own.nil _ _ _,Upd.refl _ _⟩
 case round=>
  obtain ⟨k,rfl,hk,hk10,ho,hu⟩:=hrel;have HO:=Lib.hid ho;have HU:=Lib.hid hu;clear ho hu;by_cases hlt:k<l.length
  ·have hlt':(k:Int)<(l.length:Int):=by omega
   by_cases hlt10:k<10
   ·have hlt10':(k:Int)<10:=by omega
    obtain ⟨b,off,rfl,f1⟩:=HX.out (by omega);have hat:=(f1 k hlt).keep HU.out;have hk6:kSix.k=6:=rfl;rw [hk6] at hat;have HTK:Hid ((l.take (k+1)).map moveOf=(l.take k).map moveOf++[moveOf l[k]]):=by
     show _=_;rw [List.take_succ_eq_append_getElem hlt,List.map_append];rfl
    have HLN:Hid (((l.take k).map moveOf).length=k):=by show _=_;rw [List.length_map,List.length_take];omega
    have HAT:Hid (∀j,j<6→wr.cell? ⟨b,off+k*6+j,none⟩=some (.int .i64 (coordAt l[k] j))):=fun j hj=>by
     refine hat j _ ?_;generalize l[k]=m;obtain ⟨⟨a0,a1,a2⟩,⟨a3,a4,a5⟩⟩:=m;rcases (by omega:j=0∨j=1∨j=2∨j=3∨j=4∨j=5) with rfl | rfl | rfl | rfl | rfl | rfl<;>rfl
    clear f1 hat hk6 HX;generalize l[k]=pm at *;go_upto_region 6 with fail
    have HB:Hid ((wr.alloc (.cells #[.int .i64 0,.int .i64 0,.int .i64 0,.int .i64 0,.int .i64 0,.int .i64 0] 142)).heap[wr.heap.size]?=some (.cells (sixTo pm 0) 142 (0,0))):=heap_alloc_new wr _;have HA:=Lib.hid ((Upd.refl noBlk wr).alloc (.cells #[.int .i64 0,.int .i64 0,.int .i64 0,.int .i64 0,.int .i64 0,.int .i64 0] 142));have HAT1:Hid (∀j,j<6→(wr.alloc (.cells #[.int .i64 0,.int .i64 0,.int .i64 0,.int .i64 0,.int .i64 0,.int .i64 0] 142)).cell? ⟨b,off+k*6+j,none⟩=some (.int .i64 (coordAt pm j))∧b<wr.heap.size):=fun j hj=>⟨HA.out.cell (HAT.out j hj) id,cell_lt (HAT.out j hj)⟩;have HU1:=Lib.hid (HU.out.trans HA.out);have HO1:=Lib.hid (HO.out.upd HA.out);have HOB:Hid (∀g,u3.ownBlock=some g→g<wr.heap.size):=fun g hg=>(HO.out.lt g hg).2;have HWN:Hid (w.heap.size≤wr.heap.size):=HU.out.size;clear HA HAT HU HO;generalize wr.heap.size=N at *;generalize wr.alloc (.cells #[.int .i64 0,.int .i64 0,.int .i64 0,.int .i64 0,.int .i64 0,.int .i64 0] 142)=w1 at *;go_wp2_with fail
    go_loopw [6] (fun i wz=>∃j:Nat,i=.int .i64 j∧j≤6∧wz.heap[N]?=some (.cells (sixTo pm j) 142 (0,0))∧Upd (fun b=>b=N) w1 wz) (fun i _=>6-(intOf i).toNat)
    case atStart=>exact ⟨0,rfl,by omega,HB.out,Upd.refl _ _⟩
    case round=>
     obtain ⟨j,rfl,hj,hb,hu⟩:=hrel;have HB2:=Lib.hid hb;have HU2:=Lib.hid hu;clear hb hu;by_cases hlt2:j<6
     ·have hlt3:(j:Int)<6:=by omega
      have HJ:Hid (j<6):=hlt2;have hcj:wr.cell? ⟨b,off+k*6+j,none⟩=some (.int .i64 (coordAt pm j)):=HU2.out.cell (HAT1.out j hlt2).1 (fun e=>by have h1:=(HAT1.out j hlt2).2;have e':b=N:=e;omega);have HCJ:=Lib.hid hcj;have hc:wr.cell? ⟨N,j,none⟩=some (.int .i64 0):=by rw [cell_of_row _ _ j _ 142 (0,0) HB2.out,sixTo_get pm j j hlt2,if_neg (by omega)]
      have hf:wr.frozen? ⟨N,j,none⟩=false:=by simp [World.frozen?,HB2.out]
      have HS:=sixTo_set pm j hlt2;unfold sixI at HS;have HSS:=Lib.hid HS;have HNB:Hid (¬b=N):=by show ¬_;have:=(HAT1.out j hlt2).2;omega
      clear HS hlt2;generalize coordAt pm j=q at *;have HMQ:=HM q wr;have HR:=modI_range (n:=q) (m:=2097153) (by decide);generalize modI q 2097153=md at *;obtain ⟨hr1,hr2⟩:=HR;go_wp2_with fail
      refine HMQ.out.mono ?_;rintro e w2 ⟨rfl,rfl⟩;clear HMQ;go_upto_region 10 with fail
      have HB3:Hid ((w2.setCell ⟨N,j,none⟩ (.int .i64 md)).heap[N]?=some (.cells ((sixTo pm j).setIfInBounds j (.int .i64 md)) 142 (0,0))):=heap_setCell_eq (i:=j) (.int .i64 md) HB2.out;have hset:=(Upd.refl (fun k=>k=N) w2).setCell (p:=⟨N,j,none⟩) (fun _=>rfl) (.int .i64 md);have hcj2:=hset.cell HCJ.out (HNB.out);have HU3:=Lib.hid (HU2.out.trans hset);have hsz:(sixTo pm j).size=6:=by simp [sixTo]
      have hc2:(w2.setCell ⟨N,j,none⟩ (.int .i64 md)).cell? ⟨N,j,none⟩=some (.int .i64 md):=by
       rw [cell_of_row _ _ j _ 142 (0,0) HB3.out,Array.getElem?_setIfInBounds,if_pos rfl,if_pos (by rw [hsz];exact HJ.out)]
      have hf2:(w2.setCell ⟨N,j,none⟩ (.int .i64 md)).frozen? ⟨N,j,none⟩=false:=by simp [World.frozen?,HB3.out]
      clear hset HU2 HB2 hcj hc hf hsz;generalize w2.setCell ⟨N,j,none⟩ (.int .i64 md)=w3 at *;by_cases hq:q<0
      ·rw [if_pos hq] at HSS;go_wp2_with fail
       have HB4:=heap_setCell_eq (i:=j) (.int .i64 (md-1)) HB3.out;rw [Array.setIfInBounds_setIfInBounds,HSS.out] at HB4;refine ⟨⟨j+1,by push_cast;rfl,HJ.out,HB4,HU3.out.setCell (p:=⟨N,j,none⟩) (fun _=>rfl) _⟩,?_⟩;simp only [intOf];have:=HJ.out;omega
      ·rw [if_neg hq,Int.sub_zero] at HSS;rw [HSS.out] at HB3;go_wp2_with fail
       refine ⟨⟨j+1,by push_cast;rfl,HJ.out,HB3.out,HU3.out⟩,?_⟩;simp only [intOf];have:=HJ.out;omega
     ·obtain rfl:j=6:=by omega
      have HB3:Hid (wr.heap[N]?=some (.cells (mvC (moveOf pm)).toArray 142 (0,0))):=by show _=_;rw [←sixTo_all];exact HB2.out
      have HU4:=Lib.hid (HU1.out.then HU2.out (fun i hi e=>by have e':i=N:=e;have:=HWN.out;omega));have HO4:=Lib.hid (HO1.out.other HU2.out (fun g hg e=>by have:=HOB.out g hg;have e':g=N:=e;omega));clear HB2 HU2 HAT1 HU1 HO1 hj hlt2 HM;generalize moveOf pm=mv at *;obtain ⟨g,cap2,w3,r3,o3,v3,_⟩:=HO4.out.app1 HU4.out.size mv (by rw [HLN.out];omega);rw [HLN.out] at r3 o3;rw [←HTK.out] at o3;have O3:=Lib.hid o3;have HU5:=Lib.hid (HU4.out.then v3 (fun i hi e=>absurd hi (by have:=(HO4.out.blk e).1;omega)));have hlt11:=Lib.hid hlt;obtain ⟨⟨a0,a1,a2⟩,⟨a3,a4,a5⟩⟩:=mv;have R3:=Lib.hid r3;clear r3 o3 v3;have HB5:wr.heap[N]?=some (.cells #[.int .i64 a0,.int .i64 a1,.int .i64 a2,.int .i64 a3,.int .i64 a4,.int .i64 a5] 142 (0,0)):=HB3.out;obtain ⟨⟨f0,f1,f2,f3,f4,f5⟩,_⟩:=cellsF6 HB5;clear HB5;go_wp2_with (at_builtin;refine wpList_append_run rfl _ _ _ rfl rfl rfl R3.out ?_)
      exact ⟨⟨k+1,by push_cast;rfl,hlt11.out,hlt10,O3.out,HU5.out⟩,by simp only [intOf];have:=hlt11.out;omega⟩
   ·obtain rfl:k=10:=by omega
    go_wp2_with fail
    go_ret
    exact ⟨_,rfl,HO.out,HU.out⟩
  ·obtain rfl:k=l.length:=by omega
   have HTK:Hid (l.take 10=l.take l.length):=by
    show _=_;rw [List.take_length,List.take_of_length_le hk10]
   go_wp2_with fail
   go_ret
   exact ⟨_,rfl,by rw [HTK.out];exact HO.out,HU.out⟩
end Go.Proofs.YtcikldoaidmnhaaGreatDoor
