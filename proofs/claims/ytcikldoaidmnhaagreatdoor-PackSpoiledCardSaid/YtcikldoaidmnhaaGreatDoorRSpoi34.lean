/- Parts: Walks of the reference of packets: hashes and parts are read. No condition. Walks of the reference of packets: lists of parts compared. No condition. Walks of the reference's meshes: two ordered lists are merged. No condition. -/
import Derived.Test.YtcikldoaidmnhaaGreatDoorRSpoi1
import Derived.Test.YtcikldoaidmnhaaGreatDoorRSpoi2
import Derived.Test.YtcikldoaidmnhaaGreatDoorRSpoi3
import Derived.Test.YtcikldoaidmnhaaGreatDoorRSpoi4
import Derived.Test.YtcikldoaidmnhaaGreatDoorRSpoi5
import Derived.Test.YtcikldoaidmnhaaGreatDoorRSpoi6
import Derived.Test.YtcikldoaidmnhaaGreatDoorRSpoi7
import Derived.Test.YtcikldoaidmnhaaGreatDoorRSpoi9
import Derived.Test.YtcikldoaidmnhaaGreatDoorRSpoi11
import Derived.Test.YtcikldoaidmnhaaGreatDoorRSpoi12
import Derived.Test.YtcikldoaidmnhaaGreatDoorRSpoi14
import Derived.Test.YtcikldoaidmnhaaGreatDoorRSpoi17
import Derived.Test.YtcikldoaidmnhaaGreatDoorRSpoi18
import Derived.Test.YtcikldoaidmnhaaGreatDoorRSpoi19
import Derived.Test.YtcikldoaidmnhaaGreatDoorRSpoi25
import Derived.Test.YtcikldoaidmnhaaGreatDoorRSpoi29
import Derived.Test.YtcikldoaidmnhaaGreatDoorRSpoi30
import Derived.WalkKit
import Derived.WalkSpells
import Derived.WalkLawsBesides
import Derived.Lib.Hide
import Derived.BigQuiet
import Derived.Deep.DeepFit
import Derived.Deep.DeepCutAuto
import Derived.Deep.AppendLies
import Derived.Deep.QuietTactic
import Derived.Test.YtcikldoaidmnhaaGreatDoorRows
import Derived.Deep.RegionHeld3
import Derived.StillTail
import Derived.Maps.OwnOps
import Derived.Maps.OwnSet
import Derived.Maps.RangeWalk
import Derived.WideKeyEntry
import Derived.Deep.MidRow
import Derived.Lib.Bits
import Derived.Laws.EntriesVeiled
import Derived.Handy
import Derived.DeepKeys4
import Derived.ArgAppend
import Derived.Deep.Upon
import Derived.Deep.CutBlock
import Derived.Test.YtcikldoaidmnhaaGreatDoorShelf2
import Derived.Laws.BitsAllLaws
import Derived.Laws.BytesArg
import Derived.Deep.WholeRow
import Derived.Test.YtcikldoaidmnhaaGreatDoorShelf
import Derived.Lib.Zigzag
import Derived.Recover
import Derived.Laws.IdiomStrings
import Derived.ChangeKeysEq
import Derived.Deep.AppendSrc
namespace Go.Proofs.YtcikldoaidmnhaaGreatDoor
open Go Go.RowKit Pk
set_option maxRecDepth 100000
theorem eqItems_bytes (d:Nat) (l m:Bytes) (hl:l.length=32) (hm:m.length=32) (W:World):∀is:List Nat,(∀i,i∈is→i<32) →
  (Op.eqItems (d+1) 5 1 (byV l).toArray (byV m).toArray is).run Tryz.prog W=.ok (decide (∀i,i∈is→l[i]?=m[i]?)) W
 | [],_=>by simp [Op.eqItems]
 | i :: is,h=>by
  have ih:=eqItems_bytes d l m hl hm W is (fun j hj=>h j (List.mem_cons_of_mem _ hj));have hi:=h i (by simp);have e1:(byV l).toArray[i*1]?=some (.int .u8 ((l[i]'(by omega)).toNat:Nat)):=by simp [byV,hl,hi]
  have e2:(byV m).toArray[i*1]?=some (.int .u8 ((m[i]'(by omega)).toNat:Nat)):=by simp [byV,hm,hi]
  have hp:Tryz.prog.plainKey 5=true:=by kernel_rfl
  rw [Op.eqItems,Sem.run_bind,run_part_plain W hp e1,Result.andThen_ok,Sem.run_bind,run_part_plain W hp e2,Result.andThen_ok,Sem.run_bind,run_equalIn_int W d 5 .u8 .u8 _ _ Tryz.underlying5,Result.andThen_ok];have q1:l[i]?=some (l[i]'(by omega)):=List.getElem?_eq_getElem (by omega);have q2:m[i]?=some (m[i]'(by omega)):=List.getElem?_eq_getElem (by omega);by_cases hx:l[i]'(by omega)=m[i]'(by omega)
  ·have hb:((((l[i]'(by omega)).toNat:Nat):Int) == (((m[i]'(by omega)).toNat:Nat):Int))=true:=by rw [hx];simp
   rw [hb];simp only [Bool.not_true,Bool.false_eq_true,if_false,ih];congr 1
   rw [decide_eq_decide];constructor
   ·intro h1 j hj;rcases List.mem_cons.1 hj with rfl | hj
    ·rw [q1,q2,hx]
    ·exact h1 j hj
   ·exact fun h1 j hj=>h1 j (List.mem_cons_of_mem _ hj)
  ·have hb:((((l[i]'(by omega)).toNat:Nat):Int) == (((m[i]'(by omega)).toNat:Nat):Int))=false:=by
    rw [beq_eq_false_iff_ne];intro e;exact hx (UInt8.toNat_inj.1 (by omega))
   rw [hb];simp only [Bool.not_false,if_true,Sem.run_pure];congr 1
   symm
   rw [decide_eq_false_iff_not];intro h1;have h2:=h1 i (by simp);rw [q1,q2] at h2;exact hx (Option.some.inj h2)
theorem eq_hash (d:Nat) (a b:H32) (W:World):(Op.equalIn (d+2) 81 (.agg (byV a.1).toArray) (.agg (byV b.1).toArray)).run Tryz.prog W=.ok (decide (a=b)) W:=by
 obtain ⟨i,hi⟩:∃i,Tryz.prog.info? 5=some i:=by
  cases h:Tryz.prog.info? 5 with
  | none=>
   have:(Tryz.prog.info? 5).isSome=true:=by kernel_rfl
   rw [h] at this;cases this
  | some i=>exact ⟨i,rfl⟩
 rw [run_equalIn_array W (d+1) _ _ Tryz.underlying81 hi,show Tryz.prog.cellsOf 5=1 by kernel_rfl,eqItems_bytes d a.1 b.1 a.2 b.2 W _ (fun i hi=>List.mem_range.1 hi)];congr 1
 rw [decide_eq_decide];constructor
 ·intro h;apply Subtype.ext;apply List.ext_getElem?;intro j;by_cases hj:j<32
  ·exact h j (List.mem_range.2 hj)
  ·rw [List.getElem?_eq_none (by rw [a.2];omega),List.getElem?_eq_none (by rw [b.2];omega)]
 ·rintro rfl i _;rfl
theorem st1:Tryz.prog.underlying 83=some (.struct (Tryz.prog.fieldsOf 83)):=by kernel_rfl
theorem st2:Tryz.prog.stoodInHeld 83=false:=by kernel_rfl
theorem take_part (p:P32):List.take 32 (partC p)=byV p.1.1∧List.take 32 (List.drop 32 (partC p))=byV p.2.1:=by
 have l1:(byV p.1.1).length=32:=by rw [byV_len,p.1.2]
 have l2:(byV p.2.1).length=32:=by rw [byV_len,p.2.2]
 unfold partC;generalize byV p.1.1=x at *;generalize byV p.2.1=y at *;constructor
 ·exact List.take_left' l1
 ·rw [List.drop_left' l1];exact List.take_of_length_le (by omega)
theorem eq_part2 (p q:P32) (W:World):(Op.equalIn 9999 81 (.agg (List.take 32 (partC p)).toArray) (.agg (List.take 32 (partC q)).toArray)).run Tryz.prog W=.ok (decide (p.1=q.1)) W∧(Op.equalIn 9999 81 (.agg (List.take 32 (List.drop 32 (partC p))).toArray) (.agg (List.take 32 (List.drop 32 (partC q))).toArray)).run Tryz.prog W=.ok (decide (p.2=q.2)) W:=by
 have e1:=eq_hash 9997 p.1 q.1 W;have e2:=eq_hash 9997 p.2 q.2 W;simp only [Nat.reduceAdd] at e1 e2;rw [(take_part p).1,(take_part q).1,(take_part p).2,(take_part q).2];exact ⟨e1,e2⟩
set_option maxHeartbeats 2000000 in
theorem jSameParts_any (va vb:Value) (a b:List P32) (hla:a.length≤9223372036854775807) (w:World) (ha:kPart.Rd w va a) (hb:kPart.Rd w vb b):Calls Tryz.prog 28 #[va,vb] w fun en w'=>en=.returned (.bool (decide (a=b)))∧Upd noBlk w w':=by
 obtain ⟨A,cap,rfl,hcap,hxa⟩:=ha;obtain ⟨B,capb,rfl,hcapb,hxb⟩:=hb;have HXA:=Lib.hid hxa;have HXB:=Lib.hid hxb;have hl':(a.length:Int)≤9223372036854775807:=by omega
 clear hxa hxb hla;go_enter Tryz.func28,Tryz.ntmps28
 by_cases hln:a.length=b.length
 ·have hln':(a.length:Int)=(b.length:Int):=by omega
  have HLN:=Lib.hid hln;have hlb:(b.length:Int)≤9223372036854775807:=by omega
  clear hln;go_wp2_with fail
  go_loopw [5] (fun i wr=>∃k:Nat,i=.int .i64 k∧k≤a.length∧a.take k=b.take k∧Upd noBlk w wr) (fun i _=>a.length-(intOf i).toNat)
  case atStart=>exact ⟨0,rfl,Nat.zero_le _,rfl,Upd.refl _ _⟩
  case round=>
   obtain ⟨k,rfl,hk,htk,hu⟩:=hrel;have HT:=Lib.hid htk;have HU:=Lib.hid hu;clear htk hu;by_cases hlt:k<a.length
   ·have hlt':(k:Int)<(a.length:Int):=by omega
    have hltb:k<b.length:=by have:=HLN.out;omega
    have hltb':(k:Int)<(b.length:Int):=by omega
    obtain ⟨ba,oa,rfl,f1⟩:=HXA.out (by omega);obtain ⟨bb,ob,rfl,f2⟩:=HXB.out (by omega);have hk64:kPart.k=64:=rfl;have hf1:=(f1 k hlt).keep HU.out;have hf2:=(f2 k hltb).keep HU.out;rw [hk64] at hf1 hf2;have HF1:=Lib.hid hf1;have HF2:=Lib.hid hf2;have HTK:Hid (a[k]=b[k]→a.take (k+1)=b.take (k+1)):=fun e=>by
     rw [List.take_succ_eq_append_getElem hlt,List.take_succ_eq_append_getElem hltb,HT.out,e]
    have HNE:Hid (a[k]≠b[k]→decide (a=b)=false):=fun e=>decide_eq_false (fun h=>e (by subst h;rfl));clear f1 f2 hf1 hf2 hk64 HXA HXB;generalize a[k]=p at *;generalize b[k]=q at *;have HSZ:Hid (∀x:P32,(Tryz.prog.info? 83).map (·.size)=some (partC x).length):=fun x=>by rw [partC_len];kernel_rfl
    obtain ⟨he1,he2⟩:=eq_part2 p q wr.drew;go_wp2_with fail
    refine wp_region_tree 8 (OT.sures [0,1,4,5,2,6,3,7] .nil) (fun w'=>Upd noBlk wr w') (by kernel_rfl) (by kernel_rfl) (fun c a d v w h=>by cases d<;>exact h) ((Upd.refl noBlk wr).drew) ?_
    simp only [OT.sures]
    iterate 6 (apply wpT_sure rfl rfl;focus (intro w' hw';go_simp;rfl))
    apply wpT_sure rfl rfl
    focus (intro w' hw';exact exec_load_mid 83 (.tmp 19) rfl ba (oa+k*64) (by go_simp) (partC p) _ (HF1.out.keep hw') Tryz.underlying83 rfl (HSZ.out p))
    apply wpT_sure rfl rfl
    focus (intro w' hw';exact exec_load_mid 83 (.tmp 23) rfl bb (ob+k*64) (by go_simp) (partC q) _ (HF2.out.keep hw') Tryz.underlying83 rfl (HSZ.out q))
    refine wpT_nil ?_;by_cases hpq:p=q
    ·have HTK2:=Lib.hid (HTK.out hpq);have h1:p.1=q.1:=by rw [hpq]
     have h2:p.2=q.2:=by rw [hpq]
     rw [decide_eq_true h1] at he1;rw [decide_eq_true h2] at he2;clear HTK HNE hpq h1 h2;go_wp2_with fail
     exact ⟨⟨k+1,by push_cast;rfl,hlt,HTK2.out,HU.out.drew⟩,by simp only [intOf];omega⟩
    ·have HNE2:=Lib.hid (HNE.out hpq);by_cases h1:p.1=q.1
     ·have h2:¬p.2=q.2:=fun e=>hpq (Prod.ext h1 e);rw [decide_eq_true h1] at he1;rw [decide_eq_false h2] at he2;clear HTK HNE hpq h1 h2;go_wp2_with fail
      go_ret
      exact ⟨by rw [HNE2.out];rfl,HU.out.drew⟩
     ·rw [decide_eq_false h1] at he1;clear HTK HNE hpq h1 he2;go_wp2_with fail
      go_ret
      exact ⟨by rw [HNE2.out];rfl,HU.out.drew⟩
   ·obtain rfl:k=a.length:=by omega
    have HEQ:Hid (decide (a=b)=true):=by
     show _=_;have h:=HT.out;rw [List.take_length,HLN.out,List.take_length] at h;exact decide_eq_true h
    clear HT;go_wp2_with fail
    go_ret
    exact ⟨by rw [HEQ.out];rfl,HU.out⟩
 ·have hln':¬(a.length:Int)=(b.length:Int):=by omega
  have hne:decide (a=b)=false:=decide_eq_false (fun e=>hln (by rw [e]));go_wp2_with fail
  go_ret
  exact ⟨by rw [hne];rfl,Upd.refl _ _⟩
end Go.Proofs.YtcikldoaidmnhaaGreatDoor
namespace Go.Proofs.YtcikldoaidmnhaaGreatDoor
open Go Go.RowKit Pk
set_option maxRecDepth 100000
theorem Kd.Own.app0 {α:Type} {K:Kd Tryz.prog α} {base:Nat} {w:World} {v:Value} {l:List α} (h:K.Own base w v l) (A:Option Addr) (c:Nat):(Builtin.append_ #[K.S,K.S] K.S #[v,.slice A 0 c]).run Tryz.prog w=.ok v w:=by
 obtain ⟨i,z,hi,hz,h1,h2,h3⟩:=K.info;obtain ⟨Av,cap,rfl,hc⟩:=h.form;refine run_append_nothing w K.S K.S K.S K.T i K.und hi Av l.length cap hc (.slice A 0 c) ?_;cases A with
 | none=>exact Src.ofNil w K.und c
 | some a=>exact Src.ofSlice w K.und a 0 c [] (by simp) (by intro j u hu;simp at hu) (by intro u hu;cases hu)
theorem mergeT_take {a b:List Tri} {i j:Nat} (hi:i<a.length) (hj:j<b.length) (h:triLt b[j] a[i]=true):mergeT (a.drop i) (b.drop j)=b[j] :: mergeT (a.drop i) (b.drop (j+1)):=by
 rw [List.drop_eq_getElem_cons hi,List.drop_eq_getElem_cons hj];show List.takeWhile (fun t=>triLt t a[i]) (b[j] :: b.drop (j+1))++a[i] :: mergeT (a.drop (i+1)) (List.dropWhile (fun t=>triLt t a[i]) (b[j] :: b.drop (j+1)))=b[j] :: (List.takeWhile (fun t=>triLt t a[i]) (b.drop (j+1))++a[i] :: mergeT (a.drop (i+1)) (List.dropWhile (fun t=>triLt t a[i]) (b.drop (j+1))));rw [List.takeWhile_cons_of_pos (p:=fun t=>triLt t a[i]) h,List.dropWhile_cons_of_pos (p:=fun t=>triLt t a[i]) h];rfl
theorem mergeT_skip {a b:List Tri} {i j:Nat} (hi:i<a.length) (h:∀hj:j<b.length,triLt b[j] a[i]=false):mergeT (a.drop i) (b.drop j)=a[i] :: mergeT (a.drop (i+1)) (b.drop j):=by
 rw [List.drop_eq_getElem_cons hi,mergeT];by_cases hj:j<b.length
 ·have h2:=h hj;rw [List.drop_eq_getElem_cons hj,List.takeWhile_cons_of_neg (p:=fun t=>triLt t a[i]) (by rw [h2];decide),List.dropWhile_cons_of_neg (p:=fun t=>triLt t a[i]) (by rw [h2];decide)];rfl
 ·rw [List.drop_of_length_le (by omega)];rfl
theorem mergeT_end {a b:List Tri} {i j:Nat} (hi:a.length≤i):mergeT (a.drop i) (b.drop j)=b.drop j:=by
 rw [List.drop_of_length_le hi];rfl
set_option maxHeartbeats 4000000 in
theorem hMerge_any (va vb:Value) (a b:List Tri) (ha:a.length≤1000000) (hb:b.length≤1000000) (w:World) (hra:kTri.Rd w va a) (hrb:kTri.Rd w vb b) :
  Calls Tryz.prog 118 #[va,vb] w fun en w'=>∃v,en=.returned v∧kTri.Own w.heap.size w' v (mergeT a b)∧Upd noBlk w w':=by
 obtain ⟨M,hM⟩:∃M,M=mergeT a b:=⟨_,rfl⟩;rw [←hM];have hl:=fun p q W=>Lib.hid (hLessTri_any p q W);obtain ⟨A,capa,rfl,hca,hxa⟩:=hra;obtain ⟨B,capb,rfl,hcb,hxb⟩:=hrb;have HXA:=Lib.hid hxa;have HXB:=Lib.hid hxb;have HAL:Hid (a.length≤1000000):=ha;have HBL:Hid (b.length≤1000000):=hb;have HCB:Hid (b.length≤capb):=hcb;have HM:Hid ([]++mergeT (a.drop 0) (b.drop 0)=M):=hM.symm;have hal:(a.length:Int)≤1000000:=by omega
 have hbl:(b.length:Int)≤1000000:=by omega
 clear hxa hxb hM ha hb hca hcb;go_enter Tryz.func118,Tryz.ntmps118
 go_wp2_with fail
 go_loopw [5,6,7] (fun o jv iv wr=>∃(i j:Nat) (acc:List Tri),iv=.int .i64 i∧jv=.int .i64 j∧i≤a.length∧j≤b.length∧acc.length=i+j∧kTri.Own w.heap.size wr o acc∧acc++mergeT (a.drop i) (b.drop j)=M∧Upd noBlk w wr) (fun _ _ iv _=>a.length-(intOf iv).toNat)
 case atStart=>exact ⟨0,0,[],rfl,rfl,Nat.zero_le _,Nat.zero_le _,rfl,Kd.Own.nil _ _ _,HM.out,Upd.refl _ _⟩
 case round=>
  obtain ⟨i,j,acc,rfl,rfl,hi,hj,hlen,ho,hm,hu⟩:=hrel;have HO:=Lib.hid ho;have HM2:=Lib.hid hm;have HU:=Lib.hid hu;have HLN:Hid (acc.length=i+j):=hlen;have HJ:Hid (j≤b.length):=hj;clear ho hm hu hlen HM hj;by_cases hlt:i<a.length
  ·have hlt':(i:Int)<(a.length:Int):=by omega
   have HI:Hid (i<a.length):=hlt;obtain ⟨ba,oa,rfl,f1⟩:=HXA.out (by omega);have hk9:kTri.k=9:=rfl;have hf1:=f1 i hlt;rw [hk9] at hf1;have HF1:=Lib.hid hf1;have HTK:Hid (∀j' (h:j'<b.length),triLt b[j'] a[i]=true→mergeT (a.drop i) (b.drop j')=b[j'] :: mergeT (a.drop i) (b.drop (j'+1))):=fun j' h h2=>mergeT_take hlt h h2;have HSK:Hid (∀j',(∀h:j'<b.length,triLt b[j'] a[i]=false)→mergeT (a.drop i) (b.drop j')=a[i] :: mergeT (a.drop (i+1)) (b.drop j')):=fun j' h2=>mergeT_skip hlt h2;clear hf1 f1 hk9;generalize a[i]=ai at *;clear hlt hi;obtain ⟨⟨a0,a1,a2⟩,⟨a3,a4,a5⟩,⟨a6,a7,a8⟩⟩:=ai;have hwi:IntKind.i64.wrap ((i:Int)+1)=(i:Int)+1:=wrapN (by omega) (by omega);go_wp2_with fail
   go_loopw [5,6,8] (fun o jv lv wz=>∃(j:Nat) (acc:List Tri),jv=.int .i64 j∧j≤b.length∧acc.length=i+j∧kTri.Own w.heap.size wz o acc∧acc++mergeT (a.drop i) (b.drop j)=M∧Upd noBlk w wz) (fun _ jv _ _=>b.length-(intOf jv).toNat)
   case atStart=>exact ⟨j,acc,rfl,HJ.out,HLN.out,HO.out,HM2.out,HU.out⟩
   case round=>
    obtain ⟨j,acc,rfl,hj,hlen,ho,hm,hu⟩:=hrel;have HO:=Lib.hid ho;have HM2:=Lib.hid hm;have HU:=Lib.hid hu;have HLN:Hid (acc.length=i+j):=hlen;clear ho hm hu hlen;by_cases hjt:j<b.length
    ·have hjt':(j:Int)<(b.length:Int):=by omega
     obtain ⟨bb,ob,rfl,f2⟩:=HXB.out (by omega);have hk9:kTri.k=9:=rfl;have hf2:=f2 j hjt;rw [hk9] at hf2;have HF2:=Lib.hid (hf2.keep HU.out);have HF3:=Lib.hid (HF1.out.keep HU.out);have HTJ:=Lib.hid (fun h=>HTK.out j hjt h);have HSJ:=Lib.hid (fun h:triLt b[j] ((a0,a1,a2),(a3,a4,a5),(a6,a7,a8))=false=>HSK.out j (fun _=>h));have HJB:Hid (j<b.length):=hjt;clear f2 hf2 hk9;generalize b[j]=bj at *;clear hjt hj;obtain ⟨⟨b0,b1,b2⟩,⟨b3,b4,b5⟩,⟨b6,b7,b8⟩⟩:=bj;have hwj:IntKind.i64.wrap ((j:Int)+1)=(j:Int)+1:=wrapN (by omega) (by omega);have HLT:=Lib.hid (hl ((b0,b1,b2),(b3,b4,b5),(b6,b7,b8)) ((a0,a1,a2),(a3,a4,a5),(a6,a7,a8)) wr.drew);go_wp2_with fail
     refine wp_region_tree 8 (OT.sures [0,1,4,5,2,6,3,7] .nil) (fun w'=>Gr wr w') (by kernel_rfl) (by kernel_rfl) (fun c a d v w h=>by cases d<;>exact h) ((Gr.refl wr).drew) ?_
     simp only [OT.sures]
     iterate 8 (apply wpT_sure rfl rfl;focus (intro w' hw';obtain ⟨g0,g1,g2,g3,g4,g5,g6,g7,g8⟩:=triAt9 (HF2.out.keep hw'.up);obtain ⟨k0,k1,k2,k3,k4,k5,k6,k7,k8⟩:=triAt9 (HF3.out.keep hw'.up);go_simp;rfl))
     refine wpT_nil ?_;go_wp2_with fail
     refine HLT.out.mono ?_;rintro e w2 ⟨rfl,u2⟩;have U2:=Lib.hid (HU.out.trans ((Upd.refl noBlk wr).drew.trans u2));have O2:=Lib.hid (HO.out.upd ((Upd.refl noBlk wr).drew.trans u2));have HF2:=Lib.hid (HF2.out.keep ((Upd.refl noBlk wr).drew.trans u2));clear u2 HF3 HO HU HLT;rcases hlt9:triLt ((b0,b1,b2),(b3,b4,b5),(b6,b7,b8)) ((a0,a1,a2),(a3,a4,a5),(a6,a7,a8)) with _ | _
     ·have HMS:Hid (acc++(((a0,a1,a2),(a3,a4,a5),(a6,a7,a8)) :: mergeT (a.drop (i+1)) (b.drop j))=M):=by show _=_;rw [←HM2.out,HSJ.out hlt9]
      have HJL:Hid (j≤b.length):=Nat.le_of_lt HJB.out;clear hlt9 HTJ HSJ HM2 HF2;obtain ⟨g,cap2,w3,r3,o3,v3,_⟩:=O2.out.app1 (Nat.le_trans U2.out.size (Nat.le_refl _)) ((a0,a1,a2),(a3,a4,a5),(a6,a7,a8)) (by rw [HLN.out];have:=HI.out;have:=HJL.out;have:=HAL.out;have:=HBL.out;omega);rw [HLN.out] at r3 o3;have R3:=Lib.hid r3;have O3:=Lib.hid o3;have V3:=Lib.hid v3;have HV:Hid (∀k,k<w.heap.size→u5.ownBlock=some k→noBlk k):=fun k hk e=>absurd hk (by have:=(O2.out.blk e).1;omega);have U3:=Lib.hid (U2.out.then V3.out HV.out);clear r3 o3 v3;obtain ⟨g0,g1,g2,g3,g4,g5,g6,g7,g8⟩:=triAt9 (HF1.out.keep U2.out);go_wp2_with (at_builtin;refine wpList_append_run rfl _ _ _ rfl rfl rfl R3.out ?_)
      refine ⟨⟨i+1,j,acc++[((a0,a1,a2),(a3,a4,a5),(a6,a7,a8))],by push_cast;rfl,rfl,by have:=HI.out;omega,HJL.out,by rw [List.length_append,HLN.out];simp only [List.length_cons,List.length_nil];omega,?_,?_,U3.out⟩,?_⟩
      ·have h3:=O3.out;have e:i+1+j=i+j+1:=by omega
       exact h3
      ·rw [List.append_assoc];exact HMS.out
      ·simp only [intOf];have:=HI.out;omega
     ·have HMS:Hid (acc++(((b0,b1,b2),(b3,b4,b5),(b6,b7,b8)) :: mergeT (a.drop i) (b.drop (j+1)))=M):=by show _=_;rw [←HM2.out,HTJ.out hlt9]
      clear hlt9 HTJ HSJ HM2;obtain ⟨g,cap2,w3,r3,o3,v3,_⟩:=O2.out.app1 (Nat.le_trans U2.out.size (Nat.le_refl _)) ((b0,b1,b2),(b3,b4,b5),(b6,b7,b8)) (by rw [HLN.out];have:=HI.out;have:=HJB.out;have:=HAL.out;have:=HBL.out;omega);rw [HLN.out] at r3 o3;have R3:=Lib.hid r3;have O3:=Lib.hid o3;have V3:=Lib.hid v3;have HV:Hid (∀k,k<w.heap.size→u5.ownBlock=some k→noBlk k):=fun k hk e=>absurd hk (by have:=(O2.out.blk e).1;omega);have U3:=Lib.hid (U2.out.then V3.out HV.out);clear r3 o3 v3;obtain ⟨g0,g1,g2,g3,g4,g5,g6,g7,g8⟩:=triAt9 HF2.out;go_wp2_with (at_builtin;refine wpList_append_run rfl _ _ _ rfl rfl rfl R3.out ?_)
      refine ⟨⟨j+1,acc++[((b0,b1,b2),(b3,b4,b5),(b6,b7,b8))],by push_cast;rfl,HJB.out,by rw [List.length_append,HLN.out];rfl,?_,?_,U3.out⟩,?_⟩
      ·exact O3.out
      ·rw [List.append_assoc];exact HMS.out
      ·simp only [intOf];have:=HJB.out;omega
    ·obtain rfl:j=b.length:=by omega
     have HMS:Hid (acc++(((a0,a1,a2),(a3,a4,a5),(a6,a7,a8)) :: mergeT (a.drop (i+1)) (b.drop b.length))=M):=by show _=_;rw [←HM2.out,HSK.out b.length (fun h=>absurd h (Nat.lt_irrefl _))]
     have HJL:Hid (b.length≤b.length):=Nat.le_refl _;have U2:=HU;have O2:=HO;clear HM2 HU HO;obtain ⟨g,cap2,w3,r3,o3,v3,_⟩:=O2.out.app1 (Nat.le_trans U2.out.size (Nat.le_refl _)) ((a0,a1,a2),(a3,a4,a5),(a6,a7,a8)) (by rw [HLN.out];have:=HI.out;have:=HJL.out;have:=HAL.out;have:=HBL.out;omega);rw [HLN.out] at r3 o3;have R3:=Lib.hid r3;have O3:=Lib.hid o3;have V3:=Lib.hid v3;have HV:Hid (∀k,k<w.heap.size→u5.ownBlock=some k→noBlk k):=fun k hk e=>absurd hk (by have:=(O2.out.blk e).1;omega);have U3:=Lib.hid (U2.out.then V3.out HV.out);clear r3 o3 v3;obtain ⟨g0,g1,g2,g3,g4,g5,g6,g7,g8⟩:=triAt9 (HF1.out.keep U2.out);go_wp2_with (at_builtin;refine wpList_append_run rfl _ _ _ rfl rfl rfl R3.out ?_)
     refine ⟨⟨i+1,b.length,acc++[((a0,a1,a2),(a3,a4,a5),(a6,a7,a8))],by push_cast;rfl,rfl,by have:=HI.out;omega,HJL.out,by rw [List.length_append,HLN.out];simp only [List.length_cons,List.length_nil];omega,?_,?_,U3.out⟩,?_⟩
     ·have h3:=O3.out;have e:i+1+b.length=i+b.length+1:=by omega
      exact h3
     ·rw [List.append_assoc];exact HMS.out
     ·simp only [intOf];have:=HI.out;omega
  ·obtain rfl:i=a.length:=by omega
   have HMS:Hid (acc++b.drop j=M):=by show _=_;rw [←HM2.out,mergeT_end (Nat.le_refl _)]
   clear HM2;have hjn:(j:Int)≤1000000:=by have:=HJ.out;omega
   by_cases hjt:j<b.length
   ·obtain ⟨bb,ob,rfl,f2⟩:=HXB.out (by omega);have hjc:¬capb=j:=by have:=HCB.out;omega
    have hadd:(⟨bb,ob,none⟩:Addr).add (j*9)=⟨bb,ob+j*9,none⟩:=Addr.add_mid _ _ _;have hj1:(j:Int)≤(b.length:Int):=by omega
    have hj2:(b.length:Int)≤(capb:Int):=by have:=HCB.out;omega
    have hk9:kTri.k=9:=rfl;have hat:∀j' (h:j'<(b.drop j).length),kTri.At wr bb (ob+j*9+j'*kTri.k) (b.drop j)[j']:=fun j' h=>by
     rw [List.getElem_drop];have h2:=(f2 (j+j') (by rw [List.length_drop] at h;omega)).keep HU.out;rw [hk9] at h2 ⊢;rw [Nat.add_mul,←Nat.add_assoc] at h2;exact h2
    obtain ⟨g,cap2,w3,r3,o3,v3,_⟩:=HO.out.appN HU.out.size (c:=capb-j) (b.drop j) hat (by rw [List.length_drop,HLN.out];have:=HAL.out;have:=HBL.out;omega) (by rw [List.length_drop];omega);rw [List.length_drop] at r3 o3;rw [HMS.out] at o3;have R3:=Lib.hid r3;have O3:=Lib.hid o3;have U3:=Lib.hid (HU.out.then v3 (fun k hk e=>absurd hk (by have:=(HO.out.blk e).1;omega)));clear r3 o3 v3 hat f2 hk9;go_wp2_with (at_builtin;refine wpList_append_run rfl _ _ _ rfl rfl rfl R3.out ?_)
    go_ret
    exact ⟨_,rfl,O3.out,U3.out⟩
   ·obtain rfl:j=b.length:=by have:=HJ.out;omega
    have hj2:(b.length:Int)≤(capb:Int):=by have:=HCB.out;omega
    have hacc:acc=M:=by have:=HMS.out;rw [List.drop_length,List.append_nil] at this;exact this
    subst hacc;cases B with
    | none=>
     go_wp2_with (at_builtin;refine wpList_append_run rfl _ _ _ rfl rfl rfl (HO.out.app0 _ _) ?_)
     go_ret
     exact ⟨_,rfl,HO.out,HU.out⟩
    | some ad=>
     by_cases hc:capb=b.length
     ·go_wp2_with (at_builtin;refine wpList_append_run rfl _ _ _ rfl rfl rfl (HO.out.app0 _ _) ?_)
      go_ret
      exact ⟨_,rfl,HO.out,HU.out⟩
     ·go_wp2_with (at_builtin;refine wpList_append_run rfl _ _ _ rfl rfl rfl (HO.out.app0 _ _) ?_)
      go_ret
      exact ⟨_,rfl,HO.out,HU.out⟩
end Go.Proofs.YtcikldoaidmnhaaGreatDoor
namespace Go.Proofs.YtcikldoaidmnhaaGreatDoor
open Go Go.RowKit Pk
set_option maxRecDepth 100000
theorem getD_at (s:Bytes) (k:Nat) (h:k<s.length):s.getD k 0=s[k]:=by
 rw [List.getD_eq_getElem?_getD,List.getElem?_eq_getElem h];rfl
def byTo (s:Bytes) (k:Nat):Array Value:=((List.range 32).map (fun j=>Value.int .u8 (if j<k then (((s.getD j 0).toNat:Nat):Int) else 0))).toArray
theorem byTo_get (s:Bytes) (k j:Nat) (h:j<32):(byTo s k)[j]?=some (.int .u8 (if j<k then (((s.getD j 0).toNat:Nat):Int) else 0)):=by
 simp [byTo,h]
theorem byTo_succ (s:Bytes) (k:Nat):(byTo s k).setIfInBounds k (.int .u8 (((s.getD k 0).toNat:Nat):Int))=byTo s (k+1):=by
 apply Array.ext_getElem?;intro j;rw [Array.getElem?_setIfInBounds];by_cases h:j<32
 ·rw [byTo_get s k j h,byTo_get s (k+1) j h];by_cases e:k=j
  ·subst e;rw [if_pos rfl,if_pos (by simpa [byTo] using h),if_pos (by omega)]
  ·rw [if_neg e];by_cases h2:j<k
   ·rw [if_pos h2,if_pos (by omega)]
   ·rw [if_neg h2,if_neg (by omega)]
 ·have h1:∀q,(byTo s q)[j]?=none:=fun q=>by simp [byTo];omega
  rw [h1,h1];by_cases e:k=j
  ·subst e;rw [if_pos rfl,if_neg (by simpa [byTo] using h)]
  ·rw [if_neg e]
theorem byTo_end {s:Bytes} (h:32≤s.length):byTo s 32=(hashC (h32 (s.take 32))).toArray:=by
 have hl:(s.take 32).length=32:=by rw [List.length_take];omega
 rw [h32_mk hl];unfold byTo hashC byV;congr 1
 apply List.ext_getElem?;intro j;by_cases hj:j<32
 ·rw [List.getElem?_map,List.getElem?_range hj,List.getElem?_map,List.getElem?_take_of_lt hj,List.getElem?_eq_getElem (by omega)];simp only [Option.map_some];rw [if_pos hj,getD_at _ _ (by omega)]
 ·rw [List.getElem?_eq_none (by simp;omega),List.getElem?_eq_none (by simp;omega)]
theorem zero32:(Array.replicate 32 (Value.int .u8 0))=#[.int .u8 0,.int .u8 0,.int .u8 0,.int .u8 0,.int .u8 0,.int .u8 0,.int .u8 0,.int .u8 0,.int .u8 0,.int .u8 0,.int .u8 0,.int .u8 0,.int .u8 0,.int .u8 0,.int .u8 0,.int .u8 0,.int .u8 0,.int .u8 0,.int .u8 0,.int .u8 0,.int .u8 0,.int .u8 0,.int .u8 0,.int .u8 0,.int .u8 0,.int .u8 0,.int .u8 0,.int .u8 0,.int .u8 0,.int .u8 0,.int .u8 0,.int .u8 0]:=rfl
def hash0:H32:=⟨List.replicate 32 0,List.length_replicate⟩
def hashJ (b:Nat) (s:Bytes) (bad:Bool) (w:World) (en:Ending) (w':World):Prop:=∃(h:H32) (s':Bytes) (bad':Bool),en=.returned (.agg (hashC h).toArray)∧RdJ w' b s' bad'∧StepB (takeR 32) s bad h.1 s' bad'∧Upd (fun k=>k=b) w w'
set_option maxHeartbeats 2000000 in
theorem jHashR_any (b:Nat) (s:Bytes) (bad:Bool) (w:World) (h:RdJ w b s bad):Calls Tryz.prog 89 #[.pointer (some ⟨b,0,none⟩)] w fun en w'=>hashJ b s bad w en w':=by
 have HR0:=Lib.hid h;have HBB:Hid (b<w.heap.size):=lt_of_heap h;clear h;obtain ⟨w1,hw1⟩:∃w1,w1=(w.alloc (.cells (Array.replicate 32 (.int .u8 0)) 81)).alloc (.cells (Array.replicate 32 (.int .u8 0)) 81):=⟨_,rfl⟩;have b0:Hid (w1.heap[w.heap.size]?=some (.cells (Array.replicate 32 (.int .u8 0)) 81 (0,0))):=by show _=_;rw [hw1];exact ((Upd.refl noBlk _).alloc _).heap (heap_alloc_new w _) id
 have b1:Hid (w1.heap[w.heap.size+1]?=some (.cells (byTo s 0) 81 (0,0))):=by
  show _=_;rw [hw1];have h:=heap_alloc_new (w.alloc (.cells (Array.replicate 32 (.int .u8 0)) 81)) (.cells (Array.replicate 32 (.int .u8 0)) 81);rw [show (w.alloc (.cells (Array.replicate 32 (.int .u8 0)) 81)).heap.size=w.heap.size+1 from Array.size_push ..] at h;exact h
 have HU0:Hid (Upd noBlk w w1):=by show Upd _ _ _;rw [hw1];exact ((Upd.refl noBlk w).alloc _).alloc _
 have HR:=Lib.hid (HU0.out.heap HR0.out id);rw [zero32] at hw1;obtain ⟨N,hN⟩:∃N,N=w.heap.size:=⟨_,rfl⟩;rw [←hN] at b0 b1 HBB;have HWN:Hid (w.heap.size≤N):=by show _≤_;omega
 have hb0:¬b=N:=by have:=HBB.out;omega
 have hb1:¬b=N+1:=by have:=HBB.out;omega
 obtain ⟨M,hM⟩:∃M,M=N+1:=⟨_,rfl⟩;have HM:Hid (N<M∧b≠M∧b≠N):=⟨by omega,by omega,hb0⟩;go_enter Tryz.func89,Tryz.ntmps89
 go_upto_region 2 with fail
 rw [←hw1,←hN,←hM];rw [←hM] at b1;clear hw1 hN hM hb0 hb1;by_cases hl:s.length<32
 ·have hsz:(((bs s).size:Nat):Int)<32:=by rw [bs_size];omega
  have HTN:Hid (takeR 32 s=none):=if_pos hl;obtain ⟨⟨c0,c1⟩,⟨f0,f1⟩⟩:=cellF2 (show w1.heap[b]?=some (.cells #[.string (bs s),.bool bad] 147 (0,0)) from HR.out);have HU1:Hid (Upd (fun k=>k=b) w (w1.setCell ⟨b,1,none⟩ (.bool true))):=by
   show Upd (fun k=>k=b) _ _;exact Upd.setCell (F:=fun k=>k=b) (p:=⟨b,1,none⟩) (HU0.out.mono (fun _ _ h=>h.elim)) (fun _=>rfl) _
  have HR1:Hid (RdJ (w1.setCell ⟨b,1,none⟩ (.bool true)) b s true):=RdJ.bad HR.out;have HZ0:Hid ((w1.setCell ⟨b,1,none⟩ (.bool true)).heap[N]?=some (.cells (Array.replicate 32 (.int .u8 0)) 81 (0,0))):=heap_setCell_ne _ b0.out (by have:=HM.out;omega);have HZ1:Hid ((w1.setCell ⟨b,1,none⟩ (.bool true)).heap[M]?=some (.cells (hashC hash0).toArray 81 (0,0))):=heap_setCell_ne _ b1.out (by have:=HM.out;omega);clear hl;go_upto_region 4 with fail
  generalize w1.setCell ⟨b,1,none⟩ (.bool true)=w2 at *;have HRA:Hid (w2.rangeAt M 0 (hashC hash0)):=fun j v hv=>by
   rw [Nat.zero_add,cell_of_row _ _ j _ 81 (0,0) HZ1.out];simpa using hv
  obtain ⟨X,hst,hx1,hx2⟩:=store_row (P:=Tryz.prog) HZ0.out (vs:=hashC hash0) (by rw [hashC_len];rfl) (byV_one _);have HI:Hid ((Tryz.prog.info? 81).map (·.size)=some (hashC hash0).length):=by show _=_;rw [hashC_len];kernel_rfl
  have hlen:=hashC_len hash0;generalize hash0=hz at *;go_wp2_with (first | (refine wpList_load_mid rfl _ _ rfl M 0 rfl (hashC hz) _ HRA.out Tryz.underlying81 rfl HI.out ?_))
  (try simp only [Exit.inBlock,Exit.then])
  refine bodyPost_ret (results_cell_row rfl _ _ N 81 _ (0,0) _ rfl hx1 Tryz.underlying81 rfl (by have:=HI.out;simpa using this)) rfl ?_;exact ⟨hz,s,true,rfl,hx2.heap HR1.out (by have:=HM.out;omega),.none (.inr HTN.out),HU1.out.then hx2 (fun i hi e=>by have e':i=N:=e;have:=HWN.out;omega)⟩
 ·have hsz:¬(((bs s).size:Nat):Int)<32:=by rw [bs_size];omega
  have hsz2:(32:Int)≤(((bs s).size:Nat):Int):=by omega
  have HS32:Hid (32≤s.length):=by show _≤_;omega
  have HTS:Hid (takeR 32 s=some (s.take 32,s.drop 32)):=if_neg hl;clear hl;obtain ⟨⟨c0,c1⟩,⟨f0,f1⟩⟩:=cellF2 (show w1.heap[b]?=some (.cells #[.string (bs s),.bool bad] 147 (0,0)) from HR.out);go_wp2_with fail
  clear c0 c1 f0 f1;go_loopw [4] (fun i wr=>∃k:Nat,i=.int .i64 k∧k≤32∧wr.heap[M]?=some (.cells (byTo s k) 81 (0,0))∧Upd (fun b=>b=M) w1 wr) (fun i _=>32-(intOf i).toNat)
  case atStart=>exact ⟨0,rfl,by omega,b1.out,Upd.refl _ _⟩
  case round=>
   obtain ⟨k,rfl,hk,hb,hu⟩:=hrel;have HB:=Lib.hid hb;have HU:=Lib.hid hu;have HRR:=Lib.hid (hu.heap HR.out HM.out.2.1);clear hb hu;obtain ⟨⟨c0,c1⟩,⟨f0,f1⟩⟩:=cellF2 HRR.out;by_cases hlt:k<32
   ·have hlt':(k:Int)<32:=by omega
    have HK:Hid (k<32):=hlt;have hc:wr.cell? ⟨M,k,none⟩=some (.int .u8 0):=by
     rw [cell_of_row _ _ k _ 81 (0,0) HB.out,byTo_get s k k hlt,if_neg (by omega)]
    have hf:wr.frozen? ⟨M,k,none⟩=false:=by simp [World.frozen?,HB.out]
    have hks:k<(bs s).size:=by rw [bs_size];have:=HS32.out;omega
    have hksI:(k:Int)<(((bs s).size:Nat):Int):=by omega
    have hg:((bs s)[k]'hks).toNat=(s.getD k 0).toNat:=by
     have hks2:k<s.length:=by rwa [bs_size] at hks
     rw [getD_at _ _ hks2];rfl
    have hs:=heap_setCell_eq (i:=k) (.int .u8 (((s.getD k 0).toNat:Nat):Int)) HB.out;rw [byTo_succ] at hs;have HS:=Lib.hid hs;have hkw:IntKind.i64.wrap ((k:Int)+1)=(k:Int)+1:=by rw [IntKind.wrap_i64];omega
    clear hs hk hlt;go_wp2_with fail
    exact ⟨⟨k+1,by push_cast;rfl,HK.out,HS.out,HU.out.setCell (p:=⟨M,k,none⟩) (fun _=>rfl) _⟩,by simp only [intOf];have:=HK.out;omega⟩
   ·obtain rfl:k=32:=by omega
    have HB0:=Lib.hid (HU.out.heap b0.out (by have:=HM.out;omega));have hx:(bs s).extract 32 (bs s).size=bs (s.drop 32):=by rw [bs_extract,bs_size];congr 1;rw [List.take_of_length_le (by rw [List.length_drop];omega)]
    have hbt:=byTo_end HS32.out;have h32l:(h32 (s.take 32)).1=s.take 32:=h32_len (by rw [List.length_take];have:=HS32.out;omega);rw [hbt] at HB;have HR2:Hid (RdJ (wr.setCell ⟨b,0,none⟩ (.string (bs (s.drop 32)))) b (s.drop 32) bad):=RdJ.str HRR.out _;have HB2:Hid ((wr.setCell ⟨b,0,none⟩ (.string (bs (s.drop 32)))).heap[M]?=some (.cells (hashC (h32 (s.take 32))).toArray 81 (0,0))):=heap_setCell_ne _ HB.out (by have:=HM.out;omega);have HB3:Hid ((wr.setCell ⟨b,0,none⟩ (.string (bs (s.drop 32)))).heap[N]?=some (.cells (Array.replicate 32 (.int .u8 0)) 81 (0,0))):=heap_setCell_ne _ HB0.out (by have:=HM.out;omega);have HUU:Hid (Upd (fun k=>k=b) w (wr.setCell ⟨b,0,none⟩ (.string (bs (s.drop 32))))):=by
     show Upd (fun k=>k=b) _ _;have h1:Upd (fun k=>k=b) w wr:=(HU0.out.mono (fun _ _ h=>h.elim)).then HU.out (fun i hi e=>by have e':i=M:=e;have:=HM.out;have:=HWN.out;omega);exact Upd.setCell (F:=fun k=>k=b) (p:=⟨b,0,none⟩) h1 (fun _=>rfl) _
    have HST:Hid (StepB (takeR 32) s bad (h32 (s.take 32)).1 (s.drop 32) bad):=by
     show StepB _ _ _ _ _ _;rw [h32l];cases bad with
     | true=>exact .none (.inl rfl)
     | false=>exact .some HTS.out
    clear hbt h32l HB HB0;go_upto_region 10 with fail
    generalize wr.setCell ⟨b,0,none⟩ (.string (bs (s.drop 32)))=w2 at *;generalize h32 (s.take 32)=hz at *;have HRA:Hid (w2.rangeAt M 0 (hashC hz)):=fun j v hv=>by
     rw [Nat.zero_add,cell_of_row _ _ j _ 81 (0,0) HB2.out];simpa using hv
    obtain ⟨X,hst,hx1,hx2⟩:=store_row (P:=Tryz.prog) HB3.out (vs:=hashC hz) (by rw [hashC_len];rfl) (byV_one _);have HI:Hid ((Tryz.prog.info? 81).map (·.size)=some (hashC hz).length):=by show _=_;rw [hashC_len];kernel_rfl
    have hlen:=hashC_len hz;go_wp2_with (first | (refine wpList_load_mid rfl _ _ rfl M 0 rfl (hashC hz) _ HRA.out Tryz.underlying81 rfl HI.out ?_))
    (try simp only [Exit.inBlock,Exit.then])
    refine bodyPost_ret (results_cell_row rfl _ _ N 81 _ (0,0) _ rfl hx1 Tryz.underlying81 rfl (by have:=HI.out;simpa using this)) rfl ?_;exact ⟨hz,s.drop 32,bad,rfl,hx2.heap HR2.out (by have:=HM.out;omega),HST.out,HUU.out.then hx2 (fun i hi e=>by have e':i=N:=e;have:=HWN.out;omega)⟩
end Go.Proofs.YtcikldoaidmnhaaGreatDoor
