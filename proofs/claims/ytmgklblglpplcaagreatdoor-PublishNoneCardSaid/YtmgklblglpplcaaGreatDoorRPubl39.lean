/- Parts: A region that draws its order, walked whole along a tree of orders. No condition. Walks of the versions: Missing on one packet. No condition. -/
import Derived.Test.YtmgklblglpplcaaGreatDoorRPubl1
import Derived.Test.YtmgklblglpplcaaGreatDoorRPubl2
import Derived.Test.YtmgklblglpplcaaGreatDoorRPubl3
import Derived.Test.YtmgklblglpplcaaGreatDoorRPubl4
import Derived.Test.YtmgklblglpplcaaGreatDoorRPubl5
import Derived.Test.YtmgklblglpplcaaGreatDoorRPubl6
import Derived.Test.YtmgklblglpplcaaGreatDoorRPubl8
import Derived.Test.YtmgklblglpplcaaGreatDoorRPubl9
import Derived.Test.YtmgklblglpplcaaGreatDoorRPubl10
import Derived.Test.YtmgklblglpplcaaGreatDoorRPubl11
import Derived.Test.YtmgklblglpplcaaGreatDoorRPubl12
import Derived.Test.YtmgklblglpplcaaGreatDoorRPubl14
import Derived.Test.YtmgklblglpplcaaGreatDoorRPubl15
import Derived.Test.YtmgklblglpplcaaGreatDoorRPubl16
import Derived.Test.YtmgklblglpplcaaGreatDoorRPubl19
import Derived.Test.YtmgklblglpplcaaGreatDoorRPubl20
import Derived.Test.YtmgklblglpplcaaGreatDoorRPubl21
import Derived.Test.YtmgklblglpplcaaGreatDoorRPubl22
import Derived.Test.YtmgklblglpplcaaGreatDoorRPubl25
import Derived.Test.YtmgklblglpplcaaGreatDoorRPubl37
import Derived.WalkKit
import Derived.WalkSpells
import Derived.WalkLawsBesides
import Derived.Lib.Hide
import Derived.BigQuiet
import Derived.Deep.DeepFit
import Derived.Deep.DeepCutAuto
import Derived.Deep.AppendLies
import Derived.Deep.QuietTactic
import Derived.StillTail
import Derived.Test.YtmgklblglpplcaaGreatDoorRows
import Derived.Deep.RegionHeld3
import Derived.Lib.AppendStr
import Derived.Lib.AppendZeros
import Derived.Deep.MidRow
import Derived.ArgAppend
import Derived.Deep.Upon
import Derived.Maps.OwnOps
import Derived.Maps.OwnSet
import Derived.Maps.RangeWalk
import Derived.WideKeyEntry
import Derived.Lib.Bits
import Derived.Laws.EntriesVeiled
import Derived.Handy
import Derived.DeepKeys4
import Derived.Deep.CutBlock
import Derived.Test.YtmgklblglpplcaaGreatDoorShelf2
import Derived.Laws.BitsAllLaws
import Derived.Laws.BytesArg
import Derived.Test.YtmgklblglpplcaaGreatDoorShelf
import Derived.Lib.Zigzag
import Derived.Recover
import Derived.Deep.WholeRow
import Derived.Laws.IdiomStrings
import Derived.Laws.MakeOwn
import Derived.IntWalk
import Derived.RangeFuncNested
import Derived.RangeFuncBound
import Derived.RangeFuncCalls
import Derived.RangeFuncLeaves
import Derived.RangeFuncFrom
import Derived.LoopIn
import Derived.LoopNIn
import Derived.OwnWalkIn
import Derived.TacticsInMore
import Derived.Stop.BytesEq
import Derived.Defers
import Derived.Lib.SliceRun
namespace Go.Proofs.YtmgklblglpplcaaGreatDoor
open Go Go.RowKit
section
variable {P:Program} {ops:Array Oper} {md:Region.Mode} {C:World→Prop} {Q:Exit→Act→World→Prop}
theorem wpAnyG_firstF {n i:Nat} {oi:Oper} {v:Value} {L:Array Bool→Act→World→Prop} (hi:ops[i]?=some oi) (hsel:∀(j:Nat) (o:Oper) cs b,ops[j]?=some o→o.op≠.select cs b)
  (hQ:∀c a w,Q (.panic c) (a.put oi.dst v) w→Q (.panic c) a w)
  (hn:n=ops.size) (hin:i<n)
  (hdone:∀listed a w,L listed a w→∀j∈Region.ready md ops listed,n≤j) :
  ∀(f:Nat) (listed:Array Bool) (a:Act) (w:World),HeadInv md ops n listed→C w →
   (∀j oj,ops[j]?=some oj→j≠i→listed.getD j true=false→(∀e∈oj.after,Region.binds md e=true→e.on≠i)→oi.apart ops oj=true) →
   i∈Region.ready md ops listed→Sure P ops C oi v a →
   wpAnyG P md ops Q C n L f (listed.setIfInBounds i true) (a.put oi.dst v) w→wpAnyG P md ops Q C n L (f+1) listed a w:=by
 intro f;induction f with
 | zero=>
  intro listed a w inv hC _ hr hy H;have hun:=(mem_ready.1 hr).1;refine ⟨fun h=>(by rw [h] at hr;cases hr),fun j hj=>?_⟩;have hjn:j<n:=by
   obtain ⟨_,ojn,hojn,_⟩:=mem_ready.1 hj;have:=(Array.getElem?_eq_some_iff.1 hojn).1;omega
  refine ⟨hjn,?_⟩;by_cases hji:j=i
  ·subst hji;exact hy.wpOp hi hC ⟨hC,H⟩
  ·have:=hdone _ _ _ H j (ready_mono hj hji);omega
 | succ f ih=>
  intro listed a w inv hC hfree hr hy H;have hun:=(mem_ready.1 hr).1;refine ⟨fun h=>(by rw [h] at hr;cases hr),fun j hj=>?_⟩;have hjn:j<n:=by
   obtain ⟨_,ojn,hojn,_⟩:=mem_ready.1 hj;have:=(Array.getElem?_eq_some_iff.1 hojn).1;omega
  refine ⟨hjn,?_⟩;by_cases hji:j=i
  ·subst hji;exact hy.wpOp hi hC ⟨hC,H⟩
  ·have h1:=(H.2 j (ready_mono hj hji)).2;obtain ⟨hjun,oj,hoj,hall⟩:=mem_ready.1 hj;have hnot:∀e∈oj.after,Region.binds md e=true→e.on≠i:=fun e he hb heq=>by
    have h1:=hall e he hb;rw [heq,getD_both hun] at h1;cases h1
   have h2:=wpOp_putSure hoj (hfree j oj hoj hji hjun hnot) (fun cs b=>hsel i oi cs b hi) (fun cs b=>hsel j oj cs b hoj) hQ hy h1;have hfree':∀k ok,ops[k]?=some ok→k≠i→(listed.setIfInBounds j true).getD k true=false →
     (∀e∈ok.after,Region.binds md e=true→e.on≠i)→oi.apart ops ok=true:=fun k ok hk hki hun hno=>by
    refine hfree k ok hk hki ?_ hno;by_cases hjk:j=k
    ·subst hjk;exact hjun
    ·rw [getD_set_ne true hjk] at hun;exact hun
   refine wpOp_mono (fun a' w' h3=>⟨h3.2.1,ih (listed.setIfInBounds j true) a' w' (inv.set hj hjn) h3.2.1 hfree' (ready_mono hr (Ne.symm hji)) h3.1 ?_⟩) h2;rw [Array.setIfInBounds_comm _ _ hji];exact h3.2.2
theorem wpAnyG_treeF {n:Nat} {Lq:Act→World→Prop} (hsel:Region.noSelect ops=true) (hQ:∀c a d v w,Q (.panic c) (Act.put a d v) w→Q (.panic c) a w)
  (hn:n=ops.size) :
  ∀(f:Nat) (t:OT) (C:World→Prop) (listed:Array Bool) (a:Act) (w:World),C w→HeadInv md ops n listed→treeB md ops n f t listed=true→wpT P ops Q Lq t C a w →
  wpAnyG P md ops Q C n (fun listed' a' w'=>Region.seqB md ops (ops.size-n) n listed'=true∧Lq a' w') f listed a w
 | 0,.nil,C,listed,a,w,_,inv,hB,h=>⟨by simpa [treeB] using hB,h⟩
 | f+1,.sure i r,C,listed,a,w,hC,inv,hB,h=>by
  obtain ⟨o,v,h0,hy,hK⟩:=h;simp only [treeB,Bool.and_eq_true,decide_eq_true_eq] at hB;obtain ⟨⟨⟨hin,hr⟩,hf⟩,hB'⟩:=hB;have hr':i∈Region.ready md ops listed:=by simpa using hr
  exact wpAnyG_firstF h0 (Region.noSelect_spec hsel) (fun c a w=>hQ c a _ _ w) hn hin (fun listed' a' w' hL=>fun j hj=>by
   have h1:=hL.1;rw [hn,Nat.sub_self] at h1;simp only [Region.seqB,List.isEmpty_iff] at h1;rw [h1] at hj;cases hj) f listed a w inv hC (Region.free_spec h0 hf) hr' hy
   (wpAnyG_treeF hsel hQ hn f r C _ _ w hC (inv.set hr' hin) hB' hK)
 | f+1,.run i r,C,listed,a,w,hC,inv,hB,h=>by
  obtain ⟨C',hCC,h⟩:=h;simp only [treeB,Bool.and_eq_true,decide_eq_true_eq] at hB;obtain ⟨⟨hin,hr⟩,hB'⟩:=hB;have hr':i∈Region.ready md ops listed:=by rw [hr];simp
  refine ⟨fun h0=>(by rw [h0] at hr;cases hr),fun j hj=>?_⟩;rw [hr] at hj;obtain rfl:j=i:=by simpa using hj
  exact ⟨hin,wpOp_mono (fun a' w' h'=>⟨hCC _ h'.1,wpAnyG_mono hCC f _ _ _ (wpAnyG_treeF hsel hQ hn f r C' _ a' w' h'.1 (inv.set hr' hin) hB' h'.2)⟩) h⟩
 | f+1,.fork i ri j rj,C,listed,a,w,hC,inv,hB,h=>by
  obtain ⟨⟨C1,hC1,h1⟩,⟨C2,hC2,h2⟩⟩:=h;simp only [treeB,Bool.and_eq_true,decide_eq_true_eq] at hB;obtain ⟨⟨⟨⟨hin,hjn⟩,hr⟩,hB1⟩,hB2⟩:=hB;have hri:i∈Region.ready md ops listed:=by rw [hr];simp
  have hrj:j∈Region.ready md ops listed:=by rw [hr];simp
  refine ⟨fun h0=>(by rw [h0] at hr;cases hr),fun k hk=>?_⟩;rw [hr] at hk;rcases (by simpa using hk:k=i∨k=j) with rfl | rfl
  ·exact ⟨hin,wpOp_mono (fun a' w' h'=>⟨hC1 _ h'.1,wpAnyG_mono hC1 f _ _ _ (wpAnyG_treeF hsel hQ hn f ri C1 _ a' w' h'.1 (inv.set hri hin) hB1 h'.2)⟩) h1⟩
  ·exact ⟨hjn,wpOp_mono (fun a' w' h'=>⟨hC2 _ h'.1,wpAnyG_mono hC2 f _ _ _ (wpAnyG_treeF hsel hQ hn f rj C2 _ a' w' h'.1 (inv.set hrj hjn) hB2 h'.2)⟩) h2⟩
 | 0,.sure _ _,_,_,_,_,_,_,hB,_=>by simp [treeB] at hB
 | 0,.run _ _,_,_,_,_,_,_,hB,_=>by simp [treeB] at hB
 | 0,.fork _ _ _ _,_,_,_,_,_,_,hB,_=>by simp [treeB] at hB
 | _+1,.nil,_,_,_,_,_,_,hB,_=>by simp [treeB] at hB
def treeFullB (md:Region.Mode) (ops:Array Oper) (n:Nat) (t:OT):Bool:=
 Region.noSelect ops&&decide (n=ops.size)&&treeB md ops n n t (Array.replicate ops.size false)
theorem wp_region_full {id:Nat} {a:Act} {w:World} {l:List Oper} (n:Nat) (t:OT) (C:World→Prop) (hm:P.follows .mixedOrders=true) (hB:treeFullB .any l.toArray n t=true)
  (hQ:∀c a d v w,Q (.panic c) (Act.put a d v) w→Q (.panic c) a w) (hC:C w.drew)
  (h:wpT P l.toArray Q (fun a' w'=>wpList P l.toArray Q [] a' w') t C a w.drew):(Code.region id l.toArray true).wp P Q a w:=by
 simp only [treeFullB,Bool.and_eq_true,decide_eq_true_eq] at hB;obtain ⟨⟨hsel,hn⟩,hlex⟩:=hB;have inv0:HeadInv .any l.toArray n (Array.replicate l.toArray.size false):=
  ⟨by simp,fun j oj _ hl=>(by rw [getD_replicate_false] at hl;cases hl),fun t _ ht=>getD_in (by simpa using ht) (getD_replicate_false _ _)⟩
 have H:=wpAnyG_treeF (md:=.any) hsel hQ hn n t C _ a w.drew hC inv0 hlex h;refine wp_region_any hm ?_;have:=wpAny_of_G (g:=0) (fun listed a' w' hL=>by
  have h1:=hL.1;rw [hn,Nat.sub_self] at h1;exact wpAny_of_seq (md:=.any) (Q':=Q) [] n listed a' w' (fun j=>by
   rw [hn];symm;simp) h1 hL.2) _ _ _ _ H
 rw [Nat.add_zero,hn] at this;exact this
end
end Go.Proofs.YtmgklblglpplcaaGreatDoor
namespace Go.Proofs.YtmgklblglpplcaaGreatDoor
open Go Go.RowKit Pk
set_option maxRecDepth 100000
theorem Kd.Own.empty {P:Program} {α:Type} (K:Kd P α) (w:World):K.Own w.heap.size (w.alloc (.cells #[] K.T)) (.slice (some ⟨w.heap.size,0,none⟩) 0 0) []:=
 ⟨by simp,.inr ⟨w.heap.size,0,#[],rfl,Nat.le_refl _,heap_alloc_new w _,Nat.le_refl _,by unfold maxLen;omega,by simp,by simp⟩⟩
theorem clonePk_any (lv:Value) (l:List (H32 × Bytes)) (h0:0<l.length) (hl:l.length≤1000) (w:World) (h:kPk.Rd w lv l) :
  Calls Tryz.prog 22 #[lv] w fun e w'=>∃v,e=.returned v∧kPk.Own w.heap.size w' v l∧Upd noBlk w w':=by
 obtain ⟨A,cap,rfl,hc,hx⟩:=h;obtain ⟨b,off,rfl,hat⟩:=hx h0;have hu:Upd noBlk w (w.alloc (.cells #[] 63)):=(Upd.refl _ w).alloc _;obtain ⟨g,cap',w',r,o,u,_⟩:=(Kd.Own.empty kPk w).appN (w:=w.alloc (.cells #[] 63)) (by rw [World.size_alloc];omega) (b:=b) (off:=off) (c:=cap) l (fun j hj=>(hat j hj).keep hu) (by simp;omega) h0;have HR:Hid ((Builtin.append_ #[30,30] 30 #[.slice (some ⟨w.heap.size,0,none⟩) 0 0,.slice (some ⟨b,off,none⟩) l.length cap]).run Tryz.prog (w.alloc (.cells #[] 63))=.ok (.slice (some ⟨g,0,none⟩) (0+l.length) cap') w'):=r;have HO:=Lib.hid o;have HU:Hid (Upd noBlk w w'):=hu.then u (fun i hi e=>by have e2:w.heap.size=i:=Option.some.inj e;omega);have heq:=Lib.run_eql_slice_nil (P:=Tryz.prog) w 30 63 (some ⟨b,off,none⟩) l.length cap 0 0 Tryz.underlying30;have hz:=zero_pk;clear hat r o u hx hu;go_enter Tryz.func22,Tryz.ntmps22
 go_wp2_with (first | (at_builtin;refine wpList_append_run rfl _ _ _ rfl rfl rfl HR.out ?_))
 go_ret
 exact ⟨_,rfl,by simpa using HO.out,HU.out⟩
theorem cloneH_any (lv:Value) (l:List H32) (h0:0<l.length) (hl:l.length≤1000) (w:World) (h:kHash.Rd w lv l) :
  Calls Tryz.prog 19 #[lv] w fun e w'=>(∃A cap,e=.returned (.slice A l.length cap))∧Upd noBlk w w':=by
 obtain ⟨A,cap,rfl,hc,hx⟩:=h;obtain ⟨b,off,rfl,hat⟩:=hx h0;have hu:Upd noBlk w (w.alloc (.cells #[] 36)):=(Upd.refl _ w).alloc _;obtain ⟨g,cap',w',r,o,u,_⟩:=(Kd.Own.empty kHash w).appN (w:=w.alloc (.cells #[] 36)) (by rw [World.size_alloc];omega) (b:=b) (off:=off) (c:=cap) l (fun j hj=>(hat j hj).keep hu) (by simp;omega) h0;have HR:Hid ((Builtin.append_ #[31,31] 31 #[.slice (some ⟨w.heap.size,0,none⟩) 0 0,.slice (some ⟨b,off,none⟩) l.length cap]).run Tryz.prog (w.alloc (.cells #[] 36))=.ok (.slice (some ⟨g,0,none⟩) (0+l.length) cap') w'):=r;have HU:Hid (Upd noBlk w w'):=hu.then u (fun i hi e=>by have e2:w.heap.size=i:=Option.some.inj e;omega);have heq:=Lib.run_eql_slice_nil (P:=Tryz.prog) w 31 36 (some ⟨b,off,none⟩) l.length cap 0 0 Tryz.underlying31;have hz:=zero_hash;clear hat r o u hx hu;go_enter Tryz.func19,Tryz.ntmps19
 go_wp2_with (first | (at_builtin;refine wpList_append_run rfl _ _ _ rfl rfl rfl HR.out ?_))
 go_ret
 exact ⟨⟨_,_,rfl⟩,HU.out⟩
theorem cloneH_nil (w:World):Calls Tryz.prog 19 #[.slice none 0 0] w fun e w'=>e=.returned (.slice none 0 0)∧w'=w:=by
 have heq:=Lib.run_eql_slice_nil (P:=Tryz.prog) w 31 36 none 0 0 0 0 Tryz.underlying31;go_enter Tryz.func19,Tryz.ntmps19
 go_wp2_with fail
 go_ret
 exact ⟨rfl,rfl⟩
theorem missing1_any {M n bm:Nat} {f:H32→Option Bytes} (p:H32 × Bytes) (w:World) (c:w.cell? ⟨bm,0,none⟩=some (.map (some M))) (hat:kitSrc.At w M n f) :
  Calls Tryz.prog 49 #[.agg (pkC p).toArray,.pointer (some ⟨bm,0,none⟩)] w fun e w'=>e=.returned (.bool (f p.1).isSome)∧Upd noBlk w w':=by
 obtain ⟨N,hN⟩:∃N,N=w.heap.size:=⟨_,rfl⟩;obtain ⟨w1,hw1⟩:∃w1,w1=w.alloc (.cells (pkC p).toArray 63):=⟨_,rfl⟩;have hb:w1.heap[N]?=some (.cells (pkC p).toArray 63 (0,0)):=by rw [hw1,hN];exact heap_alloc_new w _
 have HU:Hid (Upd noBlk w w1):=by show Upd _ _ _;rw [hw1];exact (Upd.refl _ w).alloc _
 have HRH:=Lib.hid (pk_hash (range_row hb));have HIH:=Lib.hid (size_h p.1);have hpl:=pkC_len p;have c1:=HU.out.cell c id;have hlk:(Instr.lookup 89 (.map (some M)) (.agg (hashC p.1).toArray) true).run Tryz.prog w1=.ok (.tuple #[.string (bs ((f p.1).getD [])),.bool (f p.1).isSome]) w1:=(hat.keep HU.out).lookOkR (a:=p.1) trivial;clear hb hat c;go_enter Tryz.func49,Tryz.ntmps49
 go_upto_region 1 with fail
 rw [←hw1,←hN];clear hw1 hN;go_wp2_with (first | (refine wpList_load_mid rfl _ _ rfl N 0 rfl (hashC p.1) _ HRH.out Tryz.underlying36 rfl HIH.out ?_))
 go_ret
 exact ⟨rfl,HU.out⟩
def fnM (bm:Nat):Value:=.func (.func 49) #[] #[.pointer (some ⟨bm,0,none⟩)]
theorem index1_any {M n bm:Nat} {f:H32→Option Bytes} (p:H32 × Bytes) (sv:Value) (w:World) (h:kPk.Rd w sv [p]) (c:w.cell? ⟨bm,0,none⟩=some (.map (some M))) (hat:kitSrc.At w M n f) :
  Calls Tryz.prog 71 #[sv,fnM bm] w fun e w'=>e=.returned (.int .i64 (if (f p.1).isSome then 0 else -1))∧Upd noBlk w w':=by
 obtain ⟨A,cap,rfl,hc,hx⟩:=h;obtain ⟨b,off,rfl,hx2⟩:=hx (by simp);have hr0:w.rangeAt b (off+0*33) (pkC p):=hx2 0 (by simp);have HR:=Lib.hid hr0;have HM:=fun W (hW:Upd noBlk w W)=>Lib.hid (missing1_any p W (hW.cell c id) (hat.keep hW));have HI:=Lib.hid (size_pk p);have hpl:=pkC_len p;obtain ⟨r,hr⟩:∃r:Int,r=(if (f p.1).isSome then 0 else -1):=⟨_,rfl⟩;rw [←hr];have HRR:=Lib.hid hr;clear hx hx2 hr0 c hat hr;go_enter Tryz.func71,Tryz.ntmps71
 unfold fnM;go_wp2_with fail
 go_loopw [8] (fun i wr=>(i=.int .i64 0∨(i=.int .i64 1∧(f p.1).isSome=false))∧Upd noBlk w wr) (fun i _=>1-(intOf i).toNat)
 case atStart=>exact ⟨.inl rfl,Upd.refl _ _⟩
 case round=>
  obtain ⟨hi,hu⟩:=hrel;have HU:=Lib.hid hu;have HRW:=Lib.hid (rangeAt_upd HR.out hu);have HMW:=HM wr hu;clear hu HM;rcases hi with rfl | ⟨rfl,hf⟩
  ·go_wp2_with (first | (refine wpList_load_mid rfl _ _ rfl b (off+0*33) rfl (pkC p) _ HRW.out Tryz.underlying63 rfl HI.out ?_))
   refine HMW.out.mono ?_;rintro e w1 ⟨rfl,u1⟩;have U1:=Lib.hid (HU.out.trans u1);clear u1 HMW;cases hs:(f p.1).isSome with
   | true=>
    have HS:=Lib.hid hs;clear hs;go_wp2_with fail
    go_ret
    exact ⟨by rw [HRR.out,HS.out];rfl,U1.out⟩
   | false=>
    have HS:=Lib.hid hs;clear hs;go_wp2_with fail
    exact ⟨⟨.inr ⟨rfl,HS.out⟩,U1.out⟩,by simp [intOf]⟩
  ·have HF:=Lib.hid hf;clear hf;go_wp2_with fail
   go_ret
   exact ⟨by rw [HRR.out,HF.out];rfl,HU.out⟩
theorem run_clear1 {base:Nat} {w:World} {g cap:Nat} {p:H32 × Bytes} (h:kPk.Own base w (.slice (some ⟨g,0,none⟩) 1 cap) [p]) (ty:TypeId):∃w',(Builtin.clear_ #[30] ty #[.slice (some ⟨g,0,none⟩) 1 cap]).run Tryz.prog w=.ok (.tuple #[]) w'∧Upd (fun k=>k=g) w w':=by
 rcases h.2 with ⟨e,_⟩ | ⟨g',cap',cur,e,h1,h2,h3,h4,h5,h6⟩
 ·cases e
 ·cases e;have hz:=zero_pk w;have hlen:((Builtin.zeroCells (pkC (zeroH,[])).toArray 1).toList).length=33:=by
   rw [Array.length_toList,size_zeroCells,List.size_toArray,pkC_len]
  have h33:33≤cur.size:=by
   have e2:1≤cap:=h3;rw [h5,show kPk.k=33 from rfl];omega
  have hst:=run_storeCells_at Tryz.prog g 0 63 (Builtin.zeroCells (pkC (zeroH,[])).toArray 1).toList 0 cur w h2 (by rw [hlen];omega) (fun v hv=>by
   have:(Builtin.zeroCells (pkC (zeroH,[])).toArray 1).toList=pkC (zeroH,[]):=by kernel_rfl
   rw [this] at hv;exact pkC_one _ v hv)
  obtain ⟨W',hW',hU⟩:∃W',(storeCells ⟨g,0,none⟩ (Builtin.zeroCells (pkC (zeroH,[])).toArray 1).toList 0).run Tryz.prog w=.ok () W'∧Upd (fun k=>k=g) w W':=⟨_,hst,setRow_upd _ _ _⟩;refine ⟨W',?_,hU⟩;simp [Builtin.clear_,run_underlying Tryz.underlying30,hz,Value.cells,hW']
def leftQ (b:Bool) (base:Nat) (p:H32 × Bytes) (w:World) (en:Ending) (w':World):Prop:=(if b then ∃A cap,en=.returned (.slice A 0 cap) else ∃v,en=.returned v∧kPk.Own base w' v [p])∧Upd (fun k=>base≤k) w w'
set_option maxHeartbeats 1000000 in
theorem delete1_any {M n bm base:Nat} {f:H32→Option Bytes} (p:H32 × Bytes) (sv:Value) (w:World) (h:kPk.Own base w sv [p]) (c:w.cell? ⟨bm,0,none⟩=some (.map (some M))) (hat:kitSrc.At w M n f) :
  Calls Tryz.prog 48 #[sv,fnM bm] w fun e w'=>leftQ (f p.1).isSome base p w e w':=by
 have HX:=Lib.hid (index1_any p sv w h.rd c hat);have HO:=Lib.hid h;obtain ⟨g,cap,rfl,hbg⟩:∃g cap,sv=.slice (some ⟨g,0,none⟩) 1 cap∧base≤g:=by
  rcases h.2 with ⟨_,e0⟩ | ⟨g,cap,cur,e,h1,_⟩
  ·simp at e0
  ·exact ⟨g,cap,e,h1⟩
 obtain ⟨t,ht⟩:∃t,t=(f p.1).isSome:=⟨_,rfl⟩;rw [←ht] at HX ⊢;clear h c hat ht;unfold fnM at *;go_enter Tryz.func48,Tryz.ntmps48
 go_wp2_with fail
 refine HX.out.mono ?_;rintro e w1 ⟨rfl,u1⟩;have U1:=Lib.hid u1;have O1:=Lib.hid (HO.out.upd u1);clear u1 HX;cases t with
 | false=>
  simp only [Bool.false_eq_true,if_false];go_wp2_with fail
  go_ret
  exact ⟨by simp only [Bool.false_eq_true,if_false];exact ⟨_,rfl,O1.out⟩,U1.out.mono (fun _ _ h=>h.elim)⟩
 | true=>
  simp only [if_true];go_wp2_with fail
  go_loopw [5,6] (fun q i wr=>q=.int .i64 0∧i=.int .i64 1∧wr=w1) (fun _ _ _=>0)
  case atStart=>exact ⟨rfl,rfl,rfl⟩
  case round=>
   obtain ⟨rfl,rfl,rfl⟩:=hrel;obtain ⟨w2,hcl,u2⟩:=run_clear1 O1.out 0;have HU2:Hid (Upd (fun k=>base≤k) w w2):=(U1.out.mono (fun _ _ h=>h.elim)).trans (u2.mono (fun k _ e=>by rw [e];exact hbg));clear u2;have HCL:=Lib.hid hcl;have hcap:(1:Int)≤(cap:Int):=by have:=HO.out.form;obtain ⟨A,c,e,h⟩:=this;cases e;simp at h;omega
   have hc0:¬cap=0:=by omega
   clear hcl;have hcl2:=HCL.out;have hbp:Hid (base≤g):=hbg;clear hbg;go_wp2_with fail
   go_ret
   exact ⟨by simp only [if_true];exact ⟨_,_,rfl⟩,HU2.out⟩
end Go.Proofs.YtmgklblglpplcaaGreatDoor
namespace Go.Proofs.YtmgklblglpplcaaGreatDoor
open Go Go.RowKit Pk
set_option maxRecDepth 100000
def verC (X:H32) (pv:Value):List Value:=hashC X++[pv]
theorem verC_len (X:H32) (pv:Value):(verC X pv).length=33:=by unfold verC;rw [List.length_append,hashC_len];rfl
theorem ver_hash {w:World} {b o:Nat} {X:H32} {pv:Value} (h:w.rangeAt b o (verC X pv)):w.rangeAt b o (hashC X):=fun j v hv=>h j v (by
 unfold verC;rw [List.getElem?_append_left (List.getElem?_eq_some_iff.1 hv).1];exact hv)
theorem ver_row {w:World} {b o:Nat} {X:H32} {pv:Value} (h:w.rangeAt b o (verC X pv)):w.cell? ⟨b,o+32,none⟩=some pv:=h 32 _ (by
 unfold verC;rw [List.getElem?_append_right (by rw [hashC_len];exact Nat.le_refl _),hashC_len];rfl)
set_option maxHeartbeats 1000000 in
theorem missing_any (ov:Value) (os:List (H32 × Bytes)) (hos:os.length≤1000) (X:H32) (pv:Value) (p:H32 × Bytes) (w:World) (ho:kPk.Rd w ov os) (hp:kPk.Rd w pv [p]) :
  Calls Tryz.prog 23 #[ov,.agg (verC X pv).toArray] w fun e w'=>leftQ (srcF os p.1).isSome w.heap.size p w e w':=by
 have hmf:∀(fn:Fn) (first cap:Array Value) (w:World),(Instr.makeFunc fn first cap).run Tryz.prog w=.ok (.func fn first cap) w:=fun _ _ _ _=>rfl;obtain ⟨N,hN⟩:∃N,N=w.heap.size:=⟨_,rfl⟩;obtain ⟨w1,hw1⟩:∃w1,w1=w.alloc (.cells (verC X pv).toArray 45):=⟨_,rfl⟩;have hb:w1.heap[N]?=some (.cells (verC X pv).toArray 45 (0,0)):=by rw [hw1,hN];exact heap_alloc_new w _
 have U1:Hid (Upd noBlk w w1):=by show Upd _ _ _;rw [hw1];exact (Upd.refl _ w).alloc _
 have R1:=Lib.hid (range_row hb);have HO:=Lib.hid (open_any ov os hos w1 (ho.keep U1.out));obtain ⟨A,cap,e,hc,hx⟩:=hp;have e1:pv=.slice A 1 cap:=e;subst e1;have HP:Hid (kPk.Rd w (.slice A 1 cap) [p]):=⟨A,cap,rfl,hc,hx⟩;have hvl:=verC_len X (.slice A 1 cap);clear hb ho hc hos hx e;go_enter Tryz.func23,Tryz.ntmps23
 go_upto_region 1 with fail
 rw [←hw1,←hN];have HN:=Lib.hid hN;clear hw1 hN;go_wp2_with fail
 refine HO.out.mono ?_;rintro e w2 ⟨M,n,rfl,hat,hn,u2,_⟩;have U2:=Lib.hid (U1.out.trans u2);have R2:=Lib.hid (rangeAt_upd R1.out u2);have A2:=Lib.hid hat;clear u2 hat hn HO R1;obtain ⟨K,hK⟩:∃K,K=w2.heap.size:=⟨_,rfl⟩;obtain ⟨w3,hw3⟩:∃w3,w3=w2.alloc (.cells #[.map (some M)] 89):=⟨_,rfl⟩;have hb3:w3.heap[K]?=some (.cells #[.map (some M)] 89 (0,0)):=by rw [hw3,hK];exact heap_alloc_new w2 _
 have u3:Upd noBlk w2 w3:=by rw [hw3];exact (Upd.refl _ w2).alloc _
 have U3:=Lib.hid (U2.out.trans u3);have A3:=Lib.hid (A2.out.keep u3);have c3:=ver_row (rangeAt_upd R2.out u3);have B3:=Lib.hid hb3;go_upto_region 2 with fail
 rw [←hw3,←hK];clear hw3 hK u3 hb3 A2 R2 U2;go_wp2_with fail
 refine (clonePk_any _ [p] (by simp) (by simp) w3 (HP.out.keep U3.out)).mono ?_;rintro e w4 ⟨v,rfl,o4,u4⟩;have U4:=Lib.hid (U3.out.trans u4);have O4:=Lib.hid o4;have c4:w4.cell? ⟨K,0,none⟩=some (.map (some M)):=by simp [World.cell?,u4.heap B3.out id]
 have HD:=Lib.hid (delete1_any p v w4 O4.out c4 (A3.out.keep u4));have HSZ:Hid (w.heap.size≤w3.heap.size):=U3.out.size;clear c4 u4 o4 c3;unfold fnM at HD;go_wp2_with fail
 refine HD.out.mono ?_;rintro e w5 ⟨hq,u5⟩;have HU5:Hid (Upd (fun k=>w.heap.size≤k) w w5):=(U4.out.mono (fun _ _ h=>h.elim)).trans (u5.mono (fun k _ h=>Nat.le_trans HSZ.out h));clear u5 HD;cases ht:(srcF os p.1).isSome with
 | true=>
  have HT:=Lib.hid ht;rw [ht] at hq;simp only [if_true] at hq;obtain ⟨A5,cap5,rfl⟩:=hq;clear ht;go_wp2_with fail
  go_ret
  refine ⟨by rw [HT.out,if_pos rfl];exact ⟨_,_,rfl⟩,HU5.out⟩
 | false=>
  have HT:=Lib.hid ht;rw [ht] at hq;simp only [Bool.false_eq_true,if_false] at hq;obtain ⟨v5,rfl,o5⟩:=hq;have O5:=Lib.hid o5;clear ht o5;go_wp2_with fail
  go_ret
  refine ⟨by rw [HT.out,if_neg (by simp)];exact ⟨_,rfl,O5.out.mono HSZ.out⟩,HU5.out⟩
end Go.Proofs.YtmgklblglpplcaaGreatDoor
