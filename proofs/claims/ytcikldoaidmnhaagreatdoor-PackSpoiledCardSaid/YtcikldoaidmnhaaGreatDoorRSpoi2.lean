/- Parts: A region that draws its order, walked once in an order of one's own choice: operations that yield one value in every world of a class, and others that are carried out one by one and keep the class; a forced tail. No condition. General lemmas: an append onto a row of the call's own. No condition. Root packets and group packets as plain functions on bytes. No condition. What a reading of an argument -/
import Derived.Test.YtcikldoaidmnhaaGreatDoorRSpoi1
import Derived.WalkKit
import Derived.WalkSpells
import Derived.WalkLawsBesides
import Derived.Lib.Hide
import Derived.BigQuiet
import Derived.Deep.DeepFit
import Derived.Deep.DeepCutAuto
import Derived.Deep.AppendLies
import Derived.Deep.QuietTactic
import Derived.ProofKit
import Derived.OpenShut
import Derived.ChangeOld
import Derived.Deep.SlicePairs
import Derived.Deep.Grids
import Derived.WideKeyPair
import Derived.StillTail
namespace Go.Proofs.YtcikldoaidmnhaaGreatDoor
open Go Go.RowKit Go.ChangeShapes Go.WideShapes Go.ChangeAt
theorem spot_none {w:World} {a:Addr} {v:Value} (h:w.cell? a=some v):a=⟨a.block,a.off,none⟩:=by
 obtain ⟨b,o,s⟩:=a;cases s with
 | none=>rfl
 | some k=>
  exfalso;unfold World.cell? at h;split at h
  ·simp at h
  ·simp at h
def RdL {α:Type} (size:Nat) (R:List Value→α→Prop) (w:World) (A:Option Addr) (l:List α):Prop:=
 0<l.length→∃b off,A=some ⟨b,off,none⟩∧∀j (h:j<l.length),∃cs,cs.length=size∧R cs l[j]∧∀i u,cs[i]?=some u→w.cell? ⟨b,off+j*size+i,none⟩=some u
def ArgL {α:Type} (size:Nat) (R:List Value→α→Prop) (w:World) (v:Value) (l:List α):Prop:=
 ∃A cap,v=.slice A l.length cap∧RdL size R w A l∧l.length≤cap∧cap≤maxLen
theorem RdL.keep {α:Type} {size:Nat} {R:List Value→α→Prop} {w w':World} {A:Option Addr} {l:List α} (h:RdL size R w A l) (hu:Upd noBlk w w'):RdL size R w' A l:=by
 intro h0;obtain ⟨b,off,e,h1⟩:=h h0;refine ⟨b,off,e,fun j hj=>?_⟩;obtain ⟨cs,h2,h3,h4⟩:=h1 j hj;exact ⟨cs,h2,h3,fun i u hi=>hu.cell (h4 i u hi) id⟩
end Go.Proofs.YtcikldoaidmnhaaGreatDoor
namespace Go.Proofs.YtcikldoaidmnhaaGreatDoor
open Go Go.RowKit
theorem upd_of_grown {F:Nat→Prop} {w w':World} {row:Option Nat} (hg:w.grownBy w' row) (hr:∀k,row=some k→k<w.heap.size→F k):Upd F w w':=(Upd.refl F w).grown hg hr
theorem ownsRow_keep {w w':World} {base n:Nat} {T:TypeId} {s:Nat} {v:Value} {xs:List Value} (own:w.ownsRow base T s v n xs) (hk:∀g,v.ownBlock=some g→w'.heap[g]?=w.heap[g]?):w'.ownsRow base T s v n xs:=by
 refine ⟨own.1,?_⟩;rcases own.2 with h | ⟨g,cap,cur,rfl,hg,hh,r⟩
 ·exact .inl h
 ·exact .inr ⟨g,cap,cur,rfl,hg,(hk g (by simp [Value.ownBlock])).trans hh,r⟩
theorem ownsRow_upd {w w':World} {base n:Nat} {T:TypeId} {s:Nat} {v:Value} {xs:List Value} (own:w.ownsRow base T s v n xs) (hu:Upd noBlk w w'):w'.ownsRow base T s v n xs:=
 ownsRow_keep own (fun g hg=>hu.block g (own.lt g hg).2 id)
end Go.Proofs.YtcikldoaidmnhaaGreatDoor
namespace Go.Proofs.YtcikldoaidmnhaaGreatDoor
open Go Go.RowKit
section
variable {P:Program} {ops:Array Oper} {md:Region.Mode} {C:World→Prop} {Q:Exit→Act→World→Prop}
def Sure (P:Program) (ops:Array Oper) (C:World→Prop) (o:Oper) (v:Value) (a:Act):Prop:=
 (Region.wanted o (yielded ops a.tmps)=true∧∀w,C w→(execOp a.eval o).run P w=.ok (.value v) w) ∨
 (Region.wanted o (yielded ops a.tmps)=false∧v=undef)
theorem Sure.wpOp {i:Nat} {o:Oper} {v:Value} {a:Act} (hi:ops[i]?=some o) (hy:Sure P ops C o v a)
  {K:Act→World→Prop} {w:World} (hC:C w) (h:K (a.put o.dst v) w):wpOp P ops Q i K a w:=by
 unfold Go.wpOp;simp only [hi];rcases hy with ⟨hw,hv⟩ | ⟨hw,rfl⟩
 ·simp only [hw,if_true,Oper.wp,hv w hC,Oper.upon];exact .inl h
 ·simp only [hw,Bool.false_eq_true,if_false];exact h
theorem Sure.of_same {o:Oper} {v:Value} {a a':Act} (hy:Sure P ops C o v a) (he:execOp a'.eval o=execOp a.eval o)
  (hw:Region.wanted o (yielded ops a'.tmps)=Region.wanted o (yielded ops a.tmps)):Sure P ops C o v a':=by
 unfold Sure at *;rw [he,hw];exact hy
theorem wpOp_putSure {j:Nat} {oi oj:Oper} {v:Value} (hj:ops[j]?=some oj) (hap:oi.apart ops oj=true)
  (hsi:∀cs b,oi.op≠.select cs b) (hsj:∀cs b,oj.op≠.select cs b)
  (hQ:∀c a w,Q (.panic c) (a.put oi.dst v) w→Q (.panic c) a w) {K:Act→World→Prop} {a:Act} {w:World}
  (hy:Sure P ops C oi v a) (h:wpOp P ops Q j K (a.put oi.dst v) w) :
  wpOp P ops Q j (fun a' w'=>Sure P ops C oi v a'∧K (a'.put oi.dst v) w') a w:=by
 obtain ⟨h1,h2,h3⟩:=Oper.apart_spec hap;have keep:∀(a:Act),Sure P ops C oi v a→∀u,Sure P ops C oi v (a.put oj.dst u):=fun a hy u=>
  hy.of_same (execOp_put oi hsi a oj.dst u h3) (wanted_put oi a oj.dst u h3)
 have keepD:∀d,Sure P ops C oi v { a with defers:=d :: a.defers }:=fun d=>hy.of_same rfl rfl;unfold wpOp at *;simp only [hj] at *;rw [wanted_put oj a oi.dst v h1] at h;split
 ·rename_i hw
  simp only [hw,if_true] at h;rcases h with h | ⟨hasks,hlets⟩
  case inr=>exact .inr ⟨by unfold Oper.asks at *;rw [execOp_put oj hsj a oi.dst v h1] at hasks;exact hasks,hlets⟩
  refine .inl ?_;unfold Oper.wp at *;rw [execOp_put oj hsj a oi.dst v h1] at h;generalize (execOp a.eval oj).run P w=r at *;cases r with
  | ok n w'=>
   cases n<;>simp only [Oper.upon] at h ⊢
   case value u=>exact ⟨keep a hy u,by rw [←Act.put_comm a v u h2];exact h⟩
   case skip=>exact ⟨keep a hy _,by rw [←Act.put_comm a v undef h2];exact h⟩
   case defer d=>
    refine ⟨keep _ (keepD d) _,?_⟩;rw [←Act.put_comm _ v undef h2,←Act.put_defers];exact h
   case enter f args=>
    refine Calls.mono h fun e w'' he=>?_;cases e with
    | returned u=>exact ⟨keep a hy u,by rw [←Act.put_comm a v u h2];exact he⟩
    | panicked c=>exact hQ _ _ _ he
    | outgrown=>exact he
   case row row args=>exact Rows.mono h fun u w'' he=>⟨keep a hy u,by rw [←Act.put_comm a v u h2];exact he⟩
  | halt x w'=>
   cases x<;>simp only [Oper.upon] at h ⊢
   case panic u=>exact hQ _ _ _ h
 ·rename_i hw
  simp only [hw] at h;exact ⟨keep a hy _,by rw [←Act.put_comm a v undef h2];exact h⟩
def wpAnyG (P:Program) (md:Region.Mode) (ops:Array Oper) (Q:Exit→Act→World→Prop) (C:World→Prop) (n:Nat) (L:Array Bool→Act→World→Prop):Nat→Array Bool→Act→World→Prop
 | 0,listed,a,w=>L listed a w
 | f+1,listed,a,w=>
  Region.ready md ops listed≠[]∧∀i∈Region.ready md ops listed,i<n∧wpOp P ops Q i (fun a' w'=>C w'∧wpAnyG P md ops Q C n L f (listed.setIfInBounds i true) a' w') a w
theorem wpAny_of_G {n g:Nat} {L:Array Bool→Act→World→Prop} (hL:∀listed a w,L listed a w→wpAny P md ops Q g listed a w) :
  ∀(f:Nat) (listed:Array Bool) (a:Act) (w:World),wpAnyG P md ops Q C n L f listed a w→wpAny P md ops Q (f+g) listed a w
 | 0,listed,a,w,h=>by rw [Nat.zero_add];exact hL _ _ _ h
 | f+1,listed,a,w,h=>by
  rw [show f+1+g=(f+g)+1 by omega];exact ⟨fun h0=>absurd h0 h.1,fun i hi=>wpOp_mono (fun a' w' h'=>wpAny_of_G hL f _ a' w' h'.2) (h.2 i hi).2⟩
theorem wpAnyG_first {n i:Nat} {oi:Oper} {v:Value} {L:Array Bool→Act→World→Prop} (hi:ops[i]?=some oi) (hsel:∀(j:Nat) (o:Oper) cs b,ops[j]?=some o→o.op≠.select cs b)
  (hQ:∀c a w,Q (.panic c) (a.put oi.dst v) w→Q (.panic c) a w)
  (hs:Region.sinkB md ops n=true) (hc:Region.chainB md ops n=true) (hn:n<ops.size) (hin:i<n)
  (hdone:∀listed a w,L listed a w→∀j∈Region.ready md ops listed,n≤j) :
  ∀(f:Nat) (listed:Array Bool) (a:Act) (w:World),HeadInv md ops n listed→C w →
   (∀j oj,ops[j]?=some oj→j≠i→listed.getD j true=false→(∀e∈oj.after,Region.binds md e=true→e.on≠i)→oi.apart ops oj=true) →
   i∈Region.ready md ops listed→Sure P ops C oi v a →
   wpAnyG P md ops Q C n L f (listed.setIfInBounds i true) (a.put oi.dst v) w→wpAnyG P md ops Q C n L (f+1) listed a w:=by
 intro f;induction f with
 | zero=>
  intro listed a w inv hC _ hr hy H;have hun:=(mem_ready.1 hr).1;refine ⟨fun h=>(by rw [h] at hr;cases hr),fun j hj=>?_⟩;have hjn:j<n:=by
   rcases Nat.lt_or_ge j n with h | h
   ·exact h
   ·exact absurd hj (tail_waits hs hc hn inv _ i rfl hin hun j h)
  refine ⟨hjn,?_⟩;by_cases hji:j=i
  ·subst hji;exact hy.wpOp hi hC ⟨hC,H⟩
  ·have:=hdone _ _ _ H j (ready_mono hj hji);omega
 | succ f ih=>
  intro listed a w inv hC hfree hr hy H;have hun:=(mem_ready.1 hr).1;refine ⟨fun h=>(by rw [h] at hr;cases hr),fun j hj=>?_⟩;have hjn:j<n:=by
   rcases Nat.lt_or_ge j n with h | h
   ·exact h
   ·exact absurd hj (tail_waits hs hc hn inv _ i rfl hin hun j h)
  refine ⟨hjn,?_⟩;by_cases hji:j=i
  ·subst hji;exact hy.wpOp hi hC ⟨hC,H⟩
  ·have h1:=(H.2 j (ready_mono hj hji)).2;obtain ⟨hjun,oj,hoj,hall⟩:=mem_ready.1 hj;have hnot:∀e∈oj.after,Region.binds md e=true→e.on≠i:=fun e he hb heq=>by
    have h1:=hall e he hb;rw [heq,getD_both hun] at h1;cases h1
   have h2:=wpOp_putSure hoj (hfree j oj hoj hji hjun hnot) (fun cs b=>hsel i oi cs b hi) (fun cs b=>hsel j oj cs b hoj) hQ hy h1;have hfree':∀k ok,ops[k]?=some ok→k≠i→(listed.setIfInBounds j true).getD k true=false →
     (∀e∈ok.after,Region.binds md e=true→e.on≠i)→oi.apart ops ok=true:=fun k ok hk hki hun hno=>by
    refine hfree k ok hk hki ?_ hno;by_cases hjk:j=k
    ·subst hjk;exact hjun
    ·rw [getD_set_ne true hjk] at hun;exact hun
   refine wpOp_mono (fun a' w' h3=>⟨h3.2.1,ih (listed.setIfInBounds j true) a' w' (inv.set hj hjn) h3.2.1 hfree' (ready_mono hr (Ne.symm hji)) h3.1 ?_⟩) h2;rw [Array.setIfInBounds_comm _ _ hji];exact h3.2.2
def wpG (P:Program) (ops:Array Oper) (Q:Exit→Act→World→Prop) (C:World→Prop) (L:Act→World→Prop):List (Nat × Bool)→Act→World→Prop
 | [],a,w=>L a w
 | (i,true) :: rest,a,w=>∃o v,ops[i]?=some o∧Sure P ops C o v a∧wpG P ops Q C L rest (a.put o.dst v) w
 | (i,false) :: rest,a,w=>wpOp P ops Q i (fun a' w'=>C w'∧wpG P ops Q C L rest a' w') a w
def ordB (md:Region.Mode) (ops:Array Oper) (n:Nat):List (Nat × Bool)→Array Bool→Bool
 | [],listed=>Region.seqB md ops (ops.size-n) n listed
 | (i,true) :: rest,listed=>decide (i<n)&&(Region.ready md ops listed).contains i&&Region.free md ops listed i&&ordB md ops n rest (listed.setIfInBounds i true)
 | (i,false) :: rest,listed=>decide (i<n)&&decide (Region.ready md ops listed=[i])&&ordB md ops n rest (listed.setIfInBounds i true)
theorem wpAnyG_ord {n:Nat} {Lq:Act→World→Prop} (hsel:Region.noSelect ops=true) (hQ:∀c a d v w,Q (.panic c) (Act.put a d v) w→Q (.panic c) a w)
  (hs:Region.sinkB md ops n=true) (hc:Region.chainB md ops n=true) (hn:n<ops.size) :
  ∀(l:List (Nat × Bool)) (listed:Array Bool) (a:Act) (w:World),C w→HeadInv md ops n listed→ordB md ops n l listed=true→wpG P ops Q C Lq l a w →
  wpAnyG P md ops Q C n (fun listed' a' w'=>Region.seqB md ops (ops.size-n) n listed'=true∧Lq a' w') l.length listed a w
 | [],listed,a,w,_,inv,hB,h=>⟨by simpa [ordB] using hB,h⟩
 | (i,true) :: l,listed,a,w,hC,inv,hB,h=>by
  obtain ⟨o,v,h0,hy,hK⟩:=h;simp only [ordB,Bool.and_eq_true,decide_eq_true_eq] at hB;obtain ⟨⟨⟨hin,hr⟩,hf⟩,hB'⟩:=hB;have hr':i∈Region.ready md ops listed:=by simpa using hr
  exact wpAnyG_first h0 (Region.noSelect_spec hsel) (fun c a w=>hQ c a _ _ w) hs hc hn hin (fun listed' a' w' hL=>seqB_ready hL.1) l.length listed a w inv hC (Region.free_spec h0 hf) hr' hy
   (wpAnyG_ord hsel hQ hs hc hn l _ _ w hC (inv.set hr' hin) hB' hK)
 | (i,false) :: l,listed,a,w,hC,inv,hB,h=>by
  simp only [ordB,Bool.and_eq_true,decide_eq_true_eq] at hB;obtain ⟨⟨hin,hr⟩,hB'⟩:=hB;have hr':i∈Region.ready md ops listed:=by rw [hr];simp
  refine ⟨fun h0=>(by rw [h0] at hr;cases hr),fun j hj=>?_⟩;rw [hr] at hj;obtain rfl:j=i:=by simpa using hj
  exact ⟨hin,wpOp_mono (fun a' w' h'=>⟨h'.1,wpAnyG_ord hsel hQ hs hc hn l _ a' w' h'.1 (inv.set hr' hin) hB' h'.2⟩) h⟩
def ordTailB (md:Region.Mode) (ops:Array Oper) (n:Nat) (ord:List (Nat × Bool)):Bool:=
 Region.noSelect ops&&decide (n<ops.size)&&Region.sinkB md ops n&&Region.chainB md ops n&&decide (ord.length=n)&&ordB md ops n ord (Array.replicate ops.size false)
theorem wp_region_ord {id:Nat} {a:Act} {w:World} {l:List Oper} (n:Nat) (ord:List (Nat × Bool)) (C:World→Prop) (hm:P.follows .mixedOrders=true) (hB:ordTailB .any l.toArray n ord=true)
  (hQ:∀c a d v w,Q (.panic c) (Act.put a d v) w→Q (.panic c) a w) (hC:C w.drew)
  (h:wpG P l.toArray Q C (fun a' w'=>wpList P l.toArray Q (l.drop n) a' w') ord a w.drew):(Code.region id l.toArray true).wp P Q a w:=by
 simp only [ordTailB,Bool.and_eq_true,decide_eq_true_eq] at hB;obtain ⟨⟨⟨⟨⟨hsel,hn⟩,hs⟩,hc⟩,hlen⟩,hlex⟩:=hB;have hn':n<l.length:=by simpa using hn
 have hdl:(l.drop n).length=l.toArray.size-n:=by simp
 have inv0:HeadInv .any l.toArray n (Array.replicate l.toArray.size false):=
  ⟨by simp,fun j oj _ hl=>(by rw [getD_replicate_false] at hl;cases hl),fun t _ ht=>getD_in (by simpa using ht) (getD_replicate_false _ _)⟩
 have H:=wpAnyG_ord (md:=.any) hsel hQ hs hc hn ord _ a w.drew hC inv0 hlex h;refine wp_region_any hm ?_;have:=wpAny_of_G (g:=l.toArray.size-n) (fun listed a' w' hL=>by
  have:=wpAny_of_seq (md:=.any) (Q':=Q) (l.drop n) n listed a' w' (fun j=>by simp [List.getElem?_drop]) (by rw [hdl];exact hL.1) hL.2;rwa [hdl] at this) _ _ _ _ H
 rw [hlen,show n+(l.toArray.size-n)=l.toArray.size by omega] at this;exact this
variable {L:Act→World→Prop} {rest:List (Nat × Bool)} {a:Act} {w:World} {i:Nat} {o:Oper}
theorem wpG_nil (h:L a w):wpG P ops Q C L [] a w:=h
theorem wpG_sure (ho:ops[i]?=some o) (hg:o.guard=none) (v:Value) (hv:∀w',C w'→(execOp a.eval o).run P w'=.ok (.value v) w') (h:wpG P ops Q C L rest (a.put o.dst v) w) :
  wpG P ops Q C L ((i,true) :: rest) a w:=
 ⟨o,v,ho,.inl ⟨by simp [Region.wanted,hg],hv⟩,h⟩
theorem wpG_do (ho:ops[i]?=some o) (h:∀K':Act→World→Prop,(∀a' w',C w'∧wpG P ops Q C L rest a' w'→K' a' w')→if Region.wanted o (yielded ops a.tmps)=true then Oper.wp P o a w K' Q else K' (a.put o.dst undef) w) :
  wpG P ops Q C L ((i,false) :: rest) a w:=wpOp_step ho (fun K' hK=>h K' hK)
end
end Go.Proofs.YtcikldoaidmnhaaGreatDoor
namespace Go.Proofs.YtcikldoaidmnhaaGreatDoor
open Go Go.RowKit
namespace Pk
abbrev Bytes:=List UInt8
def digB (n:Nat):Bytes:=if h:n<128 then [UInt8.ofNat n] else UInt8.ofNat (n % 128+128) :: digB (n / 128)
termination_by n
decreasing_by omega
def numR:Nat→Nat→Nat→Bytes→Option (Nat × Bytes)
 | 0,_,_,_=>none
 | _+1,_,_,[]=>none
 | k+1,unit,acc,b :: r=>if b.toNat<128 then some (acc+b.toNat % 128*unit,r) else numR k (unit*128) (acc+b.toNat % 128*unit) r
def readNum (s:Bytes):Option (Nat × Bytes):=numR 9 1 0 s
theorem u8_small {n:Nat} (h:n<256):(UInt8.ofNat n).toNat=n:=by simp;omega
theorem numR_dig:∀(k n unit acc:Nat) (r:Bytes),n<128 ^ k→0<k→numR k unit acc (digB n++r)=some (acc+n*unit,r)
 | 0,_,_,_,_,_,h=>absurd h (by omega)
 | k+1,n,unit,acc,r,h,_=>by
  rw [digB];by_cases hn:n<128
  ·rw [dif_pos hn,List.cons_append,List.nil_append,numR,u8_small (by omega),if_pos hn,Nat.mod_eq_of_lt hn]
  ·rw [dif_neg hn,List.cons_append,numR,u8_small (by omega),if_neg (by omega)];have hk:0<k:=by
    rcases Nat.eq_zero_or_pos k with rfl | hk
    ·simp at h;omega
    ·exact hk
   rw [numR_dig k (n / 128) (unit*128) _ r (by rw [Nat.pow_succ] at h;omega) hk];have e1:(n % 128+128) % 128=n % 128:=by omega
   have e2:acc+n % 128*unit+n / 128*(unit*128)=acc+n*unit:=by
    have:n*unit=(n % 128+128*(n / 128))*unit:=by rw [Nat.mod_add_div]
    rw [this,Nat.add_mul,Nat.add_assoc];congr 2
    rw [Nat.mul_comm unit 128,←Nat.mul_assoc,Nat.mul_comm (n / 128) 128]
   rw [e1,e2]
theorem readNum_dig {n:Nat} (h:n<9223372036854775808) (r:Bytes):readNum (digB n++r)=some (n,r):=by
 unfold readNum;rw [numR_dig 9 n 1 0 r (Nat.lt_of_lt_of_le h (by decide)) (by decide)];simp
def takeR (n:Nat) (s:Bytes):Option (Bytes × Bytes):=if s.length<n then none else some (s.take n,s.drop n)
abbrev Part:=Bytes × Bytes
def partR (s:Bytes):Option (Part × Bytes):=match takeR 32 s with
 | none=>none
 | some (a,r)=>match takeR 32 r with
  | none=>none
  | some (b,r2)=>some ((a,b),r2)
def listR {α:Type} (one:Bytes→Option (α × Bytes)):Nat→Bytes→Option (List α × Bytes)
 | 0,s=>some ([],s)
 | k+1,s=>match one s with
  | none=>none
  | some (x,r)=>match listR one k r with
   | none=>none
   | some (l,r2)=>some (x :: l,r2)
def manyR {α:Type} (one:Bytes→Option (α × Bytes)) (s:Bytes):Option (List α × Bytes):=match readNum s with
 | none=>none
 | some (n,r)=>if 65536<n then none else listR one n r
def partsB (l:List Part):Bytes:=digB l.length++l.flatMap (fun p=>p.1++p.2)
def rootB (l:List Part):Bytes:=3 :: partsB l
def rootR (s:Bytes):Option (List Part):=match s with
 | []=>none
 | b :: r=>if b≠3 then none else match manyR partR r with
  | none=>none
  | some (l,_)=>if rootB l=s then some l else none
theorem takeR_app {n:Nat} {a r:Bytes} (h:a.length=n):takeR n (a++r)=some (a,r):=by
 unfold takeR;rw [if_neg (by rw [List.length_append];omega),←h,List.take_left,List.drop_left]
theorem partR_app {p:Part} {r:Bytes} (h1:p.1.length=32) (h2:p.2.length=32):partR (p.1++p.2++r)=some (p,r):=by
 unfold partR;rw [List.append_assoc,takeR_app h1];simp only;rw [takeR_app h2]
theorem listR_app {α:Type} (one:Bytes→Option (α × Bytes)) (enc:α→Bytes) (good:α→Prop) (h:∀x r,good x→one (enc x++r)=some (x,r)):∀(l:List α) (r:Bytes),(∀x,x∈l→good x)→listR one l.length (l.flatMap enc++r)=some (l,r)
 | [],r,_=>rfl
 | x :: l,r,hg=>by
  rw [List.length_cons,listR,List.flatMap_cons,List.append_assoc,h x _ (hg x (by simp))];simp only;rw [listR_app one enc good h l r (fun y hy=>hg y (by simp [hy]))]
def goodPart (p:Part):Prop:=p.1.length=32∧p.2.length=32
theorem manyR_parts (l:List Part) (r:Bytes) (hl:l.length≤65536) (hg:∀p,p∈l→goodPart p):manyR partR (partsB l++r)=some (l,r):=by
 unfold manyR partsB;rw [List.append_assoc,readNum_dig (by omega)];simp only;rw [if_neg (by omega)];exact listR_app partR (fun p=>p.1++p.2) goodPart (fun x r h=>partR_app h.1 h.2) l r hg
structure Grp where
 level:Int
 ins:List Part
 outs:List Bytes
 moves:List ((Int × Int × Int) × (Int × Int × Int))
 err:Int
 total:Int
 neg:Bool
 mag:Bytes
def coordsM (m:(Int × Int × Int) × (Int × Int × Int)):List Int:=[m.1.1,m.1.2.1,m.1.2.2,m.2.1,m.2.2.1,m.2.2.2]
def insideC (n:Int):Bool:=decide (0≤n∧n≤2097151)
def rightG (g:Grp):Bool:=
 decide (0≤g.level∧0≤g.err∧0≤g.total∧g.ins.length≤65536∧g.outs.length≤65536∧g.moves.length≤65536)&&g.moves.all (fun m=>(coordsM m).all insideC)&&(match g.mag with | []=>!g.neg | c :: _=>c != 0)
def movesB (l:List ((Int × Int × Int) × (Int × Int × Int))):Bytes:=digB l.length++l.flatMap (fun m=>(coordsM m).flatMap (fun n=>digB n.toNat))
def sizeG (g:Grp):Nat:=2*g.mag.length+(if g.neg then 1 else 0)
def groupB (g:Grp):Bytes:=2 :: (digB g.level.toNat++partsB g.ins++(digB g.outs.length++g.outs.flatten)++movesB g.moves++digB g.err.toNat++digB g.total.toNat++digB (sizeG g)++g.mag)
end Pk
end Go.Proofs.YtcikldoaidmnhaaGreatDoor
