/- Parts: A region that draws its order, walked once in an order of one's own choice: operations that yield one value in every world of a class, and others that are carried out one by one and keep the class; a forced tail. No condition. The decoder undoes the encoder. No condition. -/
import Derived.Test.YtmgklblglpplcaaGreatDoorRPubl1
import Derived.Test.YtmgklblglpplcaaGreatDoorRPubl2
import Derived.WalkKit
import Derived.WalkSpells
import Derived.WalkLawsBesides
import Derived.Lib.Hide
import Derived.BigQuiet
import Derived.Deep.DeepFit
import Derived.Deep.DeepCutAuto
import Derived.Deep.AppendLies
import Derived.Deep.QuietTactic
import Derived.StillTail
namespace Go.Proofs.YtmgklblglpplcaaGreatDoor
open Go Go.RowKit
section
variable {P:Program} {ops:Array Oper} {md:Region.Mode} {C:World→Prop} {Q:Exit→Act→World→Prop}
def Sure (P:Program) (ops:Array Oper) (C:World→Prop) (o:Oper) (v:Value) (a:Act):Prop:=
 (Region.wanted o (yielded ops a.tmps)=true∧∀w,C w→(execOp a.eval o).run P w=.ok (.value v) w) ∨
 (Region.wanted o (yielded ops a.tmps)=false∧v=undef)
theorem Sure.wpOp {i:Nat} {o:Oper} {v:Value} {a:Act} (hi:ops[i]?=some o) (hy:Sure P ops C o v a)
  {K:Act→World→Prop} {w:World} (hC:C w) (h:K (a.put o.dst v) w):wpOp P ops Q i K a w:=by
 unfold Go.wpOp;simp only [hi];rcases hy with ⟨hw,hv⟩ | ⟨hw,rfl⟩
 ·simp only [hw,if_true,Oper.wp,hv w hC,Oper.upon];exact .inl h
 ·simp only [hw,Bool.false_eq_true,if_false];exact h
theorem Sure.of_same {o:Oper} {v:Value} {a a':Act} (hy:Sure P ops C o v a) (he:execOp a'.eval o=execOp a.eval o)
  (hw:Region.wanted o (yielded ops a'.tmps)=Region.wanted o (yielded ops a.tmps)):Sure P ops C o v a':=by
 unfold Sure at *;rw [he,hw];exact hy
theorem wpOp_putSure {j:Nat} {oi oj:Oper} {v:Value} (hj:ops[j]?=some oj) (hap:oi.apart ops oj=true)
  (hsi:∀cs b,oi.op≠.select cs b) (hsj:∀cs b,oj.op≠.select cs b)
  (hQ:∀c a w,Q (.panic c) (a.put oi.dst v) w→Q (.panic c) a w) {K:Act→World→Prop} {a:Act} {w:World}
  (hy:Sure P ops C oi v a) (h:wpOp P ops Q j K (a.put oi.dst v) w) :
  wpOp P ops Q j (fun a' w'=>Sure P ops C oi v a'∧K (a'.put oi.dst v) w') a w:=by
 obtain ⟨h1,h2,h3⟩:=Oper.apart_spec hap;have keep:∀(a:Act),Sure P ops C oi v a→∀u,Sure P ops C oi v (a.put oj.dst u):=fun a hy u=>
  hy.of_same (execOp_put oi hsi a oj.dst u h3) (wanted_put oi a oj.dst u h3)
 have keepD:∀d,Sure P ops C oi v { a with defers:=d :: a.defers }:=fun d=>hy.of_same rfl rfl;unfold wpOp at *;simp only [hj] at *;rw [wanted_put oj a oi.dst v h1] at h;split
 ·rename_i hw
  simp only [hw,if_true] at h;rcases h with h | ⟨hasks,hlets⟩
  case inr=>exact .inr ⟨by unfold Oper.asks at *;rw [execOp_put oj hsj a oi.dst v h1] at hasks;exact hasks,hlets⟩
  refine .inl ?_;unfold Oper.wp at *;rw [execOp_put oj hsj a oi.dst v h1] at h;generalize (execOp a.eval oj).run P w=r at *;cases r with
  | ok n w'=>
   cases n<;>simp only [Oper.upon] at h ⊢
   case value u=>exact ⟨keep a hy u,by rw [←Act.put_comm a v u h2];exact h⟩
   case skip=>exact ⟨keep a hy _,by rw [←Act.put_comm a v undef h2];exact h⟩
   case defer d=>
    refine ⟨keep _ (keepD d) _,?_⟩;rw [←Act.put_comm _ v undef h2,←Act.put_defers];exact h
   case enter f args=>
    refine Calls.mono h fun e w'' he=>?_;cases e with
    | returned u=>exact ⟨keep a hy u,by rw [←Act.put_comm a v u h2];exact he⟩
    | panicked c=>exact hQ _ _ _ he
    | outgrown=>exact he
   case row row args=>exact Rows.mono h fun u w'' he=>⟨keep a hy u,by rw [←Act.put_comm a v u h2];exact he⟩
  | halt x w'=>
   cases x<;>simp only [Oper.upon] at h ⊢
   case panic u=>exact hQ _ _ _ h
 ·rename_i hw
  simp only [hw] at h;exact ⟨keep a hy _,by rw [←Act.put_comm a v undef h2];exact h⟩
def wpAnyG (P:Program) (md:Region.Mode) (ops:Array Oper) (Q:Exit→Act→World→Prop) (C:World→Prop) (n:Nat) (L:Array Bool→Act→World→Prop):Nat→Array Bool→Act→World→Prop
 | 0,listed,a,w=>L listed a w
 | f+1,listed,a,w=>
  Region.ready md ops listed≠[]∧∀i∈Region.ready md ops listed,i<n∧wpOp P ops Q i (fun a' w'=>C w'∧wpAnyG P md ops Q C n L f (listed.setIfInBounds i true) a' w') a w
theorem wpAny_of_G {n g:Nat} {L:Array Bool→Act→World→Prop} (hL:∀listed a w,L listed a w→wpAny P md ops Q g listed a w) :
  ∀(f:Nat) (listed:Array Bool) (a:Act) (w:World),wpAnyG P md ops Q C n L f listed a w→wpAny P md ops Q (f+g) listed a w
 | 0,listed,a,w,h=>by rw [Nat.zero_add];exact hL _ _ _ h
 | f+1,listed,a,w,h=>by
  rw [show f+1+g=(f+g)+1 by omega];exact ⟨fun h0=>absurd h0 h.1,fun i hi=>wpOp_mono (fun a' w' h'=>wpAny_of_G hL f _ a' w' h'.2) (h.2 i hi).2⟩
theorem wpAnyG_first {n i:Nat} {oi:Oper} {v:Value} {L:Array Bool→Act→World→Prop} (hi:ops[i]?=some oi) (hsel:∀(j:Nat) (o:Oper) cs b,ops[j]?=some o→o.op≠.select cs b)
  (hQ:∀c a w,Q (.panic c) (a.put oi.dst v) w→Q (.panic c) a w)
  (hs:Region.sinkB md ops n=true) (hc:Region.chainB md ops n=true) (hn:n<ops.size) (hin:i<n)
  (hdone:∀listed a w,L listed a w→∀j∈Region.ready md ops listed,n≤j) :
  ∀(f:Nat) (listed:Array Bool) (a:Act) (w:World),HeadInv md ops n listed→C w →
   (∀j oj,ops[j]?=some oj→j≠i→listed.getD j true=false→(∀e∈oj.after,Region.binds md e=true→e.on≠i)→oi.apart ops oj=true) →
   i∈Region.ready md ops listed→Sure P ops C oi v a →
   wpAnyG P md ops Q C n L f (listed.setIfInBounds i true) (a.put oi.dst v) w→wpAnyG P md ops Q C n L (f+1) listed a w:=by
 intro f;induction f with
 | zero=>
  intro listed a w inv hC _ hr hy H;have hun:=(mem_ready.1 hr).1;refine ⟨fun h=>(by rw [h] at hr;cases hr),fun j hj=>?_⟩;have hjn:j<n:=by
   rcases Nat.lt_or_ge j n with h | h
   ·exact h
   ·exact absurd hj (tail_waits hs hc hn inv _ i rfl hin hun j h)
  refine ⟨hjn,?_⟩;by_cases hji:j=i
  ·subst hji;exact hy.wpOp hi hC ⟨hC,H⟩
  ·have:=hdone _ _ _ H j (ready_mono hj hji);omega
 | succ f ih=>
  intro listed a w inv hC hfree hr hy H;have hun:=(mem_ready.1 hr).1;refine ⟨fun h=>(by rw [h] at hr;cases hr),fun j hj=>?_⟩;have hjn:j<n:=by
   rcases Nat.lt_or_ge j n with h | h
   ·exact h
   ·exact absurd hj (tail_waits hs hc hn inv _ i rfl hin hun j h)
  refine ⟨hjn,?_⟩;by_cases hji:j=i
  ·subst hji;exact hy.wpOp hi hC ⟨hC,H⟩
  ·have h1:=(H.2 j (ready_mono hj hji)).2;obtain ⟨hjun,oj,hoj,hall⟩:=mem_ready.1 hj;have hnot:∀e∈oj.after,Region.binds md e=true→e.on≠i:=fun e he hb heq=>by
    have h1:=hall e he hb;rw [heq,getD_both hun] at h1;cases h1
   have h2:=wpOp_putSure hoj (hfree j oj hoj hji hjun hnot) (fun cs b=>hsel i oi cs b hi) (fun cs b=>hsel j oj cs b hoj) hQ hy h1;have hfree':∀k ok,ops[k]?=some ok→k≠i→(listed.setIfInBounds j true).getD k true=false →
     (∀e∈ok.after,Region.binds md e=true→e.on≠i)→oi.apart ops ok=true:=fun k ok hk hki hun hno=>by
    refine hfree k ok hk hki ?_ hno;by_cases hjk:j=k
    ·subst hjk;exact hjun
    ·rw [getD_set_ne true hjk] at hun;exact hun
   refine wpOp_mono (fun a' w' h3=>⟨h3.2.1,ih (listed.setIfInBounds j true) a' w' (inv.set hj hjn) h3.2.1 hfree' (ready_mono hr (Ne.symm hji)) h3.1 ?_⟩) h2;rw [Array.setIfInBounds_comm _ _ hji];exact h3.2.2
def wpG (P:Program) (ops:Array Oper) (Q:Exit→Act→World→Prop) (C:World→Prop) (L:Act→World→Prop):List (Nat × Bool)→Act→World→Prop
 | [],a,w=>L a w
 | (i,true) :: rest,a,w=>∃o v,ops[i]?=some o∧Sure P ops C o v a∧wpG P ops Q C L rest (a.put o.dst v) w
 | (i,false) :: rest,a,w=>wpOp P ops Q i (fun a' w'=>C w'∧wpG P ops Q C L rest a' w') a w
def ordB (md:Region.Mode) (ops:Array Oper) (n:Nat):List (Nat × Bool)→Array Bool→Bool
 | [],listed=>Region.seqB md ops (ops.size-n) n listed
 | (i,true) :: rest,listed=>decide (i<n)&&(Region.ready md ops listed).contains i&&Region.free md ops listed i&&ordB md ops n rest (listed.setIfInBounds i true)
 | (i,false) :: rest,listed=>decide (i<n)&&decide (Region.ready md ops listed=[i])&&ordB md ops n rest (listed.setIfInBounds i true)
theorem wpAnyG_ord {n:Nat} {Lq:Act→World→Prop} (hsel:Region.noSelect ops=true) (hQ:∀c a d v w,Q (.panic c) (Act.put a d v) w→Q (.panic c) a w)
  (hs:Region.sinkB md ops n=true) (hc:Region.chainB md ops n=true) (hn:n<ops.size) :
  ∀(l:List (Nat × Bool)) (listed:Array Bool) (a:Act) (w:World),C w→HeadInv md ops n listed→ordB md ops n l listed=true→wpG P ops Q C Lq l a w →
  wpAnyG P md ops Q C n (fun listed' a' w'=>Region.seqB md ops (ops.size-n) n listed'=true∧Lq a' w') l.length listed a w
 | [],listed,a,w,_,inv,hB,h=>⟨by simpa [ordB] using hB,h⟩
 | (i,true) :: l,listed,a,w,hC,inv,hB,h=>by
  obtain ⟨o,v,h0,hy,hK⟩:=h;simp only [ordB,Bool.and_eq_true,decide_eq_true_eq] at hB;obtain ⟨⟨⟨hin,hr⟩,hf⟩,hB'⟩:=hB;have hr':i∈Region.ready md ops listed:=by simpa using hr
  exact wpAnyG_first h0 (Region.noSelect_spec hsel) (fun c a w=>hQ c a _ _ w) hs hc hn hin (fun listed' a' w' hL=>seqB_ready hL.1) l.length listed a w inv hC (Region.free_spec h0 hf) hr' hy
   (wpAnyG_ord hsel hQ hs hc hn l _ _ w hC (inv.set hr' hin) hB' hK)
 | (i,false) :: l,listed,a,w,hC,inv,hB,h=>by
  simp only [ordB,Bool.and_eq_true,decide_eq_true_eq] at hB;obtain ⟨⟨hin,hr⟩,hB'⟩:=hB;have hr':i∈Region.ready md ops listed:=by rw [hr];simp
  refine ⟨fun h0=>(by rw [h0] at hr;cases hr),fun j hj=>?_⟩;rw [hr] at hj;obtain rfl:j=i:=by simpa using hj
  exact ⟨hin,wpOp_mono (fun a' w' h'=>⟨h'.1,wpAnyG_ord hsel hQ hs hc hn l _ a' w' h'.1 (inv.set hr' hin) hB' h'.2⟩) h⟩
def ordTailB (md:Region.Mode) (ops:Array Oper) (n:Nat) (ord:List (Nat × Bool)):Bool:=
 Region.noSelect ops&&decide (n<ops.size)&&Region.sinkB md ops n&&Region.chainB md ops n&&decide (ord.length=n)&&ordB md ops n ord (Array.replicate ops.size false)
theorem wp_region_ord {id:Nat} {a:Act} {w:World} {l:List Oper} (n:Nat) (ord:List (Nat × Bool)) (C:World→Prop) (hm:P.follows .mixedOrders=true) (hB:ordTailB .any l.toArray n ord=true)
  (hQ:∀c a d v w,Q (.panic c) (Act.put a d v) w→Q (.panic c) a w) (hC:C w.drew)
  (h:wpG P l.toArray Q C (fun a' w'=>wpList P l.toArray Q (l.drop n) a' w') ord a w.drew):(Code.region id l.toArray true).wp P Q a w:=by
 simp only [ordTailB,Bool.and_eq_true,decide_eq_true_eq] at hB;obtain ⟨⟨⟨⟨⟨hsel,hn⟩,hs⟩,hc⟩,hlen⟩,hlex⟩:=hB;have hn':n<l.length:=by simpa using hn
 have hdl:(l.drop n).length=l.toArray.size-n:=by simp
 have inv0:HeadInv .any l.toArray n (Array.replicate l.toArray.size false):=
  ⟨by simp,fun j oj _ hl=>(by rw [getD_replicate_false] at hl;cases hl),fun t _ ht=>getD_in (by simpa using ht) (getD_replicate_false _ _)⟩
 have H:=wpAnyG_ord (md:=.any) hsel hQ hs hc hn ord _ a w.drew hC inv0 hlex h;refine wp_region_any hm ?_;have:=wpAny_of_G (g:=l.toArray.size-n) (fun listed a' w' hL=>by
  have:=wpAny_of_seq (md:=.any) (Q':=Q) (l.drop n) n listed a' w' (fun j=>by simp [List.getElem?_drop]) (by rw [hdl];exact hL.1) hL.2;rwa [hdl] at this) _ _ _ _ H
 rw [hlen,show n+(l.toArray.size-n)=l.toArray.size by omega] at this;exact this
variable {L:Act→World→Prop} {rest:List (Nat × Bool)} {a:Act} {w:World} {i:Nat} {o:Oper}
theorem wpG_nil (h:L a w):wpG P ops Q C L [] a w:=h
theorem wpG_sure (ho:ops[i]?=some o) (hg:o.guard=none) (v:Value) (hv:∀w',C w'→(execOp a.eval o).run P w'=.ok (.value v) w') (h:wpG P ops Q C L rest (a.put o.dst v) w) :
  wpG P ops Q C L ((i,true) :: rest) a w:=
 ⟨o,v,ho,.inl ⟨by simp [Region.wanted,hg],hv⟩,h⟩
theorem wpG_do (ho:ops[i]?=some o) (h:∀K':Act→World→Prop,(∀a' w',C w'∧wpG P ops Q C L rest a' w'→K' a' w')→if Region.wanted o (yielded ops a.tmps)=true then Oper.wp P o a w K' Q else K' (a.put o.dst undef) w) :
  wpG P ops Q C L ((i,false) :: rest) a w:=wpOp_step ho (fun K' hK=>h K' hK)
end
end Go.Proofs.YtmgklblglpplcaaGreatDoor
namespace Go.Proofs.YtmgklblglpplcaaGreatDoor
set_option maxRecDepth 100000
namespace Pc
def num (l:List Nat):Nat:=l.foldl (fun a d=>a*256+d) 0
def val (s:List Nat):Nat→Nat
 | 0=>0
 | n+1=>val s n*256+s.getD n 0
theorem num_snoc (l:List Nat) (d:Nat):num (l++[d])=num l*256+d:=by simp [num,List.foldl_append]
theorem val_append (a b:List Nat) (n:Nat) (h:n≤a.length):val (a++b) n=val a n:=by
 induction n with
 | zero=>rfl
 | succ n ih=>
  show val (a++b) n*256+_=val a n*256+_;rw [ih (by omega)];congr 1
  simp [List.getD,List.getElem?_append_left (show n<a.length by omega)]
theorem num_val (l:List Nat):num l=val l l.length:=by
 rcases List.eq_nil_or_concat l with h | ⟨k,d,h⟩
 ·subst h;rfl
 ·rw [List.concat_eq_append] at h;subst h;rw [num_snoc,List.length_append];show num k*256+d=val (k++[d]) k.length*256+_;rw [val_append _ _ _ (Nat.le_refl _),←num_val k];simp [List.getD]
termination_by l.length
decreasing_by subst h;simp
theorem val_congr {a b:List Nat} (h:∀i,a.getD i 0=b.getD i 0) (n:Nat):val a n=val b n:=by
 induction n with
 | zero=>rfl
 | succ n ih=>show val a n*256+_=val b n*256+_;rw [ih,h]
theorem getD_zeros (a:List Nat) (k i:Nat):(a++List.replicate k 0).getD i 0=a.getD i 0:=by
 simp only [List.getD,List.getElem?_append,List.getElem?_replicate];by_cases h:i<a.length
 ·simp [h]
 ·have:a[i]?=none:=List.getElem?_eq_none (by omega);simp only [h,if_false,this];split<;>rfl
theorem trimR_spec (l:List Nat):∃k,l=List.replicate k 0++trimR l:=by
 induction l with
 | nil=>exact ⟨0,rfl⟩
 | cons d r ih=>
  obtain ⟨k,hk⟩:=ih;unfold trimR;by_cases h:d=0
  ·simp only [h,if_true];exact ⟨k+1,by rw [List.replicate_succ,List.cons_append,←hk]⟩
  ·simp only [h,if_false];exact ⟨0,rfl⟩
theorem trim_spec (l:List Nat):∃k,l=trim l++List.replicate k 0:=by
 obtain ⟨k,hk⟩:=trimR_spec l.reverse;refine ⟨k,?_⟩;have:=congrArg List.reverse hk;simpa [trim] using this
theorem trim_getD (l:List Nat) (i:Nat):(trim l).getD i 0=l.getD i 0:=by
 obtain ⟨k,hk⟩:=trim_spec l;conv=>rhs;rw [hk]
 rw [getD_zeros]
theorem num_carry {l:List Nat} (h:∀d,d∈l→d<256) (hb:num l+1<256 ^ l.length):num (carry l)=num l+1:=by
 rcases List.eq_nil_or_concat l with hl | ⟨k,d,hl⟩
 ·subst hl;exact absurd hb (by decide)
 ·rw [List.concat_eq_append] at hl;subst hl;by_cases hd:d=255
  ·subst hd;rw [carry_snoc_255,num_snoc,num_snoc];rw [num_snoc,List.length_append,List.length_singleton,Nat.pow_succ] at hb;rw [num_carry (l:=k) (fun d hd=>h d (by simp [hd])) (by omega)];omega
  ·rw [carry_snoc_ne k hd,num_snoc,num_snoc];omega
termination_by l.length
decreasing_by subst hl;simp
def E.T (e:E):Nat:=num e.done*4294967296+e.low
structure E.Ok (e:E):Prop where
 wf:e.Wf
 fit:e.T+e.m.size≤256 ^ e.done.length*4294967296
theorem E.init_ok:E.init.Ok:=⟨E.init_wf,by decide⟩
theorem E.done1_num {e:E} (h:e.Ok) {i:Nat} (hi:i<4096) (one:Bool) :
  num (e.done1 i one)*4294967296+e.low1 i one=e.T+(if one then e.m.split i else 0):=by
 have h1:=h.fit;have h2:=M.split_bd h.wf.m hi;have h3:=h.wf.low;have h4:=h.wf.m.hi;unfold E.T at h1 ⊢;unfold E.done1 E.low1;cases one
 ·simp
 ·by_cases hc:4294967296≤e.low+e.m.split i
  ·simp only [hc,decide_true,Bool.and_self,if_true];rw [num_carry h.wf.done (by omega)];omega
  ·simp only [hc,decide_false,Bool.and_false,Bool.false_eq_true,if_false,if_true];omega
theorem E.bit_T {e:E} (h:e.Ok) (c:Int) (one:Bool) :
  (e.bit c one).T=(e.T+(if one then e.m.split (ctx c) else 0))*(if e.m.shifts (ctx c) one then 256 else 1) ∧
  (e.bit c one).m.size=e.m.raw (ctx c) one*(if e.m.shifts (ctx c) one then 256 else 1) ∧
  (e.bit c one).done.length=e.done.length+(if e.m.shifts (ctx c) one then 1 else 0):=by
 have h1:=E.done1_num h (ctx_lt c) one;have h2:=E.done1_length e (ctx c) one;have h3:=E.low1_lt h.wf (ctx c) one;refine ⟨?_,?_,?_⟩
 ·unfold E.bit;dsimp only
  by_cases hs:e.m.shifts (ctx c) one=true
  ·simp only [hs,if_true];show num (e.done1 (ctx c) one++[e.low1 (ctx c) one / 16777216])*4294967296+e.low1 (ctx c) one % 16777216*256=_;rw [num_snoc,←h1];clear h1 h2 hs;generalize e.low1 (ctx c) one=x at *;generalize num (e.done1 (ctx c) one)=y at *;omega
  ·simp only [hs,Bool.false_eq_true,if_false];rw [Nat.mul_one];exact h1
 ·rw [E.bit_m];show norm _=_;unfold norm M.shifts;by_cases hs:e.m.raw (ctx c) one<16777216
  ·simp [hs]
  ·simp [hs]
 ·unfold E.bit;dsimp only
  by_cases hs:e.m.shifts (ctx c) one=true
  ·simp only [hs,if_true,List.length_append,h2,List.length_singleton]
  ·simp [hs,h2]
theorem E.bit_ok {e:E} (h:e.Ok) (c:Int) (one:Bool):(e.bit c one).Ok:=by
 obtain ⟨h1,h2,h3⟩:=E.bit_T h c one;have h4:=h.fit;have h5:=M.split_bd h.wf.m (ctx_lt c);refine ⟨E.bit_wf h.wf c one,?_⟩;rw [h1,h2,h3,←Nat.add_mul];have h6:e.T+(if one then e.m.split (ctx c) else 0)+e.m.raw (ctx c) one≤256 ^ e.done.length*4294967296:=by
  unfold M.raw;cases one
  ·simp;omega
  ·simp;omega
 by_cases hs:e.m.shifts (ctx c) one=true
 ·simp only [hs,if_true,Nat.pow_succ];have:=Nat.mul_le_mul_right 256 h6;rw [show 256 ^ e.done.length*256*4294967296=256 ^ e.done.length*4294967296*256 by omega];exact this
 ·simp only [hs,Bool.false_eq_true,if_false,Nat.mul_one,Nat.add_zero];exact h6
theorem encFrom_ok {e:E} (h:e.Ok) (l:List (Int × Bool)):(encFrom e l).Ok:=by
 induction l generalizing e with
 | nil=>exact h
 | cons a l ih=>exact ih (E.bit_ok h a.1 a.2)
def E.In (e:E) (s:List Nat):Prop:=e.T≤val s (e.done.length+4)∧val s (e.done.length+4)<e.T+e.m.size
theorem E.in_back {e:E} (h:e.Ok) {s:List Nat} (hs:∀i,s.getD i 0<256) (c:Int) (one:Bool) (hin:(e.bit c one).In s) :
  e.T+(if one then e.m.split (ctx c) else 0)≤val s (e.done.length+4)∧val s (e.done.length+4)<e.T+(if one then e.m.split (ctx c) else 0)+e.m.raw (ctx c) one:=by
 obtain ⟨h1,h2,h3⟩:=E.bit_T h c one;unfold E.In at hin;rw [h1,h2,h3] at hin;generalize e.T+(if one then e.m.split (ctx c) else 0)=t at *;generalize e.m.raw (ctx c) one=r at *;by_cases hsh:e.m.shifts (ctx c) one=true
 ·simp only [hsh,if_true] at hin;rw [show e.done.length+1+4=(e.done.length+4)+1 by omega] at hin;have hv:val s (e.done.length+4+1)=val s (e.done.length+4)*256+s.getD (e.done.length+4) 0:=rfl;have:=hs (e.done.length+4);omega
 ·simp only [hsh,Bool.false_eq_true,if_false,Nat.mul_one,Nat.add_zero] at hin;exact hin
theorem E.in_step {e:E} (h:e.Ok) {s:List Nat} (hs:∀i,s.getD i 0<256) (c:Int) (one:Bool) (hin:(e.bit c one).In s):e.In s:=by
 have h1:=E.in_back h hs c one hin;have h2:=M.split_bd h.wf.m (ctx_lt c);unfold E.In;unfold M.raw at h1;cases one
 ·simp at h1;omega
 ·simp at h1;omega
theorem E.in_from {e:E} (h:e.Ok) {s:List Nat} (hs:∀i,s.getD i 0<256) (l:List (Int × Bool)) (hin:(encFrom e l).In s):e.In s:=by
 induction l generalizing e with
 | nil=>exact hin
 | cons a l ih=>exact E.in_step h hs a.1 a.2 (ih (E.bit_ok h a.1 a.2) hin)
structure Along (e:E) (s:List Nat) (d:D):Prop where
 m:d.m=e.m
 off:d.off=val s (e.done.length+4)-e.T
 left:d.left=s.drop (e.done.length+4)
theorem D.next_m (d:D):d.next.m=d.m:=by unfold D.next;split<;>rfl
theorem D.next_drop (d:D) {s:List Nat} {n:Nat} (h:d.left=s.drop n):d.next.left=s.drop (n+1)∧d.next.off=(d.off*256+s.getD n 0) % 4294967296:=by
 have e2:s.drop (n+1)=(s.drop n).drop 1:=by rw [List.drop_drop]
 unfold D.next;split
 ·rename_i hl
  rw [hl] at h;have hn:s.length≤n:=by
   have:=congrArg List.length h;simp at this;omega
  refine ⟨by rw [e2,←h];rfl,?_⟩;simp [List.getD,List.getElem?_eq_none hn]
 ·rename_i b r hl
  rw [hl] at h;have hn:s[n]?=some b:=by
   have:(s.drop n)[0]?=some b:=by rw [←h];rfl
   simpa using this
  refine ⟨by rw [e2,←h];rfl,?_⟩;simp [List.getD,hn]
theorem Along.one {e:E} (h:e.Ok) {s:List Nat} (hs:∀i,s.getD i 0<256) {d:D} (ha:Along e s d) (c:Int) (one:Bool) (hin:(e.bit c one).In s):d.one c=one:=by
 have h1:=E.in_back h hs c one hin;unfold D.one;rw [ha.m,ha.off];unfold M.raw at h1;cases one
 ·simp at h1 ⊢;omega
 ·simp at h1 ⊢;omega
theorem Along.step {e:E} (h:e.Ok) {s:List Nat} (hs:∀i,s.getD i 0<256) {d:D} (ha:Along e s d) (c:Int) (one:Bool) (hin:(e.bit c one).In s):Along (e.bit c one) s (d.bit c):=by
 have ho:=ha.one h hs c one hin;have h1:=E.in_back h hs c one hin;obtain ⟨h2,h3,h4⟩:=E.bit_T h c one;have h5:=M.raw_bd h.wf.m (ctx_lt c) one;have h6:d.off1 c=val s (e.done.length+4)-(e.T+(if one then e.m.split (ctx c) else 0)):=by
  unfold D.off1;rw [ho,ha.off,ha.m];cases one
  ·simp
  ·simp;omega
 have hm:d.m.step (ctx c) (d.one c)=(e.bit c one).m:=by rw [ho,ha.m,E.bit_m]
 unfold D.bit;rw [hm];simp only [ho,ha.m];by_cases hsh:e.m.shifts (ctx c) one=true
 ·simp only [hsh,if_true] at h2 h3 h4 ⊢;have hr:e.m.raw (ctx c) one<16777216:=by simpa [M.shifts] using hsh
  obtain ⟨n1,n2⟩:=D.next_drop (⟨(e.bit c one).m,d.left,d.off1 c⟩:D) ha.left;refine ⟨D.next_m _,?_,?_⟩
  ·rw [n2,h2,h4];rw [show e.done.length+1+4=(e.done.length+4)+1 by omega];have hv:val s (e.done.length+4+1)=val s (e.done.length+4)*256+s.getD (e.done.length+4) 0:=rfl;have:=hs (e.done.length+4);rw [hv];dsimp only
   rw [h6];generalize e.T+(if one then e.m.split (ctx c) else 0)=t at *;generalize e.m.raw (ctx c) one=r at *;omega
  ·rw [n1,h4]
 ·simp only [hsh,Bool.false_eq_true,if_false] at h2 h4 ⊢;refine ⟨rfl,?_,?_⟩
  ·show d.off1 c=_;rw [h6,h2,h4];simp
  ·show d.left=_;rw [ha.left,h4]
theorem decode_along {e:E} (h:e.Ok) {s:List Nat} (hs:∀i,s.getD i 0<256) {d:D} (ha:Along e s d) (l:List (Int × Bool)) (hin:(encFrom e l).In s) :
  decodeFrom d (l.map (·.1))=l.map (·.2):=by
 induction l generalizing e d with
 | nil=>rfl
 | cons a l ih=>
  have h1:(e.bit a.1 a.2).In s:=E.in_from (E.bit_ok h a.1 a.2) hs l hin;show d.one a.1 :: decodeFrom (d.bit a.1) (l.map (·.1))=a.2 :: l.map (·.2);rw [ha.one h hs a.1 a.2 h1,ih (E.bit_ok h a.1 a.2) (ha.step h hs a.1 a.2 h1) hin]
theorem ofCode_along (s:List Nat) (hs:∀i,s.getD i 0<256):Along E.init s (D.ofCode s):=by
 obtain ⟨a1,b1⟩:=D.next_drop (s:=s) (n:=0) ⟨M.init,s,0⟩ rfl;obtain ⟨a2,b2⟩:=D.next_drop _ a1;obtain ⟨a3,b3⟩:=D.next_drop _ a2;obtain ⟨a4,b4⟩:=D.next_drop _ a3;refine ⟨?_,?_,a4⟩
 ·unfold D.ofCode;rw [D.next_m,D.next_m,D.next_m,D.next_m];rfl
 ·show (D.ofCode s).off=val s 4-0;unfold D.ofCode;rw [b4,b3,b2,b1];show _=(((0*256+s.getD 0 0)*256+s.getD (0+1) 0)*256+s.getD (0+1+1) 0)*256+s.getD (0+1+1+1) 0-0;have:=hs 0;have:=hs (0+1);have:=hs (0+1+1);have:=hs (0+1+1+1);dsimp only
  omega
def E.fin (e:E):List Nat:=if e.last=256 then carry e.done++[0] else e.done++[e.last]
theorem E.finish_fin (e:E):e.finish=trim e.fin:=rfl
theorem E.fin_lt {e:E} (h:e.Wf):∀d,d∈e.fin→d<256:=by
 intro d hd;have h1:=h.low;unfold E.fin at hd;split at hd
 ·simp only [List.mem_append,List.mem_singleton] at hd;rcases hd with hd | rfl
  ·exact carry_lt h.done d hd
  ·omega
 ·simp only [List.mem_append,List.mem_singleton] at hd;rcases hd with hd | rfl
  ·exact h.done d hd
  ·unfold E.last at *;omega
theorem ceil_bd (x:Nat):x≤(x+16777215) / 16777216*16777216∧(x+16777215) / 16777216*16777216≤x+16777215:=by
 have h1:=Nat.div_mul_le_self (x+16777215) 16777216;have h2:=Nat.mod_lt (x+16777215) (show 16777216 > 0 by decide);have h3:=Nat.div_add_mod (x+16777215) 16777216;rw [Nat.mul_comm] at h3;generalize (x+16777215) / 16777216*16777216=q at *;generalize (x+16777215) % 16777216=r at *;exact ⟨by omega,h1⟩
theorem up_le {y x q:Nat} (hq:x≤q*16777216):y*4294967296+x≤(y*256+q)*16777216:=by
 rw [Nat.add_mul,Nat.mul_assoc];exact Nat.add_le_add_left hq _
theorem up_lt {y x q z:Nat} (hq:q*16777216≤x+16777215) (h2:16777216≤z):(y*256+q)*16777216<y*4294967296+x+z:=by
 omega
theorem E.fin_num {e:E} (h:e.Ok):e.T≤num e.fin*16777216∧num e.fin*16777216<e.T+e.m.size∧e.fin.length=e.done.length+1:=by
 have h1:=h.wf.low;have h2:=h.wf.m.lo;have h3:=h.fit;unfold E.T at *;unfold E.fin;obtain ⟨hq1,hq2⟩:=ceil_bd e.low;by_cases hl:e.last=256
 ·simp only [hl,if_true,num_snoc,List.length_append,carry_length,List.length_singleton];unfold E.last at hl;rw [hl] at hq1 hq2;generalize hw:256 ^ e.done.length=w at *;rw [num_carry h.wf.done (by rw [hw];omega),show (num e.done+1)*256+0=num e.done*256+(256+0) by omega];exact ⟨up_le (q:=256+0) hq1,up_lt (q:=256+0) hq2 h2,trivial⟩
 ·simp only [hl,if_false,num_snoc,List.length_append,List.length_singleton];unfold E.last;exact ⟨up_le hq1,up_lt hq2 h2,trivial⟩
theorem getD_lt {l:List Nat} (h:∀d,d∈l→d<256) (i:Nat):l.getD i 0<256:=by
 simp only [List.getD];cases he:l[i]? with
 | none=>simp
 | some d=>exact h d (List.mem_of_getElem? he)
theorem decode_encode (l:List (Int × Bool)) (k:Nat):decode (encode l++List.replicate k 0) (l.map (·.1))=l.map (·.2):=by
 have hok:=encFrom_ok E.init_ok l;have hg:∀i,(encode l++List.replicate k 0).getD i 0=(encFrom E.init l).fin.getD i 0:=fun i=>by
  rw [getD_zeros];unfold encode;rw [E.finish_fin,trim_getD]
 have hs:∀i,(encode l++List.replicate k 0).getD i 0<256:=fun i=>by rw [hg];exact getD_lt (E.fin_lt hok.wf) i
 refine decode_along E.init_ok hs (ofCode_along _ hs) l ?_;obtain ⟨f1,f2,f3⟩:=E.fin_num hok;have hv:∀n,val (encode l++List.replicate k 0) n=val (encFrom E.init l).fin n:=val_congr hg;unfold E.In;rw [hv];have hn:=num_val (encFrom E.init l).fin;rw [f3] at hn;have z:∀i,(encFrom E.init l).done.length+1≤i→(encFrom E.init l).fin.getD i 0=0:=fun i hi=>by
  simp [List.getD,List.getElem?_eq_none (show (encFrom E.init l).fin.length≤i by omega)]
 have e4:val (encFrom E.init l).fin ((encFrom E.init l).done.length+4)=((num (encFrom E.init l).fin*256+0)*256+0)*256+0:=by
  rw [hn,←z ((encFrom E.init l).done.length+3) (by omega)];conv=>rhs;rw [show (((val (encFrom E.init l).fin ((encFrom E.init l).done.length+1))*256+(encFrom E.init l).fin.getD ((encFrom E.init l).done.length+3) 0))=val (encFrom E.init l).fin ((encFrom E.init l).done.length+1)*256+(encFrom E.init l).fin.getD ((encFrom E.init l).done.length+1) 0 by rw [z _ (by omega),z _ (by omega)]]
  conv=>rhs;rw [show ∀x:Nat,x*256+(encFrom E.init l).fin.getD ((encFrom E.init l).done.length+3) 0=x*256+(encFrom E.init l).fin.getD ((encFrom E.init l).done.length+3) 0 from fun _=>rfl]
  show (((val (encFrom E.init l).fin ((encFrom E.init l).done.length+1))*256+(encFrom E.init l).fin.getD ((encFrom E.init l).done.length+1) 0)*256+(encFrom E.init l).fin.getD ((encFrom E.init l).done.length+2) 0)*256+(encFrom E.init l).fin.getD ((encFrom E.init l).done.length+3) 0=_;rw [z _ (Nat.le_refl _),z ((encFrom E.init l).done.length+2) (by omega),z ((encFrom E.init l).done.length+3) (by omega)]
 rw [e4];constructor<;>omega
def nrm (x:Int × Bool):Nat × Bool:=(ctx x.1,x.2)
end Pc
end Go.Proofs.YtmgklblglpplcaaGreatDoor
