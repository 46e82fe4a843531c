/- Parts: General lemmas: an append onto a row of the call's own. No condition. Maps as functions: one element turned in place ('m[k]++'), and kits for whatever is laid by an injective code. No condition. Maps in the call's own memory as functions: looked up, stored into, ranged over, whatever the keys and the elements are. No condition. Rings at a corner: what program and reference look for is the same. No -/
import Derived.Test.YtcikldoaidmnhaaGreatDoorQFace1
import Derived.Test.YtcikldoaidmnhaaGreatDoorQFace2
import Derived.Maps.OwnOps
import Derived.Maps.OwnSet
import Derived.Maps.RangeWalk
import Derived.WideKeyEntry
namespace Go.Proofs.YtcikldoaidmnhaaGreatDoor
open Go Go.RowKit
namespace Pk
def ringLoop (l:List Tri) (p tq:Pt) (M:Nat):Nat→Nat→Pt→Bool
 | 0,size,at_=>decide (at_=tq∧size<M)
 | f+1,size,at_=>if at_≠tq∧size≤M then match third l p at_ with
   | none=>decide (at_=tq∧size<M)
   | some b=>ringLoop l p tq M f (size+1) b
  else decide (at_=tq∧size<M)
theorem ringLoop_iff (l:List Tri) (p tq:Pt) (M:Nat):∀(f size:Nat) (at_:Pt),M+1≤size+f→(ringLoop l p tq M f size at_=true↔∃k,size+k<M∧ringN l p k at_=some tq)
 | 0,size,at_,h=>by
  rw [ringLoop,decide_eq_true_eq];exact ⟨fun k=>absurd k.2 (by omega),fun ⟨k,h1,_⟩=>absurd h1 (by omega)⟩
 | f+1,size,at_,h=>by
  rw [ringLoop];by_cases h1:at_≠tq∧size≤M
  ·rw [if_pos h1];cases h2:third l p at_ with
   | none=>
    simp only;rw [decide_eq_true_eq];refine ⟨fun k=>absurd k.1 h1.1,fun ⟨k,h3,h4⟩=>?_⟩;cases k with
    | zero=>rw [ringN] at h4;cases h4;exact absurd rfl h1.1
    | succ k=>rw [ringN,h2] at h4;cases h4
   | some b=>
    simp only;rw [ringLoop_iff l p tq M f (size+1) b (by omega)];constructor
    ·rintro ⟨k,h3,h4⟩;exact ⟨k+1,by omega,by rw [ringN,h2];exact h4⟩
    ·rintro ⟨k,h3,h4⟩;cases k with
     | zero=>rw [ringN] at h4;cases h4;exact absurd rfl h1.1
     | succ k=>rw [ringN,h2] at h4;exact ⟨k,by omega,h4⟩
  ·rw [if_neg h1,decide_eq_true_eq];constructor
   ·rintro ⟨rfl,h3⟩;exact ⟨0,h3,rfl⟩
   ·rintro ⟨k,h3,h4⟩;refine ⟨?_,by omega⟩;by_cases e:at_=tq
    ·exact e
    ·exact absurd ⟨e,by omega⟩ h1
def hitE (l:List Tri) (e:Pt × Pt):Bool:=(List.range (manyC l e.1)).any (fun n=>decide (1≤n)&&(ringN l e.1 n e.2 == some e.2))
theorem hitE_iff (l:List Tri) (e:Pt × Pt):hitE l e=true↔∃n,1≤n∧n<manyC l e.1∧ringN l e.1 n e.2=some e.2:=by
 unfold hitE;rw [List.any_eq_true];constructor
 ·rintro ⟨n,h1,h2⟩;simp only [Bool.and_eq_true,decide_eq_true_eq,beq_iff_eq] at h2;exact ⟨n,h2.1,List.mem_range.1 h1,h2.2⟩
 ·rintro ⟨n,h1,h2,h3⟩;exact ⟨n,List.mem_range.2 h2,by simp [h1,h3]⟩
theorem pinched_any (l:List Tri):pinched l=(edgesL l).any (hitE l):=rfl
theorem ring_prog (l:List Tri) (e:Pt × Pt) {at0:Pt} (h:third l e.1 e.2=some at0):ringLoop l e.1 e.2 (manyC l e.1) (manyC l e.1) 1 at0=hitE l e:=by
 rw [Bool.eq_iff_iff,ringLoop_iff l e.1 e.2 _ _ _ _ (by omega),hitE_iff];constructor
 ·rintro ⟨k,h1,h2⟩;exact ⟨k+1,by omega,by omega,by rw [ringN,h];exact h2⟩
 ·rintro ⟨n,h1,h2,h3⟩;obtain ⟨k,rfl⟩:∃k,n=k+1:=⟨n-1,by omega⟩;rw [ringN,h] at h3;exact ⟨k,by omega,h3⟩
def mineL (l:List Tri) (p:Pt):List Tri:=l.flatMap (fun t=>((edgesT t).filter (fun e=>decide (e.1=p))).map (fun _=>t))
def startsL (l:List Tri) (p:Pt):List Pt:=l.flatMap (fun t=>((edgesT t).filter (fun e=>decide (e.1=p))).map (·.2))
theorem third_or (a b:List Tri) (p q:Pt):third (a++b) p q=(third a p q).or (third b p q):=by
 induction a with
 | nil=>rfl
 | cons t a ih=>
  rw [List.cons_append,third,third];split
  ·rfl
  ·split
   ·rfl
   ·split
    ·rfl
    ·exact ih
theorem third_all {t:Tri} {p q:Pt}:∀{xs:List Tri},(∀x,x∈xs→x=t)→xs≠[]→third xs p q=third [t] p q
 | [],_,h=>absurd rfl h
 | [x],h,_=>by rw [h x (by simp)]
 | x :: y :: xs,h,_=>by
  have ih:=third_all (p:=p) (q:=q) (xs:=y :: xs) (fun z hz=>h z (by simp [hz])) (by simp);have:x :: y :: xs=[x]++(y :: xs):=rfl;rw [this,third_or,ih,h x (by simp)];cases third [t] p q<;>rfl
theorem third_mine (p q:Pt):∀l:List Tri,third (mineL l p) p q=third l p q
 | []=>rfl
 | t :: l=>by
  have e:mineL (t :: l) p=((edgesT t).filter (fun e=>decide (e.1=p))).map (fun _=>t)++mineL l p:=rfl;rw [e,third_or,third_mine p q l,show t :: l=[t]++l from rfl,third_or];by_cases hx:((edgesT t).filter (fun e=>decide (e.1=p))).map (fun _=>t)=[]
  ·rw [hx];have hn:∀e,e∈edgesT t→e.1≠p:=fun e he h=>by
    have:e∈(edgesT t).filter (fun e=>decide (e.1=p)):=List.mem_filter.2 ⟨he,by simp [h]⟩;rw [List.map_eq_nil_iff] at hx;rw [hx] at this;cases this
   have h1:=hn (t.1,t.2.1) (by simp [edgesT]);have h2:=hn (t.2.1,t.2.2) (by simp [edgesT]);have h3:=hn (t.2.2,t.1) (by simp [edgesT]);have:third [t] p q=none:=by
    rw [third,if_neg (fun h=>h1 h.1),if_neg (fun h=>h2 h.1),if_neg (fun h=>h3 h.1)];rfl
   rw [this];rfl
  ·rw [third_all (t:=t) (fun x hx=>by obtain ⟨_,_,rfl⟩:=List.mem_map.1 hx;rfl) hx]
theorem mine_length (l:List Tri) (p:Pt):(mineL l p).length=manyC l p:=by
 induction l with
 | nil=>rfl
 | cons t l ih=>
  have e1:mineL (t :: l) p=((edgesT t).filter (fun e=>decide (e.1=p))).map (fun _=>t)++mineL l p:=rfl;have e2:manyC (t :: l) p=[t.1,t.2.1,t.2.2].count p+manyC l p:=by unfold manyC;rw [List.flatMap_cons,List.count_append]
  rw [e1,e2,List.length_append,List.length_map,ih];congr 1
  simp only [edgesT,List.filter_cons,List.filter_nil,List.count_cons,List.count_nil,beq_iff_eq,decide_eq_true_eq];split<;>split<;>split<;>simp
theorem starts_length (l:List Tri) (p:Pt):(startsL l p).length=(mineL l p).length:=by
 induction l with
 | nil=>rfl
 | cons t l ih=>
  have e1:mineL (t :: l) p=((edgesT t).filter (fun e=>decide (e.1=p))).map (fun _=>t)++mineL l p:=rfl;have e2:startsL (t :: l) p=((edgesT t).filter (fun e=>decide (e.1=p))).map (·.2)++startsL l p:=rfl;rw [e1,e2,List.length_append,List.length_append,List.length_map,List.length_map,ih]
theorem mem_starts {l:List Tri} {p q:Pt}:q∈startsL l p↔(p,q)∈edgesL l:=by
 unfold startsL;rw [List.mem_flatMap,mem_edgesL];constructor
 ·rintro ⟨t,h1,h2⟩;obtain ⟨e,h3,rfl⟩:=List.mem_map.1 h2;obtain ⟨h4,h5⟩:=List.mem_filter.1 h3;refine ⟨t,h1,?_⟩;have:e.1=p:=by simpa using h5
  rw [←this];exact h4
 ·rintro ⟨t,h1,h2⟩;exact ⟨t,h1,List.mem_map.2 ⟨(p,q),List.mem_filter.2 ⟨h2,by simp⟩,rfl⟩⟩
def stepLoop (m:List Tri) (p start:Pt):Nat→Pt→Bool
 | 0,_=>false
 | n+1,at_=>match third m p at_ with
  | none=>false
  | some b=>if b=start then true else stepLoop m p start n b
theorem stepLoop_iff (m:List Tri) (p start:Pt):∀(n:Nat) (at_:Pt),stepLoop m p start n at_=true↔∃k,1≤k∧k≤n∧ringN m p k at_=some start
 | 0,at_=>by
  rw [stepLoop];exact ⟨fun h=>(by cases h),fun ⟨k,h1,h2,_⟩=>(by omega)⟩
 | n+1,at_=>by
  rw [stepLoop];cases h:third m p at_ with
  | none=>
   simp only;refine ⟨fun h=>(by cases h),fun ⟨k,h1,_,h3⟩=>?_⟩;obtain ⟨j,rfl⟩:∃j,k=j+1:=⟨k-1,by omega⟩;rw [ringN,h] at h3;cases h3
  | some b=>
   simp only;by_cases hb:b=start
   ·rw [if_pos hb];refine ⟨fun _=>⟨1,by omega,by omega,?_⟩,fun _=>rfl⟩;rw [ringN,h,hb];rfl
   ·rw [if_neg hb,stepLoop_iff m p start n b];constructor
    ·rintro ⟨k,h1,h2,h3⟩;exact ⟨k+1,by omega,by omega,by rw [ringN,h];exact h3⟩
    ·rintro ⟨k,h1,h2,h3⟩;obtain ⟨j,rfl⟩:∃j,k=j+1:=⟨k-1,by omega⟩;rw [ringN,h] at h3;simp only at h3;cases j with
     | zero=>rw [ringN] at h3;cases h3;exact absurd rfl hb
     | succ j=>exact ⟨j+1,by omega,by omega,h3⟩
def pinchedAt (l:List Tri) (p:Pt):Bool:=(startsL l p).any (fun q=>stepLoop (mineL l p) p q ((mineL l p).length-1) q)
theorem ringN_mine (l:List Tri) (p:Pt):∀(n:Nat) (q:Pt),ringN (mineL l p) p n q=ringN l p n q
 | 0,_=>rfl
 | n+1,q=>by
  rw [ringN,ringN,third_mine];cases third l p q with
  | none=>rfl
  | some r=>exact ringN_mine l p n r
theorem pinchedAt_iff (l:List Tri) (p:Pt):pinchedAt l p=true↔∃q,(p,q)∈edgesL l∧hitE l (p,q)=true:=by
 unfold pinchedAt;rw [List.any_eq_true];constructor
 ·rintro ⟨q,h1,h2⟩;refine ⟨q,mem_starts.1 h1,?_⟩;rw [stepLoop_iff] at h2;obtain ⟨k,k1,k2,k3⟩:=h2;rw [hitE_iff];rw [mine_length] at k2;exact ⟨k,k1,by show k<manyC l p;omega,by rw [←ringN_mine];exact k3⟩
 ·rintro ⟨q,h1,h2⟩;refine ⟨q,mem_starts.2 h1,?_⟩;rw [hitE_iff] at h2;obtain ⟨k,k1,k2,k3⟩:=h2;rw [stepLoop_iff,mine_length];have k2':k<manyC l p:=k2;exact ⟨k,k1,by omega,by rw [ringN_mine];exact k3⟩
theorem pinched_ref (l:List Tri) (cs:List Pt) (h:∀p,p∈cs↔∃t,t∈l∧p∈cornT t):cs.any (pinchedAt l)=pinched l:=by
 rw [pinched_any,Bool.eq_iff_iff,List.any_eq_true,List.any_eq_true];constructor
 ·rintro ⟨p,_,h2⟩;obtain ⟨q,h3,h4⟩:=(pinchedAt_iff l p).1 h2;exact ⟨(p,q),h3,h4⟩
 ·rintro ⟨⟨p,q⟩,h1,h2⟩;obtain ⟨t,k1,k2⟩:=mem_edgesL.1 h1;refine ⟨p,(h p).2 ⟨t,k1,?_⟩,(pinchedAt_iff l p).2 ⟨q,h1,h2⟩⟩;simp only [edgesT,List.mem_cons,Prod.mk.injEq,List.not_mem_nil,or_false] at k2;rcases k2 with ⟨rfl,_⟩ | ⟨rfl,_⟩ | ⟨rfl,_⟩<;>simp [cornT]
end Pk
end Go.Proofs.YtcikldoaidmnhaaGreatDoor
namespace Go.Proofs.YtcikldoaidmnhaaGreatDoor
open Go Go.RowKit
namespace Pk
theorem rot_ref (t:Tri):(if ptLt t.2.2 t.1&&(ptLt t.2.2 t.2.1||!ptLt t.2.1 t.1) then (t.2.2,t.1,t.2.1) else if ptLt t.2.1 t.1 then (t.2.1,t.2.2,t.1) else t)=rot t:=by
 unfold rot;cases h1:ptLt t.2.1 t.1<;>cases h2:ptLt t.2.2 t.2.1<;>cases h3:ptLt t.2.2 t.1<;>simp
 have:=ptLt_trans h2 h1;rw [h3] at this;cases this
def mergeT:List Tri→List Tri→List Tri
 | [],b=>b
 | a :: r,b=>b.takeWhile (fun t=>triLt t a)++a :: mergeT r (b.dropWhile (fun t=>triLt t a))
theorem mergeT_perm:∀a b:List Tri,(mergeT a b).Perm (a++b)
 | [],b=>List.Perm.refl _
 | a :: r,b=>by
  rw [mergeT];have h1:=mergeT_perm r (b.dropWhile (fun t=>triLt t a));have h2:b=b.takeWhile (fun t=>triLt t a)++b.dropWhile (fun t=>triLt t a):=List.takeWhile_append_dropWhile.symm;refine (List.perm_middle).trans ?_;rw [List.cons_append];refine List.Perm.cons a ?_;refine (List.Perm.append_left _ h1).trans ?_;refine List.Perm.trans ?_ (List.Perm.of_eq (congrArg (r++·) h2.symm));show (_++(r++_)).Perm (r++(_++_));rw [←List.append_assoc,←List.append_assoc];exact List.Perm.append_right _ List.perm_append_comm
theorem le_of_ge {s t:Tri} (h:triLt s t=false):triLe t s=true:=by unfold triLe;rw [h];rfl
theorem le_of_lt {s t:Tri} (h:triLt s t=true):triLe s t=true:=by unfold triLe;rw [triLt_asymm h];rfl
def Sorted (l:List Tri):Prop:=l.Pairwise (fun a b=>triLe a b=true)
theorem sorted_drop {a:Tri}:∀{b:List Tri},Sorted b→(∀x,x∈b.dropWhile (fun t=>triLt t a)→triLe a x=true)∧Sorted (b.dropWhile (fun t=>triLt t a))
 | [],_=>⟨fun x h=>(by cases h),List.Pairwise.nil⟩
 | y :: b,h=>by
  obtain ⟨p1,p2⟩:=List.pairwise_cons.1 h;rw [List.dropWhile_cons];cases hy:triLt y a
  ·simp only [Bool.false_eq_true,if_false];refine ⟨fun x hx=>?_,h⟩;rcases List.mem_cons.1 hx with rfl | hx
   ·exact le_of_ge hy
   ·exact triLe_trans _ _ _ (le_of_ge hy) (p1 x hx)
  ·simp only [if_true];exact sorted_drop p2
theorem mergeT_sorted:∀{a b:List Tri},Sorted a→Sorted b→Sorted (mergeT a b)
 | [],b,_,h=>h
 | a :: r,b,h1,h2=>by
  obtain ⟨p1,p2⟩:=List.pairwise_cons.1 h1;obtain ⟨q1,q2⟩:=sorted_drop (a:=a) h2;have ih:=mergeT_sorted p2 q2;rw [mergeT];have ht:∀x,x∈b.takeWhile (fun t=>triLt t a)→triLt x a=true:=fun x hx=>by
   exact List.all_eq_true.1 (List.all_takeWhile (p:=fun t=>triLt t a) (l:=b)) x hx
  have hr:∀x,x∈a :: mergeT r (b.dropWhile (fun t=>triLt t a))→triLe a x=true:=fun x hx=>by
   rcases List.mem_cons.1 hx with rfl | hx
   ·exact le_of_ge (triLt_irrefl x)
   ·rcases List.mem_append.1 ((mergeT_perm _ _).mem_iff.1 hx) with hx | hx
    ·exact p1 x hx
    ·exact q1 x hx
  refine List.pairwise_append.2 ⟨?_,List.pairwise_cons.2 ⟨fun x hx=>hr x (List.mem_cons_of_mem _ hx),ih⟩,fun x hx y hy=>triLe_trans _ _ _ (le_of_lt (ht x hx)) (hr y hy)⟩;exact List.Pairwise.sublist (List.takeWhile_sublist _) h2
theorem mergeT_sort (a b:List Tri):mergeT (a.mergeSort triLe) (b.mergeSort triLe)=(a++b).mergeSort triLe:=by
 have hs:∀l:List Tri,Sorted (l.mergeSort triLe):=fun l=>List.pairwise_mergeSort triLe_trans triLe_total l;refine sorted_unique ?_ (mergeT_sorted (hs a) (hs b)) (hs _);refine (mergeT_perm _ _).trans (List.Perm.trans ?_ (List.mergeSort_perm _ _).symm);exact List.Perm.append (List.mergeSort_perm _ _) (List.mergeSort_perm _ _)
theorem sort_half (l:List Tri):mergeT ((l.take (l.length / 2)).mergeSort triLe) ((l.drop (l.length / 2)).mergeSort triLe)=l.mergeSort triLe:=by
 rw [mergeT_sort,List.take_append_drop]
theorem sort_few (l:List Tri) (h:l.length<2):l.mergeSort triLe=l:=by
 match l,h with
 | [],_=>simp
 | [a],_=>simp
def withP (l:List Pt) (p:Pt):List Pt:=if (l.dropWhile (fun q=>ptLt q p)).head?=some p then l else l.takeWhile (fun q=>ptLt q p)++p :: l.dropWhile (fun q=>ptLt q p)
theorem withP_mem (l:List Pt) (p q:Pt):q∈withP l p↔q=p∨q∈l:=by
 have h2:l=l.takeWhile (fun q=>ptLt q p)++l.dropWhile (fun q=>ptLt q p):=List.takeWhile_append_dropWhile.symm;unfold withP;split
 ·rename_i h
  have:p∈l:=by
   rw [h2];exact List.mem_append_right _ (List.mem_of_mem_head? h)
  constructor
  ·exact fun h=>.inr h
  ·rintro (rfl | h)
   ·exact this
   ·exact h
 ·constructor
  ·intro h;rcases List.mem_append.1 h with h | h
   ·exact .inr (by rw [h2];exact List.mem_append_left _ h)
   ·rcases List.mem_cons.1 h with h | h
    ·exact .inl h
    ·exact .inr (by rw [h2];exact List.mem_append_right _ h)
  ·rintro (rfl | h)
   ·exact List.mem_append_right _ (by simp)
   ·rw [h2] at h;rcases List.mem_append.1 h with h | h
    ·exact List.mem_append_left _ h
    ·exact List.mem_append_right _ (List.mem_cons_of_mem _ h)
theorem withP_len (l:List Pt) (p:Pt):(withP l p).length≤l.length+1:=by
 unfold withP;split
 ·omega
 ·have h2:=congrArg List.length (List.takeWhile_append_dropWhile (p:=fun q=>ptLt q p) (l:=l));rw [List.length_append] at h2;rw [List.length_append,List.length_cons];omega
def cornersL (l:List Tri):List Pt:=(l.flatMap cornT).foldl withP []
theorem foldl_with (ps:List Pt):∀(l:List Pt) (q:Pt),q∈ps.foldl withP l↔q∈l∨q∈ps:=by
 induction ps with
 | nil=>intro l q;simp
 | cons p ps ih=>intro l q;rw [List.foldl_cons,ih,withP_mem,List.mem_cons];exact ⟨fun h=>h.elim (fun h=>h.elim (fun h=>.inr (.inl h)) .inl) (fun h=>.inr (.inr h)),fun h=>h.elim (fun h=>.inl (.inr h)) (fun h=>h.elim (fun h=>.inl (.inl h)) .inr)⟩
theorem cornersL_mem (l:List Tri) (p:Pt):p∈cornersL l↔∃t,t∈l∧p∈cornT t:=by
 unfold cornersL;rw [foldl_with];simp [List.mem_flatMap]
theorem foldl_with_len (ps:List Pt):∀l:List Pt,(ps.foldl withP l).length≤l.length+ps.length:=by
 induction ps with
 | nil=>intro l;simp
 | cons p ps ih=>intro l;rw [List.foldl_cons];have:=ih (withP l p);have:=withP_len l p;rw [List.length_cons];omega
theorem check_ref (l:List Tri):(if l.any flatT then 20 else if (edgesL l).any (fun e=>decide (1<(edgesL l).count e)) then 21 else if (cornersL l).any (pinchedAt l) then 23 else 0)=checkO l:=by
 unfold checkO;rw [pinched_ref l (cornersL l) (cornersL_mem l)];have:((edgesL l).any (fun e=>decide (1<(edgesL l).count e))=true)↔¬(edgesL l).Nodup:=by
  rw [List.any_eq_true,List.nodup_iff_count];constructor
  ·rintro ⟨e,he,hc⟩ h;have:=h e;simp at hc;omega
  ·intro h;obtain ⟨e,he⟩:=Classical.not_forall.1 h;exact ⟨e,List.count_pos_iff.1 (by omega),by simp;omega⟩
 by_cases hn:(edgesL l).Nodup
 ·have h2:¬((edgesL l).any (fun e=>decide (1<(edgesL l).count e))=true):=fun h=>this.1 h hn;rw [if_neg h2];simp [hn]
 ·rw [if_pos (this.2 hn)];simp [hn]
end Pk
end Go.Proofs.YtcikldoaidmnhaaGreatDoor
namespace Go.Proofs.YtcikldoaidmnhaaGreatDoor
open Go Go.RowKit
theorem upd_of_grown {F:Nat→Prop} {w w':World} {row:Option Nat} (hg:w.grownBy w' row) (hr:∀k,row=some k→k<w.heap.size→F k):Upd F w w':=(Upd.refl F w).grown hg hr
theorem ownsRow_keep {w w':World} {base n:Nat} {T:TypeId} {s:Nat} {v:Value} {xs:List Value} (own:w.ownsRow base T s v n xs) (hk:∀g,v.ownBlock=some g→w'.heap[g]?=w.heap[g]?):w'.ownsRow base T s v n xs:=by
 refine ⟨own.1,?_⟩;rcases own.2 with h | ⟨g,cap,cur,rfl,hg,hh,r⟩
 ·exact .inl h
 ·exact .inr ⟨g,cap,cur,rfl,hg,(hk g (by simp [Value.ownBlock])).trans hh,r⟩
theorem ownsRow_upd {w w':World} {base n:Nat} {T:TypeId} {s:Nat} {v:Value} {xs:List Value} (own:w.ownsRow base T s v n xs) (hu:Upd noBlk w w'):w'.ownsRow base T s v n xs:=
 ownsRow_keep own (fun g hg=>hu.block g (own.lt g hg).2 id)
end Go.Proofs.YtcikldoaidmnhaaGreatDoor
namespace Go.Proofs.YtcikldoaidmnhaaGreatDoor
open Go Go.RowKit
structure MapKit (P:Program) (α β:Type) where
 t:TypeId
 k:TypeId
 e:TypeId
 encK:α→Value
 klK:α→Lit
 goodK:α→Prop
 encV:β→Value
 dV:β→DataW Unit
 goodV:β→Prop
 zero:β
 R:Value→Option (DataW Unit × List MemPlace)
 keyed:Maps.Keyed P k
 ht:P.underlying t=some (.map k e)
 hkey:∀a,goodK a→keyOf P k (encK a)=some (klK a)
 inj:∀a b,goodK a→goodK b→klK a=klK b→a=b
 hval:∀b,goodV b→R (encV b)=some (dV b,[])
 hinv:∀v y,R v=some y→∃b,goodV b∧v=encV b∧y=(dV b,[])
 dinj:∀b b',goodV b→goodV b'→dV b=dV b'→b=b'
 hz:∀w,(zeroValue e).run P w=.ok (encV zero) w
 gz:goodV zero
variable {P:Program} {α β:Type}
def MapKit.At (K:MapKit P α β) (w:World) (b n:Nat) (f:α→Option β):Prop:=
 ∃D:DataW Unit,w.ownsMap P K.k K.R b n D∧(∀a,K.goodK a→D.atKey (K.klK a) (K.dV K.zero)=K.dV ((f a).getD K.zero))∧(∀a,K.goodK a→Maps.has D (K.klK a)=(f a).isSome)∧(∀kl,Maps.has D kl=true→∃a,K.goodK a∧kl=K.klK a)∧(∀a v,f a=some v→K.goodV v)
theorem MapKit.At.made (K:MapKit P α β) (w:World):K.At (w.alloc (.map #[] 0)) w.heap.size 0 (fun _=>none):=⟨_,World.ownsMap_made _ _ _ _,fun _ _=>rfl,fun _ _=>rfl,(fun _ h=>by cases h),(fun _ _ h=>by cases h)⟩
theorem MapKit.At.blk {K:MapKit P α β} {w:World} {b n:Nat} {f:α→Option β} (h:K.At w b n f):∃es clock,w.heap[b]?=some (.map es clock):=by
 obtain ⟨D,⟨es,clock,h1,_⟩,_⟩:=h;exact ⟨es,clock,h1⟩
theorem MapKit.At.heap {K:MapKit P α β} {w w':World} {b n:Nat} {f:α→Option β} (h:K.At w b n f) (hb:∀o,w.heap[b]?=some o→w'.heap[b]?=some o):K.At w' b n f:=by
 obtain ⟨D,⟨es,clock,h1,h2,h3,h4⟩,h5⟩:=h;exact ⟨D,⟨es,clock,hb _ h1,h2,h3,h4⟩,h5⟩
theorem MapKit.At.keep {K:MapKit P α β} {w w':World} {b n:Nat} {f:α→Option β} (h:K.At w b n f) (hu:Upd noBlk w w'):K.At w' b n f:=h.heap (fun _ ho=>hu.heap ho id)
theorem MapKit.At.other {K:MapKit P α β} {F:Nat→Prop} {w w':World} {b n:Nat} {f:α→Option β} (h:K.At w b n f) (hu:Upd F w w') (hF:¬F b):K.At w' b n f:=h.heap (fun _ ho=>hu.heap ho hF)
theorem MapKit.At.mono {K:MapKit P α β} {w:World} {b n m:Nat} {f:α→Option β} (h:K.At w b n f) (hm:n≤m):K.At w b m f:=by
 obtain ⟨D,h1,h2⟩:=h;exact ⟨D,h1.mono hm,h2⟩
theorem MapKit.At.look {K:MapKit P α β} {w:World} {ops:Array Oper} {rest:List Oper} {o:Oper} {ac:Act} {Q:Exit→Act→World→Prop} {b n:Nat} {f:α→Option β} (h:K.At w b n f) (hg:o.guard=none) (m x:Operand) (hop:o.op=Op.lookup K.t m x false) (hm:ac.eval m=.map (some b)) {a:α} (hx:ac.eval x=K.encK a) (ha:K.goodK a)
  (hK:wpList P ops Q rest (ac.put o.dst (K.encV ((f a).getD K.zero))) w):wpList P ops Q (o :: rest) ac w:=by
 obtain ⟨D,h1,h2,h3,h4,h5⟩:=h;obtain ⟨v,ps,hrun,hv⟩:=h1.lookup K.keyed K.ht (K.hz w) (K.hval _ K.gz) (K.hkey a ha);obtain ⟨c,gc,rfl,hc⟩:=K.hinv v _ hv;rw [h2 a ha] at hc;have hgd:K.goodV ((f a).getD K.zero):=by
  cases hf:f a with
  | none=>exact K.gz
  | some u=>exact h5 a u hf
 have:=K.dinj _ _ hgd gc (by simpa using (Prod.mk.inj hc).1);subst this;refine wpList_plain hg fun K' hK'=>?_;unfold Oper.wp;simp [execOp,hop,hm,hx,hrun,Result.andThen];exact hK' _ _ hK
theorem MapKit.At.putD [DecidableEq α] {K:MapKit P α β} {w w':World} {b n:Nat} {f:α→Option β} {D:DataW Unit} (h1:w.ownsMap P K.k K.R b n D) (h2:∀a,K.goodK a→D.atKey (K.klK a) (K.dV K.zero)=K.dV ((f a).getD K.zero)) (h3:∀a,K.goodK a→Maps.has D (K.klK a)=(f a).isSome) (h4:∀kl,Maps.has D kl=true→∃a,K.goodK a∧kl=K.klK a) (h5:∀a v,f a=some v→K.goodV v)
  {a:α} (ha:K.goodK a) {v:β} (hv:K.goodV v) (k1:w'.ownsMap P K.k K.R b (n+1) (D.put (K.klK a) (K.dV v))):K.At w' b (n+1) (fun c=>if c=a then some v else f c):=by
 have ht:=h1.tidy K.keyed;have hkl:WideAt.IsKeyLit (K.klK a):=K.keyed.key (K.hkey a ha);refine ⟨_,k1,fun c hc=>?_,fun c hc=>?_,fun kl hk=>?_,fun c u hu=>?_⟩
 ·by_cases e:c=a
  ·subst e;rw [Maps.atKey_put_same ht.isMap hkl];simp only [if_pos,Option.getD_some]
  ·rw [Maps.atKey_put_other (fun h=>e (K.inj c a hc ha h)),h2 c hc];simp only [if_neg e]
 ·by_cases e:c=a
  ·subst e;rw [Maps.has_put_same ht.isMap hkl];simp only [if_pos,Option.isSome_some]
  ·rw [Maps.has_put_other (fun h=>e (K.inj c a hc ha h)),h3 c hc];simp only [if_neg e]
 ·by_cases e:kl=K.klK a
  ·exact ⟨a,ha,e⟩
  ·rw [Maps.has_put_other e] at hk;exact h4 kl hk
 ·by_cases e:c=a
  ·simp only [if_pos e] at hu;cases hu;exact hv
  ·simp only [if_neg e] at hu;exact h5 c u hu
theorem MapKit.At.put [DecidableEq α] {K:MapKit P α β} {w:World} {b n:Nat} {f:α→Option β} (h:K.At w b n f) (hn:n<maxLen) {a:α} (ha:K.goodK a) {v:β} (hv:K.goodV v) :
  ∃w',(Instr.mapUpdate K.t (.map (some b)) (K.encK a) (K.encV v)).run P w=.ok () w'∧K.At w' b (n+1) (fun c=>if c=a then some v else f c)∧Upd (fun j=>j=b) w w':=by
 obtain ⟨D,h1,h2,h3,h4,h5⟩:=h;obtain ⟨w',hrun,k1,k2⟩:=h1.update K.keyed K.ht hn (K.hkey a ha) (K.hval v hv);exact ⟨w',hrun,MapKit.At.putD h1 h2 h3 h4 h5 ha hv k1,upd_of_grown k2 (fun j hj _=>(Option.some.inj hj).symm)⟩
theorem MapKit.At.store [DecidableEq α] {K:MapKit P α β} {w:World} {ops:Array Oper} {rest:List Oper} {o:Oper} {ac:Act} {Q:Exit→Act→World→Prop} {b n:Nat} {f:α→Option β} (h:K.At w b n f) (hn:n<maxLen) (hg:o.guard=none) (m x y:Operand) (hop:o.op=Op.mapUpdate K.t m x y) (hm:ac.eval m=.map (some b)) {a:α} (hx:ac.eval x=K.encK a) (ha:K.goodK a) {v:β} (hy:ac.eval y=K.encV v) (hv:K.goodV v)
  (hK:∀w',K.At w' b (n+1) (fun c=>if c=a then some v else f c)→Upd (fun j=>j=b) w w'→wpList P ops Q rest (ac.put o.dst undef) w'):wpList P ops Q (o :: rest) ac w:=by
 obtain ⟨w',hrun,r1,r2⟩:=h.put hn ha hv;refine wpList_plain hg fun K' hK'=>?_;unfold Oper.wp;simp [execOp,hop,hm,hx,hy,hrun,Result.andThen];exact hK' _ _ (hK w' r1 r2)
def MapKit.Rng (K:MapKit P α β) (w:World) (b r n:Nat) (f:α→Option β) (left:α→Bool) (cnt:Nat):Prop:=
 ∃(D:DataW Unit) (ll:Lit→Bool),w.ranges P K.k K.R b r n D ll cnt∧(∀a,K.goodK a→D.atKey (K.klK a) (K.dV K.zero)=K.dV ((f a).getD K.zero))∧(∀a,K.goodK a→Maps.has D (K.klK a)=(f a).isSome)∧(∀kl,Maps.has D kl=true→∃a,K.goodK a∧kl=K.klK a)∧(∀a v,f a=some v→K.goodV v)∧(∀a,K.goodK a→ll (K.klK a)=left a)∧(∀kl,ll kl=true→Maps.has D kl=true)
theorem MapKit.Rng.at {K:MapKit P α β} {w:World} {b r n:Nat} {f:α→Option β} {left:α→Bool} {cnt:Nat} (h:K.Rng w b r n f left cnt):K.At w b n f:=by
 obtain ⟨D,ll,h1,h2,h3,h4,h5,_⟩:=h;exact ⟨D,h1.owns,h2,h3,h4,h5⟩
theorem MapKit.Rng.left_eq {K:MapKit P α β} {w:World} {b r n:Nat} {f:α→Option β} {left:α→Bool} {cnt:Nat} (h:K.Rng w b r n f left cnt):w.rangeLeft b r=cnt:=by
 obtain ⟨D,ll,h1,_⟩:=h;exact h1.left_eq
theorem MapKit.Rng.kept {K:MapKit P α β} {w w':World} {b r n:Nat} {f:α→Option β} {left:α→Bool} {cnt:Nat} {row:Option Nat} (h:K.Rng w b r n f left cnt) (hg:w.grownBy w' row) (hb:some b≠row) (hr:some r≠row):K.Rng w' b r n f left cnt:=by
 obtain ⟨D,ll,h1,h2⟩:=h;exact ⟨D,ll,h1.kept hg hb hr,h2⟩
theorem MapKit.At.range {K:MapKit P α β} {w:World} {ops:Array Oper} {rest:List Oper} {o:Oper} {ac:Act} {Q:Exit→Act→World→Prop} {b n:Nat} {f:α→Option β} (h:K.At w b n f) (hg:o.guard=none) (m:Operand) (hop:o.op=Op.range K.t m) (hm:ac.eval m=.map (some b))
  (hK:∀w' cnt,K.Rng w' b w.heap.size n f (fun a=>(f a).isSome) cnt→w.grownBy w' none→w'.heap.size=w.heap.size+1→wpList P ops Q rest (ac.put o.dst (.pointer (some ⟨w.heap.size,0,none⟩))) w'):wpList P ops Q (o :: rest) ac w:=by
 obtain ⟨D,h1,h2,h3,h4,h5⟩:=h;exact wpList_range_own w hg m K.t hop K.k K.e K.keyed K.ht K.R b n D hm h1 (fun w' k1 k2 k3=>hK w' _ ⟨D,_,k1,h2,h3,h4,h5,fun a ha=>h3 a ha,fun _ h=>h⟩ k2 k3)
theorem MapKit.Rng.next [DecidableEq α] {K:MapKit P α β} {w:World} {ops:Array Oper} {rest:List Oper} {o:Oper} {ac:Act} {Q:Exit→Act→World→Prop} {b r n:Nat} {f:α→Option β} {left:α→Bool} {cnt:Nat} (h:K.Rng w b r n f left cnt) (hg:o.guard=none) (it:Operand) (hop:o.op=Op.next it false) (hit:ac.eval it=.pointer (some ⟨r,0,none⟩))
  (hDone:cnt=0→(∀a,K.goodK a→left a=false)→wpList P ops Q rest (ac.put o.dst (.tuple #[.bool false])) w)
  (hMore:∀(a:α) (v:β) (w':World) (cnt':Nat),K.goodK a→left a=true→f a=some v→K.Rng w' b r n f (fun c=>left c&&!decide (c=a)) cnt'→cnt'<cnt→w.grownBy w' (some r)→w'.heap.size=w.heap.size →
   (Instr.entry (.pointer (some ⟨r,0,none⟩))).run P w'=.ok (.tuple #[K.encK a,K.encV v]) w'→wpList P ops Q rest (ac.put o.dst (.tuple #[.bool true,K.encK a,K.encV v])) w') :
  wpList P ops Q (o :: rest) ac w:=by
 obtain ⟨D,ll,h1,h2,h3,h4,h5,h6,h7⟩:=h;refine wpList_next_ranges (α:=Value) (β:=Value) w hg it hop K.k K.keyed K.R id id (fun key _ _=>⟨key,rfl⟩) (fun v _ _=>⟨v,rfl⟩) b r n D ll cnt hit h1 (fun c0 hl=>hDone c0 (fun a ha=>by rw [←h6 a ha];exact hl _)) ?_;intro x c kl y w' cnt' hkey hll hR hat hrg hlt hgr hsz hen;simp only [id] at hkey hR hen ⊢;obtain ⟨a,ha,rfl⟩:=h4 kl (h7 kl hll);have hxa:x=K.encK a:=K.keyed.inj hkey (K.hkey a ha);subst hxa;have hsome:=h3 a ha;rw [h7 _ hll] at hsome;obtain ⟨v,hv⟩:=Option.isSome_iff_exists.1 hsome.symm;obtain ⟨v',gv',rfl,hy⟩:=K.hinv c y hR;have h8:=h2 a ha;rw [hat,hv,hy] at h8;have:=K.dinj _ _ gv' (h5 a v hv) (by simpa using h8);subst this;refine hMore a v' w' cnt' ha (by rw [←h6 a ha];exact hll) hv ⟨D,_,hrg,h2,h3,h4,h5,fun d hd=>?_,fun kl hk=>?_⟩ hlt hgr hsz hen
 ·show (ll (K.klK d)&&!(K.klK d).sameKey (K.klK a))=_;rw [h6 d hd];congr 1
  by_cases e:d=a
  ·subst e;rw [WideAt.sameKey_self (K.keyed.key (K.hkey d hd))];simp
  ·have:(K.klK d).sameKey (K.klK a)=false:=Maps.sameKey_ne (fun h=>e (K.inj d a hd ha h));rw [this];simp [e]
 ·simp only [Bool.and_eq_true] at hk;exact h7 kl hk.1
theorem MapKit.Rng.nextH [DecidableEq α] {K:MapKit P α β} {w:World} {ops:Array Oper} {rest:List Oper} {o:Oper} {ac:Act} {Q:Exit→Act→World→Prop} {b r n:Nat} {f:α→Option β} {left:α→Bool} {cnt:Nat} (h:K.Rng w b r n f left cnt) (hg:o.guard=none) (it:Operand) (hop:o.op=Op.next it false) (hit:ac.eval it=.pointer (some ⟨r,0,none⟩))
  (hDone:Hid (cnt=0→(∀a,K.goodK a→left a=false)→wpList P ops Q rest (ac.put o.dst (.tuple #[.bool false])) w))
  (hMore:Hid (∀(a:α) (v:β) (w':World) (cnt':Nat),K.goodK a→left a=true→f a=some v→K.Rng w' b r n f (fun c=>left c&&!decide (c=a)) cnt'→cnt'<cnt→w.grownBy w' (some r)→w'.heap.size=w.heap.size →
   (Instr.entry (.pointer (some ⟨r,0,none⟩))).run P w'=.ok (.tuple #[K.encK a,K.encV v]) w'→wpList P ops Q rest (ac.put o.dst (.tuple #[.bool true,K.encK a,K.encV v])) w')) :
  wpList P ops Q (o :: rest) ac w:=h.next hg it hop hit hDone hMore
end Go.Proofs.YtcikldoaidmnhaaGreatDoor
namespace Go.Proofs.YtcikldoaidmnhaaGreatDoor
open Go Go.RowKit
variable {P:Program} {α β:Type}
theorem MapKit.At.entry [DecidableEq α] {K:MapKit P α β} (L:Go.WideMaps.KeyLaw P K.k) {w:World} {b n:Nat} {f:α→Option β} (h:K.At w b n f) (hn:n<maxLen) {a:α} (ha:K.goodK a) {v:β} (hv:K.goodV v) :
  ∃(v0:Value) (st:Nat) (w1 w2:World),(Instr.mapEntry K.t (.map (some b)) (K.encK a)).run P w=.ok (.tuple #[v0,goInt st]) w1∧(Instr.entryStore K.t (.map (some b)) (goInt st) (K.encV v)).run P w1=.ok () w2 ∧
   K.At w2 b (n+1) (fun c=>if c=a then some v else f c)∧Upd (fun j=>j=b) w w2:=by
 obtain ⟨w',hrun,r1,r2⟩:=h.put hn ha hv;obtain ⟨D,⟨es,clock,hb,hF,hs,hD⟩,_⟩:=h;obtain ⟨v0,st,es1,clock1,he,_,hst⟩:=Go.WideElems.entry_then_store L K.ht K.hz hb hF (K.hkey a ha);have hlt:=lt_of_heap hb;obtain ⟨es',clock',hs1,hs2⟩:=hst (Go.ChangeMaps.setBlock w b (.map es1 clock1)) (K.encV v) (by unfold Go.ChangeMaps.setBlock;simp [hlt]);refine ⟨v0,st,_,_,he,hs1,?_⟩;rw [hs2] at hrun;have e:Go.ChangeMaps.setBlock w b (.map es' clock')=w':=by cases hrun;rfl
 have e2:Go.ChangeMaps.setBlock (Go.ChangeMaps.setBlock w b (.map es1 clock1)) b (.map es' clock')=Go.ChangeMaps.setBlock w b (.map es' clock'):=by unfold Go.ChangeMaps.setBlock;simp
 rw [e2,e];exact ⟨r1,r2⟩
theorem MapKit.At.lookR {K:MapKit P α β} {w:World} {b n:Nat} {f:α→Option β} (h:K.At w b n f) {a:α} (ha:K.goodK a):(Instr.lookup K.t (.map (some b)) (K.encK a) false).run P w=.ok (K.encV ((f a).getD K.zero)) w:=by
 obtain ⟨D,h1,h2,h3,h4,h5⟩:=h;obtain ⟨v,ps,hrun,hv⟩:=h1.lookup K.keyed K.ht (K.hz w) (K.hval _ K.gz) (K.hkey a ha);obtain ⟨c,gc,rfl,hc⟩:=K.hinv v _ hv;rw [h2 a ha] at hc;have hgd:K.goodV ((f a).getD K.zero):=by
  cases hf:f a with
  | none=>exact K.gz
  | some u=>exact h5 a u hf
 have:=K.dinj _ _ hgd gc (by simpa using (Prod.mk.inj hc).1);subst this;exact hrun
theorem MapKit.At.lookOkR {K:MapKit P α β} {w:World} {b n:Nat} {f:α→Option β} (h:K.At w b n f) {a:α} (ha:K.goodK a):(Instr.lookup K.t (.map (some b)) (K.encK a) true).run P w=.ok (.tuple #[K.encV ((f a).getD K.zero),.bool (f a).isSome]) w:=by
 obtain ⟨D,h1,h2,h3,h4,h5⟩:=h;obtain ⟨v,ps,hrun,hv⟩:=h1.look_ok K.keyed K.ht (K.hz w) (K.hval _ K.gz) (K.hkey a ha);obtain ⟨c,gc,rfl,hc⟩:=K.hinv v _ hv;rw [h2 a ha] at hc;rw [h3 a ha] at hrun;have hgd:K.goodV ((f a).getD K.zero):=by
  cases hf:f a with
  | none=>exact K.gz
  | some u=>exact h5 a u hf
 have:=K.dinj _ _ hgd gc (by simpa using (Prod.mk.inj hc).1);subst this;exact hrun
theorem grown_of_upd {w w':World} (h:Upd noBlk w w'):w.grownBy w' none:=⟨h.os,h.tape,h.output,h.size,fun k hk _=>h.block k hk id⟩
theorem grown_of_upd1 {w w':World} {c:Nat} (h:Upd (fun j=>j=c) w w'):w.grownBy w' (some c):=⟨h.os,h.tape,h.output,h.size,fun k hk hc=>h.block k hk (fun e=>hc (by rw [e]))⟩
theorem MapKit.Rng.keep {K:MapKit P α β} {w w':World} {b r n:Nat} {f:α→Option β} {left:α→Bool} {cnt:Nat} (h:K.Rng w b r n f left cnt) (hu:Upd noBlk w w'):K.Rng w' b r n f left cnt:=h.kept (grown_of_upd hu) (by simp) (by simp)
theorem MapKit.Rng.other {K:MapKit P α β} {w w':World} {b r n c:Nat} {f:α→Option β} {left:α→Bool} {cnt:Nat} (h:K.Rng w b r n f left cnt) (hu:Upd (fun j=>j=c) w w') (hb:b≠c) (hr:r≠c):K.Rng w' b r n f left cnt:=h.kept (grown_of_upd1 hu) (by simpa using hb) (by simpa using hr)
theorem MapKit.At.entry2 [DecidableEq α] {K:MapKit P α β} (L:Go.WideMaps.KeyLaw P K.k) {w:World} {b n:Nat} {f:α→Option β} (h:K.At w b n f) (hn:n<maxLen) {a:α} (ha:K.goodK a) :
  ∃(st:Nat) (w1:World),(Instr.mapEntry K.t (.map (some b)) (K.encK a)).run P w=.ok (.tuple #[K.encV ((f a).getD K.zero),goInt st]) w1 ∧
   (K.At w1 b (n+1) (fun c=>if c=a then some ((f a).getD K.zero) else f c)∧Upd (fun j=>j=b) w w1) ∧
   ∀v,K.goodV v→∃w2,(Instr.entryStore K.t (.map (some b)) (goInt st) (K.encV v)).run P w1=.ok () w2∧K.At w2 b (n+1) (fun c=>if c=a then some v else f c)∧Upd (fun j=>j=b) w w2:=by
 have hl:=h.lookR ha;have hkey:=K.hkey a ha;obtain ⟨D,⟨es,clock,hb,hF,hs,hD⟩,_⟩:=id h;obtain ⟨v0,st,es1,clock1,he,_,hst⟩:=Go.WideElems.entry_then_store L K.ht K.hz hb hF hkey;have hlt:=lt_of_heap hb;have hgd:K.goodV ((f a).getD K.zero):=by
  obtain ⟨D',_,_,_,_,h5⟩:=id h;cases hf:f a with
  | none=>exact K.gz
  | some u=>exact h5 a u hf
 obtain ⟨wp,hput,p1,p2⟩:=h.put hn ha hgd;have hv0:v0=K.encV ((f a).getD K.zero)∧Go.ChangeMaps.setBlock w b (.map es1 clock1)=wp:=by
  rcases L.find w hkey es.toList hF.keys with ⟨h1,h2⟩ | ⟨j,e0,h1,h2,h3⟩
  ·simp [Instr.mapEntry,run_underlying K.ht,MapKept.run_getObj_map hb,L.check w false hkey,h1,K.hz,MapKept.run_setObj_map _ hb,Result.andThen] at he;simp [Instr.lookup,run_underlying K.ht,MapKept.run_getObj_map hb,L.check w es.isEmpty hkey,h1,K.hz,Result.andThen] at hl;simp [Instr.mapUpdate,run_underlying K.ht,MapKept.run_getObj_map hb,L.check w false hkey,h1,MapKept.run_setObj_map _ hb,Result.andThen] at hput;rw [←hl] at hput;exact ⟨by rw [←he.1.1];exact hl,he.2.symm.trans hput⟩
  ·have hj:es[j]?=some e0:=by simpa using h2
   simp [Instr.mapEntry,run_underlying K.ht,MapKept.run_getObj_map hb,L.check w false hkey,h1,hj,Result.andThen] at he;rw [h3,L.stays w hkey] at he;simp [MapKept.run_setObj_map _ hb] at he;simp [Instr.lookup,run_underlying K.ht,MapKept.run_getObj_map hb,L.check w es.isEmpty hkey,h1,Result.andThen] at hl;simp [Instr.mapUpdate,run_underlying K.ht,MapKept.run_getObj_map hb,L.check w false hkey,h1,hj,Result.andThen] at hput;rw [h3,L.stays w hkey] at hput;simp [MapKept.run_setObj_map _ hb] at hput;have hmod:es.modify j (fun e=>{ key:=K.encK a,val:=e.val,born:=e.born })=es.modify j (fun e=>{ key:=K.encK a,val:=K.encV ((f a).getD K.zero),born:=e.born }):=by
    apply Array.ext_getElem?;intro i;rw [Array.getElem?_modify,Array.getElem?_modify];by_cases hi:j=i
    ·subst hi;rw [if_pos rfl,if_pos rfl,hj];simp [hl]
    ·rw [if_neg hi,if_neg hi]
   rw [←hmod] at hput;exact ⟨by rw [←he.1.1];exact hl,he.2.symm.trans hput⟩
 obtain ⟨rfl,hw1⟩:=hv0;refine ⟨st,_,he,⟨hw1 ▸ p1,hw1 ▸ p2⟩,fun v hv=>?_⟩;obtain ⟨w',hrun,r1,r2⟩:=h.put hn ha hv;obtain ⟨es',clock',hs1,hs2⟩:=hst (Go.ChangeMaps.setBlock w b (.map es1 clock1)) (K.encV v) (by unfold Go.ChangeMaps.setBlock;simp [hlt]);rw [hs2] at hrun;have e:Go.ChangeMaps.setBlock w b (.map es' clock')=w':=by cases hrun;rfl
 have e2:Go.ChangeMaps.setBlock (Go.ChangeMaps.setBlock w b (.map es1 clock1)) b (.map es' clock')=Go.ChangeMaps.setBlock w b (.map es' clock'):=by unfold Go.ChangeMaps.setBlock;simp
 rw [e2,e] at hs1;exact ⟨w',hs1,r1,r2⟩
noncomputable def mkR (goodV:β→Prop) (encV:β→Value) (dV:β→DataW Unit):Value→Option (DataW Unit × List MemPlace):=fun v=>
 open Classical in if h:∃b,goodV b∧v=encV b then some (dV h.choose,[]) else none
theorem mkR_val {goodV:β→Prop} {encV:β→Value} {dV:β→DataW Unit} (hi:∀a b,encV a=encV b→a=b) (b:β) (hb:goodV b):mkR goodV encV dV (encV b)=some (dV b,[]):=by
 unfold mkR;have h:∃c,goodV c∧encV b=encV c:=⟨b,hb,rfl⟩;rw [dif_pos h];have e:h.choose=b:=(hi b h.choose h.choose_spec.2).symm;rw [e]
theorem mkR_inv {goodV:β→Prop} {encV:β→Value} {dV:β→DataW Unit} (hi:∀a b,encV a=encV b→a=b) {v:Value} {y:DataW Unit × List MemPlace} (h:mkR goodV encV dV v=some y):∃b,goodV b∧v=encV b∧y=(dV b,[]):=by
 by_cases hex:∃b,goodV b∧v=encV b
 ·obtain ⟨b,hb,rfl⟩:=hex;rw [mkR_val hi b hb] at h;exact ⟨b,hb,rfl,(Option.some.inj h).symm⟩
 ·unfold mkR at h;rw [dif_neg hex] at h;cases h
end Go.Proofs.YtcikldoaidmnhaaGreatDoor
