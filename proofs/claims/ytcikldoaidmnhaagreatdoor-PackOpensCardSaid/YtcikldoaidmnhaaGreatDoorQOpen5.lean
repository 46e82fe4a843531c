/- Parts: Lists of triangles that differ by order and by which corner comes first: what is wrong with them, and their packets, are the same. No condition. Maps as functions: one element turned in place ('m[k]++'), and kits for whatever is laid by an injective code. No condition. Maps in the call's own memory as functions: looked up, stored into, ranged over, whatever the keys and the elements are. No condit -/
import Derived.Test.YtcikldoaidmnhaaGreatDoorQOpen1
import Derived.Test.YtcikldoaidmnhaaGreatDoorQOpen2
import Derived.Test.YtcikldoaidmnhaaGreatDoorQOpen4
import Derived.Maps.OwnOps
import Derived.Maps.OwnSet
import Derived.Maps.RangeWalk
import Derived.WideKeyEntry
import Derived.DeepKeys4
namespace Go.Proofs.YtcikldoaidmnhaaGreatDoor
open Go Go.RowKit
namespace Pk
def RotE (s t:Tri):Prop:=s=t∨s=(t.2.1,t.2.2,t.1)∨s=(t.2.2,t.1,t.2.1)
theorem RotE.refl (t:Tri):RotE t t:=.inl rfl
theorem RotE.symm {s t:Tri} (h:RotE s t):RotE t s:=by
 rcases h with rfl | rfl | rfl
 ·exact .inl rfl
 ·exact .inr (.inr rfl)
 ·exact .inr (.inl rfl)
theorem RotE.trans {r s t:Tri} (h:RotE r s) (k:RotE s t):RotE r t:=by
 rcases h with rfl | rfl | rfl
 ·exact k
 ·rcases k with rfl | rfl | rfl
  ·exact .inr (.inl rfl)
  ·exact .inr (.inr rfl)
  ·exact .inl rfl
 ·rcases k with rfl | rfl | rfl
  ·exact .inr (.inr rfl)
  ·exact .inl rfl
  ·exact .inr (.inl rfl)
theorem RotE.edges {s t:Tri} (h:RotE s t):(edgesT s).Perm (edgesT t):=by
 rcases h with rfl | rfl | rfl
 ·exact List.Perm.refl _
 ·show [(t.2.1,t.2.2),(t.2.2,t.1),(t.1,t.2.1)].Perm [(t.1,t.2.1),(t.2.1,t.2.2),(t.2.2,t.1)];exact (List.perm_append_comm (l₁:=[(t.2.1,t.2.2),(t.2.2,t.1)]) (l₂:=[(t.1,t.2.1)]))
 ·show [(t.2.2,t.1),(t.1,t.2.1),(t.2.1,t.2.2)].Perm [(t.1,t.2.1),(t.2.1,t.2.2),(t.2.2,t.1)];exact (List.perm_append_comm (l₁:=[(t.2.2,t.1)]) (l₂:=[(t.1,t.2.1),(t.2.1,t.2.2)]))
def cornT (t:Tri):List Pt:=[t.1,t.2.1,t.2.2]
theorem RotE.corners {s t:Tri} (h:RotE s t):(cornT s).Perm (cornT t):=by
 rcases h with rfl | rfl | rfl
 ·exact List.Perm.refl _
 ·exact (List.perm_append_comm (l₁:=[t.2.1,t.2.2]) (l₂:=[t.1]))
 ·exact (List.perm_append_comm (l₁:=[t.2.2]) (l₂:=[t.1,t.2.1]))
theorem RotE.flat {s t:Tri} (h:RotE s t):flatT s=flatT t:=by
 rcases h with rfl | rfl | rfl
 ·rfl
 ·unfold flatT;rw [decide_eq_decide];simp only;constructor<;>(rintro (h | h | h)<;>simp [h])
 ·unfold flatT;rw [decide_eq_decide];simp only;constructor<;>(rintro (h | h | h)<;>simp [h])
theorem RotE.coord {s t:Tri} (h:RotE s t):coordT s=coordT t:=by
 have e:∀u:Tri,coordT u=(cornT u).all (fun p=>decide (0≤p.1∧p.1≤2097151∧0≤p.2.1∧p.2.1≤2097151∧0≤p.2.2∧p.2.2≤2097151)):=fun _=>rfl;rw [e,e,Bool.eq_iff_iff,List.all_eq_true,List.all_eq_true];exact ⟨fun k x hx=>k x (h.corners.mem_iff.2 hx),fun k x hx=>k x (h.corners.mem_iff.1 hx)⟩
def nrm (t:Tri):Tri:=
 let m:=if triLt (t.2.1,t.2.2,t.1) t then (t.2.1,t.2.2,t.1) else t
 if triLt (t.2.2,t.1,t.2.1) m then (t.2.2,t.1,t.2.1) else m
theorem triLt_ftrans {a b c:Tri} (h1:triLt a b=false) (h2:triLt b c=false):triLt a c=false:=by
 have:=triLe_trans c b a (by unfold triLe;rw [h2];rfl) (by unfold triLe;rw [h1];rfl);unfold triLe at this;simpa using this
theorem nrm_rot (t:Tri):RotE (nrm t) t:=by
 have k:∀m:Tri,RotE m t→RotE (if triLt (t.2.2,t.1,t.2.1) m then (t.2.2,t.1,t.2.1) else m) t:=fun m hm=>by
  split
  ·exact .inr (.inr rfl)
  ·exact hm
 unfold nrm;refine k _ ?_;split
 ·exact .inr (.inl rfl)
 ·exact .inl rfl
theorem nrm_le {s t:Tri} (h:RotE s t):triLt s (nrm t)=false:=by
 have k1:triLt t (if triLt (t.2.1,t.2.2,t.1) t then (t.2.1,t.2.2,t.1) else t)=false:=by
  split
  ·rename_i h;exact triLt_asymm h
  ·exact triLt_irrefl t
 have k2:triLt (t.2.1,t.2.2,t.1) (if triLt (t.2.1,t.2.2,t.1) t then (t.2.1,t.2.2,t.1) else t)=false:=by
  split
  ·exact triLt_irrefl _
  ·rename_i h;simpa using h
 unfold nrm;simp only;generalize (if triLt (t.2.1,t.2.2,t.1) t then (t.2.1,t.2.2,t.1) else t)=m at *;split
 ·rename_i h3
  have h4:=triLt_asymm h3;rcases h with rfl | rfl | rfl
  ·exact triLt_ftrans k1 h4
  ·exact triLt_ftrans k2 h4
  ·exact triLt_irrefl _
 ·rename_i h3
  rcases h with rfl | rfl | rfl
  ·exact k1
  ·exact k2
  ·simpa using h3
theorem nrm_eq {s t:Tri} (h:RotE s t):nrm s=nrm t:=
 triLt_total (nrm_le ((nrm_rot s).trans h)) (nrm_le ((nrm_rot t).trans h.symm))
theorem rot_rot (t:Tri):RotE (rot t) t:=by
 unfold rot;split
 ·split
  ·exact .inr (.inr rfl)
  ·exact .inr (.inl rfl)
 ·split
  ·exact .inr (.inr rfl)
  ·exact .inl rfl
theorem rot_first (t:Tri):ptLt (rot t).2.1 (rot t).1=false∧ptLt (rot t).2.2 (rot t).1=false:=by
 unfold rot;cases h1:ptLt t.2.1 t.1 with
 | false=>
  rw [if_neg (by simp)];cases h2:ptLt t.2.2 t.1 with
  | false=>rw [if_neg (by simp)];exact ⟨h1,h2⟩
  | true=>
   rw [if_pos rfl];simp only;refine ⟨ptLt_asymm h2,?_⟩;cases h3:ptLt t.2.1 t.2.2 with
   | false=>rfl
   | true=>rw [ptLt_trans h3 h2] at h1;cases h1
 | true=>
  rw [if_pos rfl];cases h2:ptLt t.2.2 t.2.1 with
  | true=>rw [if_pos rfl];exact ⟨ptLt_asymm (ptLt_trans h2 h1),ptLt_asymm h2⟩
  | false=>rw [if_neg (by simp)];exact ⟨h2,ptLt_asymm h1⟩
theorem rot_fix {t:Tri} (h1:ptLt t.2.1 t.1=false) (h2:ptLt t.2.2 t.1=false):rot t=t:=by
 unfold rot;rw [h1,h2];rfl
theorem rot_idem (t:Tri):rot (rot t)=rot t:=rot_fix (rot_first t).1 (rot_first t).2
theorem rot_eq {s t:Tri} (h:RotE s t) (hf:flatT t=false):rot s=rot t:=by
 have key:∀{a b:Tri},RotE a b→flatT b=false→ptLt a.2.1 a.1=false→ptLt a.2.2 a.1=false→ptLt b.2.1 b.1=false→ptLt b.2.2 b.1=false→a=b:=by
  intro a b hab hb a1 a2 b1 b2;have hb':b.1≠b.2.1∧b.2.1≠b.2.2∧b.2.2≠b.1:=by
   unfold flatT at hb;simpa [not_or] using hb
  rcases hab with rfl | rfl | rfl
  ·rfl
  ·simp only at a1 a2;exact absurd (ptLt_total a2 b1) hb'.1
  ·simp only at a1 a2;exact absurd (ptLt_total b2 a1) hb'.2.2
 refine key ((rot_rot s).trans (h.trans (rot_rot t).symm)) ?_ (rot_first s).1 (rot_first s).2 (rot_first t).1 (rot_first t).2;rw [(rot_rot t).flat];exact hf
def Alike (l l':List Tri):Prop:=(l.map nrm).Perm (l'.map nrm)
theorem Alike.refl (l:List Tri):Alike l l:=List.Perm.refl _
theorem Alike.symm {l l':List Tri} (h:Alike l l'):Alike l' l:=List.Perm.symm h
theorem Alike.trans {a b c:List Tri} (h:Alike a b) (k:Alike b c):Alike a c:=List.Perm.trans h k
theorem Alike.of_perm {l l':List Tri} (h:l.Perm l'):Alike l l':=h.map nrm
theorem Alike.length {l l':List Tri} (h:Alike l l'):l.length=l'.length:=by have:=List.Perm.length_eq h;simpa using this
theorem Alike.of_rot {f:Tri→Tri} (hf:∀t,RotE (f t) t) (l:List Tri):Alike (l.map f) l:=by
 have e:(l.map f).map nrm=l.map nrm:=by rw [List.map_map];exact List.map_congr_left (fun t _=>nrm_eq (hf t))
 unfold Alike;rw [e]
theorem canon_alike (l:List Tri):Alike (canon l) l:=(Alike.of_perm (List.mergeSort_perm _ _)).trans (Alike.of_rot rot_rot l)
theorem Alike.mem {l l':List Tri} (h:Alike l l') {t:Tri} (ht:t∈l):∃t',t'∈l'∧RotE t t':=by
 have h1:nrm t∈l'.map nrm:=h.mem_iff.1 (List.mem_map_of_mem ht);obtain ⟨t',h2,h3⟩:=List.mem_map.1 h1;refine ⟨t',h2,(nrm_rot t).symm.trans ?_⟩;rw [←h3];exact nrm_rot t'
theorem flatMap_nrm {β:Type} (f:Tri→List β) (hf:∀t,(f (nrm t)).Perm (f t)):∀l:List Tri,((l.map nrm).flatMap f).Perm (l.flatMap f)
 | []=>List.Perm.refl _
 | t :: l=>by
  show (f (nrm t)++(l.map nrm).flatMap f).Perm (f t++l.flatMap f);exact (hf t).append (flatMap_nrm f hf l)
theorem perm_flatMap {α β:Type} (f:α→List β) {l l':List α} (h:l.Perm l'):(l.flatMap f).Perm (l'.flatMap f):=by
 induction h with
 | nil=>exact List.Perm.refl _
 | cons x _ ih=>rw [List.flatMap_cons,List.flatMap_cons];exact ih.append_left _
 | swap x y l=>
  simp only [List.flatMap_cons];rw [←List.append_assoc,←List.append_assoc];exact List.perm_append_comm.append_right _
 | trans _ _ h1 h2=>exact h1.trans h2
theorem Alike.flatMap {β:Type} (f:Tri→List β) (hf:∀{s t:Tri},RotE s t→(f s).Perm (f t)) {l l':List Tri} (h:Alike l l'):(l.flatMap f).Perm (l'.flatMap f):=
 ((flatMap_nrm f (fun t=>hf (nrm_rot t)) l).symm.trans (perm_flatMap f h)).trans (flatMap_nrm f (fun t=>hf (nrm_rot t)) l')
theorem Alike.edges {l l':List Tri} (h:Alike l l'):(edgesL l).Perm (edgesL l'):=h.flatMap edgesT (fun k=>k.edges)
theorem Alike.many {l l':List Tri} (h:Alike l l') (p:Pt):manyC l p=manyC l' p:=(h.flatMap cornT (fun k=>k.corners)).count_eq p
theorem Alike.anyB {f:Tri→Bool} (hf:∀{s t:Tri},RotE s t→f s=f t) {l l':List Tri} (h:Alike l l'):l.any f=l'.any f:=by
 rw [Bool.eq_iff_iff,List.any_eq_true,List.any_eq_true];constructor
 ·rintro ⟨t,h1,h2⟩;obtain ⟨t',k1,k2⟩:=h.mem h1;exact ⟨t',k1,by rw [←hf k2];exact h2⟩
 ·rintro ⟨t,h1,h2⟩;obtain ⟨t',k1,k2⟩:=h.symm.mem h1;exact ⟨t',k1,by rw [←hf k2];exact h2⟩
theorem Alike.allB {f:Tri→Bool} (hf:∀{s t:Tri},RotE s t→f s=f t) {l l':List Tri} (h:Alike l l'):l.all f=l'.all f:=by
 rw [List.all_eq_not_any_not,List.all_eq_not_any_not,h.anyB (f:=fun t=>!f t) (fun k=>by rw [hf k])]
theorem edgesL_cons (t:Tri) (l:List Tri):edgesL (t :: l)=edgesT t++edgesL l:=rfl
theorem mem_edgesL {l:List Tri} {e:Pt × Pt}:e∈edgesL l↔∃t,t∈l∧e∈edgesT t:=List.mem_flatMap
theorem edge_once:∀{l:List Tri},(edgesL l).Nodup→∀{s t:Tri},s∈l→t∈l→∀{e:Pt × Pt},e∈edgesT s→e∈edgesT t→s=t
 | [],_,_,_,h,_,_,_,_=>by cases h
 | a :: l,hn,s,t,hs,ht,e,h1,h2=>by
  rw [edgesL_cons,List.nodup_append] at hn;obtain ⟨_,n2,n3⟩:=hn;rcases List.mem_cons.1 hs with hs' | hs'
  ·rcases List.mem_cons.1 ht with ht' | ht'
   ·rw [hs',ht']
   ·subst hs';exact absurd rfl (n3 e h1 e (mem_edgesL.2 ⟨t,ht',h2⟩))
  ·rcases List.mem_cons.1 ht with ht' | ht'
   ·subst ht';exact absurd rfl (n3 e h2 e (mem_edgesL.2 ⟨s,hs',h1⟩))
   ·exact edge_once n2 hs' ht' h1 h2
theorem edgesT_nodup:∀{l:List Tri},(edgesL l).Nodup→∀{t:Tri},t∈l→(edgesT t).Nodup
 | [],_,_,h=>by cases h
 | a :: l,hn,t,ht=>by
  rw [edgesL_cons,List.nodup_append] at hn;rcases List.mem_cons.1 ht with rfl | ht
  ·exact hn.1
  ·exact edgesT_nodup hn.2.1 ht
theorem third_some:∀{l:List Tri} {p q r:Pt},third l p q=some r→∃t,t∈l∧RotE (p,q,r) t
 | [],_,_,_,h=>by cases h
 | t :: l,p,q,r,h=>by
  rw [third] at h;split at h
  ·rename_i h1;cases h;exact ⟨t,by simp,.inl (by rw [←h1.1,←h1.2])⟩
  ·split at h
   ·rename_i h1;cases h;exact ⟨t,by simp,.inr (.inl (by rw [←h1.1,←h1.2]))⟩
   ·split at h
    ·rename_i h1;cases h;exact ⟨t,by simp,.inr (.inr (by rw [←h1.1,←h1.2]))⟩
    ·obtain ⟨t',k1,k2⟩:=third_some h;exact ⟨t',by simp [k1],k2⟩
theorem rot_unique {t:Tri} (hn:(edgesT t).Nodup) {p q r r':Pt} (h:RotE (p,q,r) t) (k:RotE (p,q,r') t):r=r':=by
 obtain ⟨a,b,c⟩:=t;simp only [edgesT,List.nodup_cons,List.mem_cons,Prod.mk.injEq,List.not_mem_nil,or_false,not_or,List.nodup_nil,and_true,not_and] at hn;obtain ⟨⟨n1,n2⟩,n3,_⟩:=hn;simp only [RotE,Prod.mk.injEq] at h k;rcases h with ⟨rfl,rfl,rfl⟩ | ⟨rfl,rfl,rfl⟩ | ⟨rfl,rfl,rfl⟩
 ·rcases k with ⟨_,_,rfl⟩ | ⟨h1,h2,rfl⟩ | ⟨h1,h2,rfl⟩
  ·rfl
  ·exact absurd h2 (n1 h1)
  ·exact absurd h2 (n2 h1)
 ·rcases k with ⟨h1,h2,rfl⟩ | ⟨_,_,rfl⟩ | ⟨h1,h2,rfl⟩
  ·exact absurd h2.symm (n1 h1.symm)
  ·rfl
  ·exact absurd h2 (n3 h1)
 ·rcases k with ⟨h1,h2,rfl⟩ | ⟨h1,h2,rfl⟩ | ⟨_,_,rfl⟩
  ·exact absurd h2.symm (n2 h1.symm)
  ·exact absurd h2.symm (n3 h1.symm)
  ·rfl
theorem rot_edge {p q r:Pt} {t:Tri} (h:RotE (p,q,r) t):(p,q)∈edgesT t:=h.edges.mem_iff.1 (by simp [edgesT])
theorem third_eq {l:List Tri} (hn:(edgesL l).Nodup) {t:Tri} (ht:t∈l) {p q r:Pt} (h:RotE (p,q,r) t):third l p q=some r:=by
 have h1:(third l p q).isSome=true:=by rw [third_isSome,decide_eq_true_eq];exact mem_edgesL.2 ⟨t,ht,rot_edge h⟩
 obtain ⟨r',hr⟩:=Option.isSome_iff_exists.1 h1;obtain ⟨t',k1,k2⟩:=third_some hr;have:=edge_once hn k1 ht (rot_edge k2) (rot_edge h);subst this;rw [hr,rot_unique (edgesT_nodup hn k1) k2 h]
theorem Alike.third {l l':List Tri} (h:Alike l l') (hn:(edgesL l).Nodup) (p q:Pt):third l p q=third l' p q:=by
 have hn':(edgesL l').Nodup:=h.edges.nodup_iff.1 hn;cases h1:Pk.third l' p q with
 | some r=>
  obtain ⟨t,k1,k2⟩:=third_some h1;obtain ⟨t',k3,k4⟩:=h.symm.mem k1;exact third_eq hn k3 (k2.trans k4)
 | none=>
  cases h2:Pk.third l p q with
  | none=>rfl
  | some r=>
   obtain ⟨t,k1,k2⟩:=third_some h2;obtain ⟨t',k3,k4⟩:=h.mem k1;rw [third_eq hn' k3 (k2.trans k4)] at h1;cases h1
theorem ringN_congr {l l':List Tri} (h:∀p q,third l p q=third l' p q) (p:Pt):∀(n:Nat) (q:Pt),ringN l p n q=ringN l' p n q
 | 0,_=>rfl
 | n+1,q=>by
  rw [ringN,ringN,h p q];cases third l' p q with
  | none=>rfl
  | some r=>exact ringN_congr h p n r
theorem Alike.pinched {l l':List Tri} (h:Alike l l') (hn:(edgesL l).Nodup):pinched l=pinched l':=by
 have hr:=ringN_congr (h.third hn);have e:∀m:List Tri,Pk.pinched m=(edgesL m).any (fun e=>(List.range (manyC m e.1)).any (fun n=>decide (1≤n)&&(ringN m e.1 n e.2 == some e.2))):=fun _=>rfl;rw [e,e,Bool.eq_iff_iff,List.any_eq_true,List.any_eq_true];constructor
 ·rintro ⟨x,h1,h2⟩;refine ⟨x,h.edges.mem_iff.1 h1,?_⟩;rw [←h.many];simpa only [hr] using h2
 ·rintro ⟨x,h1,h2⟩;refine ⟨x,h.edges.mem_iff.2 h1,?_⟩;rw [h.many];simpa only [hr] using h2
theorem Alike.check {l l':List Tri} (h:Alike l l'):checkO l=checkO l':=by
 unfold checkO;rw [h.anyB (f:=flatT) (fun k=>k.flat)];by_cases h1:l'.any flatT=true
 ·rw [if_pos h1,if_pos h1]
 ·rw [if_neg h1,if_neg h1];by_cases h2:(edgesL l).Nodup
  ·rw [if_neg (not_not_intro h2),if_neg (not_not_intro (h.edges.nodup_iff.1 h2)),h.pinched h2]
  ·rw [if_pos h2,if_pos (fun k=>h2 (h.edges.nodup_iff.2 k))]
theorem Alike.packable {l l':List Tri} (h:Alike l l'):packable l=packable l':=by
 unfold Pk.packable;rw [h.allB (f:=coordT) (fun k=>k.coord),h.length,h.check]
theorem checkO_zero {l:List Tri}:checkO l=0↔(∀t,t∈l→flatT t=false)∧(edgesL l).Nodup∧pinched l=false:=by
 unfold checkO;by_cases h1:l.any flatT=true
 ·rw [if_pos h1];refine ⟨fun h=>by omega,fun h=>?_⟩;obtain ⟨t,k1,k2⟩:=List.any_eq_true.1 h1;rw [h.1 t k1] at k2;cases k2
 ·have h1':∀t,t∈l→flatT t=false:=fun t ht=>by
   cases hf:flatT t with
   | false=>rfl
   | true=>exact absurd (List.any_eq_true.2 ⟨t,ht,hf⟩) h1
  rw [if_neg h1];by_cases h2:(edgesL l).Nodup
  ·rw [if_neg (not_not_intro h2)];cases h3:pinched l with
   | true=>simp
   | false=>exact ⟨fun _=>⟨h1',h2,rfl⟩,fun _=>by simp⟩
  ·rw [if_pos h2];exact ⟨fun h=>by omega,fun h=>absurd h.2.1 h2⟩
theorem Alike.canon {l l':List Tri} (h:Alike l l') (hf:∀t,t∈l→flatT t=false):canon l=canon l':=by
 have hf':∀t,t∈l'→flatT t=false:=fun t ht=>by
  obtain ⟨t',k1,k2⟩:=h.symm.mem ht;rw [k2.flat];exact hf t' k1
 have e:∀m:List Tri,(∀t,t∈m→flatT t=false)→m.map rot=(m.map nrm).map rot:=fun m hm=>by
  rw [List.map_map];refine List.map_congr_left (fun t ht=>?_);exact rot_eq (nrm_rot t).symm (by rw [(nrm_rot t).flat];exact hm t ht)
 unfold Pk.canon;refine sorted_unique ?_ (List.pairwise_mergeSort triLe_trans triLe_total _) (List.pairwise_mergeSort triLe_trans triLe_total _);refine (List.mergeSort_perm _ _).trans (List.Perm.trans ?_ (List.mergeSort_perm _ _).symm);rw [e l hf,e l' hf'];exact List.Perm.map _ h
theorem Alike.cluster {l l':List Tri} (h:Alike l l'):clusterN l=clusterN l':=by
 unfold clusterN;rw [h.packable];by_cases hp:Pk.packable l'=true
 ·rw [if_pos hp,if_pos hp];have hp2:Pk.packable l=true:=by rw [h.packable];exact hp
  unfold Pk.packable at hp2;simp only [Bool.and_eq_true,decide_eq_true_eq] at hp2;rw [h.canon (checkO_zero.1 hp2.2).1]
 ·rw [if_neg hp,if_neg hp]
theorem canon_idem (l:List Tri):canon (canon l)=canon l:=by
 have e:(canon l).map rot=canon l:=by
  have h1:∀t,t∈canon l→rot t=t:=fun t ht=>by
   have h2:t∈l.map rot:=(List.mergeSort_perm _ _).mem_iff.1 ht;obtain ⟨s,_,rfl⟩:=List.mem_map.1 h2;exact rot_idem s
  calc (canon l).map rot=(canon l).map id:=List.map_congr_left h1
   _=canon l:=List.map_id _
 show ((canon l).map rot).mergeSort triLe=canon l;rw [e];refine sorted_unique (List.mergeSort_perm _ _) (List.pairwise_mergeSort triLe_trans triLe_total _) ?_;exact List.pairwise_mergeSort triLe_trans triLe_total _
end Pk
end Go.Proofs.YtcikldoaidmnhaaGreatDoor
namespace Go.Proofs.YtcikldoaidmnhaaGreatDoor
open Go Go.RowKit
structure MapKit (P:Program) (α β:Type) where
 t:TypeId
 k:TypeId
 e:TypeId
 encK:α→Value
 klK:α→Lit
 goodK:α→Prop
 encV:β→Value
 dV:β→DataW Unit
 goodV:β→Prop
 zero:β
 R:Value→Option (DataW Unit × List MemPlace)
 keyed:Maps.Keyed P k
 ht:P.underlying t=some (.map k e)
 hkey:∀a,goodK a→keyOf P k (encK a)=some (klK a)
 inj:∀a b,goodK a→goodK b→klK a=klK b→a=b
 hval:∀b,goodV b→R (encV b)=some (dV b,[])
 hinv:∀v y,R v=some y→∃b,goodV b∧v=encV b∧y=(dV b,[])
 dinj:∀b b',goodV b→goodV b'→dV b=dV b'→b=b'
 hz:∀w,(zeroValue e).run P w=.ok (encV zero) w
 gz:goodV zero
variable {P:Program} {α β:Type}
def MapKit.At (K:MapKit P α β) (w:World) (b n:Nat) (f:α→Option β):Prop:=
 ∃D:DataW Unit,w.ownsMap P K.k K.R b n D∧(∀a,K.goodK a→D.atKey (K.klK a) (K.dV K.zero)=K.dV ((f a).getD K.zero))∧(∀a,K.goodK a→Maps.has D (K.klK a)=(f a).isSome)∧(∀kl,Maps.has D kl=true→∃a,K.goodK a∧kl=K.klK a)∧(∀a v,f a=some v→K.goodV v)
theorem MapKit.At.made (K:MapKit P α β) (w:World):K.At (w.alloc (.map #[] 0)) w.heap.size 0 (fun _=>none):=⟨_,World.ownsMap_made _ _ _ _,fun _ _=>rfl,fun _ _=>rfl,(fun _ h=>by cases h),(fun _ _ h=>by cases h)⟩
theorem MapKit.At.blk {K:MapKit P α β} {w:World} {b n:Nat} {f:α→Option β} (h:K.At w b n f):∃es clock,w.heap[b]?=some (.map es clock):=by
 obtain ⟨D,⟨es,clock,h1,_⟩,_⟩:=h;exact ⟨es,clock,h1⟩
theorem MapKit.At.heap {K:MapKit P α β} {w w':World} {b n:Nat} {f:α→Option β} (h:K.At w b n f) (hb:∀o,w.heap[b]?=some o→w'.heap[b]?=some o):K.At w' b n f:=by
 obtain ⟨D,⟨es,clock,h1,h2,h3,h4⟩,h5⟩:=h;exact ⟨D,⟨es,clock,hb _ h1,h2,h3,h4⟩,h5⟩
theorem MapKit.At.keep {K:MapKit P α β} {w w':World} {b n:Nat} {f:α→Option β} (h:K.At w b n f) (hu:Upd noBlk w w'):K.At w' b n f:=h.heap (fun _ ho=>hu.heap ho id)
theorem MapKit.At.other {K:MapKit P α β} {F:Nat→Prop} {w w':World} {b n:Nat} {f:α→Option β} (h:K.At w b n f) (hu:Upd F w w') (hF:¬F b):K.At w' b n f:=h.heap (fun _ ho=>hu.heap ho hF)
theorem MapKit.At.mono {K:MapKit P α β} {w:World} {b n m:Nat} {f:α→Option β} (h:K.At w b n f) (hm:n≤m):K.At w b m f:=by
 obtain ⟨D,h1,h2⟩:=h;exact ⟨D,h1.mono hm,h2⟩
theorem MapKit.At.look {K:MapKit P α β} {w:World} {ops:Array Oper} {rest:List Oper} {o:Oper} {ac:Act} {Q:Exit→Act→World→Prop} {b n:Nat} {f:α→Option β} (h:K.At w b n f) (hg:o.guard=none) (m x:Operand) (hop:o.op=Op.lookup K.t m x false) (hm:ac.eval m=.map (some b)) {a:α} (hx:ac.eval x=K.encK a) (ha:K.goodK a)
  (hK:wpList P ops Q rest (ac.put o.dst (K.encV ((f a).getD K.zero))) w):wpList P ops Q (o :: rest) ac w:=by
 obtain ⟨D,h1,h2,h3,h4,h5⟩:=h;obtain ⟨v,ps,hrun,hv⟩:=h1.lookup K.keyed K.ht (K.hz w) (K.hval _ K.gz) (K.hkey a ha);obtain ⟨c,gc,rfl,hc⟩:=K.hinv v _ hv;rw [h2 a ha] at hc;have hgd:K.goodV ((f a).getD K.zero):=by
  cases hf:f a with
  | none=>exact K.gz
  | some u=>exact h5 a u hf
 have:=K.dinj _ _ hgd gc (by simpa using (Prod.mk.inj hc).1);subst this;refine wpList_plain hg fun K' hK'=>?_;unfold Oper.wp;simp [execOp,hop,hm,hx,hrun,Result.andThen];exact hK' _ _ hK
theorem MapKit.At.putD [DecidableEq α] {K:MapKit P α β} {w w':World} {b n:Nat} {f:α→Option β} {D:DataW Unit} (h1:w.ownsMap P K.k K.R b n D) (h2:∀a,K.goodK a→D.atKey (K.klK a) (K.dV K.zero)=K.dV ((f a).getD K.zero)) (h3:∀a,K.goodK a→Maps.has D (K.klK a)=(f a).isSome) (h4:∀kl,Maps.has D kl=true→∃a,K.goodK a∧kl=K.klK a) (h5:∀a v,f a=some v→K.goodV v)
  {a:α} (ha:K.goodK a) {v:β} (hv:K.goodV v) (k1:w'.ownsMap P K.k K.R b (n+1) (D.put (K.klK a) (K.dV v))):K.At w' b (n+1) (fun c=>if c=a then some v else f c):=by
 have ht:=h1.tidy K.keyed;have hkl:WideAt.IsKeyLit (K.klK a):=K.keyed.key (K.hkey a ha);refine ⟨_,k1,fun c hc=>?_,fun c hc=>?_,fun kl hk=>?_,fun c u hu=>?_⟩
 ·by_cases e:c=a
  ·subst e;rw [Maps.atKey_put_same ht.isMap hkl];simp only [if_pos,Option.getD_some]
  ·rw [Maps.atKey_put_other (fun h=>e (K.inj c a hc ha h)),h2 c hc];simp only [if_neg e]
 ·by_cases e:c=a
  ·subst e;rw [Maps.has_put_same ht.isMap hkl];simp only [if_pos,Option.isSome_some]
  ·rw [Maps.has_put_other (fun h=>e (K.inj c a hc ha h)),h3 c hc];simp only [if_neg e]
 ·by_cases e:kl=K.klK a
  ·exact ⟨a,ha,e⟩
  ·rw [Maps.has_put_other e] at hk;exact h4 kl hk
 ·by_cases e:c=a
  ·simp only [if_pos e] at hu;cases hu;exact hv
  ·simp only [if_neg e] at hu;exact h5 c u hu
theorem MapKit.At.put [DecidableEq α] {K:MapKit P α β} {w:World} {b n:Nat} {f:α→Option β} (h:K.At w b n f) (hn:n<maxLen) {a:α} (ha:K.goodK a) {v:β} (hv:K.goodV v) :
  ∃w',(Instr.mapUpdate K.t (.map (some b)) (K.encK a) (K.encV v)).run P w=.ok () w'∧K.At w' b (n+1) (fun c=>if c=a then some v else f c)∧Upd (fun j=>j=b) w w':=by
 obtain ⟨D,h1,h2,h3,h4,h5⟩:=h;obtain ⟨w',hrun,k1,k2⟩:=h1.update K.keyed K.ht hn (K.hkey a ha) (K.hval v hv);exact ⟨w',hrun,MapKit.At.putD h1 h2 h3 h4 h5 ha hv k1,upd_of_grown k2 (fun j hj _=>(Option.some.inj hj).symm)⟩
theorem MapKit.At.store [DecidableEq α] {K:MapKit P α β} {w:World} {ops:Array Oper} {rest:List Oper} {o:Oper} {ac:Act} {Q:Exit→Act→World→Prop} {b n:Nat} {f:α→Option β} (h:K.At w b n f) (hn:n<maxLen) (hg:o.guard=none) (m x y:Operand) (hop:o.op=Op.mapUpdate K.t m x y) (hm:ac.eval m=.map (some b)) {a:α} (hx:ac.eval x=K.encK a) (ha:K.goodK a) {v:β} (hy:ac.eval y=K.encV v) (hv:K.goodV v)
  (hK:∀w',K.At w' b (n+1) (fun c=>if c=a then some v else f c)→Upd (fun j=>j=b) w w'→wpList P ops Q rest (ac.put o.dst undef) w'):wpList P ops Q (o :: rest) ac w:=by
 obtain ⟨w',hrun,r1,r2⟩:=h.put hn ha hv;refine wpList_plain hg fun K' hK'=>?_;unfold Oper.wp;simp [execOp,hop,hm,hx,hy,hrun,Result.andThen];exact hK' _ _ (hK w' r1 r2)
def MapKit.Rng (K:MapKit P α β) (w:World) (b r n:Nat) (f:α→Option β) (left:α→Bool) (cnt:Nat):Prop:=
 ∃(D:DataW Unit) (ll:Lit→Bool),w.ranges P K.k K.R b r n D ll cnt∧(∀a,K.goodK a→D.atKey (K.klK a) (K.dV K.zero)=K.dV ((f a).getD K.zero))∧(∀a,K.goodK a→Maps.has D (K.klK a)=(f a).isSome)∧(∀kl,Maps.has D kl=true→∃a,K.goodK a∧kl=K.klK a)∧(∀a v,f a=some v→K.goodV v)∧(∀a,K.goodK a→ll (K.klK a)=left a)∧(∀kl,ll kl=true→Maps.has D kl=true)
theorem MapKit.Rng.at {K:MapKit P α β} {w:World} {b r n:Nat} {f:α→Option β} {left:α→Bool} {cnt:Nat} (h:K.Rng w b r n f left cnt):K.At w b n f:=by
 obtain ⟨D,ll,h1,h2,h3,h4,h5,_⟩:=h;exact ⟨D,h1.owns,h2,h3,h4,h5⟩
theorem MapKit.Rng.left_eq {K:MapKit P α β} {w:World} {b r n:Nat} {f:α→Option β} {left:α→Bool} {cnt:Nat} (h:K.Rng w b r n f left cnt):w.rangeLeft b r=cnt:=by
 obtain ⟨D,ll,h1,_⟩:=h;exact h1.left_eq
theorem MapKit.Rng.kept {K:MapKit P α β} {w w':World} {b r n:Nat} {f:α→Option β} {left:α→Bool} {cnt:Nat} {row:Option Nat} (h:K.Rng w b r n f left cnt) (hg:w.grownBy w' row) (hb:some b≠row) (hr:some r≠row):K.Rng w' b r n f left cnt:=by
 obtain ⟨D,ll,h1,h2⟩:=h;exact ⟨D,ll,h1.kept hg hb hr,h2⟩
theorem MapKit.At.range {K:MapKit P α β} {w:World} {ops:Array Oper} {rest:List Oper} {o:Oper} {ac:Act} {Q:Exit→Act→World→Prop} {b n:Nat} {f:α→Option β} (h:K.At w b n f) (hg:o.guard=none) (m:Operand) (hop:o.op=Op.range K.t m) (hm:ac.eval m=.map (some b))
  (hK:∀w' cnt,K.Rng w' b w.heap.size n f (fun a=>(f a).isSome) cnt→w.grownBy w' none→w'.heap.size=w.heap.size+1→wpList P ops Q rest (ac.put o.dst (.pointer (some ⟨w.heap.size,0,none⟩))) w'):wpList P ops Q (o :: rest) ac w:=by
 obtain ⟨D,h1,h2,h3,h4,h5⟩:=h;exact wpList_range_own w hg m K.t hop K.k K.e K.keyed K.ht K.R b n D hm h1 (fun w' k1 k2 k3=>hK w' _ ⟨D,_,k1,h2,h3,h4,h5,fun a ha=>h3 a ha,fun _ h=>h⟩ k2 k3)
theorem MapKit.Rng.next [DecidableEq α] {K:MapKit P α β} {w:World} {ops:Array Oper} {rest:List Oper} {o:Oper} {ac:Act} {Q:Exit→Act→World→Prop} {b r n:Nat} {f:α→Option β} {left:α→Bool} {cnt:Nat} (h:K.Rng w b r n f left cnt) (hg:o.guard=none) (it:Operand) (hop:o.op=Op.next it false) (hit:ac.eval it=.pointer (some ⟨r,0,none⟩))
  (hDone:cnt=0→(∀a,K.goodK a→left a=false)→wpList P ops Q rest (ac.put o.dst (.tuple #[.bool false])) w)
  (hMore:∀(a:α) (v:β) (w':World) (cnt':Nat),K.goodK a→left a=true→f a=some v→K.Rng w' b r n f (fun c=>left c&&!decide (c=a)) cnt'→cnt'<cnt→w.grownBy w' (some r)→w'.heap.size=w.heap.size →
   (Instr.entry (.pointer (some ⟨r,0,none⟩))).run P w'=.ok (.tuple #[K.encK a,K.encV v]) w'→wpList P ops Q rest (ac.put o.dst (.tuple #[.bool true,K.encK a,K.encV v])) w') :
  wpList P ops Q (o :: rest) ac w:=by
 obtain ⟨D,ll,h1,h2,h3,h4,h5,h6,h7⟩:=h;refine wpList_next_ranges (α:=Value) (β:=Value) w hg it hop K.k K.keyed K.R id id (fun key _ _=>⟨key,rfl⟩) (fun v _ _=>⟨v,rfl⟩) b r n D ll cnt hit h1 (fun c0 hl=>hDone c0 (fun a ha=>by rw [←h6 a ha];exact hl _)) ?_;intro x c kl y w' cnt' hkey hll hR hat hrg hlt hgr hsz hen;simp only [id] at hkey hR hen ⊢;obtain ⟨a,ha,rfl⟩:=h4 kl (h7 kl hll);have hxa:x=K.encK a:=K.keyed.inj hkey (K.hkey a ha);subst hxa;have hsome:=h3 a ha;rw [h7 _ hll] at hsome;obtain ⟨v,hv⟩:=Option.isSome_iff_exists.1 hsome.symm;obtain ⟨v',gv',rfl,hy⟩:=K.hinv c y hR;have h8:=h2 a ha;rw [hat,hv,hy] at h8;have:=K.dinj _ _ gv' (h5 a v hv) (by simpa using h8);subst this;refine hMore a v' w' cnt' ha (by rw [←h6 a ha];exact hll) hv ⟨D,_,hrg,h2,h3,h4,h5,fun d hd=>?_,fun kl hk=>?_⟩ hlt hgr hsz hen
 ·show (ll (K.klK d)&&!(K.klK d).sameKey (K.klK a))=_;rw [h6 d hd];congr 1
  by_cases e:d=a
  ·subst e;rw [WideAt.sameKey_self (K.keyed.key (K.hkey d hd))];simp
  ·have:(K.klK d).sameKey (K.klK a)=false:=Maps.sameKey_ne (fun h=>e (K.inj d a hd ha h));rw [this];simp [e]
 ·simp only [Bool.and_eq_true] at hk;exact h7 kl hk.1
theorem MapKit.Rng.nextH [DecidableEq α] {K:MapKit P α β} {w:World} {ops:Array Oper} {rest:List Oper} {o:Oper} {ac:Act} {Q:Exit→Act→World→Prop} {b r n:Nat} {f:α→Option β} {left:α→Bool} {cnt:Nat} (h:K.Rng w b r n f left cnt) (hg:o.guard=none) (it:Operand) (hop:o.op=Op.next it false) (hit:ac.eval it=.pointer (some ⟨r,0,none⟩))
  (hDone:Hid (cnt=0→(∀a,K.goodK a→left a=false)→wpList P ops Q rest (ac.put o.dst (.tuple #[.bool false])) w))
  (hMore:Hid (∀(a:α) (v:β) (w':World) (cnt':Nat),K.goodK a→left a=true→f a=some v→K.Rng w' b r n f (fun c=>left c&&!decide (c=a)) cnt'→cnt'<cnt→w.grownBy w' (some r)→w'.heap.size=w.heap.size →
   (Instr.entry (.pointer (some ⟨r,0,none⟩))).run P w'=.ok (.tuple #[K.encK a,K.encV v]) w'→wpList P ops Q rest (ac.put o.dst (.tuple #[.bool true,K.encK a,K.encV v])) w')) :
  wpList P ops Q (o :: rest) ac w:=h.next hg it hop hit hDone hMore
end Go.Proofs.YtcikldoaidmnhaaGreatDoor
namespace Go.Proofs.YtcikldoaidmnhaaGreatDoor
open Go Go.RowKit
variable {P:Program} {α β:Type}
theorem MapKit.At.entry [DecidableEq α] {K:MapKit P α β} (L:Go.WideMaps.KeyLaw P K.k) {w:World} {b n:Nat} {f:α→Option β} (h:K.At w b n f) (hn:n<maxLen) {a:α} (ha:K.goodK a) {v:β} (hv:K.goodV v) :
  ∃(v0:Value) (st:Nat) (w1 w2:World),(Instr.mapEntry K.t (.map (some b)) (K.encK a)).run P w=.ok (.tuple #[v0,goInt st]) w1∧(Instr.entryStore K.t (.map (some b)) (goInt st) (K.encV v)).run P w1=.ok () w2 ∧
   K.At w2 b (n+1) (fun c=>if c=a then some v else f c)∧Upd (fun j=>j=b) w w2:=by
 obtain ⟨w',hrun,r1,r2⟩:=h.put hn ha hv;obtain ⟨D,⟨es,clock,hb,hF,hs,hD⟩,_⟩:=h;obtain ⟨v0,st,es1,clock1,he,_,hst⟩:=Go.WideElems.entry_then_store L K.ht K.hz hb hF (K.hkey a ha);have hlt:=lt_of_heap hb;obtain ⟨es',clock',hs1,hs2⟩:=hst (Go.ChangeMaps.setBlock w b (.map es1 clock1)) (K.encV v) (by unfold Go.ChangeMaps.setBlock;simp [hlt]);refine ⟨v0,st,_,_,he,hs1,?_⟩;rw [hs2] at hrun;have e:Go.ChangeMaps.setBlock w b (.map es' clock')=w':=by cases hrun;rfl
 have e2:Go.ChangeMaps.setBlock (Go.ChangeMaps.setBlock w b (.map es1 clock1)) b (.map es' clock')=Go.ChangeMaps.setBlock w b (.map es' clock'):=by unfold Go.ChangeMaps.setBlock;simp
 rw [e2,e];exact ⟨r1,r2⟩
theorem MapKit.At.lookR {K:MapKit P α β} {w:World} {b n:Nat} {f:α→Option β} (h:K.At w b n f) {a:α} (ha:K.goodK a):(Instr.lookup K.t (.map (some b)) (K.encK a) false).run P w=.ok (K.encV ((f a).getD K.zero)) w:=by
 obtain ⟨D,h1,h2,h3,h4,h5⟩:=h;obtain ⟨v,ps,hrun,hv⟩:=h1.lookup K.keyed K.ht (K.hz w) (K.hval _ K.gz) (K.hkey a ha);obtain ⟨c,gc,rfl,hc⟩:=K.hinv v _ hv;rw [h2 a ha] at hc;have hgd:K.goodV ((f a).getD K.zero):=by
  cases hf:f a with
  | none=>exact K.gz
  | some u=>exact h5 a u hf
 have:=K.dinj _ _ hgd gc (by simpa using (Prod.mk.inj hc).1);subst this;exact hrun
theorem MapKit.At.lookOkR {K:MapKit P α β} {w:World} {b n:Nat} {f:α→Option β} (h:K.At w b n f) {a:α} (ha:K.goodK a):(Instr.lookup K.t (.map (some b)) (K.encK a) true).run P w=.ok (.tuple #[K.encV ((f a).getD K.zero),.bool (f a).isSome]) w:=by
 obtain ⟨D,h1,h2,h3,h4,h5⟩:=h;obtain ⟨v,ps,hrun,hv⟩:=h1.look_ok K.keyed K.ht (K.hz w) (K.hval _ K.gz) (K.hkey a ha);obtain ⟨c,gc,rfl,hc⟩:=K.hinv v _ hv;rw [h2 a ha] at hc;rw [h3 a ha] at hrun;have hgd:K.goodV ((f a).getD K.zero):=by
  cases hf:f a with
  | none=>exact K.gz
  | some u=>exact h5 a u hf
 have:=K.dinj _ _ hgd gc (by simpa using (Prod.mk.inj hc).1);subst this;exact hrun
theorem grown_of_upd {w w':World} (h:Upd noBlk w w'):w.grownBy w' none:=⟨h.os,h.tape,h.output,h.size,fun k hk _=>h.block k hk id⟩
theorem grown_of_upd1 {w w':World} {c:Nat} (h:Upd (fun j=>j=c) w w'):w.grownBy w' (some c):=⟨h.os,h.tape,h.output,h.size,fun k hk hc=>h.block k hk (fun e=>hc (by rw [e]))⟩
theorem MapKit.Rng.keep {K:MapKit P α β} {w w':World} {b r n:Nat} {f:α→Option β} {left:α→Bool} {cnt:Nat} (h:K.Rng w b r n f left cnt) (hu:Upd noBlk w w'):K.Rng w' b r n f left cnt:=h.kept (grown_of_upd hu) (by simp) (by simp)
theorem MapKit.Rng.other {K:MapKit P α β} {w w':World} {b r n c:Nat} {f:α→Option β} {left:α→Bool} {cnt:Nat} (h:K.Rng w b r n f left cnt) (hu:Upd (fun j=>j=c) w w') (hb:b≠c) (hr:r≠c):K.Rng w' b r n f left cnt:=h.kept (grown_of_upd1 hu) (by simpa using hb) (by simpa using hr)
theorem MapKit.At.entry2 [DecidableEq α] {K:MapKit P α β} (L:Go.WideMaps.KeyLaw P K.k) {w:World} {b n:Nat} {f:α→Option β} (h:K.At w b n f) (hn:n<maxLen) {a:α} (ha:K.goodK a) :
  ∃(st:Nat) (w1:World),(Instr.mapEntry K.t (.map (some b)) (K.encK a)).run P w=.ok (.tuple #[K.encV ((f a).getD K.zero),goInt st]) w1 ∧
   (K.At w1 b (n+1) (fun c=>if c=a then some ((f a).getD K.zero) else f c)∧Upd (fun j=>j=b) w w1) ∧
   ∀v,K.goodV v→∃w2,(Instr.entryStore K.t (.map (some b)) (goInt st) (K.encV v)).run P w1=.ok () w2∧K.At w2 b (n+1) (fun c=>if c=a then some v else f c)∧Upd (fun j=>j=b) w w2:=by
 have hl:=h.lookR ha;have hkey:=K.hkey a ha;obtain ⟨D,⟨es,clock,hb,hF,hs,hD⟩,_⟩:=id h;obtain ⟨v0,st,es1,clock1,he,_,hst⟩:=Go.WideElems.entry_then_store L K.ht K.hz hb hF hkey;have hlt:=lt_of_heap hb;have hgd:K.goodV ((f a).getD K.zero):=by
  obtain ⟨D',_,_,_,_,h5⟩:=id h;cases hf:f a with
  | none=>exact K.gz
  | some u=>exact h5 a u hf
 obtain ⟨wp,hput,p1,p2⟩:=h.put hn ha hgd;have hv0:v0=K.encV ((f a).getD K.zero)∧Go.ChangeMaps.setBlock w b (.map es1 clock1)=wp:=by
  rcases L.find w hkey es.toList hF.keys with ⟨h1,h2⟩ | ⟨j,e0,h1,h2,h3⟩
  ·simp [Instr.mapEntry,run_underlying K.ht,MapKept.run_getObj_map hb,L.check w false hkey,h1,K.hz,MapKept.run_setObj_map _ hb,Result.andThen] at he;simp [Instr.lookup,run_underlying K.ht,MapKept.run_getObj_map hb,L.check w es.isEmpty hkey,h1,K.hz,Result.andThen] at hl;simp [Instr.mapUpdate,run_underlying K.ht,MapKept.run_getObj_map hb,L.check w false hkey,h1,MapKept.run_setObj_map _ hb,Result.andThen] at hput;rw [←hl] at hput;exact ⟨by rw [←he.1.1];exact hl,he.2.symm.trans hput⟩
  ·have hj:es[j]?=some e0:=by simpa using h2
   simp [Instr.mapEntry,run_underlying K.ht,MapKept.run_getObj_map hb,L.check w false hkey,h1,hj,Result.andThen] at he;rw [h3,L.stays w hkey] at he;simp [MapKept.run_setObj_map _ hb] at he;simp [Instr.lookup,run_underlying K.ht,MapKept.run_getObj_map hb,L.check w es.isEmpty hkey,h1,Result.andThen] at hl;simp [Instr.mapUpdate,run_underlying K.ht,MapKept.run_getObj_map hb,L.check w false hkey,h1,hj,Result.andThen] at hput;rw [h3,L.stays w hkey] at hput;simp [MapKept.run_setObj_map _ hb] at hput;have hmod:es.modify j (fun e=>{ key:=K.encK a,val:=e.val,born:=e.born })=es.modify j (fun e=>{ key:=K.encK a,val:=K.encV ((f a).getD K.zero),born:=e.born }):=by
    apply Array.ext_getElem?;intro i;rw [Array.getElem?_modify,Array.getElem?_modify];by_cases hi:j=i
    ·subst hi;rw [if_pos rfl,if_pos rfl,hj];simp [hl]
    ·rw [if_neg hi,if_neg hi]
   rw [←hmod] at hput;exact ⟨by rw [←he.1.1];exact hl,he.2.symm.trans hput⟩
 obtain ⟨rfl,hw1⟩:=hv0;refine ⟨st,_,he,⟨hw1 ▸ p1,hw1 ▸ p2⟩,fun v hv=>?_⟩;obtain ⟨w',hrun,r1,r2⟩:=h.put hn ha hv;obtain ⟨es',clock',hs1,hs2⟩:=hst (Go.ChangeMaps.setBlock w b (.map es1 clock1)) (K.encV v) (by unfold Go.ChangeMaps.setBlock;simp [hlt]);rw [hs2] at hrun;have e:Go.ChangeMaps.setBlock w b (.map es' clock')=w':=by cases hrun;rfl
 have e2:Go.ChangeMaps.setBlock (Go.ChangeMaps.setBlock w b (.map es1 clock1)) b (.map es' clock')=Go.ChangeMaps.setBlock w b (.map es' clock'):=by unfold Go.ChangeMaps.setBlock;simp
 rw [e2,e] at hs1;exact ⟨w',hs1,r1,r2⟩
noncomputable def mkR (goodV:β→Prop) (encV:β→Value) (dV:β→DataW Unit):Value→Option (DataW Unit × List MemPlace):=fun v=>
 open Classical in if h:∃b,goodV b∧v=encV b then some (dV h.choose,[]) else none
theorem mkR_val {goodV:β→Prop} {encV:β→Value} {dV:β→DataW Unit} (hi:∀a b,encV a=encV b→a=b) (b:β) (hb:goodV b):mkR goodV encV dV (encV b)=some (dV b,[]):=by
 unfold mkR;have h:∃c,goodV c∧encV b=encV c:=⟨b,hb,rfl⟩;rw [dif_pos h];have e:h.choose=b:=(hi b h.choose h.choose_spec.2).symm;rw [e]
theorem mkR_inv {goodV:β→Prop} {encV:β→Value} {dV:β→DataW Unit} (hi:∀a b,encV a=encV b→a=b) {v:Value} {y:DataW Unit × List MemPlace} (h:mkR goodV encV dV v=some y):∃b,goodV b∧v=encV b∧y=(dV b,[]):=by
 by_cases hex:∃b,goodV b∧v=encV b
 ·obtain ⟨b,hb,rfl⟩:=hex;rw [mkR_val hi b hb] at h;exact ⟨b,hb,rfl,(Option.some.inj h).symm⟩
 ·unfold mkR at h;rw [dif_neg hex] at h;cases h
end Go.Proofs.YtcikldoaidmnhaaGreatDoor
namespace Go.Proofs.YtcikldoaidmnhaaGreatDoor
open Go Go.RowKit Pk
set_option maxRecDepth 100000
theorem laidOutM:laidOutB Tryz.prog=true:=by kernel_rfl
theorem lawPt:Go.WideMaps.KeyLaw Tryz.prog 43:=deep_law_laid laidOutM (m:=10) (by decide) (of_decide_eq_true (by kernel_rfl)) (by kernel_rfl) (by kernel_rfl)
theorem keyedPt:Maps.Keyed Tryz.prog 43:=Maps.Keyed.of_law lawPt
theorem keyedE:Maps.Keyed Tryz.prog 89:=Maps.Keyed.of_law (deep_law_laid laidOutM (m:=10) (by decide) (of_decide_eq_true (by kernel_rfl)) (by kernel_rfl) (by kernel_rfl))
theorem keyedM:Maps.Keyed Tryz.prog 258:=Maps.Keyed.of_law (deep_law_laid laidOutM (m:=10) (by decide) (of_decide_eq_true (by kernel_rfl)) (by kernel_rfl) (by kernel_rfl))
def ok64 (n:Int):Prop:=-9223372036854775808≤n∧n≤9223372036854775807
theorem wf64 {n:Int} (h:ok64 n):(Lit.int .i64 n).wf=true:=by
 obtain ⟨h1,h2⟩:=h;simp [Lit.wf,IntKind.min,IntKind.max,IntKind.signed,IntKind.bits];omega
def okP (p:Pt):Prop:=ok64 p.1∧ok64 p.2.1∧ok64 p.2.2
def okT (t:Tri):Prop:=okP t.1∧okP t.2.1∧okP t.2.2
def klPt (p:Pt):Lit:=.string (keyBytes [.int .i64 p.1,.int .i64 p.2.1,.int .i64 p.2.2])
theorem keyPt {p:Pt} (h:okP p):keyOf Tryz.prog 43 (ptV p)=some (klPt p):=by
 obtain ⟨x,y,z⟩:=p;obtain ⟨h1,h2,h3⟩:=h;have wx:=wf64 h1;have wy:=wf64 h2;have wz:=wf64 h3;have hkt:Tryz.prog.keyType 43=true:=by kernel_rfl
 obtain ⟨m,hm⟩:∃m,Tryz.prog.types.size=m+1:=⟨Tryz.prog.types.size-1,by kernel_rfl⟩;have hcl:Tryz.prog.cellsOf 43=3:=by kernel_rfl
 have hci:Tryz.prog.cellsOf 3=1:=by kernel_rfl
 unfold keyOf ptV klPt;simp only [Tryz.underlying43];rw [if_pos (by simp [hkt,Value.formed,Tryz.underlying43,hcl]),hm];unfold Program.keyLits;simp only [Tryz.underlying43,Value.cells];rw [if_pos ⟨by rw [hcl];rfl,by kernel_rfl⟩];simp [Program.keyLits,Tryz.underlying3,hci,wx,wy,wz]
abbrev Ed:=Pt × Pt
def okE (e:Ed):Prop:=okP e.1∧okP e.2
def edV (e:Ed):Value:=.agg #[.int .i64 e.1.1,.int .i64 e.1.2.1,.int .i64 e.1.2.2,.int .i64 e.2.1,.int .i64 e.2.2.1,.int .i64 e.2.2.2]
def klE (e:Ed):Lit:=.string (keyBytes [.int .i64 e.1.1,.int .i64 e.1.2.1,.int .i64 e.1.2.2,.int .i64 e.2.1,.int .i64 e.2.2.1,.int .i64 e.2.2.2])
theorem keyLitsPt {p:Pt} (h:okP p) (m:Nat):Tryz.prog.keyLits (m+2) 43 [.int .i64 p.1,.int .i64 p.2.1,.int .i64 p.2.2]=some [.int .i64 p.1,.int .i64 p.2.1,.int .i64 p.2.2]:=by
 obtain ⟨h1,h2,h3⟩:=h;have wx:=wf64 h1;have wy:=wf64 h2;have wz:=wf64 h3;have hcl:Tryz.prog.cellsOf 43=3:=by kernel_rfl
 have hci:Tryz.prog.cellsOf 3=1:=by kernel_rfl
 unfold Program.keyLits;simp only [Tryz.underlying43];rw [if_pos ⟨by rw [hcl];rfl,by kernel_rfl⟩];simp [Program.keyLits,Tryz.underlying3,hci,wx,wy,wz]
theorem keyE {e:Ed} (h:okE e):keyOf Tryz.prog 89 (edV e)=some (klE e):=by
 obtain ⟨p,q⟩:=e;obtain ⟨h1,h2⟩:=h;have hkt:Tryz.prog.keyType 89=true:=by kernel_rfl
 obtain ⟨m,hm⟩:∃m,Tryz.prog.types.size=m+2:=⟨Tryz.prog.types.size-2,by kernel_rfl⟩;have hcl:Tryz.prog.cellsOf 89=6:=by kernel_rfl
 have hci:Tryz.prog.cellsOf 43=3:=by kernel_rfl
 have kp:=keyLitsPt h1 m;have kq:=keyLitsPt h2 m;unfold keyOf edV klE;simp only [Tryz.underlying89];rw [if_pos (by simp [hkt,Value.formed,Tryz.underlying89,hcl]),hm];unfold Program.keyLits;simp only [Tryz.underlying89,Value.cells];rw [if_pos ⟨by rw [hcl];rfl,by kernel_rfl⟩];simp [hci,kp,kq]
theorem keyM {e:Ed} (h:okE e):keyOf Tryz.prog 258 (edV e)=some (klE e):=by
 obtain ⟨p,q⟩:=e;obtain ⟨h1,h2⟩:=h;have hkt:Tryz.prog.keyType 258=true:=by kernel_rfl
 obtain ⟨m,hm⟩:∃m,Tryz.prog.types.size=m+2:=⟨Tryz.prog.types.size-2,by kernel_rfl⟩;have hcl:Tryz.prog.cellsOf 258=6:=by kernel_rfl
 have hci:Tryz.prog.cellsOf 43=3:=by kernel_rfl
 have kp:=keyLitsPt h1 m;have kq:=keyLitsPt h2 m;unfold keyOf edV klE;simp only [Tryz.underlying258];rw [if_pos (by simp [hkt,Value.formed,Tryz.underlying258,hcl]),hm];unfold Program.keyLits;simp only [Tryz.underlying258,Value.cells];rw [if_pos ⟨by rw [hcl];rfl,by kernel_rfl⟩];simp [hci,kp,kq]
theorem ptV_inj (a b:Pt) (h:ptV a=ptV b):a=b:=by
 obtain ⟨a1,a2,a3⟩:=a;obtain ⟨b1,b2,b3⟩:=b;simpa [ptV] using h
theorem edV_inj (a b:Ed) (h:edV a=edV b):a=b:=by
 obtain ⟨⟨a1,a2,a3⟩,⟨a4,a5,a6⟩⟩:=a;obtain ⟨⟨b1,b2,b3⟩,⟨b4,b5,b6⟩⟩:=b;simp only [edV,Value.agg.injEq,Array.mk.injEq,List.cons.injEq,Value.int.injEq,true_and,and_true] at h;obtain ⟨rfl,rfl,rfl,rfl,rfl,rfl⟩:=h;rfl
def ptD (p:Pt):DataW Unit:=.agg [.lit (.int .i64 p.1),.lit (.int .i64 p.2.1),.lit (.int .i64 p.2.2)]
theorem ptD_inj (a b:Pt) (h:ptD a=ptD b):a=b:=by
 obtain ⟨a1,a2,a3⟩:=a;obtain ⟨b1,b2,b3⟩:=b;simpa [ptD] using h
theorem zero_int (w:World):(zeroValue 3).run Tryz.prog w=.ok (.int .i64 0) w:=by kernel_rfl
theorem zero_bool (w:World):(zeroValue 4).run Tryz.prog w=.ok (.bool false) w:=by kernel_rfl
theorem zero_pt (w:World):(zeroValue 43).run Tryz.prog w=.ok (ptV (0,0,0)) w:=by kernel_rfl
theorem klE_inj {a b:Ed} (ha:okE a) (hb:okE b) (h:klE a=klE b):a=b:=by
 have h1:=keyE ha;have h2:=keyE hb;rw [←h] at h2;exact edV_inj a b (keyedE.inj h1 h2)
theorem klPt_inj {a b:Pt} (ha:okP a) (hb:okP b) (h:klPt a=klPt b):a=b:=by
 have h1:=keyPt ha;have h2:=keyPt hb;rw [←h] at h2;exact ptV_inj a b (keyedPt.inj h1 h2)
noncomputable def kitSet:MapKit Tryz.prog Ed Bool:={ t:=236,k:=258,e:=4,encK:=edV,klK:=klE,goodK:=okE,encV:=.bool,dV:=fun b=>.lit (.bool b),goodV:=fun _=>True,zero:=false,R:=mkR (fun _=>True) Value.bool (fun b=>.lit (.bool b)),keyed:=keyedM,ht:=Tryz.underlying236,hkey:=fun _ h=>keyM h,inj:=fun _ _=>klE_inj,hval:=fun b hb=>mkR_val (fun _ _ e=>by cases e;rfl) b hb,hinv:=fun _ _ h=>mkR_inv (fun _ _ e=>by cases e;rfl) h,dinj:=fun _ _ _ _ e=>by cases e;rfl,hz:=zero_bool,gz:=trivial }
noncomputable def kitUsed:MapKit Tryz.prog Ed Bool:={ t:=100,k:=89,e:=4,encK:=edV,klK:=klE,goodK:=okE,encV:=.bool,dV:=fun b=>.lit (.bool b),goodV:=fun _=>True,zero:=false,R:=mkR (fun _=>True) Value.bool (fun b=>.lit (.bool b)),keyed:=keyedE,ht:=Tryz.underlying100,hkey:=fun _ h=>keyE h,inj:=fun _ _=>klE_inj,hval:=fun b hb=>mkR_val (fun _ _ e=>by cases e;rfl) b hb,hinv:=fun _ _ h=>mkR_inv (fun _ _ e=>by cases e;rfl) h,dinj:=fun _ _ _ _ e=>by cases e;rfl,hz:=zero_bool,gz:=trivial }
noncomputable def kitThird:MapKit Tryz.prog Ed Pt:={ t:=87,k:=89,e:=43,encK:=edV,klK:=klE,goodK:=okE,encV:=ptV,dV:=ptD,goodV:=fun _=>True,zero:=(0,0,0),R:=mkR (fun _=>True) ptV ptD,keyed:=keyedE,ht:=Tryz.underlying87,hkey:=fun _ h=>keyE h,inj:=fun _ _=>klE_inj,hval:=fun b hb=>mkR_val ptV_inj b hb,hinv:=fun _ _ h=>mkR_inv ptV_inj h,dinj:=fun _ _ _ _ e=>ptD_inj _ _ e,hz:=zero_pt,gz:=trivial }
noncomputable def kitNext:MapKit Tryz.prog Ed Pt:={ t:=263,k:=258,e:=43,encK:=edV,klK:=klE,goodK:=okE,encV:=ptV,dV:=ptD,goodV:=fun _=>True,zero:=(0,0,0),R:=mkR (fun _=>True) ptV ptD,keyed:=keyedM,ht:=Tryz.underlying263,hkey:=fun _ h=>keyM h,inj:=fun _ _=>klE_inj,hval:=fun b hb=>mkR_val ptV_inj b hb,hinv:=fun _ _ h=>mkR_inv ptV_inj h,dinj:=fun _ _ _ _ e=>ptD_inj _ _ e,hz:=zero_pt,gz:=trivial }
noncomputable def kitAt:MapKit Tryz.prog Pt Int:={ t:=99,k:=43,e:=3,encK:=ptV,klK:=klPt,goodK:=okP,encV:=.int .i64,dV:=fun n=>.lit (.int .i64 n),goodV:=fun _=>True,zero:=0,R:=mkR (fun _=>True) (Value.int .i64) (fun n=>.lit (.int .i64 n)),keyed:=keyedPt,ht:=Tryz.underlying99,hkey:=fun _ h=>keyPt h,inj:=fun _ _=>klPt_inj,hval:=fun b hb=>mkR_val (fun _ _ e=>by cases e;rfl) b hb,hinv:=fun _ _ h=>mkR_inv (fun _ _ e=>by cases e;rfl) h,dinj:=fun _ _ _ _ e=>by cases e;rfl,hz:=zero_int,gz:=trivial }
end Go.Proofs.YtcikldoaidmnhaaGreatDoor
namespace Go.Proofs.YtcikldoaidmnhaaGreatDoor
open Go Go.RowKit
namespace Pk
def modI (n m:Int):Int:=((n.tmod m)+m).tmod m
theorem modI_range {n m:Int} (h:0<m):0≤modI n m∧modI n m<m:=by
 unfold modI;have h1:=Int.lt_tmod_of_pos n h;have h2:=Int.tmod_lt_of_pos n h;exact ⟨Int.tmod_nonneg _ (by omega),Int.tmod_lt_of_pos _ h⟩
def quadT (a b c d:Pt):List Tri:=[(a,b,c),(a,c,d)]
def cubeP (p:Pt) (s:Int) (n:Nat):Pt:=(p.1+((n % 2:Nat):Int)*s,p.2.1+((n / 2 % 2:Nat):Int)*s,p.2.2+((n / 4:Nat):Int)*s)
def cubeT (p:Pt) (s:Int):List Tri:=quadT (cubeP p s 0) (cubeP p s 2) (cubeP p s 3) (cubeP p s 1)++quadT (cubeP p s 4) (cubeP p s 5) (cubeP p s 7) (cubeP p s 6)++quadT (cubeP p s 0) (cubeP p s 1) (cubeP p s 5) (cubeP p s 4)++quadT (cubeP p s 2) (cubeP p s 6) (cubeP p s 7) (cubeP p s 3)++quadT (cubeP p s 0) (cubeP p s 4) (cubeP p s 6) (cubeP p s 2)++quadT (cubeP p s 1) (cubeP p s 3) (cubeP p s 7) (cubeP p s 5)
def bitV (bits:Int) (n:Nat):Bool:=decide (bits / 2 ^ n % 2=1)
def stepsV (f:Nat):Int × Int × Int:=([(0,0,-1),(0,0,1),(0,-1,0),(0,1,0),(-1,0,0),(1,0,0)]:List (Int × Int × Int)).getD f (0,0,0)
def nearV (bits:Int) (n f:Nat):Bool:=
 let u:=((n % 3:Nat):Int)+(stepsV f).1
 let v:=((n / 3 % 3:Nat):Int)+(stepsV f).2.1
 let w:=((n / 9:Nat):Int)+(stepsV f).2.2
 decide (0≤u∧u<3∧0≤v∧v<3∧0≤w∧w<3)&&bitV bits ((w*3+v)*3+u).toNat
def pointV (step:Int) (at_:Pt) (n:Nat):Pt:=(at_.1+((n % 3:Nat):Int)*step,at_.2.1+((n / 3 % 3:Nat):Int)*step,at_.2.2+((n / 9:Nat):Int)*step)
def sideV (bits step:Int) (at_:Pt) (n f:Nat):List Tri:=if nearV bits n f then [] else [(cubeT (pointV step at_ n) step).getD (2*f) ((0,0,0),(0,0,0),(0,0,0)),(cubeT (pointV step at_ n) step).getD (2*f+1) ((0,0,0),(0,0,0),(0,0,0))]
def cubeV (bits step:Int) (at_:Pt) (n:Nat):List Tri:=if bitV bits n then (List.range 6).flatMap (sideV bits step at_ n) else []
def voxelsT (bits step:Int) (at_:Pt):List Tri:=(List.range 27).flatMap (cubeV bits step at_)
def hillP (x y:Nat) (step:Int) (hs:List Int):Pt:=((x:Int)*step,(y:Int)*step,100+(if hs=[] then 0 else modI (hs.getD ((y*7+x) % hs.length) 0) 64))
def hillsN (n:Int):Nat:=(1+modI n 6).toNat
def hillsT (n step:Int) (hs:List Int):List Tri:=(List.range (hillsN n)).flatMap fun y=>(List.range (hillsN n)).flatMap fun x=>quadT (hillP x y step hs) (hillP (x+1) y step hs) (hillP (x+1) (y+1) step hs) (hillP x (y+1) step hs)
def swapP (p r:Pt) (t:Tri):Tri:=(if t.1=p then r else t.1,if t.2.1=p then r else t.2.1,if t.2.2=p then r else t.2.2)
def z3:Tri:=((0,0,0),(0,0,0),(0,0,0))
def spoilT (l:List Tri) (q0 q1 q2:Int):List Tri:=
 if l=[] then [] else
 let k:=(modI q1 l.length).toNat
 let j:=(modI q2 l.length).toNat
 let t:=l.getD k z3
 let u:=l.getD j z3
 match (modI q0 12).toNat with
 | 0=>l.take k++l.drop (k+1)
 | 1=>l.set k (t.1,t.2.2,t.2.1)
 | 2=>l++[u]
 | 3=>l.set k (u.2.1,t.2.1,t.2.2)
 | 4=>l.set k (t.1,t.1,t.2.2)
 | 5=>l++[(t.1,t.2.2,t.2.1)]
 | 6=>l.map (swapP u.2.2 t.1)
 | 7=>l.take (1+k)
 | 8=>l.set k (t.2.2,t.1,t.2.1)
 | _=>l
theorem spoilT_len (l:List Tri) (q0 q1 q2:Int):(spoilT l q0 q1 q2).length≤l.length+1:=by
 unfold spoilT;split
 ·simp
 ·simp only;split<;>simp<;>omega
end Pk
end Go.Proofs.YtcikldoaidmnhaaGreatDoor
namespace Go.Proofs.YtcikldoaidmnhaaGreatDoor
open Go Go.RowKit Pk
set_option maxRecDepth 100000
noncomputable def kInt:Kd Tryz.prog Int:={ T:=3,S:=23,k:=1,bytes:=8,enc:=fun n=>[.int .i64 n],len:=fun _=>rfl,one:=fun n v hv=>by rw [List.mem_singleton.1 hv];rfl,pos:=by decide,small:=by decide,und:=Tryz.underlying23,info:=kinfo_of (by kernel_rfl) }
theorem hMod_any (c m:Int) (hm:0<m) (hb:m≤1000000000) (w:World):Calls Tryz.prog 70 #[.int .i64 c,.int .i64 m] w fun e w'=>e=.returned (.int .i64 (modI c m))∧w'=w:=by
 have k1:=Int.lt_tmod_of_pos c hm;have k2:=Int.tmod_lt_of_pos c hm;have e1:wrap64 (c.tmod m+m)=c.tmod m+m:=IntWalk.wrap64_in _ (by omega);have e3:(m == 0)=false:=by rw [beq_eq_false_iff_ne];omega
 have e4:¬m=-1:=by omega
 have h1:-9223372036854775808≤c.tmod m∧c.tmod m≤9223372036854775807:=by omega
 obtain ⟨R,hR⟩:∃R,R=modI c m:=⟨_,rfl⟩;have e2:(c.tmod m+m).tmod m=R:=by rw [hR];rfl
 have h2:-9223372036854775808≤R∧R≤9223372036854775807:=by have:=modI_range (n:=c) hm;omega
 rw [←hR];clear hR k1 k2;go_enter Tryz.func70,Tryz.ntmps70
 go_wp2_with fail
 go_ret
 exact ⟨rfl,rfl⟩
theorem if_wanted {c:Bool} {A B:Prop} (h:c=true) (ha:A):if c=true then A else B:=by rw [if_pos h];exact ha
end Go.Proofs.YtcikldoaidmnhaaGreatDoor
