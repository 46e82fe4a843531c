/- Parts: Lists of triangles that differ by order and by which corner comes first: what is wrong with them, and their packets, are the same. No condition. Opening a cluster as a plain function: what was packed is opened again, whatever reader goes along. No condition. Opening group packets as plain functions on bytes; what is accepted is the packet of what is returned. No condition. The canonical form of a  -/
import Derived.Test.YtcikldoaidmnhaaGreatDoorRSpoi1
import Derived.Test.YtcikldoaidmnhaaGreatDoorRSpoi2
import Derived.Test.YtcikldoaidmnhaaGreatDoorRSpoi3
import Derived.WalkKit
import Derived.WalkSpells
import Derived.WalkLawsBesides
import Derived.Lib.Hide
import Derived.BigQuiet
import Derived.Deep.DeepFit
import Derived.Deep.DeepCutAuto
import Derived.Deep.AppendLies
import Derived.Deep.QuietTactic
import Derived.Lib.Bits
namespace Go.Proofs.YtcikldoaidmnhaaGreatDoor
open Go Go.RowKit
namespace Pk
theorem ptLt_irrefl (a:Pt):ptLt a a=false:=by simp [ptLt]
theorem ptLt_iff (a b:Pt):ptLt a b=true↔(a.1<b.1∨(a.1=b.1∧(a.2.1<b.2.1∨(a.2.1=b.2.1∧a.2.2<b.2.2)))):=by
 unfold ptLt;by_cases h1:a.1=b.1
 ·rw [if_neg (by simp [h1])];by_cases h2:a.2.1=b.2.1
  ·rw [if_neg (by simp [h2]),decide_eq_true_eq];omega
  ·rw [if_pos h2,decide_eq_true_eq];omega
 ·rw [if_pos h1,decide_eq_true_eq];omega
theorem pt_ext {a b:Pt} (h1:a.1=b.1) (h2:a.2.1=b.2.1) (h3:a.2.2=b.2.2):a=b:=by
 obtain ⟨a1,a2,a3⟩:=a;obtain ⟨b1,b2,b3⟩:=b;simp only at h1 h2 h3;rw [h1,h2,h3]
theorem ptLt_total {a b:Pt} (h1:ptLt a b=false) (h2:ptLt b a=false):a=b:=by
 have k1:¬ptLt a b=true:=by rw [h1];simp
 have k2:¬ptLt b a=true:=by rw [h2];simp
 rw [ptLt_iff] at k1 k2;exact pt_ext (by omega) (by omega) (by omega)
theorem ptLt_trans {a b c:Pt} (h1:ptLt a b=true) (h2:ptLt b c=true):ptLt a c=true:=by
 rw [ptLt_iff] at *;omega
theorem ptLt_asymm {a b:Pt} (h:ptLt a b=true):ptLt b a=false:=by
 have:¬ptLt b a=true:=by rw [ptLt_iff] at *;omega
 simpa using this
def triLt (s t:Tri):Bool:=if s.1≠t.1 then ptLt s.1 t.1 else if s.2.1≠t.2.1 then ptLt s.2.1 t.2.1 else ptLt s.2.2 t.2.2
theorem triLt_irrefl (t:Tri):triLt t t=false:=by simp [triLt,ptLt_irrefl]
theorem tri_ext {a b:Tri} (h1:a.1=b.1) (h2:a.2.1=b.2.1) (h3:a.2.2=b.2.2):a=b:=by
 obtain ⟨a1,a2,a3⟩:=a;obtain ⟨b1,b2,b3⟩:=b;simp only at h1 h2 h3;rw [h1,h2,h3]
theorem triLt_total {s t:Tri} (h1:triLt s t=false) (h2:triLt t s=false):s=t:=by
 unfold triLt at h1 h2;by_cases e1:s.1=t.1
 ·rw [if_neg (by simp [e1])] at h1 h2;by_cases e2:s.2.1=t.2.1
  ·rw [if_neg (by simp [e2])] at h1 h2;exact tri_ext e1 e2 (ptLt_total h1 h2)
  ·rw [if_pos e2] at h1;rw [if_pos (Ne.symm e2)] at h2;exact absurd (ptLt_total h1 h2) e2
 ·rw [if_pos e1] at h1;rw [if_pos (Ne.symm e1)] at h2;exact absurd (ptLt_total h1 h2) e1
theorem triLt_asymm {s t:Tri} (h:triLt s t=true):triLt t s=false:=by
 unfold triLt at *;by_cases e1:s.1=t.1
 ·rw [if_neg (by simp [e1])] at h ⊢;by_cases e2:s.2.1=t.2.1
  ·rw [if_neg (by simp [e2])] at h ⊢;exact ptLt_asymm h
  ·rw [if_pos e2] at h;rw [if_pos (Ne.symm e2)];exact ptLt_asymm h
 ·rw [if_pos e1] at h;rw [if_pos (Ne.symm e1)];exact ptLt_asymm h
theorem triLt_trans {r s t:Tri} (h1:triLt r s=true) (h2:triLt s t=true):triLt r t=true:=by
 unfold triLt at *;by_cases e1:r.1=s.1
 ·rw [if_neg (by simp [e1])] at h1;rw [e1];by_cases e2:s.1=t.1
  ·rw [if_neg (by simp [e2])] at h2;rw [if_neg (by simp [e2])];by_cases e3:r.2.1=s.2.1
   ·rw [if_neg (by simp [e3])] at h1;rw [e3];by_cases e4:s.2.1=t.2.1
    ·rw [if_neg (by simp [e4])] at h2;rw [if_neg (by simp [e4])];exact ptLt_trans h1 h2
    ·rw [if_pos e4] at h2 ⊢;exact h2
   ·rw [if_pos e3] at h1;by_cases e4:s.2.1=t.2.1
    ·rw [←e4,if_pos e3];exact h1
    ·rw [if_pos e4] at h2;have h3:=ptLt_trans h1 h2;rw [if_pos (fun e=>by rw [e,ptLt_irrefl] at h3;cases h3)];exact h3
  ·rw [if_pos e2] at h2 ⊢;exact h2
 ·rw [if_pos e1] at h1;by_cases e2:s.1=t.1
  ·rw [←e2,if_pos e1];exact h1
  ·rw [if_pos e2] at h2;have h3:=ptLt_trans h1 h2;rw [if_pos (fun e=>by rw [e,ptLt_irrefl] at h3;cases h3)];exact h3
def rot (t:Tri):Tri:=if ptLt t.2.1 t.1 then (if ptLt t.2.2 t.2.1 then (t.2.2,t.1,t.2.1) else (t.2.1,t.2.2,t.1)) else (if ptLt t.2.2 t.1 then (t.2.2,t.1,t.2.1) else t)
def triLe (s t:Tri):Bool:=!triLt t s
def canon (l:List Tri):List Tri:=(l.map rot).mergeSort triLe
theorem canon_length (l:List Tri):(canon l).length=l.length:=by unfold canon;rw [List.length_mergeSort,List.length_map]
theorem triLe_trans (a b c:Tri) (h1:triLe a b=true) (h2:triLe b c=true):triLe a c=true:=by
 unfold triLe at *;simp only [Bool.not_eq_true',] at *;by_cases e:triLt c a=true
 ·exfalso;by_cases e2:triLt a b=true
  ·have:=triLt_trans e e2;rw [h2] at this;cases this
  ·have hab:a=b:=triLt_total (by simpa using e2) h1;subst hab;rw [h2] at e;cases e
 ·simpa using e
theorem triLe_total (a b:Tri):(triLe a b||triLe b a)=true:=by
 unfold triLe;cases h:triLt b a
 ·rfl
 ·rw [triLt_asymm h];rfl
theorem sorted_unique:∀{l l':List Tri},l.Perm l'→l.Pairwise (fun a b=>triLe a b=true)→l'.Pairwise (fun a b=>triLe a b=true)→l=l'
 | [],l',hp,_,_=>(List.nil_perm.1 hp).symm
 | a :: l,[],hp,_,_=>absurd hp.length_eq (by simp)
 | a :: l,b :: l',hp,h1,h2=>by
  obtain ⟨p1,p2⟩:=List.pairwise_cons.1 h1;obtain ⟨q1,q2⟩:=List.pairwise_cons.1 h2;have hab:a=b:=by
   have m1:a∈b :: l':=hp.mem_iff.1 (by simp);have m2:b∈a :: l:=hp.mem_iff.2 (by simp);rw [List.mem_cons] at m1 m2;rcases m1 with rfl | m1
   ·rfl
   ·rcases m2 with rfl | m2
    ·rfl
    ·have h3:=p1 b m2;have h4:=q1 a m1;unfold triLe at h3 h4;exact triLt_total (by simpa using h4) (by simpa using h3)
  subst hab;rw [sorted_unique (List.Perm.cons_inv hp) p2 q2]
def manyC (l:List Tri) (p:Pt):Nat:=(l.flatMap (fun t=>[t.1,t.2.1,t.2.2])).count p
def ringN (l:List Tri) (p:Pt):Nat→Pt→Option Pt
 | 0,q=>some q
 | n+1,q=>match third l p q with
  | none=>none
  | some r=>ringN l p n r
def pinched (l:List Tri):Bool:=(edgesL l).any (fun e=>(List.range (manyC l e.1)).any (fun n=>decide (1≤n)&&(ringN l e.1 n e.2 == some e.2)))
def flatT (t:Tri):Bool:=decide (t.1=t.2.1∨t.2.1=t.2.2∨t.2.2=t.1)
def checkO (l:List Tri):Nat:=if l.any flatT then 20 else if ¬(edgesL l).Nodup then 21 else if pinched l then 23 else 0
def coordT (t:Tri):Bool:=[t.1,t.2.1,t.2.2].all (fun p=>decide (0≤p.1∧p.1≤2097151∧0≤p.2.1∧p.2.1≤2097151∧0≤p.2.2∧p.2.2≤2097151))
def packable (l:List Tri):Bool:=l.all coordT&&decide (l.length≤128)&&decide (checkO l=0)
def clusterN (l:List Tri):List Nat:=if packable l then packC (canon l) else []
end Pk
end Go.Proofs.YtcikldoaidmnhaaGreatDoor
namespace Go.Proofs.YtcikldoaidmnhaaGreatDoor
open Go Go.RowKit
namespace Pk
def RotE (s t:Tri):Prop:=s=t∨s=(t.2.1,t.2.2,t.1)∨s=(t.2.2,t.1,t.2.1)
theorem RotE.refl (t:Tri):RotE t t:=.inl rfl
theorem RotE.symm {s t:Tri} (h:RotE s t):RotE t s:=by
 rcases h with rfl | rfl | rfl
 ·exact .inl rfl
 ·exact .inr (.inr rfl)
 ·exact .inr (.inl rfl)
theorem RotE.trans {r s t:Tri} (h:RotE r s) (k:RotE s t):RotE r t:=by
 rcases h with rfl | rfl | rfl
 ·exact k
 ·rcases k with rfl | rfl | rfl
  ·exact .inr (.inl rfl)
  ·exact .inr (.inr rfl)
  ·exact .inl rfl
 ·rcases k with rfl | rfl | rfl
  ·exact .inr (.inr rfl)
  ·exact .inl rfl
  ·exact .inr (.inl rfl)
theorem RotE.edges {s t:Tri} (h:RotE s t):(edgesT s).Perm (edgesT t):=by
 rcases h with rfl | rfl | rfl
 ·exact List.Perm.refl _
 ·show [(t.2.1,t.2.2),(t.2.2,t.1),(t.1,t.2.1)].Perm [(t.1,t.2.1),(t.2.1,t.2.2),(t.2.2,t.1)];exact (List.perm_append_comm (l₁:=[(t.2.1,t.2.2),(t.2.2,t.1)]) (l₂:=[(t.1,t.2.1)]))
 ·show [(t.2.2,t.1),(t.1,t.2.1),(t.2.1,t.2.2)].Perm [(t.1,t.2.1),(t.2.1,t.2.2),(t.2.2,t.1)];exact (List.perm_append_comm (l₁:=[(t.2.2,t.1)]) (l₂:=[(t.1,t.2.1),(t.2.1,t.2.2)]))
def cornT (t:Tri):List Pt:=[t.1,t.2.1,t.2.2]
theorem RotE.corners {s t:Tri} (h:RotE s t):(cornT s).Perm (cornT t):=by
 rcases h with rfl | rfl | rfl
 ·exact List.Perm.refl _
 ·exact (List.perm_append_comm (l₁:=[t.2.1,t.2.2]) (l₂:=[t.1]))
 ·exact (List.perm_append_comm (l₁:=[t.2.2]) (l₂:=[t.1,t.2.1]))
theorem RotE.flat {s t:Tri} (h:RotE s t):flatT s=flatT t:=by
 rcases h with rfl | rfl | rfl
 ·rfl
 ·unfold flatT;rw [decide_eq_decide];simp only;constructor<;>(rintro (h | h | h)<;>simp [h])
 ·unfold flatT;rw [decide_eq_decide];simp only;constructor<;>(rintro (h | h | h)<;>simp [h])
theorem RotE.coord {s t:Tri} (h:RotE s t):coordT s=coordT t:=by
 have e:∀u:Tri,coordT u=(cornT u).all (fun p=>decide (0≤p.1∧p.1≤2097151∧0≤p.2.1∧p.2.1≤2097151∧0≤p.2.2∧p.2.2≤2097151)):=fun _=>rfl;rw [e,e,Bool.eq_iff_iff,List.all_eq_true,List.all_eq_true];exact ⟨fun k x hx=>k x (h.corners.mem_iff.2 hx),fun k x hx=>k x (h.corners.mem_iff.1 hx)⟩
def nrm (t:Tri):Tri:=
 let m:=if triLt (t.2.1,t.2.2,t.1) t then (t.2.1,t.2.2,t.1) else t
 if triLt (t.2.2,t.1,t.2.1) m then (t.2.2,t.1,t.2.1) else m
theorem triLt_ftrans {a b c:Tri} (h1:triLt a b=false) (h2:triLt b c=false):triLt a c=false:=by
 have:=triLe_trans c b a (by unfold triLe;rw [h2];rfl) (by unfold triLe;rw [h1];rfl);unfold triLe at this;simpa using this
theorem nrm_rot (t:Tri):RotE (nrm t) t:=by
 have k:∀m:Tri,RotE m t→RotE (if triLt (t.2.2,t.1,t.2.1) m then (t.2.2,t.1,t.2.1) else m) t:=fun m hm=>by
  split
  ·exact .inr (.inr rfl)
  ·exact hm
 unfold nrm;refine k _ ?_;split
 ·exact .inr (.inl rfl)
 ·exact .inl rfl
theorem nrm_le {s t:Tri} (h:RotE s t):triLt s (nrm t)=false:=by
 have k1:triLt t (if triLt (t.2.1,t.2.2,t.1) t then (t.2.1,t.2.2,t.1) else t)=false:=by
  split
  ·rename_i h;exact triLt_asymm h
  ·exact triLt_irrefl t
 have k2:triLt (t.2.1,t.2.2,t.1) (if triLt (t.2.1,t.2.2,t.1) t then (t.2.1,t.2.2,t.1) else t)=false:=by
  split
  ·exact triLt_irrefl _
  ·rename_i h;simpa using h
 unfold nrm;simp only;generalize (if triLt (t.2.1,t.2.2,t.1) t then (t.2.1,t.2.2,t.1) else t)=m at *;split
 ·rename_i h3
  have h4:=triLt_asymm h3;rcases h with rfl | rfl | rfl
  ·exact triLt_ftrans k1 h4
  ·exact triLt_ftrans k2 h4
  ·exact triLt_irrefl _
 ·rename_i h3
  rcases h with rfl | rfl | rfl
  ·exact k1
  ·exact k2
  ·simpa using h3
theorem nrm_eq {s t:Tri} (h:RotE s t):nrm s=nrm t:=
 triLt_total (nrm_le ((nrm_rot s).trans h)) (nrm_le ((nrm_rot t).trans h.symm))
theorem rot_rot (t:Tri):RotE (rot t) t:=by
 unfold rot;split
 ·split
  ·exact .inr (.inr rfl)
  ·exact .inr (.inl rfl)
 ·split
  ·exact .inr (.inr rfl)
  ·exact .inl rfl
theorem rot_first (t:Tri):ptLt (rot t).2.1 (rot t).1=false∧ptLt (rot t).2.2 (rot t).1=false:=by
 unfold rot;cases h1:ptLt t.2.1 t.1 with
 | false=>
  rw [if_neg (by simp)];cases h2:ptLt t.2.2 t.1 with
  | false=>rw [if_neg (by simp)];exact ⟨h1,h2⟩
  | true=>
   rw [if_pos rfl];simp only;refine ⟨ptLt_asymm h2,?_⟩;cases h3:ptLt t.2.1 t.2.2 with
   | false=>rfl
   | true=>rw [ptLt_trans h3 h2] at h1;cases h1
 | true=>
  rw [if_pos rfl];cases h2:ptLt t.2.2 t.2.1 with
  | true=>rw [if_pos rfl];exact ⟨ptLt_asymm (ptLt_trans h2 h1),ptLt_asymm h2⟩
  | false=>rw [if_neg (by simp)];exact ⟨h2,ptLt_asymm h1⟩
theorem rot_fix {t:Tri} (h1:ptLt t.2.1 t.1=false) (h2:ptLt t.2.2 t.1=false):rot t=t:=by
 unfold rot;rw [h1,h2];rfl
theorem rot_idem (t:Tri):rot (rot t)=rot t:=rot_fix (rot_first t).1 (rot_first t).2
theorem rot_eq {s t:Tri} (h:RotE s t) (hf:flatT t=false):rot s=rot t:=by
 have key:∀{a b:Tri},RotE a b→flatT b=false→ptLt a.2.1 a.1=false→ptLt a.2.2 a.1=false→ptLt b.2.1 b.1=false→ptLt b.2.2 b.1=false→a=b:=by
  intro a b hab hb a1 a2 b1 b2;have hb':b.1≠b.2.1∧b.2.1≠b.2.2∧b.2.2≠b.1:=by
   unfold flatT at hb;simpa [not_or] using hb
  rcases hab with rfl | rfl | rfl
  ·rfl
  ·simp only at a1 a2;exact absurd (ptLt_total a2 b1) hb'.1
  ·simp only at a1 a2;exact absurd (ptLt_total b2 a1) hb'.2.2
 refine key ((rot_rot s).trans (h.trans (rot_rot t).symm)) ?_ (rot_first s).1 (rot_first s).2 (rot_first t).1 (rot_first t).2;rw [(rot_rot t).flat];exact hf
def Alike (l l':List Tri):Prop:=(l.map nrm).Perm (l'.map nrm)
theorem Alike.refl (l:List Tri):Alike l l:=List.Perm.refl _
theorem Alike.symm {l l':List Tri} (h:Alike l l'):Alike l' l:=List.Perm.symm h
theorem Alike.trans {a b c:List Tri} (h:Alike a b) (k:Alike b c):Alike a c:=List.Perm.trans h k
theorem Alike.of_perm {l l':List Tri} (h:l.Perm l'):Alike l l':=h.map nrm
theorem Alike.length {l l':List Tri} (h:Alike l l'):l.length=l'.length:=by have:=List.Perm.length_eq h;simpa using this
theorem Alike.of_rot {f:Tri→Tri} (hf:∀t,RotE (f t) t) (l:List Tri):Alike (l.map f) l:=by
 have e:(l.map f).map nrm=l.map nrm:=by rw [List.map_map];exact List.map_congr_left (fun t _=>nrm_eq (hf t))
 unfold Alike;rw [e]
theorem canon_alike (l:List Tri):Alike (canon l) l:=(Alike.of_perm (List.mergeSort_perm _ _)).trans (Alike.of_rot rot_rot l)
theorem Alike.mem {l l':List Tri} (h:Alike l l') {t:Tri} (ht:t∈l):∃t',t'∈l'∧RotE t t':=by
 have h1:nrm t∈l'.map nrm:=h.mem_iff.1 (List.mem_map_of_mem ht);obtain ⟨t',h2,h3⟩:=List.mem_map.1 h1;refine ⟨t',h2,(nrm_rot t).symm.trans ?_⟩;rw [←h3];exact nrm_rot t'
theorem flatMap_nrm {β:Type} (f:Tri→List β) (hf:∀t,(f (nrm t)).Perm (f t)):∀l:List Tri,((l.map nrm).flatMap f).Perm (l.flatMap f)
 | []=>List.Perm.refl _
 | t :: l=>by
  show (f (nrm t)++(l.map nrm).flatMap f).Perm (f t++l.flatMap f);exact (hf t).append (flatMap_nrm f hf l)
theorem perm_flatMap {α β:Type} (f:α→List β) {l l':List α} (h:l.Perm l'):(l.flatMap f).Perm (l'.flatMap f):=by
 induction h with
 | nil=>exact List.Perm.refl _
 | cons x _ ih=>rw [List.flatMap_cons,List.flatMap_cons];exact ih.append_left _
 | swap x y l=>
  simp only [List.flatMap_cons];rw [←List.append_assoc,←List.append_assoc];exact List.perm_append_comm.append_right _
 | trans _ _ h1 h2=>exact h1.trans h2
theorem Alike.flatMap {β:Type} (f:Tri→List β) (hf:∀{s t:Tri},RotE s t→(f s).Perm (f t)) {l l':List Tri} (h:Alike l l'):(l.flatMap f).Perm (l'.flatMap f):=
 ((flatMap_nrm f (fun t=>hf (nrm_rot t)) l).symm.trans (perm_flatMap f h)).trans (flatMap_nrm f (fun t=>hf (nrm_rot t)) l')
theorem Alike.edges {l l':List Tri} (h:Alike l l'):(edgesL l).Perm (edgesL l'):=h.flatMap edgesT (fun k=>k.edges)
theorem Alike.many {l l':List Tri} (h:Alike l l') (p:Pt):manyC l p=manyC l' p:=(h.flatMap cornT (fun k=>k.corners)).count_eq p
theorem Alike.anyB {f:Tri→Bool} (hf:∀{s t:Tri},RotE s t→f s=f t) {l l':List Tri} (h:Alike l l'):l.any f=l'.any f:=by
 rw [Bool.eq_iff_iff,List.any_eq_true,List.any_eq_true];constructor
 ·rintro ⟨t,h1,h2⟩;obtain ⟨t',k1,k2⟩:=h.mem h1;exact ⟨t',k1,by rw [←hf k2];exact h2⟩
 ·rintro ⟨t,h1,h2⟩;obtain ⟨t',k1,k2⟩:=h.symm.mem h1;exact ⟨t',k1,by rw [←hf k2];exact h2⟩
theorem Alike.allB {f:Tri→Bool} (hf:∀{s t:Tri},RotE s t→f s=f t) {l l':List Tri} (h:Alike l l'):l.all f=l'.all f:=by
 rw [List.all_eq_not_any_not,List.all_eq_not_any_not,h.anyB (f:=fun t=>!f t) (fun k=>by rw [hf k])]
theorem edgesL_cons (t:Tri) (l:List Tri):edgesL (t :: l)=edgesT t++edgesL l:=rfl
theorem mem_edgesL {l:List Tri} {e:Pt × Pt}:e∈edgesL l↔∃t,t∈l∧e∈edgesT t:=List.mem_flatMap
theorem edge_once:∀{l:List Tri},(edgesL l).Nodup→∀{s t:Tri},s∈l→t∈l→∀{e:Pt × Pt},e∈edgesT s→e∈edgesT t→s=t
 | [],_,_,_,h,_,_,_,_=>by cases h
 | a :: l,hn,s,t,hs,ht,e,h1,h2=>by
  rw [edgesL_cons,List.nodup_append] at hn;obtain ⟨_,n2,n3⟩:=hn;rcases List.mem_cons.1 hs with hs' | hs'
  ·rcases List.mem_cons.1 ht with ht' | ht'
   ·rw [hs',ht']
   ·subst hs';exact absurd rfl (n3 e h1 e (mem_edgesL.2 ⟨t,ht',h2⟩))
  ·rcases List.mem_cons.1 ht with ht' | ht'
   ·subst ht';exact absurd rfl (n3 e h2 e (mem_edgesL.2 ⟨s,hs',h1⟩))
   ·exact edge_once n2 hs' ht' h1 h2
theorem edgesT_nodup:∀{l:List Tri},(edgesL l).Nodup→∀{t:Tri},t∈l→(edgesT t).Nodup
 | [],_,_,h=>by cases h
 | a :: l,hn,t,ht=>by
  rw [edgesL_cons,List.nodup_append] at hn;rcases List.mem_cons.1 ht with rfl | ht
  ·exact hn.1
  ·exact edgesT_nodup hn.2.1 ht
theorem third_some:∀{l:List Tri} {p q r:Pt},third l p q=some r→∃t,t∈l∧RotE (p,q,r) t
 | [],_,_,_,h=>by cases h
 | t :: l,p,q,r,h=>by
  rw [third] at h;split at h
  ·rename_i h1;cases h;exact ⟨t,by simp,.inl (by rw [←h1.1,←h1.2])⟩
  ·split at h
   ·rename_i h1;cases h;exact ⟨t,by simp,.inr (.inl (by rw [←h1.1,←h1.2]))⟩
   ·split at h
    ·rename_i h1;cases h;exact ⟨t,by simp,.inr (.inr (by rw [←h1.1,←h1.2]))⟩
    ·obtain ⟨t',k1,k2⟩:=third_some h;exact ⟨t',by simp [k1],k2⟩
theorem rot_unique {t:Tri} (hn:(edgesT t).Nodup) {p q r r':Pt} (h:RotE (p,q,r) t) (k:RotE (p,q,r') t):r=r':=by
 obtain ⟨a,b,c⟩:=t;simp only [edgesT,List.nodup_cons,List.mem_cons,Prod.mk.injEq,List.not_mem_nil,or_false,not_or,List.nodup_nil,and_true,not_and] at hn;obtain ⟨⟨n1,n2⟩,n3,_⟩:=hn;simp only [RotE,Prod.mk.injEq] at h k;rcases h with ⟨rfl,rfl,rfl⟩ | ⟨rfl,rfl,rfl⟩ | ⟨rfl,rfl,rfl⟩
 ·rcases k with ⟨_,_,rfl⟩ | ⟨h1,h2,rfl⟩ | ⟨h1,h2,rfl⟩
  ·rfl
  ·exact absurd h2 (n1 h1)
  ·exact absurd h2 (n2 h1)
 ·rcases k with ⟨h1,h2,rfl⟩ | ⟨_,_,rfl⟩ | ⟨h1,h2,rfl⟩
  ·exact absurd h2.symm (n1 h1.symm)
  ·rfl
  ·exact absurd h2 (n3 h1)
 ·rcases k with ⟨h1,h2,rfl⟩ | ⟨h1,h2,rfl⟩ | ⟨_,_,rfl⟩
  ·exact absurd h2.symm (n2 h1.symm)
  ·exact absurd h2.symm (n3 h1.symm)
  ·rfl
theorem rot_edge {p q r:Pt} {t:Tri} (h:RotE (p,q,r) t):(p,q)∈edgesT t:=h.edges.mem_iff.1 (by simp [edgesT])
theorem third_eq {l:List Tri} (hn:(edgesL l).Nodup) {t:Tri} (ht:t∈l) {p q r:Pt} (h:RotE (p,q,r) t):third l p q=some r:=by
 have h1:(third l p q).isSome=true:=by rw [third_isSome,decide_eq_true_eq];exact mem_edgesL.2 ⟨t,ht,rot_edge h⟩
 obtain ⟨r',hr⟩:=Option.isSome_iff_exists.1 h1;obtain ⟨t',k1,k2⟩:=third_some hr;have:=edge_once hn k1 ht (rot_edge k2) (rot_edge h);subst this;rw [hr,rot_unique (edgesT_nodup hn k1) k2 h]
theorem Alike.third {l l':List Tri} (h:Alike l l') (hn:(edgesL l).Nodup) (p q:Pt):third l p q=third l' p q:=by
 have hn':(edgesL l').Nodup:=h.edges.nodup_iff.1 hn;cases h1:Pk.third l' p q with
 | some r=>
  obtain ⟨t,k1,k2⟩:=third_some h1;obtain ⟨t',k3,k4⟩:=h.symm.mem k1;exact third_eq hn k3 (k2.trans k4)
 | none=>
  cases h2:Pk.third l p q with
  | none=>rfl
  | some r=>
   obtain ⟨t,k1,k2⟩:=third_some h2;obtain ⟨t',k3,k4⟩:=h.mem k1;rw [third_eq hn' k3 (k2.trans k4)] at h1;cases h1
theorem ringN_congr {l l':List Tri} (h:∀p q,third l p q=third l' p q) (p:Pt):∀(n:Nat) (q:Pt),ringN l p n q=ringN l' p n q
 | 0,_=>rfl
 | n+1,q=>by
  rw [ringN,ringN,h p q];cases third l' p q with
  | none=>rfl
  | some r=>exact ringN_congr h p n r
theorem Alike.pinched {l l':List Tri} (h:Alike l l') (hn:(edgesL l).Nodup):pinched l=pinched l':=by
 have hr:=ringN_congr (h.third hn);have e:∀m:List Tri,Pk.pinched m=(edgesL m).any (fun e=>(List.range (manyC m e.1)).any (fun n=>decide (1≤n)&&(ringN m e.1 n e.2 == some e.2))):=fun _=>rfl;rw [e,e,Bool.eq_iff_iff,List.any_eq_true,List.any_eq_true];constructor
 ·rintro ⟨x,h1,h2⟩;refine ⟨x,h.edges.mem_iff.1 h1,?_⟩;rw [←h.many];simpa only [hr] using h2
 ·rintro ⟨x,h1,h2⟩;refine ⟨x,h.edges.mem_iff.2 h1,?_⟩;rw [h.many];simpa only [hr] using h2
theorem Alike.check {l l':List Tri} (h:Alike l l'):checkO l=checkO l':=by
 unfold checkO;rw [h.anyB (f:=flatT) (fun k=>k.flat)];by_cases h1:l'.any flatT=true
 ·rw [if_pos h1,if_pos h1]
 ·rw [if_neg h1,if_neg h1];by_cases h2:(edgesL l).Nodup
  ·rw [if_neg (not_not_intro h2),if_neg (not_not_intro (h.edges.nodup_iff.1 h2)),h.pinched h2]
  ·rw [if_pos h2,if_pos (fun k=>h2 (h.edges.nodup_iff.2 k))]
theorem Alike.packable {l l':List Tri} (h:Alike l l'):packable l=packable l':=by
 unfold Pk.packable;rw [h.allB (f:=coordT) (fun k=>k.coord),h.length,h.check]
theorem checkO_zero {l:List Tri}:checkO l=0↔(∀t,t∈l→flatT t=false)∧(edgesL l).Nodup∧pinched l=false:=by
 unfold checkO;by_cases h1:l.any flatT=true
 ·rw [if_pos h1];refine ⟨fun h=>by omega,fun h=>?_⟩;obtain ⟨t,k1,k2⟩:=List.any_eq_true.1 h1;rw [h.1 t k1] at k2;cases k2
 ·have h1':∀t,t∈l→flatT t=false:=fun t ht=>by
   cases hf:flatT t with
   | false=>rfl
   | true=>exact absurd (List.any_eq_true.2 ⟨t,ht,hf⟩) h1
  rw [if_neg h1];by_cases h2:(edgesL l).Nodup
  ·rw [if_neg (not_not_intro h2)];cases h3:pinched l with
   | true=>simp
   | false=>exact ⟨fun _=>⟨h1',h2,rfl⟩,fun _=>by simp⟩
  ·rw [if_pos h2];exact ⟨fun h=>by omega,fun h=>absurd h.2.1 h2⟩
theorem Alike.canon {l l':List Tri} (h:Alike l l') (hf:∀t,t∈l→flatT t=false):canon l=canon l':=by
 have hf':∀t,t∈l'→flatT t=false:=fun t ht=>by
  obtain ⟨t',k1,k2⟩:=h.symm.mem ht;rw [k2.flat];exact hf t' k1
 have e:∀m:List Tri,(∀t,t∈m→flatT t=false)→m.map rot=(m.map nrm).map rot:=fun m hm=>by
  rw [List.map_map];refine List.map_congr_left (fun t ht=>?_);exact rot_eq (nrm_rot t).symm (by rw [(nrm_rot t).flat];exact hm t ht)
 unfold Pk.canon;refine sorted_unique ?_ (List.pairwise_mergeSort triLe_trans triLe_total _) (List.pairwise_mergeSort triLe_trans triLe_total _);refine (List.mergeSort_perm _ _).trans (List.Perm.trans ?_ (List.mergeSort_perm _ _).symm);rw [e l hf,e l' hf'];exact List.Perm.map _ h
theorem Alike.cluster {l l':List Tri} (h:Alike l l'):clusterN l=clusterN l':=by
 unfold clusterN;rw [h.packable];by_cases hp:Pk.packable l'=true
 ·rw [if_pos hp,if_pos hp];have hp2:Pk.packable l=true:=by rw [h.packable];exact hp
  unfold Pk.packable at hp2;simp only [Bool.and_eq_true,decide_eq_true_eq] at hp2;rw [h.canon (checkO_zero.1 hp2.2).1]
 ·rw [if_neg hp,if_neg hp]
theorem canon_idem (l:List Tri):canon (canon l)=canon l:=by
 have e:(canon l).map rot=canon l:=by
  have h1:∀t,t∈canon l→rot t=t:=fun t ht=>by
   have h2:t∈l.map rot:=(List.mergeSort_perm _ _).mem_iff.1 ht;obtain ⟨s,_,rfl⟩:=List.mem_map.1 h2;exact rot_idem s
  calc (canon l).map rot=(canon l).map id:=List.map_congr_left h1
   _=canon l:=List.map_id _
 show ((canon l).map rot).mergeSort triLe=canon l;rw [e];refine sorted_unique (List.mergeSort_perm _ _) (List.pairwise_mergeSort triLe_trans triLe_total _) ?_;exact List.pairwise_mergeSort triLe_trans triLe_total _
end Pk
end Go.Proofs.YtcikldoaidmnhaaGreatDoor
namespace Go.Proofs.YtcikldoaidmnhaaGreatDoor
open Go Go.RowKit
namespace Pk
abbrev Mv:=(Int × Int × Int) × (Int × Int × Int)
def moveR (s:Bytes):Option (Mv × Bytes):=match listR readNum 6 s with
 | some ([a,b,c,d,e,f],r)=>some ((((a:Int),(b:Int),(c:Int)),((d:Int),(e:Int),(f:Int))),r)
 | _=>none
def grpF (s:Bytes):Option (Grp × Nat):=
 match readNum s with
 | none=>none
 | some (lv,s1)=>match manyR partR s1 with
  | none=>none
  | some (ins,s2)=>match manyR (takeR 32) s2 with
   | none=>none
   | some (outs,s3)=>match manyR moveR s3 with
    | none=>none
    | some (moves,s4)=>match readNum s4 with
     | none=>none
     | some (er,s5)=>match readNum s5 with
      | none=>none
      | some (tot,s6)=>match readNum s6 with
       | none=>none
       | some (size,s7)=>some (⟨lv,ins,outs,moves,er,tot,decide (size % 2=1),s7⟩,size)
def withMag (g:Grp) (m:Bytes):Grp:={ g with mag:=m }
def goodG (g:Grp):Prop:=(∀p,p∈g.ins→goodPart p)∧(∀h,h∈g.outs→h.length=32)
def grpR (s:Bytes):Option Grp:=match s with
 | []=>none
 | b :: r=>if b≠2 then none else match grpF r with
  | none=>none
  | some (g,size)=>if g.mag.length<size / 2 then none else if rightG (withMag g (g.mag.take (size / 2)))=true∧groupB (withMag g (g.mag.take (size / 2)))=s then some (withMag g (g.mag.take (size / 2))) else none
def grpRR (s:Bytes):Option Grp:=match s with
 | []=>none
 | b :: r=>if b≠2 then none else match grpF r with
  | none=>none
  | some (g,size)=>if size / 2≠g.mag.length then none else if rightG g=true∧groupB g=s then some g else none
theorem moveR_app {m:Mv} {r:Bytes} (h:(coordsM m).all insideC=true):moveR ((coordsM m).flatMap (fun n=>digB n.toNat)++r)=some (m,r):=by
 obtain ⟨⟨a,b,c⟩,⟨d,e,f⟩⟩:=m;simp only [coordsM,List.all_cons,List.all_nil,Bool.and_true,Bool.and_eq_true,insideC,decide_eq_true_eq] at h;obtain ⟨h1,h2,h3,h4,h5,h6⟩:=h;have e1:(coordsM ((a,b,c),(d,e,f))).flatMap (fun n=>digB n.toNat)=[a.toNat,b.toNat,c.toNat,d.toNat,e.toNat,f.toNat].flatMap digB:=rfl;have e2:=listR_app readNum digB (fun n=>n<9223372036854775808) (fun x r h=>readNum_dig h r) [a.toNat,b.toNat,c.toNat,d.toNat,e.toNat,f.toNat] r (fun x hx=>by
  simp only [List.mem_cons,List.not_mem_nil,or_false] at hx;rcases hx with rfl | rfl | rfl | rfl | rfl | rfl<;>omega)
 unfold moveR;rw [e1];have e3:[a.toNat,b.toNat,c.toNat,d.toNat,e.toNat,f.toNat].length=6:=rfl;rw [e3] at e2;rw [e2];simp only;congr 2
 simp only [Prod.mk.injEq];omega
theorem manyR_app {α:Type} (one:Bytes→Option (α × Bytes)) (enc:α→Bytes) (good:α→Prop) (h:∀x r,good x→one (enc x++r)=some (x,r)) (l:List α) (r:Bytes) (hl:l.length≤65536) (hg:∀x,x∈l→good x):manyR one (digB l.length++(l.flatMap enc++r))=some (l,r):=by
 unfold manyR;rw [readNum_dig (by omega)];simp only;rw [if_neg (by omega)];exact listR_app one enc good h l r hg
theorem flatten_flatMap (l:List Bytes):l.flatten=l.flatMap id:=by simp [List.flatMap]
theorem right_nums {g:Grp} (h:rightG g=true):0≤g.level∧0≤g.err∧0≤g.total∧g.ins.length≤65536∧g.outs.length≤65536∧g.moves.length≤65536:=by
 unfold rightG at h;simp only [Bool.and_eq_true,decide_eq_true_eq] at h;exact h.1.1
theorem right_moves {g:Grp} (h:rightG g=true):∀m,m∈g.moves→(coordsM m).all insideC=true:=by
 unfold rightG at h;simp only [Bool.and_eq_true] at h;exact List.all_eq_true.1 h.1.2
theorem grpF_back {g:Grp} (h:rightG g=true) (hg:goodG g) (hn:g.level≤9223372036854775807∧g.err≤9223372036854775807∧g.total≤9223372036854775807) (hm:g.mag.length<4611686018427387904) (r:Bytes) (hr:groupB g=2 :: r):grpF r=some (g,sizeG g):=by
 have e:r=digB g.level.toNat++(partsB g.ins++(digB g.outs.length++(g.outs.flatMap id++(digB g.moves.length++(g.moves.flatMap (fun m=>(coordsM m).flatMap (fun n=>digB n.toNat))++(digB g.err.toNat++(digB g.total.toNat++(digB (sizeG g)++g.mag)))))))):=by
  unfold groupB at hr;rw [List.cons.injEq] at hr;rw [←hr.2,flatten_flatMap];simp only [movesB,List.append_assoc]
 obtain ⟨h1,h2,h3,h4,h5,h6⟩:=right_nums h;obtain ⟨n1,n2,n3⟩:=hn;have hs:sizeG g<9223372036854775808:=by unfold sizeG;split<;>omega
 subst e;unfold grpF;rw [readNum_dig (by omega)];simp only;rw [manyR_parts _ _ h4 hg.1];simp only;rw [manyR_app (takeR 32) id (fun h=>h.length=32) (fun x r h=>takeR_app h) g.outs _ h5 hg.2];simp only;rw [manyR_app moveR (fun m=>(coordsM m).flatMap (fun n=>digB n.toNat)) (fun m=>(coordsM m).all insideC=true) (fun x r h=>moveR_app h) g.moves _ h6 (right_moves h)];simp only;rw [readNum_dig (by omega)];simp only;rw [readNum_dig (by omega)];simp only;rw [readNum_dig hs];simp only;have e1:decide (sizeG g % 2=1)=g.neg:=by
  unfold sizeG;cases g.neg with
  | true=>rw [if_pos rfl];exact decide_eq_true (by omega)
  | false=>rw [if_neg (by simp)];exact decide_eq_false (by omega)
 obtain ⟨lv,ins,outs,moves,er,tot,neg,mag⟩:=g;simp only at *;rw [e1,show (lv.toNat:Int)=lv by omega,show (er.toNat:Int)=er by omega,show (tot.toNat:Int)=tot by omega]
theorem sizeG_half (g:Grp):sizeG g / 2=g.mag.length:=by unfold sizeG;split<;>omega
theorem numR_bound:∀(k unit acc:Nat) (s:Bytes) (n:Nat) (r:Bytes),acc<unit→numR k unit acc s=some (n,r)→n<unit*128 ^ k
 | 0,_,_,_,_,_,_,h=>by cases h
 | _+1,_,_,[],_,_,_,h=>by cases h
 | k+1,unit,acc,b :: r',n,r,ha,h=>by
  rw [numR] at h;have hb:b.toNat % 128*unit≤127*unit:=Nat.mul_le_mul_right _ (by omega);split at h
  ·cases h;have:unit*128≤unit*128 ^ (k+1):=Nat.mul_le_mul_left _ (by rw [Nat.pow_succ];have:=Nat.one_le_two_pow (n:=k);have h2:1≤128 ^ k:=Nat.one_le_pow _ _ (by decide);omega);omega
  ·have:=numR_bound k (unit*128) _ r' n r (by omega) h;rw [Nat.mul_assoc,←Nat.pow_succ'] at this;exact this
theorem readNum_bound {s:Bytes} {n:Nat} {r:Bytes} (h:readNum s=some (n,r)):n<9223372036854775808:=by
 have:=numR_bound 9 1 0 s n r (by decide) h;exact Nat.lt_of_lt_of_le this (by decide)
theorem numR_len:∀(k unit acc:Nat) (s:Bytes) (n:Nat) (r:Bytes),numR k unit acc s=some (n,r)→r.length<s.length
 | 0,_,_,_,_,_,h=>by cases h
 | _+1,_,_,[],_,_,h=>by cases h
 | k+1,unit,acc,b :: r',n,r,h=>by
  rw [numR] at h;split at h
  ·cases h;simp
  ·have:=numR_len k _ _ r' n r h;simp;omega
theorem readNum_len {s:Bytes} {n:Nat} {r:Bytes} (h:readNum s=some (n,r)):r.length<s.length:=numR_len _ _ _ _ _ _ h
theorem takeR_len {k:Nat} {s a r:Bytes} (h:takeR k s=some (a,r)):a.length=k∧r.length+k=s.length:=by
 unfold takeR at h;split at h
 ·cases h
 ·cases h;simp;omega
theorem partR_good {s r:Bytes} {p:Part} (h:partR s=some (p,r)):goodPart p∧r.length<s.length:=by
 unfold partR at h;cases h1:takeR 32 s with
 | none=>rw [h1] at h;cases h
 | some x=>
  obtain ⟨a,r1⟩:=x;rw [h1] at h;simp only at h;cases h2:takeR 32 r1 with
  | none=>rw [h2] at h;cases h
  | some y=>
   obtain ⟨b,r2⟩:=y;rw [h2] at h;cases h;have k1:=takeR_len h1;have k2:=takeR_len h2;exact ⟨⟨k1.1,k2.1⟩,by omega⟩
theorem listR_all {α:Type} {one:Bytes→Option (α × Bytes)} {good:α→Prop} (h:∀s x r,one s=some (x,r)→good x):∀(k:Nat) (s:Bytes) (l:List α) (r:Bytes),listR one k s=some (l,r)→(∀x,x∈l→good x)∧l.length=k
 | 0,s,l,r,e=>by cases e;exact ⟨fun x hx=>(by cases hx),rfl⟩
 | k+1,s,l,r,e=>by
  rw [listR] at e;cases h1:one s with
  | none=>rw [h1] at e;cases e
  | some x=>
   obtain ⟨x,r1⟩:=x;rw [h1] at e;simp only at e;cases h2:listR one k r1 with
   | none=>rw [h2] at e;cases e
   | some y=>
    obtain ⟨l',r2⟩:=y;rw [h2] at e;cases e;obtain ⟨k1,k2⟩:=listR_all h k r1 l' r h2;refine ⟨fun z hz=>?_,by simp [k2]⟩;rcases List.mem_cons.1 hz with rfl | hz
    ·exact h _ _ _ h1
    ·exact k1 z hz
theorem manyR_all {α:Type} {one:Bytes→Option (α × Bytes)} {good:α→Prop} (h:∀s x r,one s=some (x,r)→good x) {s:Bytes} {l:List α} {r:Bytes} (e:manyR one s=some (l,r)):(∀x,x∈l→good x)∧l.length≤65536:=by
 unfold manyR at e;cases h1:readNum s with
 | none=>rw [h1] at e;cases e
 | some x=>
  obtain ⟨n,r1⟩:=x;rw [h1] at e;simp only at e;split at e
  ·cases e
  ·obtain ⟨k1,k2⟩:=listR_all h _ _ _ _ e;exact ⟨k1,by omega⟩
theorem grpF_good {s:Bytes} {g:Grp} {size:Nat} (h:grpF s=some (g,size)):goodG g∧(g.level≤9223372036854775807∧g.err≤9223372036854775807∧g.total≤9223372036854775807)∧size<9223372036854775808:=by
 unfold grpF at h;cases h1:readNum s with
 | none=>rw [h1] at h;cases h
 | some x1=>
  obtain ⟨lv,s1⟩:=x1;rw [h1] at h;simp only at h;cases h2:manyR partR s1 with
  | none=>rw [h2] at h;cases h
  | some x2=>
   obtain ⟨ins,s2⟩:=x2;rw [h2] at h;simp only at h;cases h3:manyR (takeR 32) s2 with
   | none=>rw [h3] at h;cases h
   | some x3=>
    obtain ⟨outs,s3⟩:=x3;rw [h3] at h;simp only at h;cases h4:manyR moveR s3 with
    | none=>rw [h4] at h;cases h
    | some x4=>
     obtain ⟨moves,s4⟩:=x4;rw [h4] at h;simp only at h;cases h5:readNum s4 with
     | none=>rw [h5] at h;cases h
     | some x5=>
      obtain ⟨er,s5⟩:=x5;rw [h5] at h;simp only at h;cases h6:readNum s5 with
      | none=>rw [h6] at h;cases h
      | some x6=>
       obtain ⟨tot,s6⟩:=x6;rw [h6] at h;simp only at h;cases h7:readNum s6 with
       | none=>rw [h7] at h;cases h
       | some x7=>
        obtain ⟨sz,s7⟩:=x7;rw [h7] at h;simp only at h;cases h;have b1:=readNum_bound h1;have b5:=readNum_bound h5;have b6:=readNum_bound h6;have b7:=readNum_bound h7;refine ⟨⟨(manyR_all (fun s x r e=>(partR_good e).1) h2).1,(manyR_all (fun s x r e=>(takeR_len e).1) h3).1⟩,⟨?_,?_,?_⟩,b7⟩
        ·show (lv:Int)≤_;omega
        ·show (er:Int)≤_;omega
        ·show (tot:Int)≤_;omega
theorem grp_same (s:Bytes) (hs:s.length<4611686018427387904):grpR s=grpRR s:=by
 cases s with
 | nil=>rfl
 | cons b r=>
  unfold grpR grpRR;simp only;by_cases hb:b=2
  ·subst hb;rw [if_neg (by simp),if_neg (by simp)];cases h:grpF r with
   | none=>rfl
   | some x=>
    obtain ⟨g,size⟩:=x;simp only;obtain ⟨hg,hn,hsz⟩:=grpF_good h;have key:∀m:Bytes,m.length≤(2 :: r:Bytes).length→rightG (withMag g m)=true→groupB (withMag g m)=2 :: r→withMag g m=g∧sizeG g=size:=by
     intro m hm k1 k2;have:=grpF_back k1 (g:=withMag g m) hg hn (by show m.length<_;omega) r k2;rw [h] at this;simp only [Option.some.injEq,Prod.mk.injEq] at this;exact ⟨this.1.symm,by rw [this.2,←this.1]⟩
    have hl:∀m,groupB (withMag g m)=2 :: r→m.length≤(2 :: r:Bytes).length:=fun m e=>by
     rw [←e];unfold groupB;simp only [List.length_cons,List.length_append,withMag];omega
    by_cases hz:size / 2=g.mag.length
    ·rw [if_neg (by omega),if_neg (not_not_intro hz),hz,List.take_length];rfl
    ·rw [if_pos hz];by_cases hz2:g.mag.length<size / 2
     ·rw [if_pos hz2]
     ·rw [if_neg hz2];by_cases hk:rightG (withMag g (g.mag.take (size / 2)))=true∧groupB (withMag g (g.mag.take (size / 2)))=2 :: r
      ·obtain ⟨k1,k2⟩:=key _ (hl _ hk.2) hk.1 hk.2;have:=sizeG_half g;rw [k2] at this;exact absurd this hz
      ·rw [if_neg hk]
  ·rw [if_pos hb,if_pos hb]
theorem group_back {g:Grp} (h:rightG g=true) (hg:goodG g) (hn:g.level≤9223372036854775807∧g.err≤9223372036854775807∧g.total≤9223372036854775807) (hm:g.mag.length<4611686018427387904):grpR (groupB g)=some g:=by
 have hb:∃r,groupB g=2 :: r:=⟨_,rfl⟩;obtain ⟨r,hr⟩:=hb;have h1:=grpF_back h hg hn hm r hr;rw [hr];unfold grpR;simp only;rw [if_neg (by simp),h1];simp only;rw [sizeG_half,if_neg (by omega),List.take_length];have e:withMag g g.mag=g:=rfl;rw [e,if_pos ⟨h,hr⟩]
end Pk
end Go.Proofs.YtcikldoaidmnhaaGreatDoor
namespace Go.Proofs.YtcikldoaidmnhaaGreatDoor
open Go Go.RowKit
namespace Pk
open Pc
def inP (p:Pt):Prop:=0≤p.1∧p.1≤2097151∧0≤p.2.1∧p.2.1≤2097151∧0≤p.2.2∧p.2.2≤2097151
instance (p:Pt):Decidable (inP p):=by unfold inP;infer_instance
def inT (t:Tri):Prop:=inP t.1∧inP t.2.1∧inP t.2.2
theorem RotE.inT {s t:Tri} (h:RotE s t) (k:inT t):inT s:=by
 obtain ⟨h1,h2,h3⟩:=k;rcases h with rfl | rfl | rfl
 ·exact ⟨h1,h2,h3⟩
 ·exact ⟨h2,h3,h1⟩
 ·exact ⟨h3,h1,h2⟩
theorem coordT_in {t:Tri}:coordT t=true↔inT t:=by
 unfold coordT inT inP;simp only [List.all_cons,List.all_nil,Bool.and_true,Bool.and_eq_true,decide_eq_true_eq]
def inC (n:Int):Prop:=0≤n∧n≤2097151
instance (n:Int):Decidable (inC n):=by unfold inC;infer_instance
def coordM (d:D) (c near:Int):Option (Int × D):=if (d.number c).ok=true∧(d.number c).n<16777216∧inC (near+zag (d.number c).n) then some (near+zag (d.number c).n,(d.number c).d) else none
def placeM (d:D) (c:Int) (near:Pt):Option (Pt × D):=
 match coordM d c near.1 with
 | none=>none
 | some (x,d1)=>match coordM d1 (c+64) near.2.1 with
  | none=>none
  | some (y,d2)=>match coordM d2 (c+128) near.2.2 with
   | none=>none
   | some (z,d3)=>some ((x,y,z),d3)
def getK (known:List Pt) (n:Nat):Pt:=known.getD (known.length-1-n) (0,0,0)
def cornerM (strict:Bool) (d:D) (known:List Pt) (near:Pt) (bit number place:Int):Option (Pt × List Pt × D):=
 if d.one bit then
  if ((d.bit bit).number number).ok=true∧((d.bit bit).number number).n<known.length then some (getK known ((d.bit bit).number number).n,known,((d.bit bit).number number).d) else none
 else match placeM (d.bit bit) place near with
  | none=>none
  | some (p,d')=>if strict=true∧p∈known then none else some (p,meetK known p,d')
def freeT (strict:Bool) (tris:List Tri) (t:Tri):Prop:=(strict=true∨(edgesT t).Nodup)∧∀e,e∈edgesT t→e∉edgesL tris
instance (strict:Bool) (tris:List Tri) (t:Tri):Decidable (freeT strict tris t):=by unfold freeT;infer_instance
def visitM (strict:Bool) (w:Wk) (t:Tri) (first:Nat) (d:D):Option (D × Wk):=if freeT strict w.tris t then some (d,w.visit t first) else none
def stepM (strict:Bool) (d:D) (w:Wk):Option (D × Wk):=
 match openG w.tris w.gates with
 | g :: r=>if d.one 1 then match cornerM strict (d.bit 1) w.known (expG g) 2 128 448 with
   | none=>none
   | some (p,k,d')=>visitM strict ⟨k,w.tris,r⟩ (g.1,g.2.1,p) 1 d'
  else some (d.bit 1,⟨w.known,w.tris,r⟩)
 | []=>match cornerM strict d w.known (lastK w.known) 0 192 256 with
  | none=>none
  | some (p,k1,d1)=>match cornerM strict d1 k1 (lastK k1) 0 192 256 with
   | none=>none
   | some (q,k2,d2)=>match cornerM strict d2 k2 (lastK k2) 0 192 256 with
    | none=>none
    | some (r,k3,d3)=>visitM strict ⟨k3,w.tris,[]⟩ (p,q,r) 0 d3
def runM (strict:Bool) (many:Nat):Nat→D→Wk→Option (List Tri)
 | 0,_,w=>if many≤w.tris.length then some w.tris else none
 | f+1,d,w=>if many≤w.tris.length then some w.tris else match stepM strict d w with
  | none=>none
  | some (d',w')=>runM strict many f d' w'
def openM (strict:Bool):List Nat→Option (List Tri)
 | 1 :: code=>if ((D.ofCode code).number 64).ok=true∧((D.ofCode code).number 64).n<129 then runM strict ((D.ofCode code).number 64).n (4*((D.ofCode code).number 64).n) ((D.ofCode code).number 64).d Wk.init else none
 | _=>none
structure Fine (c:List Tri):Prop where
 nod:(edgesL c).Nodup
 ins:∀t,t∈c→inT t
 len:c.length≤128
theorem perm_of_sub {α:Type} [DecidableEq α]:∀{l m:List α},l.Nodup→(∀x,x∈l→x∈m)→m.length≤l.length→l.Perm m
 | [],m,_,_,h=>by
  have:m=[]:=List.eq_nil_of_length_eq_zero (by simpa using h);subst this;exact List.Perm.refl _
 | a :: l,m,hn,hs,h=>by
  obtain ⟨n1,n2⟩:=List.nodup_cons.1 hn;have ha:a∈m:=hs a (by simp);have hp:m.Perm (a :: m.erase a):=List.perm_cons_erase ha;have hl:=hp.length_eq;simp only [List.length_cons] at hl h;refine List.Perm.trans (List.Perm.cons a (perm_of_sub n2 (fun x hx=>?_) (by omega))) hp.symm;have hne:x≠a:=fun e=>n1 (e ▸ hx);exact (List.mem_erase_of_ne hne).2 (hs x (by simp [hx]))
theorem len_of_sub {α:Type} [DecidableEq α]:∀{l m:List α},l.Nodup→(∀x,x∈l→x∈m)→l.length≤m.length
 | [],m,_,_=>Nat.zero_le _
 | a :: l,m,hn,hs=>by
  obtain ⟨n1,n2⟩:=List.nodup_cons.1 hn;have ha:a∈m:=hs a (by simp);have hl:=(List.perm_cons_erase ha).length_eq;simp only [List.length_cons] at hl ⊢;have:=len_of_sub (m:=m.erase a) n2 (fun x hx=>(List.mem_erase_of_ne (fun e:x=a=>n1 (e ▸ hx))).2 (hs x (by simp [hx])));omega
theorem edgesL_length (l:List Tri):(edgesL l).length=3*l.length:=by
 induction l with
 | nil=>rfl
 | cons t l ih=>rw [edgesL_cons,List.length_append,ih,List.length_cons,show (edgesT t).length=3 from rfl];omega
theorem edgesL_app (l:List Tri) (t:Tri):edgesL (l++[t])=edgesL l++edgesT t:=by unfold edgesL;rw [List.flatMap_append];simp
structure Inv (c:List Tri) (w:Wk):Prop where
 sub:∀t,t∈w.tris→∃t',t'∈c∧RotE t t'
 nod:(edgesL w.tris).Nodup
 known:∀p,p∈w.known→inP p
 gates:∀g,g∈w.gates→inP g.1∧inP g.2.1∧inP g.2.2
theorem Inv.init (c:List Tri):Inv c Wk.init:=⟨fun t h=>(by cases h),List.nodup_nil,fun p h=>(by cases h),fun g h=>(by cases h)⟩
theorem Inv.used_all {c:List Tri} {w:Wk} (h:Inv c w) (hc:(edgesL c).Nodup) {t:Tri} (ht:t∈c) {e:Pt × Pt} (h1:e∈edgesT t) (h2:e∈edgesL w.tris):∀e',e'∈edgesT t→e'∈edgesL w.tris:=by
 obtain ⟨s,k1,k2⟩:=mem_edgesL.1 h2;obtain ⟨t',k3,k4⟩:=h.sub s k1;have:=edge_once hc k3 ht (k4.edges.mem_iff.1 k2) h1;subst this;exact fun e' he'=>mem_edgesL.2 ⟨s,k1,k4.edges.mem_iff.2 he'⟩
theorem Inv.free {c:List Tri} {w:Wk} (h:Inv c w) (hc:(edgesL c).Nodup) {s t:Tri} (ht:t∈c) (hr:RotE s t) {e:Pt × Pt} (h1:e∈edgesT s) (h2:e∉edgesL w.tris) (strict:Bool):freeT strict w.tris s∧(edgesT s).Nodup:=
 have hn:=(hr.edges.nodup_iff).2 (edgesT_nodup hc ht)
 ⟨⟨.inr hn,fun _ he' hu=>h2 (h.used_all hc ht (hr.edges.mem_iff.1 he') hu e (hr.edges.mem_iff.1 h1))⟩,hn⟩
theorem gatesT_in {t:Tri} (h:inT t) {g:Gate} (hg:g∈gatesT t):inP g.1∧inP g.2.1∧inP g.2.2:=by
 obtain ⟨h1,h2,h3⟩:=h;simp only [gatesT,List.mem_cons,List.not_mem_nil,or_false] at hg;rcases hg with rfl | rfl | rfl
 ·exact ⟨h2,h1,h3⟩
 ·exact ⟨h3,h2,h1⟩
 ·exact ⟨h1,h3,h2⟩
theorem Inv.visit {c:List Tri} {w:Wk} (h:Inv c w) {s t:Tri} (ht:t∈c) (hr:RotE s t) (hf:freeT false w.tris s) (hi:inT s) (known:List Pt) (hk:∀p,p∈known→inP p) (gates:List Gate) (hg:∀g,g∈gates→inP g.1∧inP g.2.1∧inP g.2.2) (first:Nat) :
  Inv c ((⟨known,w.tris,gates⟩:Wk).visit s first):=by
 refine ⟨fun u hu=>?_,?_,hk,fun g hg'=>?_⟩
 ·rcases List.mem_append.1 hu with hu | hu
  ·exact h.sub u hu
  ·rw [List.mem_singleton] at hu;subst hu;exact ⟨t,ht,hr⟩
 ·show (edgesL (w.tris++[s])).Nodup;rw [edgesL_app,List.nodup_append];refine ⟨h.nod,?_,fun a ha b hb hab=>hf.2 b hb (hab ▸ ha)⟩;rcases hf.1 with k | k
  ·cases k
  ·exact k
 ·rcases List.mem_append.1 hg' with hg' | hg'
  ·exact hg g hg'
  ·exact gatesT_in hi (List.mem_of_mem_drop hg')
theorem meetK_in {known:List Pt} (h:∀p,p∈known→inP p) {q:Pt} (hq:inP q):∀p,p∈meetK known q→inP p:=by
 intro p hp;unfold meetK at hp;split at hp
 ·exact h p hp
 ·rcases List.mem_append.1 hp with hp | hp
  ·exact h p hp
  ·rw [List.mem_singleton] at hp;subst hp;exact hq
theorem lastK_in {known:List Pt} (h:∀p,p∈known→inP p):inP (lastK known):=by
 unfold lastK;cases hl:known.getLast? with
 | none=>simp [inP]
 | some p=>exact h p (List.mem_of_getLast? hl)
theorem openG_mem {tris:List Tri}:∀{gates:List Gate} {g:Gate},g∈openG tris gates→g∈gates
 | [],_,h=>h
 | a :: l,g,h=>by
  rw [openG] at h;split at h
  ·exact List.mem_cons_of_mem _ (openG_mem h)
  ·exact h
theorem openG_head {tris:List Tri}:∀{gates:List Gate} {g:Gate} {r:List Gate},openG tris gates=g :: r→third tris g.1 g.2.1=none
 | [],_,_,h=>by cases h
 | a :: l,g,r,h=>by
  rw [openG] at h;split at h
  ·exact openG_head h
  ·rename_i hn;cases h;simpa using hn
theorem Inv.seed {c:List Tri} {w:Wk} (h:Inv c w) (hc:(edgesL c).Nodup) (hl:w.tris.length<c.length):∃t,seedT c w.tris=some t∧t∈c∧(t.1,t.2.1)∉edgesL w.tris:=by
 cases hs:seedT c w.tris with
 | some t=>
  refine ⟨t,rfl,List.mem_of_find?_eq_some hs,?_⟩;have h1:=List.find?_some hs;have h2:=third_isSome w.tris t.1 t.2.1;intro hm;rw [decide_eq_true hm] at h2;rw [Option.isNone_iff_eq_none] at h1;rw [h1] at h2;cases h2
 | none=>
  exfalso;have h1:∀t,t∈c→(t.1,t.2.1)∈edgesL w.tris:=fun t ht=>by
   have h2:=List.find?_eq_none.1 hs t ht;have h3:=third_isSome w.tris t.1 t.2.1;cases h4:third w.tris t.1 t.2.1 with
   | none=>rw [h4] at h2;exact absurd rfl h2
   | some r=>rw [h4] at h3;exact of_decide_eq_true h3.symm
  have h2:∀e,e∈edgesL c→e∈edgesL w.tris:=fun e he=>by
   obtain ⟨t,k1,k2⟩:=mem_edgesL.1 he;exact h.used_all hc k1 (e:=(t.1,t.2.1)) (by simp [edgesT]) (h1 t k1) e k2
  have h3:=len_of_sub hc h2;rw [edgesL_length,edgesL_length] at h3;omega
theorem zig_small {x near:Int} (h0:0≤x) (h1:x≤2097151) (h2:-2097151≤near) (h3:near≤4194302):zig (x-near)<16777216:=by unfold zig;split<;>omega
theorem coord_good {d:D} {c x near:Int} {r:Bits} (h0:0≤x) (h1:x≤2097151) (h2:-2097151≤near) (h3:near≤4194302) (h:Pc.Good d (numBits c (zig (x-near))++r)):∃d',coordM d c near=some (x,d')∧Pc.Good d' r:=by
 have hz:=zig_small h0 h1 h2 h3;obtain ⟨k1,k2,k3⟩:=number_good (by omega) h;have e:near+zag (zig (x-near))=x:=by rw [zag_zig];omega
 refine ⟨(d.number c).d,?_,k3⟩;unfold coordM;rw [k1,k2,e,if_pos ⟨rfl,hz,h0,h1⟩]
def nearP (p:Pt):Prop:=(-2097151≤p.1∧p.1≤4194302)∧(-2097151≤p.2.1∧p.2.1≤4194302)∧(-2097151≤p.2.2∧p.2.2≤4194302)
theorem near_of_in {p:Pt} (h:inP p):nearP p:=by unfold inP at h;unfold nearP;omega
theorem near_exp {g:Gate} (h:inP g.1∧inP g.2.1∧inP g.2.2):nearP (expG g):=by
 obtain ⟨h1,h2,h3⟩:=h;unfold inP at h1 h2 h3;unfold nearP expG;simp only;omega
theorem place_good {d:D} {c:Int} {p near:Pt} {r:Bits} (hp:inP p) (hn:nearP near) (h:Pc.Good d (placeB c p near++r)):∃d',placeM d c near=some (p,d')∧Pc.Good d' r:=by
 obtain ⟨p1,p2,p3,p4,p5,p6⟩:=hp;obtain ⟨n1,n2,n3⟩:=hn;unfold placeB at h;rw [List.append_assoc,List.append_assoc] at h;obtain ⟨d1,e1,g1⟩:=coord_good p1 p2 n1.1 n1.2 h;obtain ⟨d2,e2,g2⟩:=coord_good p3 p4 n2.1 n2.2 g1;obtain ⟨d3,e3,g3⟩:=coord_good p5 p6 n3.1 n3.2 g2;refine ⟨d3,?_,g3⟩;unfold placeM;rw [e1];simp only;rw [e2];simp only;rw [e3]
theorem corner_good (strict:Bool) {d:D} {known:List Pt} {p near:Pt} {bit number place:Int} {r:Bits} (hp:inP p) (hn:nearP near) (hk:known.length<1000000) (h:Pc.Good d (cornerB known p near bit number place++r)) :
  ∃d',cornerM strict d known near bit number place=some (p,meetK known p,d')∧Pc.Good d' r:=by
 unfold cornerB at h;by_cases hm:p∈known
 ·rw [if_pos hm] at h;obtain ⟨h1,h2⟩:=Pc.Good.head h;simp only at h1 h2;have hlt:=List.idxOf_lt_length_iff.2 hm;obtain ⟨k1,k2,k3⟩:=number_good (by omega) h2;refine ⟨((d.bit bit).number number).d,?_,k3⟩;unfold cornerM;rw [h1,if_pos rfl,k1,k2,if_pos ⟨rfl,by omega⟩];have e:getK known (known.length-1-known.idxOf p)=p:=by
   unfold getK;rw [show known.length-1-(known.length-1-known.idxOf p)=known.idxOf p by omega,List.getD_eq_getElem?_getD,List.getElem?_eq_getElem hlt,List.getElem_idxOf hlt];rfl
  rw [e];unfold meetK;rw [if_pos hm]
 ·rw [if_neg hm] at h;obtain ⟨h1,h2⟩:=Pc.Good.head h;simp only at h1 h2;obtain ⟨d',e,g⟩:=place_good hp hn h2;refine ⟨d',?_,g⟩;unfold cornerM;rw [h1,if_neg (by simp),e];simp only;rw [if_neg (fun k=>hm k.2)]
theorem meetK_len (known:List Pt) (p:Pt):(meetK known p).length≤known.length+1:=by unfold meetK;split<;>simp
theorem step_lock (strict:Bool) {c:List Tri} {w:Wk} (hc:Fine c) (h:Inv c w) (hl:w.tris.length<c.length) (hk:w.known.length<900000) :
  ∃b w',stepW c w=some (b,w')∧Inv c w'∧w'.known.length≤w.known.length+3∧∀d r,Pc.Good d (b++r)→∃d',stepM strict d w=some (d',w')∧Pc.Good d' r:=by
 unfold stepW stepM;cases hg:openG w.tris w.gates with
 | cons g r=>
  simp only;have hgm:∀x,x∈g :: r→x∈w.gates:=fun x hx=>openG_mem (hg ▸ hx);have hgi:=h.gates g (hgm g (by simp));have hri:∀x,x∈r→inP x.1∧inP x.2.1∧inP x.2.2:=fun x hx=>h.gates x (hgm x (by simp [hx]));cases ht:third c g.1 g.2.1 with
  | none=>
   simp only;refine ⟨_,_,rfl,⟨h.sub,h.nod,h.known,hri⟩,by simp,fun d s hd=>?_⟩;obtain ⟨h1,h2⟩:=Pc.Good.head hd;simp only at h1 h2;exact ⟨_,by rw [h1];rfl,h2⟩
  | some p=>
   simp only;obtain ⟨t,k1,k2⟩:=third_some ht;have hp:inP p:=(k2.inT (hc.ins t k1)).2.2;have hnone:=openG_head hg;have hu:(g.1,g.2.1)∉edgesL w.tris:=fun hm=>by
    have:=third_isSome w.tris g.1 g.2.1;rw [hnone,decide_eq_true hm] at this;cases this
   obtain ⟨hf,hn⟩:=h.free hc.nod k1 k2 (e:=(g.1,g.2.1)) (by simp [edgesT]) hu strict;obtain ⟨hf0,_⟩:=h.free hc.nod k1 k2 (e:=(g.1,g.2.1)) (by simp [edgesT]) hu false;refine ⟨_,_,rfl,h.visit k1 k2 hf0 (k2.inT (hc.ins t k1)) _ (meetK_in h.known hp) _ hri 1,?_,fun d s hd=>?_⟩
   ·have:=meetK_len w.known p;show (meetK w.known p).length≤_;omega
   ·obtain ⟨h1,h2⟩:=Pc.Good.head hd;simp only at h1 h2;obtain ⟨d',e,gd⟩:=corner_good strict (known:=w.known) (near:=expG g) hp (near_exp hgi) (by omega) h2;refine ⟨d',?_,gd⟩;rw [h1,if_pos rfl,e];simp only;unfold visitM;rw [if_pos hf]
 | nil=>
  simp only;obtain ⟨t,e,k1,k2⟩:=h.seed hc.nod hl;rw [e];simp only;obtain ⟨hf,hn⟩:=h.free hc.nod k1 (RotE.refl t) (e:=(t.1,t.2.1)) (by simp [edgesT]) k2 strict;obtain ⟨hf0,_⟩:=h.free hc.nod k1 (RotE.refl t) (e:=(t.1,t.2.1)) (by simp [edgesT]) k2 false;obtain ⟨i1,i2,i3⟩:=hc.ins t k1;have m1:=meetK_in h.known i1;have m2:=meetK_in m1 i2;have m3:=meetK_in m2 i3;have l1:=meetK_len w.known t.1;have l2:=meetK_len (meetK w.known t.1) t.2.1;have l3:=meetK_len (meetK (meetK w.known t.1) t.2.1) t.2.2;refine ⟨_,_,rfl,h.visit k1 (RotE.refl t) hf0 ⟨i1,i2,i3⟩ _ m3 _ (fun g hg=>by cases hg) 0,?_,fun d s hd=>?_⟩
  ·show (meetK (meetK (meetK w.known t.1) t.2.1) t.2.2).length≤_;omega
  ·rw [List.append_assoc,List.append_assoc] at hd;obtain ⟨d1,e1,g1⟩:=corner_good strict i1 (near_of_in (lastK_in h.known)) (by omega) hd;obtain ⟨d2,e2,g2⟩:=corner_good strict i2 (near_of_in (lastK_in m1)) (by omega) g1;obtain ⟨d3,e3,g3⟩:=corner_good strict i3 (near_of_in (lastK_in m2)) (by omega) g2;refine ⟨d3,?_,g3⟩;rw [e1];simp only;rw [e2];simp only;rw [e3];simp only;unfold visitM;rw [if_pos hf]
theorem run_lock (strict:Bool) {c:List Tri} (hc:Fine c):∀(f:Nat) (w:Wk) (d:D),Inv c w→w.left c≤f→w.known.length+3*f<900000→Pc.Good d (walkB c f w) →
  ∃T,runM strict c.length f d w=some T∧c.length≤T.length∧(∀t,t∈T→∃t',t'∈c∧RotE t t')∧(edgesL T).Nodup
 | 0,w,d,h,hf,_,_=>by
  have hl:c.length≤w.tris.length:=by unfold Wk.left at hf;omega
  exact ⟨w.tris,by rw [runM,if_pos hl],hl,h.sub,h.nod⟩
 | f+1,w,d,h,hf,hk,hd=>by
  rw [walkB] at hd;rw [runM];by_cases hl:c.length≤w.tris.length
  ·rw [if_pos hl];exact ⟨w.tris,rfl,hl,h.sub,h.nod⟩
  ·rw [if_neg hl] at hd ⊢;obtain ⟨b,w',e1,e2,e3,e4⟩:=step_lock strict hc h (by omega) (by omega);rw [e1] at hd;simp only at hd;obtain ⟨d',k1,k2⟩:=e4 d _ hd;rw [k1];simp only;have hlt:=step_left (by omega) e1;exact run_lock strict hc f w' d' e2 (by omega) (by omega) k2
theorem open_pack (strict:Bool) {c:List Tri} (hc:Fine c):∃T,openM strict (packC c)=some T∧Alike T c:=by
 unfold packC openM;have hg:=Pc.Good.start (bitsC c);unfold bitsC at hg;obtain ⟨k1,k2,k3⟩:=number_good (by have:=hc.len;omega) hg;have h0:Wk.init.left c=4*c.length:=by unfold Wk.left Wk.init;simp
 rw [h0] at k3;obtain ⟨T,r1,r2,r3,r4⟩:=run_lock strict hc (4*c.length) Wk.init _ (Inv.init c) (by rw [h0];exact Nat.le_refl _) (by have:=hc.len;show 0+_<_;omega) k3;refine ⟨T,?_,?_⟩
 ·unfold bitsC;simp only;rw [k1,k2,if_pos ⟨rfl,by have:=hc.len;omega⟩];exact r1
 ·unfold Alike;have hn1:(T.map nrm).Nodup:=by
   have:∀l:List Tri,(edgesL l).Nodup→(l.map nrm).Nodup:=fun l=>by
    induction l with
    | nil=>intro _;exact List.nodup_nil
    | cons a l ih=>
     intro hn;rw [edgesL_cons,List.nodup_append] at hn;rw [List.map_cons,List.nodup_cons];refine ⟨fun hm=>?_,ih hn.2.1⟩;obtain ⟨s,s1,s2⟩:=List.mem_map.1 hm;have hr:RotE a s:=(nrm_rot a).symm.trans (by rw [←s2];exact nrm_rot s);exact hn.2.2 (a.1,a.2.1) (by simp [edgesT]) (a.1,a.2.1) (mem_edgesL.2 ⟨s,s1,hr.edges.mem_iff.1 (by simp [edgesT])⟩) rfl
   exact this T r4
  refine perm_of_sub hn1 (fun x hx=>?_) (by rw [List.length_map,List.length_map];exact r2);obtain ⟨t,h1,rfl⟩:=List.mem_map.1 hx;obtain ⟨t',h2,h3⟩:=r3 t h1;exact List.mem_map.2 ⟨t',h2,(nrm_eq h3).symm⟩
theorem fine_of_packable {l:List Tri} (h:packable l=true):Fine l∧(∀t,t∈l→flatT t=false):=by
 unfold packable at h;simp only [Bool.and_eq_true,decide_eq_true_eq] at h;obtain ⟨⟨h1,h2⟩,h3⟩:=h;obtain ⟨k1,k2,_⟩:=checkO_zero.1 h3;exact ⟨⟨k2,fun t ht=>coordT_in.1 (List.all_eq_true.1 h1 t ht),h2⟩,k1⟩
theorem packable_canon {l:List Tri}:packable (canon l)=packable l:=(canon_alike l).packable
noncomputable def openN (s:List Nat):Option (List Tri):=match openM false s with
 | none=>none
 | some T=>if clusterN (canon T)=s then some (canon T) else none
theorem open_cluster (strict:Bool) {l:List Tri} (h:packable l=true):∃T,openM strict (clusterN l)=some T∧canon T=canon l∧clusterN T=clusterN l:=by
 have hc:packable (canon l)=true:=by rw [packable_canon];exact h
 obtain ⟨hf,hfl⟩:=fine_of_packable hc;obtain ⟨T,e,ha⟩:=open_pack strict hf;refine ⟨T,by unfold clusterN;rw [if_pos h];exact e,?_,(ha.trans (canon_alike l)).cluster⟩;have:=ha.symm.canon hfl;rw [←this,canon_idem]
end Pk
end Go.Proofs.YtcikldoaidmnhaaGreatDoor
namespace Go.Proofs.YtcikldoaidmnhaaGreatDoor
open Go Go.RowKit
namespace Pk
def StepB {α:Type} (f:Bytes→Option (α × Bytes)) (s:Bytes) (b:Bool) (x:α) (s':Bytes) (b':Bool):Prop:=(b'=true∧(b=true∨f s=none))∨(b'=false∧b=false∧f s=some (x,s'))
theorem StepB.none {α:Type} {f:Bytes→Option (α × Bytes)} {s:Bytes} {b:Bool} {x:α} {s':Bytes} (h:b=true∨f s=.none):StepB f s b x s' true:=.inl ⟨rfl,h⟩
theorem StepB.some {α:Type} {f:Bytes→Option (α × Bytes)} {s:Bytes} {x:α} {s':Bytes} (h:f s=.some (x,s')):StepB f s false x s' false:=.inr ⟨rfl,rfl,h⟩
def countR (s:Bytes):Option (Nat × Bytes):=match readNum s with
 | none=>none
 | some (n,r)=>if 65536<n then none else some (n,r)
theorem manyR_count {α:Type} (one:Bytes→Option (α × Bytes)) (s:Bytes):manyR one s=match countR s with
 | none=>none
 | some (n,r)=>listR one n r:=by
 unfold manyR countR;cases readNum s with
 | none=>rfl
 | some x=>
  obtain ⟨n,r⟩:=x;simp only;split<;>rfl
theorem listR_snoc {α:Type} (one:Bytes→Option (α × Bytes)):∀(k:Nat) (s:Bytes),listR one (k+1) s=(match listR one k s with
 | none=>none
 | some (l,r)=>(match one r with
  | none=>none
  | some (x,r2)=>some (l++[x],r2)))
 | 0,s=>by
  rw [listR];simp only [listR];cases one s with
  | none=>rfl
  | some x=>rfl
 | k+1,s=>by
  rw [listR];cases h:one s with
  | none=>simp only [listR,h]
  | some x=>
   obtain ⟨x,r⟩:=x;simp only;rw [listR_snoc one k r];rw [listR,h];simp only;cases h2:listR one k r with
   | none=>rfl
   | some y=>
    obtain ⟨l,r2⟩:=y;simp only;cases one r2 with
    | none=>rfl
    | some z=>rfl
theorem listR_none {α:Type} (one:Bytes→Option (α × Bytes)):∀{k n:Nat} {s:Bytes},k≤n→listR one k s=none→listR one n s=none
 | k,n,s,hk,h=>by
  induction n with
  | zero=>
   obtain rfl:k=0:=by omega
   exact h
  | succ n ih=>
   by_cases e:k=n+1
   ·rw [←e];exact h
   ·rw [listR_snoc,ih (by omega)]
def LoopB {α:Type} (one:Bytes→Option (α × Bytes)) (n:Nat) (s:Bytes) (k:Nat) (l:List α) (s':Bytes) (b':Bool):Prop:=(b'=true∧listR one n s=none)∨(b'=false∧k≤n∧listR one k s=some (l,s'))
theorem LoopB.start {α:Type} (one:Bytes→Option (α × Bytes)) (n:Nat) (s:Bytes):LoopB one n s 0 [] s false:=.inr ⟨rfl,Nat.zero_le _,rfl⟩
theorem LoopB.step {α:Type} {one:Bytes→Option (α × Bytes)} {n:Nat} {s:Bytes} {k:Nat} {l:List α} {s1 s2:Bytes} {x:α} {b2:Bool} (hk:k<n) (h:LoopB one n s k l s1 false) (h2:StepB one s1 false x s2 b2):LoopB one n s (k+1) (l++[x]) s2 b2:=by
 rcases h with ⟨h,_⟩ | ⟨_,_,h⟩
 ·cases h
 ·rcases h2 with ⟨rfl,h2 | h2⟩ | ⟨rfl,_,h2⟩
  ·cases h2
  ·refine .inl ⟨rfl,listR_none one (k:=k+1) hk ?_⟩;rw [listR_snoc,h];simp only [h2]
  ·refine .inr ⟨rfl,hk,?_⟩;rw [listR_snoc,h];simp only [h2]
theorem LoopB.done {α:Type} {one:Bytes→Option (α × Bytes)} {n:Nat} {s0 s:Bytes} {k:Nat} {l:List α} {s1:Bytes} {b1:Bool} (h:LoopB one n s k l s1 b1) (hk:b1=false→n≤k) (hc:countR s0=some (n,s)):StepB (manyR one) s0 false l s1 b1:=by
 rcases h with ⟨rfl,h⟩ | ⟨rfl,h1,h⟩
 ·refine .none (.inr ?_);rw [manyR_count,hc];exact h
 ·obtain rfl:k=n:=by have:=hk rfl;omega
  refine .some ?_;rw [manyR_count,hc];exact h
theorem grpF_steps {s0 s1 s2 s3 s4 s5 s6 s7:Bytes} {b1 b2 b3 b4 b5 b6 b7:Bool} {lv er tot size:Nat} {ins:List Part} {outs:List Bytes} {moves:List Mv}
  (h1:StepB readNum s0 false lv s1 b1) (h2:StepB (manyR partR) s1 b1 ins s2 b2) (h3:StepB (manyR (takeR 32)) s2 b2 outs s3 b3) (h4:StepB (manyR moveR) s3 b3 moves s4 b4)
  (h5:StepB readNum s4 b4 er s5 b5) (h6:StepB readNum s5 b5 tot s6 b6) (h7:StepB readNum s6 b6 size s7 b7) :
  (b7=true∧grpF s0=none)∨(b7=false∧grpF s0=some (⟨lv,ins,outs,moves,er,tot,decide (size % 2=1),s7⟩,size)):=by
 unfold grpF;rcases h1 with ⟨rfl,h1 | h1⟩ | ⟨rfl,_,h1⟩
 ·cases h1
 ·have:b2=true:=by rcases h2 with ⟨h,_⟩ | ⟨_,h,_⟩<;>first | exact h | cases h
  subst this;have:b3=true:=by rcases h3 with ⟨h,_⟩ | ⟨_,h,_⟩<;>first | exact h | cases h
  subst this;have:b4=true:=by rcases h4 with ⟨h,_⟩ | ⟨_,h,_⟩<;>first | exact h | cases h
  subst this;have:b5=true:=by rcases h5 with ⟨h,_⟩ | ⟨_,h,_⟩<;>first | exact h | cases h
  subst this;have:b6=true:=by rcases h6 with ⟨h,_⟩ | ⟨_,h,_⟩<;>first | exact h | cases h
  subst this;have:b7=true:=by rcases h7 with ⟨h,_⟩ | ⟨_,h,_⟩<;>first | exact h | cases h
  subst this;exact .inl ⟨rfl,by rw [h1]⟩
 rw [h1];simp only;rcases h2 with ⟨rfl,h2 | h2⟩ | ⟨rfl,_,h2⟩
 ·cases h2
 ·have:b3=true:=by rcases h3 with ⟨h,_⟩ | ⟨_,h,_⟩<;>first | exact h | cases h
  subst this;have:b4=true:=by rcases h4 with ⟨h,_⟩ | ⟨_,h,_⟩<;>first | exact h | cases h
  subst this;have:b5=true:=by rcases h5 with ⟨h,_⟩ | ⟨_,h,_⟩<;>first | exact h | cases h
  subst this;have:b6=true:=by rcases h6 with ⟨h,_⟩ | ⟨_,h,_⟩<;>first | exact h | cases h
  subst this;have:b7=true:=by rcases h7 with ⟨h,_⟩ | ⟨_,h,_⟩<;>first | exact h | cases h
  subst this;exact .inl ⟨rfl,by rw [h2]⟩
 rw [h2];simp only;rcases h3 with ⟨rfl,h3 | h3⟩ | ⟨rfl,_,h3⟩
 ·cases h3
 ·have:b4=true:=by rcases h4 with ⟨h,_⟩ | ⟨_,h,_⟩<;>first | exact h | cases h
  subst this;have:b5=true:=by rcases h5 with ⟨h,_⟩ | ⟨_,h,_⟩<;>first | exact h | cases h
  subst this;have:b6=true:=by rcases h6 with ⟨h,_⟩ | ⟨_,h,_⟩<;>first | exact h | cases h
  subst this;have:b7=true:=by rcases h7 with ⟨h,_⟩ | ⟨_,h,_⟩<;>first | exact h | cases h
  subst this;exact .inl ⟨rfl,by rw [h3]⟩
 rw [h3];simp only;rcases h4 with ⟨rfl,h4 | h4⟩ | ⟨rfl,_,h4⟩
 ·cases h4
 ·have:b5=true:=by rcases h5 with ⟨h,_⟩ | ⟨_,h,_⟩<;>first | exact h | cases h
  subst this;have:b6=true:=by rcases h6 with ⟨h,_⟩ | ⟨_,h,_⟩<;>first | exact h | cases h
  subst this;have:b7=true:=by rcases h7 with ⟨h,_⟩ | ⟨_,h,_⟩<;>first | exact h | cases h
  subst this;exact .inl ⟨rfl,by rw [h4]⟩
 rw [h4];simp only;rcases h5 with ⟨rfl,h5 | h5⟩ | ⟨rfl,_,h5⟩
 ·cases h5
 ·have:b6=true:=by rcases h6 with ⟨h,_⟩ | ⟨_,h,_⟩<;>first | exact h | cases h
  subst this;have:b7=true:=by rcases h7 with ⟨h,_⟩ | ⟨_,h,_⟩<;>first | exact h | cases h
  subst this;exact .inl ⟨rfl,by rw [h5]⟩
 rw [h5];simp only;rcases h6 with ⟨rfl,h6 | h6⟩ | ⟨rfl,_,h6⟩
 ·cases h6
 ·have:b7=true:=by rcases h7 with ⟨h,_⟩ | ⟨_,h,_⟩<;>first | exact h | cases h
  subst this;exact .inl ⟨rfl,by rw [h6]⟩
 rw [h6];simp only;rcases h7 with ⟨rfl,h7 | h7⟩ | ⟨rfl,_,h7⟩
 ·cases h7
 ·exact .inl ⟨rfl,by rw [h7]⟩
 ·exact .inr ⟨rfl,by rw [h7]⟩
end Pk
end Go.Proofs.YtcikldoaidmnhaaGreatDoor
