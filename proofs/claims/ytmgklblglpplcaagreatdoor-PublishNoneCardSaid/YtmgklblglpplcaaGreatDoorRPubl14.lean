/- Parts: A range over a function whose loop body may panic: a law of the walk, over the kit's own two steps. No condition. Lists of triangles that differ by order and by which corner comes first: what is wrong with them, and their packets, are the same. No condition. Opening a cluster as a plain function: what was packed is opened again, whatever reader goes along. No condition. Rows of bytes in the call's -/
import Derived.Test.YtmgklblglpplcaaGreatDoorRPubl1
import Derived.Test.YtmgklblglpplcaaGreatDoorRPubl2
import Derived.Test.YtmgklblglpplcaaGreatDoorRPubl3
import Derived.Test.YtmgklblglpplcaaGreatDoorRPubl4
import Derived.Test.YtmgklblglpplcaaGreatDoorRPubl5
import Derived.Test.YtmgklblglpplcaaGreatDoorRPubl8
import Derived.Test.YtmgklblglpplcaaGreatDoorRPubl9
import Derived.Test.YtmgklblglpplcaaGreatDoorRPubl10
import Derived.Test.YtmgklblglpplcaaGreatDoorRPubl11
import Derived.WalkKit
import Derived.WalkSpells
import Derived.WalkLawsBesides
import Derived.Lib.Hide
import Derived.BigQuiet
import Derived.Deep.DeepFit
import Derived.Deep.DeepCutAuto
import Derived.Deep.AppendLies
import Derived.Deep.QuietTactic
import Derived.Test.YtmgklblglpplcaaGreatDoorRows
import Derived.Deep.RegionHeld3
import Derived.StillTail
import Derived.Lib.Bits
import Derived.Test.YtmgklblglpplcaaGreatDoorShelf
import Derived.Laws.BitsAllLaws
import Derived.RangeFuncNested
import Derived.RangeFuncBound
import Derived.RangeFuncCalls
import Derived.RangeFuncLeaves
import Derived.RangeFuncFrom
namespace Go.Proofs.YtmgklblglpplcaaGreatDoor
open Go Go.RowKit Pk
set_option maxRecDepth 100000
theorem data_extract (s:ByteArray) (a b:Nat):(s.extract a b).data.toList=(s.data.toList.drop a).take (b-a):=by
 simp [List.extract_eq_take_drop]
def bs (l:Bytes):ByteArray:=⟨l.toArray⟩
theorem bs_data (l:Bytes):(bs l).data.toList=l:=by simp [bs]
theorem bs_size (l:Bytes):(bs l).size=l.length:=by simp [bs,ByteArray.size]
theorem bs_get (s:Bytes) (i:Nat) (h:i<s.length):(bs s)[i]'(by rw [bs_size];exact h)=s[i]:=by
 unfold bs;show s.toArray[i]'(by simpa using h)=s[i];simp
theorem bs_append (a b:Bytes):bs a++bs b=bs (a++b):=by apply ByteArray.ext;simp [bs]
theorem bs_extract (s:Bytes) (a k:Nat):(bs s).extract a k=bs ((s.drop a).take (k-a)):=by
 apply ByteArray.ext;apply Array.ext';rw [data_extract,bs_data,bs_data]
theorem own_form {w:World} {base n:Nat} {T:TypeId} {s:Nat} {v:Value} {xs:List Value} (h:w.ownsRow base T s v n xs):∃A cap,v=.slice A n cap:=by
 rcases h.2 with ⟨rfl,h0⟩ | ⟨g,cap,cur,rfl,_⟩
 ·exact ⟨none,0,by rw [h0]⟩
 ·exact ⟨_,_,rfl⟩
def byV (l:Bytes):List Value:=l.map fun c=>Value.int .u8 c.toNat
theorem byV_str (l:Bytes):byV l=(l.map UInt8.toNat).map byteV:=by simp [byV,byteV]
theorem str_bs (l:Bytes):str (l.map UInt8.toNat)=bs l:=by
 unfold str bs;rw [List.map_map];have e:UInt8.ofNat ∘ UInt8.toNat=id:=funext fun u=>by simp
 rw [e,List.map_id]
theorem conv_bs {w:World} {base n:Nat} {v:Value} {l:Bytes} (hn:n=l.length) (hown:w.ownsRow base 5 1 v n (byV l)):(convert 48 9 v).run Tryz.prog w=.ok (.string (bs l)) w:=by
 subst hn;rw [byV_str] at hown;have:=conv_own (P:=Tryz.prog) (src:=48) (e:=5) (dst:=9) (l:=l.map UInt8.toNat) Tryz.underlying48 Tryz.underlying5 Tryz.underlying9 (by rw [List.length_map];exact hown);rw [str_bs] at this;exact this
theorem append_by {w:World} {base:Nat} (hb:base≤w.heap.size) {v:Value} {l:Bytes} (h:w.ownsRow base 5 1 v l.length (byV l)) (c:UInt8) (hl:l.length<4294967296) :
  ∃g cap w',(Builtin.append_ #[48,48] 48 #[v,.slice (some ⟨w.heap.size,0,none⟩) 1 1]).run Tryz.prog (w.alloc (.cells #[.int .u8 c.toNat] 5))=.ok (.slice (some ⟨g,0,none⟩) (l.length+1) cap) w' ∧
   w'.ownsRow base 5 1 (.slice (some ⟨g,0,none⟩) (l.length+1) cap) (l++[c]).length (byV (l++[c]))∧Upd (fun k=>v.ownBlock=some k) w w':=by
 obtain ⟨i0,hi0,hz0,hz1,hz2⟩:=info_parts info_u8;obtain ⟨g,cap,w',r,o,gr,_,_⟩:=append_one (P:=Tryz.prog) w 48 48 5 i0 _ 1 1 Tryz.underlying48 hi0 hz0 hz1 hz2 rfl (by omega) h hb [.int .u8 c.toNat] rfl (by simp [Value.oneCell']) (by unfold maxLen;omega) (by omega);refine ⟨g,cap,w',r,?_,(upd_of_grown (World.grownBy_alloc w _ v.ownBlock) (fun j hj _=>hj)).trans (upd_of_grown gr (fun j hj _=>hj))⟩;have e:byV (l++[c])=byV l++[.int .u8 c.toNat]:=by simp [byV]
 rw [e,List.length_append];exact o
def strR (s:Bytes) (w:World) (en:Ending) (w':World):Prop:=en=.returned (.string (bs s))∧Upd noBlk w w'
end Go.Proofs.YtmgklblglpplcaaGreatDoor
namespace Go.Proofs.YtmgklblglpplcaaGreatDoor
open Go Go.RowKit
namespace Pk
def RotE (s t:Tri):Prop:=s=t∨s=(t.2.1,t.2.2,t.1)∨s=(t.2.2,t.1,t.2.1)
theorem RotE.refl (t:Tri):RotE t t:=.inl rfl
theorem RotE.symm {s t:Tri} (h:RotE s t):RotE t s:=by
 rcases h with rfl | rfl | rfl
 ·exact .inl rfl
 ·exact .inr (.inr rfl)
 ·exact .inr (.inl rfl)
theorem RotE.trans {r s t:Tri} (h:RotE r s) (k:RotE s t):RotE r t:=by
 rcases h with rfl | rfl | rfl
 ·exact k
 ·rcases k with rfl | rfl | rfl
  ·exact .inr (.inl rfl)
  ·exact .inr (.inr rfl)
  ·exact .inl rfl
 ·rcases k with rfl | rfl | rfl
  ·exact .inr (.inr rfl)
  ·exact .inl rfl
  ·exact .inr (.inl rfl)
theorem RotE.edges {s t:Tri} (h:RotE s t):(edgesT s).Perm (edgesT t):=by
 rcases h with rfl | rfl | rfl
 ·exact List.Perm.refl _
 ·show [(t.2.1,t.2.2),(t.2.2,t.1),(t.1,t.2.1)].Perm [(t.1,t.2.1),(t.2.1,t.2.2),(t.2.2,t.1)];exact (List.perm_append_comm (l₁:=[(t.2.1,t.2.2),(t.2.2,t.1)]) (l₂:=[(t.1,t.2.1)]))
 ·show [(t.2.2,t.1),(t.1,t.2.1),(t.2.1,t.2.2)].Perm [(t.1,t.2.1),(t.2.1,t.2.2),(t.2.2,t.1)];exact (List.perm_append_comm (l₁:=[(t.2.2,t.1)]) (l₂:=[(t.1,t.2.1),(t.2.1,t.2.2)]))
def cornT (t:Tri):List Pt:=[t.1,t.2.1,t.2.2]
theorem RotE.corners {s t:Tri} (h:RotE s t):(cornT s).Perm (cornT t):=by
 rcases h with rfl | rfl | rfl
 ·exact List.Perm.refl _
 ·exact (List.perm_append_comm (l₁:=[t.2.1,t.2.2]) (l₂:=[t.1]))
 ·exact (List.perm_append_comm (l₁:=[t.2.2]) (l₂:=[t.1,t.2.1]))
def nrm (t:Tri):Tri:=
 let m:=if triLt (t.2.1,t.2.2,t.1) t then (t.2.1,t.2.2,t.1) else t
 if triLt (t.2.2,t.1,t.2.1) m then (t.2.2,t.1,t.2.1) else m
theorem nrm_rot (t:Tri):RotE (nrm t) t:=by
 have k:∀m:Tri,RotE m t→RotE (if triLt (t.2.2,t.1,t.2.1) m then (t.2.2,t.1,t.2.1) else m) t:=fun m hm=>by
  split
  ·exact .inr (.inr rfl)
  ·exact hm
 unfold nrm;refine k _ ?_;split
 ·exact .inr (.inl rfl)
 ·exact .inl rfl
def Alike (l l':List Tri):Prop:=(l.map nrm).Perm (l'.map nrm)
theorem Alike.refl (l:List Tri):Alike l l:=List.Perm.refl _
theorem Alike.symm {l l':List Tri} (h:Alike l l'):Alike l' l:=List.Perm.symm h
theorem Alike.trans {a b c:List Tri} (h:Alike a b) (k:Alike b c):Alike a c:=List.Perm.trans h k
theorem Alike.length {l l':List Tri} (h:Alike l l'):l.length=l'.length:=by have:=List.Perm.length_eq h;simpa using this
theorem Alike.mem {l l':List Tri} (h:Alike l l') {t:Tri} (ht:t∈l):∃t',t'∈l'∧RotE t t':=by
 have h1:nrm t∈l'.map nrm:=h.mem_iff.1 (List.mem_map_of_mem ht);obtain ⟨t',h2,h3⟩:=List.mem_map.1 h1;refine ⟨t',h2,(nrm_rot t).symm.trans ?_⟩;rw [←h3];exact nrm_rot t'
theorem flatMap_nrm {β:Type} (f:Tri→List β) (hf:∀t,(f (nrm t)).Perm (f t)):∀l:List Tri,((l.map nrm).flatMap f).Perm (l.flatMap f)
 | []=>List.Perm.refl _
 | t :: l=>by
  show (f (nrm t)++(l.map nrm).flatMap f).Perm (f t++l.flatMap f);exact (hf t).append (flatMap_nrm f hf l)
theorem perm_flatMap {α β:Type} (f:α→List β) {l l':List α} (h:l.Perm l'):(l.flatMap f).Perm (l'.flatMap f):=by
 induction h with
 | nil=>exact List.Perm.refl _
 | cons x _ ih=>rw [List.flatMap_cons,List.flatMap_cons];exact ih.append_left _
 | swap x y l=>
  simp only [List.flatMap_cons];rw [←List.append_assoc,←List.append_assoc];exact List.perm_append_comm.append_right _
 | trans _ _ h1 h2=>exact h1.trans h2
theorem Alike.flatMap {β:Type} (f:Tri→List β) (hf:∀{s t:Tri},RotE s t→(f s).Perm (f t)) {l l':List Tri} (h:Alike l l'):(l.flatMap f).Perm (l'.flatMap f):=
 ((flatMap_nrm f (fun t=>hf (nrm_rot t)) l).symm.trans (perm_flatMap f h)).trans (flatMap_nrm f (fun t=>hf (nrm_rot t)) l')
theorem Alike.edges {l l':List Tri} (h:Alike l l'):(edgesL l).Perm (edgesL l'):=h.flatMap edgesT (fun k=>k.edges)
theorem Alike.many {l l':List Tri} (h:Alike l l') (p:Pt):manyC l p=manyC l' p:=(h.flatMap cornT (fun k=>k.corners)).count_eq p
theorem edgesL_cons (t:Tri) (l:List Tri):edgesL (t :: l)=edgesT t++edgesL l:=rfl
theorem mem_edgesL {l:List Tri} {e:Pt × Pt}:e∈edgesL l↔∃t,t∈l∧e∈edgesT t:=List.mem_flatMap
theorem edge_once:∀{l:List Tri},(edgesL l).Nodup→∀{s t:Tri},s∈l→t∈l→∀{e:Pt × Pt},e∈edgesT s→e∈edgesT t→s=t
 | [],_,_,_,h,_,_,_,_=>by cases h
 | a :: l,hn,s,t,hs,ht,e,h1,h2=>by
  rw [edgesL_cons,List.nodup_append] at hn;obtain ⟨_,n2,n3⟩:=hn;rcases List.mem_cons.1 hs with hs' | hs'
  ·rcases List.mem_cons.1 ht with ht' | ht'
   ·rw [hs',ht']
   ·subst hs';exact absurd rfl (n3 e h1 e (mem_edgesL.2 ⟨t,ht',h2⟩))
  ·rcases List.mem_cons.1 ht with ht' | ht'
   ·subst ht';exact absurd rfl (n3 e h2 e (mem_edgesL.2 ⟨s,hs',h1⟩))
   ·exact edge_once n2 hs' ht' h1 h2
theorem edgesT_nodup:∀{l:List Tri},(edgesL l).Nodup→∀{t:Tri},t∈l→(edgesT t).Nodup
 | [],_,_,h=>by cases h
 | a :: l,hn,t,ht=>by
  rw [edgesL_cons,List.nodup_append] at hn;rcases List.mem_cons.1 ht with rfl | ht
  ·exact hn.1
  ·exact edgesT_nodup hn.2.1 ht
theorem third_some:∀{l:List Tri} {p q r:Pt},third l p q=some r→∃t,t∈l∧RotE (p,q,r) t
 | [],_,_,_,h=>by cases h
 | t :: l,p,q,r,h=>by
  rw [third] at h;split at h
  ·rename_i h1;cases h;exact ⟨t,by simp,.inl (by rw [←h1.1,←h1.2])⟩
  ·split at h
   ·rename_i h1;cases h;exact ⟨t,by simp,.inr (.inl (by rw [←h1.1,←h1.2]))⟩
   ·split at h
    ·rename_i h1;cases h;exact ⟨t,by simp,.inr (.inr (by rw [←h1.1,←h1.2]))⟩
    ·obtain ⟨t',k1,k2⟩:=third_some h;exact ⟨t',by simp [k1],k2⟩
theorem rot_unique {t:Tri} (hn:(edgesT t).Nodup) {p q r r':Pt} (h:RotE (p,q,r) t) (k:RotE (p,q,r') t):r=r':=by
 obtain ⟨a,b,c⟩:=t;simp only [edgesT,List.nodup_cons,List.mem_cons,Prod.mk.injEq,List.not_mem_nil,or_false,not_or,List.nodup_nil,and_true,not_and] at hn;obtain ⟨⟨n1,n2⟩,n3,_⟩:=hn;simp only [RotE,Prod.mk.injEq] at h k;rcases h with ⟨rfl,rfl,rfl⟩ | ⟨rfl,rfl,rfl⟩ | ⟨rfl,rfl,rfl⟩
 ·rcases k with ⟨_,_,rfl⟩ | ⟨h1,h2,rfl⟩ | ⟨h1,h2,rfl⟩
  ·rfl
  ·exact absurd h2 (n1 h1)
  ·exact absurd h2 (n2 h1)
 ·rcases k with ⟨h1,h2,rfl⟩ | ⟨_,_,rfl⟩ | ⟨h1,h2,rfl⟩
  ·exact absurd h2.symm (n1 h1.symm)
  ·rfl
  ·exact absurd h2 (n3 h1)
 ·rcases k with ⟨h1,h2,rfl⟩ | ⟨h1,h2,rfl⟩ | ⟨_,_,rfl⟩
  ·exact absurd h2.symm (n2 h1.symm)
  ·exact absurd h2.symm (n3 h1.symm)
  ·rfl
theorem rot_edge {p q r:Pt} {t:Tri} (h:RotE (p,q,r) t):(p,q)∈edgesT t:=h.edges.mem_iff.1 (by simp [edgesT])
theorem third_eq {l:List Tri} (hn:(edgesL l).Nodup) {t:Tri} (ht:t∈l) {p q r:Pt} (h:RotE (p,q,r) t):third l p q=some r:=by
 have h1:(third l p q).isSome=true:=by rw [third_isSome,decide_eq_true_eq];exact mem_edgesL.2 ⟨t,ht,rot_edge h⟩
 obtain ⟨r',hr⟩:=Option.isSome_iff_exists.1 h1;obtain ⟨t',k1,k2⟩:=third_some hr;have:=edge_once hn k1 ht (rot_edge k2) (rot_edge h);subst this;rw [hr,rot_unique (edgesT_nodup hn k1) k2 h]
theorem Alike.third {l l':List Tri} (h:Alike l l') (hn:(edgesL l).Nodup) (p q:Pt):third l p q=third l' p q:=by
 have hn':(edgesL l').Nodup:=h.edges.nodup_iff.1 hn;cases h1:Pk.third l' p q with
 | some r=>
  obtain ⟨t,k1,k2⟩:=third_some h1;obtain ⟨t',k3,k4⟩:=h.symm.mem k1;exact third_eq hn k3 (k2.trans k4)
 | none=>
  cases h2:Pk.third l p q with
  | none=>rfl
  | some r=>
   obtain ⟨t,k1,k2⟩:=third_some h2;obtain ⟨t',k3,k4⟩:=h.mem k1;rw [third_eq hn' k3 (k2.trans k4)] at h1;cases h1
end Pk
end Go.Proofs.YtmgklblglpplcaaGreatDoor
namespace Go.Proofs.YtmgklblglpplcaaGreatDoor
open Go Go.RowKit
namespace Pk
open Pc
def inP (p:Pt):Prop:=0≤p.1∧p.1≤2097151∧0≤p.2.1∧p.2.1≤2097151∧0≤p.2.2∧p.2.2≤2097151
instance (p:Pt):Decidable (inP p):=by unfold inP;infer_instance
def inT (t:Tri):Prop:=inP t.1∧inP t.2.1∧inP t.2.2
theorem RotE.inT {s t:Tri} (h:RotE s t) (k:inT t):inT s:=by
 obtain ⟨h1,h2,h3⟩:=k;rcases h with rfl | rfl | rfl
 ·exact ⟨h1,h2,h3⟩
 ·exact ⟨h2,h3,h1⟩
 ·exact ⟨h3,h1,h2⟩
def inC (n:Int):Prop:=0≤n∧n≤2097151
instance (n:Int):Decidable (inC n):=by unfold inC;infer_instance
def freeT (strict:Bool) (tris:List Tri) (t:Tri):Prop:=(strict=true∨(edgesT t).Nodup)∧∀e,e∈edgesT t→e∉edgesL tris
instance (strict:Bool) (tris:List Tri) (t:Tri):Decidable (freeT strict tris t):=by unfold freeT;infer_instance
theorem edgesL_app (l:List Tri) (t:Tri):edgesL (l++[t])=edgesL l++edgesT t:=by unfold edgesL;rw [List.flatMap_append];simp
structure Inv (c:List Tri) (w:Wk):Prop where
 sub:∀t,t∈w.tris→∃t',t'∈c∧RotE t t'
 nod:(edgesL w.tris).Nodup
 known:∀p,p∈w.known→inP p
 gates:∀g,g∈w.gates→inP g.1∧inP g.2.1∧inP g.2.2
theorem Inv.init (c:List Tri):Inv c Wk.init:=⟨fun t h=>(by cases h),List.nodup_nil,fun p h=>(by cases h),fun g h=>(by cases h)⟩
theorem Inv.used_all {c:List Tri} {w:Wk} (h:Inv c w) (hc:(edgesL c).Nodup) {t:Tri} (ht:t∈c) {e:Pt × Pt} (h1:e∈edgesT t) (h2:e∈edgesL w.tris):∀e',e'∈edgesT t→e'∈edgesL w.tris:=by
 obtain ⟨s,k1,k2⟩:=mem_edgesL.1 h2;obtain ⟨t',k3,k4⟩:=h.sub s k1;have:=edge_once hc k3 ht (k4.edges.mem_iff.1 k2) h1;subst this;exact fun e' he'=>mem_edgesL.2 ⟨s,k1,k4.edges.mem_iff.2 he'⟩
theorem Inv.free {c:List Tri} {w:Wk} (h:Inv c w) (hc:(edgesL c).Nodup) {s t:Tri} (ht:t∈c) (hr:RotE s t) {e:Pt × Pt} (h1:e∈edgesT s) (h2:e∉edgesL w.tris) (strict:Bool):freeT strict w.tris s∧(edgesT s).Nodup:=
 have hn:=(hr.edges.nodup_iff).2 (edgesT_nodup hc ht)
 ⟨⟨.inr hn,fun _ he' hu=>h2 (h.used_all hc ht (hr.edges.mem_iff.1 he') hu e (hr.edges.mem_iff.1 h1))⟩,hn⟩
theorem gatesT_in {t:Tri} (h:inT t) {g:Gate} (hg:g∈gatesT t):inP g.1∧inP g.2.1∧inP g.2.2:=by
 obtain ⟨h1,h2,h3⟩:=h;simp only [gatesT,List.mem_cons,List.not_mem_nil,or_false] at hg;rcases hg with rfl | rfl | rfl
 ·exact ⟨h2,h1,h3⟩
 ·exact ⟨h3,h2,h1⟩
 ·exact ⟨h1,h3,h2⟩
theorem Inv.visit {c:List Tri} {w:Wk} (h:Inv c w) {s t:Tri} (ht:t∈c) (hr:RotE s t) (hf:freeT false w.tris s) (hi:inT s) (known:List Pt) (hk:∀p,p∈known→inP p) (gates:List Gate) (hg:∀g,g∈gates→inP g.1∧inP g.2.1∧inP g.2.2) (first:Nat) :
  Inv c ((⟨known,w.tris,gates⟩:Wk).visit s first):=by
 refine ⟨fun u hu=>?_,?_,hk,fun g hg'=>?_⟩
 ·rcases List.mem_append.1 hu with hu | hu
  ·exact h.sub u hu
  ·rw [List.mem_singleton] at hu;subst hu;exact ⟨t,ht,hr⟩
 ·show (edgesL (w.tris++[s])).Nodup;rw [edgesL_app,List.nodup_append];refine ⟨h.nod,?_,fun a ha b hb hab=>hf.2 b hb (hab ▸ ha)⟩;rcases hf.1 with k | k
  ·cases k
  ·exact k
 ·rcases List.mem_append.1 hg' with hg' | hg'
  ·exact hg g hg'
  ·exact gatesT_in hi (List.mem_of_mem_drop hg')
end Pk
end Go.Proofs.YtmgklblglpplcaaGreatDoor
namespace Go.Proofs.YtmgklblglpplcaaGreatDoor
open Go Go.RowKit Pc
set_option maxRecDepth 100000
structure WG (F0:Nat→Prop) (w wr:World) (b:Nat) (e:E) (F:Nat→Prop):Prop where
 rep:WRep wr b e F
 new:∀k,F k→F0 k∨w.heap.size≤k
 up:Upd F0 w wr
theorem WG.self {w:World} {b:Nat} {e:E} {F:Nat→Prop} (h:WRep w b e F):WG F w w b e F:=⟨h,fun _ hk=>.inl hk,Upd.refl _ _⟩
theorem upd_foot {F0 F:Nat→Prop} {w w1 w2:World} (h:Upd F0 w w1) (k:Upd F w1 w2) (hF:∀k,F k→F0 k∨w.heap.size≤k):Upd F0 w w2:=
 h.then k (fun i hi hf=>(hF i hf).elim id (fun x=>absurd hi (by omega)))
theorem WG.upd {F0:Nat→Prop} {w wr w2:World} {b:Nat} {e:E} {F:Nat→Prop} (h:WG F0 w wr b e F) (hu:Upd noBlk wr w2):WG F0 w w2 b e F:=
 ⟨h.rep.upd hu (fun _ _=>id),h.new,h.up.trans (hu.mono (fun _ _ x=>x.elim))⟩
theorem WG.bit {F0:Nat→Prop} {w wr:World} {b:Nat} {e:E} {F:Nat→Prop} (h:WG F0 w wr b e F) (c:Int) (one:Bool) (hlen:e.done.length+1≤1000000) :
  Calls Tryz.prog 98 #[.pointer (some ⟨b,0,none⟩),.int .i64 c,.bool one] wr fun en w'=>en=.returned (.tuple #[])∧∃F',WG F0 w w' b (e.bit c one) F':=by
 refine (WBit_any b c one e F wr h.rep hlen).mono ?_;rintro en w2 ⟨rfl,F',q1,q2,q3⟩;exact ⟨rfl,F',q1,fun j hj=>(q3 j hj).elim (h.new j) (fun x=>.inr (Nat.le_trans h.up.size x)),upd_foot h.up q2 h.new⟩
set_option maxHeartbeats 1000000 in
theorem all_W {F0:Nat→Prop} {w0 w:World} {b:Nat} {e:E} {F:Nat→Prop} (h:WG F0 w0 w b e F) (g:Nat) (c:Int) (one:Bool) (hc:w.cell? ⟨g,0,none⟩=some (.bool one)) (hlen:e.done.length+1≤1000000) :
  Calls Tryz.prog 136 #[.pointer (some ⟨b,0,none⟩),.int .i64 c,.slice (some ⟨g,0,none⟩) 1 1] w fun en w'=>en=.returned (.tuple #[])∧∃F',WG F0 w0 w' b (e.bit c one) F':=by
 have H:=Lib.hid h;have HL:=Lib.hid hlen;clear h hlen;go_enter Tryz.func136,Tryz.ntmps136
 go_wp2_with fail
 refine wp_loop_rounds 2 ?_;rw [rounds_succ];go_wp2_with (go_at_call 98;refine (H.out.bit c one HL.out).mono ?_;rintro e w2 ⟨rfl,F',q⟩;have Q:=Lib.hid q;clear q)
 rw [rounds_succ];go_wp2
 go_end0
 exact ⟨rfl,F',Q.out⟩
theorem bitLen_eq {n:Nat} (h:n<2 ^ 64):Lib.bitLen n=blen n:=by
 have aux:∀f x,x<2 ^ f→Lib.bitLenAux f x=blen x:=by
  intro f;induction f with
  | zero=>
   intro x hx;have:x=0:=by omega
   subst this;rfl
  | succ f ih=>
   intro x hx;unfold Lib.bitLenAux;split
   ·rename_i h0;subst h0;rfl
   ·have h1:=ih (x / 2) (by rw [Nat.pow_succ] at hx;omega);have h2:=blen_pos (n:=x) (by omega);omega
 exact aux 64 n h
theorem bit_val {n j:Nat} (hn:n<2 ^ 64):(bits .and .u64 ((n:Int) / 2 ^ j) 1 == 1)=decide (n / 2 ^ j % 2=1):=by
 have e:(n:Int) / 2 ^ j=((n / 2 ^ j:Nat):Int):=by push_cast;rfl
 have hq:n / 2 ^ j≤n:=Nat.div_le_self _ _;have h1:=u64_and_nat (n / 2 ^ j) 1 (by omega) (by omega);rw [e,show (1:Int)=((1:Nat):Int) from rfl,h1,nat_mask1,Bool.eq_iff_iff];simp;omega
set_option maxHeartbeats 1000000 in
theorem WNumber_any {F0:Nat→Prop} {w0 w:World} {b:Nat} {e:E} {F:Nat→Prop} (h:WG F0 w0 w b e F) (c:Int) (n:Nat) (hn:n<2 ^ 64) (hlen:e.done.length+200≤1000000) :
  Calls Tryz.prog 95 #[.pointer (some ⟨b,0,none⟩),.int .i64 c,.int .u64 n] w fun en w'=>en=.returned (.tuple #[])∧∃F',WG F0 w0 w' b (encFrom e (numBits c n)) F':=by
 have H:=Lib.hid h;have HL:=Lib.hid hlen;have HN:=Lib.hid hn;have hB:=bitLen_eq hn;have hk:=blen_le hn;have hnn:0≤(n:Int):=by omega
 clear h hlen hn;go_enter Tryz.func95,Tryz.ntmps95
 go_wp2_with (go_at_call 126;refine (Tryz.bits_Len64 _ _ hnn (by have:=HN.out;omega)).mono ?_;rw [Int.toNat_natCast,hB];rintro e w2 ⟨rfl,rfl⟩)
 have H':=Lib.hid (H.out);clear H hB;go_loopw [7,12] (fun _ i wr=>∃k:Nat,i=.int .i64 k∧k≤blen n∧∃e' F',WG F0 w0 wr b e' F'∧e'.done.length≤e.done.length+k∧encFrom e' (obits c k (blen n-k)++vbits c n (blen n-1))=encFrom e (numBits c n)) (fun _ i _=>64-(intOf i).toNat)
 case atStart=>exact ⟨0,rfl,Nat.zero_le _,e,F,H'.out,Nat.le_refl _,rfl⟩
 case round=>
  obtain ⟨k,rfl,hkn,e',F',h1,h2,h3⟩:=hrel;have H1:=Lib.hid h1;have H2:=Lib.hid h2;have H3:=Lib.hid h3;clear h1 h2 h3 H';have hkb:(k:Int)≤64:=by omega
  have HS:Hid (e'.done.length+2≤1000000):=by show _≤_;have:=H2.out;have:=HL.out;omega
  by_cases hlt:k<blen n
  ·have HX:Hid (encFrom (e'.bit (nctx c k) true) (obits c (k+1) (blen n-(k+1))++vbits c n (blen n-1))=encFrom e (numBits c n)):=by
    show _=_;rw [←H3.out,show blen n-k=(blen n-(k+1))+1 by omega];rfl
   go_wp2_with (go_at_call 136;refine (all_W (H1.out.upd ((Upd.refl noBlk wr).alloc _)) _ _ true (World.cell?_alloc_new wr _ _ 0) (by have:=HS.out;omega)).mono ?_;rintro en w3 ⟨rfl,F3,q⟩;have Q:Hid (WG F0 w0 w3 b (e'.bit (nctx c k) true) F3):=q;clear q)
   go_roundw
   case rel=>exact ⟨k+1,by go_num,hlt,_,F3,Q.out,by have:=E.bit_done_length e' (nctx c k) true;have:=H2.out;omega,HX.out⟩
   case measure=>simp [intOf];omega
  ·have hkk:k=blen n:=by omega
   have HX:Hid (encFrom (e'.bit (nctx c (blen n)) false) (vbits c n (blen n-1))=encFrom e (numBits c n)):=by
    show _=_;rw [←H3.out,hkk,Nat.sub_self];rfl
   have HT:Hid (e'.done.length≤e.done.length+64):=by show _≤_;have:=H2.out;omega
   clear hkk H2 H3;go_wp2_with (go_at_call 136;refine (all_W (H1.out.upd ((Upd.refl noBlk wr).alloc _)) _ _ false (World.cell?_alloc_new wr _ _ 0) (by have:=HS.out;omega)).mono ?_;rintro en w3 ⟨rfl,F3,q⟩;have Q:Hid (WG F0 w0 w3 b (e'.bit (nctx c (blen n)) false) F3):=q;clear q)
   go_loopw [8] (fun i wr=>∃(z:Int) (m:Nat),i=.int .i64 z∧(z=(m:Int)-1∨(z=-2∧m=0))∧m≤63∧∃e' F',WG F0 w0 wr b e' F'∧e'.done.length+m≤e.done.length+130∧encFrom e' (vbits c n m)=encFrom e (numBits c n)) (fun i _=>(intOf i+1).toNat)
   case atStart=>exact ⟨_,blen n-1,rfl,by omega,by omega,_,F3,Q.out,by have:=E.bit_done_length e' (nctx c (blen n)) false;have:=HT.out;omega,HX.out⟩
   case round=>
    obtain ⟨z,m,rfl,hz,hm,e2,F2,h1,h2,h3⟩:=hrel;have R1:=Lib.hid h1;have R2:=Lib.hid h2;have R3:=Lib.hid h3;clear h1 h2 h3 H1 Q HX HS HT;rcases m with _ | j
    ·have hz0:z<0:=by omega
     have R4:Hid (encFrom e2 []=encFrom e (numBits c n)):=R3.out;clear hz;go_wp2_with fail
     go_end0
     exact ⟨rfl,F2,by rw [←R4.out];exact R1.out⟩
    ·obtain rfl:z=(j:Int):=by omega
     have hj:(j:Int)≤63:=by omega
     have HX:Hid (encFrom (e2.bit (vctx c j) (decide (n / 2 ^ j % 2=1))) (vbits c n j)=encFrom e (numBits c n)):=R3.out;clear hz;have BV:Hid ((bits .and .u64 ((n:Int) / 2 ^ j) 1 == 1)=decide (n / 2 ^ j % 2=1)):=bit_val HN.out;have HS:Hid (e2.done.length+1≤1000000):=by show _≤_;have:=R2.out;have:=HL.out;omega
     go_wp2_with (go_at_call 136;refine (all_W (R1.out.upd ((Upd.refl noBlk wr).alloc _)) _ _ _ (World.cell?_alloc_new wr _ _ 0) HS.out).mono ?_;rintro en w4 ⟨rfl,F4,q⟩;have Q:Hid (WG F0 w0 w4 b (e2.bit (vctx c j) (decide (n / 2 ^ j % 2=1))) F4):=(by rw [←BV.out];exact q);clear q)
     go_roundw
     case rel=>exact ⟨_,j,by go_num,by omega,by omega,_,F4,Q.out,by have:=E.bit_done_length e2 (vctx c j) (decide (n / 2 ^ j % 2=1));have:=R2.out;omega,HX.out⟩
     case measure=>simp [intOf]<;>omega
end Go.Proofs.YtmgklblglpplcaaGreatDoor
namespace Go.Proofs.YtmgklblglpplcaaGreatDoor
open Go Go.RowKit
variable {F:Fence} {n:Nat} {P:Program}
def roundPostP (P:Program) (l:Nat) (R:Ending→World→Prop):Exit→Act→World→Prop
 | .panic chain,a,w=>a.defers=[]∧R (.panicked chain) w
 | e,a,w=>roundPost P l R e a w
theorem roundIn_of_wpInP {l:Nat} {f:FuncId} {fn:Func} (hf:P.funcs[f]?=some fn) {tmps:Array Value} {assign body:Code} {w:World} {R:Ending→World→Prop} (hF:F.fn f)
  (h:assign.wpIn (F.inRound l) n P (Exit.then (fun a₁ w₁=>∃w₂,(Instr.beginRound l).run P w₁=.ok () w₂∧body.wpIn (F.inRound l) n P (roundPostP P l R) a₁ w₂) (fun _ _ _=>False))
   { tmps:=tmps,defers:=[] } w) :
  RoundIn F n P l f tmps assign body w R:=by
 refine ⟨hF,fun c cs hr=>?_⟩;let b:Frame:={ (default:Frame) with fn:=f,kind:=.normal,roundOf:=some l }
 have hb0:Frame.round l f tmps assign body .normal=b.atR { tmps:=tmps,defers:=[] } [.code assign,.beginRound,.code body]:=by
  simp [Frame.round,Frame.atR,b]
 have hr':(F.inRound l).room ((c :: cs).length+1+n):=hr;have hF':(F.inRound l).fn b.fn:=hF;obtain ⟨e,a₁,w₁,hq,harr⟩:=h b [.beginRound,.code body] (c :: cs) rfl hF' hr';rw [←hb0] at harr;cases e with
 | normal=>
  obtain ⟨w₂,hbr,hbody⟩:=hq;have s1:StepsIn (Machine.fenced P (F.inRound l)) P (lone (b.atR a₁ [.beginRound,.code body]) (c :: cs) w₁) (lone (b.atR a₁ [.code body]) (c :: cs) w₂):=
   .one (fenced_calm (fr:=b.atR a₁ [.beginRound,.code body]) hF' hr' rfl) (stepR_beginRound rfl hbr)
  obtain ⟨e₂,a₂,w₃,hq₂,harr₂⟩:=hbody b [] (c :: cs) rfl hF' hr';cases e₂ with
  | normal=>
   obtain ⟨v,w₄,hend,hR⟩:=hq₂;exact ⟨.returned v,w₄,hR,(StepsIn.trans harr s1).trans (StepsIn.trans harr₂ (.one (fenced_calm (fr:=b.atR a₂ []) hF' hr' rfl) (stepR_round_end rfl rfl hend)))⟩
  | ret=>
   obtain ⟨v,w₄,hend,hR⟩:=hq₂;obtain ⟨k₁,hs⟩:=harr₂.2 rfl;exact ⟨.returned v,w₄,hR,(StepsIn.trans harr s1).trans (StepsIn.trans hs (.one (fenced_calm (fr:=b.atR a₂ (.code .ret :: k₁)) hF' hr' rfl) (stepR_round_ret rfl rfl hend)))⟩
  | exit id=>
   obtain ⟨v,w₄,hend,hR⟩:=hq₂;obtain ⟨k₁,hk,hs⟩:=harr₂.2 rfl rfl;exact ⟨.returned v,w₄,hR,(StepsIn.trans harr s1).trans (StepsIn.trans hs (.one (fenced_calm (fr:=b.atR a₂ (.code (.exit id) :: k₁)) hF' hr' rfl) (stepR_round_exit rfl rfl hk hend)))⟩
  | goto t=>
   obtain ⟨v,w₄,hend,hR⟩:=hq₂;obtain ⟨k₁,hk,hs⟩:=harr₂.2 rfl rfl;exact ⟨.returned v,w₄,hR,(StepsIn.trans harr s1).trans (StepsIn.trans hs (.one (fenced_calm (fr:=b.atR a₂ (.code (.goto t) :: k₁)) hF' hr' rfl) (stepR_round_goto rfl rfl hk hend)))⟩
  | panic chain=>
   obtain ⟨hd,hR⟩:=hq₂;obtain ⟨todo,hs⟩:=harr₂;refine ⟨.panicked chain,w₃,hR,(StepsIn.trans harr s1).trans (StepsIn.trans hs (.one ?_ ?_))⟩
   ·exact fenced_leaving (fr:={ b.atR a₂ todo with mode:=.panicking chain }) hF' hr' (w:=w₃) (e:=.panicked chain) ⟨rfl,hd,fn,hf⟩
   ·exact step_leave_panicked (fr:={ b.atR a₂ todo with mode:=.panicking chain }) ⟨rfl,hd,fn,hf⟩
  | outgrown=>exact hq₂.elim
 | exit id=>exact hq.elim
 | goto t=>exact hq.elim
 | ret=>exact hq.elim
 | panic chain=>exact hq.elim
 | outgrown=>exact hq.elim
def SeqP {α:Type} (F:Fence) (n:Nat) (P:Program) (g:Nat) (lb:Array Value) (Ar:α→Array Value→World→Prop) (Kp:World→World→Prop) (Ok S Sp:List α→Prop) (w:World):Prop:=
 ∀(l:Nat) (J Jx:List α→World→Prop) (Jp:List PanicEntry→World→Prop) (W:World),Below w.heap.size w W→(∀pre A B,J pre A→A.grownBy B none→J pre B) →
  (∀pre x args W1,J pre W1→Ar x args W1→Ok (pre++[x])→YieldAt F (n-1) P l args W1 fun e W'=>
   (e=.returned (.bool true)∧J (pre++[x]) W'∧Kp W1 W')∨(e=.returned (.bool false)∧Jx (pre++[x]) W')∨∃chain,e=.panicked chain∧Jp chain W') →
  J [] W →
  CallsIn F n P g (#[.func (.yield l) #[] #[]]++lb) W fun e W'=>(∃v,e=.returned v∧((∃xs,S xs∧J xs W')∨(∃pre,Sp pre∧Jx pre W')))∨∃chain,e=.panicked chain∧Jp chain W'
def ownPostP {α:Type} (Kp:World→World→Prop) (I:List α→World→Prop) (Ix:Code→List α→World→Prop) (Ip:List PanicEntry→World→Prop) (xs:List α) (W:World):Exit→Act→World→Prop
 | .normal,_,W'=>KeepsOthers W W'∧Kp W W'∧I xs W'
 | .ret,_,W'=>KeepsOthers W W'∧Ix .ret xs W'
 | .exit id,_,W'=>KeepsOthers W W'∧Ix (.exit id) xs W'
 | .goto t,_,W'=>KeepsOthers W W'∧Ix (.goto t) xs W'
 | .panic chain,a,W'=>a.defers=[]∧KeepsOthers W W'∧Ip chain W'
 | .outgrown,_,_=>False
theorem rangeP_core {α:Type} {g:Operand} {ps:Array Tmp} {assign body:Code} {Q:Exit→Act→World→Prop} {a:Act} {w:World}
  (hro:F.round=none) (h1:1≤n) {fn:Nat} {fnn:Func} (hfnn:P.funcs[fn]?=some fnn) (hfn:F.fn fn) {gf:Nat} {lb:Array Value} (hg:a.eval g=.func (.func gf) #[] lb) (hFg:F.fn gf) (eg:∀args w,(callFunc gf args).run P w=.ok (.enter gf args) w)
  {Ar:α→Array Value→World→Prop} {Kp:World→World→Prop} {Ok S Sp:List α→Prop} {w0:World} (hseq:SeqP F (n-1) P gf lb Ar Kp Ok S Sp w0)
  (hKt:∀{A B C:World},Kp A B→Kp B C→Kp A C) (hKb:∀(W:World) (l:Nat) (o o':Obj),w.heap.size≤l→W.heap[l]?=some o→o.isCells=false→Kp W (W.putObj l o')) (hb0:Below w0.heap.size w0 w)
  (hps:∀x args W,Ar x args W→args.size=ps.size) (hArK:∀x args A B row,Ar x args A→A.grownBy B row→(∀r,row=some r→∃o:Obj,A.heap[r]?=some o∧o.isCells=false)→Ar x args B)
  (I:List α→World→Prop) (Ix:Code→List α→World→Prop) (Ip:List PanicEntry→World→Prop) (hI:OwnFrom w.heap.size I) (hIx:∀c,OwnFrom w.heap.size (Ix c)) (h0:I [] w) (a₁:Array Value→Act)
  (hassign:∀(l:Nat) (x:α) (args:Array Value) (W:World) (K:Act→World→Prop),Ar x args W→K (a₁ args) W →
   assign.wpIn (F.inRound l) (n-1-1) P (Exit.then K (fun _ _ _=>False)) { tmps:=(ps.zip args).foldl (fun t (p,v)=>t.setIfInBounds p v) a.tmps,defers:=[] } W)
  (hbody:∀(l:Nat) (pre:List α) (x:α) (args:Array Value) (W:World),I pre W→Ar x args W→Ok (pre++[x])→body.wpIn (F.inRound l) (n-1-1) P (ownPostP Kp I Ix Ip (pre++[x]) W) (a₁ args) W)
  (hdone:∀(D:Nat) (xs:List α) (W:World),w.heap.size≤D→S xs→I xs W→W.heap[D]?=some (.deferred (some []))→Q .normal { a with defers:={ target:=.collected D,args:=#[] } :: a.defers } W)
  (hstop:∀(D:Nat) (c:Code) (pre:List α) (W:World),w.heap.size≤D→Sp pre→Ix c pre W→W.heap[D]?=some (.deferred (some []))→c.wpIn F n P Q { a with defers:={ target:=.collected D,args:=#[] } :: a.defers } W)
  (hpanic:∀(D:Nat) (chain:List PanicEntry) (W:World),w.heap.size≤D→Ip chain W→W.heap[D]?=some (.deferred (some []))→Q (.panic chain) { a with defers:={ target:=.collected D,args:=#[] } :: a.defers } W) :
  ∃(l:Nat) (mark:List Deferred) (w₁:World) (d:Deferred) (w₁':World) (f:FuncId) (args:Array Value) (w₂:World),
   (Instr.enterLoop fn a.tmps ps assign body F.round).run P w=.ok (l,mark) w₁ ∧
   (resolve a.eval (rangeCall g l) 0).run P w₁=.ok d w₁' ∧
   (∀f',Target.leads P w₁' d.target d.args=some f'→F.fn f') ∧
   (invoke d.target d.args).run P w₁'=.ok (.enter f args) w₂ ∧
   (F.depth.isSome=true→1≤n) ∧
   CallsIn F (n-1) P f args w₂ (rangePost F n P l Q { a with defers:=mark++a.defers }):=by
 rw [hro];obtain ⟨rec,hrec⟩:∃rec:LoopState→Option Code→Loop,rec=fun st pe=>{ state:=st,pending:=pe,fn,tmps:=a.tmps,params:=ps,assign,body,defers:=w.heap.size }:=⟨_,rfl⟩;obtain ⟨W1,hW1⟩:∃W1,(w.alloc (.deferred (some []))).alloc (.loop (rec .ready none))=W1:=⟨_,rfl⟩;have hL1:W1.heap[w.heap.size+1]?=some (.loop (rec .ready none)):=by
  rw [←hW1];have:=World.alloc_heap_new (w.alloc (.deferred (some []))) (.loop (rec .ready none));rwa [World.size_alloc] at this
 have hK1:W1.heap[w.heap.size]?=some (.deferred (some [])):=by
  rw [←hW1];exact (Below.heap_alloc _ _ _ (by simp)).trans (World.alloc_heap_new w _)
 have hI1:I [] W1:=by rw [←hW1];exact hI.alloc _ (hI.alloc _ h0)
 have hb1:Below w0.heap.size w0 W1:=by
  rw [←hW1];exact hb0.trans ((((Below.refl _ w).alloc (Nat.le_refl _) _).alloc (by simp) _).mono hb0.size)
 refine ⟨w.heap.size+1,[{ target:=.collected w.heap.size,args:=#[] }],W1,{ target:=.fn (.func gf) lb,args:=#[.func (.yield (w.heap.size+1)) #[] #[]] },W1,gf,
  #[.func (.yield (w.heap.size+1)) #[] #[]]++lb,W1,?_,?_,?_,?_,fun _=>h1,?_⟩
 ·rw [←hW1,hrec];exact run_enterLoop_outer _ _ _ _ _
 ·simp only [resolve,hg];simp [go_sem]
 ·intro f' hf';simp [Target.leads] at hf';subst hf';exact hFg
 ·simp [invoke,go_sem,eg]
 ·have hnn:∀{A B:World},A.grownBy B none→∀{k:Nat} {o:Obj},A.heap[k]?=some o→B.heap[k]?=some o:=fun {A B} hg {k o} hk=>
   (hg.block k (Array.getElem?_eq_some_iff.1 hk).1 (by simp)).trans hk
  refine (hseq (w.heap.size+1)
   (fun pre W=>I pre W∧W.heap[w.heap.size+1]?=some (.loop (rec .ready none))∧W.heap[w.heap.size]?=some (.deferred (some [])))
   (fun pre W=>∃c,Ix c pre W∧W.heap[w.heap.size+1]?=some (.loop (rec .done (some c)))∧W.heap[w.heap.size]?=some (.deferred (some [])))
   (fun chain W=>Ip chain W∧W.heap[w.heap.size]?=some (.deferred (some [])))
   W1 hb1
   (fun s A B hs hg'=>⟨hI s A B none hs.1 hg' (fun r e=>by cases e),hnn hg' hs.2.1,hnn hg' hs.2.2⟩)
   ?_ ⟨hI1,hL1,hK1⟩).mono ?_
  ·rintro pre x args W ⟨hi,hl,hk⟩ har hok;have hlt:w.heap.size+1<W.heap.size:=(Array.getElem?_eq_some_iff.1 hl).1;have hy:=run_yield (P:=P) (args:=args) hl (by rw [hrec];exact hps x args W har);rw [hrec] at hy;refine ⟨fn,_,assign,body,hy,roundIn_of_wpInP hfnn hfn (hassign _ x args W _ har ⟨_,run_beginRound hl (by rw [hrec]),?_⟩)⟩;have hl2:(W.putObj (w.heap.size+1) (.loop { rec .ready none with state:=.busy })).heap[w.heap.size+1]?=some (.loop { rec .ready none with state:=.busy }):=World.putObj_heap_same hlt;have hk2:(W.putObj (w.heap.size+1) (.loop { rec .ready none with state:=.busy })).heap[w.heap.size]?=some (.deferred (some [])):=(World.putObj_heap_other (by omega)).trans hk;have hw2:Kp W (W.putObj (w.heap.size+1) (.loop { rec .ready none with state:=.busy })):=hKb _ _ _ _ (by omega) hl rfl;have har2:=hArK x args _ _ _ har (grownBy_putObj' W (w.heap.size+1) (.loop { rec .ready none with state:=.busy })) (fun r e=>by cases e;exact ⟨_,hl,rfl⟩);refine wpIn_mono (hbody _ pre x args _ (hI.putObj _ hi (by omega) hl rfl) har2 hok) ?_;have fin:∀(jump:Option Code) (W3:World),KeepsOthers (W.putObj (w.heap.size+1) (.loop { rec .ready none with state:=.busy })) W3 →
     (Instr.endRound (w.heap.size+1) jump).run P W3=.ok (.bool jump.isNone) (W3.putObj (w.heap.size+1) (.loop (rec (if jump.isNone then .ready else .done) jump))) ∧
     W3.heap[w.heap.size+1]?=some (.loop { rec .ready none with state:=.busy }) ∧
     (W3.putObj (w.heap.size+1) (.loop (rec (if jump.isNone then .ready else .done) jump))).heap[w.heap.size+1]?=some (.loop (rec (if jump.isNone then .ready else .done) jump)) ∧
     (W3.putObj (w.heap.size+1) (.loop (rec (if jump.isNone then .ready else .done) jump))).heap[w.heap.size]?=some (.deferred (some [])):=fun jump W3 hk3=>by
    have hl3:=hk3.same _ _ hl2 rfl;have:=run_endRound (P:=P) jump hl3;rw [hrec] at this ⊢;exact ⟨this,by rw [hrec] at hl3;exact hl3,World.putObj_heap_same (Array.getElem?_eq_some_iff.1 hl3).1,(World.putObj_heap_other (by omega)).trans (hk3.same _ _ hk2 rfl)⟩
   rintro e a3 W3 hp;cases e with
   | normal=>
    obtain ⟨hk3,hkp3,hi3⟩:=hp;obtain ⟨hr,hl3,hl4,hk4⟩:=fin none W3 hk3;exact ⟨_,_,hr,.inl ⟨rfl,⟨hI.putObj _ hi3 (by omega) hl3 rfl,hl4,hk4⟩,hKt (hKt hw2 hkp3) (hKb _ _ _ _ (by omega) hl3 rfl)⟩⟩
   | ret=>
    obtain ⟨hk3,hi3⟩:=hp;obtain ⟨hr,hl3,hl4,hk4⟩:=fin (some .ret) W3 hk3;exact ⟨_,_,hr,.inr (.inl ⟨rfl,.ret,(hIx _).putObj _ hi3 (by omega) hl3 rfl,hl4,hk4⟩)⟩
   | exit id=>
    obtain ⟨hk3,hi3⟩:=hp;obtain ⟨hr,hl3,hl4,hk4⟩:=fin (some (.exit id)) W3 hk3;exact ⟨_,_,hr,.inr (.inl ⟨rfl,.exit id,(hIx _).putObj _ hi3 (by omega) hl3 rfl,hl4,hk4⟩)⟩
   | goto t=>
    obtain ⟨hk3,hi3⟩:=hp;obtain ⟨hr,hl3,hl4,hk4⟩:=fin (some (.goto t)) W3 hk3;exact ⟨_,_,hr,.inr (.inl ⟨rfl,.goto t,(hIx _).putObj _ hi3 (by omega) hl3 rfl,hl4,hk4⟩)⟩
   | panic ch=>
    obtain ⟨hd,hk3,hi3⟩:=hp;exact ⟨hd,.inr (.inr ⟨ch,rfl,hi3,hk3.same _ _ hk2 rfl⟩)⟩
   | outgrown=>exact hp.elim
  ·rintro e W2 (⟨v,rfl,⟨xs,hS,hi,hl,hk⟩ | ⟨pre,hSp,c,hi,hl,hk⟩⟩ | ⟨chain,rfl,hi,hk⟩)
   ·exact ⟨none,_,by have:=run_endLoop (P:=P) hl (by rw [hrec];simp);rw [hrec] at this;exact this,hdone _ xs _ (Nat.le_refl _) hS (hI.putObj _ hi (by omega) hl rfl) ((World.putObj_heap_other (by omega)).trans hk)⟩
   ·exact ⟨some c,_,by have:=run_endLoop (P:=P) hl (by rw [hrec];simp);rw [hrec] at this;exact this,hstop _ c pre _ (Nat.le_refl _) hSp ((hIx c).putObj _ hi (by omega) hl rfl) ((World.putObj_heap_other (by omega)).trans hk)⟩
   ·exact hpanic _ chain _ (Nat.le_refl _) hi hk
end Go.Proofs.YtmgklblglpplcaaGreatDoor
