/- Parts: A state and a reader side by side: what each step leaves. No condition. Reading a cluster as a plain function: what stays true along the way, and that it comes to an end. No condition. Walks of the packets' program: a place is read. No condition. Walks of the packets' program: reading is abandoned; a number below a limit is read. No condition. -/
import Derived.Test.YtcikldoaidmnhaaGreatDoorQOpen7
import Derived.Test.YtcikldoaidmnhaaGreatDoorQOpen14
namespace Go.Proofs.YtcikldoaidmnhaaGreatDoor
open Go Go.RowKit Pk Pc
set_option maxRecDepth 100000
structure CR (Z N:Nat→Prop) (w0 wr:World) (b:Nat) (S:Wk) (br:Nat) (d:D):Prop where
 ex:∃G F,SRep wr b S G∧RRep wr br d F∧(∀k,G k→¬F k)∧(∀k,G k∨F k→Z k∨w0.heap.size≤k)
 up:Upd (fun k=>Z k∨N k) w0 wr
theorem CR.upd {Z N:Nat→Prop} {w0 wr w2:World} {b:Nat} {S:Wk} {br:Nat} {d:D} (h:CR Z N w0 wr b S br d) (hu:Upd noBlk wr w2):CR Z N w0 w2 b S br d:=by
 obtain ⟨⟨G,F,h1,h2,h3,h4⟩,h5⟩:=h;exact ⟨⟨G,F,h1.upd hu (fun _ _=>id),h2.upd hu (fun _ _=>id),h3,h4⟩,h5.trans (hu.mono (fun _ _ h=>h.elim))⟩
theorem CR.drew {Z N:Nat→Prop} {w0 wr:World} {b:Nat} {S:Wk} {br:Nat} {d:D} (h:CR Z N w0 wr b S br d):CR Z N w0 wr.drew b S br d:=h.upd (Upd.refl _ wr).drew
theorem CR.stepR {Z N:Nat→Prop} {w0 wr w':World} {b:Nat} {S:Wk} {br:Nat} {d':D} {G F F':Nat→Prop} (h1:SRep wr b S G) (h3:∀k,G k→¬F k) (h4:∀k,G k∨F k→Z k∨w0.heap.size≤k) (h5:Upd (fun k=>Z k∨N k) w0 wr) (h:RG F wr w' br d' F'):CR Z N w0 w' b S br d':=by
 obtain ⟨r,n,u⟩:=h;refine ⟨⟨G,F',h1.upd u (fun k hk=>h3 k hk),r,fun k hk hf=>?_,fun k hk=>?_⟩,h5.then u (fun i hi hf=>.inl ((h4 i (.inr hf)).resolve_right (by omega)))⟩
 ·rcases n k hf with h | h
  ·exact h3 k hk h
  ·have:=h1.lt k hk;omega
 ·rcases hk with h | h
  ·exact h4 k (.inl h)
  ·rcases n k h with h | h
   ·exact h4 k (.inr h)
   ·exact .inr (by have:=h5.size;omega)
theorem CR.stepS {Z N:Nat→Prop} {w0 wr w':World} {b:Nat} {S':Wk} {br:Nat} {d:D} {G F:Nat→Prop} (h2:RRep wr br d F) (h3:∀k,G k→¬F k) (h4:∀k,G k∨F k→Z k∨w0.heap.size≤k) (h5:Upd (fun k=>Z k∨N k) w0 wr) (h:SPost G wr w' b S'):CR Z N w0 w' b S' br d:=by
 obtain ⟨G',r,n,u⟩:=h;refine ⟨⟨G',F,r,h2.upd u (fun k hf hk=>h3 k hk hf),fun k hk hf=>?_,fun k hk=>?_⟩,h5.then u (fun i hi hg=>.inl ((h4 i (.inl hg)).resolve_right (by omega)))⟩
 ·rcases n k hk with h | h
  ·exact h3 k h hf
  ·have:=h2.lt k hf;omega
 ·rcases hk with h | h
  ·rcases n k h with h | h
   ·exact h4 k (.inl h)
   ·exact .inr (by have:=h5.size;omega)
  ·exact h4 k (.inr h)
theorem CR.bit {Z N:Nat→Prop} {w0 wr:World} {b:Nat} {S:Wk} {br:Nat} {d:D} (h:CR Z N w0 wr b S br d) (c:Int) :
  Calls Tryz.prog 151 #[.pointer (some ⟨br,0,none⟩),.int .i64 c] wr fun en w'=>en=.returned (.bool (d.one c))∧CR Z N w0 w' b S br (d.bit c):=by
 obtain ⟨⟨G,F,h1,h2,h3,h4⟩,h5⟩:=h;refine ((RG.self h2).bit c).mono ?_;rintro e w' ⟨rfl,F',h'⟩;exact ⟨rfl,CR.stepR h1 h3 h4 h5 h'⟩
theorem CR.number {Z N:Nat→Prop} {w0 wr:World} {b:Nat} {S:Wk} {br:Nat} {d:D} (h:CR Z N w0 wr b S br d) (c:Int) :
  Calls Tryz.prog 174 #[.pointer (some ⟨br,0,none⟩),.int .i64 c] wr fun en w'=>en=.returned (numV (d.number c))∧CR Z N w0 w' b S br (d.number c).d:=by
 obtain ⟨⟨G,F,h1,h2,h3,h4⟩,h5⟩:=h;refine (RNumber_any (RG.self h2) c).mono ?_;rintro e w' ⟨rfl,F',h'⟩;exact ⟨rfl,CR.stepR h1 h3 h4 h5 h'⟩
theorem CR.last {Z N:Nat→Prop} {w0 wr:World} {b:Nat} {S:Wk} {br:Nat} {d:D} (h:CR Z N w0 wr b S br d) (hl:S.known.length≤1000000) :
  Calls Tryz.prog 98 #[.pointer (some ⟨b,0,none⟩)] wr fun en w'=>en=.returned (ptV (lastK S.known))∧Upd noBlk wr w':=by
 obtain ⟨G,F,h1,h2,h3,h4⟩:=h.ex;refine (last_any b S G hl wr h1).mono ?_;rintro e w' ⟨rfl,hu⟩;exact ⟨rfl,hu⟩
theorem CR.meet {Z N:Nat→Prop} {w0 wr:World} {b:Nat} {S:Wk} {br:Nat} {d:D} (h:CR Z N w0 wr b S br d) (p:Pt) (hp:okP p) (hl:S.known.length≤100000) :
  Calls Tryz.prog 50 #[.pointer (some ⟨b,0,none⟩),ptV p] wr fun en w'=>en=.returned (.tuple #[.int .i64 (meetN S.known p),.bool (decide (p∈S.known))])∧CR Z N w0 w' b ⟨meetK S.known p,S.tris,S.gates⟩ br d:=by
 obtain ⟨⟨G,F,h1,h2,h3,h4⟩,h5⟩:=h;refine (meet_any b S G p hp hl wr h1).mono ?_;rintro e w' ⟨rfl,h'⟩;exact ⟨rfl,CR.stepS h2 h3 h4 h5 h'⟩
theorem CR.visit {Z N:Nat→Prop} {w0 wr:World} {b:Nat} {S:Wk} {br:Nat} {d:D} (h:CR Z N w0 wr b S br d) (t:Tri) (first:Nat) (hf:first=0∨first=1) (ht:okT t) (hl:S.tris.length≤100000) (hg:S.gates.length≤1000000) :
  Calls Tryz.prog 53 #[.pointer (some ⟨b,0,none⟩),triV t,.int .i64 first] wr fun en w'=>en=.returned (.bool (decide (freeT false S.tris t)))∧Upd (fun k=>Z k∨N k) w0 w'∧(freeT false S.tris t→CR Z N w0 w' b (S.visit t first) br d):=by
 obtain ⟨⟨G,F,h1,h2,h3,h4⟩,h5⟩:=h;refine (visit_any b S G t first hf ht hl hg wr h1).mono ?_;rintro e w' ⟨rfl,hu,h'⟩;exact ⟨rfl,h5.then hu (fun i hi hg=>.inl ((h4 i (.inl hg)).resolve_right (by omega))),fun hfr=>CR.stepS h2 h3 h4 h5 (h' hfr)⟩
theorem CR.next {Z N:Nat→Prop} {w0 wr:World} {b:Nat} {S:Wk} {br:Nat} {d:D} (h:CR Z N w0 wr b S br d) (hok:∀g,g∈S.gates→okT g) (hl:S.gates.length≤1000000) :
  Calls Tryz.prog 47 #[.pointer (some ⟨b,0,none⟩)] wr fun en w'=>en=.returned (.tuple #[gateV (nextV S.tris S.gates),.bool (nextB S.tris S.gates)])∧CR Z N w0 w' b ⟨S.known,S.tris,restG S.tris S.gates⟩ br d:=by
 obtain ⟨⟨G,F,h1,h2,h3,h4⟩,h5⟩:=h;refine (snext_any b S G hok hl wr h1).mono ?_;rintro e w' ⟨rfl,h'⟩;exact ⟨rfl,CR.stepS h2 h3 h4 h5 h'⟩
theorem CR.own {Z N:Nat→Prop} {w0 wr w2:World} {b:Nat} {S:Wk} {br:Nat} {d:D} (h:CR Z N w0 wr b S br d) (hN:∀k,N k→¬Z k∧k<w0.heap.size) (hu:Upd N wr w2):CR Z N w0 w2 b S br d:=by
 obtain ⟨⟨G,F,h1,h2,h3,h4⟩,h5⟩:=h;have hd:∀k,G k∨F k→¬N k:=fun k hk hn=>by
  obtain ⟨q1,q2⟩:=hN k hn;rcases h4 k hk with h | h
  ·exact q1 h
  ·omega
 exact ⟨⟨G,F,h1.upd hu (fun k hk=>hd k (.inl hk)),h2.upd hu (fun k hk=>hd k (.inr hk)),h3,h4⟩,h5.trans (hu.mono (fun _ _ h=>.inr h))⟩
theorem CR.keepObj {Z N:Nat→Prop} {w0 wr:World} {b:Nat} {S:Wk} {br:Nat} {d:D} (h:CR Z N w0 wr b S br d) {k:Nat} {o:Obj} (ho:w0.heap[k]?=some o) (hk:¬Z k) (hn:¬N k):wr.heap[k]?=some o:=h.up.heap ho (fun h=>h.elim hk hn)
theorem CR.enter {Z N:Nat→Prop} {w0 wr:World} {b:Nat} {S:Wk} {br:Nat} {d:D} (h:CR Z N w0 wr b S br d) (N1:Nat→Prop) (hN1:∀k,N1 k→wr.heap.size≤k):∃Z1:Nat→Prop,(∀k,Z1 k→k<wr.heap.size)∧(∀w1,Upd noBlk wr w1→CR Z1 N1 w1 w1 b S br d)∧(∀w1 w' S' d',Upd noBlk wr w1→CR Z1 N1 w1 w' b S' br d'→CR Z N w0 w' b S' br d')∧(∀w1 w',Upd noBlk wr w1→Upd (fun k=>Z1 k∨N1 k) w1 w'→Upd (fun k=>Z k∨N k) w0 w')∧(∀k,Z1 k→Z k∨w0.heap.size≤k):=by
 obtain ⟨⟨G,F,h1,h2,h3,h4⟩,h5⟩:=h;have hq:∀w1 w',Upd noBlk wr w1→Upd (fun k=>(G k∨F k)∨N1 k) w1 w'→Upd (fun k=>Z k∨N k) w0 w':=fun w1 w' hu k5=>by
  have hs:=hu.size;have hs5:=h5.size;refine (h5.trans (hu.mono (fun _ _ h=>h.elim))).then k5 (fun i hi hd=>?_);rcases hd with hd | hd
  ·exact .inl ((h4 i hd).resolve_right (by omega))
  ·have:=hN1 i hd;omega
 refine ⟨fun k=>G k∨F k,fun k hk=>?_,fun w1 hu=>?_,fun w1 w' S' d' hu h'=>?_,hq,h4⟩
 ·rcases hk with h | h
  ·exact h1.lt k h
  ·exact h2.lt k h
 ·exact ⟨⟨G,F,h1.upd hu (fun _ _=>id),h2.upd hu (fun _ _=>id),h3,fun k hk=>.inl hk⟩,Upd.refl _ _⟩
 ·obtain ⟨⟨G',F',k1,k2,k3,k4⟩,k5⟩:=h';have hs:=hu.size;have hs5:=h5.size;refine ⟨⟨G',F',k1,k2,k3,fun k hk=>?_⟩,hq w1 w' hu k5⟩;rcases k4 k hk with h | h
  ·exact h4 k h
  ·exact .inr (by omega)
theorem CR.lift {Z N:Nat→Prop} {w0 wr:World} {b:Nat} {S:Wk} {br:Nat} {d:D} (h:CR Z N w0 wr b S br d):∃Z2:Nat→Prop,CR Z2 noBlk wr wr b S br d∧(∀k,Z2 k→k<wr.heap.size) ∧
  (∀w' S' d',CR Z2 noBlk wr w' b S' br d'→CR Z N w0 w' b S' br d'∧∀k o,wr.heap[k]?=some o→¬Z k→k<w0.heap.size→w'.heap[k]?=some o) ∧
  (∀w',Upd (fun k=>Z2 k∨noBlk k) wr w'→Upd (fun k=>Z k∨N k) w0 w'):=by
 obtain ⟨Z2,q1,q2,q3,q4,q5⟩:=h.enter noBlk (fun _ h=>h.elim);refine ⟨Z2,q2 _ (Upd.refl _ _),q1,fun w' S' d' hc=>⟨q3 _ w' S' d' (Upd.refl _ _) hc,fun k o ho hz hk=>hc.up.heap ho (fun h=>?_)⟩,fun w' hu=>q4 _ w' (Upd.refl _ _) hu⟩;rcases h with h | h
 ·rcases q5 k h with h | h
  ·exact hz h
  ·omega
 ·exact h
theorem CR.base {Z N:Nat→Prop} {w:World} {b:Nat} {S:Wk} {br:Nat} {d:D} (h:CR Z N w w b S br d) (N':Nat→Prop):CR Z N' w w b S br d:=⟨h.ex,Upd.refl _ _⟩
theorem CR.monoN {Z N N':Nat→Prop} {w0 w:World} {b:Nat} {S:Wk} {br:Nat} {d:D} (h:CR Z N w0 w b S br d) (hN:∀k,N k→N' k):CR Z N' w0 w b S br d:=⟨h.ex,h.up.mono (fun k _ hk=>hk.imp id (hN k))⟩
theorem CR.setN {Z N:Nat→Prop} {w0 wr w2:World} {b:Nat} {S:Wk} {br:Nat} {d:D} (h:CR Z N w0 wr b S br d) {k:Nat} (hk:k<w0.heap.size) (hz:¬Z k) (hu:Upd (fun i=>i=k) wr w2):CR Z (fun i=>N i∨i=k) w0 w2 b S br d:=by
 obtain ⟨⟨G,F,h1,h2,h3,h4⟩,h5⟩:=h;have hd:∀i,G i∨F i→¬i=k:=fun i hi e=>by
  subst e;rcases h4 i hi with h | h
  ·exact hz h
  ·omega
 exact ⟨⟨G,F,h1.upd hu (fun i hi=>hd i (.inl hi)),h2.upd hu (fun i hi=>hd i (.inr hi)),h3,h4⟩,(h5.mono (fun i _ hi=>hi.imp id .inl)).trans (hu.mono (fun i _ hi=>.inr (.inr hi)))⟩
theorem CR.allocSet {Z N:Nat→Prop} {w0 wr w2:World} {b:Nat} {S:Wk} {br:Nat} {d:D} (h:CR Z N w0 wr b S br d) (o:Obj) (hu:Upd (fun i=>i=wr.heap.size) (wr.alloc o) w2):CR Z N w0 w2 b S br d:=by
 obtain ⟨Z4,q1,q2,q3,_,_⟩:=h.enter (fun k=>k=wr.heap.size) (fun k hk=>by omega);have ha:Upd noBlk wr (wr.alloc o):=(Upd.refl _ wr).alloc o;refine q3 _ w2 S d ha ((q2 _ ha).own (fun k hk=>⟨fun h=>by have:=q1 _ h;omega,?_⟩) hu);rw [hk,World.size_alloc];exact Nat.lt_succ_self _
end Go.Proofs.YtcikldoaidmnhaaGreatDoor
namespace Go.Proofs.YtcikldoaidmnhaaGreatDoor
open Go Go.RowKit
namespace Pk
open Pc
theorem coordM_in {d d':D} {c near x:Int} (h:coordM d c near=some (x,d')):inC x:=by
 unfold coordM at h;split at h
 ·rename_i hc;obtain ⟨rfl,rfl⟩:=Prod.mk.inj (Option.some.inj h);exact hc.2.2
 ·cases h
theorem placeM_in {d d':D} {c:Int} {near p:Pt} (h:placeM d c near=some (p,d')):inP p:=by
 unfold placeM at h;split at h
 ·cases h
 ·rename_i x d1 h1
  split at h
  ·cases h
  ·rename_i y d2 h2
   split at h
   ·cases h
   ·rename_i z d3 h3
    obtain ⟨rfl,rfl⟩:=Prod.mk.inj (Option.some.inj h);have a1:=coordM_in h1;have a2:=coordM_in h2;have a3:=coordM_in h3;exact ⟨a1.1,a1.2,a2.1,a2.2,a3.1,a3.2⟩
theorem getK_mem {known:List Pt} {n:Nat} (h:n<known.length):getK known n∈known:=by
 unfold getK;rw [List.getD_eq_getElem?_getD,List.getElem?_eq_getElem (by omega)];exact List.getElem_mem _
theorem cornerM_in {strict:Bool} {d d':D} {known known':List Pt} {near p:Pt} {b n q:Int} (h:cornerM strict d known near b n q=some (p,known',d')) (hk:∀p,p∈known→inP p):inP p∧(∀p,p∈known'→inP p)∧known'.length≤known.length+1:=by
 unfold cornerM at h;split at h
 ·split at h
  ·rename_i hc
   obtain ⟨rfl,h2⟩:=Prod.mk.inj (Option.some.inj h);obtain ⟨rfl,rfl⟩:=Prod.mk.inj h2;exact ⟨hk _ (getK_mem hc.2),hk,Nat.le_succ _⟩
  ·cases h
 ·split at h
  ·cases h
  ·rename_i p' d1 h1
   split at h
   ·cases h
   ·obtain ⟨rfl,h2⟩:=Prod.mk.inj (Option.some.inj h);obtain ⟨rfl,rfl⟩:=Prod.mk.inj h2;exact ⟨placeM_in h1,meetK_in hk (placeM_in h1),meetK_len _ _⟩
structure OInv (w:Wk):Prop where
 known:∀p,p∈w.known→inP p
 gates:∀g,g∈w.gates→inP g.1∧inP g.2.1∧inP g.2.2
 tris:∀t,t∈w.tris→inT t
 klen:w.known.length≤3*w.tris.length
 glen:w.gates.length≤3*w.tris.length
theorem OInv.init:OInv Wk.init:=⟨fun p h=>(by cases h),fun g h=>(by cases h),fun t h=>(by cases h),Nat.le_refl _,Nat.le_refl _⟩
theorem OInv.visit {w:Wk} {t:Tri} {first:Nat} (ht:inT t) (k:∀p,p∈w.known→inP p) (g:∀g,g∈w.gates→inP g.1∧inP g.2.1∧inP g.2.2) (hs:∀t,t∈w.tris→inT t) (kl:w.known.length≤3*(w.tris.length+1)) (gl:w.gates.length+(3-first)≤3*(w.tris.length+1)):OInv (w.visit t first):=by
 refine ⟨k,fun x hx=>?_,fun x hx=>?_,?_,?_⟩
 ·rcases List.mem_append.1 hx with hx | hx
  ·exact g x hx
  ·exact gatesT_in ht (List.mem_of_mem_drop hx)
 ·rcases List.mem_append.1 hx with hx | hx
  ·exact hs x hx
  ·rw [List.mem_singleton] at hx;subst hx;exact ht
 ·show w.known.length≤3*(w.tris++[t]).length;rw [List.length_append];simp only [List.length_cons,List.length_nil];omega
 ·show (w.gates++(gatesT t).drop first).length≤3*(w.tris++[t]).length;rw [List.length_append,List.length_append,List.length_drop];have:(gatesT t).length=3:=rfl;simp only [List.length_cons,List.length_nil];omega
def potM (many:Nat) (w:Wk):Nat:=4*(many-w.tris.length)+w.gates.length
theorem potM_visit {many:Nat} {w:Wk} {t:Tri} {first n:Nat} (h:w.tris.length<many) (hn:w.gates.length+(3-first)<n+4):potM many (w.visit t first)<4*(many-w.tris.length)+n:=by
 show 4*(many-(w.tris++[t]).length)+(w.gates++(gatesT t).drop first).length<_;rw [List.length_append,List.length_append,List.length_drop];have:(gatesT t).length=3:=rfl;simp only [List.length_cons,List.length_nil];omega
theorem runM_done {strict:Bool} {many f:Nat} {d:D} {w:Wk} (h:many≤w.tris.length):runM strict many f d w=some w.tris:=by
 cases f with
 | zero=>exact if_pos h
 | succ f=>exact if_pos h
theorem runM_step {strict:Bool} {many f:Nat} {d:D} {w:Wk} (h:¬many≤w.tris.length):runM strict many (f+1) d w=match stepM strict d w with
  | none=>none
  | some (d',w')=>runM strict many f d' w':=if_neg h
theorem visitM_inv {w w':Wk} {t:Tri} {first:Nat} {d d':D} (h:visitM false w t first d=some (d',w')):w'=w.visit t first:=by
 unfold visitM at h;split at h
 ·obtain ⟨rfl,rfl⟩:=Prod.mk.inj (Option.some.inj h);rfl
 ·cases h
theorem stepM_inv {d d':D} {w w':Wk} (hi:OInv w) (h:stepM false d w=some (d',w')):OInv w'∧w'.tris.length≤w.tris.length+1:=by
 obtain ⟨K,tr,gs⟩:=w;unfold stepM at h;simp only at h;have hkl:K.length≤3*tr.length:=hi.klen;have hgl:gs.length≤3*tr.length:=hi.glen;rcases hog:openG tr gs with _ | ⟨g,r⟩
 ·rw [hog] at h;simp only at h;split at h
  ·cases h
  ·rename_i p k1 d1 h1
   split at h
   ·cases h
   ·rename_i q k2 d2 h2
    split at h
    ·cases h
    ·rename_i x k3 d3 h3
     obtain ⟨a1,b1,c1⟩:=cornerM_in h1 hi.known;obtain ⟨a2,b2,c2⟩:=cornerM_in h2 b1;obtain ⟨a3,b3,c3⟩:=cornerM_in h3 b2;rw [visitM_inv h];refine ⟨OInv.visit ⟨a1,a2,a3⟩ b3 (fun g hg=>(by cases hg)) hi.tris (by show k3.length≤3*(tr.length+1);omega) (by show 0+3≤3*(tr.length+1);omega),?_⟩;show (tr++[_]).length≤_;simp
 ·rw [hog] at h;simp only at h;have hr:∀x,x∈r→x∈gs:=fun x hx=>openG_mem (tris:=tr) (by rw [hog];exact List.mem_cons_of_mem _ hx);have hg:=hi.gates g (openG_mem (by rw [hog];exact List.mem_cons_self));have hl:r.length+1≤gs.length:=by have h1:=openG_len tr gs;rw [hog] at h1;exact h1
  split at h
  ·split at h
   ·cases h
   ·rename_i p k d1 h1
    obtain ⟨a1,b1,c1⟩:=cornerM_in h1 hi.known;rw [visitM_inv h];refine ⟨OInv.visit ⟨hg.1,hg.2.1,a1⟩ b1 (fun x hx=>hi.gates x (hr x hx)) hi.tris (by show k.length≤3*(tr.length+1);omega) (by show r.length+2≤3*(tr.length+1);omega),?_⟩;show (tr++[_]).length≤_;simp
  ·obtain ⟨_,rfl⟩:=Prod.mk.inj (Option.some.inj h);exact ⟨⟨hi.known,fun x hx=>hi.gates x (hr x hx),hi.tris,hkl,by show r.length≤3*tr.length;omega⟩,Nat.le_succ _⟩
theorem runM_inv {many:Nat}:∀{f:Nat} {d:D} {w:Wk} {T:List Tri},OInv w→w.tris.length≤many→runM false many f d w=some T→(∀t,t∈T→inT t)∧T.length≤many
 | 0,d,w,T,hi,hl,h=>by
  unfold runM at h;split at h
  ·cases h;exact ⟨hi.tris,hl⟩
  ·cases h
 | f+1,d,w,T,hi,hl,h=>by
  by_cases hm:many≤w.tris.length
  ·rw [runM_done hm] at h;cases h;exact ⟨hi.tris,hl⟩
  ·rw [runM_step hm] at h;rcases hs:stepM false d w with _ | ⟨d',w'⟩
   ·rw [hs] at h;cases h
   ·rw [hs] at h;obtain ⟨h1,h2⟩:=stepM_inv hi hs;exact runM_inv h1 (by omega) h
theorem openM_in {s:List Nat} {T:List Tri} (h:openM false s=some T):(∀t,t∈T→inT t)∧T.length≤128:=by
 unfold openM at h;split at h
 ·split at h
  ·rename_i hc
   obtain ⟨h1,h2⟩:=runM_inv OInv.init (Nat.zero_le _) h;exact ⟨h1,by omega⟩
  ·cases h
 ·cases h
theorem canon_in {T:List Tri} (h:∀t,t∈T→inT t):∀t,t∈canon T→inT t:=fun t ht=>by
 obtain ⟨t',h1,h2⟩:=(canon_alike T).mem ht;exact h2.inT (h t' h1)
end Pk
end Go.Proofs.YtcikldoaidmnhaaGreatDoor
namespace Go.Proofs.YtcikldoaidmnhaaGreatDoor
open Go Go.RowKit Pk Pc
set_option maxRecDepth 100000
def wrongV:Value:=.iface 224 (.agg #[])
def panicW:Ending:=.panicked [{ v:=wrongV,recovered:=false }]
def orFail {α:Type} (o:Option α) (good:α→Ending→World→Prop) (bad:World→Prop) (en:Ending) (w':World):Prop:=match o with
 | some a=>good a en w'
 | none=>en=panicW∧bad w'
theorem fail_any (w:World):Calls Tryz.prog 114 #[] w fun en w'=>en=panicW∧w=w':=by
 go_enter Tryz.func114,Tryz.ntmps114
 go_wp2_with fail
 exact ⟨rfl,rfl,rfl⟩
def openerV (b br:Nat):Value:=.agg #[.pointer (some ⟨b,0,none⟩),.pointer (some ⟨br,0,none⟩)]
def numM (d:D) (c lim:Int):Option (Nat × D):=if (d.number c).ok=true∧((d.number c).n:Int)<lim then some ((d.number c).n,(d.number c).d) else none
theorem RG.upd {F0 F:Nat→Prop} {w wr w2:World} {r:Nat} {d:D} (h:RG F0 w wr r d F) (hu:Upd noBlk wr w2):RG F0 w w2 r d F:=⟨h.rep.upd hu (fun _ _=>id),h.new,h.up.trans (hu.mono (fun _ _ h=>h.elim))⟩
set_option maxHeartbeats 1000000 in
theorem onumber_R {F0 F:Nat→Prop} {w0 wr:World} (b:Nat) {br:Nat} {d:D} (h:RG F0 w0 wr br d F) (c lim:Int) (h0:0≤lim) (h1:lim≤9223372036854775807) :
  Calls Tryz.prog 149 #[openerV b br,.int .i64 c,.int .i64 lim] wr fun en w'=>orFail (numM d c lim) (fun a en w'=>en=.returned (.int .i64 (a.1:Nat))∧∃F',RG F0 w0 w' br a.2 F') (Upd F0 w0) en w':=by
 have hal:=(Upd.refl noBlk wr).alloc (.cells #[.pointer (some ⟨b,0,none⟩),.pointer (some ⟨br,0,none⟩)] 183);have HC:=Lib.hid (h.upd hal);have HB:=Lib.hid (heap_alloc_new wr (.cells #[.pointer (some ⟨b,0,none⟩),.pointer (some ⟨br,0,none⟩)] 183));have HL:=Lib.hid (And.intro h0 h1);obtain ⟨tgt,htgt⟩:∃t,t=numM d c lim:=⟨_,rfl⟩;rw [←htgt];have HT:=Lib.hid htgt;have hwl:IntKind.u64.wrap lim=lim:=by have:=IntKind.wrap_u64 lim;omega
 clear h hal h0 h1 htgt;unfold openerV;go_enter Tryz.func149,Tryz.ntmps149
 go_upto_region 1 with fail
 generalize wr.heap.size=bo at *;generalize wr.alloc (.cells #[.pointer (some ⟨b,0,none⟩),.pointer (some ⟨br,0,none⟩)] 183)=w1 at *;obtain ⟨g0,g1⟩:=cells2 HB.out;go_wp2_with fail
 refine (RNumber_any HC.out c).mono ?_;rintro e w2 ⟨rfl,F',h2⟩;have H2:=Lib.hid h2;unfold numM at HT;generalize d.number c=x at *;obtain ⟨n,ok,d'⟩:=x;clear g0 g1 HC HB h2;unfold numV;simp only at HT H2 ⊢;have HF:=fun W=>Lib.hid (fail_any W);cases ok with
 | false=>
  have HN:Hid (tgt=none):=by show _=_;have:=HT.out;rw [this];simp
  go_wp2_with fail
  refine (HF _).out.mono ?_;rintro e w3 ⟨rfl,rfl⟩;unfold panicW;go_wp2_with fail
  refine ⟨rfl,?_⟩;rw [HN.out];exact ⟨rfl,H2.out.up⟩
 | true=>
  by_cases hn:(n:Int)<lim
  ·have HN:Hid (tgt=some (n,d')):=by show _=_;have:=HT.out;rw [this,if_pos ⟨rfl,hn⟩]
   have hn2:¬lim≤(n:Int):=by omega
   have hwn:IntKind.i64.wrap (n:Int)=n:=wrapN (by omega) (by have:=HL.out;omega);go_wp2_with fail
   go_ret
   rw [HN.out];exact ⟨rfl,F',H2.out⟩
  ·have HN:Hid (tgt=none):=by show _=_;have:=HT.out;rw [this];simp [hn]
   have hn2:lim≤(n:Int):=by omega
   go_wp2_with fail
   refine (HF _).out.mono ?_;rintro e w3 ⟨rfl,rfl⟩;unfold panicW;go_wp2_with fail
   refine ⟨rfl,?_⟩;rw [HN.out];exact ⟨rfl,H2.out.up⟩
theorem onumber_any {Z N:Nat→Prop} {w0 wr:World} {b:Nat} {S:Wk} {br:Nat} {d:D} (h:CR Z N w0 wr b S br d) (c lim:Int) (h0:0≤lim) (h1:lim≤9223372036854775807) :
  Calls Tryz.prog 149 #[openerV b br,.int .i64 c,.int .i64 lim] wr fun en w'=>orFail (numM d c lim) (fun a en w'=>en=.returned (.int .i64 (a.1:Nat))∧CR Z N w0 w' b S br a.2) (Upd (fun k=>Z k∨N k) w0) en w':=by
 obtain ⟨⟨G,F,q1,q2,q3,q4⟩,q5⟩:=h;refine (onumber_R b (RG.self q2) c lim h0 h1).mono ?_;intro en w' hp;rcases hm:numM d c lim with _ | ⟨n,d'⟩
 ·rw [hm] at hp;obtain ⟨rfl,hu⟩:=hp;exact ⟨rfl,q5.then hu (fun i hi hf=>.inl ((q4 i (.inr hf)).resolve_right (by omega)))⟩
 ·rw [hm] at hp;obtain ⟨rfl,F',hr⟩:=hp;exact ⟨rfl,CR.stepR q1 q3 q4 q5 hr⟩
end Go.Proofs.YtcikldoaidmnhaaGreatDoor
namespace Go.Proofs.YtcikldoaidmnhaaGreatDoor
open Go Go.RowKit Pk Pc
set_option maxRecDepth 100000
theorem i64_and1 (n:Nat):bits .and .i64 (n:Int) 1=((n % 2:Nat):Int):=by
 have h1:(BitVec.ofInt 64 1).toNat=2 ^ 1-1:=by decide
 have key:(BitVec.ofInt 64 (n:Int) &&& BitVec.ofInt 64 1).toNat=((n:Int) % ((2 ^ 64:Nat):Int)).toNat % 2 ^ 1:=by
  rw [BitVec.toNat_and,BitVec.toNat_ofInt,h1,Nat.and_two_pow_sub_one_eq_mod]
 show IntKind.i64.wrap ((BitVec.ofInt 64 (n:Int) &&& BitVec.ofInt 64 1).toNat:Nat)=_;rw [key,IntKind.wrap_i64];omega
theorem zag_bits {n:Nat} (h:n<16777216):bits .xor .i64 ((n:Int) / 2) (wrap64 (-bits .and .i64 (n:Int) 1))=zag n:=by
 rw [i64_and1];unfold zag;rcases (by omega:n % 2=0∨n % 2=1) with h2 | h2
 ·rw [h2,if_neg (by omega)];have e:wrap64 (-((0:Nat):Int))=0:=by unfold wrap64;omega
  rw [e];show IntKind.i64.wrap ((BitVec.ofInt 64 ((n:Int) / 2) ^^^ BitVec.ofInt 64 0).toNat:Int)=_;have e1:BitVec.ofInt 64 0=0#64:=by decide
  rw [e1,BitVec.xor_zero,BitVec.toNat_ofInt,IntKind.wrap_i64];omega
 ·rw [h2,if_pos rfl];have e:wrap64 (-((1:Nat):Int))=-1:=by unfold wrap64;omega
  have e2:((n:Int) / 2)=((n / 2:Nat):Int):=by omega
  have hc:bits .xor .i64 ((n / 2:Nat):Int) (-1)=bits .xor .i64 (-1) ((n / 2:Nat):Int):=by simp only [bits,BitVec.xor_comm]
  rw [e,e2,hc,Lib.i64_not _ (by omega)]
theorem coord_num (d:D) (c near:Int):coordM d c near=match numM d c 16777216 with
  | none=>none
  | some (n,d')=>if inC (near+zag n) then some (near+zag n,d') else none:=by
 unfold coordM numM;by_cases h:(d.number c).ok=true∧((d.number c).n:Int)<16777216
 ·rw [if_pos h];by_cases h2:inC (near+zag (d.number c).n)
  ·rw [if_pos ⟨h.1,by omega,h2⟩];exact (if_pos h2).symm
  ·rw [if_neg (fun k=>h2 k.2.2)];exact (if_neg h2).symm
 ·rw [if_neg h,if_neg (fun k=>h ⟨k.1,by omega⟩)]
theorem numM_lt {d d':D} {c lim:Int} {n:Nat} (h:numM d c lim=some (n,d')):(n:Int)<lim:=by
 unfold numM at h;split at h
 ·rename_i k;obtain ⟨rfl,rfl⟩:=Prod.mk.inj (Option.some.inj h);exact k.2
 ·cases h
set_option maxHeartbeats 2000000 in
theorem oplace_any {Z N:Nat→Prop} {w0 wr:World} {b:Nat} {S:Wk} {br:Nat} {d:D} (h:CR Z N w0 wr b S br d) (c:Int) (hc:0≤c∧c≤1000) (near:Pt) (hn:nearP near) :
  Calls Tryz.prog 175 #[openerV b br,.int .i64 c,ptV near] wr fun en w'=>orFail (placeM d c near) (fun a en w'=>en=.returned (ptV a.1)∧CR Z N w0 w' b S br a.2) (Upd (fun k=>Z k∨N k) w0) en w':=by
 obtain ⟨Z1,e1,e2,e3,e4,_⟩:=h.enter (fun k=>k=wr.heap.size+1+1∨k=wr.heap.size+1+1+1) (fun k hk=>by omega);obtain ⟨n0,n1,n2⟩:=near;have HN:Hid (nearP (n0,n1,n2)):=hn;obtain ⟨w1,hw1⟩:∃w1,w1=(((wr.alloc (.cells #[.pointer (some ⟨b,0,none⟩),.pointer (some ⟨br,0,none⟩)] 183)).alloc (.cells #[.int .i64 n0,.int .i64 n1,.int .i64 n2] 43)).alloc (.cells #[.int .i64 0,.int .i64 0,.int .i64 0] 43)).alloc (.cells #[.int .i64 0,.int .i64 0,.int .i64 0] 24):=⟨_,rfl⟩;have hu1:Upd noBlk wr w1:=by rw [hw1];exact ((((Upd.refl _ wr).alloc _).alloc _).alloc _).alloc _
 have hs1:w1.heap.size=wr.heap.size+4:=by rw [hw1];simp only [World.size_alloc]
 have HO:Hid (w1.heap[wr.heap.size]?=some (.cells #[.pointer (some ⟨b,0,none⟩),.pointer (some ⟨br,0,none⟩)] 183 (0,0))):=by
  show _=_;rw [hw1];exact ((((Upd.refl noBlk _).alloc _).alloc _).alloc _).heap (heap_alloc_new wr _) id
 have HR:Hid (w1.heap[wr.heap.size+1+1]?=some (.cells #[.int .i64 0,.int .i64 0,.int .i64 0] 43 (0,0))):=by
  show _=_;rw [hw1];refine ((Upd.refl noBlk _).alloc _).heap ?_ id;have:=heap_alloc_new ((wr.alloc (.cells #[.pointer (some ⟨b,0,none⟩),.pointer (some ⟨br,0,none⟩)] 183)).alloc (.cells #[.int .i64 n0,.int .i64 n1,.int .i64 n2] 43)) (.cells #[.int .i64 0,.int .i64 0,.int .i64 0] 43);simp only [World.size_alloc] at this;exact this
 have HA:Hid (w1.heap[wr.heap.size+1+1+1]?=some (.cells #[.int .i64 0,.int .i64 0,.int .i64 0] 24 (0,0))):=by
  show _=_;rw [hw1];have:=heap_alloc_new (((wr.alloc (.cells #[.pointer (some ⟨b,0,none⟩),.pointer (some ⟨br,0,none⟩)] 183)).alloc (.cells #[.int .i64 n0,.int .i64 n1,.int .i64 n2] 43)).alloc (.cells #[.int .i64 0,.int .i64 0,.int .i64 0] 43)) (.cells #[.int .i64 0,.int .i64 0,.int .i64 0] 24);simp only [World.size_alloc] at this;exact this
 obtain ⟨g0,g1,g2⟩:w1.cell? ⟨wr.heap.size+1,0,none⟩=some (.int .i64 n0)∧w1.cell? ⟨wr.heap.size+1,1,none⟩=some (.int .i64 n1)∧w1.cell? ⟨wr.heap.size+1,2,none⟩=some (.int .i64 n2):=by
  have:w1.heap[wr.heap.size+1]?=some (.cells #[.int .i64 n0,.int .i64 n1,.int .i64 n2] 43 (0,0)):=by
   rw [hw1];refine (((Upd.refl noBlk _).alloc _).alloc _).heap ?_ id;have:=heap_alloc_new (wr.alloc (.cells #[.pointer (some ⟨b,0,none⟩),.pointer (some ⟨br,0,none⟩)] 183)) (.cells #[.int .i64 n0,.int .i64 n1,.int .i64 n2] 43);simp only [World.size_alloc] at this;exact this
  simp [World.cell?,this]
 have HOZ:Hid (¬Z1 wr.heap.size):=fun h=>by have:=e1 _ h;omega
 have HNZ:Hid (∀k,(k=wr.heap.size+1+1∨k=wr.heap.size+1+1+1)→¬Z1 k∧k<w1.heap.size):=fun k hk=>⟨fun h=>by have:=e1 _ h;omega,by omega⟩;have HC:=Lib.hid (e2 w1 hu1);have HE3:Hid (∀w' S' d',CR Z1 _ w1 w' b S' br d'→CR Z N w0 w' b S' br d'):=fun w' S' d'=>e3 w1 w' S' d' hu1;have HE4:Hid (∀w',Upd _ w1 w'→Upd (fun k=>Z k∨N k) w0 w'):=fun w'=>e4 w1 w' hu1;obtain ⟨tgt,htgt⟩:∃t,t=placeM d c (n0,n1,n2):=⟨_,rfl⟩;rw [←htgt];unfold placeM at htgt;simp only at htgt;have HT:=Lib.hid htgt;have ix0:∀(x y z:Int) (W:World),(Instr.index 24 (.agg #[.int .i64 x,.int .i64 y,.int .i64 z]) (.int .i64 0)).run Tryz.prog W=.ok (.int .i64 x) W:=fun _ _ _ _=>by kernel_rfl
 have ix1:∀(x y z:Int) (W:World),(Instr.index 24 (.agg #[.int .i64 x,.int .i64 y,.int .i64 z]) (.int .i64 1)).run Tryz.prog W=.ok (.int .i64 y) W:=fun _ _ _ _=>by kernel_rfl
 have ix2:∀(x y z:Int) (W:World),(Instr.index 24 (.agg #[.int .i64 x,.int .i64 y,.int .i64 z]) (.int .i64 2)).run Tryz.prog W=.ok (.int .i64 z) W:=fun _ _ _ _=>by kernel_rfl
 have c1:IntKind.i64.wrap (c+64)=c+64:=wrapN (by omega) (by omega);have c2:IntKind.i64.wrap (c+128)=c+128:=wrapN (by omega) (by omega);have v0:wrap64 c=c:=by unfold wrap64;omega
 have v1:wrap64 (c+64)=c+64:=by unfold wrap64;omega
 have v2:wrap64 (c+128)=c+128:=by unfold wrap64;omega
 clear htgt e1 e2 e3 e4 h hn hc hu1 hs1;unfold openerV ptV;go_enter Tryz.func175,Tryz.ntmps175
 go_upto_region 2 with fail
 rw [←hw1];clear hw1;generalize wr.heap.size=bo at *;go_wp2_with fail
 clear g0 g1 g2;have HF:=fun W=>Lib.hid (fail_any W);refine wp_loop_rounds 4 ?_;rw [rounds_succ];obtain ⟨k0,k1⟩:=cells2 (HC.out.keepObj HO.out HOZ.out (by omega));obtain ⟨Z2,q1,q2,q3,q4,q5⟩:=HC.out.enter noBlk (fun _ h=>h.elim);have HQ2:=Lib.hid q2;have HQ3:=Lib.hid (fun w' S' d'=>q3 _ w' S' d' (Upd.refl _ _));have HQ4:=Lib.hid (fun w'=>q4 _ w' (Upd.refl _ _));have HZ2:Hid (∀k,(k=bo+1+1∨k=bo+1+1+1)→¬(Z2 k∨noBlk k)):=fun k hk h=>h.elim (fun hz=>(q5 k hz).elim (HNZ.out k hk).1 (fun h=>by have:=(HNZ.out k hk).2;omega)) id;have HM:=Lib.hid (onumber_any (HQ2.out _ (Upd.refl _ _)) c 16777216 (by decide) (by decide));clear q1 q2 q3 q4 q5;go_wp2_with fail
 refine HM.out.mono ?_;intro e s0 hp;have HX:=Lib.hid (coord_num d c n0);rcases hm:numM d c 16777216 with _ | ⟨n,d1⟩
 ·rw [hm] at hp;obtain ⟨rfl,hu⟩:=hp;have HU:=Lib.hid (HE4.out _ (HQ4.out _ hu));have HTN:Hid (tgt=none):=by
   have hx:=HX.out;rw [hm] at hx;show _=_;rw [HT.out,hx]
  clear k0 k1 HM HC HF HA HO HN hu;unfold panicW;go_wp2_with fail
  refine ⟨rfl,?_⟩;rw [HTN.out];exact ⟨rfl,HU.out⟩
 rw [hm] at hp;obtain ⟨rfl,hc1⟩:=hp;have hx:=HX.out;rw [hm] at hx;have HX2:Hid (coordM d c n0=if inC (n0+zag n) then some (n0+zag n,d1) else none):=hx;have HA1:=Lib.hid (hc1.up.heap HA.out (HZ2.out _ (.inr rfl)));have HR1:=Lib.hid (hc1.up.heap HR.out (HZ2.out _ (.inl rfl)));have HC1:=Lib.hid (HQ3.out _ _ _ hc1);obtain ⟨x0,hxj⟩:∃x,x=n0+zag n:=⟨_,rfl⟩;have hw:wrap64 (n0+bits BinOp.xor IntKind.i64 ((n:Int) / 2) (wrap64 (-bits BinOp.and IntKind.i64 (n:Int) 1)))=x0:=by
  have hl:n<16777216:=by have:=numM_lt hm;omega
  rw [zag_bits hl,hxj];have hz:-8388608≤zag n∧zag n≤8388607:=by unfold zag;split<;>omega
  have hn:=HN.out;unfold nearP at hn;simp only at hn;unfold wrap64;omega
 rw [←hxj] at HX2;obtain ⟨⟨a0,a1,a2⟩,⟨f0,f1,f2⟩⟩:=cellsF3 HA1.out;clear k0 k1 HM hc1 hx HX hm hxj HC HA HR HQ2 HQ3 HQ4 HZ2;clear Z2;go_upto_region 7 with fail
 have HA:Hid ((s0.setCell ⟨bo+1+1+1,0,none⟩ (.int .i64 x0)).heap[bo+1+1+1]?=some (.cells #[.int .i64 x0,.int .i64 0,.int .i64 0] 24 (0,0))):=heap_setCell_eq (i:=0) (.int .i64 x0) HA1.out;have HR:Hid ((s0.setCell ⟨bo+1+1+1,0,none⟩ (.int .i64 x0)).heap[bo+1+1]?=some (.cells #[.int .i64 0,.int .i64 0,.int .i64 0] 43 (0,0))):=(((Upd.refl (fun k=>k=bo+1+1+1) s0).setCell (p:=⟨bo+1+1+1,0,none⟩) (fun _=>rfl) _).heap HR1.out (by omega));have HC:=Lib.hid (HC1.out.own HNZ.out ((Upd.refl _ s0).setCell (p:=⟨bo+1+1+1,0,none⟩) (fun _=>.inr rfl) (.int .i64 x0)));clear HA1 HR1 HC1 a0 a1 a2 f0 f1 f2 hw;generalize s0.setCell ⟨bo+1+1+1,0,none⟩ (.int .i64 x0)=z0 at *;obtain ⟨⟨a0,a1,a2⟩,_⟩:=cellsF3 HA.out;by_cases hni:¬inC x0
 ·have HTN:Hid (tgt=none):=by
   have hx:=HX2.out;rw [if_neg hni] at hx;show _=_;rw [HT.out,hx]
  have HU:=Lib.hid (HE4.out _ HC.out.up);have hor:x0<0∨2097151<x0:=by unfold inC at hni;omega
  clear HC HA HR HN HX2 hni;rcases hor with h1 | h1
  ·go_wp2_with fail
   refine (HF _).out.mono ?_;rintro e w3 ⟨rfl,rfl⟩;unfold panicW;go_wp2_with fail
   refine ⟨rfl,?_⟩;rw [HTN.out];exact ⟨rfl,HU.out⟩
  ·have h2:¬x0<0:=by omega
   go_wp2_with fail
   refine (HF _).out.mono ?_;rintro e w3 ⟨rfl,rfl⟩;unfold panicW;go_wp2_with fail
   refine ⟨rfl,?_⟩;rw [HTN.out];exact ⟨rfl,HU.out⟩
 have hin:=Classical.not_not.1 hni;clear hni;have hx:=HX2.out;rw [if_pos hin] at hx;have ht:=HT.out;rw [hx] at ht;simp only at ht;have HT:=Lib.hid ht;obtain ⟨h1,h2⟩:¬x0<0∧¬2097151<x0:=by unfold inC at hin;omega
 clear hx ht HX2 hin;go_wp2_with fail
 clear h1 h2 a0 a1 a2;rw [rounds_succ];obtain ⟨k0,k1⟩:=cells2 (HC.out.keepObj HO.out HOZ.out (by omega));obtain ⟨Z2,q1,q2,q3,q4,q5⟩:=HC.out.enter noBlk (fun _ h=>h.elim);have HQ2:=Lib.hid q2;have HQ3:=Lib.hid (fun w' S' d'=>q3 _ w' S' d' (Upd.refl _ _));have HQ4:=Lib.hid (fun w'=>q4 _ w' (Upd.refl _ _));have HZ2:Hid (∀k,(k=bo+1+1∨k=bo+1+1+1)→¬(Z2 k∨noBlk k)):=fun k hk h=>h.elim (fun hz=>(q5 k hz).elim (HNZ.out k hk).1 (fun h=>by have:=(HNZ.out k hk).2;omega)) id;have HM:=Lib.hid (onumber_any (HQ2.out _ (Upd.refl _ _)) (c+64) 16777216 (by decide) (by decide));clear q1 q2 q3 q4 q5;go_wp2_with fail
 refine HM.out.mono ?_;intro e s1 hp;have HX:=Lib.hid (coord_num d1 (c+64) n1);rcases hm:numM d1 (c+64) 16777216 with _ | ⟨n,d2⟩
 ·rw [hm] at hp;obtain ⟨rfl,hu⟩:=hp;have HU:=Lib.hid (HE4.out _ (HQ4.out _ hu));have HTN:Hid (tgt=none):=by
   have hx:=HX.out;rw [hm] at hx;show _=_;rw [HT.out,hx]
  clear k0 k1 HM HC HF HA HO HN hu;unfold panicW;go_wp2_with fail
  refine ⟨rfl,?_⟩;rw [HTN.out];exact ⟨rfl,HU.out⟩
 rw [hm] at hp;obtain ⟨rfl,hc1⟩:=hp;have hx:=HX.out;rw [hm] at hx;have HX2:Hid (coordM d1 (c+64) n1=if inC (n1+zag n) then some (n1+zag n,d2) else none):=hx;have HA1:=Lib.hid (hc1.up.heap HA.out (HZ2.out _ (.inr rfl)));have HR1:=Lib.hid (hc1.up.heap HR.out (HZ2.out _ (.inl rfl)));have HC1:=Lib.hid (HQ3.out _ _ _ hc1);obtain ⟨x1,hxj⟩:∃x,x=n1+zag n:=⟨_,rfl⟩;have hw:wrap64 (n1+bits BinOp.xor IntKind.i64 ((n:Int) / 2) (wrap64 (-bits BinOp.and IntKind.i64 (n:Int) 1)))=x1:=by
  have hl:n<16777216:=by have:=numM_lt hm;omega
  rw [zag_bits hl,hxj];have hz:-8388608≤zag n∧zag n≤8388607:=by unfold zag;split<;>omega
  have hn:=HN.out;unfold nearP at hn;simp only at hn;unfold wrap64;omega
 rw [←hxj] at HX2;obtain ⟨⟨a0,a1,a2⟩,⟨f0,f1,f2⟩⟩:=cellsF3 HA1.out;clear k0 k1 HM hc1 hx HX hm hxj HC HA HR HQ2 HQ3 HQ4 HZ2;clear Z2;go_upto_region 7 with fail
 have HA:Hid ((s1.setCell ⟨bo+1+1+1,1,none⟩ (.int .i64 x1)).heap[bo+1+1+1]?=some (.cells #[.int .i64 x0,.int .i64 x1,.int .i64 0] 24 (0,0))):=heap_setCell_eq (i:=1) (.int .i64 x1) HA1.out;have HR:Hid ((s1.setCell ⟨bo+1+1+1,1,none⟩ (.int .i64 x1)).heap[bo+1+1]?=some (.cells #[.int .i64 0,.int .i64 0,.int .i64 0] 43 (0,0))):=(((Upd.refl (fun k=>k=bo+1+1+1) s1).setCell (p:=⟨bo+1+1+1,1,none⟩) (fun _=>rfl) _).heap HR1.out (by omega));have HC:=Lib.hid (HC1.out.own HNZ.out ((Upd.refl _ s1).setCell (p:=⟨bo+1+1+1,1,none⟩) (fun _=>.inr rfl) (.int .i64 x1)));clear HA1 HR1 HC1 a0 a1 a2 f0 f1 f2 hw;generalize s1.setCell ⟨bo+1+1+1,1,none⟩ (.int .i64 x1)=z1 at *;obtain ⟨⟨a0,a1,a2⟩,_⟩:=cellsF3 HA.out;by_cases hni:¬inC x1
 ·have HTN:Hid (tgt=none):=by
   have hx:=HX2.out;rw [if_neg hni] at hx;show _=_;rw [HT.out,hx]
  have HU:=Lib.hid (HE4.out _ HC.out.up);have hor:x1<0∨2097151<x1:=by unfold inC at hni;omega
  clear HC HA HR HN HX2 hni;rcases hor with h1 | h1
  ·go_wp2_with fail
   refine (HF _).out.mono ?_;rintro e w3 ⟨rfl,rfl⟩;unfold panicW;go_wp2_with fail
   refine ⟨rfl,?_⟩;rw [HTN.out];exact ⟨rfl,HU.out⟩
  ·have h2:¬x1<0:=by omega
   go_wp2_with fail
   refine (HF _).out.mono ?_;rintro e w3 ⟨rfl,rfl⟩;unfold panicW;go_wp2_with fail
   refine ⟨rfl,?_⟩;rw [HTN.out];exact ⟨rfl,HU.out⟩
 have hin:=Classical.not_not.1 hni;clear hni;have hx:=HX2.out;rw [if_pos hin] at hx;have ht:=HT.out;rw [hx] at ht;simp only at ht;have HT:=Lib.hid ht;obtain ⟨h1,h2⟩:¬x1<0∧¬2097151<x1:=by unfold inC at hin;omega
 clear hx ht HX2 hin;go_wp2_with fail
 clear h1 h2 a0 a1 a2;rw [rounds_succ];obtain ⟨k0,k1⟩:=cells2 (HC.out.keepObj HO.out HOZ.out (by omega));obtain ⟨Z2,q1,q2,q3,q4,q5⟩:=HC.out.enter noBlk (fun _ h=>h.elim);have HQ2:=Lib.hid q2;have HQ3:=Lib.hid (fun w' S' d'=>q3 _ w' S' d' (Upd.refl _ _));have HQ4:=Lib.hid (fun w'=>q4 _ w' (Upd.refl _ _));have HZ2:Hid (∀k,(k=bo+1+1∨k=bo+1+1+1)→¬(Z2 k∨noBlk k)):=fun k hk h=>h.elim (fun hz=>(q5 k hz).elim (HNZ.out k hk).1 (fun h=>by have:=(HNZ.out k hk).2;omega)) id;have HM:=Lib.hid (onumber_any (HQ2.out _ (Upd.refl _ _)) (c+128) 16777216 (by decide) (by decide));clear q1 q2 q3 q4 q5;go_wp2_with fail
 refine HM.out.mono ?_;intro e s2 hp;have HX:=Lib.hid (coord_num d2 (c+128) n2);rcases hm:numM d2 (c+128) 16777216 with _ | ⟨n,d3⟩
 ·rw [hm] at hp;obtain ⟨rfl,hu⟩:=hp;have HU:=Lib.hid (HE4.out _ (HQ4.out _ hu));have HTN:Hid (tgt=none):=by
   have hx:=HX.out;rw [hm] at hx;show _=_;rw [HT.out,hx]
  clear k0 k1 HM HC HF HA HO HN hu;unfold panicW;go_wp2_with fail
  refine ⟨rfl,?_⟩;rw [HTN.out];exact ⟨rfl,HU.out⟩
 rw [hm] at hp;obtain ⟨rfl,hc1⟩:=hp;have hx:=HX.out;rw [hm] at hx;have HX2:Hid (coordM d2 (c+128) n2=if inC (n2+zag n) then some (n2+zag n,d3) else none):=hx;have HA1:=Lib.hid (hc1.up.heap HA.out (HZ2.out _ (.inr rfl)));have HR1:=Lib.hid (hc1.up.heap HR.out (HZ2.out _ (.inl rfl)));have HC1:=Lib.hid (HQ3.out _ _ _ hc1);obtain ⟨x2,hxj⟩:∃x,x=n2+zag n:=⟨_,rfl⟩;have hw:wrap64 (n2+bits BinOp.xor IntKind.i64 ((n:Int) / 2) (wrap64 (-bits BinOp.and IntKind.i64 (n:Int) 1)))=x2:=by
  have hl:n<16777216:=by have:=numM_lt hm;omega
  rw [zag_bits hl,hxj];have hz:-8388608≤zag n∧zag n≤8388607:=by unfold zag;split<;>omega
  have hn:=HN.out;unfold nearP at hn;simp only at hn;unfold wrap64;omega
 rw [←hxj] at HX2;obtain ⟨⟨a0,a1,a2⟩,⟨f0,f1,f2⟩⟩:=cellsF3 HA1.out;clear k0 k1 HM hc1 hx HX hm hxj HC HA HR HQ2 HQ3 HQ4 HZ2;clear Z2;go_upto_region 7 with fail
 have HA:Hid ((s2.setCell ⟨bo+1+1+1,2,none⟩ (.int .i64 x2)).heap[bo+1+1+1]?=some (.cells #[.int .i64 x0,.int .i64 x1,.int .i64 x2] 24 (0,0))):=heap_setCell_eq (i:=2) (.int .i64 x2) HA1.out;have HR:Hid ((s2.setCell ⟨bo+1+1+1,2,none⟩ (.int .i64 x2)).heap[bo+1+1]?=some (.cells #[.int .i64 0,.int .i64 0,.int .i64 0] 43 (0,0))):=(((Upd.refl (fun k=>k=bo+1+1+1) s2).setCell (p:=⟨bo+1+1+1,2,none⟩) (fun _=>rfl) _).heap HR1.out (by omega));have HC:=Lib.hid (HC1.out.own HNZ.out ((Upd.refl _ s2).setCell (p:=⟨bo+1+1+1,2,none⟩) (fun _=>.inr rfl) (.int .i64 x2)));clear HA1 HR1 HC1 a0 a1 a2 f0 f1 f2 hw;generalize s2.setCell ⟨bo+1+1+1,2,none⟩ (.int .i64 x2)=z2 at *;obtain ⟨⟨a0,a1,a2⟩,_⟩:=cellsF3 HA.out;by_cases hni:¬inC x2
 ·have HTN:Hid (tgt=none):=by
   have hx:=HX2.out;rw [if_neg hni] at hx;show _=_;rw [HT.out,hx]
  have HU:=Lib.hid (HE4.out _ HC.out.up);have hor:x2<0∨2097151<x2:=by unfold inC at hni;omega
  clear HC HA HR HN HX2 hni;rcases hor with h1 | h1
  ·go_wp2_with fail
   refine (HF _).out.mono ?_;rintro e w3 ⟨rfl,rfl⟩;unfold panicW;go_wp2_with fail
   refine ⟨rfl,?_⟩;rw [HTN.out];exact ⟨rfl,HU.out⟩
  ·have h2:¬x2<0:=by omega
   go_wp2_with fail
   refine (HF _).out.mono ?_;rintro e w3 ⟨rfl,rfl⟩;unfold panicW;go_wp2_with fail
   refine ⟨rfl,?_⟩;rw [HTN.out];exact ⟨rfl,HU.out⟩
 have hin:=Classical.not_not.1 hni;clear hni;have hx:=HX2.out;rw [if_pos hin] at hx;have ht:=HT.out;rw [hx] at ht;simp only at ht;have HT:=Lib.hid ht;obtain ⟨h1,h2⟩:¬x2<0∧¬2097151<x2:=by unfold inC at hin;omega
 clear hx ht HX2 hin;go_wp2_with fail
 clear h1 h2 a0 a1 a2;rw [rounds_succ];obtain ⟨⟨a0,a1,a2⟩,_⟩:=cellsF3 HA.out;obtain ⟨_,⟨f0,f1,f2⟩⟩:=cellsF3 HR.out;go_wp2_with fail
 have HZ2:=set3 (y0:=.int .i64 x0) (y1:=.int .i64 x1) (y2:=.int .i64 x2) HR.out
 (try simp only [Exit.inBlock,Exit.then])
 refine bodyPost_ret (results_cell_row rfl _ _ (bo+1+1) 43 _ (0,0) _ rfl HZ2 Tryz.underlying43 rfl (by kernel_rfl)) rfl ?_;rw [HT.out];exact ⟨rfl,HE3.out _ _ _ (HC.out.own HNZ.out ((((Upd.refl _ z2).setCell (p:=⟨bo+1+1,0,none⟩) (fun _=>.inl rfl) _).setCell (p:=⟨bo+1+1,1,none⟩) (fun _=>.inl rfl) _).setCell (p:=⟨bo+1+1,2,none⟩) (fun _=>.inl rfl) _))⟩
end Go.Proofs.YtcikldoaidmnhaaGreatDoor
