/- Parts: Maps made by stores, as functions: the last store of each key; how often a key was counted. No condition. Opening a cluster as a plain function: what was packed is opened again, whatever reader goes along. No condition. Rings at a corner: what program and reference look for is the same. No condition. Rows of the call's own from some place of their block on: what is left of a row behind 'l = l[1:]' -/
import Derived.Test.YtcikldoaidmnhaaGreatDoorQKeep1
import Derived.Test.YtcikldoaidmnhaaGreatDoorQKeep2
import Derived.Test.YtcikldoaidmnhaaGreatDoorQKeep5
import Derived.ArgAppend
import Derived.Deep.Upon
namespace Go.Proofs.YtcikldoaidmnhaaGreatDoor
open Go Go.RowKit
variable {P:Program} {α:Type}
theorem setCells_blk {g:Nat} {T:TypeId}:∀(vs:List Value) (o:Nat) (w:World) (cur:Array Value),w.heap[g]?=some (.cells cur T (0,0))→∃cur',(w.setCells g o vs).heap[g]?=some (.cells cur' T (0,0))∧cur'.size=cur.size
 | [],_,_,cur,h=>⟨cur,h,rfl⟩
 | v :: r,o,w,cur,h=>by
  obtain ⟨c',h1,h2⟩:=setCells_blk r (o+1) (w.setCell ⟨g,o,none⟩ v) _ (heap_setCell_eq (i:=o) v h);exact ⟨c',h1,by rw [h2];simp⟩
theorem setCells_upd {g:Nat}:∀(vs:List Value) (o:Nat) (w:World),Upd (fun k=>k=g) w (w.setCells g o vs)
 | [],_,w=>Upd.refl _ w
 | v :: r,o,w=>((Upd.refl (fun k=>k=g) w).setCell (p:=⟨g,o,none⟩) (fun _=>rfl) v).trans (setCells_upd r (o+1) _)
def Kd.Que (K:Kd P α) (base:Nat) (w:World) (v:Value) (l:List α):Prop:=
 (v=.slice none 0 0∧l=[])∨∃g off cap cur,v=.slice (some ⟨g,off,none⟩) l.length cap∧base≤g∧w.heap[g]?=some (.cells cur K.T (0,0))∧l.length≤cap∧cap≤maxLen∧off+cap*K.k≤cur.size∧w.rangeAt g off (l.flatMap K.enc)
theorem Kd.Que.nil (K:Kd P α) (base:Nat) (w:World):K.Que base w (.slice none 0 0) []:=.inl ⟨rfl,rfl⟩
theorem Kd.Que.form {K:Kd P α} {base:Nat} {w:World} {v:Value} {l:List α} (h:K.Que base w v l):∃A cap,v=.slice A l.length cap∧l.length≤cap:=by
 rcases h with ⟨rfl,rfl⟩ | ⟨g,off,cap,cur,rfl,_,_,h1,_⟩
 ·exact ⟨none,0,rfl,Nat.le_refl _⟩
 ·exact ⟨_,_,rfl,h1⟩
theorem Kd.Que.blk {K:Kd P α} {base:Nat} {w:World} {v:Value} {l:List α} (h:K.Que base w v l) {g:Nat} (hg:v.ownBlock=some g):base≤g∧∃cur,w.heap[g]?=some (.cells cur K.T (0,0)):=by
 rcases h with ⟨rfl,_⟩ | ⟨g',off,cap,cur,rfl,h1,h2,_⟩
 ·cases hg
 ·cases hg;exact ⟨h1,cur,h2⟩
theorem Kd.Que.keepB {K:Kd P α} {base:Nat} {w w':World} {v:Value} {l:List α} (h:K.Que base w v l) (hk:∀g,v.ownBlock=some g→w'.heap[g]?=w.heap[g]?):K.Que base w' v l:=by
 rcases h with h | ⟨g,off,cap,cur,rfl,h1,h2,h3,h4,h5,h6⟩
 ·exact .inl h
 ·have hb:=hk g rfl;exact .inr ⟨g,off,cap,cur,rfl,h1,hb.trans h2,h3,h4,h5,fun j u hu=>(World.cell?_of_block hb).trans (h6 j u hu)⟩
theorem Kd.Que.other {K:Kd P α} {F:Nat→Prop} {base:Nat} {w w':World} {v:Value} {l:List α} (h:K.Que base w v l) (hu:Upd F w w') (hF:∀g,v.ownBlock=some g→¬F g):K.Que base w' v l:=
 h.keepB (fun g hg=>by obtain ⟨_,cur,hc⟩:=h.blk hg;exact hu.block g (lt_of_heap hc) (hF g hg))
theorem Kd.Que.keep {K:Kd P α} {base:Nat} {w w':World} {v:Value} {l:List α} (h:K.Que base w v l) (hu:Upd noBlk w w'):K.Que base w' v l:=h.other hu (fun _ _=>id)
theorem Kd.Own.que {K:Kd P α} {base:Nat} {w:World} {v:Value} {l:List α} (h:K.Own base w v l):K.Que base w v l:=by
 have h0:w.ownsRow base K.T K.k v l.length (l.flatMap K.enc):=h;rcases h.2 with ⟨rfl,h1⟩ | ⟨g,cap,cur,rfl,h1,h2,h3,h4,h5,h6⟩
 ·exact .inl ⟨rfl,List.eq_nil_of_length_eq_zero h1⟩
 ·refine .inr ⟨g,0,cap,cur,rfl,h1,h2,h3,h4,by omega,fun j u hu=>?_⟩;have hj:j<l.length*K.k:=by have:=(List.getElem?_eq_some_iff.1 hu).1;rw [K.flat_len] at this;exact this
  rw [Nat.zero_add,World.ownsRow.cellAt h0 j hj];exact hu
theorem Kd.Que.rd {K:Kd P α} {base:Nat} {w:World} {v:Value} {l:List α} (h:K.Que base w v l):K.Rd w v l:=by
 rcases h with ⟨rfl,rfl⟩ | ⟨g,off,cap,cur,rfl,h1,h2,h3,h4,h5,h6⟩
 ·exact Kd.Rd.nil K w
 ·refine ⟨_,cap,rfl,h3,fun _=>⟨g,off,rfl,fun j hj i v hv=>?_⟩⟩;have hi:i<K.k:=by
   have:=(List.getElem?_eq_some_iff.1 hv).1;rw [K.len] at this;exact this
  rw [Nat.add_assoc];exact h6 _ _ (by rw [K.flat_get l j hj i hi];exact hv)
theorem Kd.Que.pop {K:Kd P α} {base:Nat} {w:World} {A:Option Addr} {cap:Nat} {x:α} {l:List α} (h:K.Que base w (.slice A (x :: l).length cap) (x :: l)):K.Que base w (sliced A 1 (x :: l).length cap K.k) l:=by
 rcases h with ⟨e,h0⟩ | ⟨g,off,cap',cur,e,h1,h2,h3,h4,h5,h6⟩
 ·cases h0
 ·cases e;rw [List.length_cons] at h3;have hl:(x :: l).length-1=l.length:=by simp
  right;by_cases hc:cap=1
  ·refine ⟨g,off,cap-1,cur,by simp [sliced,hc],h1,h2,by omega,by omega,?_,?_⟩
   ·subst hc;omega
   ·have:l=[]:=List.eq_nil_of_length_eq_zero (by omega);subst this;intro j u hu;simp at hu
  ·have hadd:(⟨g,off,none⟩:Addr).add (1*K.k)=⟨g,off+1*K.k,none⟩:=by unfold Addr.add;split<;>simp_all
   refine ⟨g,off+1*K.k,cap-1,cur,by unfold sliced;rw [if_neg hc,Option.map_some,hadd,hl],h1,h2,by omega,by omega,?_,fun j u hu=>?_⟩
   ·have:cap*K.k=1*K.k+(cap-1)*K.k:=by rw [←Nat.add_mul];congr 1;omega
    omega
   ·rw [Nat.add_assoc];refine h6 _ _ ?_;rw [List.flatMap_cons,List.getElem?_append_right (by rw [K.len];omega),K.len];rw [show 1*K.k+j-K.k=j by omega];exact hu
theorem free_blk {w:World} {g:Nat} {cur:Array Value} {T:TypeId} (h:w.heap[g]?=some (.cells cur T (0,0))) (j:Nat):w.frozen? ⟨g,j,none⟩=false:=by simp [World.frozen?,h]
theorem some_blk {w:World} {g:Nat} {cur:Array Value} {T:TypeId} (h:w.heap[g]?=some (.cells cur T (0,0))) {j:Nat} (hj:j<cur.size):(w.cell? ⟨g,j,none⟩).isSome=true:=by simp [World.cell?,h,hj]
theorem Kd.Que.app1 {K:Kd P α} {base:Nat} {w:World} {v:Value} {l:List α} (h:K.Que base w v l) (hb:base≤w.heap.size) (x:α) (hl:l.length<4294967296) :
  ∃g off cap w',(Builtin.append_ #[K.S,K.S] K.S #[v,.slice (some ⟨w.heap.size,0,none⟩) 1 1]).run P (w.alloc (.cells (K.enc x).toArray K.T))=.ok (.slice (some ⟨g,off,none⟩) (l.length+1) cap) w' ∧
   K.Que base w' (.slice (some ⟨g,off,none⟩) (l.length+1) cap) (l++[x])∧Upd (fun k=>v.ownBlock=some k) w w'∧(v.ownBlock=some g∨w.heap.size<g):=by
 rcases h with ⟨rfl,rfl⟩ | ⟨g,off,cap,cur,rfl,h1,h2,h3,h4,h5,h6⟩
 ·obtain ⟨g,cap,w',r,o,u,ha⟩:=(Kd.Own.nil K base w).app1 hb x (by simp);exact ⟨g,0,cap,w',r,o.que,u,ha⟩
 ·obtain ⟨i,z,hi,hz,k1,k2,k3⟩:=K.info;have hs:=K.small;have hsz:=K.pos;have hgl:=lt_of_heap h2;have hu1:Upd noBlk w (w.alloc (.cells (K.enc x).toArray K.T)):=(Upd.refl _ w).alloc _;have h2':=hu1.heap h2 id;have hnews:∀j u,(K.enc x)[j]?=some u→(w.alloc (.cells (K.enc x).toArray K.T)).cell? ((⟨w.heap.size,0,none⟩:Addr).add j)=some u:=by
   have hh:=World.news_of_block (cs:=(K.enc x).toArray) (t:=K.T) (fr:=(0,0)) (heap_alloc_new w (.cells (K.enc x).toArray K.T));simpa using hh
  by_cases hroom:l.length+1≤cap
  ·have hfit:off+l.length*K.k+K.k≤cur.size:=by
    have:(l.length+1)*K.k≤cap*K.k:=Nat.mul_le_mul_right _ hroom;rw [Nat.add_mul] at this;omega
   have hr:=run_append_room_cells (P:=P) (w.alloc (.cells (K.enc x).toArray K.T)) K.S K.S K.T i K.und hi g off l.length cap ⟨w.heap.size,0,none⟩ 1 1 (K.enc x) (by rw [K.len,k1];omega) hnews (K.one x) hroom
    (fun j hj=>by rw [K.len] at hj;rw [k1];exact some_blk h2' (by omega)) (fun j _=>free_blk h2' _)
   rw [k1] at hr;obtain ⟨cur',c1,c2⟩:=setCells_blk (K.enc x) (off+l.length*K.k) _ cur h2';have hu2:=setCells_upd (g:=g) (K.enc x) (off+l.length*K.k) (w.alloc (.cells (K.enc x).toArray K.T));have hfl:(l++[x]).flatMap K.enc=l.flatMap K.enc++K.enc x:=by rw [List.flatMap_append];simp
   refine ⟨g,off,cap,_,hr,.inr ⟨g,off,cap,cur',by simp,h1,c1,by simpa using hroom,h4,by omega,?_⟩,(hu1.mono (fun _ _ h=>h.elim)).trans (hu2.mono (fun k _ e=>by have e':k=g:=e;rw [e'];rfl)),.inl rfl⟩;rw [hfl];have hth:(w.alloc (.cells (K.enc x).toArray K.T)).there g (off+l.length*K.k) (K.enc x).length:=fun j hj=>by
    rw [K.len] at hj;exact ⟨some_blk h2' (by omega),free_blk h2' _⟩
   have hnew:=World.rangeAt_setCells_same _ g (off+l.length*K.k) (K.enc x) hth;have hold:=World.rangeAt_setCells_apart (w:=w.alloc (.cells (K.enc x).toArray K.T)) (World.rangeAt_alloc h6 _) g (off+l.length*K.k) (K.enc x) (.inr (.inl (by rw [K.flat_len];omega)));intro j u hu;by_cases hj:j<l.length*K.k
   ·rw [List.getElem?_append_left (by rw [K.flat_len];exact hj)] at hu;exact hold j u hu
   ·rw [List.getElem?_append_right (by rw [K.flat_len];omega),K.flat_len] at hu;have:=hnew _ _ hu;rwa [show off+l.length*K.k+(j-l.length*K.k)=off+j by omega] at this
  ·obtain ⟨v',w',hr,ho,hg⟩:=run_append_arg_grows (P:=P) (w.alloc (.cells (K.enc x).toArray K.T)) K.S K.S K.T i z K.k K.bytes K.und hi hz k1 k2 k3 K.pos ⟨g,off,none⟩ l.length cap (l.flatMap K.enc) (K.flat_len l)
    (fun j u hu=>by rw [Addr.add_mid];exact World.rangeAt_alloc h6 _ j u hu) ⟨w.heap.size,0,none⟩ 1 1 (K.enc x) (by rw [K.len];omega) hnews (by omega) (by unfold maxLen;omega)
    (Nat.le_trans (Nat.mul_le_mul (Nat.succ_le_of_lt hl) hs) (by decide))
   obtain ⟨g',cap',rfl,hb',_⟩:=ho.form (by omega);rw [World.size_alloc] at hb';have hown:K.Own base w' (.slice (some ⟨g',0,none⟩) (l.length+1) cap') (l++[x]):=by
    have:K.Own (w.heap.size+1) w' (.slice (some ⟨g',0,none⟩) (l.length+1) cap') (l++[x]):=by
     unfold Kd.Own;rw [List.flatMap_append,List.length_append];simp only [List.flatMap_cons,List.flatMap_nil,List.append_nil];rw [World.size_alloc] at ho;exact ho
    exact this.mono (by omega)
   exact ⟨g',0,cap',w',hr,hown.que,(hu1.trans (upd_of_grown hg (fun j hj _=>by cases hj))).mono (fun _ _ h=>h.elim),.inr (by omega)⟩
end Go.Proofs.YtcikldoaidmnhaaGreatDoor
namespace Go.Proofs.YtcikldoaidmnhaaGreatDoor
open Go Go.RowKit
namespace Pk
open Pc
def inP (p:Pt):Prop:=0≤p.1∧p.1≤2097151∧0≤p.2.1∧p.2.1≤2097151∧0≤p.2.2∧p.2.2≤2097151
instance (p:Pt):Decidable (inP p):=by unfold inP;infer_instance
def inT (t:Tri):Prop:=inP t.1∧inP t.2.1∧inP t.2.2
theorem RotE.inT {s t:Tri} (h:RotE s t) (k:inT t):inT s:=by
 obtain ⟨h1,h2,h3⟩:=k;rcases h with rfl | rfl | rfl
 ·exact ⟨h1,h2,h3⟩
 ·exact ⟨h2,h3,h1⟩
 ·exact ⟨h3,h1,h2⟩
theorem coordT_in {t:Tri}:coordT t=true↔inT t:=by
 unfold coordT inT inP;simp only [List.all_cons,List.all_nil,Bool.and_true,Bool.and_eq_true,decide_eq_true_eq]
def inC (n:Int):Prop:=0≤n∧n≤2097151
instance (n:Int):Decidable (inC n):=by unfold inC;infer_instance
def coordM (d:D) (c near:Int):Option (Int × D):=if (d.number c).ok=true∧(d.number c).n<16777216∧inC (near+zag (d.number c).n) then some (near+zag (d.number c).n,(d.number c).d) else none
def placeM (d:D) (c:Int) (near:Pt):Option (Pt × D):=
 match coordM d c near.1 with
 | none=>none
 | some (x,d1)=>match coordM d1 (c+64) near.2.1 with
  | none=>none
  | some (y,d2)=>match coordM d2 (c+128) near.2.2 with
   | none=>none
   | some (z,d3)=>some ((x,y,z),d3)
def getK (known:List Pt) (n:Nat):Pt:=known.getD (known.length-1-n) (0,0,0)
def cornerM (strict:Bool) (d:D) (known:List Pt) (near:Pt) (bit number place:Int):Option (Pt × List Pt × D):=
 if d.one bit then
  if ((d.bit bit).number number).ok=true∧((d.bit bit).number number).n<known.length then some (getK known ((d.bit bit).number number).n,known,((d.bit bit).number number).d) else none
 else match placeM (d.bit bit) place near with
  | none=>none
  | some (p,d')=>if strict=true∧p∈known then none else some (p,meetK known p,d')
def freeT (strict:Bool) (tris:List Tri) (t:Tri):Prop:=(strict=true∨(edgesT t).Nodup)∧∀e,e∈edgesT t→e∉edgesL tris
instance (strict:Bool) (tris:List Tri) (t:Tri):Decidable (freeT strict tris t):=by unfold freeT;infer_instance
def visitM (strict:Bool) (w:Wk) (t:Tri) (first:Nat) (d:D):Option (D × Wk):=if freeT strict w.tris t then some (d,w.visit t first) else none
def stepM (strict:Bool) (d:D) (w:Wk):Option (D × Wk):=
 match openG w.tris w.gates with
 | g :: r=>if d.one 1 then match cornerM strict (d.bit 1) w.known (expG g) 2 128 448 with
   | none=>none
   | some (p,k,d')=>visitM strict ⟨k,w.tris,r⟩ (g.1,g.2.1,p) 1 d'
  else some (d.bit 1,⟨w.known,w.tris,r⟩)
 | []=>match cornerM strict d w.known (lastK w.known) 0 192 256 with
  | none=>none
  | some (p,k1,d1)=>match cornerM strict d1 k1 (lastK k1) 0 192 256 with
   | none=>none
   | some (q,k2,d2)=>match cornerM strict d2 k2 (lastK k2) 0 192 256 with
    | none=>none
    | some (r,k3,d3)=>visitM strict ⟨k3,w.tris,[]⟩ (p,q,r) 0 d3
def runM (strict:Bool) (many:Nat):Nat→D→Wk→Option (List Tri)
 | 0,_,w=>if many≤w.tris.length then some w.tris else none
 | f+1,d,w=>if many≤w.tris.length then some w.tris else match stepM strict d w with
  | none=>none
  | some (d',w')=>runM strict many f d' w'
def openM (strict:Bool):List Nat→Option (List Tri)
 | 1 :: code=>if ((D.ofCode code).number 64).ok=true∧((D.ofCode code).number 64).n<129 then runM strict ((D.ofCode code).number 64).n (4*((D.ofCode code).number 64).n) ((D.ofCode code).number 64).d Wk.init else none
 | _=>none
structure Fine (c:List Tri):Prop where
 nod:(edgesL c).Nodup
 ins:∀t,t∈c→inT t
 len:c.length≤128
theorem perm_of_sub {α:Type} [DecidableEq α]:∀{l m:List α},l.Nodup→(∀x,x∈l→x∈m)→m.length≤l.length→l.Perm m
 | [],m,_,_,h=>by
  have:m=[]:=List.eq_nil_of_length_eq_zero (by simpa using h);subst this;exact List.Perm.refl _
 | a :: l,m,hn,hs,h=>by
  obtain ⟨n1,n2⟩:=List.nodup_cons.1 hn;have ha:a∈m:=hs a (by simp);have hp:m.Perm (a :: m.erase a):=List.perm_cons_erase ha;have hl:=hp.length_eq;simp only [List.length_cons] at hl h;refine List.Perm.trans (List.Perm.cons a (perm_of_sub n2 (fun x hx=>?_) (by omega))) hp.symm;have hne:x≠a:=fun e=>n1 (e ▸ hx);exact (List.mem_erase_of_ne hne).2 (hs x (by simp [hx]))
theorem len_of_sub {α:Type} [DecidableEq α]:∀{l m:List α},l.Nodup→(∀x,x∈l→x∈m)→l.length≤m.length
 | [],m,_,_=>Nat.zero_le _
 | a :: l,m,hn,hs=>by
  obtain ⟨n1,n2⟩:=List.nodup_cons.1 hn;have ha:a∈m:=hs a (by simp);have hl:=(List.perm_cons_erase ha).length_eq;simp only [List.length_cons] at hl ⊢;have:=len_of_sub (m:=m.erase a) n2 (fun x hx=>(List.mem_erase_of_ne (fun e:x=a=>n1 (e ▸ hx))).2 (hs x (by simp [hx])));omega
theorem edgesL_length (l:List Tri):(edgesL l).length=3*l.length:=by
 induction l with
 | nil=>rfl
 | cons t l ih=>rw [edgesL_cons,List.length_append,ih,List.length_cons,show (edgesT t).length=3 from rfl];omega
theorem edgesL_app (l:List Tri) (t:Tri):edgesL (l++[t])=edgesL l++edgesT t:=by unfold edgesL;rw [List.flatMap_append];simp
structure Inv (c:List Tri) (w:Wk):Prop where
 sub:∀t,t∈w.tris→∃t',t'∈c∧RotE t t'
 nod:(edgesL w.tris).Nodup
 known:∀p,p∈w.known→inP p
 gates:∀g,g∈w.gates→inP g.1∧inP g.2.1∧inP g.2.2
theorem Inv.init (c:List Tri):Inv c Wk.init:=⟨fun t h=>(by cases h),List.nodup_nil,fun p h=>(by cases h),fun g h=>(by cases h)⟩
theorem Inv.used_all {c:List Tri} {w:Wk} (h:Inv c w) (hc:(edgesL c).Nodup) {t:Tri} (ht:t∈c) {e:Pt × Pt} (h1:e∈edgesT t) (h2:e∈edgesL w.tris):∀e',e'∈edgesT t→e'∈edgesL w.tris:=by
 obtain ⟨s,k1,k2⟩:=mem_edgesL.1 h2;obtain ⟨t',k3,k4⟩:=h.sub s k1;have:=edge_once hc k3 ht (k4.edges.mem_iff.1 k2) h1;subst this;exact fun e' he'=>mem_edgesL.2 ⟨s,k1,k4.edges.mem_iff.2 he'⟩
theorem Inv.free {c:List Tri} {w:Wk} (h:Inv c w) (hc:(edgesL c).Nodup) {s t:Tri} (ht:t∈c) (hr:RotE s t) {e:Pt × Pt} (h1:e∈edgesT s) (h2:e∉edgesL w.tris) (strict:Bool):freeT strict w.tris s∧(edgesT s).Nodup:=
 have hn:=(hr.edges.nodup_iff).2 (edgesT_nodup hc ht)
 ⟨⟨.inr hn,fun _ he' hu=>h2 (h.used_all hc ht (hr.edges.mem_iff.1 he') hu e (hr.edges.mem_iff.1 h1))⟩,hn⟩
theorem gatesT_in {t:Tri} (h:inT t) {g:Gate} (hg:g∈gatesT t):inP g.1∧inP g.2.1∧inP g.2.2:=by
 obtain ⟨h1,h2,h3⟩:=h;simp only [gatesT,List.mem_cons,List.not_mem_nil,or_false] at hg;rcases hg with rfl | rfl | rfl
 ·exact ⟨h2,h1,h3⟩
 ·exact ⟨h3,h2,h1⟩
 ·exact ⟨h1,h3,h2⟩
theorem Inv.visit {c:List Tri} {w:Wk} (h:Inv c w) {s t:Tri} (ht:t∈c) (hr:RotE s t) (hf:freeT false w.tris s) (hi:inT s) (known:List Pt) (hk:∀p,p∈known→inP p) (gates:List Gate) (hg:∀g,g∈gates→inP g.1∧inP g.2.1∧inP g.2.2) (first:Nat) :
  Inv c ((⟨known,w.tris,gates⟩:Wk).visit s first):=by
 refine ⟨fun u hu=>?_,?_,hk,fun g hg'=>?_⟩
 ·rcases List.mem_append.1 hu with hu | hu
  ·exact h.sub u hu
  ·rw [List.mem_singleton] at hu;subst hu;exact ⟨t,ht,hr⟩
 ·show (edgesL (w.tris++[s])).Nodup;rw [edgesL_app,List.nodup_append];refine ⟨h.nod,?_,fun a ha b hb hab=>hf.2 b hb (hab ▸ ha)⟩;rcases hf.1 with k | k
  ·cases k
  ·exact k
 ·rcases List.mem_append.1 hg' with hg' | hg'
  ·exact hg g hg'
  ·exact gatesT_in hi (List.mem_of_mem_drop hg')
theorem meetK_in {known:List Pt} (h:∀p,p∈known→inP p) {q:Pt} (hq:inP q):∀p,p∈meetK known q→inP p:=by
 intro p hp;unfold meetK at hp;split at hp
 ·exact h p hp
 ·rcases List.mem_append.1 hp with hp | hp
  ·exact h p hp
  ·rw [List.mem_singleton] at hp;subst hp;exact hq
theorem lastK_in {known:List Pt} (h:∀p,p∈known→inP p):inP (lastK known):=by
 unfold lastK;cases hl:known.getLast? with
 | none=>simp [inP]
 | some p=>exact h p (List.mem_of_getLast? hl)
theorem openG_mem {tris:List Tri}:∀{gates:List Gate} {g:Gate},g∈openG tris gates→g∈gates
 | [],_,h=>h
 | a :: l,g,h=>by
  rw [openG] at h;split at h
  ·exact List.mem_cons_of_mem _ (openG_mem h)
  ·exact h
theorem openG_head {tris:List Tri}:∀{gates:List Gate} {g:Gate} {r:List Gate},openG tris gates=g :: r→third tris g.1 g.2.1=none
 | [],_,_,h=>by cases h
 | a :: l,g,r,h=>by
  rw [openG] at h;split at h
  ·exact openG_head h
  ·rename_i hn;cases h;simpa using hn
theorem Inv.seed {c:List Tri} {w:Wk} (h:Inv c w) (hc:(edgesL c).Nodup) (hl:w.tris.length<c.length):∃t,seedT c w.tris=some t∧t∈c∧(t.1,t.2.1)∉edgesL w.tris:=by
 cases hs:seedT c w.tris with
 | some t=>
  refine ⟨t,rfl,List.mem_of_find?_eq_some hs,?_⟩;have h1:=List.find?_some hs;have h2:=third_isSome w.tris t.1 t.2.1;intro hm;rw [decide_eq_true hm] at h2;rw [Option.isNone_iff_eq_none] at h1;rw [h1] at h2;cases h2
 | none=>
  exfalso;have h1:∀t,t∈c→(t.1,t.2.1)∈edgesL w.tris:=fun t ht=>by
   have h2:=List.find?_eq_none.1 hs t ht;have h3:=third_isSome w.tris t.1 t.2.1;cases h4:third w.tris t.1 t.2.1 with
   | none=>rw [h4] at h2;exact absurd rfl h2
   | some r=>rw [h4] at h3;exact of_decide_eq_true h3.symm
  have h2:∀e,e∈edgesL c→e∈edgesL w.tris:=fun e he=>by
   obtain ⟨t,k1,k2⟩:=mem_edgesL.1 he;exact h.used_all hc k1 (e:=(t.1,t.2.1)) (by simp [edgesT]) (h1 t k1) e k2
  have h3:=len_of_sub hc h2;rw [edgesL_length,edgesL_length] at h3;omega
theorem zig_small {x near:Int} (h0:0≤x) (h1:x≤2097151) (h2:-2097151≤near) (h3:near≤4194302):zig (x-near)<16777216:=by unfold zig;split<;>omega
theorem coord_good {d:D} {c x near:Int} {r:Bits} (h0:0≤x) (h1:x≤2097151) (h2:-2097151≤near) (h3:near≤4194302) (h:Pc.Good d (numBits c (zig (x-near))++r)):∃d',coordM d c near=some (x,d')∧Pc.Good d' r:=by
 have hz:=zig_small h0 h1 h2 h3;obtain ⟨k1,k2,k3⟩:=number_good (by omega) h;have e:near+zag (zig (x-near))=x:=by rw [zag_zig];omega
 refine ⟨(d.number c).d,?_,k3⟩;unfold coordM;rw [k1,k2,e,if_pos ⟨rfl,hz,h0,h1⟩]
def nearP (p:Pt):Prop:=(-2097151≤p.1∧p.1≤4194302)∧(-2097151≤p.2.1∧p.2.1≤4194302)∧(-2097151≤p.2.2∧p.2.2≤4194302)
theorem near_of_in {p:Pt} (h:inP p):nearP p:=by unfold inP at h;unfold nearP;omega
theorem near_exp {g:Gate} (h:inP g.1∧inP g.2.1∧inP g.2.2):nearP (expG g):=by
 obtain ⟨h1,h2,h3⟩:=h;unfold inP at h1 h2 h3;unfold nearP expG;simp only;omega
theorem place_good {d:D} {c:Int} {p near:Pt} {r:Bits} (hp:inP p) (hn:nearP near) (h:Pc.Good d (placeB c p near++r)):∃d',placeM d c near=some (p,d')∧Pc.Good d' r:=by
 obtain ⟨p1,p2,p3,p4,p5,p6⟩:=hp;obtain ⟨n1,n2,n3⟩:=hn;unfold placeB at h;rw [List.append_assoc,List.append_assoc] at h;obtain ⟨d1,e1,g1⟩:=coord_good p1 p2 n1.1 n1.2 h;obtain ⟨d2,e2,g2⟩:=coord_good p3 p4 n2.1 n2.2 g1;obtain ⟨d3,e3,g3⟩:=coord_good p5 p6 n3.1 n3.2 g2;refine ⟨d3,?_,g3⟩;unfold placeM;rw [e1];simp only;rw [e2];simp only;rw [e3]
theorem corner_good (strict:Bool) {d:D} {known:List Pt} {p near:Pt} {bit number place:Int} {r:Bits} (hp:inP p) (hn:nearP near) (hk:known.length<1000000) (h:Pc.Good d (cornerB known p near bit number place++r)) :
  ∃d',cornerM strict d known near bit number place=some (p,meetK known p,d')∧Pc.Good d' r:=by
 unfold cornerB at h;by_cases hm:p∈known
 ·rw [if_pos hm] at h;obtain ⟨h1,h2⟩:=Pc.Good.head h;simp only at h1 h2;have hlt:=List.idxOf_lt_length_iff.2 hm;obtain ⟨k1,k2,k3⟩:=number_good (by omega) h2;refine ⟨((d.bit bit).number number).d,?_,k3⟩;unfold cornerM;rw [h1,if_pos rfl,k1,k2,if_pos ⟨rfl,by omega⟩];have e:getK known (known.length-1-known.idxOf p)=p:=by
   unfold getK;rw [show known.length-1-(known.length-1-known.idxOf p)=known.idxOf p by omega,List.getD_eq_getElem?_getD,List.getElem?_eq_getElem hlt,List.getElem_idxOf hlt];rfl
  rw [e];unfold meetK;rw [if_pos hm]
 ·rw [if_neg hm] at h;obtain ⟨h1,h2⟩:=Pc.Good.head h;simp only at h1 h2;obtain ⟨d',e,g⟩:=place_good hp hn h2;refine ⟨d',?_,g⟩;unfold cornerM;rw [h1,if_neg (by simp),e];simp only;rw [if_neg (fun k=>hm k.2)]
theorem meetK_len (known:List Pt) (p:Pt):(meetK known p).length≤known.length+1:=by unfold meetK;split<;>simp
theorem step_lock (strict:Bool) {c:List Tri} {w:Wk} (hc:Fine c) (h:Inv c w) (hl:w.tris.length<c.length) (hk:w.known.length<900000) :
  ∃b w',stepW c w=some (b,w')∧Inv c w'∧w'.known.length≤w.known.length+3∧∀d r,Pc.Good d (b++r)→∃d',stepM strict d w=some (d',w')∧Pc.Good d' r:=by
 unfold stepW stepM;cases hg:openG w.tris w.gates with
 | cons g r=>
  simp only;have hgm:∀x,x∈g :: r→x∈w.gates:=fun x hx=>openG_mem (hg ▸ hx);have hgi:=h.gates g (hgm g (by simp));have hri:∀x,x∈r→inP x.1∧inP x.2.1∧inP x.2.2:=fun x hx=>h.gates x (hgm x (by simp [hx]));cases ht:third c g.1 g.2.1 with
  | none=>
   simp only;refine ⟨_,_,rfl,⟨h.sub,h.nod,h.known,hri⟩,by simp,fun d s hd=>?_⟩;obtain ⟨h1,h2⟩:=Pc.Good.head hd;simp only at h1 h2;exact ⟨_,by rw [h1];rfl,h2⟩
  | some p=>
   simp only;obtain ⟨t,k1,k2⟩:=third_some ht;have hp:inP p:=(k2.inT (hc.ins t k1)).2.2;have hnone:=openG_head hg;have hu:(g.1,g.2.1)∉edgesL w.tris:=fun hm=>by
    have:=third_isSome w.tris g.1 g.2.1;rw [hnone,decide_eq_true hm] at this;cases this
   obtain ⟨hf,hn⟩:=h.free hc.nod k1 k2 (e:=(g.1,g.2.1)) (by simp [edgesT]) hu strict;obtain ⟨hf0,_⟩:=h.free hc.nod k1 k2 (e:=(g.1,g.2.1)) (by simp [edgesT]) hu false;refine ⟨_,_,rfl,h.visit k1 k2 hf0 (k2.inT (hc.ins t k1)) _ (meetK_in h.known hp) _ hri 1,?_,fun d s hd=>?_⟩
   ·have:=meetK_len w.known p;show (meetK w.known p).length≤_;omega
   ·obtain ⟨h1,h2⟩:=Pc.Good.head hd;simp only at h1 h2;obtain ⟨d',e,gd⟩:=corner_good strict (known:=w.known) (near:=expG g) hp (near_exp hgi) (by omega) h2;refine ⟨d',?_,gd⟩;rw [h1,if_pos rfl,e];simp only;unfold visitM;rw [if_pos hf]
 | nil=>
  simp only;obtain ⟨t,e,k1,k2⟩:=h.seed hc.nod hl;rw [e];simp only;obtain ⟨hf,hn⟩:=h.free hc.nod k1 (RotE.refl t) (e:=(t.1,t.2.1)) (by simp [edgesT]) k2 strict;obtain ⟨hf0,_⟩:=h.free hc.nod k1 (RotE.refl t) (e:=(t.1,t.2.1)) (by simp [edgesT]) k2 false;obtain ⟨i1,i2,i3⟩:=hc.ins t k1;have m1:=meetK_in h.known i1;have m2:=meetK_in m1 i2;have m3:=meetK_in m2 i3;have l1:=meetK_len w.known t.1;have l2:=meetK_len (meetK w.known t.1) t.2.1;have l3:=meetK_len (meetK (meetK w.known t.1) t.2.1) t.2.2;refine ⟨_,_,rfl,h.visit k1 (RotE.refl t) hf0 ⟨i1,i2,i3⟩ _ m3 _ (fun g hg=>by cases hg) 0,?_,fun d s hd=>?_⟩
  ·show (meetK (meetK (meetK w.known t.1) t.2.1) t.2.2).length≤_;omega
  ·rw [List.append_assoc,List.append_assoc] at hd;obtain ⟨d1,e1,g1⟩:=corner_good strict i1 (near_of_in (lastK_in h.known)) (by omega) hd;obtain ⟨d2,e2,g2⟩:=corner_good strict i2 (near_of_in (lastK_in m1)) (by omega) g1;obtain ⟨d3,e3,g3⟩:=corner_good strict i3 (near_of_in (lastK_in m2)) (by omega) g2;refine ⟨d3,?_,g3⟩;rw [e1];simp only;rw [e2];simp only;rw [e3];simp only;unfold visitM;rw [if_pos hf]
theorem run_lock (strict:Bool) {c:List Tri} (hc:Fine c):∀(f:Nat) (w:Wk) (d:D),Inv c w→w.left c≤f→w.known.length+3*f<900000→Pc.Good d (walkB c f w) →
  ∃T,runM strict c.length f d w=some T∧c.length≤T.length∧(∀t,t∈T→∃t',t'∈c∧RotE t t')∧(edgesL T).Nodup
 | 0,w,d,h,hf,_,_=>by
  have hl:c.length≤w.tris.length:=by unfold Wk.left at hf;omega
  exact ⟨w.tris,by rw [runM,if_pos hl],hl,h.sub,h.nod⟩
 | f+1,w,d,h,hf,hk,hd=>by
  rw [walkB] at hd;rw [runM];by_cases hl:c.length≤w.tris.length
  ·rw [if_pos hl];exact ⟨w.tris,rfl,hl,h.sub,h.nod⟩
  ·rw [if_neg hl] at hd ⊢;obtain ⟨b,w',e1,e2,e3,e4⟩:=step_lock strict hc h (by omega) (by omega);rw [e1] at hd;simp only at hd;obtain ⟨d',k1,k2⟩:=e4 d _ hd;rw [k1];simp only;have hlt:=step_left (by omega) e1;exact run_lock strict hc f w' d' e2 (by omega) (by omega) k2
theorem open_pack (strict:Bool) {c:List Tri} (hc:Fine c):∃T,openM strict (packC c)=some T∧Alike T c:=by
 unfold packC openM;have hg:=Pc.Good.start (bitsC c);unfold bitsC at hg;obtain ⟨k1,k2,k3⟩:=number_good (by have:=hc.len;omega) hg;have h0:Wk.init.left c=4*c.length:=by unfold Wk.left Wk.init;simp
 rw [h0] at k3;obtain ⟨T,r1,r2,r3,r4⟩:=run_lock strict hc (4*c.length) Wk.init _ (Inv.init c) (by rw [h0];exact Nat.le_refl _) (by have:=hc.len;show 0+_<_;omega) k3;refine ⟨T,?_,?_⟩
 ·unfold bitsC;simp only;rw [k1,k2,if_pos ⟨rfl,by have:=hc.len;omega⟩];exact r1
 ·unfold Alike;have hn1:(T.map nrm).Nodup:=by
   have:∀l:List Tri,(edgesL l).Nodup→(l.map nrm).Nodup:=fun l=>by
    induction l with
    | nil=>intro _;exact List.nodup_nil
    | cons a l ih=>
     intro hn;rw [edgesL_cons,List.nodup_append] at hn;rw [List.map_cons,List.nodup_cons];refine ⟨fun hm=>?_,ih hn.2.1⟩;obtain ⟨s,s1,s2⟩:=List.mem_map.1 hm;have hr:RotE a s:=(nrm_rot a).symm.trans (by rw [←s2];exact nrm_rot s);exact hn.2.2 (a.1,a.2.1) (by simp [edgesT]) (a.1,a.2.1) (mem_edgesL.2 ⟨s,s1,hr.edges.mem_iff.1 (by simp [edgesT])⟩) rfl
   exact this T r4
  refine perm_of_sub hn1 (fun x hx=>?_) (by rw [List.length_map,List.length_map];exact r2);obtain ⟨t,h1,rfl⟩:=List.mem_map.1 hx;obtain ⟨t',h2,h3⟩:=r3 t h1;exact List.mem_map.2 ⟨t',h2,(nrm_eq h3).symm⟩
theorem fine_of_packable {l:List Tri} (h:packable l=true):Fine l∧(∀t,t∈l→flatT t=false):=by
 unfold packable at h;simp only [Bool.and_eq_true,decide_eq_true_eq] at h;obtain ⟨⟨h1,h2⟩,h3⟩:=h;obtain ⟨k1,k2,_⟩:=checkO_zero.1 h3;exact ⟨⟨k2,fun t ht=>coordT_in.1 (List.all_eq_true.1 h1 t ht),h2⟩,k1⟩
theorem packable_canon {l:List Tri}:packable (canon l)=packable l:=(canon_alike l).packable
noncomputable def openN (s:List Nat):Option (List Tri):=match openM false s with
 | none=>none
 | some T=>if clusterN (canon T)=s then some (canon T) else none
theorem open_cluster (strict:Bool) {l:List Tri} (h:packable l=true):∃T,openM strict (clusterN l)=some T∧canon T=canon l∧clusterN T=clusterN l:=by
 have hc:packable (canon l)=true:=by rw [packable_canon];exact h
 obtain ⟨hf,hfl⟩:=fine_of_packable hc;obtain ⟨T,e,ha⟩:=open_pack strict hf;refine ⟨T,by unfold clusterN;rw [if_pos h];exact e,?_,(ha.trans (canon_alike l)).cluster⟩;have:=ha.symm.canon hfl;rw [←this,canon_idem]
end Pk
end Go.Proofs.YtcikldoaidmnhaaGreatDoor
namespace Go.Proofs.YtcikldoaidmnhaaGreatDoor
open Go Go.RowKit
namespace Pk
def ringLoop (l:List Tri) (p tq:Pt) (M:Nat):Nat→Nat→Pt→Bool
 | 0,size,at_=>decide (at_=tq∧size<M)
 | f+1,size,at_=>if at_≠tq∧size≤M then match third l p at_ with
   | none=>decide (at_=tq∧size<M)
   | some b=>ringLoop l p tq M f (size+1) b
  else decide (at_=tq∧size<M)
theorem ringLoop_iff (l:List Tri) (p tq:Pt) (M:Nat):∀(f size:Nat) (at_:Pt),M+1≤size+f→(ringLoop l p tq M f size at_=true↔∃k,size+k<M∧ringN l p k at_=some tq)
 | 0,size,at_,h=>by
  rw [ringLoop,decide_eq_true_eq];exact ⟨fun k=>absurd k.2 (by omega),fun ⟨k,h1,_⟩=>absurd h1 (by omega)⟩
 | f+1,size,at_,h=>by
  rw [ringLoop];by_cases h1:at_≠tq∧size≤M
  ·rw [if_pos h1];cases h2:third l p at_ with
   | none=>
    simp only;rw [decide_eq_true_eq];refine ⟨fun k=>absurd k.1 h1.1,fun ⟨k,h3,h4⟩=>?_⟩;cases k with
    | zero=>rw [ringN] at h4;cases h4;exact absurd rfl h1.1
    | succ k=>rw [ringN,h2] at h4;cases h4
   | some b=>
    simp only;rw [ringLoop_iff l p tq M f (size+1) b (by omega)];constructor
    ·rintro ⟨k,h3,h4⟩;exact ⟨k+1,by omega,by rw [ringN,h2];exact h4⟩
    ·rintro ⟨k,h3,h4⟩;cases k with
     | zero=>rw [ringN] at h4;cases h4;exact absurd rfl h1.1
     | succ k=>rw [ringN,h2] at h4;exact ⟨k,by omega,h4⟩
  ·rw [if_neg h1,decide_eq_true_eq];constructor
   ·rintro ⟨rfl,h3⟩;exact ⟨0,h3,rfl⟩
   ·rintro ⟨k,h3,h4⟩;refine ⟨?_,by omega⟩;by_cases e:at_=tq
    ·exact e
    ·exact absurd ⟨e,by omega⟩ h1
def hitE (l:List Tri) (e:Pt × Pt):Bool:=(List.range (manyC l e.1)).any (fun n=>decide (1≤n)&&(ringN l e.1 n e.2 == some e.2))
theorem hitE_iff (l:List Tri) (e:Pt × Pt):hitE l e=true↔∃n,1≤n∧n<manyC l e.1∧ringN l e.1 n e.2=some e.2:=by
 unfold hitE;rw [List.any_eq_true];constructor
 ·rintro ⟨n,h1,h2⟩;simp only [Bool.and_eq_true,decide_eq_true_eq,beq_iff_eq] at h2;exact ⟨n,h2.1,List.mem_range.1 h1,h2.2⟩
 ·rintro ⟨n,h1,h2,h3⟩;exact ⟨n,List.mem_range.2 h2,by simp [h1,h3]⟩
theorem pinched_any (l:List Tri):pinched l=(edgesL l).any (hitE l):=rfl
theorem ring_prog (l:List Tri) (e:Pt × Pt) {at0:Pt} (h:third l e.1 e.2=some at0):ringLoop l e.1 e.2 (manyC l e.1) (manyC l e.1) 1 at0=hitE l e:=by
 rw [Bool.eq_iff_iff,ringLoop_iff l e.1 e.2 _ _ _ _ (by omega),hitE_iff];constructor
 ·rintro ⟨k,h1,h2⟩;exact ⟨k+1,by omega,by omega,by rw [ringN,h];exact h2⟩
 ·rintro ⟨n,h1,h2,h3⟩;obtain ⟨k,rfl⟩:∃k,n=k+1:=⟨n-1,by omega⟩;rw [ringN,h] at h3;exact ⟨k,by omega,h3⟩
end Pk
end Go.Proofs.YtcikldoaidmnhaaGreatDoor
namespace Go.Proofs.YtcikldoaidmnhaaGreatDoor
open Go Go.RowKit
namespace Pk
def putAll {κ β:Type} [DecidableEq κ] (ps:List (κ × β)):κ→Option β:=ps.foldl (fun f p=>fun c=>if c=p.1 then some p.2 else f c) (fun _=>none)
theorem putAll_snoc {κ β:Type} [DecidableEq κ] (ps:List (κ × β)) (k:κ) (v:β):(fun c=>if c=k then some v else putAll ps c)=putAll (ps++[(k,v)]):=by unfold putAll;rw [List.foldl_append];rfl
theorem put_from {κ β:Type} [DecidableEq κ] (e:κ):∀(ps:List (κ × β)) (f:κ→Option β),(e∉ps.map (·.1)→ps.foldl (fun f p=>fun c=>if c=p.1 then some p.2 else f c) f e=f e)∧(∀v,(ps.map (·.1)).Nodup→(e,v)∈ps→ps.foldl (fun f p=>fun c=>if c=p.1 then some p.2 else f c) f e=some v)
 | [],f=>⟨fun _=>rfl,fun v _ h=>(by cases h)⟩
 | p :: ps,f=>by
  obtain ⟨h1,h2⟩:=put_from e ps (fun c=>if c=p.1 then some p.2 else f c);refine ⟨fun h=>?_,fun v hn h=>?_⟩
  ·simp only [List.map_cons,List.mem_cons,not_or] at h;rw [List.foldl_cons,h1 h.2,if_neg h.1]
  ·rw [List.map_cons,List.nodup_cons] at hn;rw [List.foldl_cons];rcases List.mem_cons.1 h with h | h
   ·subst h;rw [h1 hn.1,if_pos rfl]
   ·exact h2 v hn.2 h
theorem putAll_none {κ β:Type} [DecidableEq κ] {ps:List (κ × β)} {e:κ} (h:e∉ps.map (·.1)):putAll ps e=none:=(put_from e ps _).1 h
theorem putAll_some {κ β:Type} [DecidableEq κ] {ps:List (κ × β)} {e:κ} {v:β} (hn:(ps.map (·.1)).Nodup) (h:(e,v)∈ps):putAll ps e=some v:=(put_from e ps _).2 v hn h
def pairsT (t:Tri):List ((Pt × Pt) × Pt):=[((t.1,t.2.1),t.2.2),((t.2.1,t.2.2),t.1),((t.2.2,t.1),t.2.1)]
def pairsL (l:List Tri):List ((Pt × Pt) × Pt):=l.flatMap pairsT
theorem pairsL_snoc (l:List Tri) (t:Tri):pairsL (l++[t])=pairsL l++[((t.1,t.2.1),t.2.2)]++[((t.2.1,t.2.2),t.1)]++[((t.2.2,t.1),t.2.1)]:=by unfold pairsL;rw [List.flatMap_append];simp [pairsT]
theorem pairsL_keys (l:List Tri):(pairsL l).map (·.1)=edgesL l:=by
 induction l with
 | nil=>rfl
 | cons t l ih=>
  show (pairsT t++pairsL l).map (·.1)=edgesT t++edgesL l;rw [List.map_append,ih];rfl
theorem putAll_pairs {l:List Tri} (hn:(edgesL l).Nodup) (e:Pt × Pt):putAll (pairsL l) e=third l e.1 e.2:=by
 have hk:=pairsL_keys l;cases h:third l e.1 e.2 with
 | none=>
  refine putAll_none ?_;rw [hk];intro hm;have:=third_isSome l e.1 e.2;rw [h,decide_eq_true hm] at this;cases this
 | some r=>
  refine putAll_some (by rw [hk];exact hn) ?_;obtain ⟨t,k1,k2⟩:=third_some h;refine List.mem_flatMap.2 ⟨t,k1,?_⟩;obtain ⟨p,q⟩:=e;obtain ⟨a,b,c⟩:=t;rcases k2 with k2 | k2 | k2<;>(cases k2;simp [pairsT])
def cntF (ps:List Pt):Pt→Option Int:=fun p=>if p∈ps then some (ps.count p:Nat) else none
theorem cntF_val (ps:List Pt) (p:Pt):(cntF ps p).getD 0=((ps.count p:Nat):Int):=by
 unfold cntF;by_cases h:p∈ps
 ·rw [if_pos h];rfl
 ·rw [if_neg h,List.count_eq_zero_of_not_mem h];rfl
theorem cntF_snoc (ps:List Pt) (p:Pt) {n:Int} (hn:n=((ps.count p:Nat):Int)+1):(fun c=>if c=p then some n else cntF ps c)=cntF (ps++[p]):=by
 subst hn;funext c
 unfold cntF;by_cases h:c=p
 ·subst h;rw [if_pos rfl,if_pos (by simp)];simp [List.count_append]
 ·rw [if_neg h];by_cases h2:c∈ps
  ·rw [if_pos h2,if_pos (by simp [h2]),List.count_append];have:[p].count c=0:=List.count_eq_zero_of_not_mem (by simp [h]);rw [this];rfl
  ·rw [if_neg h2,if_neg (by simp [h2,h])]
theorem corners_snoc (l:List Tri) (t:Tri):(l++[t]).flatMap cornT=l.flatMap cornT++[t.1]++[t.2.1]++[t.2.2]:=by rw [List.flatMap_append];simp [cornT]
theorem corners_len (l:List Tri):(l.flatMap cornT).length=3*l.length:=by
 induction l with
 | nil=>rfl
 | cons t l ih=>rw [List.flatMap_cons,List.length_append,ih,List.length_cons,show (cornT t).length=3 from rfl];omega
end Pk
end Go.Proofs.YtcikldoaidmnhaaGreatDoor
