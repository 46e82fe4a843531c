/- Parts: A region that draws its order, walked along a tree of orders: operations that yield one value in every world of a class, others that are carried out one by one, and forks where two of them are ready. No condition. Rows of things of several cells, whatever the things are: read at any address, and made by append in the call's own memory. No condition. Walks of exact.Less. No condition. Walks of the  -/
import Derived.Test.YtcikldoaidmnhaaGreatDoorRSpoi1
import Derived.Test.YtcikldoaidmnhaaGreatDoorRSpoi2
import Derived.Test.YtcikldoaidmnhaaGreatDoorRSpoi3
import Derived.Test.YtcikldoaidmnhaaGreatDoorRSpoi4
import Derived.WalkKit
import Derived.WalkSpells
import Derived.WalkLawsBesides
import Derived.Lib.Hide
import Derived.BigQuiet
import Derived.Deep.DeepFit
import Derived.Deep.DeepCutAuto
import Derived.Deep.AppendLies
import Derived.Deep.QuietTactic
import Derived.Deep.MidRow
import Derived.StillTail
import Derived.Lib.Bits
import Derived.Test.YtcikldoaidmnhaaGreatDoorRows
import Derived.Deep.RegionHeld3
import Derived.Laws.EntriesVeiled
import Derived.Handy
namespace Go.Proofs.YtcikldoaidmnhaaGreatDoor
open Go Go.RowKit
structure Kd (P:Program) (α:Type) where
 T:TypeId
 S:TypeId
 k:Nat
 bytes:Nat
 enc:α→List Value
 len:∀x,(enc x).length=k
 one:∀x,∀v∈enc x,v.oneCell'=true
 pos:0<k
 small:bytes≤4096
 und:P.underlying S=some (.slice T)
 info:∃i z,P.info? T=some i∧i.zero=some z∧i.size=k∧i.bytes=bytes∧z.cells.size=k
variable {P:Program} {α:Type}
def Kd.At (K:Kd P α) (w:World) (b o:Nat) (x:α):Prop:=w.rangeAt b o (K.enc x)
def Kd.Rd (K:Kd P α) (w:World) (v:Value) (l:List α):Prop:=∃A cap,v=.slice A l.length cap∧l.length≤cap∧(0<l.length→∃b off,A=some ⟨b,off,none⟩∧∀j (h:j<l.length),K.At w b (off+j*K.k) l[j])
def Kd.Own (K:Kd P α) (base:Nat) (w:World) (v:Value) (l:List α):Prop:=w.ownsRow base K.T K.k v l.length (l.flatMap K.enc)
theorem rangeAt_upd {w w':World} {b o:Nat} {cs:List Value} (h:w.rangeAt b o cs) (hu:Upd noBlk w w'):w'.rangeAt b o cs:=fun j v hv=>hu.cell (h j v hv) id
theorem Kd.At.keep {K:Kd P α} {w w':World} {b o:Nat} {x:α} (h:K.At w b o x) (hu:Upd noBlk w w'):K.At w' b o x:=rangeAt_upd h hu
theorem Kd.Rd.keep {K:Kd P α} {w w':World} {v:Value} {l:List α} (h:K.Rd w v l) (hu:Upd noBlk w w'):K.Rd w' v l:=by
 obtain ⟨A,cap,e,hc,h1⟩:=h;refine ⟨A,cap,e,hc,fun h0=>?_⟩;obtain ⟨b,off,e2,h2⟩:=h1 h0;exact ⟨b,off,e2,fun j hj=>(h2 j hj).keep hu⟩
theorem Kd.Rd.nil (K:Kd P α) (w:World):K.Rd w (.slice none 0 0) []:=⟨none,0,rfl,Nat.le_refl _,fun h=>absurd h (by simp)⟩
theorem Kd.flat_get (K:Kd P α):∀(l:List α) (j:Nat) (hj:j<l.length) (i:Nat),i<K.k→(l.flatMap K.enc)[j*K.k+i]?=(K.enc l[j])[i]?
 | [],j,hj,_,_=>absurd hj (by simp)
 | x :: l,0,_,i,hi=>by
  rw [List.flatMap_cons,Nat.zero_mul,Nat.zero_add,List.getElem?_append_left (by rw [K.len];exact hi)];rfl
 | x :: l,j+1,hj,i,hi=>by
  rw [List.flatMap_cons,List.getElem?_append_right (by rw [K.len,Nat.add_mul];omega),K.len];have e:(j+1)*K.k+i-K.k=j*K.k+i:=by rw [Nat.add_mul];omega
  rw [e,K.flat_get l j (by simpa using hj) i hi];rfl
theorem Kd.flat_len (K:Kd P α) (l:List α):(l.flatMap K.enc).length=l.length*K.k:=by
 induction l with
 | nil=>simp
 | cons x l ih=>rw [List.flatMap_cons,List.length_append,K.len,ih,List.length_cons,Nat.add_mul];omega
theorem Kd.Own.form {K:Kd P α} {base:Nat} {w:World} {v:Value} {l:List α} (h:K.Own base w v l):∃A cap,v=.slice A l.length cap∧l.length≤cap:=by
 rcases h.2 with ⟨rfl,h0⟩ | ⟨g,cap,cur,rfl,_,_,h1,_⟩
 ·exact ⟨none,0,by rw [h0],by omega⟩
 ·exact ⟨_,_,rfl,h1⟩
theorem Kd.Own.rd {K:Kd P α} {base:Nat} {w:World} {v:Value} {l:List α} (h:K.Own base w v l):K.Rd w v l:=by
 obtain ⟨A,cap,rfl,hc⟩:=h.form;refine ⟨A,cap,rfl,hc,fun h0=>?_⟩;have h':w.ownsRow base K.T K.k (.slice A l.length cap) l.length (l.flatMap K.enc):=h;rcases h.2 with ⟨_,h1⟩ | ⟨g,c,cur,e,_⟩
 ·omega
 ·cases e;refine ⟨g,0,rfl,fun j hj i v hv=>?_⟩;have hi:i<K.k:=by
   have:=(List.getElem?_eq_some_iff.1 hv).1;rw [K.len] at this;exact this
  have hji:j*K.k+i<l.length*K.k:=by
   have:(j+1)*K.k≤l.length*K.k:=Nat.mul_le_mul_right _ hj;rw [Nat.add_mul] at this;omega
  rw [Nat.zero_add,World.ownsRow.cellAt h' _ hji,K.flat_get l j hj i hi];exact hv
theorem Kd.Own.nil (K:Kd P α) (base:Nat) (w:World):K.Own base w (.slice none 0 0) []:=⟨by simp,.inl ⟨rfl,rfl⟩⟩
theorem Kd.Own.upd {K:Kd P α} {base:Nat} {w w':World} {v:Value} {l:List α} (h:K.Own base w v l) (hu:Upd noBlk w w'):K.Own base w' v l:=ownsRow_upd h hu
theorem Kd.Own.mono {K:Kd P α} {base base':Nat} {w:World} {v:Value} {l:List α} (h:K.Own base w v l) (hb:base'≤base):K.Own base' w v l:=by
 refine ⟨h.1,?_⟩;rcases h.2 with e | ⟨g,cap,cur,e,hg,r⟩
 ·exact .inl e
 ·exact .inr ⟨g,cap,cur,e,Nat.le_trans hb hg,r⟩
theorem Kd.Own.blk {K:Kd P α} {base:Nat} {w:World} {v:Value} {l:List α} (h:K.Own base w v l) {g:Nat} (hg:v.ownBlock=some g):base≤g∧∃cur,w.heap[g]?=some (.cells cur K.T (0,0)):=by
 rcases h.2 with ⟨rfl,_⟩ | ⟨g',cap,cur,rfl,h1,h2,_⟩
 ·cases hg
 ·cases hg;exact ⟨h1,cur,h2⟩
theorem Kd.Own.other {K:Kd P α} {F:Nat→Prop} {base:Nat} {w w':World} {v:Value} {l:List α} (h:K.Own base w v l) (hu:Upd F w w') (hF:∀g,v.ownBlock=some g→¬F g):K.Own base w' v l:=
 ownsRow_keep h (fun g hg=>hu.block g (h.lt g hg).2 (hF g hg))
theorem Kd.Own.app1 {K:Kd P α} {base:Nat} {w:World} {v:Value} {l:List α} (h:K.Own base w v l) (hb:base≤w.heap.size) (x:α) (hl:l.length<4294967296) :
  ∃g cap w',(Builtin.append_ #[K.S,K.S] K.S #[v,.slice (some ⟨w.heap.size,0,none⟩) 1 1]).run P (w.alloc (.cells (K.enc x).toArray K.T))=.ok (.slice (some ⟨g,0,none⟩) (l.length+1) cap) w' ∧
   K.Own base w' (.slice (some ⟨g,0,none⟩) (l.length+1) cap) (l++[x])∧Upd (fun k=>v.ownBlock=some k) w w'∧(v.ownBlock=some g∨w.heap.size<g):=by
 obtain ⟨i,z,hi,hz,h1,h2,h3⟩:=K.info;have hs:=K.small;obtain ⟨g,cap,w',r,o,gr,hat,_⟩:=append_one (P:=P) w K.S K.S K.T i z K.k K.bytes K.und hi hz h1 h2 h3 K.pos h hb (K.enc x) (K.len x) (K.one x) (by unfold maxLen;omega)
  (Nat.le_trans (Nat.mul_le_mul (Nat.succ_le_of_lt hl) hs) (by decide))
 refine ⟨g,cap,w',r,?_,(upd_of_grown (World.grownBy_alloc w _ v.ownBlock) (fun j hj _=>hj)).trans (upd_of_grown gr (fun j hj _=>hj)),hat.imp id (fun e=>by omega)⟩;unfold Kd.Own;rw [List.flatMap_append,List.length_append];simp only [List.flatMap_cons,List.flatMap_nil,List.append_nil];exact o
theorem Kd.Own.appN {K:Kd P α} {base:Nat} {w:World} {v:Value} {l:List α} (h:K.Own base w v l) (hb:base≤w.heap.size) {b off c:Nat} (m:List α) (hm:∀j (hj:j<m.length),K.At w b (off+j*K.k) m[j]) (hl:l.length+m.length<4294967296) (h0:0<m.length) :
  ∃g cap w',(Builtin.append_ #[K.S,K.S] K.S #[v,.slice (some ⟨b,off,none⟩) m.length c]).run P w=.ok (.slice (some ⟨g,0,none⟩) (l.length+m.length) cap) w' ∧
   K.Own base w' (.slice (some ⟨g,0,none⟩) (l.length+m.length) cap) (l++m)∧Upd (fun k=>v.ownBlock=some k) w w'∧(v.ownBlock=some g∨w.heap.size≤g):=by
 obtain ⟨i,z,hi,hz,h1,h2,h3⟩:=K.info;have hs:=K.small;obtain ⟨g,cap,w',r,o,gr,hat,_⟩:=run_append_lies (P:=P) w K.S K.S base K.T i z K.k K.bytes K.und hi hz h1 h2 h3 K.pos v l.length (l.flatMap K.enc) h ⟨b,off,none⟩ m.length c (m.flatMap K.enc) (K.flat_len m)
  (fun j u hu=>by
   have hj:j<m.length*K.k:=by have:=(List.getElem?_eq_some_iff.1 hu).1;rw [K.flat_len] at this;exact this
   have hp:=K.pos;have hq:j / K.k<m.length:=Nat.div_lt_of_lt_mul (by rw [Nat.mul_comm];exact hj);have hr:j % K.k<K.k:=Nat.mod_lt _ hp;have e:j / K.k*K.k+j % K.k=j:=by rw [Nat.mul_comm];exact Nat.div_add_mod j K.k
   rw [←e,K.flat_get m _ hq _ hr] at hu;have:=hm _ hq _ _ hu;rw [Addr.add_mid,←e,←Nat.add_assoc];exact this)
  (fun u hu=>by obtain ⟨x,_,hx⟩:=List.mem_flatMap.1 hu;exact K.one x u hx) h0 (by unfold maxLen;omega)
  (Nat.le_trans (Nat.mul_le_mul (Nat.le_of_lt hl) hs) (by decide)) hb w.heap.size rfl
 refine ⟨g,cap,w',r,?_,upd_of_grown gr (fun j hj _=>hj),hat.imp id (fun e=>by omega)⟩;unfold Kd.Own;rw [List.flatMap_append,List.length_append];exact o
end Go.Proofs.YtcikldoaidmnhaaGreatDoor
namespace Go.Proofs.YtcikldoaidmnhaaGreatDoor
open Go Go.RowKit
section
variable {P:Program} {ops:Array Oper} {md:Region.Mode} {C:World→Prop} {Q:Exit→Act→World→Prop}
theorem wpAnyG_mono {n:Nat} {L:Array Bool→Act→World→Prop} {C':World→Prop} (hC:∀w,C' w→C w) :
  ∀(f:Nat) (listed:Array Bool) (a:Act) (w:World),wpAnyG P md ops Q C' n L f listed a w→wpAnyG P md ops Q C n L f listed a w
 | 0,_,_,_,h=>h
 | f+1,_,_,_,h=>⟨h.1,fun i hi=>⟨(h.2 i hi).1,wpOp_mono (fun a' w' h'=>⟨hC _ h'.1,wpAnyG_mono hC f _ a' w' h'.2⟩) (h.2 i hi).2⟩⟩
inductive OT where
 | nil
 | sure (i:Nat) (r:OT)
 | run (i:Nat) (r:OT)
 | fork (i:Nat) (ri:OT) (j:Nat) (rj:OT)
def OT.sures:List Nat→OT→OT
 | [],r=>r
 | i :: l,r=>.sure i (OT.sures l r)
def wpT (P:Program) (ops:Array Oper) (Q:Exit→Act→World→Prop) (L:Act→World→Prop):OT→(World→Prop)→Act→World→Prop
 | .nil,_,a,w=>L a w
 | .sure i r,C,a,w=>∃o v,ops[i]?=some o∧Sure P ops C o v a∧wpT P ops Q L r C (a.put o.dst v) w
 | .run i r,C,a,w=>∃C':World→Prop,(∀w,C' w→C w)∧wpOp P ops Q i (fun a' w'=>C' w'∧wpT P ops Q L r C' a' w') a w
 | .fork i ri j rj,C,a,w=>(∃C':World→Prop,(∀w,C' w→C w)∧wpOp P ops Q i (fun a' w'=>C' w'∧wpT P ops Q L ri C' a' w') a w) ∧
   (∃C':World→Prop,(∀w,C' w→C w)∧wpOp P ops Q j (fun a' w'=>C' w'∧wpT P ops Q L rj C' a' w') a w)
def treeB (md:Region.Mode) (ops:Array Oper) (n:Nat):Nat→OT→Array Bool→Bool
 | 0,.nil,listed=>Region.seqB md ops (ops.size-n) n listed
 | f+1,.sure i r,listed=>decide (i<n)&&(Region.ready md ops listed).contains i&&Region.free md ops listed i&&treeB md ops n f r (listed.setIfInBounds i true)
 | f+1,.run i r,listed=>decide (i<n)&&decide (Region.ready md ops listed=[i])&&treeB md ops n f r (listed.setIfInBounds i true)
 | f+1,.fork i ri j rj,listed=>decide (i<n)&&decide (j<n)&&decide (Region.ready md ops listed=[i,j])&&treeB md ops n f ri (listed.setIfInBounds i true)&&treeB md ops n f rj (listed.setIfInBounds j true)
 | _,_,_=>false
theorem wpAnyG_tree {n:Nat} {Lq:Act→World→Prop} (hsel:Region.noSelect ops=true) (hQ:∀c a d v w,Q (.panic c) (Act.put a d v) w→Q (.panic c) a w)
  (hs:Region.sinkB md ops n=true) (hc:Region.chainB md ops n=true) (hn:n<ops.size) :
  ∀(f:Nat) (t:OT) (C:World→Prop) (listed:Array Bool) (a:Act) (w:World),C w→HeadInv md ops n listed→treeB md ops n f t listed=true→wpT P ops Q Lq t C a w →
  wpAnyG P md ops Q C n (fun listed' a' w'=>Region.seqB md ops (ops.size-n) n listed'=true∧Lq a' w') f listed a w
 | 0,.nil,C,listed,a,w,_,inv,hB,h=>⟨by simpa [treeB] using hB,h⟩
 | f+1,.sure i r,C,listed,a,w,hC,inv,hB,h=>by
  obtain ⟨o,v,h0,hy,hK⟩:=h;simp only [treeB,Bool.and_eq_true,decide_eq_true_eq] at hB;obtain ⟨⟨⟨hin,hr⟩,hf⟩,hB'⟩:=hB;have hr':i∈Region.ready md ops listed:=by simpa using hr
  exact wpAnyG_first h0 (Region.noSelect_spec hsel) (fun c a w=>hQ c a _ _ w) hs hc hn hin (fun listed' a' w' hL=>seqB_ready hL.1) f listed a w inv hC (Region.free_spec h0 hf) hr' hy
   (wpAnyG_tree hsel hQ hs hc hn f r C _ _ w hC (inv.set hr' hin) hB' hK)
 | f+1,.run i r,C,listed,a,w,hC,inv,hB,h=>by
  obtain ⟨C',hCC,h⟩:=h;simp only [treeB,Bool.and_eq_true,decide_eq_true_eq] at hB;obtain ⟨⟨hin,hr⟩,hB'⟩:=hB;have hr':i∈Region.ready md ops listed:=by rw [hr];simp
  refine ⟨fun h0=>(by rw [h0] at hr;cases hr),fun j hj=>?_⟩;rw [hr] at hj;obtain rfl:j=i:=by simpa using hj
  exact ⟨hin,wpOp_mono (fun a' w' h'=>⟨hCC _ h'.1,wpAnyG_mono hCC f _ _ _ (wpAnyG_tree hsel hQ hs hc hn f r C' _ a' w' h'.1 (inv.set hr' hin) hB' h'.2)⟩) h⟩
 | f+1,.fork i ri j rj,C,listed,a,w,hC,inv,hB,h=>by
  obtain ⟨⟨C1,hC1,h1⟩,⟨C2,hC2,h2⟩⟩:=h;simp only [treeB,Bool.and_eq_true,decide_eq_true_eq] at hB;obtain ⟨⟨⟨⟨hin,hjn⟩,hr⟩,hB1⟩,hB2⟩:=hB;have hri:i∈Region.ready md ops listed:=by rw [hr];simp
  have hrj:j∈Region.ready md ops listed:=by rw [hr];simp
  refine ⟨fun h0=>(by rw [h0] at hr;cases hr),fun k hk=>?_⟩;rw [hr] at hk;rcases (by simpa using hk:k=i∨k=j) with rfl | rfl
  ·exact ⟨hin,wpOp_mono (fun a' w' h'=>⟨hC1 _ h'.1,wpAnyG_mono hC1 f _ _ _ (wpAnyG_tree hsel hQ hs hc hn f ri C1 _ a' w' h'.1 (inv.set hri hin) hB1 h'.2)⟩) h1⟩
  ·exact ⟨hjn,wpOp_mono (fun a' w' h'=>⟨hC2 _ h'.1,wpAnyG_mono hC2 f _ _ _ (wpAnyG_tree hsel hQ hs hc hn f rj C2 _ a' w' h'.1 (inv.set hrj hjn) hB2 h'.2)⟩) h2⟩
 | 0,.sure _ _,_,_,_,_,_,_,hB,_=>by simp [treeB] at hB
 | 0,.run _ _,_,_,_,_,_,_,hB,_=>by simp [treeB] at hB
 | 0,.fork _ _ _ _,_,_,_,_,_,_,hB,_=>by simp [treeB] at hB
 | _+1,.nil,_,_,_,_,_,_,hB,_=>by simp [treeB] at hB
def treeTailB (md:Region.Mode) (ops:Array Oper) (n:Nat) (t:OT):Bool:=
 Region.noSelect ops&&decide (n<ops.size)&&Region.sinkB md ops n&&Region.chainB md ops n&&treeB md ops n n t (Array.replicate ops.size false)
theorem wp_region_tree {id:Nat} {a:Act} {w:World} {l:List Oper} (n:Nat) (t:OT) (C:World→Prop) (hm:P.follows .mixedOrders=true) (hB:treeTailB .any l.toArray n t=true)
  (hQ:∀c a d v w,Q (.panic c) (Act.put a d v) w→Q (.panic c) a w) (hC:C w.drew)
  (h:wpT P l.toArray Q (fun a' w'=>wpList P l.toArray Q (l.drop n) a' w') t C a w.drew):(Code.region id l.toArray true).wp P Q a w:=by
 simp only [treeTailB,Bool.and_eq_true,decide_eq_true_eq] at hB;obtain ⟨⟨⟨⟨hsel,hn⟩,hs⟩,hc⟩,hlex⟩:=hB;have hn':n<l.length:=by simpa using hn
 have hdl:(l.drop n).length=l.toArray.size-n:=by simp
 have inv0:HeadInv .any l.toArray n (Array.replicate l.toArray.size false):=
  ⟨by simp,fun j oj _ hl=>(by rw [getD_replicate_false] at hl;cases hl),fun t _ ht=>getD_in (by simpa using ht) (getD_replicate_false _ _)⟩
 have H:=wpAnyG_tree (md:=.any) hsel hQ hs hc hn n t C _ a w.drew hC inv0 hlex h;refine wp_region_any hm ?_;have:=wpAny_of_G (g:=l.toArray.size-n) (fun listed a' w' hL=>by
  have:=wpAny_of_seq (md:=.any) (Q':=Q) (l.drop n) n listed a' w' (fun j=>by simp [List.getElem?_drop]) (by rw [hdl];exact hL.1) hL.2;rwa [hdl] at this) _ _ _ _ H
 rw [show n+(l.toArray.size-n)=l.toArray.size by omega] at this;exact this
variable {L:Act→World→Prop} {r ri rj:OT} {a:Act} {w:World} {i j:Nat} {o oi oj:Oper}
theorem wpT_nil (h:L a w):wpT P ops Q L .nil C a w:=h
theorem wpT_sure (ho:ops[i]?=some o) (hg:o.guard=none) (v:Value) (hv:∀w',C w'→(execOp a.eval o).run P w'=.ok (.value v) w') (h:wpT P ops Q L r C (a.put o.dst v) w) :
  wpT P ops Q L (.sure i r) C a w:=
 ⟨o,v,ho,.inl ⟨by simp [Region.wanted,hg],hv⟩,h⟩
theorem wpT_run (C':World→Prop) (hC:∀w,C' w→C w) (ho:ops[i]?=some o)
  (h:∀K':Act→World→Prop,(∀a' w',C' w'∧wpT P ops Q L r C' a' w'→K' a' w')→if Region.wanted o (yielded ops a.tmps)=true then Oper.wp P o a w K' Q else K' (a.put o.dst undef) w) :
  wpT P ops Q L (.run i r) C a w:=⟨C',hC,wpOp_step ho (fun K' hK=>h K' hK)⟩
theorem wpT_fork (C1 C2:World→Prop) (hC1:∀w,C1 w→C w) (hC2:∀w,C2 w→C w) (hi:ops[i]?=some oi) (hj:ops[j]?=some oj)
  (h1:∀K':Act→World→Prop,(∀a' w',C1 w'∧wpT P ops Q L ri C1 a' w'→K' a' w')→if Region.wanted oi (yielded ops a.tmps)=true then Oper.wp P oi a w K' Q else K' (a.put oi.dst undef) w)
  (h2:∀K':Act→World→Prop,(∀a' w',C2 w'∧wpT P ops Q L rj C2 a' w'→K' a' w')→if Region.wanted oj (yielded ops a.tmps)=true then Oper.wp P oj a w K' Q else K' (a.put oj.dst undef) w) :
  wpT P ops Q L (.fork i ri j rj) C a w:=⟨⟨C1,hC1,wpOp_step hi (fun K' hK=>h1 K' hK)⟩,⟨C2,hC2,wpOp_step hj (fun K' hK=>h2 K' hK)⟩⟩
end
end Go.Proofs.YtcikldoaidmnhaaGreatDoor
namespace Go.Proofs.YtcikldoaidmnhaaGreatDoor
open Go Go.RowKit Pk
set_option maxRecDepth 100000
def ptV (p:Pt):Value:=.agg #[.int .i64 p.1,.int .i64 p.2.1,.int .i64 p.2.2]
structure Gr (w w':World):Prop where
 up:Upd noBlk w w'
 dr:w.drawn≤w'.drawn
theorem Gr.refl (w:World):Gr w w:=⟨Upd.refl _ _,Nat.le_refl _⟩
theorem Gr.trans {a b c:World} (h:Gr a b) (k:Gr b c):Gr a c:=⟨h.up.trans k.up,Nat.le_trans h.dr k.dr⟩
theorem Gr.alloc {a w:World} (h:Gr a w) (o:Obj):Gr a (w.alloc o):=⟨h.up.alloc o,h.dr⟩
theorem Gr.drew {a w:World} (h:Gr a w):Gr a w.drew:=⟨h.up.drew,Nat.le_trans h.dr (Nat.le_succ _)⟩
theorem Gr.heap {w w':World} {b:Nat} {o:Obj} (h:Gr w w') (hb:w.heap[b]?=some o) (hf:¬noBlk b):w'.heap[b]?=some o:=h.up.heap hb hf
theorem Gr.cell {w w':World} {a:Addr} {v:Value} (h:Gr w w') (hv:w.cell? a=some v) (hf:¬noBlk a.block):w'.cell? a=some v:=h.up.cell hv hf
theorem cells3 {w:World} {b:Nat} {x y z:Value} {t:TypeId} {fr:Nat × Nat} (h:w.heap[b]?=some (.cells #[x,y,z] t fr)):w.cell? ⟨b,0,none⟩=some x∧w.cell? ⟨b,1,none⟩=some y∧w.cell? ⟨b,2,none⟩=some z:=by simp [World.cell?,h]
theorem ex_any (p:Pt) (w:World):Calls Tryz.prog 181 #[ptV p] w fun en w'=>en=.returned (.int .i64 p.1)∧Gr w w':=by
 unfold ptV;go_enter Tryz.func181,Tryz.ntmps181
 go_wp2_with fail
 go_ret
 exact ⟨rfl,(Gr.refl w).alloc _⟩
theorem ey_any (p:Pt) (w:World):Calls Tryz.prog 182 #[ptV p] w fun en w'=>en=.returned (.int .i64 p.2.1)∧Gr w w':=by
 unfold ptV;go_enter Tryz.func182,Tryz.ntmps182
 go_wp2_with fail
 go_ret
 exact ⟨rfl,(Gr.refl w).alloc _⟩
theorem ez_any (p:Pt) (w:World):Calls Tryz.prog 183 #[ptV p] w fun en w'=>en=.returned (.int .i64 p.2.2)∧Gr w w':=by
 unfold ptV;go_enter Tryz.func183,Tryz.ntmps183
 go_wp2_with fail
 go_ret
 exact ⟨rfl,(Gr.refl w).alloc _⟩
def axesV:Value:=.agg #[.func (.func 181) #[] #[],.func (.func 182) #[] #[],.func (.func 183) #[] #[]]
theorem axes_any (w:World):Calls Tryz.prog 161 #[] w fun en w'=>en=.returned axesV∧Gr w w':=by
 go_enter Tryz.func161,Tryz.ntmps161
 go_wp2_with fail
 go_returns
 exact ⟨rfl,((Gr.refl w).alloc _)⟩
theorem index0 (w:World):(Instr.index 241 axesV (.int .i64 0)).run Tryz.prog w=.ok (.func (.func 181) #[] #[]) w:=by kernel_rfl
theorem index1 (w:World):(Instr.index 241 axesV (.int .i64 1)).run Tryz.prog w=.ok (.func (.func 182) #[] #[]) w:=by kernel_rfl
theorem index2 (w:World):(Instr.index 241 axesV (.int .i64 2)).run Tryz.prog w=.ok (.func (.func 183) #[] #[]) w:=by kernel_rfl
set_option maxHeartbeats 1000000 in
theorem Less_any (a b:Pt) (w:World):Calls Tryz.prog 138 #[ptV a,ptV b] w fun en w'=>en=.returned (.bool (ptLt a b))∧Gr w w':=by
 have h0:=fun p W=>Lib.hid (ex_any p W);have h1:=fun p W=>Lib.hid (ey_any p W);have h2:=fun p W=>Lib.hid (ez_any p W);obtain ⟨a0,a1,a2⟩:=a;obtain ⟨b0,b1,b2⟩:=b;have hlt:=Lib.hid (show ptLt (a0,a1,a2) (b0,b1,b2)=if a0≠b0 then decide (a0<b0) else if a1≠b1 then decide (a1<b1) else decide (a2<b2) from rfl);unfold ptV;have hA:=Lib.hid (axes_any ((w.alloc (.cells #[.int .i64 a0,.int .i64 a1,.int .i64 a2] 43)).alloc (.cells #[.int .i64 b0,.int .i64 b1,.int .i64 b2] 43)));have ix0:=index0;have ix1:=index1;have ix2:=index2;unfold axesV at ix0 ix1 ix2;go_enter Tryz.func138,Tryz.ntmps138
 go_wp2_with fail
 refine hA.out.mono ?_;rintro e w1 ⟨rfl,u1⟩;unfold axesV;have U1:Hid (Gr w w1):=(((Gr.refl _).alloc _).alloc _).trans u1;have ca:Hid (w1.heap[w.heap.size]?=some (.cells #[.int .i64 a0,.int .i64 a1,.int .i64 a2] 43)):=u1.heap (((Gr.refl _).alloc _).heap (heap_alloc_new _ _) id) id;have cb:Hid (w1.heap[w.heap.size+1]?=some (.cells #[.int .i64 b0,.int .i64 b1,.int .i64 b2] 43)):=u1.heap (by have:=heap_alloc_new (w.alloc (.cells #[.int .i64 a0,.int .i64 a1,.int .i64 a2] 43)) (.cells #[.int .i64 b0,.int .i64 b1,.int .i64 b2] 43);rwa [World.size_alloc] at this) id;clear u1 hA;go_wp2_with fail
 refine wp_loop_rounds 4 ?_;rw [rounds_succ];go_wp2_with fail
 refine wp_region_tree 5 (OT.sures [0,1,3,4] (.run 2 .nil)) (fun w'=>Gr w1 w') (by kernel_rfl) (by kernel_rfl) (fun c a d v w h=>by cases d<;>exact h) ((Gr.refl w1).drew) ?_
 simp only [OT.sures]
 iterate 4 (apply wpT_sure rfl rfl;focus (intro w' hw';obtain ⟨g1,g2,g3⟩:=cells3 (hw'.heap ca.out id);obtain ⟨g4,g5,g6⟩:=cells3 (hw'.heap cb.out id);go_simp;rfl))
 refine wpT_run (fun w'=>Gr w1 w') (fun _ h=>h) rfl (fun K hK=>?_);go_simp
 refine (h0 (a0,a1,a2) _).out.mono ?_;rintro e x0 ⟨rfl,v0⟩;have V0:=Lib.hid (((Gr.refl w1).drew).trans v0);refine hK _ _ ⟨V0.out,?_⟩;clear hK K;refine wpT_nil ?_;obtain ⟨g1,g2,g3⟩:=cells3 (V0.out.heap ca.out id);obtain ⟨g4,g5,g6⟩:=cells3 (V0.out.heap cb.out id);clear v0;go_wp2_with fail
 refine (h0 (b0,b1,b2) _).out.mono ?_;rintro e y0 ⟨rfl,v0⟩;have Y0:=Lib.hid (U1.out.trans (V0.out.trans v0));have cA0:=Lib.hid ((V0.out.trans v0).heap ca.out id);have cB0:=Lib.hid ((V0.out.trans v0).heap cb.out id);clear ca cb U1 v0 V0;have ca:=cA0;have cb:=cB0;have U1:=Y0;obtain ⟨g1,g2,g3⟩:=cells3 ca.out;obtain ⟨g4,g5,g6⟩:=cells3 cb.out;clear cA0 cB0 Y0;by_cases e0:a0=b0
 rotate_left
 ·go_wp2_with fail
  go_ret
  refine ⟨?_,U1.out⟩;rw [hlt.out];simp [e0]
 subst e0;go_wp2_with fail
 rw [rounds_succ];go_wp2_with fail
 refine wp_region_tree 5 (OT.sures [0,1,3,4] (.run 2 .nil)) (fun w'=>Gr y0 w') (by kernel_rfl) (by kernel_rfl) (fun c a d v w h=>by cases d<;>exact h) ((Gr.refl y0).drew) ?_
 simp only [OT.sures]
 iterate 4 (apply wpT_sure rfl rfl;focus (intro w' hw';obtain ⟨g1,g2,g3⟩:=cells3 (hw'.heap ca.out id);obtain ⟨g4,g5,g6⟩:=cells3 (hw'.heap cb.out id);go_simp;rfl))
 refine wpT_run (fun w'=>Gr y0 w') (fun _ h=>h) rfl (fun K hK=>?_);go_simp
 refine (h1 (a0,a1,a2) _).out.mono ?_;rintro e x1 ⟨rfl,v1⟩;have V1:=Lib.hid (((Gr.refl y0).drew).trans v1);refine hK _ _ ⟨V1.out,?_⟩;clear hK K;refine wpT_nil ?_;obtain ⟨g1,g2,g3⟩:=cells3 (V1.out.heap ca.out id);obtain ⟨g4,g5,g6⟩:=cells3 (V1.out.heap cb.out id);clear v1;go_wp2_with fail
 refine (h1 (a0,b1,b2) _).out.mono ?_;rintro e y1 ⟨rfl,v1⟩;have Y1:=Lib.hid (U1.out.trans (V1.out.trans v1));have cA1:=Lib.hid ((V1.out.trans v1).heap ca.out id);have cB1:=Lib.hid ((V1.out.trans v1).heap cb.out id);clear ca cb U1 v1 V1;have ca:=cA1;have cb:=cB1;have U1:=Y1;obtain ⟨g1,g2,g3⟩:=cells3 ca.out;obtain ⟨g4,g5,g6⟩:=cells3 cb.out;clear cA1 cB1 Y1;by_cases e1:a1=b1
 rotate_left
 ·go_wp2_with fail
  go_ret
  refine ⟨?_,U1.out⟩;rw [hlt.out];simp [e1]
 subst e1;go_wp2_with fail
 rw [rounds_succ];go_wp2_with fail
 refine wp_region_tree 5 (OT.sures [0,1,3,4] (.run 2 .nil)) (fun w'=>Gr y1 w') (by kernel_rfl) (by kernel_rfl) (fun c a d v w h=>by cases d<;>exact h) ((Gr.refl y1).drew) ?_
 simp only [OT.sures]
 iterate 4 (apply wpT_sure rfl rfl;focus (intro w' hw';obtain ⟨g1,g2,g3⟩:=cells3 (hw'.heap ca.out id);obtain ⟨g4,g5,g6⟩:=cells3 (hw'.heap cb.out id);go_simp;rfl))
 refine wpT_run (fun w'=>Gr y1 w') (fun _ h=>h) rfl (fun K hK=>?_);go_simp
 refine (h2 (a0,a1,a2) _).out.mono ?_;rintro e x2 ⟨rfl,v2⟩;have V2:=Lib.hid (((Gr.refl y1).drew).trans v2);refine hK _ _ ⟨V2.out,?_⟩;clear hK K;refine wpT_nil ?_;obtain ⟨g1,g2,g3⟩:=cells3 (V2.out.heap ca.out id);obtain ⟨g4,g5,g6⟩:=cells3 (V2.out.heap cb.out id);clear v2;go_wp2_with fail
 refine (h2 (a0,a1,b2) _).out.mono ?_;rintro e y2 ⟨rfl,v2⟩;have Y2:=Lib.hid (U1.out.trans (V2.out.trans v2));have cA2:=Lib.hid ((V2.out.trans v2).heap ca.out id);have cB2:=Lib.hid ((V2.out.trans v2).heap cb.out id);clear ca cb U1 v2 V2;have ca:=cA2;have cb:=cB2;have U1:=Y2;obtain ⟨g1,g2,g3⟩:=cells3 ca.out;obtain ⟨g4,g5,g6⟩:=cells3 cb.out;clear cA2 cB2 Y2;by_cases e2:a2=b2
 rotate_left
 ·go_wp2_with fail
  go_ret
  refine ⟨?_,U1.out⟩;rw [hlt.out];simp
 subst e2;go_wp2_with fail
 rw [rounds_succ];go_wp2_with fail
 go_ret
 refine ⟨?_,U1.out⟩;rw [hlt.out];simp
end Go.Proofs.YtcikldoaidmnhaaGreatDoor
namespace Go.Proofs.YtcikldoaidmnhaaGreatDoor
open Go Go.RowKit Pk
set_option maxRecDepth 100000
def cmpP (a b:Pt):Int:=if ptLt a b then -1 else if ptLt b a then 1 else 0
def orL (a b c:Int):Int:=if a≠0 then a else if b≠0 then b else c
def cmpT (s t:Tri):Int:=orL (cmpP s.1 t.1) (cmpP s.2.1 t.2.1) (cmpP s.2.2 t.2.2)
theorem comparePoints_any (a b:Pt) (w:World):Calls Tryz.prog 142 #[ptV a,ptV b] w fun en w'=>en=.returned (.int .i64 (cmpP a b))∧Gr w w':=by
 have hl:=fun p q W=>Lib.hid (Less_any p q W);obtain ⟨a0,a1,a2⟩:=a;obtain ⟨b0,b1,b2⟩:=b;have hc:=Lib.hid (show cmpP (a0,a1,a2) (b0,b1,b2)=if ptLt (a0,a1,a2) (b0,b1,b2) then -1 else if ptLt (b0,b1,b2) (a0,a1,a2) then 1 else 0 from rfl);unfold ptV;go_enter Tryz.func142,Tryz.ntmps142
 go_wp2_with fail
 refine (hl (a0,a1,a2) (b0,b1,b2) _).out.mono ?_;rintro e w1 ⟨rfl,u1⟩;have U1:Hid (Gr w w1):=(((Gr.refl _).alloc _).alloc _).trans u1;have ca:Hid (w1.heap[w.heap.size]?=some (.cells #[.int .i64 a0,.int .i64 a1,.int .i64 a2] 43)):=u1.heap (((Gr.refl _).alloc _).heap (heap_alloc_new _ _) id) id;have cb:Hid (w1.heap[w.heap.size+1]?=some (.cells #[.int .i64 b0,.int .i64 b1,.int .i64 b2] 43)):=u1.heap (by have:=heap_alloc_new (w.alloc (.cells #[.int .i64 a0,.int .i64 a1,.int .i64 a2] 43)) (.cells #[.int .i64 b0,.int .i64 b1,.int .i64 b2] 43);rwa [World.size_alloc] at this) id;obtain ⟨g1,g2,g3⟩:=cells3 ca.out;obtain ⟨g4,g5,g6⟩:=cells3 cb.out;clear u1;rcases h1:ptLt (a0,a1,a2) (b0,b1,b2) with _ | _
 ·go_wp2_with fail
  refine (hl (b0,b1,b2) (a0,a1,a2) _).out.mono ?_;rintro e w2 ⟨rfl,u2⟩;have U2:=Lib.hid (U1.out.trans u2);clear u2;rw [h1] at hc;rcases h2:ptLt (b0,b1,b2) (a0,a1,a2) with _ | _
  ·rw [h2] at hc;go_wp2_with fail
   go_ret
   exact ⟨by rw [hc.out];rfl,U2.out⟩
  ·rw [h2] at hc;go_wp2_with fail
   go_ret
   exact ⟨by rw [hc.out];rfl,U2.out⟩
 ·rw [h1] at hc;go_wp2_with fail
  go_ret
  exact ⟨by rw [hc.out];rfl,U1.out⟩
theorem Or_any (w w1:World) (a b c:Int) (B:Nat) (g1:w1.cell? ⟨B,0,none⟩=some (.int .i64 a)) (g2:w1.cell? ⟨B,1,none⟩=some (.int .i64 b)) (g3:w1.cell? ⟨B,2,none⟩=some (.int .i64 c)) (U:Gr w w1) (cap:Nat) :
  Calls Tryz.prog 141 #[.slice (some ⟨B,0,none⟩) 3 cap] w1 fun en w'=>en=.returned (.int .i64 (orL a b c))∧Gr w w':=by
 have hU:=Lib.hid U;have ho:=Lib.hid (show orL a b c=if a≠0 then a else if b≠0 then b else c from rfl);clear U;go_enter Tryz.func141,Tryz.ntmps141
 go_wp2_with fail
 refine wp_loop_rounds 4 ?_;rw [rounds_succ];by_cases h1:a=0
 ·subst h1;go_wp2_with fail
  rw [rounds_succ];by_cases h2:b=0
  ·subst h2;go_wp2_with fail
   rw [rounds_succ];by_cases h3:c=0
   ·subst h3;go_wp2_with fail
    rw [rounds_succ];go_wp2_with fail
    go_ret
    exact ⟨by rw [ho.out];rfl,hU.out⟩
   ·go_wp2_with fail
    go_ret
    exact ⟨by rw [ho.out];rfl,hU.out⟩
  ·go_wp2_with fail
   go_ret
   exact ⟨by rw [ho.out];simp [h2],hU.out⟩
 ·go_wp2_with fail
  go_ret
  exact ⟨by rw [ho.out];simp [h1],hU.out⟩
end Go.Proofs.YtcikldoaidmnhaaGreatDoor
namespace Go.Proofs.YtcikldoaidmnhaaGreatDoor
open Go Go.RowKit Pk
set_option maxRecDepth 100000
def triC (t:Tri):List Value:=[.int .i64 t.1.1,.int .i64 t.1.2.1,.int .i64 t.1.2.2,.int .i64 t.2.1.1,.int .i64 t.2.1.2.1,.int .i64 t.2.1.2.2,.int .i64 t.2.2.1,.int .i64 t.2.2.2.1,.int .i64 t.2.2.2.2]
def triV (t:Tri):Value:=.agg (triC t).toArray
theorem cells9 {w:World} {b:Nat} {x0 x1 x2 x3 x4 x5 x6 x7 x8:Value} {t:TypeId} {fr:Nat × Nat} (h:w.heap[b]?=some (.cells #[x0,x1,x2,x3,x4,x5,x6,x7,x8] t fr)) :
  w.cell? ⟨b,0,none⟩=some x0∧w.cell? ⟨b,1,none⟩=some x1∧w.cell? ⟨b,2,none⟩=some x2∧w.cell? ⟨b,3,none⟩=some x3∧w.cell? ⟨b,4,none⟩=some x4∧w.cell? ⟨b,5,none⟩=some x5∧w.cell? ⟨b,6,none⟩=some x6∧w.cell? ⟨b,7,none⟩=some x7∧w.cell? ⟨b,8,none⟩=some x8:=by simp [World.cell?,h]
set_option maxHeartbeats 1000000 in
theorem compareTris_any (s t:Tri) (w:World):Calls Tryz.prog 95 #[triV s,triV t] w fun en w'=>en=.returned (.int .i64 (cmpT s t))∧Gr w w':=by
 have hl:=fun p q W=>Lib.hid (comparePoints_any p q W);have hc:=Lib.hid (show cmpT s t=orL (cmpP s.1 t.1) (cmpP s.2.1 t.2.1) (cmpP s.2.2 t.2.2) from rfl);obtain ⟨⟨a0,a1,a2⟩,⟨a3,a4,a5⟩,⟨a6,a7,a8⟩⟩:=s;obtain ⟨⟨b0,b1,b2⟩,⟨b3,b4,b5⟩,⟨b6,b7,b8⟩⟩:=t;unfold triV triC;simp only at hc;obtain ⟨n0,hn0⟩:∃n,n=cmpP (a0,a1,a2) (b0,b1,b2):=⟨_,rfl⟩;obtain ⟨n1,hn1⟩:∃n,n=cmpP (a3,a4,a5) (b3,b4,b5):=⟨_,rfl⟩;obtain ⟨n2,hn2⟩:∃n,n=cmpP (a6,a7,a8) (b6,b7,b8):=⟨_,rfl⟩;have c0:=fun W=>hl (a0,a1,a2) (b0,b1,b2) W;have c1:=fun W=>hl (a3,a4,a5) (b3,b4,b5) W;have c2:=fun W=>hl (a6,a7,a8) (b6,b7,b8) W;rw [←hn0,←hn1,←hn2] at hc;rw [←hn0] at c0;rw [←hn1] at c1;rw [←hn2] at c2;clear hn0 hn1 hn2 hl;obtain ⟨wx,hwx⟩:∃wx,wx=(w.alloc (.cells #[.int .i64 a0,.int .i64 a1,.int .i64 a2,.int .i64 a3,.int .i64 a4,.int .i64 a5,.int .i64 a6,.int .i64 a7,.int .i64 a8] 45)).alloc (.cells #[.int .i64 b0,.int .i64 b1,.int .i64 b2,.int .i64 b3,.int .i64 b4,.int .i64 b5,.int .i64 b6,.int .i64 b7,.int .i64 b8] 45):=⟨_,rfl⟩;have U1:Hid (Gr w wx):=by show Gr _ _;rw [hwx];exact ((Gr.refl _).alloc _).alloc _
 have ca:Hid (wx.heap[w.heap.size]?=some (.cells #[.int .i64 a0,.int .i64 a1,.int .i64 a2,.int .i64 a3,.int .i64 a4,.int .i64 a5,.int .i64 a6,.int .i64 a7,.int .i64 a8] 45)):=by
  show _=_;rw [hwx];exact ((Gr.refl _).alloc _).heap (heap_alloc_new _ _) id
 have cb:Hid (wx.heap[w.heap.size+1]?=some (.cells #[.int .i64 b0,.int .i64 b1,.int .i64 b2,.int .i64 b3,.int .i64 b4,.int .i64 b5,.int .i64 b6,.int .i64 b7,.int .i64 b8] 45)):=by
  show _=_;rw [hwx];have:=heap_alloc_new (w.alloc (.cells #[.int .i64 a0,.int .i64 a1,.int .i64 a2,.int .i64 a3,.int .i64 a4,.int .i64 a5,.int .i64 a6,.int .i64 a7,.int .i64 a8] 45)) (.cells #[.int .i64 b0,.int .i64 b1,.int .i64 b2,.int .i64 b3,.int .i64 b4,.int .i64 b5,.int .i64 b6,.int .i64 b7,.int .i64 b8] 45);rwa [World.size_alloc] at this
 go_enter Tryz.func95,Tryz.ntmps95
 go_upto_region 1 with fail
 rw [←hwx];clear hwx;refine wp_region_tree 14 (OT.sures [0,2,5,7,10,12,1,3,6,8,11,13] (.run 4 (.run 9 .nil))) (fun w'=>Gr wx w') (by kernel_rfl) (by kernel_rfl) (fun c a d v w h=>by cases d<;>exact h) ((Gr.refl wx).drew) ?_
 simp only [OT.sures]
 iterate 12 (apply wpT_sure rfl rfl;focus (intro w' hw';obtain ⟨g0,g1,g2,g3,g4,g5,g6,g7,g8⟩:=cells9 (hw'.heap ca.out id);obtain ⟨k0,k1,k2,k3,k4,k5,k6,k7,k8⟩:=cells9 (hw'.heap cb.out id);go_simp;rfl))
 refine wpT_run (fun w'=>Gr wx w') (fun _ h=>h) rfl (fun K hK=>?_);go_simp
 refine (c0 _).out.mono ?_;rintro e w2 ⟨rfl,u2⟩;have U2:=Lib.hid ((Gr.refl wx).drew.trans u2);refine hK _ _ ⟨U2.out,?_⟩;clear hK K u2;refine wpT_run (fun w'=>Gr wx w') (fun _ h=>h) rfl (fun K hK=>?_);go_simp
 refine (c1 _).out.mono ?_;rintro e w3 ⟨rfl,u3⟩;have U3:=Lib.hid (U2.out.trans u3);refine hK _ _ ⟨U3.out,?_⟩;clear hK K u3;refine wpT_nil ?_;go_wp2_with fail
 refine (c2 _).out.mono ?_;rintro e w4 ⟨rfl,u4⟩;have U4:=Lib.hid (U1.out.trans (U3.out.trans u4));clear u4;have q0:(w4.alloc (.cells #[.int .i64 n0,.int .i64 n1,.int .i64 n2] 3)).heap[w4.heap.size]?=some (.cells #[.int .i64 n0,.int .i64 n1,.int .i64 n2] 3 (0,0)):=heap_alloc_new _ _;obtain ⟨g0,g1,g2⟩:=cells3 q0;have HO:=Lib.hid (Or_any w _ n0 n1 n2 w4.heap.size g0 g1 g2 (U4.out.alloc _) 3);clear q0 g0 g1 g2;go_wp2_with fail
 refine HO.out.mono ?_;rintro e w5 ⟨rfl,u5⟩;have U5:=Lib.hid u5;go_wp2_with fail
 go_ret
 exact ⟨by rw [hc.out];rfl,U5.out⟩
end Go.Proofs.YtcikldoaidmnhaaGreatDoor
