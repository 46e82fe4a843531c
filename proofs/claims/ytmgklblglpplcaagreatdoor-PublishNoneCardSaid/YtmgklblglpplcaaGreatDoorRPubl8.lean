/- Parts: Numbers as bits: how they are coded, and that reading undoes it. No condition. Opening group packets as plain functions on bytes; what is accepted is the packet of what is returned. No condition. The canonical form of a list of triangles, and what is wrong with one, as plain functions. No condition. The packet of a cluster as plain functions on lists. No condition. What a reading of an argument te -/
import Derived.Test.YtmgklblglpplcaaGreatDoorRPubl1
import Derived.Test.YtmgklblglpplcaaGreatDoorRPubl2
import Derived.Test.YtmgklblglpplcaaGreatDoorRPubl4
import Derived.Test.YtmgklblglpplcaaGreatDoorRPubl5
import Derived.WalkKit
import Derived.WalkSpells
import Derived.WalkLawsBesides
import Derived.Lib.Hide
import Derived.BigQuiet
import Derived.Deep.DeepFit
import Derived.Deep.DeepCutAuto
import Derived.Deep.AppendLies
import Derived.Deep.QuietTactic
import Derived.ProofKit
import Derived.OpenShut
import Derived.ChangeOld
import Derived.Deep.SlicePairs
import Derived.Deep.Grids
import Derived.WideKeyPair
import Derived.Lib.Bits
namespace Go.Proofs.YtmgklblglpplcaaGreatDoor
open Go Go.RowKit Go.ChangeShapes Go.WideShapes Go.ChangeAt
def RdL {α:Type} (size:Nat) (R:List Value→α→Prop) (w:World) (A:Option Addr) (l:List α):Prop:=
 0<l.length→∃b off,A=some ⟨b,off,none⟩∧∀j (h:j<l.length),∃cs,cs.length=size∧R cs l[j]∧∀i u,cs[i]?=some u→w.cell? ⟨b,off+j*size+i,none⟩=some u
theorem RdL.keep {α:Type} {size:Nat} {R:List Value→α→Prop} {w w':World} {A:Option Addr} {l:List α} (h:RdL size R w A l) (hu:Upd noBlk w w'):RdL size R w' A l:=by
 intro h0;obtain ⟨b,off,e,h1⟩:=h h0;refine ⟨b,off,e,fun j hj=>?_⟩;obtain ⟨cs,h2,h3,h4⟩:=h1 j hj;exact ⟨cs,h2,h3,fun i u hi=>hu.cell (h4 i u hi) id⟩
end Go.Proofs.YtmgklblglpplcaaGreatDoor
namespace Go.Proofs.YtmgklblglpplcaaGreatDoor
open Go Go.RowKit
namespace Pk
abbrev Mv:=(Int × Int × Int) × (Int × Int × Int)
theorem takeR_len {k:Nat} {s a r:Bytes} (h:takeR k s=some (a,r)):a.length=k∧r.length+k=s.length:=by
 unfold takeR at h;split at h
 ·cases h
 ·cases h;simp;omega
theorem partR_good {s r:Bytes} {p:Part} (h:partR s=some (p,r)):goodPart p∧r.length<s.length:=by
 unfold partR at h;cases h1:takeR 32 s with
 | none=>rw [h1] at h;cases h
 | some x=>
  obtain ⟨a,r1⟩:=x;rw [h1] at h;simp only at h;cases h2:takeR 32 r1 with
  | none=>rw [h2] at h;cases h
  | some y=>
   obtain ⟨b,r2⟩:=y;rw [h2] at h;cases h;have k1:=takeR_len h1;have k2:=takeR_len h2;exact ⟨⟨k1.1,k2.1⟩,by omega⟩
theorem listR_all {α:Type} {one:Bytes→Option (α × Bytes)} {good:α→Prop} (h:∀s x r,one s=some (x,r)→good x):∀(k:Nat) (s:Bytes) (l:List α) (r:Bytes),listR one k s=some (l,r)→(∀x,x∈l→good x)∧l.length=k
 | 0,s,l,r,e=>by cases e;exact ⟨fun x hx=>(by cases hx),rfl⟩
 | k+1,s,l,r,e=>by
  rw [listR] at e;cases h1:one s with
  | none=>rw [h1] at e;cases e
  | some x=>
   obtain ⟨x,r1⟩:=x;rw [h1] at e;simp only at e;cases h2:listR one k r1 with
   | none=>rw [h2] at e;cases e
   | some y=>
    obtain ⟨l',r2⟩:=y;rw [h2] at e;cases e;obtain ⟨k1,k2⟩:=listR_all h k r1 l' r h2;refine ⟨fun z hz=>?_,by simp [k2]⟩;rcases List.mem_cons.1 hz with rfl | hz
    ·exact h _ _ _ h1
    ·exact k1 z hz
theorem manyR_all {α:Type} {one:Bytes→Option (α × Bytes)} {good:α→Prop} (h:∀s x r,one s=some (x,r)→good x) {s:Bytes} {l:List α} {r:Bytes} (e:manyR one s=some (l,r)):(∀x,x∈l→good x)∧l.length≤65536:=by
 unfold manyR at e;cases h1:readNum s with
 | none=>rw [h1] at e;cases e
 | some x=>
  obtain ⟨n,r1⟩:=x;rw [h1] at e;simp only at e;split at e
  ·cases e
  ·obtain ⟨k1,k2⟩:=listR_all h _ _ _ _ e;exact ⟨k1,by omega⟩
end Pk
end Go.Proofs.YtmgklblglpplcaaGreatDoor
namespace Go.Proofs.YtmgklblglpplcaaGreatDoor
open Go Go.RowKit
namespace Pc
def nctx (c:Int) (i:Nat):Int:=wrap64 (c+min (i:Int) 31)
def vctx (c:Int) (j:Nat):Int:=wrap64 (wrap64 (c+32)+min (j:Int) 31)
def obits (c:Int):Nat→Nat→List (Int × Bool)
 | i,0=>[(nctx c i,false)]
 | i,m+1=>(nctx c i,true) :: obits c (i+1) m
def vbits (c:Int) (n:Nat):Nat→List (Int × Bool)
 | 0=>[]
 | j+1=>(vctx c j,decide (n / 2 ^ j % 2=1)) :: vbits c n j
def blen (n:Nat):Nat:=if n=0 then 0 else Nat.log2 n+1
def numBits (c:Int) (n:Nat):List (Int × Bool):=obits c 0 (blen n)++vbits c n (blen n-1)
theorem blen_pos {n:Nat} (h:0<n):blen n=blen (n / 2)+1:=by
 unfold blen;rw [if_neg (by omega)];by_cases h2:n / 2=0
 ·have:n=1:=by omega
  subst this;rfl
 ·rw [if_neg h2,Nat.log2_def,if_pos (by omega)]
theorem blen_le {n:Nat} (h:n<2 ^ 64):blen n≤64:=by
 unfold blen;split
 ·omega
 ·rename_i h0
  have:=(Nat.log2_lt h0).2 h;omega
theorem obits_length (c:Int) (i m:Nat):(obits c i m).length=m+1:=by
 induction m generalizing i with
 | zero=>rfl
 | succ m ih=>simp [obits,ih]
theorem vbits_length (c:Int) (n j:Nat):(vbits c n j).length=j:=by
 induction j with
 | zero=>rfl
 | succ j ih=>simp [vbits,ih]
theorem numBits_length {n:Nat} (c:Int) (h:n<2 ^ 64):(numBits c n).length≤128:=by
 have:=blen_le h;rw [numBits,List.length_append,obits_length,vbits_length];omega
def D.ones (c:Int):Nat→D→Nat × D
 | 0,d=>(65,d)
 | f+1,d=>if d.one (nctx c (64-f)) then D.ones c f (d.bit (nctx c (64-f))) else (64-f,d.bit (nctx c (64-f)))
def D.val (c:Int):Nat→Nat→D→Nat × D
 | 0,x,d=>(x,d)
 | j+1,x,d=>D.val c j (2*x+if d.one (vctx c j) then 1 else 0) (d.bit (vctx c j))
structure NumR where
 n:Nat
 ok:Bool
 d:D
def D.number (d:D) (c:Int):NumR:=
 if (D.ones c 65 d).1=65 then ⟨0,false,(D.ones c 65 d).2⟩
 else if (D.ones c 65 d).1=0 then ⟨0,true,(D.ones c 65 d).2⟩
 else ⟨(D.val c ((D.ones c 65 d).1-1) 1 (D.ones c 65 d).2).1,true,(D.val c ((D.ones c 65 d).1-1) 1 (D.ones c 65 d).2).2⟩
def Good (d:D) (l:List (Int × Bool)):Prop:=decodeFrom d (l.map (·.1))=l.map (·.2)
theorem Good.head {d:D} {x:Int × Bool} {l:List (Int × Bool)} (h:Good d (x :: l)):d.one x.1=x.2∧Good (d.bit x.1) l:=by
 unfold Good at h;simp only [List.map_cons,decodeFrom,List.cons.injEq] at h;exact h
theorem Good.start (l:List (Int × Bool)):Good (D.ofCode (encode l)) l:=by
 have:=decode_encode l 0;simpa [Good,Pc.decode] using this
end Pc
end Go.Proofs.YtmgklblglpplcaaGreatDoor
namespace Go.Proofs.YtmgklblglpplcaaGreatDoor
open Go Go.RowKit
namespace Pk
open Pc
abbrev Pt:=Int × Int × Int
abbrev Tri:=Pt × Pt × Pt
abbrev Gate:=Pt × Pt × Pt
abbrev Bits:=List (Int × Bool)
def ptLt (a b:Pt):Bool:=if a.1≠b.1 then decide (a.1<b.1) else if a.2.1≠b.2.1 then decide (a.2.1<b.2.1) else decide (a.2.2<b.2.2)
def edgesT (t:Tri):List (Pt × Pt):=[(t.1,t.2.1),(t.2.1,t.2.2),(t.2.2,t.1)]
def edgesL (l:List Tri):List (Pt × Pt):=l.flatMap edgesT
def third:List Tri→Pt→Pt→Option Pt
 | [],_,_=>none
 | t :: r,p,q=>if t.1=p∧t.2.1=q then some t.2.2 else if t.2.1=p∧t.2.2=q then some t.1 else if t.2.2=p∧t.1=q then some t.2.1 else third r p q
theorem third_isSome:∀(l:List Tri) (p q:Pt),(third l p q).isSome=decide ((p,q)∈edgesL l)
 | [],p,q=>by simp [third,edgesL]
 | t :: r,p,q=>by
  have ih:=third_isSome r p q;have e:edgesL (t :: r)=edgesT t++edgesL r:=rfl;rw [e,third];by_cases h1:t.1=p∧t.2.1=q
  ·obtain ⟨rfl,rfl⟩:=h1;rw [if_pos ⟨rfl,rfl⟩];simp [edgesT]
  ·rw [if_neg h1];by_cases h2:t.2.1=p∧t.2.2=q
   ·obtain ⟨rfl,rfl⟩:=h2;rw [if_pos ⟨rfl,rfl⟩];simp [edgesT]
   ·rw [if_neg h2];by_cases h3:t.2.2=p∧t.1=q
    ·obtain ⟨rfl,rfl⟩:=h3;rw [if_pos ⟨rfl,rfl⟩];simp [edgesT]
    ·rw [if_neg h3,ih];have hn:(p,q)∉edgesT t:=by
      simp only [edgesT,List.mem_cons,Prod.mk.injEq,List.not_mem_nil,or_false];rintro (⟨rfl,rfl⟩ | ⟨rfl,rfl⟩ | ⟨rfl,rfl⟩)
      ·exact h1 ⟨rfl,rfl⟩
      ·exact h2 ⟨rfl,rfl⟩
      ·exact h3 ⟨rfl,rfl⟩
     simp [hn]
structure Wk where
 known:List Pt
 tris:List Tri
 gates:List Gate
def Wk.init:Wk:=⟨[],[],[]⟩
def gatesT (t:Tri):List Gate:=[(t.2.1,t.1,t.2.2),(t.2.2,t.2.1,t.1),(t.1,t.2.2,t.2.1)]
def Wk.visit (w:Wk) (t:Tri) (first:Nat):Wk:=⟨w.known,w.tris++[t],w.gates++(gatesT t).drop first⟩
def openG (tris:List Tri):List Gate→List Gate
 | []=>[]
 | g :: r=>if (third tris g.1 g.2.1).isSome then openG tris r else g :: r
def zig (n:Int):Nat:=if n<0 then (-2*n-1).toNat else (2*n).toNat
def sub (p q:Pt):Pt:=(p.1-q.1,p.2.1-q.2.1,p.2.2-q.2.2)
def placeB (c:Int) (p near:Pt):Bits:=numBits c (zig (p.1-near.1))++numBits (c+64) (zig (p.2.1-near.2.1))++numBits (c+128) (zig (p.2.2-near.2.2))
def cornerB (known:List Pt) (p near:Pt) (bit number place:Int):Bits:=if p∈known then (bit,true) :: numBits number (known.length-1-known.idxOf p) else (bit,false) :: placeB place p near
def meetK (known:List Pt) (p:Pt):List Pt:=if p∈known then known else known++[p]
def lastK (known:List Pt):Pt:=known.getLast?.getD (0,0,0)
def expG (g:Gate):Pt:=(g.1.1+g.2.1.1-g.2.2.1,g.1.2.1+g.2.1.2.1-g.2.2.2.1,g.1.2.2+g.2.1.2.2-g.2.2.2.2)
def seedT (c tris:List Tri):Option Tri:=c.find? (fun t=>(third tris t.1 t.2.1).isNone)
def stepW (c:List Tri) (w:Wk):Option (Bits × Wk):=
 match openG w.tris w.gates with
 | g :: r=>match third c g.1 g.2.1 with
  | none=>some ([(1,false)],⟨w.known,w.tris,r⟩)
  | some p=>some ((1,true) :: cornerB w.known p (expG g) 2 128 448,(⟨meetK w.known p,w.tris,r⟩:Wk).visit (g.1,g.2.1,p) 1)
 | []=>match seedT c w.tris with
  | none=>none
  | some t=>some (cornerB w.known t.1 (lastK w.known) 0 192 256++cornerB (meetK w.known t.1) t.2.1 (lastK (meetK w.known t.1)) 0 192 256++cornerB (meetK (meetK w.known t.1) t.2.1) t.2.2 (lastK (meetK (meetK w.known t.1) t.2.1)) 0 192 256,
    (⟨meetK (meetK (meetK w.known t.1) t.2.1) t.2.2,w.tris,[]⟩:Wk).visit t 0)
def Wk.left (c:List Tri) (w:Wk):Nat:=4*(c.length-w.tris.length)+w.gates.length
end Pk
end Go.Proofs.YtmgklblglpplcaaGreatDoor
namespace Go.Proofs.YtmgklblglpplcaaGreatDoor
open Go Go.RowKit
namespace Pk
def triLt (s t:Tri):Bool:=if s.1≠t.1 then ptLt s.1 t.1 else if s.2.1≠t.2.1 then ptLt s.2.1 t.2.1 else ptLt s.2.2 t.2.2
def manyC (l:List Tri) (p:Pt):Nat:=(l.flatMap (fun t=>[t.1,t.2.1,t.2.2])).count p
end Pk
end Go.Proofs.YtmgklblglpplcaaGreatDoor
