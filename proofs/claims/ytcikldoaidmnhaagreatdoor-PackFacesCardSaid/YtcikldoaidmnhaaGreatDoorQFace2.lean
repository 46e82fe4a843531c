/- Parts: Lists of triangles that differ by order and by which corner comes first: what is wrong with them, and their packets, are the same. No condition. Numbers as bits: how they are coded, and that reading undoes it. No condition. The canonical form of a list of triangles, and what is wrong with one, as plain functions. No condition. The packet of a cluster as plain functions on lists. No condition. -/
import Derived.Test.YtcikldoaidmnhaaGreatDoorQFace1
import Derived.Lib.Bits
namespace Go.Proofs.YtcikldoaidmnhaaGreatDoor
open Go Go.RowKit
namespace Pc
def nctx (c:Int) (i:Nat):Int:=wrap64 (c+min (i:Int) 31)
def vctx (c:Int) (j:Nat):Int:=wrap64 (wrap64 (c+32)+min (j:Int) 31)
def obits (c:Int):Nat→Nat→List (Int × Bool)
 | i,0=>[(nctx c i,false)]
 | i,m+1=>(nctx c i,true) :: obits c (i+1) m
def vbits (c:Int) (n:Nat):Nat→List (Int × Bool)
 | 0=>[]
 | j+1=>(vctx c j,decide (n / 2 ^ j % 2=1)) :: vbits c n j
def blen (n:Nat):Nat:=if n=0 then 0 else Nat.log2 n+1
def numBits (c:Int) (n:Nat):List (Int × Bool):=obits c 0 (blen n)++vbits c n (blen n-1)
theorem blen_zero:blen 0=0:=rfl
theorem blen_pos {n:Nat} (h:0<n):blen n=blen (n / 2)+1:=by
 unfold blen;rw [if_neg (by omega)];by_cases h2:n / 2=0
 ·have:n=1:=by omega
  subst this;rfl
 ·rw [if_neg h2,Nat.log2_def,if_pos (by omega)]
theorem blen_le {n:Nat} (h:n<2 ^ 64):blen n≤64:=by
 unfold blen;split
 ·omega
 ·rename_i h0
  have:=(Nat.log2_lt h0).2 h;omega
theorem blen_lo {n:Nat} (h:0<n):2 ^ (blen n-1)≤n∧n<2 ^ (blen n-1)*2:=by
 have e:blen n-1=Nat.log2 n:=by unfold blen;rw [if_neg (by omega)];rfl
 rw [e];exact ⟨Nat.log2_self_le (by omega),by rw [←Nat.pow_succ];exact Nat.lt_log2_self⟩
theorem obits_length (c:Int) (i m:Nat):(obits c i m).length=m+1:=by
 induction m generalizing i with
 | zero=>rfl
 | succ m ih=>simp [obits,ih]
theorem vbits_length (c:Int) (n j:Nat):(vbits c n j).length=j:=by
 induction j with
 | zero=>rfl
 | succ j ih=>simp [vbits,ih]
theorem numBits_length {n:Nat} (c:Int) (h:n<2 ^ 64):(numBits c n).length≤128:=by
 have:=blen_le h;rw [numBits,List.length_append,obits_length,vbits_length];omega
def D.ones (c:Int):Nat→D→Nat × D
 | 0,d=>(65,d)
 | f+1,d=>if d.one (nctx c (64-f)) then D.ones c f (d.bit (nctx c (64-f))) else (64-f,d.bit (nctx c (64-f)))
def D.val (c:Int):Nat→Nat→D→Nat × D
 | 0,x,d=>(x,d)
 | j+1,x,d=>D.val c j (2*x+if d.one (vctx c j) then 1 else 0) (d.bit (vctx c j))
structure NumR where
 n:Nat
 ok:Bool
 d:D
def D.number (d:D) (c:Int):NumR:=
 if (D.ones c 65 d).1=65 then ⟨0,false,(D.ones c 65 d).2⟩
 else if (D.ones c 65 d).1=0 then ⟨0,true,(D.ones c 65 d).2⟩
 else ⟨(D.val c ((D.ones c 65 d).1-1) 1 (D.ones c 65 d).2).1,true,(D.val c ((D.ones c 65 d).1-1) 1 (D.ones c 65 d).2).2⟩
def Good (d:D) (l:List (Int × Bool)):Prop:=decodeFrom d (l.map (·.1))=l.map (·.2)
theorem Good.head {d:D} {x:Int × Bool} {l:List (Int × Bool)} (h:Good d (x :: l)):d.one x.1=x.2∧Good (d.bit x.1) l:=by
 unfold Good at h;simp only [List.map_cons,decodeFrom,List.cons.injEq] at h;exact h
theorem Good.start (l:List (Int × Bool)):Good (D.ofCode (encode l)) l:=by
 have:=decode_encode l 0;simpa [Good,Pc.decode] using this
theorem ones_good {c:Int} {i m:Nat} {d:D} {r:List (Int × Bool)} (him:i+m≤64) (h:Good d (obits c i m++r)) :
  (D.ones c (65-i) d).1=i+m∧Good (D.ones c (65-i) d).2 r:=by
 induction m generalizing i d with
 | zero=>
  obtain ⟨h1,h2⟩:=Good.head h;rw [show 65-i=(64-i)+1 by omega,D.ones,show 64-(64-i)=i by omega];simp only at h1 h2;rw [h1];exact ⟨rfl,h2⟩
 | succ m ih=>
  obtain ⟨h1,h2⟩:=Good.head h;rw [show 65-i=(64-i)+1 by omega,D.ones,show 64-(64-i)=i by omega];simp only at h1 h2;rw [h1,if_pos rfl];have:=ih (i:=i+1) (by omega) h2;rw [show 65-(i+1)=64-i by omega,show i+1+m=i+(m+1) by omega] at this;exact this
theorem val_good {c:Int} {n j x:Nat} {d:D} {r:List (Int × Bool)} (h:Good d (vbits c n j++r)) :
  (D.val c j x d).1=x*2 ^ j+n % 2 ^ j∧Good (D.val c j x d).2 r:=by
 induction j generalizing x d with
 | zero=>exact ⟨by simp [D.val,Nat.mod_one],h⟩
 | succ j ih=>
  obtain ⟨h1,h2⟩:=Good.head h;simp only at h1 h2;rw [D.val,h1];have:=ih (x:=2*x+if decide (n / 2 ^ j % 2=1)=true then 1 else 0) h2;refine ⟨?_,this.2⟩;rw [this.1];have e:n % 2 ^ (j+1)=n / 2 ^ j % 2*2 ^ j+n % 2 ^ j:=by
   rw [Nat.pow_succ,Nat.mod_mul,Nat.mul_comm (2 ^ j)];omega
  rw [e,Nat.pow_succ];have hb:(if decide (n / 2 ^ j % 2=1)=true then 1 else 0)=n / 2 ^ j % 2:=by
   by_cases hq:n / 2 ^ j % 2=1
   ·rw [if_pos (by simpa using hq),hq]
   ·rw [if_neg (by simpa using hq)];omega
  rw [hb,Nat.add_mul,Nat.mul_comm 2 x,Nat.mul_assoc x 2,Nat.mul_comm 2 (2 ^ j)];omega
theorem number_good {c:Int} {n:Nat} {d:D} {r:List (Int × Bool)} (hn:n<2 ^ 64) (h:Good d (numBits c n++r)) :
  (d.number c).n=n∧(d.number c).ok=true∧Good (d.number c).d r:=by
 have hl:=blen_le hn;unfold numBits at h;rw [List.append_assoc] at h;obtain ⟨h1,h2⟩:=ones_good (i:=0) (m:=blen n) (by omega) h;rw [Nat.zero_add] at h1;unfold D.number;rw [show 65=65-0 from rfl] at *;rw [h1,if_neg (by omega)];by_cases h0:n=0
 ·subst h0;rw [if_pos blen_zero];exact ⟨rfl,rfl,by simpa [vbits,blen] using h2⟩
 ·have hp:=blen_pos (n:=n) (by omega);rw [if_neg (by omega)];have h3:=val_good (x:=1) h2;refine ⟨?_,rfl,h3.2⟩;show (D.val c (blen n-1) 1 (D.ones c (65-0) d).2).1=n;rw [h3.1];have hb:=blen_lo (n:=n) (by omega);generalize 2 ^ (blen n-1)=q at *;have:n % q=n-q:=by
   rw [Nat.mod_eq_sub_mod hb.1,Nat.mod_eq_of_lt (by omega)]
  omega
end Pc
end Go.Proofs.YtcikldoaidmnhaaGreatDoor
namespace Go.Proofs.YtcikldoaidmnhaaGreatDoor
open Go Go.RowKit
namespace Pk
open Pc
abbrev Pt:=Int × Int × Int
abbrev Tri:=Pt × Pt × Pt
abbrev Gate:=Pt × Pt × Pt
abbrev Bits:=List (Int × Bool)
def ptLt (a b:Pt):Bool:=if a.1≠b.1 then decide (a.1<b.1) else if a.2.1≠b.2.1 then decide (a.2.1<b.2.1) else decide (a.2.2<b.2.2)
def edgesT (t:Tri):List (Pt × Pt):=[(t.1,t.2.1),(t.2.1,t.2.2),(t.2.2,t.1)]
def edgesL (l:List Tri):List (Pt × Pt):=l.flatMap edgesT
def third:List Tri→Pt→Pt→Option Pt
 | [],_,_=>none
 | t :: r,p,q=>if t.1=p∧t.2.1=q then some t.2.2 else if t.2.1=p∧t.2.2=q then some t.1 else if t.2.2=p∧t.1=q then some t.2.1 else third r p q
theorem third_isSome:∀(l:List Tri) (p q:Pt),(third l p q).isSome=decide ((p,q)∈edgesL l)
 | [],p,q=>by simp [third,edgesL]
 | t :: r,p,q=>by
  have ih:=third_isSome r p q;have e:edgesL (t :: r)=edgesT t++edgesL r:=rfl;rw [e,third];by_cases h1:t.1=p∧t.2.1=q
  ·obtain ⟨rfl,rfl⟩:=h1;rw [if_pos ⟨rfl,rfl⟩];simp [edgesT]
  ·rw [if_neg h1];by_cases h2:t.2.1=p∧t.2.2=q
   ·obtain ⟨rfl,rfl⟩:=h2;rw [if_pos ⟨rfl,rfl⟩];simp [edgesT]
   ·rw [if_neg h2];by_cases h3:t.2.2=p∧t.1=q
    ·obtain ⟨rfl,rfl⟩:=h3;rw [if_pos ⟨rfl,rfl⟩];simp [edgesT]
    ·rw [if_neg h3,ih];have hn:(p,q)∉edgesT t:=by
      simp only [edgesT,List.mem_cons,Prod.mk.injEq,List.not_mem_nil,or_false];rintro (⟨rfl,rfl⟩ | ⟨rfl,rfl⟩ | ⟨rfl,rfl⟩)
      ·exact h1 ⟨rfl,rfl⟩
      ·exact h2 ⟨rfl,rfl⟩
      ·exact h3 ⟨rfl,rfl⟩
     simp [hn]
structure Wk where
 known:List Pt
 tris:List Tri
 gates:List Gate
def Wk.init:Wk:=⟨[],[],[]⟩
def gatesT (t:Tri):List Gate:=[(t.2.1,t.1,t.2.2),(t.2.2,t.2.1,t.1),(t.1,t.2.2,t.2.1)]
def Wk.visit (w:Wk) (t:Tri) (first:Nat):Wk:=⟨w.known,w.tris++[t],w.gates++(gatesT t).drop first⟩
def openG (tris:List Tri):List Gate→List Gate
 | []=>[]
 | g :: r=>if (third tris g.1 g.2.1).isSome then openG tris r else g :: r
theorem openG_len (tris:List Tri):∀g:List Gate,(openG tris g).length≤g.length
 | []=>Nat.le_refl _
 | g :: r=>by
  rw [openG];split
  ·have:=openG_len tris r;simp;omega
  ·exact Nat.le_refl _
def zig (n:Int):Nat:=if n<0 then (-2*n-1).toNat else (2*n).toNat
def zag (n:Nat):Int:=if n % 2=1 then -((n / 2:Nat):Int)-1 else ((n / 2:Nat):Int)
theorem zag_zig (n:Int):zag (zig n)=n:=by
 unfold zig zag;by_cases h:n<0
 ·rw [if_pos h,if_pos (by omega)];omega
 ·rw [if_neg h,if_neg (by omega)];omega
def sub (p q:Pt):Pt:=(p.1-q.1,p.2.1-q.2.1,p.2.2-q.2.2)
def placeB (c:Int) (p near:Pt):Bits:=numBits c (zig (p.1-near.1))++numBits (c+64) (zig (p.2.1-near.2.1))++numBits (c+128) (zig (p.2.2-near.2.2))
def cornerB (known:List Pt) (p near:Pt) (bit number place:Int):Bits:=if p∈known then (bit,true) :: numBits number (known.length-1-known.idxOf p) else (bit,false) :: placeB place p near
def meetK (known:List Pt) (p:Pt):List Pt:=if p∈known then known else known++[p]
def lastK (known:List Pt):Pt:=known.getLast?.getD (0,0,0)
def expG (g:Gate):Pt:=(g.1.1+g.2.1.1-g.2.2.1,g.1.2.1+g.2.1.2.1-g.2.2.2.1,g.1.2.2+g.2.1.2.2-g.2.2.2.2)
def seedT (c tris:List Tri):Option Tri:=c.find? (fun t=>(third tris t.1 t.2.1).isNone)
def stepW (c:List Tri) (w:Wk):Option (Bits × Wk):=
 match openG w.tris w.gates with
 | g :: r=>match third c g.1 g.2.1 with
  | none=>some ([(1,false)],⟨w.known,w.tris,r⟩)
  | some p=>some ((1,true) :: cornerB w.known p (expG g) 2 128 448,(⟨meetK w.known p,w.tris,r⟩:Wk).visit (g.1,g.2.1,p) 1)
 | []=>match seedT c w.tris with
  | none=>none
  | some t=>some (cornerB w.known t.1 (lastK w.known) 0 192 256++cornerB (meetK w.known t.1) t.2.1 (lastK (meetK w.known t.1)) 0 192 256++cornerB (meetK (meetK w.known t.1) t.2.1) t.2.2 (lastK (meetK (meetK w.known t.1) t.2.1)) 0 192 256,
    (⟨meetK (meetK (meetK w.known t.1) t.2.1) t.2.2,w.tris,[]⟩:Wk).visit t 0)
def walkB (c:List Tri):Nat→Wk→Bits
 | 0,_=>[]
 | f+1,w=>if c.length≤w.tris.length then [] else match stepW c w with
  | none=>[]
  | some (b,w')=>b++walkB c f w'
def Wk.left (c:List Tri) (w:Wk):Nat:=4*(c.length-w.tris.length)+w.gates.length
theorem visit_left (c:List Tri) (w:Wk) (t:Tri) (first:Nat) (h:w.tris.length<c.length):(w.visit t first).left c<w.left c∨first=0:=by
 by_cases hf:first=0
 ·exact .inr hf
 ·left;unfold Wk.left Wk.visit;have hg:((gatesT t).drop first).length≤2:=by rw [List.length_drop];simp [gatesT];omega
  simp only [List.length_append,List.length_cons,List.length_nil];omega
theorem step_left {c:List Tri} {w w':Wk} {b:Bits} (h:w.tris.length<c.length) (hs:stepW c w=some (b,w')):w'.left c<w.left c:=by
 unfold stepW at hs;have hl:=openG_len w.tris w.gates;split at hs
 ·rename_i g r hg
  rw [hg,List.length_cons] at hl;split at hs
  ·cases hs;unfold Wk.left;simp only;omega
  ·rename_i p hp
   cases hs;have:=visit_left c ⟨meetK w.known p,w.tris,r⟩ (g.1,g.2.1,p) 1 h;rcases this with h1 | h1
   ·refine Nat.lt_of_lt_of_le h1 ?_;unfold Wk.left;simp only;omega
   ·omega
 ·rename_i hg
  split at hs
  ·cases hs
  ·cases hs;unfold Wk.left Wk.visit;simp only [List.length_append,List.length_cons,List.length_nil,gatesT,List.drop_zero];omega
def bitsC (c:List Tri):Bits:=numBits 64 c.length++walkB c (Wk.init.left c) Wk.init
def packC (c:List Tri):List Nat:=1 :: encode (bitsC c)
end Pk
end Go.Proofs.YtcikldoaidmnhaaGreatDoor
namespace Go.Proofs.YtcikldoaidmnhaaGreatDoor
open Go Go.RowKit
namespace Pk
theorem ptLt_irrefl (a:Pt):ptLt a a=false:=by simp [ptLt]
theorem ptLt_iff (a b:Pt):ptLt a b=true↔(a.1<b.1∨(a.1=b.1∧(a.2.1<b.2.1∨(a.2.1=b.2.1∧a.2.2<b.2.2)))):=by
 unfold ptLt;by_cases h1:a.1=b.1
 ·rw [if_neg (by simp [h1])];by_cases h2:a.2.1=b.2.1
  ·rw [if_neg (by simp [h2]),decide_eq_true_eq];omega
  ·rw [if_pos h2,decide_eq_true_eq];omega
 ·rw [if_pos h1,decide_eq_true_eq];omega
theorem pt_ext {a b:Pt} (h1:a.1=b.1) (h2:a.2.1=b.2.1) (h3:a.2.2=b.2.2):a=b:=by
 obtain ⟨a1,a2,a3⟩:=a;obtain ⟨b1,b2,b3⟩:=b;simp only at h1 h2 h3;rw [h1,h2,h3]
theorem ptLt_total {a b:Pt} (h1:ptLt a b=false) (h2:ptLt b a=false):a=b:=by
 have k1:¬ptLt a b=true:=by rw [h1];simp
 have k2:¬ptLt b a=true:=by rw [h2];simp
 rw [ptLt_iff] at k1 k2;exact pt_ext (by omega) (by omega) (by omega)
theorem ptLt_trans {a b c:Pt} (h1:ptLt a b=true) (h2:ptLt b c=true):ptLt a c=true:=by
 rw [ptLt_iff] at *;omega
theorem ptLt_asymm {a b:Pt} (h:ptLt a b=true):ptLt b a=false:=by
 have:¬ptLt b a=true:=by rw [ptLt_iff] at *;omega
 simpa using this
def triLt (s t:Tri):Bool:=if s.1≠t.1 then ptLt s.1 t.1 else if s.2.1≠t.2.1 then ptLt s.2.1 t.2.1 else ptLt s.2.2 t.2.2
theorem triLt_irrefl (t:Tri):triLt t t=false:=by simp [triLt,ptLt_irrefl]
theorem tri_ext {a b:Tri} (h1:a.1=b.1) (h2:a.2.1=b.2.1) (h3:a.2.2=b.2.2):a=b:=by
 obtain ⟨a1,a2,a3⟩:=a;obtain ⟨b1,b2,b3⟩:=b;simp only at h1 h2 h3;rw [h1,h2,h3]
theorem triLt_total {s t:Tri} (h1:triLt s t=false) (h2:triLt t s=false):s=t:=by
 unfold triLt at h1 h2;by_cases e1:s.1=t.1
 ·rw [if_neg (by simp [e1])] at h1 h2;by_cases e2:s.2.1=t.2.1
  ·rw [if_neg (by simp [e2])] at h1 h2;exact tri_ext e1 e2 (ptLt_total h1 h2)
  ·rw [if_pos e2] at h1;rw [if_pos (Ne.symm e2)] at h2;exact absurd (ptLt_total h1 h2) e2
 ·rw [if_pos e1] at h1;rw [if_pos (Ne.symm e1)] at h2;exact absurd (ptLt_total h1 h2) e1
theorem triLt_asymm {s t:Tri} (h:triLt s t=true):triLt t s=false:=by
 unfold triLt at *;by_cases e1:s.1=t.1
 ·rw [if_neg (by simp [e1])] at h ⊢;by_cases e2:s.2.1=t.2.1
  ·rw [if_neg (by simp [e2])] at h ⊢;exact ptLt_asymm h
  ·rw [if_pos e2] at h;rw [if_pos (Ne.symm e2)];exact ptLt_asymm h
 ·rw [if_pos e1] at h;rw [if_pos (Ne.symm e1)];exact ptLt_asymm h
theorem triLt_trans {r s t:Tri} (h1:triLt r s=true) (h2:triLt s t=true):triLt r t=true:=by
 unfold triLt at *;by_cases e1:r.1=s.1
 ·rw [if_neg (by simp [e1])] at h1;rw [e1];by_cases e2:s.1=t.1
  ·rw [if_neg (by simp [e2])] at h2;rw [if_neg (by simp [e2])];by_cases e3:r.2.1=s.2.1
   ·rw [if_neg (by simp [e3])] at h1;rw [e3];by_cases e4:s.2.1=t.2.1
    ·rw [if_neg (by simp [e4])] at h2;rw [if_neg (by simp [e4])];exact ptLt_trans h1 h2
    ·rw [if_pos e4] at h2 ⊢;exact h2
   ·rw [if_pos e3] at h1;by_cases e4:s.2.1=t.2.1
    ·rw [←e4,if_pos e3];exact h1
    ·rw [if_pos e4] at h2;have h3:=ptLt_trans h1 h2;rw [if_pos (fun e=>by rw [e,ptLt_irrefl] at h3;cases h3)];exact h3
  ·rw [if_pos e2] at h2 ⊢;exact h2
 ·rw [if_pos e1] at h1;by_cases e2:s.1=t.1
  ·rw [←e2,if_pos e1];exact h1
  ·rw [if_pos e2] at h2;have h3:=ptLt_trans h1 h2;rw [if_pos (fun e=>by rw [e,ptLt_irrefl] at h3;cases h3)];exact h3
def rot (t:Tri):Tri:=if ptLt t.2.1 t.1 then (if ptLt t.2.2 t.2.1 then (t.2.2,t.1,t.2.1) else (t.2.1,t.2.2,t.1)) else (if ptLt t.2.2 t.1 then (t.2.2,t.1,t.2.1) else t)
def triLe (s t:Tri):Bool:=!triLt t s
def canon (l:List Tri):List Tri:=(l.map rot).mergeSort triLe
theorem canon_length (l:List Tri):(canon l).length=l.length:=by unfold canon;rw [List.length_mergeSort,List.length_map]
theorem triLe_trans (a b c:Tri) (h1:triLe a b=true) (h2:triLe b c=true):triLe a c=true:=by
 unfold triLe at *;simp only [Bool.not_eq_true',] at *;by_cases e:triLt c a=true
 ·exfalso;by_cases e2:triLt a b=true
  ·have:=triLt_trans e e2;rw [h2] at this;cases this
  ·have hab:a=b:=triLt_total (by simpa using e2) h1;subst hab;rw [h2] at e;cases e
 ·simpa using e
theorem triLe_total (a b:Tri):(triLe a b||triLe b a)=true:=by
 unfold triLe;cases h:triLt b a
 ·rfl
 ·rw [triLt_asymm h];rfl
theorem sorted_unique:∀{l l':List Tri},l.Perm l'→l.Pairwise (fun a b=>triLe a b=true)→l'.Pairwise (fun a b=>triLe a b=true)→l=l'
 | [],l',hp,_,_=>(List.nil_perm.1 hp).symm
 | a :: l,[],hp,_,_=>absurd hp.length_eq (by simp)
 | a :: l,b :: l',hp,h1,h2=>by
  obtain ⟨p1,p2⟩:=List.pairwise_cons.1 h1;obtain ⟨q1,q2⟩:=List.pairwise_cons.1 h2;have hab:a=b:=by
   have m1:a∈b :: l':=hp.mem_iff.1 (by simp);have m2:b∈a :: l:=hp.mem_iff.2 (by simp);rw [List.mem_cons] at m1 m2;rcases m1 with rfl | m1
   ·rfl
   ·rcases m2 with rfl | m2
    ·rfl
    ·have h3:=p1 b m2;have h4:=q1 a m1;unfold triLe at h3 h4;exact triLt_total (by simpa using h4) (by simpa using h3)
  subst hab;rw [sorted_unique (List.Perm.cons_inv hp) p2 q2]
def manyC (l:List Tri) (p:Pt):Nat:=(l.flatMap (fun t=>[t.1,t.2.1,t.2.2])).count p
def ringN (l:List Tri) (p:Pt):Nat→Pt→Option Pt
 | 0,q=>some q
 | n+1,q=>match third l p q with
  | none=>none
  | some r=>ringN l p n r
def pinched (l:List Tri):Bool:=(edgesL l).any (fun e=>(List.range (manyC l e.1)).any (fun n=>decide (1≤n)&&(ringN l e.1 n e.2 == some e.2)))
def flatT (t:Tri):Bool:=decide (t.1=t.2.1∨t.2.1=t.2.2∨t.2.2=t.1)
def checkO (l:List Tri):Nat:=if l.any flatT then 20 else if ¬(edgesL l).Nodup then 21 else if pinched l then 23 else 0
def coordT (t:Tri):Bool:=[t.1,t.2.1,t.2.2].all (fun p=>decide (0≤p.1∧p.1≤2097151∧0≤p.2.1∧p.2.1≤2097151∧0≤p.2.2∧p.2.2≤2097151))
def packable (l:List Tri):Bool:=l.all coordT&&decide (l.length≤128)&&decide (checkO l=0)
def clusterN (l:List Tri):List Nat:=if packable l then packC (canon l) else []
end Pk
end Go.Proofs.YtcikldoaidmnhaaGreatDoor
namespace Go.Proofs.YtcikldoaidmnhaaGreatDoor
open Go Go.RowKit
namespace Pk
def RotE (s t:Tri):Prop:=s=t∨s=(t.2.1,t.2.2,t.1)∨s=(t.2.2,t.1,t.2.1)
theorem RotE.refl (t:Tri):RotE t t:=.inl rfl
theorem RotE.symm {s t:Tri} (h:RotE s t):RotE t s:=by
 rcases h with rfl | rfl | rfl
 ·exact .inl rfl
 ·exact .inr (.inr rfl)
 ·exact .inr (.inl rfl)
theorem RotE.trans {r s t:Tri} (h:RotE r s) (k:RotE s t):RotE r t:=by
 rcases h with rfl | rfl | rfl
 ·exact k
 ·rcases k with rfl | rfl | rfl
  ·exact .inr (.inl rfl)
  ·exact .inr (.inr rfl)
  ·exact .inl rfl
 ·rcases k with rfl | rfl | rfl
  ·exact .inr (.inr rfl)
  ·exact .inl rfl
  ·exact .inr (.inl rfl)
theorem RotE.edges {s t:Tri} (h:RotE s t):(edgesT s).Perm (edgesT t):=by
 rcases h with rfl | rfl | rfl
 ·exact List.Perm.refl _
 ·show [(t.2.1,t.2.2),(t.2.2,t.1),(t.1,t.2.1)].Perm [(t.1,t.2.1),(t.2.1,t.2.2),(t.2.2,t.1)];exact (List.perm_append_comm (l₁:=[(t.2.1,t.2.2),(t.2.2,t.1)]) (l₂:=[(t.1,t.2.1)]))
 ·show [(t.2.2,t.1),(t.1,t.2.1),(t.2.1,t.2.2)].Perm [(t.1,t.2.1),(t.2.1,t.2.2),(t.2.2,t.1)];exact (List.perm_append_comm (l₁:=[(t.2.2,t.1)]) (l₂:=[(t.1,t.2.1),(t.2.1,t.2.2)]))
def cornT (t:Tri):List Pt:=[t.1,t.2.1,t.2.2]
theorem RotE.corners {s t:Tri} (h:RotE s t):(cornT s).Perm (cornT t):=by
 rcases h with rfl | rfl | rfl
 ·exact List.Perm.refl _
 ·exact (List.perm_append_comm (l₁:=[t.2.1,t.2.2]) (l₂:=[t.1]))
 ·exact (List.perm_append_comm (l₁:=[t.2.2]) (l₂:=[t.1,t.2.1]))
theorem RotE.flat {s t:Tri} (h:RotE s t):flatT s=flatT t:=by
 rcases h with rfl | rfl | rfl
 ·rfl
 ·unfold flatT;rw [decide_eq_decide];simp only;constructor<;>(rintro (h | h | h)<;>simp [h])
 ·unfold flatT;rw [decide_eq_decide];simp only;constructor<;>(rintro (h | h | h)<;>simp [h])
theorem RotE.coord {s t:Tri} (h:RotE s t):coordT s=coordT t:=by
 have e:∀u:Tri,coordT u=(cornT u).all (fun p=>decide (0≤p.1∧p.1≤2097151∧0≤p.2.1∧p.2.1≤2097151∧0≤p.2.2∧p.2.2≤2097151)):=fun _=>rfl;rw [e,e,Bool.eq_iff_iff,List.all_eq_true,List.all_eq_true];exact ⟨fun k x hx=>k x (h.corners.mem_iff.2 hx),fun k x hx=>k x (h.corners.mem_iff.1 hx)⟩
def nrm (t:Tri):Tri:=
 let m:=if triLt (t.2.1,t.2.2,t.1) t then (t.2.1,t.2.2,t.1) else t
 if triLt (t.2.2,t.1,t.2.1) m then (t.2.2,t.1,t.2.1) else m
theorem triLt_ftrans {a b c:Tri} (h1:triLt a b=false) (h2:triLt b c=false):triLt a c=false:=by
 have:=triLe_trans c b a (by unfold triLe;rw [h2];rfl) (by unfold triLe;rw [h1];rfl);unfold triLe at this;simpa using this
theorem nrm_rot (t:Tri):RotE (nrm t) t:=by
 have k:∀m:Tri,RotE m t→RotE (if triLt (t.2.2,t.1,t.2.1) m then (t.2.2,t.1,t.2.1) else m) t:=fun m hm=>by
  split
  ·exact .inr (.inr rfl)
  ·exact hm
 unfold nrm;refine k _ ?_;split
 ·exact .inr (.inl rfl)
 ·exact .inl rfl
theorem nrm_le {s t:Tri} (h:RotE s t):triLt s (nrm t)=false:=by
 have k1:triLt t (if triLt (t.2.1,t.2.2,t.1) t then (t.2.1,t.2.2,t.1) else t)=false:=by
  split
  ·rename_i h;exact triLt_asymm h
  ·exact triLt_irrefl t
 have k2:triLt (t.2.1,t.2.2,t.1) (if triLt (t.2.1,t.2.2,t.1) t then (t.2.1,t.2.2,t.1) else t)=false:=by
  split
  ·exact triLt_irrefl _
  ·rename_i h;simpa using h
 unfold nrm;simp only;generalize (if triLt (t.2.1,t.2.2,t.1) t then (t.2.1,t.2.2,t.1) else t)=m at *;split
 ·rename_i h3
  have h4:=triLt_asymm h3;rcases h with rfl | rfl | rfl
  ·exact triLt_ftrans k1 h4
  ·exact triLt_ftrans k2 h4
  ·exact triLt_irrefl _
 ·rename_i h3
  rcases h with rfl | rfl | rfl
  ·exact k1
  ·exact k2
  ·simpa using h3
theorem nrm_eq {s t:Tri} (h:RotE s t):nrm s=nrm t:=
 triLt_total (nrm_le ((nrm_rot s).trans h)) (nrm_le ((nrm_rot t).trans h.symm))
theorem rot_rot (t:Tri):RotE (rot t) t:=by
 unfold rot;split
 ·split
  ·exact .inr (.inr rfl)
  ·exact .inr (.inl rfl)
 ·split
  ·exact .inr (.inr rfl)
  ·exact .inl rfl
theorem rot_first (t:Tri):ptLt (rot t).2.1 (rot t).1=false∧ptLt (rot t).2.2 (rot t).1=false:=by
 unfold rot;cases h1:ptLt t.2.1 t.1 with
 | false=>
  rw [if_neg (by simp)];cases h2:ptLt t.2.2 t.1 with
  | false=>rw [if_neg (by simp)];exact ⟨h1,h2⟩
  | true=>
   rw [if_pos rfl];simp only;refine ⟨ptLt_asymm h2,?_⟩;cases h3:ptLt t.2.1 t.2.2 with
   | false=>rfl
   | true=>rw [ptLt_trans h3 h2] at h1;cases h1
 | true=>
  rw [if_pos rfl];cases h2:ptLt t.2.2 t.2.1 with
  | true=>rw [if_pos rfl];exact ⟨ptLt_asymm (ptLt_trans h2 h1),ptLt_asymm h2⟩
  | false=>rw [if_neg (by simp)];exact ⟨h2,ptLt_asymm h1⟩
theorem rot_fix {t:Tri} (h1:ptLt t.2.1 t.1=false) (h2:ptLt t.2.2 t.1=false):rot t=t:=by
 unfold rot;rw [h1,h2];rfl
theorem rot_idem (t:Tri):rot (rot t)=rot t:=rot_fix (rot_first t).1 (rot_first t).2
theorem rot_eq {s t:Tri} (h:RotE s t) (hf:flatT t=false):rot s=rot t:=by
 have key:∀{a b:Tri},RotE a b→flatT b=false→ptLt a.2.1 a.1=false→ptLt a.2.2 a.1=false→ptLt b.2.1 b.1=false→ptLt b.2.2 b.1=false→a=b:=by
  intro a b hab hb a1 a2 b1 b2;have hb':b.1≠b.2.1∧b.2.1≠b.2.2∧b.2.2≠b.1:=by
   unfold flatT at hb;simpa [not_or] using hb
  rcases hab with rfl | rfl | rfl
  ·rfl
  ·simp only at a1 a2;exact absurd (ptLt_total a2 b1) hb'.1
  ·simp only at a1 a2;exact absurd (ptLt_total b2 a1) hb'.2.2
 refine key ((rot_rot s).trans (h.trans (rot_rot t).symm)) ?_ (rot_first s).1 (rot_first s).2 (rot_first t).1 (rot_first t).2;rw [(rot_rot t).flat];exact hf
def Alike (l l':List Tri):Prop:=(l.map nrm).Perm (l'.map nrm)
theorem Alike.refl (l:List Tri):Alike l l:=List.Perm.refl _
theorem Alike.symm {l l':List Tri} (h:Alike l l'):Alike l' l:=List.Perm.symm h
theorem Alike.trans {a b c:List Tri} (h:Alike a b) (k:Alike b c):Alike a c:=List.Perm.trans h k
theorem Alike.of_perm {l l':List Tri} (h:l.Perm l'):Alike l l':=h.map nrm
theorem Alike.length {l l':List Tri} (h:Alike l l'):l.length=l'.length:=by have:=List.Perm.length_eq h;simpa using this
theorem Alike.of_rot {f:Tri→Tri} (hf:∀t,RotE (f t) t) (l:List Tri):Alike (l.map f) l:=by
 have e:(l.map f).map nrm=l.map nrm:=by rw [List.map_map];exact List.map_congr_left (fun t _=>nrm_eq (hf t))
 unfold Alike;rw [e]
theorem canon_alike (l:List Tri):Alike (canon l) l:=(Alike.of_perm (List.mergeSort_perm _ _)).trans (Alike.of_rot rot_rot l)
theorem Alike.mem {l l':List Tri} (h:Alike l l') {t:Tri} (ht:t∈l):∃t',t'∈l'∧RotE t t':=by
 have h1:nrm t∈l'.map nrm:=h.mem_iff.1 (List.mem_map_of_mem ht);obtain ⟨t',h2,h3⟩:=List.mem_map.1 h1;refine ⟨t',h2,(nrm_rot t).symm.trans ?_⟩;rw [←h3];exact nrm_rot t'
theorem flatMap_nrm {β:Type} (f:Tri→List β) (hf:∀t,(f (nrm t)).Perm (f t)):∀l:List Tri,((l.map nrm).flatMap f).Perm (l.flatMap f)
 | []=>List.Perm.refl _
 | t :: l=>by
  show (f (nrm t)++(l.map nrm).flatMap f).Perm (f t++l.flatMap f);exact (hf t).append (flatMap_nrm f hf l)
theorem perm_flatMap {α β:Type} (f:α→List β) {l l':List α} (h:l.Perm l'):(l.flatMap f).Perm (l'.flatMap f):=by
 induction h with
 | nil=>exact List.Perm.refl _
 | cons x _ ih=>rw [List.flatMap_cons,List.flatMap_cons];exact ih.append_left _
 | swap x y l=>
  simp only [List.flatMap_cons];rw [←List.append_assoc,←List.append_assoc];exact List.perm_append_comm.append_right _
 | trans _ _ h1 h2=>exact h1.trans h2
theorem Alike.flatMap {β:Type} (f:Tri→List β) (hf:∀{s t:Tri},RotE s t→(f s).Perm (f t)) {l l':List Tri} (h:Alike l l'):(l.flatMap f).Perm (l'.flatMap f):=
 ((flatMap_nrm f (fun t=>hf (nrm_rot t)) l).symm.trans (perm_flatMap f h)).trans (flatMap_nrm f (fun t=>hf (nrm_rot t)) l')
theorem Alike.edges {l l':List Tri} (h:Alike l l'):(edgesL l).Perm (edgesL l'):=h.flatMap edgesT (fun k=>k.edges)
theorem Alike.many {l l':List Tri} (h:Alike l l') (p:Pt):manyC l p=manyC l' p:=(h.flatMap cornT (fun k=>k.corners)).count_eq p
theorem Alike.anyB {f:Tri→Bool} (hf:∀{s t:Tri},RotE s t→f s=f t) {l l':List Tri} (h:Alike l l'):l.any f=l'.any f:=by
 rw [Bool.eq_iff_iff,List.any_eq_true,List.any_eq_true];constructor
 ·rintro ⟨t,h1,h2⟩;obtain ⟨t',k1,k2⟩:=h.mem h1;exact ⟨t',k1,by rw [←hf k2];exact h2⟩
 ·rintro ⟨t,h1,h2⟩;obtain ⟨t',k1,k2⟩:=h.symm.mem h1;exact ⟨t',k1,by rw [←hf k2];exact h2⟩
theorem Alike.allB {f:Tri→Bool} (hf:∀{s t:Tri},RotE s t→f s=f t) {l l':List Tri} (h:Alike l l'):l.all f=l'.all f:=by
 rw [List.all_eq_not_any_not,List.all_eq_not_any_not,h.anyB (f:=fun t=>!f t) (fun k=>by rw [hf k])]
theorem edgesL_cons (t:Tri) (l:List Tri):edgesL (t :: l)=edgesT t++edgesL l:=rfl
theorem mem_edgesL {l:List Tri} {e:Pt × Pt}:e∈edgesL l↔∃t,t∈l∧e∈edgesT t:=List.mem_flatMap
theorem edge_once:∀{l:List Tri},(edgesL l).Nodup→∀{s t:Tri},s∈l→t∈l→∀{e:Pt × Pt},e∈edgesT s→e∈edgesT t→s=t
 | [],_,_,_,h,_,_,_,_=>by cases h
 | a :: l,hn,s,t,hs,ht,e,h1,h2=>by
  rw [edgesL_cons,List.nodup_append] at hn;obtain ⟨_,n2,n3⟩:=hn;rcases List.mem_cons.1 hs with hs' | hs'
  ·rcases List.mem_cons.1 ht with ht' | ht'
   ·rw [hs',ht']
   ·subst hs';exact absurd rfl (n3 e h1 e (mem_edgesL.2 ⟨t,ht',h2⟩))
  ·rcases List.mem_cons.1 ht with ht' | ht'
   ·subst ht';exact absurd rfl (n3 e h2 e (mem_edgesL.2 ⟨s,hs',h1⟩))
   ·exact edge_once n2 hs' ht' h1 h2
theorem edgesT_nodup:∀{l:List Tri},(edgesL l).Nodup→∀{t:Tri},t∈l→(edgesT t).Nodup
 | [],_,_,h=>by cases h
 | a :: l,hn,t,ht=>by
  rw [edgesL_cons,List.nodup_append] at hn;rcases List.mem_cons.1 ht with rfl | ht
  ·exact hn.1
  ·exact edgesT_nodup hn.2.1 ht
theorem third_some:∀{l:List Tri} {p q r:Pt},third l p q=some r→∃t,t∈l∧RotE (p,q,r) t
 | [],_,_,_,h=>by cases h
 | t :: l,p,q,r,h=>by
  rw [third] at h;split at h
  ·rename_i h1;cases h;exact ⟨t,by simp,.inl (by rw [←h1.1,←h1.2])⟩
  ·split at h
   ·rename_i h1;cases h;exact ⟨t,by simp,.inr (.inl (by rw [←h1.1,←h1.2]))⟩
   ·split at h
    ·rename_i h1;cases h;exact ⟨t,by simp,.inr (.inr (by rw [←h1.1,←h1.2]))⟩
    ·obtain ⟨t',k1,k2⟩:=third_some h;exact ⟨t',by simp [k1],k2⟩
theorem rot_unique {t:Tri} (hn:(edgesT t).Nodup) {p q r r':Pt} (h:RotE (p,q,r) t) (k:RotE (p,q,r') t):r=r':=by
 obtain ⟨a,b,c⟩:=t;simp only [edgesT,List.nodup_cons,List.mem_cons,Prod.mk.injEq,List.not_mem_nil,or_false,not_or,List.nodup_nil,and_true,not_and] at hn;obtain ⟨⟨n1,n2⟩,n3,_⟩:=hn;simp only [RotE,Prod.mk.injEq] at h k;rcases h with ⟨rfl,rfl,rfl⟩ | ⟨rfl,rfl,rfl⟩ | ⟨rfl,rfl,rfl⟩
 ·rcases k with ⟨_,_,rfl⟩ | ⟨h1,h2,rfl⟩ | ⟨h1,h2,rfl⟩
  ·rfl
  ·exact absurd h2 (n1 h1)
  ·exact absurd h2 (n2 h1)
 ·rcases k with ⟨h1,h2,rfl⟩ | ⟨_,_,rfl⟩ | ⟨h1,h2,rfl⟩
  ·exact absurd h2.symm (n1 h1.symm)
  ·rfl
  ·exact absurd h2 (n3 h1)
 ·rcases k with ⟨h1,h2,rfl⟩ | ⟨h1,h2,rfl⟩ | ⟨_,_,rfl⟩
  ·exact absurd h2.symm (n2 h1.symm)
  ·exact absurd h2.symm (n3 h1.symm)
  ·rfl
theorem rot_edge {p q r:Pt} {t:Tri} (h:RotE (p,q,r) t):(p,q)∈edgesT t:=h.edges.mem_iff.1 (by simp [edgesT])
theorem third_eq {l:List Tri} (hn:(edgesL l).Nodup) {t:Tri} (ht:t∈l) {p q r:Pt} (h:RotE (p,q,r) t):third l p q=some r:=by
 have h1:(third l p q).isSome=true:=by rw [third_isSome,decide_eq_true_eq];exact mem_edgesL.2 ⟨t,ht,rot_edge h⟩
 obtain ⟨r',hr⟩:=Option.isSome_iff_exists.1 h1;obtain ⟨t',k1,k2⟩:=third_some hr;have:=edge_once hn k1 ht (rot_edge k2) (rot_edge h);subst this;rw [hr,rot_unique (edgesT_nodup hn k1) k2 h]
theorem Alike.third {l l':List Tri} (h:Alike l l') (hn:(edgesL l).Nodup) (p q:Pt):third l p q=third l' p q:=by
 have hn':(edgesL l').Nodup:=h.edges.nodup_iff.1 hn;cases h1:Pk.third l' p q with
 | some r=>
  obtain ⟨t,k1,k2⟩:=third_some h1;obtain ⟨t',k3,k4⟩:=h.symm.mem k1;exact third_eq hn k3 (k2.trans k4)
 | none=>
  cases h2:Pk.third l p q with
  | none=>rfl
  | some r=>
   obtain ⟨t,k1,k2⟩:=third_some h2;obtain ⟨t',k3,k4⟩:=h.mem k1;rw [third_eq hn' k3 (k2.trans k4)] at h1;cases h1
theorem ringN_congr {l l':List Tri} (h:∀p q,third l p q=third l' p q) (p:Pt):∀(n:Nat) (q:Pt),ringN l p n q=ringN l' p n q
 | 0,_=>rfl
 | n+1,q=>by
  rw [ringN,ringN,h p q];cases third l' p q with
  | none=>rfl
  | some r=>exact ringN_congr h p n r
theorem Alike.pinched {l l':List Tri} (h:Alike l l') (hn:(edgesL l).Nodup):pinched l=pinched l':=by
 have hr:=ringN_congr (h.third hn);have e:∀m:List Tri,Pk.pinched m=(edgesL m).any (fun e=>(List.range (manyC m e.1)).any (fun n=>decide (1≤n)&&(ringN m e.1 n e.2 == some e.2))):=fun _=>rfl;rw [e,e,Bool.eq_iff_iff,List.any_eq_true,List.any_eq_true];constructor
 ·rintro ⟨x,h1,h2⟩;refine ⟨x,h.edges.mem_iff.1 h1,?_⟩;rw [←h.many];simpa only [hr] using h2
 ·rintro ⟨x,h1,h2⟩;refine ⟨x,h.edges.mem_iff.2 h1,?_⟩;rw [h.many];simpa only [hr] using h2
theorem Alike.check {l l':List Tri} (h:Alike l l'):checkO l=checkO l':=by
 unfold checkO;rw [h.anyB (f:=flatT) (fun k=>k.flat)];by_cases h1:l'.any flatT=true
 ·rw [if_pos h1,if_pos h1]
 ·rw [if_neg h1,if_neg h1];by_cases h2:(edgesL l).Nodup
  ·rw [if_neg (not_not_intro h2),if_neg (not_not_intro (h.edges.nodup_iff.1 h2)),h.pinched h2]
  ·rw [if_pos h2,if_pos (fun k=>h2 (h.edges.nodup_iff.2 k))]
theorem Alike.packable {l l':List Tri} (h:Alike l l'):packable l=packable l':=by
 unfold Pk.packable;rw [h.allB (f:=coordT) (fun k=>k.coord),h.length,h.check]
theorem checkO_zero {l:List Tri}:checkO l=0↔(∀t,t∈l→flatT t=false)∧(edgesL l).Nodup∧pinched l=false:=by
 unfold checkO;by_cases h1:l.any flatT=true
 ·rw [if_pos h1];refine ⟨fun h=>by omega,fun h=>?_⟩;obtain ⟨t,k1,k2⟩:=List.any_eq_true.1 h1;rw [h.1 t k1] at k2;cases k2
 ·have h1':∀t,t∈l→flatT t=false:=fun t ht=>by
   cases hf:flatT t with
   | false=>rfl
   | true=>exact absurd (List.any_eq_true.2 ⟨t,ht,hf⟩) h1
  rw [if_neg h1];by_cases h2:(edgesL l).Nodup
  ·rw [if_neg (not_not_intro h2)];cases h3:pinched l with
   | true=>simp
   | false=>exact ⟨fun _=>⟨h1',h2,rfl⟩,fun _=>by simp⟩
  ·rw [if_pos h2];exact ⟨fun h=>by omega,fun h=>absurd h.2.1 h2⟩
theorem Alike.canon {l l':List Tri} (h:Alike l l') (hf:∀t,t∈l→flatT t=false):canon l=canon l':=by
 have hf':∀t,t∈l'→flatT t=false:=fun t ht=>by
  obtain ⟨t',k1,k2⟩:=h.symm.mem ht;rw [k2.flat];exact hf t' k1
 have e:∀m:List Tri,(∀t,t∈m→flatT t=false)→m.map rot=(m.map nrm).map rot:=fun m hm=>by
  rw [List.map_map];refine List.map_congr_left (fun t ht=>?_);exact rot_eq (nrm_rot t).symm (by rw [(nrm_rot t).flat];exact hm t ht)
 unfold Pk.canon;refine sorted_unique ?_ (List.pairwise_mergeSort triLe_trans triLe_total _) (List.pairwise_mergeSort triLe_trans triLe_total _);refine (List.mergeSort_perm _ _).trans (List.Perm.trans ?_ (List.mergeSort_perm _ _).symm);rw [e l hf,e l' hf'];exact List.Perm.map _ h
theorem Alike.cluster {l l':List Tri} (h:Alike l l'):clusterN l=clusterN l':=by
 unfold clusterN;rw [h.packable];by_cases hp:Pk.packable l'=true
 ·rw [if_pos hp,if_pos hp];have hp2:Pk.packable l=true:=by rw [h.packable];exact hp
  unfold Pk.packable at hp2;simp only [Bool.and_eq_true,decide_eq_true_eq] at hp2;rw [h.canon (checkO_zero.1 hp2.2).1]
 ·rw [if_neg hp,if_neg hp]
theorem canon_idem (l:List Tri):canon (canon l)=canon l:=by
 have e:(canon l).map rot=canon l:=by
  have h1:∀t,t∈canon l→rot t=t:=fun t ht=>by
   have h2:t∈l.map rot:=(List.mergeSort_perm _ _).mem_iff.1 ht;obtain ⟨s,_,rfl⟩:=List.mem_map.1 h2;exact rot_idem s
  calc (canon l).map rot=(canon l).map id:=List.map_congr_left h1
   _=canon l:=List.map_id _
 show ((canon l).map rot).mergeSort triLe=canon l;rw [e];refine sorted_unique (List.mergeSort_perm _ _) (List.pairwise_mergeSort triLe_trans triLe_total _) ?_;exact List.pairwise_mergeSort triLe_trans triLe_total _
end Pk
end Go.Proofs.YtcikldoaidmnhaaGreatDoor
