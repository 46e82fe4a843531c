/- Parts: Numbers as bits: how they are coded, and that reading undoes it. No condition. Strings as lists of numbers below 256. No condition. The canonical form of a list of triangles, and what is wrong with one, as plain functions. No condition. The packet of a cluster as plain functions on lists. No condition. Walks of the coder's model: begin, update. Walks of the coder's model: weight, split, begin, car -/
import Derived.Test.YtcikldoaidmnhaaGreatDoorQOpen1
import Derived.Lib.Bits
import Derived.Test.YtcikldoaidmnhaaGreatDoorRows
import Derived.BigQuiet
import Derived.Deep.QuietTactic
namespace Go.Proofs.YtcikldoaidmnhaaGreatDoor
open Go Go.RowKit
namespace Pc
def nctx (c:Int) (i:Nat):Int:=wrap64 (c+min (i:Int) 31)
def vctx (c:Int) (j:Nat):Int:=wrap64 (wrap64 (c+32)+min (j:Int) 31)
def obits (c:Int):Nat→Nat→List (Int × Bool)
 | i,0=>[(nctx c i,false)]
 | i,m+1=>(nctx c i,true) :: obits c (i+1) m
def vbits (c:Int) (n:Nat):Nat→List (Int × Bool)
 | 0=>[]
 | j+1=>(vctx c j,decide (n / 2 ^ j % 2=1)) :: vbits c n j
def blen (n:Nat):Nat:=if n=0 then 0 else Nat.log2 n+1
def numBits (c:Int) (n:Nat):List (Int × Bool):=obits c 0 (blen n)++vbits c n (blen n-1)
theorem blen_zero:blen 0=0:=rfl
theorem blen_pos {n:Nat} (h:0<n):blen n=blen (n / 2)+1:=by
 unfold blen;rw [if_neg (by omega)];by_cases h2:n / 2=0
 ·have:n=1:=by omega
  subst this;rfl
 ·rw [if_neg h2,Nat.log2_def,if_pos (by omega)]
theorem blen_le {n:Nat} (h:n<2 ^ 64):blen n≤64:=by
 unfold blen;split
 ·omega
 ·rename_i h0
  have:=(Nat.log2_lt h0).2 h;omega
theorem blen_lo {n:Nat} (h:0<n):2 ^ (blen n-1)≤n∧n<2 ^ (blen n-1)*2:=by
 have e:blen n-1=Nat.log2 n:=by unfold blen;rw [if_neg (by omega)];rfl
 rw [e];exact ⟨Nat.log2_self_le (by omega),by rw [←Nat.pow_succ];exact Nat.lt_log2_self⟩
theorem obits_length (c:Int) (i m:Nat):(obits c i m).length=m+1:=by
 induction m generalizing i with
 | zero=>rfl
 | succ m ih=>simp [obits,ih]
theorem vbits_length (c:Int) (n j:Nat):(vbits c n j).length=j:=by
 induction j with
 | zero=>rfl
 | succ j ih=>simp [vbits,ih]
theorem numBits_length {n:Nat} (c:Int) (h:n<2 ^ 64):(numBits c n).length≤128:=by
 have:=blen_le h;rw [numBits,List.length_append,obits_length,vbits_length];omega
def D.ones (c:Int):Nat→D→Nat × D
 | 0,d=>(65,d)
 | f+1,d=>if d.one (nctx c (64-f)) then D.ones c f (d.bit (nctx c (64-f))) else (64-f,d.bit (nctx c (64-f)))
def D.val (c:Int):Nat→Nat→D→Nat × D
 | 0,x,d=>(x,d)
 | j+1,x,d=>D.val c j (2*x+if d.one (vctx c j) then 1 else 0) (d.bit (vctx c j))
structure NumR where
 n:Nat
 ok:Bool
 d:D
def D.number (d:D) (c:Int):NumR:=
 if (D.ones c 65 d).1=65 then ⟨0,false,(D.ones c 65 d).2⟩
 else if (D.ones c 65 d).1=0 then ⟨0,true,(D.ones c 65 d).2⟩
 else ⟨(D.val c ((D.ones c 65 d).1-1) 1 (D.ones c 65 d).2).1,true,(D.val c ((D.ones c 65 d).1-1) 1 (D.ones c 65 d).2).2⟩
def Good (d:D) (l:List (Int × Bool)):Prop:=decodeFrom d (l.map (·.1))=l.map (·.2)
theorem Good.head {d:D} {x:Int × Bool} {l:List (Int × Bool)} (h:Good d (x :: l)):d.one x.1=x.2∧Good (d.bit x.1) l:=by
 unfold Good at h;simp only [List.map_cons,decodeFrom,List.cons.injEq] at h;exact h
theorem Good.start (l:List (Int × Bool)):Good (D.ofCode (encode l)) l:=by
 have:=decode_encode l 0;simpa [Good,Pc.decode] using this
theorem ones_good {c:Int} {i m:Nat} {d:D} {r:List (Int × Bool)} (him:i+m≤64) (h:Good d (obits c i m++r)) :
  (D.ones c (65-i) d).1=i+m∧Good (D.ones c (65-i) d).2 r:=by
 induction m generalizing i d with
 | zero=>
  obtain ⟨h1,h2⟩:=Good.head h;rw [show 65-i=(64-i)+1 by omega,D.ones,show 64-(64-i)=i by omega];simp only at h1 h2;rw [h1];exact ⟨rfl,h2⟩
 | succ m ih=>
  obtain ⟨h1,h2⟩:=Good.head h;rw [show 65-i=(64-i)+1 by omega,D.ones,show 64-(64-i)=i by omega];simp only at h1 h2;rw [h1,if_pos rfl];have:=ih (i:=i+1) (by omega) h2;rw [show 65-(i+1)=64-i by omega,show i+1+m=i+(m+1) by omega] at this;exact this
theorem val_good {c:Int} {n j x:Nat} {d:D} {r:List (Int × Bool)} (h:Good d (vbits c n j++r)) :
  (D.val c j x d).1=x*2 ^ j+n % 2 ^ j∧Good (D.val c j x d).2 r:=by
 induction j generalizing x d with
 | zero=>exact ⟨by simp [D.val,Nat.mod_one],h⟩
 | succ j ih=>
  obtain ⟨h1,h2⟩:=Good.head h;simp only at h1 h2;rw [D.val,h1];have:=ih (x:=2*x+if decide (n / 2 ^ j % 2=1)=true then 1 else 0) h2;refine ⟨?_,this.2⟩;rw [this.1];have e:n % 2 ^ (j+1)=n / 2 ^ j % 2*2 ^ j+n % 2 ^ j:=by
   rw [Nat.pow_succ,Nat.mod_mul,Nat.mul_comm (2 ^ j)];omega
  rw [e,Nat.pow_succ];have hb:(if decide (n / 2 ^ j % 2=1)=true then 1 else 0)=n / 2 ^ j % 2:=by
   by_cases hq:n / 2 ^ j % 2=1
   ·rw [if_pos (by simpa using hq),hq]
   ·rw [if_neg (by simpa using hq)];omega
  rw [hb,Nat.add_mul,Nat.mul_comm 2 x,Nat.mul_assoc x 2,Nat.mul_comm 2 (2 ^ j)];omega
theorem number_good {c:Int} {n:Nat} {d:D} {r:List (Int × Bool)} (hn:n<2 ^ 64) (h:Good d (numBits c n++r)) :
  (d.number c).n=n∧(d.number c).ok=true∧Good (d.number c).d r:=by
 have hl:=blen_le hn;unfold numBits at h;rw [List.append_assoc] at h;obtain ⟨h1,h2⟩:=ones_good (i:=0) (m:=blen n) (by omega) h;rw [Nat.zero_add] at h1;unfold D.number;rw [show 65=65-0 from rfl] at *;rw [h1,if_neg (by omega)];by_cases h0:n=0
 ·subst h0;rw [if_pos blen_zero];exact ⟨rfl,rfl,by simpa [vbits,blen] using h2⟩
 ·have hp:=blen_pos (n:=n) (by omega);rw [if_neg (by omega)];have h3:=val_good (x:=1) h2;refine ⟨?_,rfl,h3.2⟩;show (D.val c (blen n-1) 1 (D.ones c (65-0) d).2).1=n;rw [h3.1];have hb:=blen_lo (n:=n) (by omega);generalize 2 ^ (blen n-1)=q at *;have:n % q=n-q:=by
   rw [Nat.mod_eq_sub_mod hb.1,Nat.mod_eq_of_lt (by omega)]
  omega
end Pc
end Go.Proofs.YtcikldoaidmnhaaGreatDoor
namespace Go.Proofs.YtcikldoaidmnhaaGreatDoor
open Go Go.RowKit
namespace Pk
open Pc
abbrev Pt:=Int × Int × Int
abbrev Tri:=Pt × Pt × Pt
abbrev Gate:=Pt × Pt × Pt
abbrev Bits:=List (Int × Bool)
def ptLt (a b:Pt):Bool:=if a.1≠b.1 then decide (a.1<b.1) else if a.2.1≠b.2.1 then decide (a.2.1<b.2.1) else decide (a.2.2<b.2.2)
def edgesT (t:Tri):List (Pt × Pt):=[(t.1,t.2.1),(t.2.1,t.2.2),(t.2.2,t.1)]
def edgesL (l:List Tri):List (Pt × Pt):=l.flatMap edgesT
def third:List Tri→Pt→Pt→Option Pt
 | [],_,_=>none
 | t :: r,p,q=>if t.1=p∧t.2.1=q then some t.2.2 else if t.2.1=p∧t.2.2=q then some t.1 else if t.2.2=p∧t.1=q then some t.2.1 else third r p q
theorem third_isSome:∀(l:List Tri) (p q:Pt),(third l p q).isSome=decide ((p,q)∈edgesL l)
 | [],p,q=>by simp [third,edgesL]
 | t :: r,p,q=>by
  have ih:=third_isSome r p q;have e:edgesL (t :: r)=edgesT t++edgesL r:=rfl;rw [e,third];by_cases h1:t.1=p∧t.2.1=q
  ·obtain ⟨rfl,rfl⟩:=h1;rw [if_pos ⟨rfl,rfl⟩];simp [edgesT]
  ·rw [if_neg h1];by_cases h2:t.2.1=p∧t.2.2=q
   ·obtain ⟨rfl,rfl⟩:=h2;rw [if_pos ⟨rfl,rfl⟩];simp [edgesT]
   ·rw [if_neg h2];by_cases h3:t.2.2=p∧t.1=q
    ·obtain ⟨rfl,rfl⟩:=h3;rw [if_pos ⟨rfl,rfl⟩];simp [edgesT]
    ·rw [if_neg h3,ih];have hn:(p,q)∉edgesT t:=by
      simp only [edgesT,List.mem_cons,Prod.mk.injEq,List.not_mem_nil,or_false];rintro (⟨rfl,rfl⟩ | ⟨rfl,rfl⟩ | ⟨rfl,rfl⟩)
      ·exact h1 ⟨rfl,rfl⟩
      ·exact h2 ⟨rfl,rfl⟩
      ·exact h3 ⟨rfl,rfl⟩
     simp [hn]
structure Wk where
 known:List Pt
 tris:List Tri
 gates:List Gate
def Wk.init:Wk:=⟨[],[],[]⟩
def gatesT (t:Tri):List Gate:=[(t.2.1,t.1,t.2.2),(t.2.2,t.2.1,t.1),(t.1,t.2.2,t.2.1)]
def Wk.visit (w:Wk) (t:Tri) (first:Nat):Wk:=⟨w.known,w.tris++[t],w.gates++(gatesT t).drop first⟩
def openG (tris:List Tri):List Gate→List Gate
 | []=>[]
 | g :: r=>if (third tris g.1 g.2.1).isSome then openG tris r else g :: r
theorem openG_len (tris:List Tri):∀g:List Gate,(openG tris g).length≤g.length
 | []=>Nat.le_refl _
 | g :: r=>by
  rw [openG];split
  ·have:=openG_len tris r;simp;omega
  ·exact Nat.le_refl _
def zig (n:Int):Nat:=if n<0 then (-2*n-1).toNat else (2*n).toNat
def zag (n:Nat):Int:=if n % 2=1 then -((n / 2:Nat):Int)-1 else ((n / 2:Nat):Int)
theorem zag_zig (n:Int):zag (zig n)=n:=by
 unfold zig zag;by_cases h:n<0
 ·rw [if_pos h,if_pos (by omega)];omega
 ·rw [if_neg h,if_neg (by omega)];omega
def sub (p q:Pt):Pt:=(p.1-q.1,p.2.1-q.2.1,p.2.2-q.2.2)
def placeB (c:Int) (p near:Pt):Bits:=numBits c (zig (p.1-near.1))++numBits (c+64) (zig (p.2.1-near.2.1))++numBits (c+128) (zig (p.2.2-near.2.2))
def cornerB (known:List Pt) (p near:Pt) (bit number place:Int):Bits:=if p∈known then (bit,true) :: numBits number (known.length-1-known.idxOf p) else (bit,false) :: placeB place p near
def meetK (known:List Pt) (p:Pt):List Pt:=if p∈known then known else known++[p]
def lastK (known:List Pt):Pt:=known.getLast?.getD (0,0,0)
def expG (g:Gate):Pt:=(g.1.1+g.2.1.1-g.2.2.1,g.1.2.1+g.2.1.2.1-g.2.2.2.1,g.1.2.2+g.2.1.2.2-g.2.2.2.2)
def seedT (c tris:List Tri):Option Tri:=c.find? (fun t=>(third tris t.1 t.2.1).isNone)
def stepW (c:List Tri) (w:Wk):Option (Bits × Wk):=
 match openG w.tris w.gates with
 | g :: r=>match third c g.1 g.2.1 with
  | none=>some ([(1,false)],⟨w.known,w.tris,r⟩)
  | some p=>some ((1,true) :: cornerB w.known p (expG g) 2 128 448,(⟨meetK w.known p,w.tris,r⟩:Wk).visit (g.1,g.2.1,p) 1)
 | []=>match seedT c w.tris with
  | none=>none
  | some t=>some (cornerB w.known t.1 (lastK w.known) 0 192 256++cornerB (meetK w.known t.1) t.2.1 (lastK (meetK w.known t.1)) 0 192 256++cornerB (meetK (meetK w.known t.1) t.2.1) t.2.2 (lastK (meetK (meetK w.known t.1) t.2.1)) 0 192 256,
    (⟨meetK (meetK (meetK w.known t.1) t.2.1) t.2.2,w.tris,[]⟩:Wk).visit t 0)
def walkB (c:List Tri):Nat→Wk→Bits
 | 0,_=>[]
 | f+1,w=>if c.length≤w.tris.length then [] else match stepW c w with
  | none=>[]
  | some (b,w')=>b++walkB c f w'
def Wk.left (c:List Tri) (w:Wk):Nat:=4*(c.length-w.tris.length)+w.gates.length
theorem visit_left (c:List Tri) (w:Wk) (t:Tri) (first:Nat) (h:w.tris.length<c.length):(w.visit t first).left c<w.left c∨first=0:=by
 by_cases hf:first=0
 ·exact .inr hf
 ·left;unfold Wk.left Wk.visit;have hg:((gatesT t).drop first).length≤2:=by rw [List.length_drop];simp [gatesT];omega
  simp only [List.length_append,List.length_cons,List.length_nil];omega
theorem step_left {c:List Tri} {w w':Wk} {b:Bits} (h:w.tris.length<c.length) (hs:stepW c w=some (b,w')):w'.left c<w.left c:=by
 unfold stepW at hs;have hl:=openG_len w.tris w.gates;split at hs
 ·rename_i g r hg
  rw [hg,List.length_cons] at hl;split at hs
  ·cases hs;unfold Wk.left;simp only;omega
  ·rename_i p hp
   cases hs;have:=visit_left c ⟨meetK w.known p,w.tris,r⟩ (g.1,g.2.1,p) 1 h;rcases this with h1 | h1
   ·refine Nat.lt_of_lt_of_le h1 ?_;unfold Wk.left;simp only;omega
   ·omega
 ·rename_i hg
  split at hs
  ·cases hs
  ·cases hs;unfold Wk.left Wk.visit;simp only [List.length_append,List.length_cons,List.length_nil,gatesT,List.drop_zero];omega
def bitsC (c:List Tri):Bits:=numBits 64 c.length++walkB c (Wk.init.left c) Wk.init
def packC (c:List Tri):List Nat:=1 :: encode (bitsC c)
end Pk
end Go.Proofs.YtcikldoaidmnhaaGreatDoor
namespace Go.Proofs.YtcikldoaidmnhaaGreatDoor
open Go Go.RowKit
namespace Pk
theorem ptLt_irrefl (a:Pt):ptLt a a=false:=by simp [ptLt]
theorem ptLt_iff (a b:Pt):ptLt a b=true↔(a.1<b.1∨(a.1=b.1∧(a.2.1<b.2.1∨(a.2.1=b.2.1∧a.2.2<b.2.2)))):=by
 unfold ptLt;by_cases h1:a.1=b.1
 ·rw [if_neg (by simp [h1])];by_cases h2:a.2.1=b.2.1
  ·rw [if_neg (by simp [h2]),decide_eq_true_eq];omega
  ·rw [if_pos h2,decide_eq_true_eq];omega
 ·rw [if_pos h1,decide_eq_true_eq];omega
theorem pt_ext {a b:Pt} (h1:a.1=b.1) (h2:a.2.1=b.2.1) (h3:a.2.2=b.2.2):a=b:=by
 obtain ⟨a1,a2,a3⟩:=a;obtain ⟨b1,b2,b3⟩:=b;simp only at h1 h2 h3;rw [h1,h2,h3]
theorem ptLt_total {a b:Pt} (h1:ptLt a b=false) (h2:ptLt b a=false):a=b:=by
 have k1:¬ptLt a b=true:=by rw [h1];simp
 have k2:¬ptLt b a=true:=by rw [h2];simp
 rw [ptLt_iff] at k1 k2;exact pt_ext (by omega) (by omega) (by omega)
theorem ptLt_trans {a b c:Pt} (h1:ptLt a b=true) (h2:ptLt b c=true):ptLt a c=true:=by
 rw [ptLt_iff] at *;omega
theorem ptLt_asymm {a b:Pt} (h:ptLt a b=true):ptLt b a=false:=by
 have:¬ptLt b a=true:=by rw [ptLt_iff] at *;omega
 simpa using this
def triLt (s t:Tri):Bool:=if s.1≠t.1 then ptLt s.1 t.1 else if s.2.1≠t.2.1 then ptLt s.2.1 t.2.1 else ptLt s.2.2 t.2.2
theorem triLt_irrefl (t:Tri):triLt t t=false:=by simp [triLt,ptLt_irrefl]
theorem tri_ext {a b:Tri} (h1:a.1=b.1) (h2:a.2.1=b.2.1) (h3:a.2.2=b.2.2):a=b:=by
 obtain ⟨a1,a2,a3⟩:=a;obtain ⟨b1,b2,b3⟩:=b;simp only at h1 h2 h3;rw [h1,h2,h3]
theorem triLt_total {s t:Tri} (h1:triLt s t=false) (h2:triLt t s=false):s=t:=by
 unfold triLt at h1 h2;by_cases e1:s.1=t.1
 ·rw [if_neg (by simp [e1])] at h1 h2;by_cases e2:s.2.1=t.2.1
  ·rw [if_neg (by simp [e2])] at h1 h2;exact tri_ext e1 e2 (ptLt_total h1 h2)
  ·rw [if_pos e2] at h1;rw [if_pos (Ne.symm e2)] at h2;exact absurd (ptLt_total h1 h2) e2
 ·rw [if_pos e1] at h1;rw [if_pos (Ne.symm e1)] at h2;exact absurd (ptLt_total h1 h2) e1
theorem triLt_asymm {s t:Tri} (h:triLt s t=true):triLt t s=false:=by
 unfold triLt at *;by_cases e1:s.1=t.1
 ·rw [if_neg (by simp [e1])] at h ⊢;by_cases e2:s.2.1=t.2.1
  ·rw [if_neg (by simp [e2])] at h ⊢;exact ptLt_asymm h
  ·rw [if_pos e2] at h;rw [if_pos (Ne.symm e2)];exact ptLt_asymm h
 ·rw [if_pos e1] at h;rw [if_pos (Ne.symm e1)];exact ptLt_asymm h
theorem triLt_trans {r s t:Tri} (h1:triLt r s=true) (h2:triLt s t=true):triLt r t=true:=by
 unfold triLt at *;by_cases e1:r.1=s.1
 ·rw [if_neg (by simp [e1])] at h1;rw [e1];by_cases e2:s.1=t.1
  ·rw [if_neg (by simp [e2])] at h2;rw [if_neg (by simp [e2])];by_cases e3:r.2.1=s.2.1
   ·rw [if_neg (by simp [e3])] at h1;rw [e3];by_cases e4:s.2.1=t.2.1
    ·rw [if_neg (by simp [e4])] at h2;rw [if_neg (by simp [e4])];exact ptLt_trans h1 h2
    ·rw [if_pos e4] at h2 ⊢;exact h2
   ·rw [if_pos e3] at h1;by_cases e4:s.2.1=t.2.1
    ·rw [←e4,if_pos e3];exact h1
    ·rw [if_pos e4] at h2;have h3:=ptLt_trans h1 h2;rw [if_pos (fun e=>by rw [e,ptLt_irrefl] at h3;cases h3)];exact h3
  ·rw [if_pos e2] at h2 ⊢;exact h2
 ·rw [if_pos e1] at h1;by_cases e2:s.1=t.1
  ·rw [←e2,if_pos e1];exact h1
  ·rw [if_pos e2] at h2;have h3:=ptLt_trans h1 h2;rw [if_pos (fun e=>by rw [e,ptLt_irrefl] at h3;cases h3)];exact h3
def rot (t:Tri):Tri:=if ptLt t.2.1 t.1 then (if ptLt t.2.2 t.2.1 then (t.2.2,t.1,t.2.1) else (t.2.1,t.2.2,t.1)) else (if ptLt t.2.2 t.1 then (t.2.2,t.1,t.2.1) else t)
def triLe (s t:Tri):Bool:=!triLt t s
def canon (l:List Tri):List Tri:=(l.map rot).mergeSort triLe
theorem canon_length (l:List Tri):(canon l).length=l.length:=by unfold canon;rw [List.length_mergeSort,List.length_map]
theorem triLe_trans (a b c:Tri) (h1:triLe a b=true) (h2:triLe b c=true):triLe a c=true:=by
 unfold triLe at *;simp only [Bool.not_eq_true',] at *;by_cases e:triLt c a=true
 ·exfalso;by_cases e2:triLt a b=true
  ·have:=triLt_trans e e2;rw [h2] at this;cases this
  ·have hab:a=b:=triLt_total (by simpa using e2) h1;subst hab;rw [h2] at e;cases e
 ·simpa using e
theorem triLe_total (a b:Tri):(triLe a b||triLe b a)=true:=by
 unfold triLe;cases h:triLt b a
 ·rfl
 ·rw [triLt_asymm h];rfl
theorem sorted_unique:∀{l l':List Tri},l.Perm l'→l.Pairwise (fun a b=>triLe a b=true)→l'.Pairwise (fun a b=>triLe a b=true)→l=l'
 | [],l',hp,_,_=>(List.nil_perm.1 hp).symm
 | a :: l,[],hp,_,_=>absurd hp.length_eq (by simp)
 | a :: l,b :: l',hp,h1,h2=>by
  obtain ⟨p1,p2⟩:=List.pairwise_cons.1 h1;obtain ⟨q1,q2⟩:=List.pairwise_cons.1 h2;have hab:a=b:=by
   have m1:a∈b :: l':=hp.mem_iff.1 (by simp);have m2:b∈a :: l:=hp.mem_iff.2 (by simp);rw [List.mem_cons] at m1 m2;rcases m1 with rfl | m1
   ·rfl
   ·rcases m2 with rfl | m2
    ·rfl
    ·have h3:=p1 b m2;have h4:=q1 a m1;unfold triLe at h3 h4;exact triLt_total (by simpa using h4) (by simpa using h3)
  subst hab;rw [sorted_unique (List.Perm.cons_inv hp) p2 q2]
def manyC (l:List Tri) (p:Pt):Nat:=(l.flatMap (fun t=>[t.1,t.2.1,t.2.2])).count p
def ringN (l:List Tri) (p:Pt):Nat→Pt→Option Pt
 | 0,q=>some q
 | n+1,q=>match third l p q with
  | none=>none
  | some r=>ringN l p n r
def pinched (l:List Tri):Bool:=(edgesL l).any (fun e=>(List.range (manyC l e.1)).any (fun n=>decide (1≤n)&&(ringN l e.1 n e.2 == some e.2)))
def flatT (t:Tri):Bool:=decide (t.1=t.2.1∨t.2.1=t.2.2∨t.2.2=t.1)
def checkO (l:List Tri):Nat:=if l.any flatT then 20 else if ¬(edgesL l).Nodup then 21 else if pinched l then 23 else 0
def coordT (t:Tri):Bool:=[t.1,t.2.1,t.2.2].all (fun p=>decide (0≤p.1∧p.1≤2097151∧0≤p.2.1∧p.2.1≤2097151∧0≤p.2.2∧p.2.2≤2097151))
def packable (l:List Tri):Bool:=l.all coordT&&decide (l.length≤128)&&decide (checkO l=0)
def clusterN (l:List Tri):List Nat:=if packable l then packC (canon l) else []
end Pk
end Go.Proofs.YtcikldoaidmnhaaGreatDoor
namespace Go.Proofs.YtcikldoaidmnhaaGreatDoor
open Go Go.RowKit
def byteV (d:Nat):Value:=.int .u8 d
def str (l:List Nat):ByteArray:=⟨(l.map UInt8.ofNat).toArray⟩
theorem str_size (l:List Nat):(str l).size=l.length:=by simp [str,ByteArray.size]
theorem str_toList (l:List Nat):(str l).toList=l.map UInt8.ofNat:=ByteArray.toList_mk _
theorem str_extract (l:List Nat) (a b:Nat):(str l).extract a b=str ((l.drop a).take (b-a)):=by
 unfold str;rw [ByteArray.extract_mk,List.map_take,List.map_drop]
theorem str_get {l:List Nat} {i:Nat} (h:i<l.length) (hb:∀d,d∈l→d<256) (h':i<(str l).size):((str l)[i]'h').toNat=l[i]:=by
 have e:(str l)[i]'h'=UInt8.ofNat l[i]:=by
  show (str l).data[i]'_=_;simp [str]
 rw [e];have:=hb l[i] (List.getElem_mem h);simp;omega
theorem ofNat_inj {a b:Nat} (ha:a<256) (hb:b<256) (h:UInt8.ofNat a=UInt8.ofNat b):a=b:=by
 have:=congrArg UInt8.toNat h;simp at this;omega
theorem map_ofNat_inj:∀{a b:List Nat},(∀d,d∈a→d<256)→(∀d,d∈b→d<256)→a.map UInt8.ofNat=b.map UInt8.ofNat→a=b
 | [],[],_,_,_=>rfl
 | [],_ :: _,_,_,h=>by simp at h
 | _ :: _,[],_,_,h=>by simp at h
 | x :: a,y :: b,ha,hb,h=>by
  simp only [List.map_cons,List.cons.injEq] at h;rw [ofNat_inj (ha x (by simp)) (hb y (by simp)) h.1,map_ofNat_inj (fun d hd=>ha d (by simp [hd])) (fun d hd=>hb d (by simp [hd])) h.2]
theorem str_append (a b:List Nat):str a++str b=str (a++b):=by
 apply ByteArray.ext;simp [str]
theorem strOfNums_cast (l:List Nat):strOfNums (l.map fun (d:Nat)=>(d:Int))=str l:=by
 simp [strOfNums,str,Function.comp_def]
theorem conv_own {P:Program} {w:World} {base:Nat} {src e dst:TypeId} {v:Value} {l:List Nat} (hs:P.underlying src=some (.slice e)) (he:P.underlying e=some (.int .u8)) (hd:P.underlying dst=some .string)
  (hown:w.ownsRow base e 1 v l.length (l.map byteV)):(convert src dst v).run P w=.ok (.string (str l)) w:=by
 rcases hown.2 with ⟨rfl,h0⟩ | ⟨g,cap,cur,rfl,_,hg,_,_,hsz,htake⟩
 ·rw [run_convert_bytes_nil w src e hs he 0 0 dst hd,List.eq_nil_of_length_eq_zero h0];rfl
 ·rw [run_convert_bytes_arg w src e hs he g 0 l.length cap (l.map fun (d:Nat)=>(d:Int)) (by simp) (fun i hi=>?_) dst hd,strOfNums_cast];rw [Nat.zero_add,hown.cellAt i (by omega)];simp [byteV,hi]
theorem run_add {P:Program} {a b c:List Nat} (h:a.length+b.length≤9223372036854775807) (hc:a++b=c) (w:World):(Op.stringOp .add (str a) (str b)).run P w=.ok (.string (str c)) w:=by
 rw [run_string_add_sum (P:=P) w (str a) (str b) (by rw [str_size,str_size];exact h),str_append,hc]
def lenOfV:Value→Nat | .string s=>s.size | _=>0
end Go.Proofs.YtcikldoaidmnhaaGreatDoor
namespace Go.Proofs.YtcikldoaidmnhaaGreatDoor
open Go Go.RowKit Pc
def Wts (w:World) (b:Nat) (p:Nat→Nat):Prop:=
 ∃arr:Array Value,w.heap[b]?=some (.cells arr 22 (0,0))∧arr.size=4096∧∀i,i<4096→arr[i]?=some (.int .u32 (p i))
theorem Wts.cell {w:World} {b:Nat} {p:Nat→Nat} (h:Wts w b p) {i:Nat} (hi:i<4096):w.cell? ⟨b,i,none⟩=some (.int .u32 (p i)):=by
 obtain ⟨arr,h1,h2,h3⟩:=h;rw [cell_of_row w b i arr _ _ h1];exact h3 i hi
theorem Wts.free {w:World} {b:Nat} {p:Nat→Nat} (h:Wts w b p) (i:Nat):w.frozen? ⟨b,i,none⟩=false:=by
 obtain ⟨arr,h1,h2,h3⟩:=h;exact frozen_of_row w b i arr _ h1
theorem Wts.lt {w:World} {b:Nat} {p:Nat→Nat} (h:Wts w b p):b<w.heap.size:=by
 obtain ⟨arr,h1,h2,h3⟩:=h;exact lt_of_heap h1
theorem Wts.keep {w w':World} {b:Nat} {p:Nat→Nat} (h:Wts w b p) (hb:w'.heap[b]?=w.heap[b]?):Wts w' b p:=by
 obtain ⟨arr,h1,h2,h3⟩:=h;exact ⟨arr,hb.trans h1,h2,h3⟩
theorem Wts.set {w:World} {b:Nat} {p:Nat→Nat} (h:Wts w b p) (i v:Nat):Wts (w.setCell ⟨b,i,none⟩ (.int .u32 v)) b (upd p i v):=by
 obtain ⟨arr,h1,h2,h3⟩:=h;refine ⟨_,heap_setCell_eq _ h1,by simpa using h2,fun j hj=>?_⟩;rw [Array.getElem?_setIfInBounds];unfold upd;by_cases e:i=j
 ·subst e;simp [h2,hj]
 ·rw [if_neg e,if_neg (fun h=>e h.symm)];exact h3 j hj
theorem tmod_4096 (c:Int):c.tmod 4096=if 0≤c then c % 4096 else-((-c) % 4096):=by
 split
 ·rw [Int.tmod_eq_emod_of_nonneg (by omega)]
 ·rw [←Int.neg_neg c,Int.neg_tmod,Int.tmod_eq_emod_of_nonneg (by omega)];simp
theorem index_eq (c:Int):(wrap64 (c.tmod 4096+4096)).tmod 4096=((ctx c:Nat):Int):=by
 rw [ctx_cast,IntWalk.wrap64_in _ (by rw [tmod_4096];split<;>omega),Int.tmod_eq_emod_of_nonneg (by rw [tmod_4096];split<;>omega),tmod_4096]
 split<;>omega
set_option maxHeartbeats 400000 in
theorem weight_any (c:Int) (a:Addr) (wb:Nat) (w:World) (hw:w.cell? a=some (.slice (some ⟨wb,0,none⟩) 4096 4096)) :
  Calls Tryz.prog 143 #[.pointer (some a),.int .i64 c] w fun e w'=>e=.returned (.pointer (some ⟨wb,ctx c,none⟩))∧w=w':=by
 have e:=index_eq c;have h0:=ctx_lt c;go_enter Tryz.func143,Tryz.ntmps143
 go_wp2
 go_ret
 exact ⟨rfl,rfl⟩
structure Mod (w:World) (b wb:Nat) (m:M):Prop where
 c0:w.cell? ⟨b,0,none⟩=some (.slice (some ⟨wb,0,none⟩) 4096 4096)
 c1:w.cell? ⟨b,1,none⟩=some (.int .u32 m.size)
 f1:w.frozen? ⟨b,1,none⟩=false
 wt:Wts w wb m.p
 ne:b≠wb
theorem split_val {m:M} (h:m.Wf) (i:Nat) (hi:i<4096):IntKind.u32.wrap ((m.size:Int) / 2048*((m.p i:Nat):Int))=((m.split i:Nat):Int):=by
 have h1:=M.split_bd h hi;have h2:=h.hi;have e:(m.size:Int) / 2048*((m.p i:Nat):Int)=((m.split i:Nat):Int):=by
  unfold M.split;rw [Int.natCast_mul];rfl
 rw [e];exact wrap_u32 (by omega) (by omega)
set_option maxHeartbeats 400000 in
theorem split_any (c:Int) (b wb:Nat) (m:M) (hm:m.Wf) (w:World) (h:Mod w b wb m) :
  Calls Tryz.prog 101 #[.pointer (some ⟨b,0,none⟩),.int .i64 c] w fun e w'=>e=.returned (.int .u32 (m.split (ctx c)))∧∃n,w'=w.drewN n:=by
 have hs:=split_val hm (ctx c) (ctx_lt c);have h1:=hm.hi;have hc0:=h.c0;have hc1:=h.c1;have hwt:=h.wt.cell (ctx_lt c);clear h hm;go_enter Tryz.func101,Tryz.ntmps101
 go_wp2_with fail
 go_quiet ((go_at_call 143;exact quiet_eq (weight_any _ _ _ _ hc0)))
 go_wp2
 go_ret
 exact ⟨rfl,_,rfl⟩
def inRow (v:Value):Nat→Prop:=fun k=>v.ownBlock=some k
def carried (ds:List Nat) (k:Nat):List Nat:=ds.take k++List.replicate (ds.length-k) 0
structure CarryAt (ds:List Nat) (base g cap:Nat) (w wr:World) (k:Nat):Prop where
 le:k≤ds.length
 own:wr.ownsRow base 5 1 (.slice (some ⟨g,0,none⟩) ds.length cap) ds.length ((carried ds k).map byteV)
 fr:w.grownBy wr (some g)
 spec:carry ds=carry (ds.take k)++List.replicate (ds.length-k) 0
theorem grownBy_trans {w w1 w2:World} {row:Option Nat} (h:w.grownBy w1 row) (k:w1.grownBy w2 row):w.grownBy w2 row:=
 ⟨k.os.trans h.os,k.tape.trans h.tape,k.output.trans h.output,Nat.le_trans h.size k.size,fun i hi hr=>
  (k.block i (Nat.lt_of_lt_of_le hi h.size) hr).trans (h.block i hi hr)⟩
theorem carried_set {ds:List Nat} {j:Nat} (hj:j<ds.length) (v:Nat) :
  (((carried ds (j+1)).map byteV).set j (byteV v))=(ds.take j++v :: List.replicate (ds.length-(j+1)) 0).map byteV:=by
 unfold carried;rw [take_snoc hj,←List.map_set];congr 1
 have hl:(ds.take j).length=j:=by simp;omega
 rw [List.append_assoc,List.set_append_right _ _ (by omega),hl];simp
theorem CarryAt.cell {ds:List Nat} {base g cap:Nat} {w wr:World} {j:Nat} (h:CarryAt ds base g cap w wr (j+1)) :
  ∃hj:j<ds.length,wr.cell? ⟨g,j,none⟩=some (.int .u8 ds[j]):=by
 have hj:=h.le;refine ⟨hj,?_⟩;rw [h.own.cellAt j (by omega)];unfold carried;have hj':j<ds.length:=hj;rw [take_snoc hj'];have hl:(ds.take j).length=j:=by simp;omega
 rw [List.append_assoc,List.map_append,List.getElem?_append_right (by simp;omega)];simp [byteV,Nat.min_eq_left (Nat.le_of_lt hj')]
theorem CarryAt.go {ds:List Nat} {base g cap:Nat} {w wr:World} {j:Nat} (h:CarryAt ds base g cap w wr (j+1)) (hj:j<ds.length) (he:ds[j]=255) :
  CarryAt ds base g cap w (wr.setCell ⟨g,j,none⟩ (.int .u8 0)) j:=by
 have hs:=h.own.stored j (byteV 0);rw [carried_set hj] at hs;refine ⟨by omega,?_,grownBy_trans h.fr hs.2,?_⟩
 ·have e:ds.take j++0 :: List.replicate (ds.length-(j+1)) 0=carried ds j:=by
   unfold carried;rw [show ds.length-j=(ds.length-(j+1))+1 from by omega,List.replicate_succ]
  rw [←e];exact hs.1
 ·rw [h.spec,take_snoc hj,he,carry_snoc_255,List.append_assoc,show ds.length-j=(ds.length-(j+1))+1 from by omega,List.replicate_succ];rfl
theorem CarryAt.stop {ds:List Nat} {base g cap:Nat} {w wr:World} {j:Nat} (h:CarryAt ds base g cap w wr (j+1)) (hj:j<ds.length) (he:ds[j]≠255) :
  (wr.setCell ⟨g,j,none⟩ (.int .u8 (ds[j]+1))).ownsRow base 5 1 (.slice (some ⟨g,0,none⟩) ds.length cap) ds.length ((carry ds).map byteV) ∧
   w.grownBy (wr.setCell ⟨g,j,none⟩ (.int .u8 (ds[j]+1))) (some g):=by
 have hs:=h.own.stored j (byteV (ds[j]+1));rw [carried_set hj] at hs;refine ⟨?_,grownBy_trans h.fr hs.2⟩;rw [h.spec,take_snoc hj,carry_snoc_ne _ he,List.append_assoc];exact hs.1
theorem CarryAt.start {ds:List Nat} {base g cap:Nat} {w:World}
  (hown:w.ownsRow base 5 1 (.slice (some ⟨g,0,none⟩) ds.length cap) ds.length (ds.map byteV)):CarryAt ds base g cap w w ds.length:=
 ⟨Nat.le_refl _,by simpa [carried] using hown,⟨rfl,rfl,rfl,Nat.le_refl _,fun _ _ _=>rfl⟩,by simp⟩
set_option maxHeartbeats 400000 in
theorem carry_any (base cap g:Nat) (ds:List Nat) (hds:∀d,d∈ds→d<256) (w:World)
  (hown:w.ownsRow base 5 1 (.slice (some ⟨g,0,none⟩) ds.length cap) ds.length (ds.map byteV)) (hn:ds.length≤maxLen) :
  Calls Tryz.prog 102 #[.slice (some ⟨g,0,none⟩) ds.length cap] w fun e w'=>e=.returned (.tuple #[]) ∧
   w'.ownsRow base 5 1 (.slice (some ⟨g,0,none⟩) ds.length cap) ds.length ((carry ds).map byteV)∧w.grownBy w' (some g):=by
 unfold maxLen at hn;have hst:=CarryAt.start hown;clear hown;go_enter Tryz.func102,Tryz.ntmps102
 go_wp2
 go_loopw [2] (fun i wr=>∃k:Nat,i=.int .i64 ((k:Int)-1)∧CarryAt ds base g cap w wr k) (fun i _=>(intOf i+1).toNat)
 case atStart=>exact ⟨_,rfl,hst⟩
 case round=>
  obtain ⟨k,rfl,hk⟩:=hrel;rcases k with _ | j
  ·have h1:decide (((0:Nat):Int)-1 ≥ 0)=false:=by decide
   have h2:=hk.own;have h3:=hk.fr;have h4:carry ds=carried ds 0:=by rw [hk.spec];rfl
   rw [←h4] at h2;clear hk h4;go_wp2
   go_end0
   exact ⟨rfl,h2,h3⟩
  ·obtain ⟨hj,hc⟩:=hk.cell;have hf:=hk.own.frozenAt j;have e1:(((j+1:Nat):Int)-1)=(j:Int):=by omega
   rw [e1];have hd:=hds ds[j] (List.getElem_mem hj);by_cases he:ds[j]=255
   ·have e2:IntKind.u8.wrap (((ds[j]:Nat):Int)+1)=0:=by rw [he];rfl
    have hgo:=hk.go hj he;clear he hk;go_wp2
    go_roundw
    case rel=>exact ⟨j,rfl,hgo⟩
    case measure=>simp [intOf]<;>omega
   ·have e2:IntKind.u8.wrap (((ds[j]:Nat):Int)+1)=(ds[j]:Int)+1:=wrap_u8 (by omega) (by omega);have e3:(((ds[j]:Nat):Int)+1 != 0)=true:=by rw [bne_iff_ne];omega
    have hgo:=hk.stop hj he;clear he hk;go_wp2
    refine bodyPost_ret (results_none rfl _ _ _) rfl ?_;exact ⟨rfl,hgo⟩
end Go.Proofs.YtcikldoaidmnhaaGreatDoor
namespace Go.Proofs.YtcikldoaidmnhaaGreatDoor
open Go Go.RowKit Pc
def zeroW:Array Value:=madeCells #[.int .u32 0] 4096
theorem zeroW_size:zeroW.size=4096:=size_madeCells _ _
theorem info_u32:(Tryz.prog.info? 22).map (fun i=>(i.zero,i.size,i.bytes))=some (some (.int .u32 0),1,4):=by kernel_rfl
theorem make_u32s (w:World):(Instr.makeSlice 155 (.int .i64 4096) (.int .i64 4096)).run Tryz.prog w=.ok (.slice (some ⟨w.heap.size,0,none⟩) 4096 4096) (w.alloc (.cells zeroW 22)):=by
 obtain ⟨i0,hi,hz0,hz1,hz2⟩:=info_parts info_u32;have h:=run_make (P:=Tryz.prog) w 155 22 i0 (.int .u32 0) Tryz.underlying155 hi hz0 .i64 .i64 4096 4096 (by omega) (by omega) (by rw [hz2];decide) (by omega);rw [hz1] at h;exact h
structure BeginAt (w wr:World) (b wb:Nat) (cs:Array Value) (T:TypeId) (k:Nat):Prop where
 le:k≤4096
 blk:wr.heap[b]?=some (.cells cs T (0,0))
 up:Upd (·=b) w wr
 new:w.heap.size≤wb
 ne:b≠wb
 row:∃arr:Array Value,wr.heap[wb]?=some (.cells arr 22 (0,0))∧arr.size=4096∧∀i,i<k→arr[i]?=some (.int .u32 1024)
theorem BeginAt.step {w wr:World} {b wb:Nat} {cs:Array Value} {T:TypeId} {k:Nat} (h:BeginAt w wr b wb cs T k) (hk:k<4096) :
  BeginAt w (wr.setCell ⟨wb,k,none⟩ (.int .u32 1024)) b wb cs T (k+1):=by
 obtain ⟨arr,h1,h2,h3⟩:=h.row;have hwb:=h.new;refine ⟨hk,heap_setCell_ne _ h.blk h.ne,h.up.setCell (fun hlt=>by simp at hlt;omega) _,h.new,h.ne,_,heap_setCell_eq _ h1,by simpa using h2,fun i hi=>?_⟩;rw [Array.getElem?_setIfInBounds];by_cases e:k=i
 ·subst e;simp [h2,hk]
 ·rw [if_neg e];exact h3 i (by omega)
theorem BeginAt.done {w wr:World} {b wb:Nat} {cs:Array Value} {T:TypeId} (h:BeginAt w wr b wb cs T 4096):Wts wr wb (fun _=>1024):=by
 obtain ⟨arr,h1,h2,h3⟩:=h.row;exact ⟨arr,h1,h2,h3⟩
set_option maxHeartbeats 400000 in
theorem begin_old (b:Nat) (w:World) (ad:Addr) (n c:Nat) (h0:w.cell? ⟨b,0,none⟩=some (.slice (some ad) n c)) :
  Calls Tryz.prog 99 #[.pointer (some ⟨b,0,none⟩)] w fun e w'=>e=.returned (.bool false)∧w=w':=by
 have q:=fun (w:World) (a:Option Addr) (n c n' c':Nat)=>run_neq_slice_nil_any (P:=Tryz.prog) w 155 22 a n c n' c' Tryz.underlying155;go_enter Tryz.func99,Tryz.ntmps99
 go_wp2
 go_ret
 exact ⟨rfl,rfl⟩
set_option maxRecDepth 100000 in
set_option maxHeartbeats 400000 in
theorem begin_new (b:Nat) (w:World) (cs:Array Value) (T:TypeId) (hb:w.heap[b]?=some (.cells cs T (0,0))) (h0:cs[0]?=some (.slice none 0 0)) (h1:1<cs.size) :
  Calls Tryz.prog 99 #[.pointer (some ⟨b,0,none⟩)] w fun e w'=>e=.returned (.bool true)∧∃wb,w.heap.size≤wb ∧
   w'.heap[b]?=some (.cells ((cs.setIfInBounds 0 (.slice (some ⟨wb,0,none⟩) 4096 4096)).setIfInBounds 1 (.int .u32 4294967295)) T (0,0))∧Wts w' wb (fun _=>1024)∧Upd (·=b) w w':=by
 have q:=fun (w:World) (a:Option Addr) (n c n' c':Nat)=>run_neq_slice_nil_any (P:=Tryz.prog) w 155 22 a n c n' c' Tryz.underlying155;have hmk:=make_u32s;have hc0:w.cell? ⟨b,0,none⟩=some (.slice none 0 0):=by rw [cell_of_row w b 0 cs T _ hb];exact h0
 have hc1:w.cell? ⟨b,1,none⟩=some cs[1]:=by rw [cell_of_row w b 1 cs T _ hb];simp [h1]
 have hf0:=frozen_of_row w b 0 cs T hb;have hf1:=frozen_of_row w b 1 cs T hb;have hlt:=lt_of_heap hb;go_enter Tryz.func99,Tryz.ntmps99
 have hst:BeginAt w (((w.setCell ⟨b,0,none⟩ (.slice (some ⟨w.heap.size,0,none⟩) 4096 4096)).setCell ⟨b,1,none⟩ (.int .u32 4294967295)).alloc (.cells zeroW 22))
   b w.heap.size ((cs.setIfInBounds 0 (.slice (some ⟨w.heap.size,0,none⟩) 4096 4096)).setIfInBounds 1 (.int .u32 4294967295)) T 0:=
  ⟨Nat.zero_le _,heap_alloc_keep _ (heap_setCell_eq _ (heap_setCell_eq _ hb)),(((Upd.refl (·=b) w).setCell (fun _=>rfl) _).setCell (fun _=>rfl) _).alloc _,Nat.le_refl _,by omega,
   zeroW,by have h:=heap_alloc_new ((w.setCell ⟨b,0,none⟩ (.slice (some ⟨w.heap.size,0,none⟩) 4096 4096)).setCell ⟨b,1,none⟩ (.int .u32 4294967295)) (.cells zeroW 22);simpa using h,zeroW_size,fun i hi=>by omega⟩
 go_wp2
 go_loopw [21] (fun i wr=>∃k:Nat,i=.int .i64 k∧BeginAt w wr b w.heap.size ((cs.setIfInBounds 0 (.slice (some ⟨w.heap.size,0,none⟩) 4096 4096)).setIfInBounds 1 (.int .u32 4294967295)) T k) (fun i _=>4096-(intOf i).toNat)
 case atStart=>exact ⟨0,rfl,hst⟩
 case round=>
  obtain ⟨k,rfl,hk⟩:=hrel;clear hst hc0 hc1 hf0 hf1 h0 hb hmk;by_cases hlt2:k<4096
  ·have hs:=hk.step hlt2;obtain ⟨arr,g1,g2,g3⟩:=hk.row;obtain ⟨v,c1⟩:∃v,wr.cell? ⟨w.heap.size,k,none⟩=some v:=⟨arr[k],by rw [cell_of_row wr _ k arr _ _ g1];simp [g2,hlt2]⟩;have f1:=frozen_of_row wr w.heap.size k arr _ g1;have c0:wr.cell? ⟨b,0,none⟩=some (.slice (some ⟨w.heap.size,0,none⟩) 4096 4096):=by rw [cell_of_row wr b 0 _ _ _ hk.blk,Array.getElem?_setIfInBounds_ne (by omega),Array.getElem?_setIfInBounds_self_of_lt (by omega)]
   clear hk g1 g2 g3;go_wp2
   go_roundw
   case rel=>exact ⟨k+1,by go_num,hs⟩
   case measure=>simp [intOf];omega
  ·obtain rfl:k=4096:=by have:=hk.le;omega
   have hd:=hk.done;have h2:=hk.blk;have h3:=hk.up;clear hk;go_wp2
   go_ret
   exact ⟨rfl,_,Nat.le_refl _,h2,hd,h3⟩
end Go.Proofs.YtcikldoaidmnhaaGreatDoor
