/- Parts: Numbers as bits: how they are coded, and that reading undoes it. No condition. The decoder undoes the encoder. No condition. The packet of a cluster as plain functions on lists. No condition. -/
import Derived.Test.YtcikldoaidmnhaaGreatDoorRSpoi1
import Derived.WalkKit
import Derived.WalkSpells
import Derived.WalkLawsBesides
import Derived.Lib.Hide
import Derived.BigQuiet
import Derived.Deep.DeepFit
import Derived.Deep.DeepCutAuto
import Derived.Deep.AppendLies
import Derived.Deep.QuietTactic
import Derived.Lib.Bits
namespace Go.Proofs.YtcikldoaidmnhaaGreatDoor
set_option maxRecDepth 100000
namespace Pc
def num (l:List Nat):Nat:=l.foldl (fun a d=>a*256+d) 0
def val (s:List Nat):Nat→Nat
 | 0=>0
 | n+1=>val s n*256+s.getD n 0
theorem num_snoc (l:List Nat) (d:Nat):num (l++[d])=num l*256+d:=by simp [num,List.foldl_append]
theorem val_append (a b:List Nat) (n:Nat) (h:n≤a.length):val (a++b) n=val a n:=by
 induction n with
 | zero=>rfl
 | succ n ih=>
  show val (a++b) n*256+_=val a n*256+_;rw [ih (by omega)];congr 1
  simp [List.getD,List.getElem?_append_left (show n<a.length by omega)]
theorem num_val (l:List Nat):num l=val l l.length:=by
 rcases List.eq_nil_or_concat l with h | ⟨k,d,h⟩
 ·subst h;rfl
 ·rw [List.concat_eq_append] at h;subst h;rw [num_snoc,List.length_append];show num k*256+d=val (k++[d]) k.length*256+_;rw [val_append _ _ _ (Nat.le_refl _),←num_val k];simp [List.getD]
termination_by l.length
decreasing_by subst h;simp
theorem val_congr {a b:List Nat} (h:∀i,a.getD i 0=b.getD i 0) (n:Nat):val a n=val b n:=by
 induction n with
 | zero=>rfl
 | succ n ih=>show val a n*256+_=val b n*256+_;rw [ih,h]
theorem getD_zeros (a:List Nat) (k i:Nat):(a++List.replicate k 0).getD i 0=a.getD i 0:=by
 simp only [List.getD,List.getElem?_append,List.getElem?_replicate];by_cases h:i<a.length
 ·simp [h]
 ·have:a[i]?=none:=List.getElem?_eq_none (by omega);simp only [h,if_false,this];split<;>rfl
theorem trimR_spec (l:List Nat):∃k,l=List.replicate k 0++trimR l:=by
 induction l with
 | nil=>exact ⟨0,rfl⟩
 | cons d r ih=>
  obtain ⟨k,hk⟩:=ih;unfold trimR;by_cases h:d=0
  ·simp only [h,if_true];exact ⟨k+1,by rw [List.replicate_succ,List.cons_append,←hk]⟩
  ·simp only [h,if_false];exact ⟨0,rfl⟩
theorem trim_spec (l:List Nat):∃k,l=trim l++List.replicate k 0:=by
 obtain ⟨k,hk⟩:=trimR_spec l.reverse;refine ⟨k,?_⟩;have:=congrArg List.reverse hk;simpa [trim] using this
theorem trim_getD (l:List Nat) (i:Nat):(trim l).getD i 0=l.getD i 0:=by
 obtain ⟨k,hk⟩:=trim_spec l;conv=>rhs;rw [hk]
 rw [getD_zeros]
theorem num_carry {l:List Nat} (h:∀d,d∈l→d<256) (hb:num l+1<256 ^ l.length):num (carry l)=num l+1:=by
 rcases List.eq_nil_or_concat l with hl | ⟨k,d,hl⟩
 ·subst hl;exact absurd hb (by decide)
 ·rw [List.concat_eq_append] at hl;subst hl;by_cases hd:d=255
  ·subst hd;rw [carry_snoc_255,num_snoc,num_snoc];rw [num_snoc,List.length_append,List.length_singleton,Nat.pow_succ] at hb;rw [num_carry (l:=k) (fun d hd=>h d (by simp [hd])) (by omega)];omega
  ·rw [carry_snoc_ne k hd,num_snoc,num_snoc];omega
termination_by l.length
decreasing_by subst hl;simp
def E.T (e:E):Nat:=num e.done*4294967296+e.low
structure E.Ok (e:E):Prop where
 wf:e.Wf
 fit:e.T+e.m.size≤256 ^ e.done.length*4294967296
theorem E.init_ok:E.init.Ok:=⟨E.init_wf,by decide⟩
theorem E.done1_num {e:E} (h:e.Ok) {i:Nat} (hi:i<4096) (one:Bool) :
  num (e.done1 i one)*4294967296+e.low1 i one=e.T+(if one then e.m.split i else 0):=by
 have h1:=h.fit;have h2:=M.split_bd h.wf.m hi;have h3:=h.wf.low;have h4:=h.wf.m.hi;unfold E.T at h1 ⊢;unfold E.done1 E.low1;cases one
 ·simp
 ·by_cases hc:4294967296≤e.low+e.m.split i
  ·simp only [hc,decide_true,Bool.and_self,if_true];rw [num_carry h.wf.done (by omega)];omega
  ·simp only [hc,decide_false,Bool.and_false,Bool.false_eq_true,if_false,if_true];omega
theorem E.bit_T {e:E} (h:e.Ok) (c:Int) (one:Bool) :
  (e.bit c one).T=(e.T+(if one then e.m.split (ctx c) else 0))*(if e.m.shifts (ctx c) one then 256 else 1) ∧
  (e.bit c one).m.size=e.m.raw (ctx c) one*(if e.m.shifts (ctx c) one then 256 else 1) ∧
  (e.bit c one).done.length=e.done.length+(if e.m.shifts (ctx c) one then 1 else 0):=by
 have h1:=E.done1_num h (ctx_lt c) one;have h2:=E.done1_length e (ctx c) one;have h3:=E.low1_lt h.wf (ctx c) one;refine ⟨?_,?_,?_⟩
 ·unfold E.bit;dsimp only
  by_cases hs:e.m.shifts (ctx c) one=true
  ·simp only [hs,if_true];show num (e.done1 (ctx c) one++[e.low1 (ctx c) one / 16777216])*4294967296+e.low1 (ctx c) one % 16777216*256=_;rw [num_snoc,←h1];clear h1 h2 hs;generalize e.low1 (ctx c) one=x at *;generalize num (e.done1 (ctx c) one)=y at *;omega
  ·simp only [hs,Bool.false_eq_true,if_false];rw [Nat.mul_one];exact h1
 ·rw [E.bit_m];show norm _=_;unfold norm M.shifts;by_cases hs:e.m.raw (ctx c) one<16777216
  ·simp [hs]
  ·simp [hs]
 ·unfold E.bit;dsimp only
  by_cases hs:e.m.shifts (ctx c) one=true
  ·simp only [hs,if_true,List.length_append,h2,List.length_singleton]
  ·simp [hs,h2]
theorem E.bit_ok {e:E} (h:e.Ok) (c:Int) (one:Bool):(e.bit c one).Ok:=by
 obtain ⟨h1,h2,h3⟩:=E.bit_T h c one;have h4:=h.fit;have h5:=M.split_bd h.wf.m (ctx_lt c);refine ⟨E.bit_wf h.wf c one,?_⟩;rw [h1,h2,h3,←Nat.add_mul];have h6:e.T+(if one then e.m.split (ctx c) else 0)+e.m.raw (ctx c) one≤256 ^ e.done.length*4294967296:=by
  unfold M.raw;cases one
  ·simp;omega
  ·simp;omega
 by_cases hs:e.m.shifts (ctx c) one=true
 ·simp only [hs,if_true,Nat.pow_succ];have:=Nat.mul_le_mul_right 256 h6;rw [show 256 ^ e.done.length*256*4294967296=256 ^ e.done.length*4294967296*256 by omega];exact this
 ·simp only [hs,Bool.false_eq_true,if_false,Nat.mul_one,Nat.add_zero];exact h6
theorem encFrom_ok {e:E} (h:e.Ok) (l:List (Int × Bool)):(encFrom e l).Ok:=by
 induction l generalizing e with
 | nil=>exact h
 | cons a l ih=>exact ih (E.bit_ok h a.1 a.2)
def E.In (e:E) (s:List Nat):Prop:=e.T≤val s (e.done.length+4)∧val s (e.done.length+4)<e.T+e.m.size
theorem E.in_back {e:E} (h:e.Ok) {s:List Nat} (hs:∀i,s.getD i 0<256) (c:Int) (one:Bool) (hin:(e.bit c one).In s) :
  e.T+(if one then e.m.split (ctx c) else 0)≤val s (e.done.length+4)∧val s (e.done.length+4)<e.T+(if one then e.m.split (ctx c) else 0)+e.m.raw (ctx c) one:=by
 obtain ⟨h1,h2,h3⟩:=E.bit_T h c one;unfold E.In at hin;rw [h1,h2,h3] at hin;generalize e.T+(if one then e.m.split (ctx c) else 0)=t at *;generalize e.m.raw (ctx c) one=r at *;by_cases hsh:e.m.shifts (ctx c) one=true
 ·simp only [hsh,if_true] at hin;rw [show e.done.length+1+4=(e.done.length+4)+1 by omega] at hin;have hv:val s (e.done.length+4+1)=val s (e.done.length+4)*256+s.getD (e.done.length+4) 0:=rfl;have:=hs (e.done.length+4);omega
 ·simp only [hsh,Bool.false_eq_true,if_false,Nat.mul_one,Nat.add_zero] at hin;exact hin
theorem E.in_step {e:E} (h:e.Ok) {s:List Nat} (hs:∀i,s.getD i 0<256) (c:Int) (one:Bool) (hin:(e.bit c one).In s):e.In s:=by
 have h1:=E.in_back h hs c one hin;have h2:=M.split_bd h.wf.m (ctx_lt c);unfold E.In;unfold M.raw at h1;cases one
 ·simp at h1;omega
 ·simp at h1;omega
theorem E.in_from {e:E} (h:e.Ok) {s:List Nat} (hs:∀i,s.getD i 0<256) (l:List (Int × Bool)) (hin:(encFrom e l).In s):e.In s:=by
 induction l generalizing e with
 | nil=>exact hin
 | cons a l ih=>exact E.in_step h hs a.1 a.2 (ih (E.bit_ok h a.1 a.2) hin)
structure Along (e:E) (s:List Nat) (d:D):Prop where
 m:d.m=e.m
 off:d.off=val s (e.done.length+4)-e.T
 left:d.left=s.drop (e.done.length+4)
theorem D.next_m (d:D):d.next.m=d.m:=by unfold D.next;split<;>rfl
theorem D.next_drop (d:D) {s:List Nat} {n:Nat} (h:d.left=s.drop n):d.next.left=s.drop (n+1)∧d.next.off=(d.off*256+s.getD n 0) % 4294967296:=by
 have e2:s.drop (n+1)=(s.drop n).drop 1:=by rw [List.drop_drop]
 unfold D.next;split
 ·rename_i hl
  rw [hl] at h;have hn:s.length≤n:=by
   have:=congrArg List.length h;simp at this;omega
  refine ⟨by rw [e2,←h];rfl,?_⟩;simp [List.getD,List.getElem?_eq_none hn]
 ·rename_i b r hl
  rw [hl] at h;have hn:s[n]?=some b:=by
   have:(s.drop n)[0]?=some b:=by rw [←h];rfl
   simpa using this
  refine ⟨by rw [e2,←h];rfl,?_⟩;simp [List.getD,hn]
theorem Along.one {e:E} (h:e.Ok) {s:List Nat} (hs:∀i,s.getD i 0<256) {d:D} (ha:Along e s d) (c:Int) (one:Bool) (hin:(e.bit c one).In s):d.one c=one:=by
 have h1:=E.in_back h hs c one hin;unfold D.one;rw [ha.m,ha.off];unfold M.raw at h1;cases one
 ·simp at h1 ⊢;omega
 ·simp at h1 ⊢;omega
theorem Along.step {e:E} (h:e.Ok) {s:List Nat} (hs:∀i,s.getD i 0<256) {d:D} (ha:Along e s d) (c:Int) (one:Bool) (hin:(e.bit c one).In s):Along (e.bit c one) s (d.bit c):=by
 have ho:=ha.one h hs c one hin;have h1:=E.in_back h hs c one hin;obtain ⟨h2,h3,h4⟩:=E.bit_T h c one;have h5:=M.raw_bd h.wf.m (ctx_lt c) one;have h6:d.off1 c=val s (e.done.length+4)-(e.T+(if one then e.m.split (ctx c) else 0)):=by
  unfold D.off1;rw [ho,ha.off,ha.m];cases one
  ·simp
  ·simp;omega
 have hm:d.m.step (ctx c) (d.one c)=(e.bit c one).m:=by rw [ho,ha.m,E.bit_m]
 unfold D.bit;rw [hm];simp only [ho,ha.m];by_cases hsh:e.m.shifts (ctx c) one=true
 ·simp only [hsh,if_true] at h2 h3 h4 ⊢;have hr:e.m.raw (ctx c) one<16777216:=by simpa [M.shifts] using hsh
  obtain ⟨n1,n2⟩:=D.next_drop (⟨(e.bit c one).m,d.left,d.off1 c⟩:D) ha.left;refine ⟨D.next_m _,?_,?_⟩
  ·rw [n2,h2,h4];rw [show e.done.length+1+4=(e.done.length+4)+1 by omega];have hv:val s (e.done.length+4+1)=val s (e.done.length+4)*256+s.getD (e.done.length+4) 0:=rfl;have:=hs (e.done.length+4);rw [hv];dsimp only
   rw [h6];generalize e.T+(if one then e.m.split (ctx c) else 0)=t at *;generalize e.m.raw (ctx c) one=r at *;omega
  ·rw [n1,h4]
 ·simp only [hsh,Bool.false_eq_true,if_false] at h2 h4 ⊢;refine ⟨rfl,?_,?_⟩
  ·show d.off1 c=_;rw [h6,h2,h4];simp
  ·show d.left=_;rw [ha.left,h4]
theorem decode_along {e:E} (h:e.Ok) {s:List Nat} (hs:∀i,s.getD i 0<256) {d:D} (ha:Along e s d) (l:List (Int × Bool)) (hin:(encFrom e l).In s) :
  decodeFrom d (l.map (·.1))=l.map (·.2):=by
 induction l generalizing e d with
 | nil=>rfl
 | cons a l ih=>
  have h1:(e.bit a.1 a.2).In s:=E.in_from (E.bit_ok h a.1 a.2) hs l hin;show d.one a.1 :: decodeFrom (d.bit a.1) (l.map (·.1))=a.2 :: l.map (·.2);rw [ha.one h hs a.1 a.2 h1,ih (E.bit_ok h a.1 a.2) (ha.step h hs a.1 a.2 h1) hin]
theorem ofCode_along (s:List Nat) (hs:∀i,s.getD i 0<256):Along E.init s (D.ofCode s):=by
 obtain ⟨a1,b1⟩:=D.next_drop (s:=s) (n:=0) ⟨M.init,s,0⟩ rfl;obtain ⟨a2,b2⟩:=D.next_drop _ a1;obtain ⟨a3,b3⟩:=D.next_drop _ a2;obtain ⟨a4,b4⟩:=D.next_drop _ a3;refine ⟨?_,?_,a4⟩
 ·unfold D.ofCode;rw [D.next_m,D.next_m,D.next_m,D.next_m];rfl
 ·show (D.ofCode s).off=val s 4-0;unfold D.ofCode;rw [b4,b3,b2,b1];show _=(((0*256+s.getD 0 0)*256+s.getD (0+1) 0)*256+s.getD (0+1+1) 0)*256+s.getD (0+1+1+1) 0-0;have:=hs 0;have:=hs (0+1);have:=hs (0+1+1);have:=hs (0+1+1+1);dsimp only
  omega
def E.fin (e:E):List Nat:=if e.last=256 then carry e.done++[0] else e.done++[e.last]
theorem E.finish_fin (e:E):e.finish=trim e.fin:=rfl
theorem E.fin_lt {e:E} (h:e.Wf):∀d,d∈e.fin→d<256:=by
 intro d hd;have h1:=h.low;unfold E.fin at hd;split at hd
 ·simp only [List.mem_append,List.mem_singleton] at hd;rcases hd with hd | rfl
  ·exact carry_lt h.done d hd
  ·omega
 ·simp only [List.mem_append,List.mem_singleton] at hd;rcases hd with hd | rfl
  ·exact h.done d hd
  ·unfold E.last at *;omega
theorem ceil_bd (x:Nat):x≤(x+16777215) / 16777216*16777216∧(x+16777215) / 16777216*16777216≤x+16777215:=by
 have h1:=Nat.div_mul_le_self (x+16777215) 16777216;have h2:=Nat.mod_lt (x+16777215) (show 16777216 > 0 by decide);have h3:=Nat.div_add_mod (x+16777215) 16777216;rw [Nat.mul_comm] at h3;generalize (x+16777215) / 16777216*16777216=q at *;generalize (x+16777215) % 16777216=r at *;exact ⟨by omega,h1⟩
theorem up_le {y x q:Nat} (hq:x≤q*16777216):y*4294967296+x≤(y*256+q)*16777216:=by
 rw [Nat.add_mul,Nat.mul_assoc];exact Nat.add_le_add_left hq _
theorem up_lt {y x q z:Nat} (hq:q*16777216≤x+16777215) (h2:16777216≤z):(y*256+q)*16777216<y*4294967296+x+z:=by
 omega
theorem E.fin_num {e:E} (h:e.Ok):e.T≤num e.fin*16777216∧num e.fin*16777216<e.T+e.m.size∧e.fin.length=e.done.length+1:=by
 have h1:=h.wf.low;have h2:=h.wf.m.lo;have h3:=h.fit;unfold E.T at *;unfold E.fin;obtain ⟨hq1,hq2⟩:=ceil_bd e.low;by_cases hl:e.last=256
 ·simp only [hl,if_true,num_snoc,List.length_append,carry_length,List.length_singleton];unfold E.last at hl;rw [hl] at hq1 hq2;generalize hw:256 ^ e.done.length=w at *;rw [num_carry h.wf.done (by rw [hw];omega),show (num e.done+1)*256+0=num e.done*256+(256+0) by omega];exact ⟨up_le (q:=256+0) hq1,up_lt (q:=256+0) hq2 h2,trivial⟩
 ·simp only [hl,if_false,num_snoc,List.length_append,List.length_singleton];unfold E.last;exact ⟨up_le hq1,up_lt hq2 h2,trivial⟩
theorem getD_lt {l:List Nat} (h:∀d,d∈l→d<256) (i:Nat):l.getD i 0<256:=by
 simp only [List.getD];cases he:l[i]? with
 | none=>simp
 | some d=>exact h d (List.mem_of_getElem? he)
theorem encode_lt (l:List (Int × Bool)):∀d,d∈encode l→d<256:=by
 intro d hd;unfold encode at hd;rw [E.finish_fin] at hd;refine E.fin_lt (encFrom_ok E.init_ok l).wf d ?_;obtain ⟨k,hk⟩:=trim_spec (encFrom E.init l).fin;rw [hk];exact List.mem_append_left _ hd
theorem decode_encode (l:List (Int × Bool)) (k:Nat):decode (encode l++List.replicate k 0) (l.map (·.1))=l.map (·.2):=by
 have hok:=encFrom_ok E.init_ok l;have hg:∀i,(encode l++List.replicate k 0).getD i 0=(encFrom E.init l).fin.getD i 0:=fun i=>by
  rw [getD_zeros];unfold encode;rw [E.finish_fin,trim_getD]
 have hs:∀i,(encode l++List.replicate k 0).getD i 0<256:=fun i=>by rw [hg];exact getD_lt (E.fin_lt hok.wf) i
 refine decode_along E.init_ok hs (ofCode_along _ hs) l ?_;obtain ⟨f1,f2,f3⟩:=E.fin_num hok;have hv:∀n,val (encode l++List.replicate k 0) n=val (encFrom E.init l).fin n:=val_congr hg;unfold E.In;rw [hv];have hn:=num_val (encFrom E.init l).fin;rw [f3] at hn;have z:∀i,(encFrom E.init l).done.length+1≤i→(encFrom E.init l).fin.getD i 0=0:=fun i hi=>by
  simp [List.getD,List.getElem?_eq_none (show (encFrom E.init l).fin.length≤i by omega)]
 have e4:val (encFrom E.init l).fin ((encFrom E.init l).done.length+4)=((num (encFrom E.init l).fin*256+0)*256+0)*256+0:=by
  rw [hn,←z ((encFrom E.init l).done.length+3) (by omega)];conv=>rhs;rw [show (((val (encFrom E.init l).fin ((encFrom E.init l).done.length+1))*256+(encFrom E.init l).fin.getD ((encFrom E.init l).done.length+3) 0))=val (encFrom E.init l).fin ((encFrom E.init l).done.length+1)*256+(encFrom E.init l).fin.getD ((encFrom E.init l).done.length+1) 0 by rw [z _ (by omega),z _ (by omega)]]
  conv=>rhs;rw [show ∀x:Nat,x*256+(encFrom E.init l).fin.getD ((encFrom E.init l).done.length+3) 0=x*256+(encFrom E.init l).fin.getD ((encFrom E.init l).done.length+3) 0 from fun _=>rfl]
  show (((val (encFrom E.init l).fin ((encFrom E.init l).done.length+1))*256+(encFrom E.init l).fin.getD ((encFrom E.init l).done.length+1) 0)*256+(encFrom E.init l).fin.getD ((encFrom E.init l).done.length+2) 0)*256+(encFrom E.init l).fin.getD ((encFrom E.init l).done.length+3) 0=_;rw [z _ (Nat.le_refl _),z ((encFrom E.init l).done.length+2) (by omega),z ((encFrom E.init l).done.length+3) (by omega)]
 rw [e4];constructor<;>omega
def nrm (x:Int × Bool):Nat × Bool:=(ctx x.1,x.2)
theorem trim_length (l:List Nat):(trim l).length≤l.length:=by
 obtain ⟨k,hk⟩:=trim_spec l;have:=congrArg List.length hk;rw [List.length_append] at this;omega
theorem encode_length (l:List (Int × Bool)):(encode l).length≤l.length+1:=by
 have h1:=trim_length (encFrom E.init l).fin;have h2:=(E.fin_num (encFrom_ok E.init_ok l)).2.2;have h3:=encFrom_done_length E.init l;have h4:E.init.done.length=0:=rfl;unfold encode;rw [E.finish_fin];omega
end Pc
end Go.Proofs.YtcikldoaidmnhaaGreatDoor
namespace Go.Proofs.YtcikldoaidmnhaaGreatDoor
open Go Go.RowKit
namespace Pc
def nctx (c:Int) (i:Nat):Int:=wrap64 (c+min (i:Int) 31)
def vctx (c:Int) (j:Nat):Int:=wrap64 (wrap64 (c+32)+min (j:Int) 31)
def obits (c:Int):Nat→Nat→List (Int × Bool)
 | i,0=>[(nctx c i,false)]
 | i,m+1=>(nctx c i,true) :: obits c (i+1) m
def vbits (c:Int) (n:Nat):Nat→List (Int × Bool)
 | 0=>[]
 | j+1=>(vctx c j,decide (n / 2 ^ j % 2=1)) :: vbits c n j
def blen (n:Nat):Nat:=if n=0 then 0 else Nat.log2 n+1
def numBits (c:Int) (n:Nat):List (Int × Bool):=obits c 0 (blen n)++vbits c n (blen n-1)
theorem blen_zero:blen 0=0:=rfl
theorem blen_pos {n:Nat} (h:0<n):blen n=blen (n / 2)+1:=by
 unfold blen;rw [if_neg (by omega)];by_cases h2:n / 2=0
 ·have:n=1:=by omega
  subst this;rfl
 ·rw [if_neg h2,Nat.log2_def,if_pos (by omega)]
theorem blen_le {n:Nat} (h:n<2 ^ 64):blen n≤64:=by
 unfold blen;split
 ·omega
 ·rename_i h0
  have:=(Nat.log2_lt h0).2 h;omega
theorem blen_lo {n:Nat} (h:0<n):2 ^ (blen n-1)≤n∧n<2 ^ (blen n-1)*2:=by
 have e:blen n-1=Nat.log2 n:=by unfold blen;rw [if_neg (by omega)];rfl
 rw [e];exact ⟨Nat.log2_self_le (by omega),by rw [←Nat.pow_succ];exact Nat.lt_log2_self⟩
theorem obits_length (c:Int) (i m:Nat):(obits c i m).length=m+1:=by
 induction m generalizing i with
 | zero=>rfl
 | succ m ih=>simp [obits,ih]
theorem vbits_length (c:Int) (n j:Nat):(vbits c n j).length=j:=by
 induction j with
 | zero=>rfl
 | succ j ih=>simp [vbits,ih]
theorem numBits_length {n:Nat} (c:Int) (h:n<2 ^ 64):(numBits c n).length≤128:=by
 have:=blen_le h;rw [numBits,List.length_append,obits_length,vbits_length];omega
def D.ones (c:Int):Nat→D→Nat × D
 | 0,d=>(65,d)
 | f+1,d=>if d.one (nctx c (64-f)) then D.ones c f (d.bit (nctx c (64-f))) else (64-f,d.bit (nctx c (64-f)))
def D.val (c:Int):Nat→Nat→D→Nat × D
 | 0,x,d=>(x,d)
 | j+1,x,d=>D.val c j (2*x+if d.one (vctx c j) then 1 else 0) (d.bit (vctx c j))
structure NumR where
 n:Nat
 ok:Bool
 d:D
def D.number (d:D) (c:Int):NumR:=
 if (D.ones c 65 d).1=65 then ⟨0,false,(D.ones c 65 d).2⟩
 else if (D.ones c 65 d).1=0 then ⟨0,true,(D.ones c 65 d).2⟩
 else ⟨(D.val c ((D.ones c 65 d).1-1) 1 (D.ones c 65 d).2).1,true,(D.val c ((D.ones c 65 d).1-1) 1 (D.ones c 65 d).2).2⟩
def Good (d:D) (l:List (Int × Bool)):Prop:=decodeFrom d (l.map (·.1))=l.map (·.2)
theorem Good.head {d:D} {x:Int × Bool} {l:List (Int × Bool)} (h:Good d (x :: l)):d.one x.1=x.2∧Good (d.bit x.1) l:=by
 unfold Good at h;simp only [List.map_cons,decodeFrom,List.cons.injEq] at h;exact h
theorem Good.start (l:List (Int × Bool)):Good (D.ofCode (encode l)) l:=by
 have:=decode_encode l 0;simpa [Good,Pc.decode] using this
theorem ones_good {c:Int} {i m:Nat} {d:D} {r:List (Int × Bool)} (him:i+m≤64) (h:Good d (obits c i m++r)) :
  (D.ones c (65-i) d).1=i+m∧Good (D.ones c (65-i) d).2 r:=by
 induction m generalizing i d with
 | zero=>
  obtain ⟨h1,h2⟩:=Good.head h;rw [show 65-i=(64-i)+1 by omega,D.ones,show 64-(64-i)=i by omega];simp only at h1 h2;rw [h1];exact ⟨rfl,h2⟩
 | succ m ih=>
  obtain ⟨h1,h2⟩:=Good.head h;rw [show 65-i=(64-i)+1 by omega,D.ones,show 64-(64-i)=i by omega];simp only at h1 h2;rw [h1,if_pos rfl];have:=ih (i:=i+1) (by omega) h2;rw [show 65-(i+1)=64-i by omega,show i+1+m=i+(m+1) by omega] at this;exact this
theorem val_good {c:Int} {n j x:Nat} {d:D} {r:List (Int × Bool)} (h:Good d (vbits c n j++r)) :
  (D.val c j x d).1=x*2 ^ j+n % 2 ^ j∧Good (D.val c j x d).2 r:=by
 induction j generalizing x d with
 | zero=>exact ⟨by simp [D.val,Nat.mod_one],h⟩
 | succ j ih=>
  obtain ⟨h1,h2⟩:=Good.head h;simp only at h1 h2;rw [D.val,h1];have:=ih (x:=2*x+if decide (n / 2 ^ j % 2=1)=true then 1 else 0) h2;refine ⟨?_,this.2⟩;rw [this.1];have e:n % 2 ^ (j+1)=n / 2 ^ j % 2*2 ^ j+n % 2 ^ j:=by
   rw [Nat.pow_succ,Nat.mod_mul,Nat.mul_comm (2 ^ j)];omega
  rw [e,Nat.pow_succ];have hb:(if decide (n / 2 ^ j % 2=1)=true then 1 else 0)=n / 2 ^ j % 2:=by
   by_cases hq:n / 2 ^ j % 2=1
   ·rw [if_pos (by simpa using hq),hq]
   ·rw [if_neg (by simpa using hq)];omega
  rw [hb,Nat.add_mul,Nat.mul_comm 2 x,Nat.mul_assoc x 2,Nat.mul_comm 2 (2 ^ j)];omega
theorem number_good {c:Int} {n:Nat} {d:D} {r:List (Int × Bool)} (hn:n<2 ^ 64) (h:Good d (numBits c n++r)) :
  (d.number c).n=n∧(d.number c).ok=true∧Good (d.number c).d r:=by
 have hl:=blen_le hn;unfold numBits at h;rw [List.append_assoc] at h;obtain ⟨h1,h2⟩:=ones_good (i:=0) (m:=blen n) (by omega) h;rw [Nat.zero_add] at h1;unfold D.number;rw [show 65=65-0 from rfl] at *;rw [h1,if_neg (by omega)];by_cases h0:n=0
 ·subst h0;rw [if_pos blen_zero];exact ⟨rfl,rfl,by simpa [vbits,blen] using h2⟩
 ·have hp:=blen_pos (n:=n) (by omega);rw [if_neg (by omega)];have h3:=val_good (x:=1) h2;refine ⟨?_,rfl,h3.2⟩;show (D.val c (blen n-1) 1 (D.ones c (65-0) d).2).1=n;rw [h3.1];have hb:=blen_lo (n:=n) (by omega);generalize 2 ^ (blen n-1)=q at *;have:n % q=n-q:=by
   rw [Nat.mod_eq_sub_mod hb.1,Nat.mod_eq_of_lt (by omega)]
  omega
end Pc
end Go.Proofs.YtcikldoaidmnhaaGreatDoor
namespace Go.Proofs.YtcikldoaidmnhaaGreatDoor
open Go Go.RowKit
namespace Pk
open Pc
abbrev Pt:=Int × Int × Int
abbrev Tri:=Pt × Pt × Pt
abbrev Gate:=Pt × Pt × Pt
abbrev Bits:=List (Int × Bool)
def ptLt (a b:Pt):Bool:=if a.1≠b.1 then decide (a.1<b.1) else if a.2.1≠b.2.1 then decide (a.2.1<b.2.1) else decide (a.2.2<b.2.2)
def edgesT (t:Tri):List (Pt × Pt):=[(t.1,t.2.1),(t.2.1,t.2.2),(t.2.2,t.1)]
def edgesL (l:List Tri):List (Pt × Pt):=l.flatMap edgesT
def third:List Tri→Pt→Pt→Option Pt
 | [],_,_=>none
 | t :: r,p,q=>if t.1=p∧t.2.1=q then some t.2.2 else if t.2.1=p∧t.2.2=q then some t.1 else if t.2.2=p∧t.1=q then some t.2.1 else third r p q
theorem third_isSome:∀(l:List Tri) (p q:Pt),(third l p q).isSome=decide ((p,q)∈edgesL l)
 | [],p,q=>by simp [third,edgesL]
 | t :: r,p,q=>by
  have ih:=third_isSome r p q;have e:edgesL (t :: r)=edgesT t++edgesL r:=rfl;rw [e,third];by_cases h1:t.1=p∧t.2.1=q
  ·obtain ⟨rfl,rfl⟩:=h1;rw [if_pos ⟨rfl,rfl⟩];simp [edgesT]
  ·rw [if_neg h1];by_cases h2:t.2.1=p∧t.2.2=q
   ·obtain ⟨rfl,rfl⟩:=h2;rw [if_pos ⟨rfl,rfl⟩];simp [edgesT]
   ·rw [if_neg h2];by_cases h3:t.2.2=p∧t.1=q
    ·obtain ⟨rfl,rfl⟩:=h3;rw [if_pos ⟨rfl,rfl⟩];simp [edgesT]
    ·rw [if_neg h3,ih];have hn:(p,q)∉edgesT t:=by
      simp only [edgesT,List.mem_cons,Prod.mk.injEq,List.not_mem_nil,or_false];rintro (⟨rfl,rfl⟩ | ⟨rfl,rfl⟩ | ⟨rfl,rfl⟩)
      ·exact h1 ⟨rfl,rfl⟩
      ·exact h2 ⟨rfl,rfl⟩
      ·exact h3 ⟨rfl,rfl⟩
     simp [hn]
structure Wk where
 known:List Pt
 tris:List Tri
 gates:List Gate
def Wk.init:Wk:=⟨[],[],[]⟩
def gatesT (t:Tri):List Gate:=[(t.2.1,t.1,t.2.2),(t.2.2,t.2.1,t.1),(t.1,t.2.2,t.2.1)]
def Wk.visit (w:Wk) (t:Tri) (first:Nat):Wk:=⟨w.known,w.tris++[t],w.gates++(gatesT t).drop first⟩
def openG (tris:List Tri):List Gate→List Gate
 | []=>[]
 | g :: r=>if (third tris g.1 g.2.1).isSome then openG tris r else g :: r
theorem openG_len (tris:List Tri):∀g:List Gate,(openG tris g).length≤g.length
 | []=>Nat.le_refl _
 | g :: r=>by
  rw [openG];split
  ·have:=openG_len tris r;simp;omega
  ·exact Nat.le_refl _
def zig (n:Int):Nat:=if n<0 then (-2*n-1).toNat else (2*n).toNat
def zag (n:Nat):Int:=if n % 2=1 then -((n / 2:Nat):Int)-1 else ((n / 2:Nat):Int)
theorem zag_zig (n:Int):zag (zig n)=n:=by
 unfold zig zag;by_cases h:n<0
 ·rw [if_pos h,if_pos (by omega)];omega
 ·rw [if_neg h,if_neg (by omega)];omega
def sub (p q:Pt):Pt:=(p.1-q.1,p.2.1-q.2.1,p.2.2-q.2.2)
def placeB (c:Int) (p near:Pt):Bits:=numBits c (zig (p.1-near.1))++numBits (c+64) (zig (p.2.1-near.2.1))++numBits (c+128) (zig (p.2.2-near.2.2))
def cornerB (known:List Pt) (p near:Pt) (bit number place:Int):Bits:=if p∈known then (bit,true) :: numBits number (known.length-1-known.idxOf p) else (bit,false) :: placeB place p near
def meetK (known:List Pt) (p:Pt):List Pt:=if p∈known then known else known++[p]
def lastK (known:List Pt):Pt:=known.getLast?.getD (0,0,0)
def expG (g:Gate):Pt:=(g.1.1+g.2.1.1-g.2.2.1,g.1.2.1+g.2.1.2.1-g.2.2.2.1,g.1.2.2+g.2.1.2.2-g.2.2.2.2)
def seedT (c tris:List Tri):Option Tri:=c.find? (fun t=>(third tris t.1 t.2.1).isNone)
def stepW (c:List Tri) (w:Wk):Option (Bits × Wk):=
 match openG w.tris w.gates with
 | g :: r=>match third c g.1 g.2.1 with
  | none=>some ([(1,false)],⟨w.known,w.tris,r⟩)
  | some p=>some ((1,true) :: cornerB w.known p (expG g) 2 128 448,(⟨meetK w.known p,w.tris,r⟩:Wk).visit (g.1,g.2.1,p) 1)
 | []=>match seedT c w.tris with
  | none=>none
  | some t=>some (cornerB w.known t.1 (lastK w.known) 0 192 256++cornerB (meetK w.known t.1) t.2.1 (lastK (meetK w.known t.1)) 0 192 256++cornerB (meetK (meetK w.known t.1) t.2.1) t.2.2 (lastK (meetK (meetK w.known t.1) t.2.1)) 0 192 256,
    (⟨meetK (meetK (meetK w.known t.1) t.2.1) t.2.2,w.tris,[]⟩:Wk).visit t 0)
def walkB (c:List Tri):Nat→Wk→Bits
 | 0,_=>[]
 | f+1,w=>if c.length≤w.tris.length then [] else match stepW c w with
  | none=>[]
  | some (b,w')=>b++walkB c f w'
def Wk.left (c:List Tri) (w:Wk):Nat:=4*(c.length-w.tris.length)+w.gates.length
theorem visit_left (c:List Tri) (w:Wk) (t:Tri) (first:Nat) (h:w.tris.length<c.length):(w.visit t first).left c<w.left c∨first=0:=by
 by_cases hf:first=0
 ·exact .inr hf
 ·left;unfold Wk.left Wk.visit;have hg:((gatesT t).drop first).length≤2:=by rw [List.length_drop];simp [gatesT];omega
  simp only [List.length_append,List.length_cons,List.length_nil];omega
theorem step_left {c:List Tri} {w w':Wk} {b:Bits} (h:w.tris.length<c.length) (hs:stepW c w=some (b,w')):w'.left c<w.left c:=by
 unfold stepW at hs;have hl:=openG_len w.tris w.gates;split at hs
 ·rename_i g r hg
  rw [hg,List.length_cons] at hl;split at hs
  ·cases hs;unfold Wk.left;simp only;omega
  ·rename_i p hp
   cases hs;have:=visit_left c ⟨meetK w.known p,w.tris,r⟩ (g.1,g.2.1,p) 1 h;rcases this with h1 | h1
   ·refine Nat.lt_of_lt_of_le h1 ?_;unfold Wk.left;simp only;omega
   ·omega
 ·rename_i hg
  split at hs
  ·cases hs
  ·cases hs;unfold Wk.left Wk.visit;simp only [List.length_append,List.length_cons,List.length_nil,gatesT,List.drop_zero];omega
def bitsC (c:List Tri):Bits:=numBits 64 c.length++walkB c (Wk.init.left c) Wk.init
def packC (c:List Tri):List Nat:=1 :: encode (bitsC c)
end Pk
end Go.Proofs.YtcikldoaidmnhaaGreatDoor
