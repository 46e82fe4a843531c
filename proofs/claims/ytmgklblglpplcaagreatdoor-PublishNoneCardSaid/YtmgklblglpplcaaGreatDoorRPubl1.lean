/- Parts: The adaptive range coder as plain functions on numbers and lists. No condition. -/
namespace Go.Proofs.YtmgklblglpplcaaGreatDoor
namespace Pc
structure M where
 p:Nat→Nat
 size:Nat
def M.init:M:=⟨fun _=>1024,4294967295⟩
def ctx (c:Int):Nat:=(c % 4096).toNat
theorem ctx_lt (c:Int):ctx c<4096:=by unfold ctx;omega
theorem ctx_cast (c:Int):((ctx c:Nat):Int)=c % 4096:=by unfold ctx;omega
structure M.Wf (m:M):Prop where
 lo:16777216≤m.size
 hi:m.size≤4294967295
 pl:∀i,i<4096→31≤m.p i
 ph:∀i,i<4096→m.p i≤2017
def upd (p:Nat→Nat) (i v:Nat):Nat→Nat:=fun j=>if j=i then v else p j
def M.split (m:M) (i:Nat):Nat:=m.size / 2048*m.p i
def M.newp (m:M) (i:Nat) (one:Bool):Nat:=if one then m.p i-m.p i / 32 else m.p i+(2048-m.p i) / 32
def M.raw (m:M) (i:Nat) (one:Bool):Nat:=if one then m.size-m.split i else m.split i
def norm (s:Nat):Nat:=if s<16777216 then s*256 else s
def M.shifts (m:M) (i:Nat) (one:Bool):Bool:=decide (m.raw i one<16777216)
def M.step (m:M) (i:Nat) (one:Bool):M:=⟨upd m.p i (m.newp i one),norm (m.raw i one)⟩
theorem M.split_bd {m:M} (h:m.Wf) {i:Nat} (hi:i<4096):253952≤m.split i∧m.split i+253952≤m.size:=by
 have h1:=h.lo;have h2:=h.hi;have h3:=h.pl i hi;have h4:=h.ph i hi;unfold M.split;have ha:8192≤m.size / 2048:=by omega
 have hb:m.size / 2048*2048≤m.size:=Nat.div_mul_le_self _ _;generalize m.size / 2048=q at *;generalize m.p i=p at *;constructor
 ·have:=Nat.mul_le_mul ha h3;omega
 ·have h5:q*p≤q*2017:=Nat.mul_le_mul_left q h4;omega
theorem M.raw_bd {m:M} (h:m.Wf) {i:Nat} (hi:i<4096) (one:Bool):253952≤m.raw i one∧m.raw i one≤4294967295:=by
 have h1:=M.split_bd h hi;have h2:=h.hi;unfold M.raw;cases one
 ·simp only [Bool.false_eq_true,if_false];omega
 ·simp only [if_true];omega
theorem M.newp_bd {m:M} (h:m.Wf) {i:Nat} (hi:i<4096) (one:Bool):31≤m.newp i one∧m.newp i one≤2017:=by
 have h1:=h.pl i hi;have h2:=h.ph i hi;unfold M.newp;cases one
 ·simp only [Bool.false_eq_true,if_false];omega
 ·simp only [if_true];omega
theorem norm_bd {s:Nat} (h0:253952≤s) (h1:s≤4294967295):16777216≤norm s∧norm s≤4294967295:=by
 unfold norm;split<;>omega
theorem M.step_wf {m:M} (h:m.Wf) {i:Nat} (hi:i<4096) (one:Bool):(m.step i one).Wf:=by
 have hr:=M.raw_bd h hi one;have hn:=norm_bd hr.1 hr.2;have hp:=M.newp_bd h hi one;refine ⟨hn.1,hn.2,fun j hj=>?_,fun j hj=>?_⟩
 ·show 31≤upd _ _ _ j;unfold upd;split
  ·exact hp.1
  ·exact h.pl j hj
 ·show upd _ _ _ j≤2017;unfold upd;split
  ·exact hp.2
  ·exact h.ph j hj
theorem M.init_wf:M.init.Wf:=by
 refine ⟨?_,?_,fun i _=>?_,fun i _=>?_⟩
 ·show 16777216≤4294967295;omega
 ·show 4294967295≤4294967295;omega
 ·show 31≤1024;omega
 ·show 1024≤2017;omega
def carryR:List Nat→List Nat
 | []=>[]
 | d :: r=>if d=255 then 0 :: carryR r else (d+1) :: r
def carry (l:List Nat):List Nat:=(carryR l.reverse).reverse
theorem carry_snoc_255 (l:List Nat):carry (l++[255])=carry l++[0]:=by
 simp [carry,carryR]
theorem carry_snoc_ne (l:List Nat) {d:Nat} (h:d≠255):carry (l++[d])=l++[d+1]:=by
 simp [carry,carryR,h]
theorem take_snoc {α:Type} {l:List α} {j:Nat} (h:j<l.length):l.take (j+1)=l.take j++[l[j]]:=by
 rw [List.take_succ_eq_append_getElem h]
structure E where
 m:M
 done:List Nat
 low:Nat
def E.init:E:=⟨M.init,[],0⟩
def E.low1 (e:E) (i:Nat) (one:Bool):Nat:=if one then (e.low+e.m.split i) % 4294967296 else e.low
def E.done1 (e:E) (i:Nat) (one:Bool):List Nat:=if one&&decide (4294967296≤e.low+e.m.split i) then carry e.done else e.done
def E.bit (e:E) (c:Int) (one:Bool):E:=
 let i:=ctx c
 if e.m.shifts i one then ⟨e.m.step i one,e.done1 i one++[e.low1 i one / 16777216],e.low1 i one % 16777216*256⟩
 else ⟨e.m.step i one,e.done1 i one,e.low1 i one⟩
structure E.Wf (e:E):Prop where
 m:e.m.Wf
 low:e.low<4294967296
 done:∀d,d∈e.done→d<256
def trimR:List Nat→List Nat
 | []=>[]
 | d :: r=>if d=0 then trimR r else d :: r
def trim (l:List Nat):List Nat:=(trimR l.reverse).reverse
def E.last (e:E):Nat:=(e.low+16777215) / 16777216
def E.finish (e:E):List Nat:=
 trim (if e.last=256 then carry e.done++[0] else e.done++[e.last])
theorem carryR_lt {l:List Nat} (h:∀d,d∈l→d<256):∀d,d∈carryR l→d<256:=by
 induction l with
 | nil=>intro d hd;simp [carryR] at hd
 | cons a r ih=>
  intro d hd;have ha:=h a (by simp);unfold carryR at hd;split at hd
  ·rcases List.mem_cons.1 hd with rfl | hd
   ·omega
   ·exact ih (fun d hd=>h d (by simp [hd])) d hd
  ·rename_i hne
   rcases List.mem_cons.1 hd with rfl | hd
   ·omega
   ·exact h d (by simp [hd])
theorem carryR_length (l:List Nat):(carryR l).length=l.length:=by
 induction l with
 | nil=>rfl
 | cons a r ih=>unfold carryR;split<;>simp [ih]
theorem carry_lt {l:List Nat} (h:∀d,d∈l→d<256):∀d,d∈carry l→d<256:=by
 intro d hd;unfold carry at hd;exact carryR_lt (l:=l.reverse) (fun d hd=>h d (by simpa using hd)) d (by simpa using hd)
theorem carry_length (l:List Nat):(carry l).length=l.length:=by
 simp [carry,carryR_length]
theorem E.init_wf:E.init.Wf:=⟨M.init_wf,by show 0<4294967296;omega,fun d hd=>by simp [E.init] at hd⟩
theorem E.low1_lt {e:E} (h:e.Wf) (i:Nat) (one:Bool):e.low1 i one<4294967296:=by
 have:=h.low;unfold E.low1;split<;>omega
theorem E.done1_lt {e:E} (h:e.Wf) (i:Nat) (one:Bool):∀d,d∈e.done1 i one→d<256:=by
 unfold E.done1;split
 ·exact carry_lt h.done
 ·exact h.done
theorem E.done1_length (e:E) (i:Nat) (one:Bool):(e.done1 i one).length=e.done.length:=by
 unfold E.done1;split
 ·exact carry_length _
 ·rfl
theorem E.bit_wf {e:E} (h:e.Wf) (c:Int) (one:Bool):(e.bit c one).Wf:=by
 have h1:=E.low1_lt h (ctx c) one;have h2:=E.done1_lt h (ctx c) one;have h3:=M.step_wf h.m (ctx_lt c) one;unfold E.bit;dsimp only
 split
 ·refine ⟨h3,?_,fun d hd=>?_⟩
  ·show _ % 16777216*256<4294967296;omega
  ·simp only [List.mem_append,List.mem_singleton] at hd;rcases hd with hd | rfl
   ·exact h2 d hd
   ·omega
 ·exact ⟨h3,h1,h2⟩
theorem E.bit_m (e:E) (c:Int) (one:Bool):(e.bit c one).m=e.m.step (ctx c) one:=by
 unfold E.bit;dsimp only;split<;>rfl
theorem E.bit_done_length (e:E) (c:Int) (one:Bool):(e.bit c one).done.length≤e.done.length+1:=by
 unfold E.bit;dsimp only
 split
 ·show (e.done1 _ _++[_]).length≤_;rw [List.length_append,E.done1_length];simp
 ·show (e.done1 _ _).length≤_;rw [E.done1_length];omega
def encFrom (e:E) (l:List (Int × Bool)):E:=l.foldl (fun e x=>e.bit x.1 x.2) e
theorem encFrom_done_length (e:E) (l:List (Int × Bool)):(encFrom e l).done.length≤e.done.length+l.length:=by
 induction l generalizing e with
 | nil=>simp [encFrom]
 | cons a l ih=>
  have h1:=ih (e.bit a.1 a.2);have h2:=E.bit_done_length e a.1 a.2;show (encFrom (e.bit a.1 a.2) l).done.length≤_;simp only [List.length_cons];omega
theorem encFrom_snoc (e:E) (l:List (Int × Bool)) (x:Int × Bool):encFrom e (l++[x])=(encFrom e l).bit x.1 x.2:=by
 simp [encFrom,List.foldl_append]
structure D where
 m:M
 left:List Nat
 off:Nat
def D.next (d:D):D:=
 match d.left with
 | []=>⟨d.m,[],d.off*256 % 4294967296⟩
 | b :: r=>⟨d.m,r,(d.off*256+b) % 4294967296⟩
def D.ofCode (l:List Nat):D:=(D.next (D.next (D.next (D.next ⟨M.init,l,0⟩))))
def D.one (d:D) (c:Int):Bool:=decide (d.m.split (ctx c)≤d.off)
def D.off1 (d:D) (c:Int):Nat:=if d.one c then d.off-d.m.split (ctx c) else d.off
def D.bit (d:D) (c:Int):D:=
 let d1:D:=⟨d.m.step (ctx c) (d.one c),d.left,d.off1 c⟩
 if d.m.shifts (ctx c) (d.one c) then d1.next else d1
structure D.Wf (d:D):Prop where
 m:d.m.Wf
 off:d.off<4294967296
 left:∀b,b∈d.left→b<256
theorem D.next_wf {d:D} (h:d.Wf):d.next.Wf:=by
 unfold D.next;split
 ·exact ⟨h.m,Nat.mod_lt _ (by omega),fun b hb=>by simp at hb⟩
 ·rename_i b r hl
  exact ⟨h.m,Nat.mod_lt _ (by omega),fun x hx=>h.left x (by rw [hl];simp [hx])⟩
theorem D.ofCode_wf {l:List Nat} (h:∀b,b∈l→b<256):(D.ofCode l).Wf:=
 D.next_wf (D.next_wf (D.next_wf (D.next_wf ⟨M.init_wf,by show 0<4294967296;omega,h⟩)))
theorem D.off1_lt {d:D} (h:d.Wf) (c:Int):d.off1 c<4294967296:=by
 have:=h.off;unfold D.off1;split<;>omega
theorem D.bit_wf {d:D} (h:d.Wf) (c:Int):(d.bit c).Wf:=by
 have h1:=D.off1_lt h c;have h3:=M.step_wf h.m (ctx_lt c) (d.one c);unfold D.bit;dsimp only
 split
 ·exact D.next_wf ⟨h3,h1,h.left⟩
 ·exact ⟨h3,h1,h.left⟩
def encode (l:List (Int × Bool)):List Nat:=(encFrom E.init l).finish
def decodeFrom (d:D):List Int→List Bool
 | []=>[]
 | c :: r=>d.one c :: decodeFrom (d.bit c) r
def decode (s:List Nat) (l:List Int):List Bool:=decodeFrom (D.ofCode s) l
end Pc
end Go.Proofs.YtmgklblglpplcaaGreatDoor
