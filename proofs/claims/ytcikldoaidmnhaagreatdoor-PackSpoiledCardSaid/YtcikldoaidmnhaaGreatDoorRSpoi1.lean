/- Parts: General lemmas: a relation between worlds in which only named blocks may have turned, and blocks known whole. No condition. Strings as lists of numbers below 256. No condition. The adaptive range coder as plain functions on numbers and lists. No condition. -/
import Derived.WalkKit
import Derived.WalkSpells
import Derived.WalkLawsBesides
import Derived.Lib.Hide
import Derived.BigQuiet
import Derived.Deep.DeepFit
import Derived.Deep.DeepCutAuto
import Derived.Deep.AppendLies
import Derived.Deep.QuietTactic
namespace Go.Proofs.YtcikldoaidmnhaaGreatDoor
open Go Go.RowKit
structure Upd (F:Nat→Prop) (w w':World):Prop where
 os:w'.os=w.os
 tape:w'.tape=w.tape
 output:w'.output=w.output
 size:w.heap.size≤w'.heap.size
 block:∀k,k<w.heap.size→¬F k→w'.heap[k]?=w.heap[k]?
def noBlk:Nat→Prop:=fun _=>False
theorem Upd.refl (F:Nat→Prop) (w:World):Upd F w w:=⟨rfl,rfl,rfl,Nat.le_refl _,fun _ _ _=>rfl⟩
theorem Upd.trans {F:Nat→Prop} {a b c:World} (h:Upd F a b) (k:Upd F b c):Upd F a c:=
 ⟨k.os.trans h.os,k.tape.trans h.tape,k.output.trans h.output,Nat.le_trans h.size k.size,
 fun i hi hf=>(k.block i (Nat.lt_of_lt_of_le hi h.size) hf).trans (h.block i hi hf)⟩
theorem Upd.then {F G:Nat→Prop} {a b c:World} (h:Upd F a b) (k:Upd G b c) (hg:∀i,i<a.heap.size→G i→F i):Upd F a c:=
 ⟨k.os.trans h.os,k.tape.trans h.tape,k.output.trans h.output,Nat.le_trans h.size k.size,
 fun i hi hf=>(k.block i (Nat.lt_of_lt_of_le hi h.size) (fun g=>hf (hg i hi g))).trans (h.block i hi hf)⟩
theorem Upd.mono {F G:Nat→Prop} {w w':World} (h:Upd F w w') (hg:∀i,i<w.heap.size→F i→G i):Upd G w w':=
 ⟨h.os,h.tape,h.output,h.size,fun k hk hG=>h.block k hk (fun f=>hG (hg k hk f))⟩
theorem Upd.drew {F:Nat→Prop} {a w:World} (h:Upd F a w):Upd F a w.drew:=⟨h.os,h.tape,h.output,h.size,h.block⟩
theorem Upd.alloc {F:Nat→Prop} {a w:World} (h:Upd F a w) (o:Obj):Upd F a (w.alloc o):=
 h.trans ⟨rfl,rfl,rfl,by simp,fun k hk _=>_root_.Go.heap_alloc_old w o hk⟩
theorem Upd.setCell {F:Nat→Prop} {a w:World} (h:Upd F a w) {p:Addr} (hp:p.block<a.heap.size→F p.block) (u:Value):Upd F a (w.setCell p u):=
 ⟨h.os,h.tape,h.output,by simpa using h.size,fun k hk hf=>by
  rw [heap_setCell_other w p k u (fun e=>hf (by subst e;exact hp hk))];exact h.block k hk hf⟩
theorem Upd.grown {F:Nat→Prop} {a w w':World} {row:Option Nat} (h:Upd F a w) (hg:w.grownBy w' row) (hr:∀k,row=some k→k<a.heap.size→F k):Upd F a w':=
 ⟨hg.os.trans h.os,hg.tape.trans h.tape,hg.output.trans h.output,Nat.le_trans h.size hg.size,fun k hk hf=>
  (hg.block k (Nat.lt_of_lt_of_le hk h.size) (fun e=>hf (hr k e.symm hk))).trans (h.block k hk hf)⟩
theorem Upd.below {w w':World} (h:Upd noBlk w w'):Below w.heap.size w w':=
 ⟨h.os,h.tape,h.output,h.size,fun k hk=>h.block k hk id⟩
theorem Upd.ofDrewN {F:Nat→Prop} (w:World) (n:Nat):Upd F w (w.drewN n):=
 ⟨rfl,rfl,rfl,Nat.le_refl _,fun _ _ _=>rfl⟩
theorem Upd.drewN {F:Nat→Prop} {a w:World} (h:Upd F a w) (n:Nat):Upd F a (w.drewN n):=h.trans (Upd.ofDrewN w n)
theorem lt_of_heap {w:World} {b:Nat} {o:Obj} (h:w.heap[b]?=some o):b<w.heap.size:=(Array.getElem?_eq_some_iff.1 h).1
theorem Upd.heap {F:Nat→Prop} {w w':World} {b:Nat} {o:Obj} (h:Upd F w w') (hb:w.heap[b]?=some o) (hf:¬F b):w'.heap[b]?=some o:=
 (h.block b (lt_of_heap hb) hf).trans hb
theorem Upd.cell {F:Nat→Prop} {w w':World} {a:Addr} {v:Value} (h:Upd F w w') (hv:w.cell? a=some v) (hf:¬F a.block):w'.cell? a=some v:=
 (World.cell?_of_block (h.block a.block (World.block_lt_of_cell? w a hv) hf)).trans hv
theorem heap_setCell_eq {w:World} {g i:Nat} {cs:Array Value} {t:TypeId} (v:Value) (hg:w.heap[g]?=some (.cells cs t (0,0))) :
  (w.setCell ⟨g,i,none⟩ v).heap[g]?=some (.cells (cs.setIfInBounds i v) t (0,0)):=heap_setCell_same w g i cs t v hg
theorem heap_setCell_ne {w:World} {g k i:Nat} {o:Obj} (v:Value) (hk:w.heap[k]?=some o) (h:k≠g):(w.setCell ⟨g,i,none⟩ v).heap[k]?=some o:=
 (heap_setCell_other w ⟨g,i,none⟩ k v h).trans hk
theorem heap_alloc_keep {w:World} {k:Nat} {o:Obj} (o':Obj) (hk:w.heap[k]?=some o):(w.alloc o').heap[k]?=some o:=
 (_root_.Go.heap_alloc_old w o' (lt_of_heap hk)).trans hk
theorem cell_alloc_keep {w:World} {a:Addr} {v:Value} (o:Obj) (h:w.cell? a=some v):(w.alloc o).cell? a=some v:=
 (World.cell?_alloc_lt w o a (World.block_lt_of_cell? w a h)).trans h
theorem frozen_alloc_keep {w:World} {a:Addr} (o:Obj) (ha:a.block<w.heap.size) (h:w.frozen? a=false):(w.alloc o).frozen? a=false:=
 (World.frozen?_alloc_old w o a (Nat.ne_of_lt ha)).trans h
theorem grown_cell {w w1:World} {o:Obj} {row:Option Nat} (hg:(w.alloc o).drew.grownBy w1 row) {a:Addr} {v:Value} (h:w.cell? a=some v) (hne:row≠some a.block):w1.cell? a=some v:=
 hg.cell (cell_alloc_keep o h) (Ne.symm hne)
theorem grown_free {w w1:World} {o:Obj} {row:Option Nat} (hg:(w.alloc o).drew.grownBy w1 row) {a:Addr} (ha:a.block<w.heap.size) (h:w.frozen? a=false) (hne:row≠some a.block):w1.frozen? a=false:=
 (World.frozen?_of_block (hg.block a.block (by simp;omega) (Ne.symm hne))).trans (frozen_alloc_keep o ha h)
theorem grown_heap {w w1:World} {o o':Obj} {row:Option Nat} (hg:(w.alloc o).drew.grownBy w1 row) {k:Nat} (h:w.heap[k]?=some o') (hne:row≠some k):w1.heap[k]?=some o':=by
 have hk:=lt_of_heap h;exact (hg.block k (by simp;omega) (Ne.symm hne)).trans (heap_alloc_keep o h)
theorem upd_grown_new {F:Nat→Prop} {w w1:World} {o:Obj} {row:Option Nat} (hg:(w.alloc o).drew.grownBy w1 row) (hr:∀k,row=some k→k<w.heap.size→F k):Upd F w w1:=
 ((Upd.refl F w).alloc o).drew.grown hg hr
theorem quiet_eq {P:Program} {f:FuncId} {args:Array Value} {w:World} {n:Nat} {v:Value}
  (h:Calls P f args (w.drewN n) fun e w'=>e=.returned v∧w.drewN n=w'):Calls P f args (w.drewN n) fun e w''=>e=.returned v∧∃m,w''=w.drewN m:=
 h.mono fun _ _ ⟨he,hm⟩=>⟨he,n,hm.symm⟩
theorem quiet_drew {P:Program} {f:FuncId} {args:Array Value} {w:World} {n:Nat} {v:Value}
  (h:Calls P f args (w.drewN n) fun e w'=>e=.returned v∧∃m,w'=(w.drewN n).drewN m):Calls P f args (w.drewN n) fun e w''=>e=.returned v∧∃m,w''=w.drewN m:=
 h.mono fun _ _ ⟨he,m,hm⟩=>⟨he,n+m,by rw [hm,World.drewN_drewN]⟩
theorem wp_append_run {P:Program} {o:Oper} {a:Act} {w w':World} {K:Act→World→Prop} {Q:Exit→Act→World→Prop} (s x:Operand) (t:TypeId)
  (ho:o.op=.call { callee:=.builtin .append,args:=#[s,x],argTypes:=#[t,t] }) {vs vx v':Value} (hs:a.eval s=vs) (hx:a.eval x=vx)
  (hr:(Builtin.append_ #[t,t] o.type #[vs,vx]).run P w=.ok v' w') (h:K (a.put o.dst v') w'):o.wp P a w K Q:=by
 unfold Oper.wp execOp;simp only [ho,resolve,invoke,builtin,Sem.run_bind,Sem.run_pure,Result.andThen_ok,List.map_toArray,List.map_cons,List.map_nil,hs,hx,hr];exact h
theorem wpList_append_run {P:Program} {ops:Array Oper} {rest:List Oper} {o:Oper} {a:Act} {w w':World} {Q:Exit→Act→World→Prop} (hgd:o.guard=none) (s x:Operand) (t:TypeId)
  (ho:o.op=.call { callee:=.builtin .append,args:=#[s,x],argTypes:=#[t,t] }) {vs vx v':Value} (hs:a.eval s=vs) (hx:a.eval x=vx)
  (hr:(Builtin.append_ #[t,t] o.type #[vs,vx]).run P w=.ok v' w') (h:wpList P ops Q rest (a.put o.dst v') w'):wpList P ops Q (o :: rest) a w:=
 wpList_plain hgd fun _ hK=>wp_append_run s x t ho hs hx hr (hK _ _ h)
theorem append_copy {P:Program} (w:World) (t ty e:TypeId) (i:TypeInfo) (z:Value) (size bytes:Nat) (ht:P.underlying t=some (.slice e)) (hi:P.info? e=some i) (hz:i.zero=some z)
  (hsize:i.size=size) (hby:i.bytes=bytes) (hzs:z.cells.size=size) (hsz:0<size) {base:Nat} {src:Value} {n:Nat} {xs:List Value} (hown:w.ownsRow base e size src n xs)
  (h1:∀u∈xs,u.oneCell'=true) (h63:n≤maxLen) (hbytes:n*bytes≤140737488355328) :
  ∃v' w',(Builtin.append_ #[t,t] ty #[.slice none 0 0,src]).run P w=.ok v' w'∧w'.ownsRow w.heap.size e size v' n xs∧w.grownBy w' none:=by
 rcases hown.2 with ⟨rfl,rfl⟩ | ⟨g,cap,cur,rfl,_,hg,_⟩
 ·have hx:xs=[]:=List.eq_nil_of_length_eq_zero (by simpa using hown.1);subst hx;exact ⟨_,_,run_append_owned_none (P:=P) w w.heap.size t ty e i size ht hi (.slice none 0 0) 0 [] (World.ownsRow_nil _ _ _ _),World.ownsRow_nil _ _ _ _,⟨rfl,rfl,rfl,Nat.le_refl _,fun _ _ _=>rfl⟩⟩
 ·obtain ⟨v',w',hr,h2,h3,_⟩:=run_append_own (P:=P) w w.heap.size t ty e i z size bytes ht hi hz hsize hby hzs hsz (.slice none 0 0) 0 [] (World.ownsRow_nil _ _ _ _) ⟨g,0,none⟩ n cap xs hown.1 (hown.cells (g:=g) rfl) h1
   (by simpa using h63) (by simpa using hbytes) (Nat.le_refl _)
  exact ⟨v',w',hr,by simpa using h2,h3⟩
theorem append_one {P:Program} (w:World) (t ty e:TypeId) (i:TypeInfo) (z:Value) (size bytes:Nat) (ht:P.underlying t=some (.slice e)) (hi:P.info? e=some i) (hz:i.zero=some z)
  (hsize:i.size=size) (hby:i.bytes=bytes) (hzs:z.cells.size=size) (hsz:0<size) {base:Nat} {v:Value} {n:Nat} {xs:List Value} (hown:w.ownsRow base e size v n xs) (hbase:base≤w.heap.size)
  (news:List Value) (hl:news.length=size) (h1:∀u∈news,u.oneCell'=true) (h63:n+1≤maxLen) (hbytes:(n+1)*bytes≤140737488355328) :
  ∃g cap w',(Builtin.append_ #[t,t] ty #[v,.slice (some ⟨w.heap.size,0,none⟩) 1 1]).run P (w.alloc (.cells news.toArray e))=.ok (.slice (some ⟨g,0,none⟩) (n+1) cap) w' ∧
   w'.ownsRow base e size (.slice (some ⟨g,0,none⟩) (n+1) cap) (n+1) (xs++news)∧(w.alloc (.cells news.toArray e)).grownBy w' v.ownBlock∧(v.ownBlock=some g∨g=w.heap.size+1)∧g<w'.heap.size:=
 run_append_lies (P:=P) (w.alloc (.cells news.toArray e)) t ty base e i z size bytes ht hi hz hsize hby hzs hsz v n xs (hown.alloc _) ⟨w.heap.size,0,none⟩ 1 1 news (by simpa using hl)
  (by have h:=World.news_of_block (cs:=news.toArray) (t:=e) (fr:=(0,0)) (heap_alloc_new w (.cells news.toArray e));simpa using h) h1 (by omega) h63 hbytes (by simp;omega) (w.heap.size+1) (by simp)
theorem wrap_u32 {n:Int} (h0:0≤n) (h1:n≤4294967295):IntKind.u32.wrap n=n:=by
 have:IntKind.u32.wrap n=n % 4294967296:=by simp [IntKind.wrap_u32]
 omega
theorem wrap_u8 {n:Int} (h0:0≤n) (h1:n≤255):IntKind.u8.wrap n=n:=by
 have:IntKind.u8.wrap n=n % 256:=by simp [IntKind.wrap_u8]
 omega
end Go.Proofs.YtcikldoaidmnhaaGreatDoor
namespace Go.Proofs.YtcikldoaidmnhaaGreatDoor
namespace Pc
structure M where
 p:Nat→Nat
 size:Nat
def M.init:M:=⟨fun _=>1024,4294967295⟩
def ctx (c:Int):Nat:=(c % 4096).toNat
theorem ctx_lt (c:Int):ctx c<4096:=by unfold ctx;omega
theorem ctx_cast (c:Int):((ctx c:Nat):Int)=c % 4096:=by unfold ctx;omega
structure M.Wf (m:M):Prop where
 lo:16777216≤m.size
 hi:m.size≤4294967295
 pl:∀i,i<4096→31≤m.p i
 ph:∀i,i<4096→m.p i≤2017
def upd (p:Nat→Nat) (i v:Nat):Nat→Nat:=fun j=>if j=i then v else p j
def M.split (m:M) (i:Nat):Nat:=m.size / 2048*m.p i
def M.newp (m:M) (i:Nat) (one:Bool):Nat:=if one then m.p i-m.p i / 32 else m.p i+(2048-m.p i) / 32
def M.raw (m:M) (i:Nat) (one:Bool):Nat:=if one then m.size-m.split i else m.split i
def norm (s:Nat):Nat:=if s<16777216 then s*256 else s
def M.shifts (m:M) (i:Nat) (one:Bool):Bool:=decide (m.raw i one<16777216)
def M.step (m:M) (i:Nat) (one:Bool):M:=⟨upd m.p i (m.newp i one),norm (m.raw i one)⟩
theorem M.split_bd {m:M} (h:m.Wf) {i:Nat} (hi:i<4096):253952≤m.split i∧m.split i+253952≤m.size:=by
 have h1:=h.lo;have h2:=h.hi;have h3:=h.pl i hi;have h4:=h.ph i hi;unfold M.split;have ha:8192≤m.size / 2048:=by omega
 have hb:m.size / 2048*2048≤m.size:=Nat.div_mul_le_self _ _;generalize m.size / 2048=q at *;generalize m.p i=p at *;constructor
 ·have:=Nat.mul_le_mul ha h3;omega
 ·have h5:q*p≤q*2017:=Nat.mul_le_mul_left q h4;omega
theorem M.raw_bd {m:M} (h:m.Wf) {i:Nat} (hi:i<4096) (one:Bool):253952≤m.raw i one∧m.raw i one≤4294967295:=by
 have h1:=M.split_bd h hi;have h2:=h.hi;unfold M.raw;cases one
 ·simp only [Bool.false_eq_true,if_false];omega
 ·simp only [if_true];omega
theorem M.newp_bd {m:M} (h:m.Wf) {i:Nat} (hi:i<4096) (one:Bool):31≤m.newp i one∧m.newp i one≤2017:=by
 have h1:=h.pl i hi;have h2:=h.ph i hi;unfold M.newp;cases one
 ·simp only [Bool.false_eq_true,if_false];omega
 ·simp only [if_true];omega
theorem norm_bd {s:Nat} (h0:253952≤s) (h1:s≤4294967295):16777216≤norm s∧norm s≤4294967295:=by
 unfold norm;split<;>omega
theorem M.step_wf {m:M} (h:m.Wf) {i:Nat} (hi:i<4096) (one:Bool):(m.step i one).Wf:=by
 have hr:=M.raw_bd h hi one;have hn:=norm_bd hr.1 hr.2;have hp:=M.newp_bd h hi one;refine ⟨hn.1,hn.2,fun j hj=>?_,fun j hj=>?_⟩
 ·show 31≤upd _ _ _ j;unfold upd;split
  ·exact hp.1
  ·exact h.pl j hj
 ·show upd _ _ _ j≤2017;unfold upd;split
  ·exact hp.2
  ·exact h.ph j hj
theorem M.init_wf:M.init.Wf:=by
 refine ⟨?_,?_,fun i _=>?_,fun i _=>?_⟩
 ·show 16777216≤4294967295;omega
 ·show 4294967295≤4294967295;omega
 ·show 31≤1024;omega
 ·show 1024≤2017;omega
def carryR:List Nat→List Nat
 | []=>[]
 | d :: r=>if d=255 then 0 :: carryR r else (d+1) :: r
def carry (l:List Nat):List Nat:=(carryR l.reverse).reverse
theorem carry_snoc_255 (l:List Nat):carry (l++[255])=carry l++[0]:=by
 simp [carry,carryR]
theorem carry_snoc_ne (l:List Nat) {d:Nat} (h:d≠255):carry (l++[d])=l++[d+1]:=by
 simp [carry,carryR,h]
theorem take_snoc {α:Type} {l:List α} {j:Nat} (h:j<l.length):l.take (j+1)=l.take j++[l[j]]:=by
 rw [List.take_succ_eq_append_getElem h]
structure E where
 m:M
 done:List Nat
 low:Nat
def E.init:E:=⟨M.init,[],0⟩
def E.low1 (e:E) (i:Nat) (one:Bool):Nat:=if one then (e.low+e.m.split i) % 4294967296 else e.low
def E.done1 (e:E) (i:Nat) (one:Bool):List Nat:=if one&&decide (4294967296≤e.low+e.m.split i) then carry e.done else e.done
def E.bit (e:E) (c:Int) (one:Bool):E:=
 let i:=ctx c
 if e.m.shifts i one then ⟨e.m.step i one,e.done1 i one++[e.low1 i one / 16777216],e.low1 i one % 16777216*256⟩
 else ⟨e.m.step i one,e.done1 i one,e.low1 i one⟩
structure E.Wf (e:E):Prop where
 m:e.m.Wf
 low:e.low<4294967296
 done:∀d,d∈e.done→d<256
def trimR:List Nat→List Nat
 | []=>[]
 | d :: r=>if d=0 then trimR r else d :: r
def trim (l:List Nat):List Nat:=(trimR l.reverse).reverse
def E.last (e:E):Nat:=(e.low+16777215) / 16777216
def E.finish (e:E):List Nat:=
 trim (if e.last=256 then carry e.done++[0] else e.done++[e.last])
theorem carryR_lt {l:List Nat} (h:∀d,d∈l→d<256):∀d,d∈carryR l→d<256:=by
 induction l with
 | nil=>intro d hd;simp [carryR] at hd
 | cons a r ih=>
  intro d hd;have ha:=h a (by simp);unfold carryR at hd;split at hd
  ·rcases List.mem_cons.1 hd with rfl | hd
   ·omega
   ·exact ih (fun d hd=>h d (by simp [hd])) d hd
  ·rename_i hne
   rcases List.mem_cons.1 hd with rfl | hd
   ·omega
   ·exact h d (by simp [hd])
theorem carryR_length (l:List Nat):(carryR l).length=l.length:=by
 induction l with
 | nil=>rfl
 | cons a r ih=>unfold carryR;split<;>simp [ih]
theorem carry_lt {l:List Nat} (h:∀d,d∈l→d<256):∀d,d∈carry l→d<256:=by
 intro d hd;unfold carry at hd;exact carryR_lt (l:=l.reverse) (fun d hd=>h d (by simpa using hd)) d (by simpa using hd)
theorem carry_length (l:List Nat):(carry l).length=l.length:=by
 simp [carry,carryR_length]
theorem E.init_wf:E.init.Wf:=⟨M.init_wf,by show 0<4294967296;omega,fun d hd=>by simp [E.init] at hd⟩
theorem E.low1_lt {e:E} (h:e.Wf) (i:Nat) (one:Bool):e.low1 i one<4294967296:=by
 have:=h.low;unfold E.low1;split<;>omega
theorem E.done1_lt {e:E} (h:e.Wf) (i:Nat) (one:Bool):∀d,d∈e.done1 i one→d<256:=by
 unfold E.done1;split
 ·exact carry_lt h.done
 ·exact h.done
theorem E.done1_length (e:E) (i:Nat) (one:Bool):(e.done1 i one).length=e.done.length:=by
 unfold E.done1;split
 ·exact carry_length _
 ·rfl
theorem E.bit_wf {e:E} (h:e.Wf) (c:Int) (one:Bool):(e.bit c one).Wf:=by
 have h1:=E.low1_lt h (ctx c) one;have h2:=E.done1_lt h (ctx c) one;have h3:=M.step_wf h.m (ctx_lt c) one;unfold E.bit;dsimp only
 split
 ·refine ⟨h3,?_,fun d hd=>?_⟩
  ·show _ % 16777216*256<4294967296;omega
  ·simp only [List.mem_append,List.mem_singleton] at hd;rcases hd with hd | rfl
   ·exact h2 d hd
   ·omega
 ·exact ⟨h3,h1,h2⟩
theorem E.bit_m (e:E) (c:Int) (one:Bool):(e.bit c one).m=e.m.step (ctx c) one:=by
 unfold E.bit;dsimp only;split<;>rfl
theorem E.bit_done_length (e:E) (c:Int) (one:Bool):(e.bit c one).done.length≤e.done.length+1:=by
 unfold E.bit;dsimp only
 split
 ·show (e.done1 _ _++[_]).length≤_;rw [List.length_append,E.done1_length];simp
 ·show (e.done1 _ _).length≤_;rw [E.done1_length];omega
def encFrom (e:E) (l:List (Int × Bool)):E:=l.foldl (fun e x=>e.bit x.1 x.2) e
theorem encFrom_done_length (e:E) (l:List (Int × Bool)):(encFrom e l).done.length≤e.done.length+l.length:=by
 induction l generalizing e with
 | nil=>simp [encFrom]
 | cons a l ih=>
  have h1:=ih (e.bit a.1 a.2);have h2:=E.bit_done_length e a.1 a.2;show (encFrom (e.bit a.1 a.2) l).done.length≤_;simp only [List.length_cons];omega
theorem encFrom_snoc (e:E) (l:List (Int × Bool)) (x:Int × Bool):encFrom e (l++[x])=(encFrom e l).bit x.1 x.2:=by
 simp [encFrom,List.foldl_append]
structure D where
 m:M
 left:List Nat
 off:Nat
def D.next (d:D):D:=
 match d.left with
 | []=>⟨d.m,[],d.off*256 % 4294967296⟩
 | b :: r=>⟨d.m,r,(d.off*256+b) % 4294967296⟩
def D.ofCode (l:List Nat):D:=(D.next (D.next (D.next (D.next ⟨M.init,l,0⟩))))
def D.one (d:D) (c:Int):Bool:=decide (d.m.split (ctx c)≤d.off)
def D.off1 (d:D) (c:Int):Nat:=if d.one c then d.off-d.m.split (ctx c) else d.off
def D.bit (d:D) (c:Int):D:=
 let d1:D:=⟨d.m.step (ctx c) (d.one c),d.left,d.off1 c⟩
 if d.m.shifts (ctx c) (d.one c) then d1.next else d1
structure D.Wf (d:D):Prop where
 m:d.m.Wf
 off:d.off<4294967296
 left:∀b,b∈d.left→b<256
theorem D.next_wf {d:D} (h:d.Wf):d.next.Wf:=by
 unfold D.next;split
 ·exact ⟨h.m,Nat.mod_lt _ (by omega),fun b hb=>by simp at hb⟩
 ·rename_i b r hl
  exact ⟨h.m,Nat.mod_lt _ (by omega),fun x hx=>h.left x (by rw [hl];simp [hx])⟩
theorem D.ofCode_wf {l:List Nat} (h:∀b,b∈l→b<256):(D.ofCode l).Wf:=
 D.next_wf (D.next_wf (D.next_wf (D.next_wf ⟨M.init_wf,by show 0<4294967296;omega,h⟩)))
theorem D.off1_lt {d:D} (h:d.Wf) (c:Int):d.off1 c<4294967296:=by
 have:=h.off;unfold D.off1;split<;>omega
theorem D.bit_wf {d:D} (h:d.Wf) (c:Int):(d.bit c).Wf:=by
 have h1:=D.off1_lt h c;have h3:=M.step_wf h.m (ctx_lt c) (d.one c);unfold D.bit;dsimp only
 split
 ·exact D.next_wf ⟨h3,h1,h.left⟩
 ·exact ⟨h3,h1,h.left⟩
def encode (l:List (Int × Bool)):List Nat:=(encFrom E.init l).finish
def decodeFrom (d:D):List Int→List Bool
 | []=>[]
 | c :: r=>d.one c :: decodeFrom (d.bit c) r
def decode (s:List Nat) (l:List Int):List Bool:=decodeFrom (D.ofCode s) l
end Pc
end Go.Proofs.YtcikldoaidmnhaaGreatDoor
namespace Go.Proofs.YtcikldoaidmnhaaGreatDoor
open Go Go.RowKit
def byteV (d:Nat):Value:=.int .u8 d
def str (l:List Nat):ByteArray:=⟨(l.map UInt8.ofNat).toArray⟩
theorem str_size (l:List Nat):(str l).size=l.length:=by simp [str,ByteArray.size]
theorem str_toList (l:List Nat):(str l).toList=l.map UInt8.ofNat:=ByteArray.toList_mk _
theorem str_extract (l:List Nat) (a b:Nat):(str l).extract a b=str ((l.drop a).take (b-a)):=by
 unfold str;rw [ByteArray.extract_mk,List.map_take,List.map_drop]
theorem str_get {l:List Nat} {i:Nat} (h:i<l.length) (hb:∀d,d∈l→d<256) (h':i<(str l).size):((str l)[i]'h').toNat=l[i]:=by
 have e:(str l)[i]'h'=UInt8.ofNat l[i]:=by
  show (str l).data[i]'_=_;simp [str]
 rw [e];have:=hb l[i] (List.getElem_mem h);simp;omega
theorem ofNat_inj {a b:Nat} (ha:a<256) (hb:b<256) (h:UInt8.ofNat a=UInt8.ofNat b):a=b:=by
 have:=congrArg UInt8.toNat h;simp at this;omega
theorem map_ofNat_inj:∀{a b:List Nat},(∀d,d∈a→d<256)→(∀d,d∈b→d<256)→a.map UInt8.ofNat=b.map UInt8.ofNat→a=b
 | [],[],_,_,_=>rfl
 | [],_ :: _,_,_,h=>by simp at h
 | _ :: _,[],_,_,h=>by simp at h
 | x :: a,y :: b,ha,hb,h=>by
  simp only [List.map_cons,List.cons.injEq] at h;rw [ofNat_inj (ha x (by simp)) (hb y (by simp)) h.1,map_ofNat_inj (fun d hd=>ha d (by simp [hd])) (fun d hd=>hb d (by simp [hd])) h.2]
theorem strOfNums_cast (l:List Nat):strOfNums (l.map fun (d:Nat)=>(d:Int))=str l:=by
 simp [strOfNums,str,Function.comp_def]
theorem conv_own {P:Program} {w:World} {base:Nat} {src e dst:TypeId} {v:Value} {l:List Nat} (hs:P.underlying src=some (.slice e)) (he:P.underlying e=some (.int .u8)) (hd:P.underlying dst=some .string)
  (hown:w.ownsRow base e 1 v l.length (l.map byteV)):(convert src dst v).run P w=.ok (.string (str l)) w:=by
 rcases hown.2 with ⟨rfl,h0⟩ | ⟨g,cap,cur,rfl,_,hg,_,_,hsz,htake⟩
 ·rw [run_convert_bytes_nil w src e hs he 0 0 dst hd,List.eq_nil_of_length_eq_zero h0];rfl
 ·rw [run_convert_bytes_arg w src e hs he g 0 l.length cap (l.map fun (d:Nat)=>(d:Int)) (by simp) (fun i hi=>?_) dst hd,strOfNums_cast];rw [Nat.zero_add,hown.cellAt i (by omega)];simp [byteV,hi]
def lenOfV:Value→Nat | .string s=>s.size | _=>0
end Go.Proofs.YtcikldoaidmnhaaGreatDoor
