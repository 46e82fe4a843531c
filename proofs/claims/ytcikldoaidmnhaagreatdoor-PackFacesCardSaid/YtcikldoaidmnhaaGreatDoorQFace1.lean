/- Parts: General lemmas: a relation between worlds in which only named blocks may have turned, and blocks known whole. No condition. The adaptive range coder as plain functions on numbers and lists. No condition. The decoder undoes the encoder. No condition. What a reading of an argument tells (packets): a number below 2^32. No condition. What a reading of an argument tells (packets); and a world for the w -/
import Derived.WalkKit
import Derived.WalkSpells
import Derived.WalkLawsBesides
import Derived.Lib.Hide
import Derived.BigQuiet
import Derived.Deep.DeepFit
import Derived.Deep.DeepCutAuto
import Derived.Deep.AppendLies
import Derived.Deep.QuietTactic
import Derived.ProofKit
import Derived.OpenShut
import Derived.ChangeOld
import Derived.Deep.SlicePairs
import Derived.Deep.Grids
import Derived.WideKeyPair
import Derived.Test.YtcikldoaidmnhaaGreatDoorCards
import Derived.Test.YtcikldoaidmnhaaGreatDoorTie
import Derived.ShutString
import Derived.Below
import Derived.Carry
import Derived.Laws.IdiomArrays
import Derived.Deep.DeepHandedRow
import Derived.Deep.DeepWitnessRowRef
import Derived.Lib.LaidTab
namespace Go.Proofs.YtcikldoaidmnhaaGreatDoor
open Go Go.RowKit
structure Upd (F:Nat→Prop) (w w':World):Prop where
 os:w'.os=w.os
 tape:w'.tape=w.tape
 output:w'.output=w.output
 size:w.heap.size≤w'.heap.size
 block:∀k,k<w.heap.size→¬F k→w'.heap[k]?=w.heap[k]?
def noBlk:Nat→Prop:=fun _=>False
theorem Upd.refl (F:Nat→Prop) (w:World):Upd F w w:=⟨rfl,rfl,rfl,Nat.le_refl _,fun _ _ _=>rfl⟩
theorem Upd.trans {F:Nat→Prop} {a b c:World} (h:Upd F a b) (k:Upd F b c):Upd F a c:=
 ⟨k.os.trans h.os,k.tape.trans h.tape,k.output.trans h.output,Nat.le_trans h.size k.size,
 fun i hi hf=>(k.block i (Nat.lt_of_lt_of_le hi h.size) hf).trans (h.block i hi hf)⟩
theorem Upd.then {F G:Nat→Prop} {a b c:World} (h:Upd F a b) (k:Upd G b c) (hg:∀i,i<a.heap.size→G i→F i):Upd F a c:=
 ⟨k.os.trans h.os,k.tape.trans h.tape,k.output.trans h.output,Nat.le_trans h.size k.size,
 fun i hi hf=>(k.block i (Nat.lt_of_lt_of_le hi h.size) (fun g=>hf (hg i hi g))).trans (h.block i hi hf)⟩
theorem Upd.mono {F G:Nat→Prop} {w w':World} (h:Upd F w w') (hg:∀i,i<w.heap.size→F i→G i):Upd G w w':=
 ⟨h.os,h.tape,h.output,h.size,fun k hk hG=>h.block k hk (fun f=>hG (hg k hk f))⟩
theorem Upd.drew {F:Nat→Prop} {a w:World} (h:Upd F a w):Upd F a w.drew:=⟨h.os,h.tape,h.output,h.size,h.block⟩
theorem Upd.alloc {F:Nat→Prop} {a w:World} (h:Upd F a w) (o:Obj):Upd F a (w.alloc o):=
 h.trans ⟨rfl,rfl,rfl,by simp,fun k hk _=>_root_.Go.heap_alloc_old w o hk⟩
theorem Upd.setCell {F:Nat→Prop} {a w:World} (h:Upd F a w) {p:Addr} (hp:p.block<a.heap.size→F p.block) (u:Value):Upd F a (w.setCell p u):=
 ⟨h.os,h.tape,h.output,by simpa using h.size,fun k hk hf=>by
  rw [heap_setCell_other w p k u (fun e=>hf (by subst e;exact hp hk))];exact h.block k hk hf⟩
theorem Upd.grown {F:Nat→Prop} {a w w':World} {row:Option Nat} (h:Upd F a w) (hg:w.grownBy w' row) (hr:∀k,row=some k→k<a.heap.size→F k):Upd F a w':=
 ⟨hg.os.trans h.os,hg.tape.trans h.tape,hg.output.trans h.output,Nat.le_trans h.size hg.size,fun k hk hf=>
  (hg.block k (Nat.lt_of_lt_of_le hk h.size) (fun e=>hf (hr k e.symm hk))).trans (h.block k hk hf)⟩
theorem Upd.below {w w':World} (h:Upd noBlk w w'):Below w.heap.size w w':=
 ⟨h.os,h.tape,h.output,h.size,fun k hk=>h.block k hk id⟩
theorem Upd.ofDrewN {F:Nat→Prop} (w:World) (n:Nat):Upd F w (w.drewN n):=
 ⟨rfl,rfl,rfl,Nat.le_refl _,fun _ _ _=>rfl⟩
theorem Upd.drewN {F:Nat→Prop} {a w:World} (h:Upd F a w) (n:Nat):Upd F a (w.drewN n):=h.trans (Upd.ofDrewN w n)
theorem lt_of_heap {w:World} {b:Nat} {o:Obj} (h:w.heap[b]?=some o):b<w.heap.size:=(Array.getElem?_eq_some_iff.1 h).1
theorem Upd.heap {F:Nat→Prop} {w w':World} {b:Nat} {o:Obj} (h:Upd F w w') (hb:w.heap[b]?=some o) (hf:¬F b):w'.heap[b]?=some o:=
 (h.block b (lt_of_heap hb) hf).trans hb
theorem Upd.cell {F:Nat→Prop} {w w':World} {a:Addr} {v:Value} (h:Upd F w w') (hv:w.cell? a=some v) (hf:¬F a.block):w'.cell? a=some v:=
 (World.cell?_of_block (h.block a.block (World.block_lt_of_cell? w a hv) hf)).trans hv
theorem heap_setCell_eq {w:World} {g i:Nat} {cs:Array Value} {t:TypeId} (v:Value) (hg:w.heap[g]?=some (.cells cs t (0,0))) :
  (w.setCell ⟨g,i,none⟩ v).heap[g]?=some (.cells (cs.setIfInBounds i v) t (0,0)):=heap_setCell_same w g i cs t v hg
theorem heap_setCell_ne {w:World} {g k i:Nat} {o:Obj} (v:Value) (hk:w.heap[k]?=some o) (h:k≠g):(w.setCell ⟨g,i,none⟩ v).heap[k]?=some o:=
 (heap_setCell_other w ⟨g,i,none⟩ k v h).trans hk
theorem heap_alloc_keep {w:World} {k:Nat} {o:Obj} (o':Obj) (hk:w.heap[k]?=some o):(w.alloc o').heap[k]?=some o:=
 (_root_.Go.heap_alloc_old w o' (lt_of_heap hk)).trans hk
theorem cell_alloc_keep {w:World} {a:Addr} {v:Value} (o:Obj) (h:w.cell? a=some v):(w.alloc o).cell? a=some v:=
 (World.cell?_alloc_lt w o a (World.block_lt_of_cell? w a h)).trans h
theorem frozen_alloc_keep {w:World} {a:Addr} (o:Obj) (ha:a.block<w.heap.size) (h:w.frozen? a=false):(w.alloc o).frozen? a=false:=
 (World.frozen?_alloc_old w o a (Nat.ne_of_lt ha)).trans h
theorem grown_cell {w w1:World} {o:Obj} {row:Option Nat} (hg:(w.alloc o).drew.grownBy w1 row) {a:Addr} {v:Value} (h:w.cell? a=some v) (hne:row≠some a.block):w1.cell? a=some v:=
 hg.cell (cell_alloc_keep o h) (Ne.symm hne)
theorem grown_free {w w1:World} {o:Obj} {row:Option Nat} (hg:(w.alloc o).drew.grownBy w1 row) {a:Addr} (ha:a.block<w.heap.size) (h:w.frozen? a=false) (hne:row≠some a.block):w1.frozen? a=false:=
 (World.frozen?_of_block (hg.block a.block (by simp;omega) (Ne.symm hne))).trans (frozen_alloc_keep o ha h)
theorem grown_heap {w w1:World} {o o':Obj} {row:Option Nat} (hg:(w.alloc o).drew.grownBy w1 row) {k:Nat} (h:w.heap[k]?=some o') (hne:row≠some k):w1.heap[k]?=some o':=by
 have hk:=lt_of_heap h;exact (hg.block k (by simp;omega) (Ne.symm hne)).trans (heap_alloc_keep o h)
theorem upd_grown_new {F:Nat→Prop} {w w1:World} {o:Obj} {row:Option Nat} (hg:(w.alloc o).drew.grownBy w1 row) (hr:∀k,row=some k→k<w.heap.size→F k):Upd F w w1:=
 ((Upd.refl F w).alloc o).drew.grown hg hr
theorem quiet_eq {P:Program} {f:FuncId} {args:Array Value} {w:World} {n:Nat} {v:Value}
  (h:Calls P f args (w.drewN n) fun e w'=>e=.returned v∧w.drewN n=w'):Calls P f args (w.drewN n) fun e w''=>e=.returned v∧∃m,w''=w.drewN m:=
 h.mono fun _ _ ⟨he,hm⟩=>⟨he,n,hm.symm⟩
theorem quiet_drew {P:Program} {f:FuncId} {args:Array Value} {w:World} {n:Nat} {v:Value}
  (h:Calls P f args (w.drewN n) fun e w'=>e=.returned v∧∃m,w'=(w.drewN n).drewN m):Calls P f args (w.drewN n) fun e w''=>e=.returned v∧∃m,w''=w.drewN m:=
 h.mono fun _ _ ⟨he,m,hm⟩=>⟨he,n+m,by rw [hm,World.drewN_drewN]⟩
theorem wp_append_run {P:Program} {o:Oper} {a:Act} {w w':World} {K:Act→World→Prop} {Q:Exit→Act→World→Prop} (s x:Operand) (t:TypeId)
  (ho:o.op=.call { callee:=.builtin .append,args:=#[s,x],argTypes:=#[t,t] }) {vs vx v':Value} (hs:a.eval s=vs) (hx:a.eval x=vx)
  (hr:(Builtin.append_ #[t,t] o.type #[vs,vx]).run P w=.ok v' w') (h:K (a.put o.dst v') w'):o.wp P a w K Q:=by
 unfold Oper.wp execOp;simp only [ho,resolve,invoke,builtin,Sem.run_bind,Sem.run_pure,Result.andThen_ok,List.map_toArray,List.map_cons,List.map_nil,hs,hx,hr];exact h
theorem wpList_append_run {P:Program} {ops:Array Oper} {rest:List Oper} {o:Oper} {a:Act} {w w':World} {Q:Exit→Act→World→Prop} (hgd:o.guard=none) (s x:Operand) (t:TypeId)
  (ho:o.op=.call { callee:=.builtin .append,args:=#[s,x],argTypes:=#[t,t] }) {vs vx v':Value} (hs:a.eval s=vs) (hx:a.eval x=vx)
  (hr:(Builtin.append_ #[t,t] o.type #[vs,vx]).run P w=.ok v' w') (h:wpList P ops Q rest (a.put o.dst v') w'):wpList P ops Q (o :: rest) a w:=
 wpList_plain hgd fun _ hK=>wp_append_run s x t ho hs hx hr (hK _ _ h)
theorem append_copy {P:Program} (w:World) (t ty e:TypeId) (i:TypeInfo) (z:Value) (size bytes:Nat) (ht:P.underlying t=some (.slice e)) (hi:P.info? e=some i) (hz:i.zero=some z)
  (hsize:i.size=size) (hby:i.bytes=bytes) (hzs:z.cells.size=size) (hsz:0<size) {base:Nat} {src:Value} {n:Nat} {xs:List Value} (hown:w.ownsRow base e size src n xs)
  (h1:∀u∈xs,u.oneCell'=true) (h63:n≤maxLen) (hbytes:n*bytes≤140737488355328) :
  ∃v' w',(Builtin.append_ #[t,t] ty #[.slice none 0 0,src]).run P w=.ok v' w'∧w'.ownsRow w.heap.size e size v' n xs∧w.grownBy w' none:=by
 rcases hown.2 with ⟨rfl,rfl⟩ | ⟨g,cap,cur,rfl,_,hg,_⟩
 ·have hx:xs=[]:=List.eq_nil_of_length_eq_zero (by simpa using hown.1);subst hx;exact ⟨_,_,run_append_owned_none (P:=P) w w.heap.size t ty e i size ht hi (.slice none 0 0) 0 [] (World.ownsRow_nil _ _ _ _),World.ownsRow_nil _ _ _ _,⟨rfl,rfl,rfl,Nat.le_refl _,fun _ _ _=>rfl⟩⟩
 ·obtain ⟨v',w',hr,h2,h3,_⟩:=run_append_own (P:=P) w w.heap.size t ty e i z size bytes ht hi hz hsize hby hzs hsz (.slice none 0 0) 0 [] (World.ownsRow_nil _ _ _ _) ⟨g,0,none⟩ n cap xs hown.1 (hown.cells (g:=g) rfl) h1
   (by simpa using h63) (by simpa using hbytes) (Nat.le_refl _)
  exact ⟨v',w',hr,by simpa using h2,h3⟩
theorem append_one {P:Program} (w:World) (t ty e:TypeId) (i:TypeInfo) (z:Value) (size bytes:Nat) (ht:P.underlying t=some (.slice e)) (hi:P.info? e=some i) (hz:i.zero=some z)
  (hsize:i.size=size) (hby:i.bytes=bytes) (hzs:z.cells.size=size) (hsz:0<size) {base:Nat} {v:Value} {n:Nat} {xs:List Value} (hown:w.ownsRow base e size v n xs) (hbase:base≤w.heap.size)
  (news:List Value) (hl:news.length=size) (h1:∀u∈news,u.oneCell'=true) (h63:n+1≤maxLen) (hbytes:(n+1)*bytes≤140737488355328) :
  ∃g cap w',(Builtin.append_ #[t,t] ty #[v,.slice (some ⟨w.heap.size,0,none⟩) 1 1]).run P (w.alloc (.cells news.toArray e))=.ok (.slice (some ⟨g,0,none⟩) (n+1) cap) w' ∧
   w'.ownsRow base e size (.slice (some ⟨g,0,none⟩) (n+1) cap) (n+1) (xs++news)∧(w.alloc (.cells news.toArray e)).grownBy w' v.ownBlock∧(v.ownBlock=some g∨g=w.heap.size+1)∧g<w'.heap.size:=
 run_append_lies (P:=P) (w.alloc (.cells news.toArray e)) t ty base e i z size bytes ht hi hz hsize hby hzs hsz v n xs (hown.alloc _) ⟨w.heap.size,0,none⟩ 1 1 news (by simpa using hl)
  (by have h:=World.news_of_block (cs:=news.toArray) (t:=e) (fr:=(0,0)) (heap_alloc_new w (.cells news.toArray e));simpa using h) h1 (by omega) h63 hbytes (by simp;omega) (w.heap.size+1) (by simp)
theorem wrap_u32 {n:Int} (h0:0≤n) (h1:n≤4294967295):IntKind.u32.wrap n=n:=by
 have:IntKind.u32.wrap n=n % 4294967296:=by simp [IntKind.wrap_u32]
 omega
theorem wrap_u8 {n:Int} (h0:0≤n) (h1:n≤255):IntKind.u8.wrap n=n:=by
 have:IntKind.u8.wrap n=n % 256:=by simp [IntKind.wrap_u8]
 omega
end Go.Proofs.YtcikldoaidmnhaaGreatDoor
namespace Go.Proofs.YtcikldoaidmnhaaGreatDoor
open Go Go.RowKit Go.ChangeShapes Go.WideShapes Go.ChangeAt
def RdL {α:Type} (size:Nat) (R:List Value→α→Prop) (w:World) (A:Option Addr) (l:List α):Prop:=
 0<l.length→∃b off,A=some ⟨b,off,none⟩∧∀j (h:j<l.length),∃cs,cs.length=size∧R cs l[j]∧∀i u,cs[i]?=some u→w.cell? ⟨b,off+j*size+i,none⟩=some u
theorem RdL.keep {α:Type} {size:Nat} {R:List Value→α→Prop} {w w':World} {A:Option Addr} {l:List α} (h:RdL size R w A l) (hu:Upd noBlk w w'):RdL size R w' A l:=by
 intro h0;obtain ⟨b,off,e,h1⟩:=h h0;refine ⟨b,off,e,fun j hj=>?_⟩;obtain ⟨cs,h2,h3,h4⟩:=h1 j hj;exact ⟨cs,h2,h3,fun i u hi=>hu.cell (h4 i u hi) id⟩
end Go.Proofs.YtcikldoaidmnhaaGreatDoor
namespace Go.Proofs.YtcikldoaidmnhaaGreatDoor
open Go Go.RowKit Go.ChangeShapes Go.WideShapes Go.ChangeAt
set_option maxRecDepth 100000
theorem own:ownKnob Tryz.prog.godebug=none:=by kernel_rfl
theorem laidOut:laidOutB Tryz.prog=true:=by kernel_rfl
theorem u8_of_reading {H:Type} {enc:TypeId × Value→H} {W:World} {d:DataW H} {p:List MemPlace} {v:Value}
  (hval:Value.okWide Tryz.prog W .any 0 5 v) (h:DataW.Trod enc Tryz.prog W 0 (fun _=>true) true 5 v d p):∃n,v=.int .u8 n∧(Lit.int .u8 n).wf=true:=by
 obtain ⟨s,rfl,_,_,hs⟩:=open_int Tryz.underlying5 hval h;exact ⟨s,rfl,hs⟩
def tabCells:DataW Unit→Array Value
 | .agg ds=>(ds.map fun | .lit (.int k n)=>Value.int k n | _=>.nilIface).toArray
 | _=>#[]
def tabPairs:DataW Unit→Array Value
 | .agg ds=>(ds.flatMap fun | .agg es=>es.map (fun | .lit (.int k n)=>Value.int k n | _=>.nilIface) | _=>[]).toArray
 | _=>#[]
def putAt (h:Array Obj) (g:Nat) (cs:Array Value):Array Obj:=h.modify g fun
 | .cells _ t frozen=>.cells cs t frozen
 | o=>o
noncomputable def laidWorld (os:Os):World:=
 { World.holding Tryz.prog os ⟨#[],#[],[]⟩ with
  heap:=putAt (putAt (World.holding Tryz.prog os ⟨#[],#[],[]⟩).heap
   0 (tabCells Go.Pinned.utf8First)) 1 (tabPairs (Rows.laid_unicode_utf8_acceptRanges (H:=Unit))) }
end Go.Proofs.YtcikldoaidmnhaaGreatDoor
namespace Go.Proofs.YtcikldoaidmnhaaGreatDoor
open Go Go.RowKit Go.ChangeShapes Go.WideShapes Go.ChangeAt
set_option maxRecDepth 100000
theorem u32_of_reading {H:Type} {enc:TypeId × Value→H} {W:World} {d:DataW H} {p:List MemPlace} {v:Value}
  (hval:Value.okWide Tryz.prog W .any 0 22 v) (h:DataW.Trod enc Tryz.prog W 0 (fun _=>true) true 22 v d p):∃n,v=.int .u32 n∧(Lit.int .u32 n).wf=true:=by
 obtain ⟨s,rfl,_,_,hs⟩:=open_int Tryz.underlying22 hval h;exact ⟨s,rfl,hs⟩
end Go.Proofs.YtcikldoaidmnhaaGreatDoor
namespace Go.Proofs.YtcikldoaidmnhaaGreatDoor
namespace Pc
structure M where
 p:Nat→Nat
 size:Nat
def M.init:M:=⟨fun _=>1024,4294967295⟩
def ctx (c:Int):Nat:=(c % 4096).toNat
theorem ctx_lt (c:Int):ctx c<4096:=by unfold ctx;omega
theorem ctx_cast (c:Int):((ctx c:Nat):Int)=c % 4096:=by unfold ctx;omega
structure M.Wf (m:M):Prop where
 lo:16777216≤m.size
 hi:m.size≤4294967295
 pl:∀i,i<4096→31≤m.p i
 ph:∀i,i<4096→m.p i≤2017
def upd (p:Nat→Nat) (i v:Nat):Nat→Nat:=fun j=>if j=i then v else p j
def M.split (m:M) (i:Nat):Nat:=m.size / 2048*m.p i
def M.newp (m:M) (i:Nat) (one:Bool):Nat:=if one then m.p i-m.p i / 32 else m.p i+(2048-m.p i) / 32
def M.raw (m:M) (i:Nat) (one:Bool):Nat:=if one then m.size-m.split i else m.split i
def norm (s:Nat):Nat:=if s<16777216 then s*256 else s
def M.shifts (m:M) (i:Nat) (one:Bool):Bool:=decide (m.raw i one<16777216)
def M.step (m:M) (i:Nat) (one:Bool):M:=⟨upd m.p i (m.newp i one),norm (m.raw i one)⟩
theorem M.split_bd {m:M} (h:m.Wf) {i:Nat} (hi:i<4096):253952≤m.split i∧m.split i+253952≤m.size:=by
 have h1:=h.lo;have h2:=h.hi;have h3:=h.pl i hi;have h4:=h.ph i hi;unfold M.split;have ha:8192≤m.size / 2048:=by omega
 have hb:m.size / 2048*2048≤m.size:=Nat.div_mul_le_self _ _;generalize m.size / 2048=q at *;generalize m.p i=p at *;constructor
 ·have:=Nat.mul_le_mul ha h3;omega
 ·have h5:q*p≤q*2017:=Nat.mul_le_mul_left q h4;omega
theorem M.raw_bd {m:M} (h:m.Wf) {i:Nat} (hi:i<4096) (one:Bool):253952≤m.raw i one∧m.raw i one≤4294967295:=by
 have h1:=M.split_bd h hi;have h2:=h.hi;unfold M.raw;cases one
 ·simp only [Bool.false_eq_true,if_false];omega
 ·simp only [if_true];omega
theorem M.newp_bd {m:M} (h:m.Wf) {i:Nat} (hi:i<4096) (one:Bool):31≤m.newp i one∧m.newp i one≤2017:=by
 have h1:=h.pl i hi;have h2:=h.ph i hi;unfold M.newp;cases one
 ·simp only [Bool.false_eq_true,if_false];omega
 ·simp only [if_true];omega
theorem norm_bd {s:Nat} (h0:253952≤s) (h1:s≤4294967295):16777216≤norm s∧norm s≤4294967295:=by
 unfold norm;split<;>omega
theorem M.step_wf {m:M} (h:m.Wf) {i:Nat} (hi:i<4096) (one:Bool):(m.step i one).Wf:=by
 have hr:=M.raw_bd h hi one;have hn:=norm_bd hr.1 hr.2;have hp:=M.newp_bd h hi one;refine ⟨hn.1,hn.2,fun j hj=>?_,fun j hj=>?_⟩
 ·show 31≤upd _ _ _ j;unfold upd;split
  ·exact hp.1
  ·exact h.pl j hj
 ·show upd _ _ _ j≤2017;unfold upd;split
  ·exact hp.2
  ·exact h.ph j hj
theorem M.init_wf:M.init.Wf:=by
 refine ⟨?_,?_,fun i _=>?_,fun i _=>?_⟩
 ·show 16777216≤4294967295;omega
 ·show 4294967295≤4294967295;omega
 ·show 31≤1024;omega
 ·show 1024≤2017;omega
def carryR:List Nat→List Nat
 | []=>[]
 | d :: r=>if d=255 then 0 :: carryR r else (d+1) :: r
def carry (l:List Nat):List Nat:=(carryR l.reverse).reverse
theorem carry_snoc_255 (l:List Nat):carry (l++[255])=carry l++[0]:=by
 simp [carry,carryR]
theorem carry_snoc_ne (l:List Nat) {d:Nat} (h:d≠255):carry (l++[d])=l++[d+1]:=by
 simp [carry,carryR,h]
theorem take_snoc {α:Type} {l:List α} {j:Nat} (h:j<l.length):l.take (j+1)=l.take j++[l[j]]:=by
 rw [List.take_succ_eq_append_getElem h]
structure E where
 m:M
 done:List Nat
 low:Nat
def E.init:E:=⟨M.init,[],0⟩
def E.low1 (e:E) (i:Nat) (one:Bool):Nat:=if one then (e.low+e.m.split i) % 4294967296 else e.low
def E.done1 (e:E) (i:Nat) (one:Bool):List Nat:=if one&&decide (4294967296≤e.low+e.m.split i) then carry e.done else e.done
def E.bit (e:E) (c:Int) (one:Bool):E:=
 let i:=ctx c
 if e.m.shifts i one then ⟨e.m.step i one,e.done1 i one++[e.low1 i one / 16777216],e.low1 i one % 16777216*256⟩
 else ⟨e.m.step i one,e.done1 i one,e.low1 i one⟩
structure E.Wf (e:E):Prop where
 m:e.m.Wf
 low:e.low<4294967296
 done:∀d,d∈e.done→d<256
def trimR:List Nat→List Nat
 | []=>[]
 | d :: r=>if d=0 then trimR r else d :: r
def trim (l:List Nat):List Nat:=(trimR l.reverse).reverse
def E.last (e:E):Nat:=(e.low+16777215) / 16777216
def E.finish (e:E):List Nat:=
 trim (if e.last=256 then carry e.done++[0] else e.done++[e.last])
theorem carryR_lt {l:List Nat} (h:∀d,d∈l→d<256):∀d,d∈carryR l→d<256:=by
 induction l with
 | nil=>intro d hd;simp [carryR] at hd
 | cons a r ih=>
  intro d hd;have ha:=h a (by simp);unfold carryR at hd;split at hd
  ·rcases List.mem_cons.1 hd with rfl | hd
   ·omega
   ·exact ih (fun d hd=>h d (by simp [hd])) d hd
  ·rename_i hne
   rcases List.mem_cons.1 hd with rfl | hd
   ·omega
   ·exact h d (by simp [hd])
theorem carryR_length (l:List Nat):(carryR l).length=l.length:=by
 induction l with
 | nil=>rfl
 | cons a r ih=>unfold carryR;split<;>simp [ih]
theorem carry_lt {l:List Nat} (h:∀d,d∈l→d<256):∀d,d∈carry l→d<256:=by
 intro d hd;unfold carry at hd;exact carryR_lt (l:=l.reverse) (fun d hd=>h d (by simpa using hd)) d (by simpa using hd)
theorem carry_length (l:List Nat):(carry l).length=l.length:=by
 simp [carry,carryR_length]
theorem E.init_wf:E.init.Wf:=⟨M.init_wf,by show 0<4294967296;omega,fun d hd=>by simp [E.init] at hd⟩
theorem E.low1_lt {e:E} (h:e.Wf) (i:Nat) (one:Bool):e.low1 i one<4294967296:=by
 have:=h.low;unfold E.low1;split<;>omega
theorem E.done1_lt {e:E} (h:e.Wf) (i:Nat) (one:Bool):∀d,d∈e.done1 i one→d<256:=by
 unfold E.done1;split
 ·exact carry_lt h.done
 ·exact h.done
theorem E.done1_length (e:E) (i:Nat) (one:Bool):(e.done1 i one).length=e.done.length:=by
 unfold E.done1;split
 ·exact carry_length _
 ·rfl
theorem E.bit_wf {e:E} (h:e.Wf) (c:Int) (one:Bool):(e.bit c one).Wf:=by
 have h1:=E.low1_lt h (ctx c) one;have h2:=E.done1_lt h (ctx c) one;have h3:=M.step_wf h.m (ctx_lt c) one;unfold E.bit;dsimp only
 split
 ·refine ⟨h3,?_,fun d hd=>?_⟩
  ·show _ % 16777216*256<4294967296;omega
  ·simp only [List.mem_append,List.mem_singleton] at hd;rcases hd with hd | rfl
   ·exact h2 d hd
   ·omega
 ·exact ⟨h3,h1,h2⟩
theorem E.bit_m (e:E) (c:Int) (one:Bool):(e.bit c one).m=e.m.step (ctx c) one:=by
 unfold E.bit;dsimp only;split<;>rfl
theorem E.bit_done_length (e:E) (c:Int) (one:Bool):(e.bit c one).done.length≤e.done.length+1:=by
 unfold E.bit;dsimp only
 split
 ·show (e.done1 _ _++[_]).length≤_;rw [List.length_append,E.done1_length];simp
 ·show (e.done1 _ _).length≤_;rw [E.done1_length];omega
def encFrom (e:E) (l:List (Int × Bool)):E:=l.foldl (fun e x=>e.bit x.1 x.2) e
theorem encFrom_done_length (e:E) (l:List (Int × Bool)):(encFrom e l).done.length≤e.done.length+l.length:=by
 induction l generalizing e with
 | nil=>simp [encFrom]
 | cons a l ih=>
  have h1:=ih (e.bit a.1 a.2);have h2:=E.bit_done_length e a.1 a.2;show (encFrom (e.bit a.1 a.2) l).done.length≤_;simp only [List.length_cons];omega
theorem encFrom_snoc (e:E) (l:List (Int × Bool)) (x:Int × Bool):encFrom e (l++[x])=(encFrom e l).bit x.1 x.2:=by
 simp [encFrom,List.foldl_append]
structure D where
 m:M
 left:List Nat
 off:Nat
def D.next (d:D):D:=
 match d.left with
 | []=>⟨d.m,[],d.off*256 % 4294967296⟩
 | b :: r=>⟨d.m,r,(d.off*256+b) % 4294967296⟩
def D.ofCode (l:List Nat):D:=(D.next (D.next (D.next (D.next ⟨M.init,l,0⟩))))
def D.one (d:D) (c:Int):Bool:=decide (d.m.split (ctx c)≤d.off)
def D.off1 (d:D) (c:Int):Nat:=if d.one c then d.off-d.m.split (ctx c) else d.off
def D.bit (d:D) (c:Int):D:=
 let d1:D:=⟨d.m.step (ctx c) (d.one c),d.left,d.off1 c⟩
 if d.m.shifts (ctx c) (d.one c) then d1.next else d1
structure D.Wf (d:D):Prop where
 m:d.m.Wf
 off:d.off<4294967296
 left:∀b,b∈d.left→b<256
theorem D.next_wf {d:D} (h:d.Wf):d.next.Wf:=by
 unfold D.next;split
 ·exact ⟨h.m,Nat.mod_lt _ (by omega),fun b hb=>by simp at hb⟩
 ·rename_i b r hl
  exact ⟨h.m,Nat.mod_lt _ (by omega),fun x hx=>h.left x (by rw [hl];simp [hx])⟩
theorem D.ofCode_wf {l:List Nat} (h:∀b,b∈l→b<256):(D.ofCode l).Wf:=
 D.next_wf (D.next_wf (D.next_wf (D.next_wf ⟨M.init_wf,by show 0<4294967296;omega,h⟩)))
theorem D.off1_lt {d:D} (h:d.Wf) (c:Int):d.off1 c<4294967296:=by
 have:=h.off;unfold D.off1;split<;>omega
theorem D.bit_wf {d:D} (h:d.Wf) (c:Int):(d.bit c).Wf:=by
 have h1:=D.off1_lt h c;have h3:=M.step_wf h.m (ctx_lt c) (d.one c);unfold D.bit;dsimp only
 split
 ·exact D.next_wf ⟨h3,h1,h.left⟩
 ·exact ⟨h3,h1,h.left⟩
def encode (l:List (Int × Bool)):List Nat:=(encFrom E.init l).finish
def decodeFrom (d:D):List Int→List Bool
 | []=>[]
 | c :: r=>d.one c :: decodeFrom (d.bit c) r
def decode (s:List Nat) (l:List Int):List Bool:=decodeFrom (D.ofCode s) l
end Pc
end Go.Proofs.YtcikldoaidmnhaaGreatDoor
namespace Go.Proofs.YtcikldoaidmnhaaGreatDoor
set_option maxRecDepth 100000
namespace Pc
def num (l:List Nat):Nat:=l.foldl (fun a d=>a*256+d) 0
def val (s:List Nat):Nat→Nat
 | 0=>0
 | n+1=>val s n*256+s.getD n 0
theorem num_snoc (l:List Nat) (d:Nat):num (l++[d])=num l*256+d:=by simp [num,List.foldl_append]
theorem val_append (a b:List Nat) (n:Nat) (h:n≤a.length):val (a++b) n=val a n:=by
 induction n with
 | zero=>rfl
 | succ n ih=>
  show val (a++b) n*256+_=val a n*256+_;rw [ih (by omega)];congr 1
  simp [List.getD,List.getElem?_append_left (show n<a.length by omega)]
theorem num_val (l:List Nat):num l=val l l.length:=by
 rcases List.eq_nil_or_concat l with h | ⟨k,d,h⟩
 ·subst h;rfl
 ·rw [List.concat_eq_append] at h;subst h;rw [num_snoc,List.length_append];show num k*256+d=val (k++[d]) k.length*256+_;rw [val_append _ _ _ (Nat.le_refl _),←num_val k];simp [List.getD]
termination_by l.length
decreasing_by subst h;simp
theorem val_congr {a b:List Nat} (h:∀i,a.getD i 0=b.getD i 0) (n:Nat):val a n=val b n:=by
 induction n with
 | zero=>rfl
 | succ n ih=>show val a n*256+_=val b n*256+_;rw [ih,h]
theorem getD_zeros (a:List Nat) (k i:Nat):(a++List.replicate k 0).getD i 0=a.getD i 0:=by
 simp only [List.getD,List.getElem?_append,List.getElem?_replicate];by_cases h:i<a.length
 ·simp [h]
 ·have:a[i]?=none:=List.getElem?_eq_none (by omega);simp only [h,if_false,this];split<;>rfl
theorem trimR_spec (l:List Nat):∃k,l=List.replicate k 0++trimR l:=by
 induction l with
 | nil=>exact ⟨0,rfl⟩
 | cons d r ih=>
  obtain ⟨k,hk⟩:=ih;unfold trimR;by_cases h:d=0
  ·simp only [h,if_true];exact ⟨k+1,by rw [List.replicate_succ,List.cons_append,←hk]⟩
  ·simp only [h,if_false];exact ⟨0,rfl⟩
theorem trim_spec (l:List Nat):∃k,l=trim l++List.replicate k 0:=by
 obtain ⟨k,hk⟩:=trimR_spec l.reverse;refine ⟨k,?_⟩;have:=congrArg List.reverse hk;simpa [trim] using this
theorem trim_getD (l:List Nat) (i:Nat):(trim l).getD i 0=l.getD i 0:=by
 obtain ⟨k,hk⟩:=trim_spec l;conv=>rhs;rw [hk]
 rw [getD_zeros]
theorem num_carry {l:List Nat} (h:∀d,d∈l→d<256) (hb:num l+1<256 ^ l.length):num (carry l)=num l+1:=by
 rcases List.eq_nil_or_concat l with hl | ⟨k,d,hl⟩
 ·subst hl;exact absurd hb (by decide)
 ·rw [List.concat_eq_append] at hl;subst hl;by_cases hd:d=255
  ·subst hd;rw [carry_snoc_255,num_snoc,num_snoc];rw [num_snoc,List.length_append,List.length_singleton,Nat.pow_succ] at hb;rw [num_carry (l:=k) (fun d hd=>h d (by simp [hd])) (by omega)];omega
  ·rw [carry_snoc_ne k hd,num_snoc,num_snoc];omega
termination_by l.length
decreasing_by subst hl;simp
def E.T (e:E):Nat:=num e.done*4294967296+e.low
structure E.Ok (e:E):Prop where
 wf:e.Wf
 fit:e.T+e.m.size≤256 ^ e.done.length*4294967296
theorem E.init_ok:E.init.Ok:=⟨E.init_wf,by decide⟩
theorem E.done1_num {e:E} (h:e.Ok) {i:Nat} (hi:i<4096) (one:Bool) :
  num (e.done1 i one)*4294967296+e.low1 i one=e.T+(if one then e.m.split i else 0):=by
 have h1:=h.fit;have h2:=M.split_bd h.wf.m hi;have h3:=h.wf.low;have h4:=h.wf.m.hi;unfold E.T at h1 ⊢;unfold E.done1 E.low1;cases one
 ·simp
 ·by_cases hc:4294967296≤e.low+e.m.split i
  ·simp only [hc,decide_true,Bool.and_self,if_true];rw [num_carry h.wf.done (by omega)];omega
  ·simp only [hc,decide_false,Bool.and_false,Bool.false_eq_true,if_false,if_true];omega
theorem E.bit_T {e:E} (h:e.Ok) (c:Int) (one:Bool) :
  (e.bit c one).T=(e.T+(if one then e.m.split (ctx c) else 0))*(if e.m.shifts (ctx c) one then 256 else 1) ∧
  (e.bit c one).m.size=e.m.raw (ctx c) one*(if e.m.shifts (ctx c) one then 256 else 1) ∧
  (e.bit c one).done.length=e.done.length+(if e.m.shifts (ctx c) one then 1 else 0):=by
 have h1:=E.done1_num h (ctx_lt c) one;have h2:=E.done1_length e (ctx c) one;have h3:=E.low1_lt h.wf (ctx c) one;refine ⟨?_,?_,?_⟩
 ·unfold E.bit;dsimp only
  by_cases hs:e.m.shifts (ctx c) one=true
  ·simp only [hs,if_true];show num (e.done1 (ctx c) one++[e.low1 (ctx c) one / 16777216])*4294967296+e.low1 (ctx c) one % 16777216*256=_;rw [num_snoc,←h1];clear h1 h2 hs;generalize e.low1 (ctx c) one=x at *;generalize num (e.done1 (ctx c) one)=y at *;omega
  ·simp only [hs,Bool.false_eq_true,if_false];rw [Nat.mul_one];exact h1
 ·rw [E.bit_m];show norm _=_;unfold norm M.shifts;by_cases hs:e.m.raw (ctx c) one<16777216
  ·simp [hs]
  ·simp [hs]
 ·unfold E.bit;dsimp only
  by_cases hs:e.m.shifts (ctx c) one=true
  ·simp only [hs,if_true,List.length_append,h2,List.length_singleton]
  ·simp [hs,h2]
theorem E.bit_ok {e:E} (h:e.Ok) (c:Int) (one:Bool):(e.bit c one).Ok:=by
 obtain ⟨h1,h2,h3⟩:=E.bit_T h c one;have h4:=h.fit;have h5:=M.split_bd h.wf.m (ctx_lt c);refine ⟨E.bit_wf h.wf c one,?_⟩;rw [h1,h2,h3,←Nat.add_mul];have h6:e.T+(if one then e.m.split (ctx c) else 0)+e.m.raw (ctx c) one≤256 ^ e.done.length*4294967296:=by
  unfold M.raw;cases one
  ·simp;omega
  ·simp;omega
 by_cases hs:e.m.shifts (ctx c) one=true
 ·simp only [hs,if_true,Nat.pow_succ];have:=Nat.mul_le_mul_right 256 h6;rw [show 256 ^ e.done.length*256*4294967296=256 ^ e.done.length*4294967296*256 by omega];exact this
 ·simp only [hs,Bool.false_eq_true,if_false,Nat.mul_one,Nat.add_zero];exact h6
theorem encFrom_ok {e:E} (h:e.Ok) (l:List (Int × Bool)):(encFrom e l).Ok:=by
 induction l generalizing e with
 | nil=>exact h
 | cons a l ih=>exact ih (E.bit_ok h a.1 a.2)
def E.In (e:E) (s:List Nat):Prop:=e.T≤val s (e.done.length+4)∧val s (e.done.length+4)<e.T+e.m.size
theorem E.in_back {e:E} (h:e.Ok) {s:List Nat} (hs:∀i,s.getD i 0<256) (c:Int) (one:Bool) (hin:(e.bit c one).In s) :
  e.T+(if one then e.m.split (ctx c) else 0)≤val s (e.done.length+4)∧val s (e.done.length+4)<e.T+(if one then e.m.split (ctx c) else 0)+e.m.raw (ctx c) one:=by
 obtain ⟨h1,h2,h3⟩:=E.bit_T h c one;unfold E.In at hin;rw [h1,h2,h3] at hin;generalize e.T+(if one then e.m.split (ctx c) else 0)=t at *;generalize e.m.raw (ctx c) one=r at *;by_cases hsh:e.m.shifts (ctx c) one=true
 ·simp only [hsh,if_true] at hin;rw [show e.done.length+1+4=(e.done.length+4)+1 by omega] at hin;have hv:val s (e.done.length+4+1)=val s (e.done.length+4)*256+s.getD (e.done.length+4) 0:=rfl;have:=hs (e.done.length+4);omega
 ·simp only [hsh,Bool.false_eq_true,if_false,Nat.mul_one,Nat.add_zero] at hin;exact hin
theorem E.in_step {e:E} (h:e.Ok) {s:List Nat} (hs:∀i,s.getD i 0<256) (c:Int) (one:Bool) (hin:(e.bit c one).In s):e.In s:=by
 have h1:=E.in_back h hs c one hin;have h2:=M.split_bd h.wf.m (ctx_lt c);unfold E.In;unfold M.raw at h1;cases one
 ·simp at h1;omega
 ·simp at h1;omega
theorem E.in_from {e:E} (h:e.Ok) {s:List Nat} (hs:∀i,s.getD i 0<256) (l:List (Int × Bool)) (hin:(encFrom e l).In s):e.In s:=by
 induction l generalizing e with
 | nil=>exact hin
 | cons a l ih=>exact E.in_step h hs a.1 a.2 (ih (E.bit_ok h a.1 a.2) hin)
structure Along (e:E) (s:List Nat) (d:D):Prop where
 m:d.m=e.m
 off:d.off=val s (e.done.length+4)-e.T
 left:d.left=s.drop (e.done.length+4)
theorem D.next_m (d:D):d.next.m=d.m:=by unfold D.next;split<;>rfl
theorem D.next_drop (d:D) {s:List Nat} {n:Nat} (h:d.left=s.drop n):d.next.left=s.drop (n+1)∧d.next.off=(d.off*256+s.getD n 0) % 4294967296:=by
 have e2:s.drop (n+1)=(s.drop n).drop 1:=by rw [List.drop_drop]
 unfold D.next;split
 ·rename_i hl
  rw [hl] at h;have hn:s.length≤n:=by
   have:=congrArg List.length h;simp at this;omega
  refine ⟨by rw [e2,←h];rfl,?_⟩;simp [List.getD,List.getElem?_eq_none hn]
 ·rename_i b r hl
  rw [hl] at h;have hn:s[n]?=some b:=by
   have:(s.drop n)[0]?=some b:=by rw [←h];rfl
   simpa using this
  refine ⟨by rw [e2,←h];rfl,?_⟩;simp [List.getD,hn]
theorem Along.one {e:E} (h:e.Ok) {s:List Nat} (hs:∀i,s.getD i 0<256) {d:D} (ha:Along e s d) (c:Int) (one:Bool) (hin:(e.bit c one).In s):d.one c=one:=by
 have h1:=E.in_back h hs c one hin;unfold D.one;rw [ha.m,ha.off];unfold M.raw at h1;cases one
 ·simp at h1 ⊢;omega
 ·simp at h1 ⊢;omega
theorem Along.step {e:E} (h:e.Ok) {s:List Nat} (hs:∀i,s.getD i 0<256) {d:D} (ha:Along e s d) (c:Int) (one:Bool) (hin:(e.bit c one).In s):Along (e.bit c one) s (d.bit c):=by
 have ho:=ha.one h hs c one hin;have h1:=E.in_back h hs c one hin;obtain ⟨h2,h3,h4⟩:=E.bit_T h c one;have h5:=M.raw_bd h.wf.m (ctx_lt c) one;have h6:d.off1 c=val s (e.done.length+4)-(e.T+(if one then e.m.split (ctx c) else 0)):=by
  unfold D.off1;rw [ho,ha.off,ha.m];cases one
  ·simp
  ·simp;omega
 have hm:d.m.step (ctx c) (d.one c)=(e.bit c one).m:=by rw [ho,ha.m,E.bit_m]
 unfold D.bit;rw [hm];simp only [ho,ha.m];by_cases hsh:e.m.shifts (ctx c) one=true
 ·simp only [hsh,if_true] at h2 h3 h4 ⊢;have hr:e.m.raw (ctx c) one<16777216:=by simpa [M.shifts] using hsh
  obtain ⟨n1,n2⟩:=D.next_drop (⟨(e.bit c one).m,d.left,d.off1 c⟩:D) ha.left;refine ⟨D.next_m _,?_,?_⟩
  ·rw [n2,h2,h4];rw [show e.done.length+1+4=(e.done.length+4)+1 by omega];have hv:val s (e.done.length+4+1)=val s (e.done.length+4)*256+s.getD (e.done.length+4) 0:=rfl;have:=hs (e.done.length+4);rw [hv];dsimp only
   rw [h6];generalize e.T+(if one then e.m.split (ctx c) else 0)=t at *;generalize e.m.raw (ctx c) one=r at *;omega
  ·rw [n1,h4]
 ·simp only [hsh,Bool.false_eq_true,if_false] at h2 h4 ⊢;refine ⟨rfl,?_,?_⟩
  ·show d.off1 c=_;rw [h6,h2,h4];simp
  ·show d.left=_;rw [ha.left,h4]
theorem decode_along {e:E} (h:e.Ok) {s:List Nat} (hs:∀i,s.getD i 0<256) {d:D} (ha:Along e s d) (l:List (Int × Bool)) (hin:(encFrom e l).In s) :
  decodeFrom d (l.map (·.1))=l.map (·.2):=by
 induction l generalizing e d with
 | nil=>rfl
 | cons a l ih=>
  have h1:(e.bit a.1 a.2).In s:=E.in_from (E.bit_ok h a.1 a.2) hs l hin;show d.one a.1 :: decodeFrom (d.bit a.1) (l.map (·.1))=a.2 :: l.map (·.2);rw [ha.one h hs a.1 a.2 h1,ih (E.bit_ok h a.1 a.2) (ha.step h hs a.1 a.2 h1) hin]
theorem ofCode_along (s:List Nat) (hs:∀i,s.getD i 0<256):Along E.init s (D.ofCode s):=by
 obtain ⟨a1,b1⟩:=D.next_drop (s:=s) (n:=0) ⟨M.init,s,0⟩ rfl;obtain ⟨a2,b2⟩:=D.next_drop _ a1;obtain ⟨a3,b3⟩:=D.next_drop _ a2;obtain ⟨a4,b4⟩:=D.next_drop _ a3;refine ⟨?_,?_,a4⟩
 ·unfold D.ofCode;rw [D.next_m,D.next_m,D.next_m,D.next_m];rfl
 ·show (D.ofCode s).off=val s 4-0;unfold D.ofCode;rw [b4,b3,b2,b1];show _=(((0*256+s.getD 0 0)*256+s.getD (0+1) 0)*256+s.getD (0+1+1) 0)*256+s.getD (0+1+1+1) 0-0;have:=hs 0;have:=hs (0+1);have:=hs (0+1+1);have:=hs (0+1+1+1);dsimp only
  omega
def E.fin (e:E):List Nat:=if e.last=256 then carry e.done++[0] else e.done++[e.last]
theorem E.finish_fin (e:E):e.finish=trim e.fin:=rfl
theorem E.fin_lt {e:E} (h:e.Wf):∀d,d∈e.fin→d<256:=by
 intro d hd;have h1:=h.low;unfold E.fin at hd;split at hd
 ·simp only [List.mem_append,List.mem_singleton] at hd;rcases hd with hd | rfl
  ·exact carry_lt h.done d hd
  ·omega
 ·simp only [List.mem_append,List.mem_singleton] at hd;rcases hd with hd | rfl
  ·exact h.done d hd
  ·unfold E.last at *;omega
theorem ceil_bd (x:Nat):x≤(x+16777215) / 16777216*16777216∧(x+16777215) / 16777216*16777216≤x+16777215:=by
 have h1:=Nat.div_mul_le_self (x+16777215) 16777216;have h2:=Nat.mod_lt (x+16777215) (show 16777216 > 0 by decide);have h3:=Nat.div_add_mod (x+16777215) 16777216;rw [Nat.mul_comm] at h3;generalize (x+16777215) / 16777216*16777216=q at *;generalize (x+16777215) % 16777216=r at *;exact ⟨by omega,h1⟩
theorem up_le {y x q:Nat} (hq:x≤q*16777216):y*4294967296+x≤(y*256+q)*16777216:=by
 rw [Nat.add_mul,Nat.mul_assoc];exact Nat.add_le_add_left hq _
theorem up_lt {y x q z:Nat} (hq:q*16777216≤x+16777215) (h2:16777216≤z):(y*256+q)*16777216<y*4294967296+x+z:=by
 omega
theorem E.fin_num {e:E} (h:e.Ok):e.T≤num e.fin*16777216∧num e.fin*16777216<e.T+e.m.size∧e.fin.length=e.done.length+1:=by
 have h1:=h.wf.low;have h2:=h.wf.m.lo;have h3:=h.fit;unfold E.T at *;unfold E.fin;obtain ⟨hq1,hq2⟩:=ceil_bd e.low;by_cases hl:e.last=256
 ·simp only [hl,if_true,num_snoc,List.length_append,carry_length,List.length_singleton];unfold E.last at hl;rw [hl] at hq1 hq2;generalize hw:256 ^ e.done.length=w at *;rw [num_carry h.wf.done (by rw [hw];omega),show (num e.done+1)*256+0=num e.done*256+(256+0) by omega];exact ⟨up_le (q:=256+0) hq1,up_lt (q:=256+0) hq2 h2,trivial⟩
 ·simp only [hl,if_false,num_snoc,List.length_append,List.length_singleton];unfold E.last;exact ⟨up_le hq1,up_lt hq2 h2,trivial⟩
theorem getD_lt {l:List Nat} (h:∀d,d∈l→d<256) (i:Nat):l.getD i 0<256:=by
 simp only [List.getD];cases he:l[i]? with
 | none=>simp
 | some d=>exact h d (List.mem_of_getElem? he)
theorem encode_lt (l:List (Int × Bool)):∀d,d∈encode l→d<256:=by
 intro d hd;unfold encode at hd;rw [E.finish_fin] at hd;refine E.fin_lt (encFrom_ok E.init_ok l).wf d ?_;obtain ⟨k,hk⟩:=trim_spec (encFrom E.init l).fin;rw [hk];exact List.mem_append_left _ hd
theorem decode_encode (l:List (Int × Bool)) (k:Nat):decode (encode l++List.replicate k 0) (l.map (·.1))=l.map (·.2):=by
 have hok:=encFrom_ok E.init_ok l;have hg:∀i,(encode l++List.replicate k 0).getD i 0=(encFrom E.init l).fin.getD i 0:=fun i=>by
  rw [getD_zeros];unfold encode;rw [E.finish_fin,trim_getD]
 have hs:∀i,(encode l++List.replicate k 0).getD i 0<256:=fun i=>by rw [hg];exact getD_lt (E.fin_lt hok.wf) i
 refine decode_along E.init_ok hs (ofCode_along _ hs) l ?_;obtain ⟨f1,f2,f3⟩:=E.fin_num hok;have hv:∀n,val (encode l++List.replicate k 0) n=val (encFrom E.init l).fin n:=val_congr hg;unfold E.In;rw [hv];have hn:=num_val (encFrom E.init l).fin;rw [f3] at hn;have z:∀i,(encFrom E.init l).done.length+1≤i→(encFrom E.init l).fin.getD i 0=0:=fun i hi=>by
  simp [List.getD,List.getElem?_eq_none (show (encFrom E.init l).fin.length≤i by omega)]
 have e4:val (encFrom E.init l).fin ((encFrom E.init l).done.length+4)=((num (encFrom E.init l).fin*256+0)*256+0)*256+0:=by
  rw [hn,←z ((encFrom E.init l).done.length+3) (by omega)];conv=>rhs;rw [show (((val (encFrom E.init l).fin ((encFrom E.init l).done.length+1))*256+(encFrom E.init l).fin.getD ((encFrom E.init l).done.length+3) 0))=val (encFrom E.init l).fin ((encFrom E.init l).done.length+1)*256+(encFrom E.init l).fin.getD ((encFrom E.init l).done.length+1) 0 by rw [z _ (by omega),z _ (by omega)]]
  conv=>rhs;rw [show ∀x:Nat,x*256+(encFrom E.init l).fin.getD ((encFrom E.init l).done.length+3) 0=x*256+(encFrom E.init l).fin.getD ((encFrom E.init l).done.length+3) 0 from fun _=>rfl]
  show (((val (encFrom E.init l).fin ((encFrom E.init l).done.length+1))*256+(encFrom E.init l).fin.getD ((encFrom E.init l).done.length+1) 0)*256+(encFrom E.init l).fin.getD ((encFrom E.init l).done.length+2) 0)*256+(encFrom E.init l).fin.getD ((encFrom E.init l).done.length+3) 0=_;rw [z _ (Nat.le_refl _),z ((encFrom E.init l).done.length+2) (by omega),z ((encFrom E.init l).done.length+3) (by omega)]
 rw [e4];constructor<;>omega
def nrm (x:Int × Bool):Nat × Bool:=(ctx x.1,x.2)
theorem trim_length (l:List Nat):(trim l).length≤l.length:=by
 obtain ⟨k,hk⟩:=trim_spec l;have:=congrArg List.length hk;rw [List.length_append] at this;omega
theorem encode_length (l:List (Int × Bool)):(encode l).length≤l.length+1:=by
 have h1:=trim_length (encFrom E.init l).fin;have h2:=(E.fin_num (encFrom_ok E.init_ok l)).2.2;have h3:=encFrom_done_length E.init l;have h4:E.init.done.length=0:=rfl;unfold encode;rw [E.finish_fin];omega
end Pc
end Go.Proofs.YtcikldoaidmnhaaGreatDoor
