/- Parts: General lemmas: a relation between worlds in which only named blocks may have turned, and blocks known whole. No condition. Strings as lists of numbers below 256. No condition. -/
import Derived.WalkKit
import Derived.WalkSpells
import Derived.WalkLawsBesides
import Derived.Lib.Hide
import Derived.BigQuiet
import Derived.Deep.DeepFit
import Derived.Deep.DeepCutAuto
import Derived.Deep.AppendLies
import Derived.Deep.QuietTactic
namespace Go.Proofs.YtmgklblglpplcaaGreatDoor
open Go Go.RowKit
structure Upd (F:Nat→Prop) (w w':World):Prop where
 os:w'.os=w.os
 tape:w'.tape=w.tape
 output:w'.output=w.output
 size:w.heap.size≤w'.heap.size
 block:∀k,k<w.heap.size→¬F k→w'.heap[k]?=w.heap[k]?
def noBlk:Nat→Prop:=fun _=>False
theorem Upd.refl (F:Nat→Prop) (w:World):Upd F w w:=⟨rfl,rfl,rfl,Nat.le_refl _,fun _ _ _=>rfl⟩
theorem Upd.trans {F:Nat→Prop} {a b c:World} (h:Upd F a b) (k:Upd F b c):Upd F a c:=
 ⟨k.os.trans h.os,k.tape.trans h.tape,k.output.trans h.output,Nat.le_trans h.size k.size,
 fun i hi hf=>(k.block i (Nat.lt_of_lt_of_le hi h.size) hf).trans (h.block i hi hf)⟩
theorem Upd.then {F G:Nat→Prop} {a b c:World} (h:Upd F a b) (k:Upd G b c) (hg:∀i,i<a.heap.size→G i→F i):Upd F a c:=
 ⟨k.os.trans h.os,k.tape.trans h.tape,k.output.trans h.output,Nat.le_trans h.size k.size,
 fun i hi hf=>(k.block i (Nat.lt_of_lt_of_le hi h.size) (fun g=>hf (hg i hi g))).trans (h.block i hi hf)⟩
theorem Upd.mono {F G:Nat→Prop} {w w':World} (h:Upd F w w') (hg:∀i,i<w.heap.size→F i→G i):Upd G w w':=
 ⟨h.os,h.tape,h.output,h.size,fun k hk hG=>h.block k hk (fun f=>hG (hg k hk f))⟩
theorem Upd.drew {F:Nat→Prop} {a w:World} (h:Upd F a w):Upd F a w.drew:=⟨h.os,h.tape,h.output,h.size,h.block⟩
theorem Upd.alloc {F:Nat→Prop} {a w:World} (h:Upd F a w) (o:Obj):Upd F a (w.alloc o):=
 h.trans ⟨rfl,rfl,rfl,by simp,fun k hk _=>_root_.Go.heap_alloc_old w o hk⟩
theorem Upd.setCell {F:Nat→Prop} {a w:World} (h:Upd F a w) {p:Addr} (hp:p.block<a.heap.size→F p.block) (u:Value):Upd F a (w.setCell p u):=
 ⟨h.os,h.tape,h.output,by simpa using h.size,fun k hk hf=>by
  rw [heap_setCell_other w p k u (fun e=>hf (by subst e;exact hp hk))];exact h.block k hk hf⟩
theorem Upd.grown {F:Nat→Prop} {a w w':World} {row:Option Nat} (h:Upd F a w) (hg:w.grownBy w' row) (hr:∀k,row=some k→k<a.heap.size→F k):Upd F a w':=
 ⟨hg.os.trans h.os,hg.tape.trans h.tape,hg.output.trans h.output,Nat.le_trans h.size hg.size,fun k hk hf=>
  (hg.block k (Nat.lt_of_lt_of_le hk h.size) (fun e=>hf (hr k e.symm hk))).trans (h.block k hk hf)⟩
theorem Upd.below {w w':World} (h:Upd noBlk w w'):Below w.heap.size w w':=
 ⟨h.os,h.tape,h.output,h.size,fun k hk=>h.block k hk id⟩
theorem Upd.ofDrewN {F:Nat→Prop} (w:World) (n:Nat):Upd F w (w.drewN n):=
 ⟨rfl,rfl,rfl,Nat.le_refl _,fun _ _ _=>rfl⟩
theorem Upd.drewN {F:Nat→Prop} {a w:World} (h:Upd F a w) (n:Nat):Upd F a (w.drewN n):=h.trans (Upd.ofDrewN w n)
theorem lt_of_heap {w:World} {b:Nat} {o:Obj} (h:w.heap[b]?=some o):b<w.heap.size:=(Array.getElem?_eq_some_iff.1 h).1
theorem Upd.heap {F:Nat→Prop} {w w':World} {b:Nat} {o:Obj} (h:Upd F w w') (hb:w.heap[b]?=some o) (hf:¬F b):w'.heap[b]?=some o:=
 (h.block b (lt_of_heap hb) hf).trans hb
theorem Upd.cell {F:Nat→Prop} {w w':World} {a:Addr} {v:Value} (h:Upd F w w') (hv:w.cell? a=some v) (hf:¬F a.block):w'.cell? a=some v:=
 (World.cell?_of_block (h.block a.block (World.block_lt_of_cell? w a hv) hf)).trans hv
theorem heap_setCell_eq {w:World} {g i:Nat} {cs:Array Value} {t:TypeId} (v:Value) (hg:w.heap[g]?=some (.cells cs t (0,0))) :
  (w.setCell ⟨g,i,none⟩ v).heap[g]?=some (.cells (cs.setIfInBounds i v) t (0,0)):=heap_setCell_same w g i cs t v hg
theorem heap_setCell_ne {w:World} {g k i:Nat} {o:Obj} (v:Value) (hk:w.heap[k]?=some o) (h:k≠g):(w.setCell ⟨g,i,none⟩ v).heap[k]?=some o:=
 (heap_setCell_other w ⟨g,i,none⟩ k v h).trans hk
theorem heap_alloc_keep {w:World} {k:Nat} {o:Obj} (o':Obj) (hk:w.heap[k]?=some o):(w.alloc o').heap[k]?=some o:=
 (_root_.Go.heap_alloc_old w o' (lt_of_heap hk)).trans hk
theorem cell_alloc_keep {w:World} {a:Addr} {v:Value} (o:Obj) (h:w.cell? a=some v):(w.alloc o).cell? a=some v:=
 (World.cell?_alloc_lt w o a (World.block_lt_of_cell? w a h)).trans h
theorem frozen_alloc_keep {w:World} {a:Addr} (o:Obj) (ha:a.block<w.heap.size) (h:w.frozen? a=false):(w.alloc o).frozen? a=false:=
 (World.frozen?_alloc_old w o a (Nat.ne_of_lt ha)).trans h
theorem grown_cell {w w1:World} {o:Obj} {row:Option Nat} (hg:(w.alloc o).drew.grownBy w1 row) {a:Addr} {v:Value} (h:w.cell? a=some v) (hne:row≠some a.block):w1.cell? a=some v:=
 hg.cell (cell_alloc_keep o h) (Ne.symm hne)
theorem grown_free {w w1:World} {o:Obj} {row:Option Nat} (hg:(w.alloc o).drew.grownBy w1 row) {a:Addr} (ha:a.block<w.heap.size) (h:w.frozen? a=false) (hne:row≠some a.block):w1.frozen? a=false:=
 (World.frozen?_of_block (hg.block a.block (by simp;omega) (Ne.symm hne))).trans (frozen_alloc_keep o ha h)
theorem grown_heap {w w1:World} {o o':Obj} {row:Option Nat} (hg:(w.alloc o).drew.grownBy w1 row) {k:Nat} (h:w.heap[k]?=some o') (hne:row≠some k):w1.heap[k]?=some o':=by
 have hk:=lt_of_heap h;exact (hg.block k (by simp;omega) (Ne.symm hne)).trans (heap_alloc_keep o h)
theorem upd_grown_new {F:Nat→Prop} {w w1:World} {o:Obj} {row:Option Nat} (hg:(w.alloc o).drew.grownBy w1 row) (hr:∀k,row=some k→k<w.heap.size→F k):Upd F w w1:=
 ((Upd.refl F w).alloc o).drew.grown hg hr
theorem quiet_eq {P:Program} {f:FuncId} {args:Array Value} {w:World} {n:Nat} {v:Value}
  (h:Calls P f args (w.drewN n) fun e w'=>e=.returned v∧w.drewN n=w'):Calls P f args (w.drewN n) fun e w''=>e=.returned v∧∃m,w''=w.drewN m:=
 h.mono fun _ _ ⟨he,hm⟩=>⟨he,n,hm.symm⟩
theorem quiet_drew {P:Program} {f:FuncId} {args:Array Value} {w:World} {n:Nat} {v:Value}
  (h:Calls P f args (w.drewN n) fun e w'=>e=.returned v∧∃m,w'=(w.drewN n).drewN m):Calls P f args (w.drewN n) fun e w''=>e=.returned v∧∃m,w''=w.drewN m:=
 h.mono fun _ _ ⟨he,m,hm⟩=>⟨he,n+m,by rw [hm,World.drewN_drewN]⟩
theorem wp_append_run {P:Program} {o:Oper} {a:Act} {w w':World} {K:Act→World→Prop} {Q:Exit→Act→World→Prop} (s x:Operand) (t:TypeId)
  (ho:o.op=.call { callee:=.builtin .append,args:=#[s,x],argTypes:=#[t,t] }) {vs vx v':Value} (hs:a.eval s=vs) (hx:a.eval x=vx)
  (hr:(Builtin.append_ #[t,t] o.type #[vs,vx]).run P w=.ok v' w') (h:K (a.put o.dst v') w'):o.wp P a w K Q:=by
 unfold Oper.wp execOp;simp only [ho,resolve,invoke,builtin,Sem.run_bind,Sem.run_pure,Result.andThen_ok,List.map_toArray,List.map_cons,List.map_nil,hs,hx,hr];exact h
theorem wpList_append_run {P:Program} {ops:Array Oper} {rest:List Oper} {o:Oper} {a:Act} {w w':World} {Q:Exit→Act→World→Prop} (hgd:o.guard=none) (s x:Operand) (t:TypeId)
  (ho:o.op=.call { callee:=.builtin .append,args:=#[s,x],argTypes:=#[t,t] }) {vs vx v':Value} (hs:a.eval s=vs) (hx:a.eval x=vx)
  (hr:(Builtin.append_ #[t,t] o.type #[vs,vx]).run P w=.ok v' w') (h:wpList P ops Q rest (a.put o.dst v') w'):wpList P ops Q (o :: rest) a w:=
 wpList_plain hgd fun _ hK=>wp_append_run s x t ho hs hx hr (hK _ _ h)
theorem append_copy {P:Program} (w:World) (t ty e:TypeId) (i:TypeInfo) (z:Value) (size bytes:Nat) (ht:P.underlying t=some (.slice e)) (hi:P.info? e=some i) (hz:i.zero=some z)
  (hsize:i.size=size) (hby:i.bytes=bytes) (hzs:z.cells.size=size) (hsz:0<size) {base:Nat} {src:Value} {n:Nat} {xs:List Value} (hown:w.ownsRow base e size src n xs)
  (h1:∀u∈xs,u.oneCell'=true) (h63:n≤maxLen) (hbytes:n*bytes≤140737488355328) :
  ∃v' w',(Builtin.append_ #[t,t] ty #[.slice none 0 0,src]).run P w=.ok v' w'∧w'.ownsRow w.heap.size e size v' n xs∧w.grownBy w' none:=by
 rcases hown.2 with ⟨rfl,rfl⟩ | ⟨g,cap,cur,rfl,_,hg,_⟩
 ·have hx:xs=[]:=List.eq_nil_of_length_eq_zero (by simpa using hown.1);subst hx;exact ⟨_,_,run_append_owned_none (P:=P) w w.heap.size t ty e i size ht hi (.slice none 0 0) 0 [] (World.ownsRow_nil _ _ _ _),World.ownsRow_nil _ _ _ _,⟨rfl,rfl,rfl,Nat.le_refl _,fun _ _ _=>rfl⟩⟩
 ·obtain ⟨v',w',hr,h2,h3,_⟩:=run_append_own (P:=P) w w.heap.size t ty e i z size bytes ht hi hz hsize hby hzs hsz (.slice none 0 0) 0 [] (World.ownsRow_nil _ _ _ _) ⟨g,0,none⟩ n cap xs hown.1 (hown.cells (g:=g) rfl) h1
   (by simpa using h63) (by simpa using hbytes) (Nat.le_refl _)
  exact ⟨v',w',hr,by simpa using h2,h3⟩
theorem append_one {P:Program} (w:World) (t ty e:TypeId) (i:TypeInfo) (z:Value) (size bytes:Nat) (ht:P.underlying t=some (.slice e)) (hi:P.info? e=some i) (hz:i.zero=some z)
  (hsize:i.size=size) (hby:i.bytes=bytes) (hzs:z.cells.size=size) (hsz:0<size) {base:Nat} {v:Value} {n:Nat} {xs:List Value} (hown:w.ownsRow base e size v n xs) (hbase:base≤w.heap.size)
  (news:List Value) (hl:news.length=size) (h1:∀u∈news,u.oneCell'=true) (h63:n+1≤maxLen) (hbytes:(n+1)*bytes≤140737488355328) :
  ∃g cap w',(Builtin.append_ #[t,t] ty #[v,.slice (some ⟨w.heap.size,0,none⟩) 1 1]).run P (w.alloc (.cells news.toArray e))=.ok (.slice (some ⟨g,0,none⟩) (n+1) cap) w' ∧
   w'.ownsRow base e size (.slice (some ⟨g,0,none⟩) (n+1) cap) (n+1) (xs++news)∧(w.alloc (.cells news.toArray e)).grownBy w' v.ownBlock∧(v.ownBlock=some g∨g=w.heap.size+1)∧g<w'.heap.size:=
 run_append_lies (P:=P) (w.alloc (.cells news.toArray e)) t ty base e i z size bytes ht hi hz hsize hby hzs hsz v n xs (hown.alloc _) ⟨w.heap.size,0,none⟩ 1 1 news (by simpa using hl)
  (by have h:=World.news_of_block (cs:=news.toArray) (t:=e) (fr:=(0,0)) (heap_alloc_new w (.cells news.toArray e));simpa using h) h1 (by omega) h63 hbytes (by simp;omega) (w.heap.size+1) (by simp)
theorem wrap_u32 {n:Int} (h0:0≤n) (h1:n≤4294967295):IntKind.u32.wrap n=n:=by
 have:IntKind.u32.wrap n=n % 4294967296:=by simp [IntKind.wrap_u32]
 omega
theorem wrap_u8 {n:Int} (h0:0≤n) (h1:n≤255):IntKind.u8.wrap n=n:=by
 have:IntKind.u8.wrap n=n % 256:=by simp [IntKind.wrap_u8]
 omega
end Go.Proofs.YtmgklblglpplcaaGreatDoor
namespace Go.Proofs.YtmgklblglpplcaaGreatDoor
open Go Go.RowKit
def byteV (d:Nat):Value:=.int .u8 d
def str (l:List Nat):ByteArray:=⟨(l.map UInt8.ofNat).toArray⟩
theorem str_size (l:List Nat):(str l).size=l.length:=by simp [str,ByteArray.size]
theorem str_toList (l:List Nat):(str l).toList=l.map UInt8.ofNat:=ByteArray.toList_mk _
theorem str_extract (l:List Nat) (a b:Nat):(str l).extract a b=str ((l.drop a).take (b-a)):=by
 unfold str;rw [ByteArray.extract_mk,List.map_take,List.map_drop]
theorem str_get {l:List Nat} {i:Nat} (h:i<l.length) (hb:∀d,d∈l→d<256) (h':i<(str l).size):((str l)[i]'h').toNat=l[i]:=by
 have e:(str l)[i]'h'=UInt8.ofNat l[i]:=by
  show (str l).data[i]'_=_;simp [str]
 rw [e];have:=hb l[i] (List.getElem_mem h);simp;omega
theorem strOfNums_cast (l:List Nat):strOfNums (l.map fun (d:Nat)=>(d:Int))=str l:=by
 simp [strOfNums,str,Function.comp_def]
theorem conv_own {P:Program} {w:World} {base:Nat} {src e dst:TypeId} {v:Value} {l:List Nat} (hs:P.underlying src=some (.slice e)) (he:P.underlying e=some (.int .u8)) (hd:P.underlying dst=some .string)
  (hown:w.ownsRow base e 1 v l.length (l.map byteV)):(convert src dst v).run P w=.ok (.string (str l)) w:=by
 rcases hown.2 with ⟨rfl,h0⟩ | ⟨g,cap,cur,rfl,_,hg,_,_,hsz,htake⟩
 ·rw [run_convert_bytes_nil w src e hs he 0 0 dst hd,List.eq_nil_of_length_eq_zero h0];rfl
 ·rw [run_convert_bytes_arg w src e hs he g 0 l.length cap (l.map fun (d:Nat)=>(d:Int)) (by simp) (fun i hi=>?_) dst hd,strOfNums_cast];rw [Nat.zero_add,hown.cellAt i (by omega)];simp [byteV,hi]
def lenOfV:Value→Nat | .string s=>s.size | _=>0
end Go.Proofs.YtmgklblglpplcaaGreatDoor
