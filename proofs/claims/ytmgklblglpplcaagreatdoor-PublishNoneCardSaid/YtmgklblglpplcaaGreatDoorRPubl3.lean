/- Parts: Walk of the coder's update. Walks of the coder's model: begin, update. Walks of the coder's model: weight, split, begin, carry. -/
import Derived.Test.YtmgklblglpplcaaGreatDoorRPubl1
import Derived.Test.YtmgklblglpplcaaGreatDoorRPubl2
import Derived.Test.YtmgklblglpplcaaGreatDoorRows
import Derived.WalkKit
import Derived.WalkSpells
import Derived.WalkLawsBesides
import Derived.Lib.Hide
import Derived.BigQuiet
import Derived.Deep.DeepFit
import Derived.Deep.DeepCutAuto
import Derived.Deep.AppendLies
import Derived.Deep.QuietTactic
namespace Go.Proofs.YtmgklblglpplcaaGreatDoor
open Go Go.RowKit Pc
def Wts (w:World) (b:Nat) (p:Nat→Nat):Prop:=
 ∃arr:Array Value,w.heap[b]?=some (.cells arr 80 (0,0))∧arr.size=4096∧∀i,i<4096→arr[i]?=some (.int .u32 (p i))
theorem Wts.cell {w:World} {b:Nat} {p:Nat→Nat} (h:Wts w b p) {i:Nat} (hi:i<4096):w.cell? ⟨b,i,none⟩=some (.int .u32 (p i)):=by
 obtain ⟨arr,h1,h2,h3⟩:=h;rw [cell_of_row w b i arr _ _ h1];exact h3 i hi
theorem Wts.free {w:World} {b:Nat} {p:Nat→Nat} (h:Wts w b p) (i:Nat):w.frozen? ⟨b,i,none⟩=false:=by
 obtain ⟨arr,h1,h2,h3⟩:=h;exact frozen_of_row w b i arr _ h1
theorem Wts.lt {w:World} {b:Nat} {p:Nat→Nat} (h:Wts w b p):b<w.heap.size:=by
 obtain ⟨arr,h1,h2,h3⟩:=h;exact lt_of_heap h1
theorem Wts.keep {w w':World} {b:Nat} {p:Nat→Nat} (h:Wts w b p) (hb:w'.heap[b]?=w.heap[b]?):Wts w' b p:=by
 obtain ⟨arr,h1,h2,h3⟩:=h;exact ⟨arr,hb.trans h1,h2,h3⟩
theorem Wts.set {w:World} {b:Nat} {p:Nat→Nat} (h:Wts w b p) (i v:Nat):Wts (w.setCell ⟨b,i,none⟩ (.int .u32 v)) b (upd p i v):=by
 obtain ⟨arr,h1,h2,h3⟩:=h;refine ⟨_,heap_setCell_eq _ h1,by simpa using h2,fun j hj=>?_⟩;rw [Array.getElem?_setIfInBounds];unfold upd;by_cases e:i=j
 ·subst e;simp [h2,hj]
 ·rw [if_neg e,if_neg (fun h=>e h.symm)];exact h3 j hj
theorem tmod_4096 (c:Int):c.tmod 4096=if 0≤c then c % 4096 else-((-c) % 4096):=by
 split
 ·rw [Int.tmod_eq_emod_of_nonneg (by omega)]
 ·rw [←Int.neg_neg c,Int.neg_tmod,Int.tmod_eq_emod_of_nonneg (by omega)];simp
theorem index_eq (c:Int):(wrap64 (c.tmod 4096+4096)).tmod 4096=((ctx c:Nat):Int):=by
 rw [ctx_cast,IntWalk.wrap64_in _ (by rw [tmod_4096];split<;>omega),Int.tmod_eq_emod_of_nonneg (by rw [tmod_4096];split<;>omega),tmod_4096]
 split<;>omega
set_option maxHeartbeats 400000 in
theorem weight_any (c:Int) (a:Addr) (wb:Nat) (w:World) (hw:w.cell? a=some (.slice (some ⟨wb,0,none⟩) 4096 4096)) :
  Calls Tryz.prog 159 #[.pointer (some a),.int .i64 c] w fun e w'=>e=.returned (.pointer (some ⟨wb,ctx c,none⟩))∧w=w':=by
 have e:=index_eq c;have h0:=ctx_lt c;go_enter Tryz.func159,Tryz.ntmps159
 go_wp2
 go_ret
 exact ⟨rfl,rfl⟩
structure Mod (w:World) (b wb:Nat) (m:M):Prop where
 c0:w.cell? ⟨b,0,none⟩=some (.slice (some ⟨wb,0,none⟩) 4096 4096)
 c1:w.cell? ⟨b,1,none⟩=some (.int .u32 m.size)
 f1:w.frozen? ⟨b,1,none⟩=false
 wt:Wts w wb m.p
 ne:b≠wb
theorem split_val {m:M} (h:m.Wf) (i:Nat) (hi:i<4096):IntKind.u32.wrap ((m.size:Int) / 2048*((m.p i:Nat):Int))=((m.split i:Nat):Int):=by
 have h1:=M.split_bd h hi;have h2:=h.hi;have e:(m.size:Int) / 2048*((m.p i:Nat):Int)=((m.split i:Nat):Int):=by
  unfold M.split;rw [Int.natCast_mul];rfl
 rw [e];exact wrap_u32 (by omega) (by omega)
set_option maxHeartbeats 400000 in
theorem split_any (c:Int) (b wb:Nat) (m:M) (hm:m.Wf) (w:World) (h:Mod w b wb m) :
  Calls Tryz.prog 139 #[.pointer (some ⟨b,0,none⟩),.int .i64 c] w fun e w'=>e=.returned (.int .u32 (m.split (ctx c)))∧∃n,w'=w.drewN n:=by
 have hs:=split_val hm (ctx c) (ctx_lt c);have h1:=hm.hi;have hc0:=h.c0;have hc1:=h.c1;have hwt:=h.wt.cell (ctx_lt c);clear h hm;go_enter Tryz.func139,Tryz.ntmps139
 go_wp2_with fail
 go_quiet ((go_at_call 159;exact quiet_eq (weight_any _ _ _ _ hc0)))
 go_wp2
 go_ret
 exact ⟨rfl,_,rfl⟩
def inRow (v:Value):Nat→Prop:=fun k=>v.ownBlock=some k
def carried (ds:List Nat) (k:Nat):List Nat:=ds.take k++List.replicate (ds.length-k) 0
structure CarryAt (ds:List Nat) (base g cap:Nat) (w wr:World) (k:Nat):Prop where
 le:k≤ds.length
 own:wr.ownsRow base 5 1 (.slice (some ⟨g,0,none⟩) ds.length cap) ds.length ((carried ds k).map byteV)
 fr:w.grownBy wr (some g)
 spec:carry ds=carry (ds.take k)++List.replicate (ds.length-k) 0
theorem grownBy_trans {w w1 w2:World} {row:Option Nat} (h:w.grownBy w1 row) (k:w1.grownBy w2 row):w.grownBy w2 row:=
 ⟨k.os.trans h.os,k.tape.trans h.tape,k.output.trans h.output,Nat.le_trans h.size k.size,fun i hi hr=>
  (k.block i (Nat.lt_of_lt_of_le hi h.size) hr).trans (h.block i hi hr)⟩
theorem carried_set {ds:List Nat} {j:Nat} (hj:j<ds.length) (v:Nat) :
  (((carried ds (j+1)).map byteV).set j (byteV v))=(ds.take j++v :: List.replicate (ds.length-(j+1)) 0).map byteV:=by
 unfold carried;rw [take_snoc hj,←List.map_set];congr 1
 have hl:(ds.take j).length=j:=by simp;omega
 rw [List.append_assoc,List.set_append_right _ _ (by omega),hl];simp
theorem CarryAt.cell {ds:List Nat} {base g cap:Nat} {w wr:World} {j:Nat} (h:CarryAt ds base g cap w wr (j+1)) :
  ∃hj:j<ds.length,wr.cell? ⟨g,j,none⟩=some (.int .u8 ds[j]):=by
 have hj:=h.le;refine ⟨hj,?_⟩;rw [h.own.cellAt j (by omega)];unfold carried;have hj':j<ds.length:=hj;rw [take_snoc hj'];have hl:(ds.take j).length=j:=by simp;omega
 rw [List.append_assoc,List.map_append,List.getElem?_append_right (by simp;omega)];simp [byteV,Nat.min_eq_left (Nat.le_of_lt hj')]
theorem CarryAt.go {ds:List Nat} {base g cap:Nat} {w wr:World} {j:Nat} (h:CarryAt ds base g cap w wr (j+1)) (hj:j<ds.length) (he:ds[j]=255) :
  CarryAt ds base g cap w (wr.setCell ⟨g,j,none⟩ (.int .u8 0)) j:=by
 have hs:=h.own.stored j (byteV 0);rw [carried_set hj] at hs;refine ⟨by omega,?_,grownBy_trans h.fr hs.2,?_⟩
 ·have e:ds.take j++0 :: List.replicate (ds.length-(j+1)) 0=carried ds j:=by
   unfold carried;rw [show ds.length-j=(ds.length-(j+1))+1 from by omega,List.replicate_succ]
  rw [←e];exact hs.1
 ·rw [h.spec,take_snoc hj,he,carry_snoc_255,List.append_assoc,show ds.length-j=(ds.length-(j+1))+1 from by omega,List.replicate_succ];rfl
theorem CarryAt.stop {ds:List Nat} {base g cap:Nat} {w wr:World} {j:Nat} (h:CarryAt ds base g cap w wr (j+1)) (hj:j<ds.length) (he:ds[j]≠255) :
  (wr.setCell ⟨g,j,none⟩ (.int .u8 (ds[j]+1))).ownsRow base 5 1 (.slice (some ⟨g,0,none⟩) ds.length cap) ds.length ((carry ds).map byteV) ∧
   w.grownBy (wr.setCell ⟨g,j,none⟩ (.int .u8 (ds[j]+1))) (some g):=by
 have hs:=h.own.stored j (byteV (ds[j]+1));rw [carried_set hj] at hs;refine ⟨?_,grownBy_trans h.fr hs.2⟩;rw [h.spec,take_snoc hj,carry_snoc_ne _ he,List.append_assoc];exact hs.1
theorem CarryAt.start {ds:List Nat} {base g cap:Nat} {w:World}
  (hown:w.ownsRow base 5 1 (.slice (some ⟨g,0,none⟩) ds.length cap) ds.length (ds.map byteV)):CarryAt ds base g cap w w ds.length:=
 ⟨Nat.le_refl _,by simpa [carried] using hown,⟨rfl,rfl,rfl,Nat.le_refl _,fun _ _ _=>rfl⟩,by simp⟩
set_option maxHeartbeats 400000 in
theorem carry_any (base cap g:Nat) (ds:List Nat) (hds:∀d,d∈ds→d<256) (w:World)
  (hown:w.ownsRow base 5 1 (.slice (some ⟨g,0,none⟩) ds.length cap) ds.length (ds.map byteV)) (hn:ds.length≤maxLen) :
  Calls Tryz.prog 140 #[.slice (some ⟨g,0,none⟩) ds.length cap] w fun e w'=>e=.returned (.tuple #[]) ∧
   w'.ownsRow base 5 1 (.slice (some ⟨g,0,none⟩) ds.length cap) ds.length ((carry ds).map byteV)∧w.grownBy w' (some g):=by
 unfold maxLen at hn;have hst:=CarryAt.start hown;clear hown;go_enter Tryz.func140,Tryz.ntmps140
 go_wp2
 go_loopw [2] (fun i wr=>∃k:Nat,i=.int .i64 ((k:Int)-1)∧CarryAt ds base g cap w wr k) (fun i _=>(intOf i+1).toNat)
 case atStart=>exact ⟨_,rfl,hst⟩
 case round=>
  obtain ⟨k,rfl,hk⟩:=hrel;rcases k with _ | j
  ·have h1:decide (((0:Nat):Int)-1 ≥ 0)=false:=by decide
   have h2:=hk.own;have h3:=hk.fr;have h4:carry ds=carried ds 0:=by rw [hk.spec];rfl
   rw [←h4] at h2;clear hk h4;go_wp2
   go_end0
   exact ⟨rfl,h2,h3⟩
  ·obtain ⟨hj,hc⟩:=hk.cell;have hf:=hk.own.frozenAt j;have e1:(((j+1:Nat):Int)-1)=(j:Int):=by omega
   rw [e1];have hd:=hds ds[j] (List.getElem_mem hj);by_cases he:ds[j]=255
   ·have e2:IntKind.u8.wrap (((ds[j]:Nat):Int)+1)=0:=by rw [he];rfl
    have hgo:=hk.go hj he;clear he hk;go_wp2
    go_roundw
    case rel=>exact ⟨j,rfl,hgo⟩
    case measure=>simp [intOf]<;>omega
   ·have e2:IntKind.u8.wrap (((ds[j]:Nat):Int)+1)=(ds[j]:Int)+1:=wrap_u8 (by omega) (by omega);have e3:(((ds[j]:Nat):Int)+1 != 0)=true:=by rw [bne_iff_ne];omega
    have hgo:=hk.stop hj he;clear he hk;go_wp2
    refine bodyPost_ret (results_none rfl _ _ _) rfl ?_;exact ⟨rfl,hgo⟩
end Go.Proofs.YtmgklblglpplcaaGreatDoor
namespace Go.Proofs.YtmgklblglpplcaaGreatDoor
open Go Go.RowKit Pc
def zeroW:Array Value:=madeCells #[.int .u32 0] 4096
theorem zeroW_size:zeroW.size=4096:=size_madeCells _ _
theorem info_u32:(Tryz.prog.info? 80).map (fun i=>(i.zero,i.size,i.bytes))=some (some (.int .u32 0),1,4):=by kernel_rfl
theorem make_u32s (w:World):(Instr.makeSlice 226 (.int .i64 4096) (.int .i64 4096)).run Tryz.prog w=.ok (.slice (some ⟨w.heap.size,0,none⟩) 4096 4096) (w.alloc (.cells zeroW 80)):=by
 obtain ⟨i0,hi,hz0,hz1,hz2⟩:=info_parts info_u32;have h:=run_make (P:=Tryz.prog) w 226 80 i0 (.int .u32 0) Tryz.underlying226 hi hz0 .i64 .i64 4096 4096 (by omega) (by omega) (by rw [hz2];decide) (by omega);rw [hz1] at h;exact h
structure BeginAt (w wr:World) (b wb:Nat) (cs:Array Value) (T:TypeId) (k:Nat):Prop where
 le:k≤4096
 blk:wr.heap[b]?=some (.cells cs T (0,0))
 up:Upd (·=b) w wr
 new:w.heap.size≤wb
 ne:b≠wb
 row:∃arr:Array Value,wr.heap[wb]?=some (.cells arr 80 (0,0))∧arr.size=4096∧∀i,i<k→arr[i]?=some (.int .u32 1024)
theorem BeginAt.step {w wr:World} {b wb:Nat} {cs:Array Value} {T:TypeId} {k:Nat} (h:BeginAt w wr b wb cs T k) (hk:k<4096) :
  BeginAt w (wr.setCell ⟨wb,k,none⟩ (.int .u32 1024)) b wb cs T (k+1):=by
 obtain ⟨arr,h1,h2,h3⟩:=h.row;have hwb:=h.new;refine ⟨hk,heap_setCell_ne _ h.blk h.ne,h.up.setCell (fun hlt=>by simp at hlt;omega) _,h.new,h.ne,_,heap_setCell_eq _ h1,by simpa using h2,fun i hi=>?_⟩;rw [Array.getElem?_setIfInBounds];by_cases e:k=i
 ·subst e;simp [h2,hk]
 ·rw [if_neg e];exact h3 i (by omega)
theorem BeginAt.done {w wr:World} {b wb:Nat} {cs:Array Value} {T:TypeId} (h:BeginAt w wr b wb cs T 4096):Wts wr wb (fun _=>1024):=by
 obtain ⟨arr,h1,h2,h3⟩:=h.row;exact ⟨arr,h1,h2,h3⟩
set_option maxHeartbeats 400000 in
theorem begin_old (b:Nat) (w:World) (ad:Addr) (n c:Nat) (h0:w.cell? ⟨b,0,none⟩=some (.slice (some ad) n c)) :
  Calls Tryz.prog 137 #[.pointer (some ⟨b,0,none⟩)] w fun e w'=>e=.returned (.bool false)∧w=w':=by
 have q:=fun (w:World) (a:Option Addr) (n c n' c':Nat)=>run_neq_slice_nil_any (P:=Tryz.prog) w 226 80 a n c n' c' Tryz.underlying226;go_enter Tryz.func137,Tryz.ntmps137
 go_wp2
 go_ret
 exact ⟨rfl,rfl⟩
set_option maxRecDepth 100000 in
set_option maxHeartbeats 400000 in
theorem begin_new (b:Nat) (w:World) (cs:Array Value) (T:TypeId) (hb:w.heap[b]?=some (.cells cs T (0,0))) (h0:cs[0]?=some (.slice none 0 0)) (h1:1<cs.size) :
  Calls Tryz.prog 137 #[.pointer (some ⟨b,0,none⟩)] w fun e w'=>e=.returned (.bool true)∧∃wb,w.heap.size≤wb ∧
   w'.heap[b]?=some (.cells ((cs.setIfInBounds 0 (.slice (some ⟨wb,0,none⟩) 4096 4096)).setIfInBounds 1 (.int .u32 4294967295)) T (0,0))∧Wts w' wb (fun _=>1024)∧Upd (·=b) w w':=by
 have q:=fun (w:World) (a:Option Addr) (n c n' c':Nat)=>run_neq_slice_nil_any (P:=Tryz.prog) w 226 80 a n c n' c' Tryz.underlying226;have hmk:=make_u32s;have hc0:w.cell? ⟨b,0,none⟩=some (.slice none 0 0):=by rw [cell_of_row w b 0 cs T _ hb];exact h0
 have hc1:w.cell? ⟨b,1,none⟩=some cs[1]:=by rw [cell_of_row w b 1 cs T _ hb];simp [h1]
 have hf0:=frozen_of_row w b 0 cs T hb;have hf1:=frozen_of_row w b 1 cs T hb;have hlt:=lt_of_heap hb;go_enter Tryz.func137,Tryz.ntmps137
 have hst:BeginAt w (((w.setCell ⟨b,0,none⟩ (.slice (some ⟨w.heap.size,0,none⟩) 4096 4096)).setCell ⟨b,1,none⟩ (.int .u32 4294967295)).alloc (.cells zeroW 80))
   b w.heap.size ((cs.setIfInBounds 0 (.slice (some ⟨w.heap.size,0,none⟩) 4096 4096)).setIfInBounds 1 (.int .u32 4294967295)) T 0:=
  ⟨Nat.zero_le _,heap_alloc_keep _ (heap_setCell_eq _ (heap_setCell_eq _ hb)),(((Upd.refl (·=b) w).setCell (fun _=>rfl) _).setCell (fun _=>rfl) _).alloc _,Nat.le_refl _,by omega,
   zeroW,by have h:=heap_alloc_new ((w.setCell ⟨b,0,none⟩ (.slice (some ⟨w.heap.size,0,none⟩) 4096 4096)).setCell ⟨b,1,none⟩ (.int .u32 4294967295)) (.cells zeroW 80);simpa using h,zeroW_size,fun i hi=>by omega⟩
 go_wp2
 go_loopw [21] (fun i wr=>∃k:Nat,i=.int .i64 k∧BeginAt w wr b w.heap.size ((cs.setIfInBounds 0 (.slice (some ⟨w.heap.size,0,none⟩) 4096 4096)).setIfInBounds 1 (.int .u32 4294967295)) T k) (fun i _=>4096-(intOf i).toNat)
 case atStart=>exact ⟨0,rfl,hst⟩
 case round=>
  obtain ⟨k,rfl,hk⟩:=hrel;clear hst hc0 hc1 hf0 hf1 h0 hb hmk;by_cases hlt2:k<4096
  ·have hs:=hk.step hlt2;obtain ⟨arr,g1,g2,g3⟩:=hk.row;obtain ⟨v,c1⟩:∃v,wr.cell? ⟨w.heap.size,k,none⟩=some v:=⟨arr[k],by rw [cell_of_row wr _ k arr _ _ g1];simp [g2,hlt2]⟩;have f1:=frozen_of_row wr w.heap.size k arr _ g1;have c0:wr.cell? ⟨b,0,none⟩=some (.slice (some ⟨w.heap.size,0,none⟩) 4096 4096):=by rw [cell_of_row wr b 0 _ _ _ hk.blk,Array.getElem?_setIfInBounds_ne (by omega),Array.getElem?_setIfInBounds_self_of_lt (by omega)]
   clear hk g1 g2 g3;go_wp2
   go_roundw
   case rel=>exact ⟨k+1,by go_num,hs⟩
   case measure=>simp [intOf];omega
  ·obtain rfl:k=4096:=by have:=hk.le;omega
   have hd:=hk.done;have h2:=hk.blk;have h3:=hk.up;clear hk;go_wp2
   go_ret
   exact ⟨rfl,_,Nat.le_refl _,h2,hd,h3⟩
end Go.Proofs.YtmgklblglpplcaaGreatDoor
namespace Go.Proofs.YtmgklblglpplcaaGreatDoor
open Go Go.RowKit Pc
set_option maxRecDepth 100000
theorem Wts.drewN {w:World} {b:Nat} {p:Nat→Nat} (h:Wts w b p) (n:Nat):Wts (w.drewN n) b p:=h
structure Upded (w w':World) (b wb:Nat) (cs:Array Value) (T:TypeId) (m:M):Prop where
 blk:w'.heap[b]?=some (.cells (cs.setIfInBounds 1 (.int .u32 m.size)) T (0,0))
 wt:Wts w' wb m.p
 up:Upd (fun k=>k=b∨k=wb) w w'
theorem newp_val {m:M} (h:m.Wf) {i:Nat} (hi:i<4096):(((m.p i:Nat):Int)+(2048-((m.p i:Nat):Int)) % 4294967296 / 32) % 4294967296=((m.newp i false:Nat):Int):=by
 have h1:=h.pl i hi;have h2:=h.ph i hi;unfold M.newp;simp only [Bool.false_eq_true,if_false];omega
theorem newp_val1 {m:M} (h:m.Wf) {i:Nat} (hi:i<4096):(((m.p i:Nat):Int)-((m.p i:Nat):Int) / 32) % 4294967296=((m.newp i true:Nat):Int):=by
 have h1:=h.pl i hi;have h2:=h.ph i hi;unfold M.newp;simp only [if_true];omega
theorem raw_val1 {m:M} (h:m.Wf) {i:Nat} (hi:i<4096):((m.size:Int)-((m.split i:Nat):Int)) % 4294967296=((m.raw i true:Nat):Int):=by
 have h1:=M.split_bd h hi;have h2:=h.hi;unfold M.raw;simp only [if_true];omega
theorem raw_val0 (m:M) (i:Nat):m.split i=m.raw i false:=by unfold M.raw;simp
structure Pend (w w':World) (b wb:Nat) (cs:Array Value) (T:TypeId) (raw:Nat) (p:Nat→Nat):Prop where
 blk:w'.heap[b]?=some (.cells (cs.setIfInBounds 1 (.int .u32 raw)) T (0,0))
 wt:Wts w' wb p
 up:Upd (fun k=>k=b∨k=wb) w w'
theorem Pend.cell {w w':World} {b wb:Nat} {cs:Array Value} {T:TypeId} {raw:Nat} {p:Nat→Nat} (h:Pend w w' b wb cs T raw p) (h1:1<cs.size) :
  w'.cell? ⟨b,1,none⟩=some (.int .u32 raw)∧w'.frozen? ⟨b,1,none⟩=false:=
 ⟨by rw [cell_of_row w' b 1 _ _ _ h.blk,Array.getElem?_setIfInBounds_self_of_lt h1],frozen_of_row w' b 1 _ _ h.blk⟩
theorem Pend.go {w w':World} {b wb:Nat} {cs:Array Value} {T:TypeId} {raw:Nat} {p:Nat→Nat} (h:Pend w w' b wb cs T raw p) (hne:b≠wb) (v:Nat) :
  Pend w (w'.setCell ⟨b,1,none⟩ (.int .u32 v)) b wb cs T v p:=
 ⟨by have:=heap_setCell_eq (i:=1) (.int .u32 v) h.blk;rwa [Array.setIfInBounds_setIfInBounds] at this,
 h.wt.keep (heap_setCell_other _ _ _ _ (fun e=>hne e.symm)),h.up.setCell (fun _=>.inl rfl) _⟩
theorem Pend.upded {w w':World} {b wb:Nat} {cs:Array Value} {T:TypeId} {m:M} (h:Pend w w' b wb cs T m.size m.p):Upded w w' b wb cs T m:=⟨h.blk,h.wt,h.up⟩
theorem Pend.start {w:World} {b wb:Nat} {cs:Array Value} {T:TypeId} {p:Nat→Nat} (hb:w.heap[b]?=some (.cells cs T (0,0))) (hwt:Wts w wb p) (hne:b≠wb) (n raw i v:Nat) :
  Pend w (((w.drewN n).setCell ⟨b,1,none⟩ (.int .u32 raw)).setCell ⟨wb,i,none⟩ (.int .u32 v)).drew b wb cs T raw (upd p i v):=
 ⟨heap_setCell_ne (w:=(w.drewN n).setCell ⟨b,1,none⟩ (.int .u32 raw)) _ (heap_setCell_eq _ hb) hne,
 Wts.set (w:=(w.drewN n).setCell ⟨b,1,none⟩ (.int .u32 raw)) (hwt.keep (heap_setCell_other _ _ _ _ (fun e=>hne e.symm))) i v,
 (((Upd.ofDrewN w n).setCell (fun _=>.inl rfl) _).setCell (fun _=>.inr rfl) _).drew⟩
def small (b:Nat) (wr:World):Nat:=match wr.cell? ⟨b,1,none⟩ with | some (.int _ n)=>if n<16777216 then 1 else 0 | _=>0
theorem small_one {b:Nat} {wr:World} {n:Nat} (h:wr.cell? ⟨b,1,none⟩=some (.int .u32 n)) (hn:n<16777216):small b wr=1:=by
 unfold small;rw [h];simp only;rw [if_pos (by omega)]
theorem small_zero {b:Nat} {wr:World} {n:Nat} (h:wr.cell? ⟨b,1,none⟩=some (.int .u32 n)) (hn:16777216≤n):small b wr=0:=by
 unfold small;rw [h];simp only;rw [if_neg (by omega)]
set_option maxHeartbeats 1000000 in
theorem update_W (c:Int) (one:Bool) (b wb wc:Nat) (m:M) (hm:m.Wf) (w:World) (cs:Array Value) (T:TypeId) (hb:w.heap[b]?=some (.cells cs T (0,0)))
  (h0:cs[0]?=some (.slice (some ⟨wb,0,none⟩) 4096 4096)) (h1:cs[1]?=some (.int .u32 m.size)) (hwt:Wts w wb m.p) (hne:b≠wb)
  (K:World→Prop) (hno:m.shifts (ctx c) one=false→∀w',Upded w w' b wb cs T (m.step (ctx c) one)→K w')
  (hyes:m.shifts (ctx c) one=true→∀w',Upded w w' b wb cs T (m.step (ctx c) one) →
   Calls Tryz.prog 142 #[.pointer (some ⟨wc,0,none⟩)] w' fun e w''=>e=.returned (.tuple #[])∧w''.cell? ⟨b,1,none⟩=some (.int .u32 (m.step (ctx c) one).size)∧K w'') :
  Calls Tryz.prog 141 #[.pointer (some ⟨b,0,none⟩),.int .i64 c,.bool one,.func (.func 142) #[] #[.pointer (some ⟨wc,0,none⟩)]] w fun e w'=>e=.returned (.tuple #[])∧K w':=by
 have hc0:w.cell? ⟨b,0,none⟩=some (.slice (some ⟨wb,0,none⟩) 4096 4096):=by rw [cell_of_row w b 0 cs T _ hb];exact h0
 have hc1:w.cell? ⟨b,1,none⟩=some (.int .u32 m.size):=by rw [cell_of_row w b 1 cs T _ hb];exact h1
 have hf1:=frozen_of_row w b 1 cs T hb;have hcw:=hwt.cell (ctx_lt c);have hfw:=hwt.free (ctx c);have hmod:∀n,Mod (w.drewN n) b wb m:=fun n=>⟨hc0,hc1,hf1,hwt,hne⟩;have h1':1<cs.size:=(Array.getElem?_eq_some_iff.1 h1).1;have hn:=norm_bd (M.raw_bd hm (ctx_lt c) one).1 (M.raw_bd hm (ctx_lt c) one).2;have rb:=M.raw_bd hm (ctx_lt c) one;cases one
 ·have v1:=newp_val hm (ctx_lt c);have v2:=raw_val0 m (ctx c);go_enter Tryz.func141,Tryz.ntmps141
  go_wp2_with (first | (go_at_call 159;refine (weight_any _ _ _ _ hc0).mono ?_;rintro e w' ⟨rfl,rfl⟩) | (go_at_call 139;refine (split_any _ _ _ _ hm _ (hmod 0)).mono ?_;rintro e w' ⟨rfl,n,rfl⟩))
  go_region
  go_wp2
  go_loopw [] (fun wr=>Pend w wr b wb cs T (m.raw (ctx c) false) (upd m.p (ctx c) (m.newp (ctx c) false))∨(wr.cell? ⟨b,1,none⟩=some (.int .u32 (norm (m.raw (ctx c) false)))∧K wr)) (fun wr=>small b wr)
  case atStart=>exact .inl (Pend.start hb hwt hne _ _ _ _)
  case round=>
   clear hb h0 hwt hc0 hc1 hf1 hcw hfw hmod v1 v2;rcases hrel with hp | ⟨g1,g2⟩
   ·obtain ⟨g1,g2⟩:=hp.cell h1';by_cases hs:m.raw (ctx c) false<16777216
    ·have e1:norm (m.raw (ctx c) false)=m.raw (ctx c) false*256:=by unfold norm;rw [if_pos hs]
     have e2:((m.raw (ctx c) false:Nat):Int)*256=((norm (m.raw (ctx c) false):Nat):Int):=by rw [e1];omega
     have hn2:((norm (m.raw (ctx c) false):Nat):Int)<4294967296:=by omega
     have hy:=hyes (by unfold M.shifts;simpa using hs) _ (Pend.upded (m:=m.step (ctx c) false) (hp.go hne (norm (m.raw (ctx c) false))));have e3:(m.step (ctx c) false).size=norm (m.raw (ctx c) false):=rfl;rw [e3] at hy;have g3:=small_one g1 hs;have hlow:16777216≤norm (m.raw (ctx c) false):=hn.1;have E1:=Lib.hid e1;have E3:=Lib.hid e3;have HY:=Lib.hid hy;have G3:=Lib.hid g3;have LO:=Lib.hid hlow;have hs':((m.raw (ctx c) false:Nat):Int)<16777216:=by omega
     clear e1 e3 hn rb hy g3 hp hno hyes hlow hs;go_wp2_with (go_at_call 142;refine HY.out.mono ?_;rintro e w' ⟨rfl,q1,q2⟩)
     go_roundw
     case rel=>exact .inr ⟨q1,q2⟩
     case measure=>rw [G3.out,small_zero q1 LO.out];omega
    ·have hK:=hno (by unfold M.shifts;simpa using hs) wr (Pend.upded (m:=m.step (ctx c) false) (by
      have e1:(m.step (ctx c) false).size=m.raw (ctx c) false:=by show norm _=_;unfold norm;rw [if_neg hs]
      rw [e1];exact hp))
     have hs':¬((m.raw (ctx c) false:Nat):Int)<16777216:=by omega
     clear hp hno hyes;go_wp2
     go_end0
     exact ⟨rfl,hK⟩
   ·have hs':¬((norm (m.raw (ctx c) false):Nat):Int)<16777216:=by omega
    clear hno hyes;go_wp2
    go_end0
    exact ⟨rfl,g2⟩
 ·have v1:=newp_val1 hm (ctx_lt c);have v2:=raw_val1 hm (ctx_lt c);go_enter Tryz.func141,Tryz.ntmps141
  go_wp2_with (first | (go_at_call 159;refine (weight_any _ _ _ _ hc0).mono ?_;rintro e w' ⟨rfl,rfl⟩) | (go_at_call 139;refine (split_any _ _ _ _ hm _ (hmod 0)).mono ?_;rintro e w' ⟨rfl,n,rfl⟩))
  go_region
  go_wp2
  go_loopw [] (fun wr=>Pend w wr b wb cs T (m.raw (ctx c) true) (upd m.p (ctx c) (m.newp (ctx c) true))∨(wr.cell? ⟨b,1,none⟩=some (.int .u32 (norm (m.raw (ctx c) true)))∧K wr)) (fun wr=>small b wr)
  case atStart=>exact .inl (Pend.start hb hwt hne _ _ _ _)
  case round=>
   clear hb h0 hwt hc0 hc1 hf1 hcw hfw hmod v1 v2;rcases hrel with hp | ⟨g1,g2⟩
   ·obtain ⟨g1,g2⟩:=hp.cell h1';by_cases hs:m.raw (ctx c) true<16777216
    ·have e1:norm (m.raw (ctx c) true)=m.raw (ctx c) true*256:=by unfold norm;rw [if_pos hs]
     have e2:((m.raw (ctx c) true:Nat):Int)*256=((norm (m.raw (ctx c) true):Nat):Int):=by rw [e1];omega
     have hn2:((norm (m.raw (ctx c) true):Nat):Int)<4294967296:=by omega
     have hy:=hyes (by unfold M.shifts;simpa using hs) _ (Pend.upded (m:=m.step (ctx c) true) (hp.go hne (norm (m.raw (ctx c) true))));have e3:(m.step (ctx c) true).size=norm (m.raw (ctx c) true):=rfl;rw [e3] at hy;have g3:=small_one g1 hs;have hlow:16777216≤norm (m.raw (ctx c) true):=hn.1;have E1:=Lib.hid e1;have E3:=Lib.hid e3;have HY:=Lib.hid hy;have G3:=Lib.hid g3;have LO:=Lib.hid hlow;have hs':((m.raw (ctx c) true:Nat):Int)<16777216:=by omega
     clear e1 e3 hn rb hy g3 hp hno hyes hlow hs;go_wp2_with (go_at_call 142;refine HY.out.mono ?_;rintro e w' ⟨rfl,q1,q2⟩)
     go_roundw
     case rel=>exact .inr ⟨q1,q2⟩
     case measure=>rw [G3.out,small_zero q1 LO.out];omega
    ·have hK:=hno (by unfold M.shifts;simpa using hs) wr (Pend.upded (m:=m.step (ctx c) true) (by
      have e1:(m.step (ctx c) true).size=m.raw (ctx c) true:=by show norm _=_;unfold norm;rw [if_neg hs]
      rw [e1];exact hp))
     have hs':¬((m.raw (ctx c) true:Nat):Int)<16777216:=by omega
     clear hp hno hyes;go_wp2
     go_end0
     exact ⟨rfl,hK⟩
   ·have hs':¬((norm (m.raw (ctx c) true):Nat):Int)<16777216:=by omega
    clear hno hyes;go_wp2
    go_end0
    exact ⟨rfl,g2⟩
set_option maxHeartbeats 1000000 in
theorem update_R (c:Int) (one:Bool) (b wb rc:Nat) (m:M) (hm:m.Wf) (w:World) (cs:Array Value) (T:TypeId) (hb:w.heap[b]?=some (.cells cs T (0,0)))
  (h0:cs[0]?=some (.slice (some ⟨wb,0,none⟩) 4096 4096)) (h1:cs[1]?=some (.int .u32 m.size)) (hwt:Wts w wb m.p) (hne:b≠wb)
  (K:World→Prop) (hno:m.shifts (ctx c) one=false→∀w',Upded w w' b wb cs T (m.step (ctx c) one)→K w')
  (hyes:m.shifts (ctx c) one=true→∀w',Upded w w' b wb cs T (m.step (ctx c) one) →
   Calls Tryz.prog 153 #[.pointer (some ⟨rc,0,none⟩)] w' fun e w''=>e=.returned (.tuple #[])∧w''.cell? ⟨b,1,none⟩=some (.int .u32 (m.step (ctx c) one).size)∧K w'') :
  Calls Tryz.prog 141 #[.pointer (some ⟨b,0,none⟩),.int .i64 c,.bool one,.func (.func 153) #[.pointer (some ⟨rc,0,none⟩)] #[]] w fun e w'=>e=.returned (.tuple #[])∧K w':=by
 have hc0:w.cell? ⟨b,0,none⟩=some (.slice (some ⟨wb,0,none⟩) 4096 4096):=by rw [cell_of_row w b 0 cs T _ hb];exact h0
 have hc1:w.cell? ⟨b,1,none⟩=some (.int .u32 m.size):=by rw [cell_of_row w b 1 cs T _ hb];exact h1
 have hf1:=frozen_of_row w b 1 cs T hb;have hcw:=hwt.cell (ctx_lt c);have hfw:=hwt.free (ctx c);have hmod:∀n,Mod (w.drewN n) b wb m:=fun n=>⟨hc0,hc1,hf1,hwt,hne⟩;have h1':1<cs.size:=(Array.getElem?_eq_some_iff.1 h1).1;have hn:=norm_bd (M.raw_bd hm (ctx_lt c) one).1 (M.raw_bd hm (ctx_lt c) one).2;have rb:=M.raw_bd hm (ctx_lt c) one;cases one
 ·have v1:=newp_val hm (ctx_lt c);have v2:=raw_val0 m (ctx c);go_enter Tryz.func141,Tryz.ntmps141
  go_wp2_with (first | (go_at_call 159;refine (weight_any _ _ _ _ hc0).mono ?_;rintro e w' ⟨rfl,rfl⟩) | (go_at_call 139;refine (split_any _ _ _ _ hm _ (hmod 0)).mono ?_;rintro e w' ⟨rfl,n,rfl⟩))
  go_region
  go_wp2
  go_loopw [] (fun wr=>Pend w wr b wb cs T (m.raw (ctx c) false) (upd m.p (ctx c) (m.newp (ctx c) false))∨(wr.cell? ⟨b,1,none⟩=some (.int .u32 (norm (m.raw (ctx c) false)))∧K wr)) (fun wr=>small b wr)
  case atStart=>exact .inl (Pend.start hb hwt hne _ _ _ _)
  case round=>
   clear hb h0 hwt hc0 hc1 hf1 hcw hfw hmod v1 v2;rcases hrel with hp | ⟨g1,g2⟩
   ·obtain ⟨g1,g2⟩:=hp.cell h1';by_cases hs:m.raw (ctx c) false<16777216
    ·have e1:norm (m.raw (ctx c) false)=m.raw (ctx c) false*256:=by unfold norm;rw [if_pos hs]
     have e2:((m.raw (ctx c) false:Nat):Int)*256=((norm (m.raw (ctx c) false):Nat):Int):=by rw [e1];omega
     have hn2:((norm (m.raw (ctx c) false):Nat):Int)<4294967296:=by omega
     have hy:=hyes (by unfold M.shifts;simpa using hs) _ (Pend.upded (m:=m.step (ctx c) false) (hp.go hne (norm (m.raw (ctx c) false))));have e3:(m.step (ctx c) false).size=norm (m.raw (ctx c) false):=rfl;rw [e3] at hy;have g3:=small_one g1 hs;have hlow:16777216≤norm (m.raw (ctx c) false):=hn.1;have E1:=Lib.hid e1;have E3:=Lib.hid e3;have HY:=Lib.hid hy;have G3:=Lib.hid g3;have LO:=Lib.hid hlow;have hs':((m.raw (ctx c) false:Nat):Int)<16777216:=by omega
     clear e1 e3 hn rb hy g3 hp hno hyes hlow hs;go_wp2_with (go_at_call 153;refine HY.out.mono ?_;rintro e w' ⟨rfl,q1,q2⟩)
     go_roundw
     case rel=>exact .inr ⟨q1,q2⟩
     case measure=>rw [G3.out,small_zero q1 LO.out];omega
    ·have hK:=hno (by unfold M.shifts;simpa using hs) wr (Pend.upded (m:=m.step (ctx c) false) (by
      have e1:(m.step (ctx c) false).size=m.raw (ctx c) false:=by show norm _=_;unfold norm;rw [if_neg hs]
      rw [e1];exact hp))
     have hs':¬((m.raw (ctx c) false:Nat):Int)<16777216:=by omega
     clear hp hno hyes;go_wp2
     go_end0
     exact ⟨rfl,hK⟩
   ·have hs':¬((norm (m.raw (ctx c) false):Nat):Int)<16777216:=by omega
    clear hno hyes;go_wp2
    go_end0
    exact ⟨rfl,g2⟩
 ·have v1:=newp_val1 hm (ctx_lt c);have v2:=raw_val1 hm (ctx_lt c);go_enter Tryz.func141,Tryz.ntmps141
  go_wp2_with (first | (go_at_call 159;refine (weight_any _ _ _ _ hc0).mono ?_;rintro e w' ⟨rfl,rfl⟩) | (go_at_call 139;refine (split_any _ _ _ _ hm _ (hmod 0)).mono ?_;rintro e w' ⟨rfl,n,rfl⟩))
  go_region
  go_wp2
  go_loopw [] (fun wr=>Pend w wr b wb cs T (m.raw (ctx c) true) (upd m.p (ctx c) (m.newp (ctx c) true))∨(wr.cell? ⟨b,1,none⟩=some (.int .u32 (norm (m.raw (ctx c) true)))∧K wr)) (fun wr=>small b wr)
  case atStart=>exact .inl (Pend.start hb hwt hne _ _ _ _)
  case round=>
   clear hb h0 hwt hc0 hc1 hf1 hcw hfw hmod v1 v2;rcases hrel with hp | ⟨g1,g2⟩
   ·obtain ⟨g1,g2⟩:=hp.cell h1';by_cases hs:m.raw (ctx c) true<16777216
    ·have e1:norm (m.raw (ctx c) true)=m.raw (ctx c) true*256:=by unfold norm;rw [if_pos hs]
     have e2:((m.raw (ctx c) true:Nat):Int)*256=((norm (m.raw (ctx c) true):Nat):Int):=by rw [e1];omega
     have hn2:((norm (m.raw (ctx c) true):Nat):Int)<4294967296:=by omega
     have hy:=hyes (by unfold M.shifts;simpa using hs) _ (Pend.upded (m:=m.step (ctx c) true) (hp.go hne (norm (m.raw (ctx c) true))));have e3:(m.step (ctx c) true).size=norm (m.raw (ctx c) true):=rfl;rw [e3] at hy;have g3:=small_one g1 hs;have hlow:16777216≤norm (m.raw (ctx c) true):=hn.1;have E1:=Lib.hid e1;have E3:=Lib.hid e3;have HY:=Lib.hid hy;have G3:=Lib.hid g3;have LO:=Lib.hid hlow;have hs':((m.raw (ctx c) true:Nat):Int)<16777216:=by omega
     clear e1 e3 hn rb hy g3 hp hno hyes hlow hs;go_wp2_with (go_at_call 153;refine HY.out.mono ?_;rintro e w' ⟨rfl,q1,q2⟩)
     go_roundw
     case rel=>exact .inr ⟨q1,q2⟩
     case measure=>rw [G3.out,small_zero q1 LO.out];omega
    ·have hK:=hno (by unfold M.shifts;simpa using hs) wr (Pend.upded (m:=m.step (ctx c) true) (by
      have e1:(m.step (ctx c) true).size=m.raw (ctx c) true:=by show norm _=_;unfold norm;rw [if_neg hs]
      rw [e1];exact hp))
     have hs':¬((m.raw (ctx c) true:Nat):Int)<16777216:=by omega
     clear hp hno hyes;go_wp2
     go_end0
     exact ⟨rfl,hK⟩
   ·have hs':¬((norm (m.raw (ctx c) true):Nat):Int)<16777216:=by omega
    clear hno hyes;go_wp2
    go_end0
    exact ⟨rfl,g2⟩
end Go.Proofs.YtmgklblglpplcaaGreatDoor
