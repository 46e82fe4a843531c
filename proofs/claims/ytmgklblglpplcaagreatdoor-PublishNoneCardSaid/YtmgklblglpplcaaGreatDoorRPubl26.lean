/- Parts: SHA-256: what stays below 2^32, and rows of words that are filled from the front. No condition. Small laws of the walk: an operation whose value is known. No condition. Walks of the disk: New, Fail, Size, call, own, put. No condition. -/
import Derived.Test.YtmgklblglpplcaaGreatDoorRPubl1
import Derived.Test.YtmgklblglpplcaaGreatDoorRPubl2
import Derived.Test.YtmgklblglpplcaaGreatDoorRPubl3
import Derived.Test.YtmgklblglpplcaaGreatDoorRPubl5
import Derived.Test.YtmgklblglpplcaaGreatDoorRPubl6
import Derived.Test.YtmgklblglpplcaaGreatDoorRPubl10
import Derived.Test.YtmgklblglpplcaaGreatDoorRPubl12
import Derived.Test.YtmgklblglpplcaaGreatDoorRPubl14
import Derived.Test.YtmgklblglpplcaaGreatDoorRPubl16
import Derived.Test.YtmgklblglpplcaaGreatDoorRPubl19
import Derived.Test.YtmgklblglpplcaaGreatDoorRPubl20
import Derived.Test.YtmgklblglpplcaaGreatDoorRPubl22
import Derived.Test.YtmgklblglpplcaaGreatDoorRPubl25
import Derived.WalkKit
import Derived.WalkSpells
import Derived.WalkLawsBesides
import Derived.Lib.Hide
import Derived.BigQuiet
import Derived.Deep.DeepFit
import Derived.Deep.DeepCutAuto
import Derived.Deep.AppendLies
import Derived.Deep.QuietTactic
import Derived.Test.YtmgklblglpplcaaGreatDoorRows
import Derived.Deep.RegionHeld3
import Derived.StillTail
import Derived.Lib.AppendStr
import Derived.Lib.AppendZeros
import Derived.Deep.MidRow
import Derived.ArgAppend
import Derived.Deep.Upon
import Derived.Maps.OwnOps
import Derived.Maps.OwnSet
import Derived.Maps.RangeWalk
import Derived.WideKeyEntry
import Derived.Lib.Bits
import Derived.Laws.EntriesVeiled
import Derived.Handy
import Derived.DeepKeys4
import Derived.Deep.CutBlock
import Derived.Test.YtmgklblglpplcaaGreatDoorShelf2
import Derived.Laws.BitsAllLaws
import Derived.Laws.BytesArg
import Derived.Test.YtmgklblglpplcaaGreatDoorShelf
import Derived.Lib.Zigzag
import Derived.Recover
import Derived.Deep.WholeRow
import Derived.Laws.IdiomStrings
import Derived.Laws.MakeOwn
import Derived.Laws.CopyOwn
namespace Go.Proofs.YtmgklblglpplcaaGreatDoor
open Go Go.RowKit Pk
set_option maxRecDepth 100000
theorem wpList_copy_run {P:Program} {ops:Array Oper} {rest:List Oper} {o:Oper} {a:Act} {w w':World} {Q:Exit→Act→World→Prop} (hgd:o.guard=none) (s x:Operand) (t t2:TypeId)
  (ho:o.op=.call { callee:=.builtin .copy,args:=#[s,x],argTypes:=#[t,t2] }) {vs vx v':Value} (hs:a.eval s=vs) (hx:a.eval x=vx)
  (hr:(Builtin.copy_ #[t,t2] o.type #[vs,vx]).run P w=.ok v' w') (h:wpList P ops Q rest (a.put o.dst v') w'):wpList P ops Q (o :: rest) a w:=by
 refine wpList_plain hgd fun K hK=>?_;unfold Oper.wp execOp;simp only [ho,resolve,invoke,builtin,Sem.run_bind,Sem.run_pure,Result.andThen_ok,List.map_toArray,List.map_cons,List.map_nil,hs,hx,hr];exact hK _ _ h
theorem copy_new {w:World} {A:Option Addr} {cap:Nat} {l:Bytes} {base:Nat} (h:OwB base w (.slice A l.length cap) l) (n:Nat) (hn:l.length≤n) (ty:TypeId) :
  (Builtin.copy_ #[48,48] ty #[.slice (some ⟨w.heap.size,0,none⟩) n n,.slice A l.length cap]).run Tryz.prog (w.alloc (.cells (byV (List.replicate n 0)).toArray 5))=.ok (goInt l.length) (w.alloc (.cells (byV (l++List.replicate (n-l.length) 0)).toArray 5)):=by
 by_cases h0:l.length=0
 ·obtain rfl:l=[]:=List.eq_nil_of_length_eq_zero h0;exact run_copy_none (P:=Tryz.prog) _ 48 48 ty 5 _ A n n _ cap Tryz.underlying48 info_u8s (by simp)
 ·rcases h.2 with ⟨e,e0⟩ | ⟨g,cap',cur,e,h1,h2,h3,h4,h5,h6⟩
  ·exact absurd e0 h0
  ·cases e;have hrd:=(OwB.rd h).2;have hlt:=lt_of_heap h2;have hr:=run_copy_row (P:=Tryz.prog) (w.alloc (.cells (byV (List.replicate n 0)).toArray 5)) 48 48 ty 5 w.heap.size 0 n n ⟨g,0,none⟩ l.length cap (byV (List.replicate n 0)).toArray 5 (byV l) Tryz.underlying48 info_u8s (heap_alloc_new w _) (by rw [byV_len];exact (Nat.min_eq_left hn).symm)
    (fun j v hv=>by
     have h8:=hrd j v hv;have e:(⟨g,0,none⟩:Addr).add j=⟨g,0+j,none⟩:=by unfold Addr.add;split<;>simp_all
     rw [e];exact cell_alloc_keep _ h8) (by simp [byV];exact hn) (byV_one l)
   rw [hr,World.setRow_alloc_new,byV_len];congr 5
   simp [byV]
theorem down_any (nv:Value) (l:Bytes) (hl:l.length≤100000) (w:World) {base:Nat} (h:OwB base w nv l):Calls Tryz.prog 28 #[nv] w fun e w'=>∃v,e=.returned v∧OwB w.heap.size w' v l∧Upd noBlk w w':=by
 obtain ⟨A,cap,rfl,hc⟩:=h.form;have hmk:=make_zeros l.length (by omega) w;have hcp:=copy_new h l.length (Nat.le_refl _) 3;rw [Nat.sub_self,List.replicate_zero,List.append_nil] at hcp;have HC:=Lib.hid hcp;have H1:=Lib.hid (OwB.whole (base:=w.heap.size) (Nat.le_refl _) (heap_alloc_new w (.cells (byV l).toArray 5)) (by omega));have H2:Hid (Upd noBlk w (w.alloc (.cells (byV l).toArray 5))):=(Upd.refl _ _).alloc _;obtain ⟨n,hn⟩:∃n,n=l.length:=⟨_,rfl⟩;rw [←hn] at hmk HC H1;clear h hcp hl hc;rw [←hn];generalize hz:List.replicate n (0:UInt8)=z at hmk HC;clear hz hn;go_enter Tryz.func28,Tryz.ntmps28
 go_wp2_with (first | (refine wpList_copy_run rfl _ _ _ _ rfl rfl rfl HC.out ?_))
 go_ret
 exact ⟨_,rfl,H1.out,H2.out⟩
def dskB (nv sv lv:Value) (ca p lf:Int):Obj:=.cells #[nv,sv,lv,.int .i64 ca,.int .i64 p,.int .i64 lf] 60 (0,0)
theorem dsk_cells {w:World} {D:Nat} {nv sv lv:Value} {ca p lf:Int} (h:w.heap[D]?=some (dskB nv sv lv ca p lf)):w.cell? ⟨D,0,none⟩=some nv∧w.cell? ⟨D,1,none⟩=some sv∧w.cell? ⟨D,2,none⟩=some lv∧w.cell? ⟨D,3,none⟩=some (.int .i64 ca) ∧
  w.cell? ⟨D,4,none⟩=some (.int .i64 p)∧w.cell? ⟨D,5,none⟩=some (.int .i64 lf)∧w.frozen? ⟨D,0,none⟩=false∧w.frozen? ⟨D,1,none⟩=false∧w.frozen? ⟨D,2,none⟩=false∧w.frozen? ⟨D,3,none⟩=false∧w.frozen? ⟨D,4,none⟩=false∧w.frozen? ⟨D,5,none⟩=false:=by
 simp [World.cell?,World.frozen?,h,dskB]
theorem dcall_any {D:Nat} {nv sv lv:Value} {ca lf:Int} (hca:0≤ca∧ca≤1000000) (w:World) (h:w.heap[D]?=some (dskB nv sv lv ca 0 lf)) :
  Calls Tryz.prog 27 #[.pointer (some ⟨D,0,none⟩)] w fun e w'=>e=.returned (.bool true)∧w'.heap[D]?=some (dskB nv sv lv (ca+1) 0 lf)∧Upd (fun k=>k=D) w w':=by
 obtain ⟨c0,c1,c2,c3,c4,c5,f0,f1,f2,f3,f4,f5⟩:=dsk_cells h;have H:=Lib.hid h;have h63:ca+1≤9223372036854775807:=by omega
 have h0:-9223372036854775808≤ca+1:=by omega
 clear h hca;go_enter Tryz.func27,Tryz.ntmps27
 go_wp2_with fail
 go_ret
 refine ⟨rfl,(heap_setCell_eq _ H.out).trans rfl,(Upd.refl (fun k=>k=D) w).setCell (p:=⟨D,3,none⟩) (fun _=>rfl) _⟩
theorem dcall_off {D:Nat} {nv sv lv:Value} {ca:Int} (w:World) (h:w.heap[D]?=some (dskB nv sv lv ca 1 0)) :
  Calls Tryz.prog 27 #[.pointer (some ⟨D,0,none⟩)] w fun e w'=>e=.returned (.bool false)∧w'=w:=by
 obtain ⟨c0,c1,c2,c3,c4,c5,f0,f1,f2,f3,f4,f5⟩:=dsk_cells h;clear h;go_enter Tryz.func27,Tryz.ntmps27
 go_wp2_with fail
 go_ret
 exact ⟨rfl,rfl⟩
theorem dnew_any (w:World):Calls Tryz.prog 6 #[] w fun e w'=>e=.returned (.pointer (some ⟨w.heap.size,0,none⟩))∧w'=w.alloc (dskB (.slice none 0 0) (.slice none 0 0) (.slice none 0 0) 0 0 0):=by
 have hz:∀W,(zeroValue 60).run Tryz.prog W=.ok (.agg #[.slice none 0 0,.slice none 0 0,.slice none 0 0,.int .i64 0,.int .i64 0,.int .i64 0]) W:=fun W=>by kernel_rfl
 go_enter Tryz.func6,Tryz.ntmps6
 go_wp2_with fail
 go_ret
 exact ⟨rfl,rfl⟩
theorem dfail_any {D:Nat} {nv sv lv:Value} {ca p lf:Int} (w:World) (h:w.heap[D]?=some (dskB nv sv lv ca p lf)) :
  Calls Tryz.prog 7 #[.pointer (some ⟨D,0,none⟩),.int .i64 0] w fun e w'=>e=.returned (.tuple #[])∧w'.heap[D]?=some (dskB nv sv lv ca 1 0)∧Upd (fun k=>k=D) w w':=by
 obtain ⟨c0,c1,c2,c3,c4,c5,f0,f1,f2,f3,f4,f5⟩:=dsk_cells h;have H:=Lib.hid h;clear h;go_enter Tryz.func7,Tryz.ntmps7
 go_wp2_with fail
 go_end0
 have h1:=heap_setCell_eq (i:=4) (.int .i64 1) H.out;refine ⟨rfl,(heap_setCell_eq (i:=5) (.int .i64 0) h1).trans rfl,((Upd.refl (fun k=>k=D) w).setCell (p:=⟨D,4,none⟩) (fun _=>rfl) _).setCell (p:=⟨D,5,none⟩) (fun _=>rfl) _⟩
end Go.Proofs.YtmgklblglpplcaaGreatDoor
namespace Go.Proofs.YtmgklblglpplcaaGreatDoor
open Go Go.RowKit Pk
namespace Dg
structure S8.Ok (s:S8):Prop where
 a:s.a<4294967296
 b:s.b<4294967296
 c:s.c<4294967296
 d:s.d<4294967296
 e:s.e<4294967296
 f:s.f<4294967296
 g:s.g<4294967296
 h:s.h<4294967296
theorem rnd_ok (k w:Nat) {s:S8} (h:s.Ok):(rnd k w s).Ok:=⟨Nat.mod_lt _ (by decide),h.a,h.b,h.c,Nat.mod_lt _ (by decide),h.e,h.f,h.g⟩
theorem rnds_ok (w:List Nat) {s:S8} (h:s.Ok):∀i,(rnds w s i).Ok
 | 0=>h
 | i+1=>rnd_ok _ _ (rnds_ok w h i)
theorem addS_ok (s v:S8):(addS s v).Ok:=⟨Nat.mod_lt _ (by decide),Nat.mod_lt _ (by decide),Nat.mod_lt _ (by decide),Nat.mod_lt _ (by decide),Nat.mod_lt _ (by decide),Nat.mod_lt _ (by decide),Nat.mod_lt _ (by decide),Nat.mod_lt _ (by decide)⟩
theorem addB_ok (s:S8) (b:Bytes):(addB s b).Ok:=addS_ok _ _
theorem start_ok:start8.Ok:=⟨by decide,by decide,by decide,by decide,by decide,by decide,by decide,by decide⟩
theorem byteN_lt (b:Bytes) (i:Nat):byteN b i<256:=(b.getD i 0).toNat_lt
theorem wordB_lt (b:Bytes) (i:Nat):wordB b i<4294967296:=by
 have h0:=byteN_lt b (4*i);have h1:=byteN_lt b (4*i+1);have h2:=byteN_lt b (4*i+2);have h3:=byteN_lt b (4*i+3);unfold wordB;omega
theorem nextW_lt (b:Bytes) (w:List Nat) (i:Nat):nextW b w i<4294967296:=by
 unfold nextW;split
 ·exact wordB_lt b i
 ·exact Nat.mod_lt _ (by decide)
theorem words_len (b:Bytes):∀i,(words b i).length=i
 | 0=>rfl
 | i+1=>by rw [words,List.length_append,words_len b i];rfl
theorem words_lt (b:Bytes):∀i x,x∈words b i→x<4294967296
 | 0,_,h=>by cases h
 | i+1,x,h=>by
  rw [words,List.mem_append] at h;rcases h with h | h
  ·exact words_lt b i x h
  ·rw [List.mem_singleton] at h;rw [h];exact nextW_lt _ _ _
theorem getD_lt {l:List Nat} (h:∀x,x∈l→x<4294967296) (i:Nat):l.getD i 0<4294967296:=by
 rw [List.getD_eq_getElem?_getD];cases hg:l[i]? with
 | none=>exact (by decide:(0:Nat)<4294967296)
 | some x=>exact h x (List.mem_of_getElem? hg)
def rowW (l:List Nat) (n:Nat):Array Value:=((List.range n).map (fun i=>Value.int .u32 ((l.getD i 0:Nat):Int))).toArray
theorem rowW_get (l:List Nat) (n i:Nat) (h:i<n):(rowW l n)[i]?=some (.int .u32 ((l.getD i 0:Nat):Int)):=by
 simp [rowW,h]
theorem rowW_size (l:List Nat) (n:Nat):(rowW l n).size=n:=by simp [rowW]
theorem getD_snoc (l:List Nat) (x j:Nat) (h:j≠l.length):(l++[x]).getD j 0=l.getD j 0:=by
 rw [List.getD_eq_getElem?_getD,List.getD_eq_getElem?_getD];rcases Nat.lt_or_gt_of_ne h with h | h
 ·rw [List.getElem?_append_left h]
 ·rw [List.getElem?_append_right (by omega),List.getElem?_eq_none (by simp;omega),List.getElem?_eq_none (by omega)]
theorem getD_last (l:List Nat) (x:Nat):(l++[x]).getD l.length 0=x:=by
 rw [List.getD_eq_getElem?_getD,List.getElem?_append_right (Nat.le_refl _),Nat.sub_self];rfl
theorem rowW_set (l:List Nat) (n x:Nat) (h:l.length<n):(rowW l n).setIfInBounds l.length (.int .u32 (x:Int))=rowW (l++[x]) n:=by
 apply Array.ext_getElem?;intro j;rw [Array.getElem?_setIfInBounds];by_cases hj:j<n
 ·rw [rowW_get _ _ _ hj,rowW_get _ _ _ hj];by_cases e:l.length=j
  ·subst e;rw [if_pos rfl,if_pos (by rw [rowW_size];exact h),getD_last]
  ·rw [if_neg e,getD_snoc _ _ _ (fun e'=>e e'.symm)]
 ·have h1:∀q,(rowW q n)[j]?=none:=fun q=>by rw [Array.getElem?_eq_none_iff,rowW_size];omega
  rw [h1,h1];by_cases e:l.length=j
  ·omega
  ·rw [if_neg e]
theorem rowW_put (l:List Nat) (n i x:Nat) (hl:l.length=n) (h:i<n):(rowW l n).setIfInBounds i (.int .u32 (x:Int))=rowW (l.set i x) n:=by
 apply Array.ext_getElem?;intro j;rw [Array.getElem?_setIfInBounds];by_cases hj:j<n
 ·rw [rowW_get _ _ _ hj,rowW_get _ _ _ hj];by_cases e:i=j
  ·subst e;rw [if_pos rfl,if_pos (by rw [rowW_size];exact h),List.getD_eq_getElem?_getD,List.getElem?_set_self (by omega)];rfl
  ·rw [if_neg e,List.getD_eq_getElem?_getD,List.getD_eq_getElem?_getD,List.getElem?_set_ne e]
 ·have h1:∀q,(rowW q n)[j]?=none:=fun q=>by rw [Array.getElem?_eq_none_iff,rowW_size];omega
  rw [h1,h1];by_cases e:i=j
  ·omega
  ·rw [if_neg e]
theorem addAll_succ (k:Nat) (s:S8) (m:Bytes):addAll (k+1) s m=addAll k (addB s (m.take 64)) (m.drop 64):=rfl
theorem addAll_snoc:∀(k:Nat) (s:S8) (m:Bytes),addAll (k+1) s m=addB (addAll k s m) ((m.drop (64*k)).take 64)
 | 0,s,m=>by rw [addAll_succ];simp [addAll]
 | k+1,s,m=>by
  rw [addAll_succ,addAll_snoc k,List.drop_drop,addAll_succ];rw [show 64*(k+1)=64+64*k by omega]
end Dg
end Go.Proofs.YtmgklblglpplcaaGreatDoor
namespace Go.Proofs.YtmgklblglpplcaaGreatDoor
open Go Go.RowKit
theorem wpList_value {P:Program} {ops:Array Oper} {rest:List Oper} {o:Oper} {a:Act} {w:World} {Q:Exit→Act→World→Prop} (v:Value) (hgd:o.guard=none)
  (hv:(execOp a.eval o).run P w=.ok (.value v) w) (h:wpList P ops Q rest (a.put o.dst v) w):wpList P ops Q (o :: rest) a w:=by
 refine wpList_plain hgd fun K hK=>?_;unfold Oper.wp;simp only [hv];exact hK _ _ h
end Go.Proofs.YtmgklblglpplcaaGreatDoor
