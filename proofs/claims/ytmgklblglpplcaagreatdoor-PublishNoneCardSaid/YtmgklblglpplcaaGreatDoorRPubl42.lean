/- Parts: Packets, publications and versions built of their parts. No condition. Walks of the store: add. No condition. -/
import Derived.Test.YtmgklblglpplcaaGreatDoorRPubl1
import Derived.Test.YtmgklblglpplcaaGreatDoorRPubl2
import Derived.Test.YtmgklblglpplcaaGreatDoorRPubl3
import Derived.Test.YtmgklblglpplcaaGreatDoorRPubl4
import Derived.Test.YtmgklblglpplcaaGreatDoorRPubl5
import Derived.Test.YtmgklblglpplcaaGreatDoorRPubl6
import Derived.Test.YtmgklblglpplcaaGreatDoorRPubl9
import Derived.Test.YtmgklblglpplcaaGreatDoorRPubl10
import Derived.Test.YtmgklblglpplcaaGreatDoorRPubl11
import Derived.Test.YtmgklblglpplcaaGreatDoorRPubl12
import Derived.Test.YtmgklblglpplcaaGreatDoorRPubl14
import Derived.Test.YtmgklblglpplcaaGreatDoorRPubl15
import Derived.Test.YtmgklblglpplcaaGreatDoorRPubl16
import Derived.Test.YtmgklblglpplcaaGreatDoorRPubl19
import Derived.Test.YtmgklblglpplcaaGreatDoorRPubl20
import Derived.Test.YtmgklblglpplcaaGreatDoorRPubl21
import Derived.Test.YtmgklblglpplcaaGreatDoorRPubl22
import Derived.Test.YtmgklblglpplcaaGreatDoorRPubl23
import Derived.Test.YtmgklblglpplcaaGreatDoorRPubl25
import Derived.Test.YtmgklblglpplcaaGreatDoorRPubl28
import Derived.Test.YtmgklblglpplcaaGreatDoorRPubl31
import Derived.Test.YtmgklblglpplcaaGreatDoorRPubl34
import Derived.Test.YtmgklblglpplcaaGreatDoorRPubl35
import Derived.Test.YtmgklblglpplcaaGreatDoorRPubl37
import Derived.Test.YtmgklblglpplcaaGreatDoorRPubl38
import Derived.Test.YtmgklblglpplcaaGreatDoorRPubl39
import Derived.Test.YtmgklblglpplcaaGreatDoorRPubl41
import Derived.WalkKit
import Derived.WalkSpells
import Derived.WalkLawsBesides
import Derived.Lib.Hide
import Derived.BigQuiet
import Derived.Deep.DeepFit
import Derived.Deep.DeepCutAuto
import Derived.Deep.AppendLies
import Derived.Deep.QuietTactic
import Derived.Test.YtmgklblglpplcaaGreatDoorRows
import Derived.Deep.RegionHeld3
import Derived.StillTail
import Derived.Lib.AppendStr
import Derived.Lib.AppendZeros
import Derived.Deep.MidRow
import Derived.ArgAppend
import Derived.Deep.Upon
import Derived.Maps.OwnOps
import Derived.Maps.OwnSet
import Derived.Maps.RangeWalk
import Derived.WideKeyEntry
import Derived.Lib.Bits
import Derived.Laws.EntriesVeiled
import Derived.Handy
import Derived.DeepKeys4
import Derived.Deep.CutBlock
import Derived.Test.YtmgklblglpplcaaGreatDoorShelf2
import Derived.Laws.BitsAllLaws
import Derived.Laws.BytesArg
import Derived.Test.YtmgklblglpplcaaGreatDoorShelf
import Derived.Lib.Zigzag
import Derived.Recover
import Derived.Deep.WholeRow
import Derived.Laws.IdiomStrings
import Derived.Laws.MakeOwn
import Derived.Laws.CopyOwn
import Derived.IntWalk
import Derived.RangeFuncNested
import Derived.RangeFuncBound
import Derived.RangeFuncCalls
import Derived.RangeFuncLeaves
import Derived.RangeFuncFrom
import Derived.LoopIn
import Derived.LoopNIn
import Derived.OwnWalkIn
import Derived.TacticsInMore
import Derived.Stop.BytesEq
import Derived.Defers
import Derived.Lib.SliceRun
import Derived.WalkMore
namespace Go.Proofs.YtmgklblglpplcaaGreatDoor
open Go Go.RowKit Pk
set_option maxRecDepth 100000
theorem build_tail (T:TypeId) (a:H32) (v:Value) (_hv:v.cells=#[v]) (Z:Array Value) (W:World) (h1:(zeroValue T).run Tryz.prog W=.ok (.agg Z) W) (hZ:Z.size=33)
  (hl:∀(Z:Array Value),Z.size=33→(zeroValue T).run Tryz.prog W=.ok (.agg Z) W→∀F1 E:Array Value,F1.size=33→(hashC a).zipIdx.foldl (fun cs x=>cs.setIfInBounds x.2 x.1) Z=F1→([v].zipIdx 0).foldl (fun cs x=>cs.setIfInBounds (32+x.2) x.1) F1=E→(hashC a).length=32→(Instr.build T #[(0,.agg (hashC a).toArray),(1,v)]).run Tryz.prog W=.ok (.agg E) W) :
  (Instr.build T #[(0,.agg (hashC a).toArray),(1,v)]).run Tryz.prog W=.ok (.agg (hashC a++[v]).toArray) W:=by
 have ha:=hashC_len a;have hf1:=fold_set0 (hashC a) Z (by omega);have hR:(Z.toList.drop (hashC a).length).length=1:=by rw [List.length_drop,Array.length_toList,hZ,ha]
 generalize Z.toList.drop (hashC a).length=R at *;have hs1:((hashC a++R).toArray).size=33:=by rw [List.size_toArray,List.length_append,ha,hR]
 have hf2:=fold_set 32 [v] 0 (hashC a++R).toArray (by rw [hs1];simp);have hend:(((hashC a++R).toArray.toList.take (32+0)++[v]++(hashC a++R).toArray.toList.drop (32+0+[v].length)).toArray)=(hashC a++[v]).toArray:=by
  have e1:(hashC a++R).toArray.toList=hashC a++R:=rfl;rw [e1,List.take_left' ha,List.drop_of_length_le (by rw [List.length_append,ha,hR];simp),List.append_nil]
 rw [hend] at hf2;exact hl Z hZ h1 _ _ hs1 hf1 hf2 ha
theorem build_pk (a:H32) (s:Bytes) (W:World):(Instr.build 63 #[(0,.agg (hashC a).toArray),(1,.string (bs s))]).run Tryz.prog W=.ok (.agg (pkC (a,s)).toArray) W:=by
 refine build_tail 63 a (.string (bs s)) rfl (pkC (zeroH,[])).toArray W (zero_pk W) (by rw [List.size_toArray,pkC_len]) ?_;intro Z hZ h1 F1 E hs1 hf1 hf2 ha;simp at hf2;simp [Instr.build,go_sem,h1,Instr.fill,ha,hZ,hf1,hf2,hs1,Value.cells]
theorem build_ver (a:H32) (A:Option Addr) (n c:Nat) (W:World):(Instr.build 45 #[(0,.agg (hashC a).toArray),(1,.slice A n c)]).run Tryz.prog W=.ok (.agg (verC a (.slice A n c)).toArray) W:=by
 have hz:(zeroValue 45).run Tryz.prog W=.ok (.agg (verC zeroH (.slice none 0 0)).toArray) W:=by kernel_rfl
 refine build_tail 45 a (.slice A n c) rfl (verC zeroH (.slice none 0 0)).toArray W hz (by rw [List.size_toArray,verC_len]) ?_;intro Z hZ h1 F1 E hs1 hf1 hf2 ha;simp at hf2;simp [Instr.build,go_sem,h1,Instr.fill,ha,hZ,hf1,hf2,hs1,Value.cells]
theorem exec_build_ver (a:H32) (A:Option Addr) (n c:Nat) (W:World) {ev:Operand→Value} {o:Oper} (x y:Operand) (ho:o.op=.build 45 #[(0,x),(1,y)]) (hx:ev x=.agg (hashC a).toArray) (hy:ev y=.slice A n c):(execOp ev o).run Tryz.prog W=.ok (.value (.agg (verC a (.slice A n c)).toArray)) W:=by
 have h:=build_ver a A n c W;unfold execOp;rw [ho];simp only [List.map_toArray,List.map_cons,List.map_nil,hx,hy];rw [Sem.run_bind,h];rfl
theorem build_pub (a:H32) (W:World):(Instr.build 56 #[(1,.agg (hashC a).toArray)]).run Tryz.prog W=.ok (.agg (pubC (.slice none 0 0) a).toArray) W:=by
 have h1:(zeroValue 56).run Tryz.prog W=.ok (.agg (pubC (.slice none 0 0) zeroH).toArray) W:=by kernel_rfl
 have ha:=hashC_len a;have hZ:((pubC (.slice none 0 0) zeroH).toArray).size=33:=by rw [List.size_toArray,pubC_len]
 have hf:=fold_set 1 (hashC a) 0 (pubC (.slice none 0 0) zeroH).toArray (by rw [hZ,ha];decide);have hend:(((pubC (.slice none 0 0) zeroH).toArray.toList.take (1+0)++hashC a++(pubC (.slice none 0 0) zeroH).toArray.toList.drop (1+0+(hashC a).length)).toArray)=(pubC (.slice none 0 0) a).toArray:=by
  have e1:(pubC (.slice none 0 0) zeroH).toArray.toList=.slice none 0 0 :: hashC zeroH:=rfl;rw [e1,ha,List.drop_of_length_le (by rw [List.length_cons,hashC_len];decide),List.append_nil];rfl
 rw [hend] at hf;generalize (pubC (.slice none 0 0) zeroH).toArray=Z at *;generalize (pubC (.slice none 0 0) a).toArray=E at *;simp [Instr.build,go_sem,h1,Instr.fill,ha,hZ,hf,Value.cells]
theorem exec_build_pub (a:H32) (W:World) {ev:Operand→Value} {o:Oper} (y:Operand) (ho:o.op=.build 56 #[(1,y)]) (hy:ev y=.agg (hashC a).toArray):(execOp ev o).run Tryz.prog W=.ok (.value (.agg (pubC (.slice none 0 0) a).toArray)) W:=by
 have h:=build_pub a W;unfold execOp;rw [ho];simp only [List.map_toArray,List.map_cons,List.map_nil,hy];rw [Sem.run_bind,h];rfl
theorem exec_build_pk (a:H32) (s:Bytes) (W:World) {ev:Operand→Value} {o:Oper} (x y:Operand) (ho:o.op=.build 63 #[(0,x),(1,y)]) (hx:ev x=.agg (hashC a).toArray) (hy:ev y=.string (bs s)):(execOp ev o).run Tryz.prog W=.ok (.value (.agg (pkC (a,s)).toArray)) W:=by
 have h:=build_pk a s W;unfold execOp;rw [ho];simp only [List.map_toArray,List.map_cons,List.map_nil,hx,hy];rw [Sem.run_bind,h];rfl
end Go.Proofs.YtmgklblglpplcaaGreatDoor
namespace Go.Proofs.YtmgklblglpplcaaGreatDoor
open Go Go.RowKit Pk
set_option maxRecDepth 100000
def aQ (B k:Nat) (o:Obj):Prop:=B≤k∧(tyQ [33,36] o∨∃es clock,o=.map es clock)
theorem aQ_str {B k:Nat} (h:B≤k) (D:Nat) (en:Int) (M:Nat) (ov rv:Value) (br:Bool):aQ B k (strB D en M ov rv br):=⟨h,.inl (tyQ_cells.2 (by simp))⟩
theorem aQ_hash {B k:Nat} (h:B≤k) (cs:Array Value):aQ B k (.cells cs 36 (0,0)):=⟨h,.inl (tyQ_cells.2 (by simp))⟩
theorem aQ_not {B k:Nat} {cs:Array Value} {T:TypeId} {fr:Nat × Nat} (h1:T≠33) (h2:T≠36):¬aQ B k (.cells cs T fr):=fun h=>by
 rcases h with ⟨_,h | ⟨es,c,h⟩⟩
 ·have:=tyQ_cells.1 h;simp at this;rcases this with e | e
  ·exact h1 e
  ·exact h2 e
 ·cases h
theorem dQ_aQ {B B':Nat} (k:Nat) (o:Obj) (h:dQ B k o):¬aQ B' k o:=by
 obtain ⟨_,cs,T,fr,rfl,hT⟩:=h;simp at hT;rcases hT with rfl | rfl | rfl<;>exact aQ_not (by decide) (by decide)
def osK (os:List (H32 × Bytes)) (P:List Bytes) (k:Nat):List (H32 × Bytes):=os++(P.take k).map (fun s=>(shaH s,s))
theorem osK_succ (os:List (H32 × Bytes)) (P:List Bytes) (k:Nat) (hk:k<P.length):osK os P (k+1)=osK os P k++[(shaH P[k],P[k])]:=by
 unfold osK;rw [List.take_succ_eq_append_getElem hk,List.map_append,List.append_assoc];rfl
def StoreAt (B S D M:Nat) (w:World) (en:Nat) (os:List (H32 × Bytes)) (rs:List H32) (l:Bytes) (n:Nat):Prop:=
 ∃ov rv m f,w.heap[S]?=some (strB D (en:Int) M ov rv false)∧kPk.Own 0 w ov os∧(os=[]→ov=.slice none 0 0)∧kHash.Own B w rv rs∧kitHS.At w M m f∧m≤n∧(∀h,f h=srcF os h)∧DiskAt B D w l n∧B≤S∧B≤M
structure AS (B:Nat) (w:World) (S D M N en n:Nat) (ov rv:Value) (pc:Array Value) (osx:List (H32 × Bytes)) (rs:List H32) (l:Bytes) (m:Nat) (f:H32→Option Bytes) (W:World):Prop where
 h1:W.heap[S]?=some (strB D (en:Int) M ov rv false)
 h2:kPk.Own 0 W ov osx
 h5:kHash.Own B W rv rs
 h6:kitHS.At W M m f
 h9:DiskAt B D W l n
 h10:W.heap[N]?=some (.cells pc 56 (0,0))
 h11:UpdO (aQ B) w W
 hB:B≤S∧B≤M
theorem AS.keep {B:Nat} {w:World} {S D M N en n:Nat} {ov rv:Value} {pc:Array Value} {osx:List (H32 × Bytes)} {rs:List H32} {l:Bytes} {m:Nat} {f:H32→Option Bytes} {W W':World} (h:AS B w S D M N en n ov rv pc osx rs l m f W) (hu:Upd noBlk W W'):AS B w S D M N en n ov rv pc osx rs l m f W':=
 ⟨hu.heap h.h1 id,h.h2.upd hu,h.h5.upd hu,h.h6.keep hu,h.h9.keep hu,hu.heap h.h10 id,h.h11.trans (UpdO.same hu),h.hB⟩
theorem AS.map {B:Nat} {w:World} {S D M N en n:Nat} {ov rv:Value} {pc:Array Value} {osx:List (H32 × Bytes)} {rs:List H32} {l:Bytes} {m m':Nat} {f f':H32→Option Bytes} {W W':World} (h:AS B w S D M N en n ov rv pc osx rs l m f W) (hu:Upd (fun k=>k=M) W W') (hm:kitHS.At W' M m' f'):AS B w S D M N en n ov rv pc osx rs l m' f' W':=by
 obtain ⟨es,c,hc⟩:=h.h6.blk;have hM:∀{k:Nat} {cs:Array Value} {T:TypeId},W.heap[k]?=some (.cells cs T (0,0))→¬k=M:=fun hk e=>by
  rw [e,hc] at hk;cases hk
 have hO:UpdO (aQ B) W W':=UpdO.blk hu hc ⟨h.hB.2,.inr ⟨_,_,rfl⟩⟩;refine ⟨hu.heap h.h1 (hM h.h1),h.h2.other hu (fun g hg e=>?_),h.h5.other hu (fun g hg e=>?_),hm,h.h9.keepO hO dQ_aQ,hu.heap h.h10 (hM h.h10),h.h11.trans hO,h.hB⟩
 ·obtain ⟨_,cur,hx⟩:=h.h2.blk hg;exact hM hx e
 ·obtain ⟨_,cur,hx⟩:=h.h5.blk hg;exact hM hx e
theorem AS.order {B:Nat} {w:World} {S D M N en n:Nat} {ov rv:Value} {pc:Array Value} {osx osy:List (H32 × Bytes)} {rs:List H32} {l:Bytes} {m:Nat} {f:H32→Option Bytes} {W W1:World} (h:AS B w S D M N en n ov rv pc osx rs l m f W) (hu:Upd noBlk W W1) (ov':Value) (ho:kPk.Own 0 W1 ov' osy) :
  AS B w S D M N en n ov' rv pc osy rs l m f (W1.setCell ⟨S,3,none⟩ ov'):=by
 have k:=h.keep hu;have hs:=(Upd.refl (fun k=>k=S) W1).setCell (p:=⟨S,3,none⟩) (fun _=>rfl) ov';have hO:UpdO (aQ B) W1 (W1.setCell ⟨S,3,none⟩ ov'):=UpdO.blk hs k.h1 (aQ_str h.hB.1 _ _ _ _ _ _);have hne:∀{j:Nat} {cs:Array Value} {T:TypeId},W1.heap[j]?=some (.cells cs T (0,0))→T≠33→¬j=S:=fun hj ht e=>by
  rw [e,k.h1] at hj;have h9:(strB D (en:Int) M ov rv false)=.cells _ _ (0,0):=Option.some.inj hj;injection h9 with _ h10 _
  exact ht h10.symm
 obtain ⟨es,c,hc⟩:=k.h6.blk;refine ⟨(heap_setCell_eq _ k.h1).trans rfl,ho.other hs (fun g hg e=>?_),k.h5.other hs (fun g hg e=>?_),k.h6.other hs (fun e=>?_),k.h9.keepO hO dQ_aQ,hs.heap k.h10 (hne k.h10 (by decide)),k.h11.trans hO,h.hB⟩
 ·obtain ⟨_,cur,hx⟩:=ho.blk hg;exact hne hx (show kPk.T≠33 by decide) e
 ·obtain ⟨_,cur,hx⟩:=k.h5.blk hg;exact hne hx (show kHash.T≠33 by decide) e
 ·rw [e,k.h1] at hc;cases hc
theorem AS.roots {B:Nat} {w:World} {S D M N en n:Nat} {ov rv:Value} {pc:Array Value} {osx:List (H32 × Bytes)} {rs rs':List H32} {l:Bytes} {m:Nat} {f:H32→Option Bytes} {W W1:World} (h:AS B w S D M N en n ov rv pc osx rs l m f W) (hu:Upd (fun k=>rv.ownBlock=some k) W W1) (rv':Value) (ho:kHash.Own B W1 rv' rs') :
  AS B w S D M N en n ov rv' pc osx rs' l m f (W1.setCell ⟨S,4,none⟩ rv'):=by
 have hrv:∀{j:Nat} {o:Obj},W.heap[j]?=some o→(∀cur,o≠.cells cur 36 (0,0))→¬rv.ownBlock=some j:=fun hj hno e=>by
  obtain ⟨_,cur,hx⟩:=h.h5.blk e;rw [hj] at hx;exact hno cur (Option.some.inj hx)
 have hO1:UpdO (aQ B) W W1:=UpdO.of hu (fun i _ e=>by
  obtain ⟨hb,cur,hx⟩:=h.h5.blk e;exact ⟨_,hx,aQ_hash hb _⟩)
 obtain ⟨es,c,hc⟩:=h.h6.blk;have k1:W1.heap[S]?=some (strB D (en:Int) M ov rv false):=hu.heap h.h1 (hrv h.h1 (fun cur e=>by
  unfold strB at e;injection e with _ e2 _
  exact absurd e2 (by decide)))
 have k10:W1.heap[N]?=some (.cells pc 56 (0,0)):=hu.heap h.h10 (hrv h.h10 (fun cur e=>by
  injection e with _ e2 _
  exact absurd e2 (by decide)))
 have k6:kitHS.At W1 M m f:=h.h6.other hu (hrv hc (fun cur e=>by cases e));have k2:kPk.Own 0 W1 ov osx:=h.h2.keepO hO1 (fun _ cs=>aQ_not (show kPk.T≠_ by decide) (show kPk.T≠_ by decide));have k9:=h.h9.keepO hO1 dQ_aQ;have hs:=(Upd.refl (fun k=>k=S) W1).setCell (p:=⟨S,4,none⟩) (fun _=>rfl) rv';have hO:UpdO (aQ B) W1 (W1.setCell ⟨S,4,none⟩ rv'):=UpdO.blk hs k1 (aQ_str h.hB.1 _ _ _ _ _ _);have hne:∀{j:Nat} {cs:Array Value} {T:TypeId},W1.heap[j]?=some (.cells cs T (0,0))→T≠33→¬j=S:=fun hj ht e=>by
  rw [e,k1] at hj;have h9:(strB D (en:Int) M ov rv false)=.cells _ _ (0,0):=Option.some.inj hj;injection h9 with _ h10 _
  exact ht h10.symm
 refine ⟨(heap_setCell_eq _ k1).trans rfl,k2.other hs (fun g hg e=>?_),ho.other hs (fun g hg e=>?_),k6.other hs (fun e=>?_),k9.keepO hO dQ_aQ,hs.heap k10 (hne k10 (by decide)),(h.h11.trans hO1).trans hO,h.hB⟩
 ·obtain ⟨_,cur,hx⟩:=k2.blk hg;exact hne hx (show kPk.T≠33 by decide) e
 ·obtain ⟨_,cur,hx⟩:=ho.blk hg;exact hne hx (show kHash.T≠33 by decide) e
 ·obtain ⟨es2,c2,hc2⟩:=k6.blk;rw [e,k1] at hc2;cases hc2
theorem wp_valU {P:Program} {o:Oper} {a:Act} {w:World} {K:Act→World→Prop} {Q:Exit→Act→World→Prop} (v:Value) (w':World) (hv:(execOp a.eval o).run P w=.ok (.value v) w') (h:K (a.put o.dst v) w'):o.wp P a w K Q:=by
 unfold Oper.wp;rw [hv];exact h
set_option maxHeartbeats 8000000 in
theorem add_any {B S D M n:Nat} {en:Nat} {os:List (H32 × Bytes)} {rs:List H32} {l:Bytes} (P:List Bytes) (pv:Value) (X:H32) (hP:P.length≤1) (hPo:P=[]∨os=[]) (hs:∀s,s∈P→s.length≤1000) (hn:n≤10000) (hos:os.length≤10) (hrs:rs.length≤10) (w:World)
  (hS:StoreAt B S D M w en os rs l n) (hpv:kStr.Own 0 w pv P) :
  Calls Tryz.prog 18 #[.pointer (some ⟨S,0,none⟩),.agg (pubC pv X).toArray] w fun e w'=>e=.returned (.tuple #[])∧StoreAt B S D M w' en (osK os P P.length) (rs++[X]) l (n+1)∧UpdO (aQ B) w w':=by
 obtain ⟨ov,rv,m,f,h1,h2,h3,h4,h5,h6,h7,h8,hBB⟩:=hS;have HBB:=Lib.hid hBB;clear hBB;have HPV:=Lib.hid hpv;obtain ⟨A,cap,rfl,hc⟩:=hpv.form;obtain ⟨N,hN⟩:∃N,N=w.heap.size:=⟨_,rfl⟩;obtain ⟨w1,hw1⟩:∃w1,w1=w.alloc (.cells (pubC (.slice A P.length cap) X).toArray 56):=⟨_,rfl⟩;have hb:w1.heap[N]?=some (.cells (pubC (.slice A P.length cap) X).toArray 56 (0,0)):=by rw [hw1,hN];exact heap_alloc_new w _
 have U1:Hid (Upd noBlk w w1):=by show Upd _ _ _;rw [hw1];exact (Upd.refl _ w).alloc _
 have R1:=Lib.hid hb;have hpl:=pubC_len (.slice A P.length cap) X;have c0:=pub_row (range_row hb);have HSL:=Lib.hid hs;have HPO:=Lib.hid hPo;have HB:Hid (P.length≤1∧n≤10000∧os.length≤10∧rs.length≤10∧m≤n):=⟨hP,hn,hos,hrs,h6⟩;have HS1:=Lib.hid (U1.out.heap h1 id);have HO1:=Lib.hid (h2.upd U1.out);have HRo1:=Lib.hid (h4.upd U1.out);have HM1:=Lib.hid (h5.keep U1.out);have HD1:=Lib.hid (h8.keep U1.out);have HF:=Lib.hid h7;have HNI:=Lib.hid h3;have hP1:(P.length:Int)≤1:=by omega
 clear hb hpv hs hPo hP hn hos hrs h1 h2 h3 h4 h5 h6 h7 h8 hc;go_enter Tryz.func18,Tryz.ntmps18
 go_upto_region 1 with fail
 rw [←hw1,←hN];have HN:=Lib.hid hN;clear hw1 hN;go_wp2_with fail
 go_loopw [12] (fun i wr=>∃(k:Nat) (ov':Value) (m':Nat) (f':H32→Option Bytes),i=.int .i64 k∧k≤P.length∧wr.heap[S]?=some (strB D (en:Int) M ov' rv false)∧kPk.Own 0 wr ov' (osK os P k)∧(P=[]∨kPk.Own w.heap.size wr ov' (osK os P k))∧(osK os P k=[]→ov'=.slice none 0 0)∧kHash.Own B wr rv rs∧kitHS.At wr M m' f'∧m'≤n+k∧(∀h,f' h=srcF (osK os P k) h)∧DiskAt B D wr l n∧wr.heap[N]?=some (.cells (pubC (.slice A P.length cap) X).toArray 56 (0,0))∧UpdO (aQ B) w wr) (fun i _=>P.length-(intOf i).toNat)
 case atStart=>
  have e0:osK os P 0=os:=by unfold osK;simp
  refine ⟨0,ov,m,f,rfl,Nat.zero_le _,HS1.out,by rw [e0];exact HO1.out,?_,by rw [e0];exact HNI.out,HRo1.out,HM1.out,by have:=HB.out;omega,by rw [e0];exact HF.out,HD1.out,R1.out,UpdO.same U1.out⟩;rcases HPO.out with e | e
  ·exact .inl e
  ·right;rw [e0,HNI.out e,e];exact Kd.Own.nil _ _ _
 case round=>
  obtain ⟨k,ov',m',f',rfl,hk,r1,r2,r3,r4,r5,r6,r7,r8,r9,r10,r11⟩:=hrel;have Q1:=Lib.hid r1;have Q2:=Lib.hid r2;have Q3:=Lib.hid r3;have Q4:=Lib.hid r4;have Q5:=Lib.hid r5;have Q6:=Lib.hid r6;have Q7:=Lib.hid r7;have Q8:=Lib.hid r8;have Q9:=Lib.hid r9;have Q10:=Lib.hid r10;have Q11:=Lib.hid r11;clear r1 r2 r3 r4 r5 r6 r7 r8 r9 r10 r11 HS1 HO1 HRo1 HM1 HD1 R1 c0 HF HNI;by_cases hlt:k<P.length
  ·have hlt':(k:Int)<(P.length:Int):=by omega
   have hk0:k=0:=by have:=HB.out;omega
   have hos0:os=[]:=(HPO.out).resolve_left (fun e=>by rw [e] at hlt;simp at hlt);have hok:osK os P k=[]:=by rw [hk0,hos0];rfl
   have hov:=Q4.out hok;subst hov;obtain ⟨A',cap',e',_,hx⟩:=(HPV.out.keepO Q11.out (fun _ cs=>aQ_not (by decide) (by decide))).rd;cases e';obtain ⟨b,off,rfl,hx2⟩:=hx (by omega);have cs:wr.cell? ⟨b,off+k,none⟩=some (.string (bs P[k])):=by
    have h9:=hx2 k hlt 0 _ rfl;rw [show kStr.k=1 from rfl,Nat.mul_one,Nat.add_zero] at h9;exact h9
   have HKS:=Lib.hid (osK_succ os P k hlt);have hsl:=HSL.out _ (List.getElem_mem hlt);clear hx hx2;generalize P[k]=s at *;have HSM:=fun W=>Lib.hid (gSum_any s (by omega) (by omega) W);have HFN:Hid ((f' (shaH s)).isSome=false):=by show _=_;rw [Q8.out,hok];rfl
   have HOK:=Lib.hid hok;have HK0:=Lib.hid hk0;clear hok hk0 hos0 hsl Q4;go_wp2_with fail
   refine (HSM wr).out.mono ?_;rintro e w2 ⟨rfl,u2⟩;unfold hashV0;obtain ⟨h,hh⟩:∃h,h=shaH s:=⟨_,rfl⟩;rw [←hh] at HFN HKS ⊢;have hzh:=zero_hash;obtain ⟨Z,hst,hz1,hz2⟩:=store_row (P:=Tryz.prog) (heap_alloc_new w2 (.cells (hashC zeroH).toArray 36)) (vs:=hashC h) (by rw [List.size_toArray,hashC_len,hashC_len]) (byV_one h.1);have uz:Upd noBlk wr Z:=u2.trans (((Upd.refl noBlk w2).alloc _).then hz2 (fun i hi e=>by omega));have hcl:=hashC_len h;have HI:=Lib.hid (size_h h);have UZ:=Lib.hid uz;obtain ⟨Hb,hHb⟩:∃Hb,Hb=w2.heap.size:=⟨_,rfl⟩;have RZ:Hid (Z.rangeAt Hb 0 (hashC h)):=by show World.rangeAt _ _ _ _;rw [hHb];exact range_row hz1
   have AZ:Hid (AS B w S D M N en n (.slice none 0 0) rv (pubC (.slice (some ⟨b,off,none⟩) P.length cap) X).toArray (osK os P k) rs l m' f' Z):=AS.keep ⟨Q1.out,Q2.out,Q5.out,Q6.out,Q9.out,Q10.out,Q11.out,HBB.out⟩ uz;clear uz hz1 hz2 u2 hh HSM Q1 Q2 Q3 Q5 Q6 Q9 Q10 Q11 cs;go_upto_region 5 with fail
   rw [←hHb];have HHB:=Lib.hid hHb;clear hHb hst hzh;obtain ⟨_,_,s2,_⟩:=str_cells AZ.out.h1;have S2:=Lib.hid s2;clear s2;refine wp_region_tree 10 (OT.sures [0,4,1,2,3,5,6,7,8,9] .nil) (fun w'=>Upd noBlk Z w') (by kernel_rfl) (by kernel_rfl) (fun c a d v w h=>by cases d<;>exact h) ((Upd.refl noBlk Z).drew) ?_
   simp only [OT.sures];apply wpT_sure rfl rfl
   focus (intro w' hw';go_simp;rfl)
   apply wpT_sure rfl rfl
   focus (intro w' hw';exact exec_load_row 36 (.tmp 6) rfl Hb 0 (by go_simp) (hashC h) _ (rangeAt_upd RZ.out hw') Tryz.underlying36 rfl HI.out)
   iterate 3 (apply wpT_sure rfl rfl;focus (intro w' hw';have g0:=hw'.cell S2.out id;go_simp;rfl))
   refine wpT_sure rfl rfl (.tuple #[.string (bs ((f' h).getD [])),.bool false]) (fun w' hw'=>?_) ?_
   focus (have e1:(Instr.lookup 29 (.map (some M)) (.agg (hashC h).toArray) true).run Tryz.prog w'=.ok (.tuple #[.string (bs ((f' h).getD [])),.bool (f' h).isSome]) w':=(AZ.out.h6.keep hw').lookOkR (a:=h) trivial;rw [HFN.out] at e1;go_simp)
   iterate 4 (apply wpT_sure rfl rfl;focus (intro w' hw';go_simp;rfl))
   refine wpT_nil ?_;have uZ:Upd noBlk Z Z.drew:=(Upd.refl noBlk Z).drew;have AY:=Lib.hid (AZ.out.keep uZ);have RY:=Lib.hid (rangeAt_upd RZ.out uZ);clear uZ AZ RZ S2;generalize Z.drew=Y at *;go_wp2_with fail
   obtain ⟨_,_,s2,_⟩:=str_cells AY.out.h1;have S2:=Lib.hid s2;clear s2;refine wp_region_tree 6 (OT.sures [0,4,5,1,2,3] .nil) (fun w'=>Upd noBlk Y w') (by kernel_rfl) (by kernel_rfl) (fun c a d v w h=>by cases d<;>exact h) ((Upd.refl noBlk Y).drew) ?_
   simp only [OT.sures];apply wpT_sure rfl rfl
   focus (intro w' hw';go_simp;rfl)
   apply wpT_sure rfl rfl
   focus (intro w' hw';exact exec_load_row 36 (.tmp 6) rfl Hb 0 (by go_simp) (hashC h) _ (rangeAt_upd RY.out hw') Tryz.underlying36 rfl HI.out)
   iterate 4 (apply wpT_sure rfl rfl;focus (intro w' hw';have g0:=hw'.cell S2.out id;go_simp;rfl))
   refine wpT_nil ?_;have uY:Upd noBlk Y Y.drew:=(Upd.refl noBlk Y).drew;have AX:=Lib.hid (AY.out.keep uY);have RX:=Lib.hid (rangeAt_upd RY.out uY);clear uY AY RY S2;generalize Y.drew=V at *;obtain ⟨T,hup,ht1,ht2⟩:=AX.out.h6.put (by have:=HB.out;have:=Q7.out;unfold maxLen;omega) (a:=h) trivial (v:=s) trivial;have hup':(Instr.mapUpdate 29 (.map (some M)) (.agg (hashC h).toArray) (.string (bs s))).run Tryz.prog V=.ok () T:=hup;have AT:=Lib.hid (AX.out.map ht2 ht1);have RT:Hid (T.rangeAt Hb 0 (hashC h)):=by
    obtain ⟨es,c,hc⟩:=AX.out.h6.blk;intro j v hv;refine ht2.cell (RX.out j v hv) (fun e=>?_);have e2:Hb=M:=e;have h9:=RX.out j v hv;rw [e2] at h9;simp [World.cell?,hc] at h9
   clear hup ht1 ht2 AX RX;go_wp2_with fail
   obtain ⟨_,_,_,s3,_⟩:=str_cells AT.out.h1;have S3:=Lib.hid s3;clear s3;have uT:Upd noBlk T T.drew:=(Upd.refl noBlk T).drew;have AR:=Lib.hid (AT.out.keep uT);obtain ⟨g,c',w5,r5,o5,u5,_⟩:=(Kd.Own.nil kPk w.heap.size T.drew).app1 AR.out.h11.size (h,s) (by simp);have HR5:Hid ((Builtin.append_ #[30,30] 30 #[.slice none 0 0,.slice (some ⟨T.drew.heap.size,0,none⟩) 1 1]).run Tryz.prog (T.drew.alloc (.cells (pkC (h,s)).toArray 63))=.ok (.slice (some ⟨g,0,none⟩) 1 c') w5):=r5;have O5:Hid (kPk.Own w.heap.size w5 (.slice (some ⟨g,0,none⟩) 1 c') [(h,s)]):=o5;have UT:=Lib.hid uT;have U5:Hid (Upd noBlk T w5):=uT.trans (u5.mono (fun _ _ h=>by cases h));have HSZ:Hid ((sizeOf 63).run Tryz.prog T.drew=.ok 33 T.drew):=by show _=_;kernel_rfl
   have HZ:Hid ((zeroValue 63).run Tryz.prog T.drew=.ok (.agg (pkC (zeroH,[])).toArray) T.drew):=zero_pk _;clear r5 o5 u5 uT;refine wp_region_tree 10 (OT.sures [0,1,5,6,7,2,3,4] (.run 8 (.run 9 .nil))) (fun w'=>Upd noBlk T w') (by kernel_rfl) (by kernel_rfl) (fun c a d v w h=>by cases d<;>exact h) UT.out ?_
   simp only [OT.sures]
   iterate 2 (apply wpT_sure rfl rfl;focus (intro w' hw';go_simp;rfl))
   apply wpT_sure rfl rfl
   focus (intro w' hw';exact exec_load_row 36 (.tmp 6) rfl Hb 0 (by go_simp) (hashC h) _ (rangeAt_upd RT.out hw') Tryz.underlying36 rfl HI.out)
   apply wpT_sure rfl rfl
   focus (intro w' hw';go_simp;rfl)
   apply wpT_sure rfl rfl
   focus (intro w' hw';exact exec_build_pk h s w' (.tmp 40) (.tmp 41) rfl (by go_simp) (by go_simp))
   iterate 3 (apply wpT_sure rfl rfl;focus (intro w' hw';have g0:=hw'.cell S3.out id;go_simp;rfl))
   generalize T.drew=Td at *;refine wpT_run (fun w'=>Upd noBlk T w') (fun _ h=>h) rfl (fun K' hK=>?_);refine if_wantU (by go_simp) ?_;refine wp_valU _ _ (exec_build1 Td (.tmp 42) (pkC (h,s)) Tryz.underlying30 HSZ.out HZ.out (by decide) (by decide) (pkC_len _) rfl (by go_simp)) ?_;refine hK _ _ ⟨UT.out.alloc _,?_⟩;clear hK K';refine wpT_run (fun w'=>Upd noBlk T w') (fun _ h=>h) rfl (fun K' hK=>?_);refine if_wantU (by go_simp) ?_;refine wp_append_run (.tmp 39) (.tmp 43) _ rfl (by go_simp) (by go_simp) HR5.out ?_;refine hK _ _ ⟨U5.out,?_⟩;clear hK K';refine wpT_nil ?_;obtain ⟨q0,q1,q2,q3,q4,q5,f0,f1,f2,f3,f4,f5⟩:=str_cells (AT.out.keep U5.out).h1;go_wp2_with fail
   have HSK:osK os P (k+1)=[(h,s)]:=by rw [HKS.out,HOK.out];rfl
   have hown:kPk.Own 0 w5 (.slice (some ⟨g,0,none⟩) 1 c') (osK os P (k+1)):=by rw [HSK];exact O5.out.mono (Nat.zero_le _)
   have A6:=AT.out.order U5.out (.slice (some ⟨g,0,none⟩) 1 c') hown;have hs5:=(AT.out.keep U5.out).h1;refine ⟨⟨k+1,.slice (some ⟨g,0,none⟩) 1 c',m'+1,fun c=>if c=h then some s else f' c,by push_cast;rfl,hlt,A6.h1,A6.h2,.inr ?_,(fun e=>by rw [HSK] at e;cases e),A6.h5,A6.h6,by have:=Q7.out;omega,?_,A6.h9,A6.h10,A6.h11⟩,by simp only [intOf];omega⟩
   ·rw [HSK];refine O5.out.other ((Upd.refl (fun k=>k=S) w5).setCell (p:=⟨S,3,none⟩) (fun _=>rfl) _) (fun g' hg e=>?_);obtain ⟨_,cur,hx⟩:=O5.out.blk hg;rw [e,hs5] at hx;have h9:(strB D (en:Int) M (.slice none 0 0) rv false)=.cells cur kPk.T (0,0):=Option.some.inj hx;injection h9 with _ h10 _
    exact absurd h10 (by decide)
   ·intro c;have e1:f'=srcF (osK os P k):=funext Q8.out;rw [HKS.out,srcF_new _ _ (by rw [←e1];exact HFN.out),←e1]
  ·obtain rfl:k=P.length:=by omega
   have AZ:Hid (AS B w S D M N en n ov' rv (pubC (.slice A P.length cap) X).toArray (osK os P P.length) rs l m' f' wr):=⟨Q1.out,Q2.out,Q5.out,Q6.out,Q9.out,Q10.out,Q11.out,HBB.out⟩;obtain ⟨_,_,_,_,s4,_⟩:=str_cells AZ.out.h1;have S4:=Lib.hid s4;have RH:=Lib.hid (pub_hash (range_row AZ.out.h10));have HI:=Lib.hid (size_h X);have hcl:=hashC_len X;have uT:Upd noBlk wr wr.drew:=(Upd.refl noBlk wr).drew;have UT:=Lib.hid uT;have AR:=Lib.hid (AZ.out.keep uT);obtain ⟨g,c',w5,r5,o5,u5,_⟩:=AR.out.h5.app1 (Nat.le_trans HBB.out.1 (Nat.le_of_lt (lt_of_heap AR.out.h1))) X (by have:=HB.out;omega);obtain ⟨Ar,cr,rfl,hcr⟩:=AR.out.h5.form;obtain ⟨nr,hnr⟩:∃nr,nr=rs.length+1:=⟨_,rfl⟩;rw [←hnr] at r5 o5;have HR5:Hid ((Builtin.append_ #[31,31] 31 #[.slice Ar rs.length cr,.slice (some ⟨wr.drew.heap.size,0,none⟩) 1 1]).run Tryz.prog (wr.drew.alloc (.cells (hashC X).toArray 36))=.ok (.slice (some ⟨g,0,none⟩) nr c') w5):=r5;have O5:Hid (kHash.Own B w5 (.slice (some ⟨g,0,none⟩) nr c') (rs++[X])):=o5;have U5:Hid (Upd (fun k=>(Value.slice Ar rs.length cr).ownBlock=some k) wr w5):=(uT.mono (fun _ _ h=>h.elim)).trans u5;have HSZ:Hid ((sizeOf 36).run Tryz.prog wr.drew=.ok 32 wr.drew):=by show _=_;kernel_rfl
   have HZ:Hid ((zeroValue 36).run Tryz.prog wr.drew=.ok (.agg (hashC zeroH).toArray) wr.drew):=zero_hash _;have HNS:Hid (¬(Value.slice Ar rs.length cr).ownBlock=some S):=fun e=>by
    obtain ⟨_,cur,hx⟩:=AZ.out.h5.blk e;rw [AZ.out.h1] at hx;have h9:(strB D (en:Int) M ov' (.slice Ar rs.length cr) false)=.cells cur kHash.T (0,0):=Option.some.inj hx;injection h9 with _ h10 _
    exact absurd h10 (by decide)
   have HNN:Hid (¬(Value.slice Ar rs.length cr).ownBlock=some N):=fun e=>by
    obtain ⟨_,cur,hx⟩:=AZ.out.h5.blk e;rw [AZ.out.h10] at hx;have h9:(Obj.cells (pubC (.slice A P.length cap) X).toArray 56 (0,0))=.cells cur kHash.T (0,0):=Option.some.inj hx;injection h9 with _ h10 _
    exact absurd h10 (by decide)
   clear r5 o5 u5 uT s4 hnr hcr;go_wp2_with fail
   refine wp_region_tree 9 (OT.sures [0,1,5,6,2,3,4] (.run 7 (.run 8 .nil))) (fun w'=>Upd (fun k=>(Value.slice Ar rs.length cr).ownBlock=some k) wr w') (by kernel_rfl) (by kernel_rfl) (fun c a d v w h=>by cases d<;>exact h) (UT.out.mono (fun _ _ h=>h.elim)) ?_
   simp only [OT.sures]
   iterate 3 (apply wpT_sure rfl rfl;focus (intro w' hw';go_simp;rfl))
   apply wpT_sure rfl rfl
   focus (intro w' hw';exact exec_load_row 36 (.tmp 53) rfl N 1 (by go_simp) (hashC X) _ (fun j v hv=>hw'.cell (RH.out j v hv) HNN.out) Tryz.underlying36 rfl HI.out)
   iterate 3 (apply wpT_sure rfl rfl;focus (intro w' hw';have g0:=hw'.cell S4.out HNS.out;go_simp;rfl))
   generalize wr.drew=Td at *;refine wpT_run (fun w'=>Upd (fun k=>(Value.slice Ar rs.length cr).ownBlock=some k) wr w') (fun _ h=>h) rfl (fun K' hK=>?_);refine if_wantU (by go_simp) ?_;refine wp_valU _ _ (exec_build1 Td (.tmp 54) (hashC X) Tryz.underlying31 HSZ.out HZ.out (by decide) (by decide) (hashC_len _) rfl (by go_simp)) ?_;refine hK _ _ ⟨(UT.out.mono (fun _ _ h=>h.elim)).alloc _,?_⟩;clear hK K';refine wpT_run (fun w'=>Upd (fun k=>(Value.slice Ar rs.length cr).ownBlock=some k) wr w') (fun _ h=>h) rfl (fun K' hK=>?_);refine if_wantU (by go_simp) ?_;refine wp_append_run (.tmp 52) (.tmp 55) _ rfl (by go_simp) (by go_simp) HR5.out ?_;refine hK _ _ ⟨U5.out,?_⟩;clear hK K';refine wpT_nil ?_;have A6:=AZ.out.roots U5.out (.slice (some ⟨g,0,none⟩) nr c') O5.out;have HA6:=Lib.hid A6;obtain ⟨q0,q1,q2,q3,q4,q5,f0,f1,f2,f3,f4,f5⟩:=str_cells (U5.out.heap AZ.out.h1 HNS.out);clear A6;go_wp2_with fail
   go_end0
   exact ⟨rfl,⟨ov',_,m',f',HA6.out.h1,HA6.out.h2,Q4.out,HA6.out.h5,HA6.out.h6,by have:=Q7.out;have:=HB.out;omega,Q8.out,HA6.out.h9.mono (by omega),HBB.out⟩,HA6.out.h11⟩
end Go.Proofs.YtmgklblglpplcaaGreatDoor
