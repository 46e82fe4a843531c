/- Parts: Walks of the packets' program: lists of elements are read. No condition. -/
import Derived.Test.YtmgklblglpplcaaGreatDoorRPubl1
import Derived.Test.YtmgklblglpplcaaGreatDoorRPubl2
import Derived.Test.YtmgklblglpplcaaGreatDoorRPubl4
import Derived.Test.YtmgklblglpplcaaGreatDoorRPubl5
import Derived.Test.YtmgklblglpplcaaGreatDoorRPubl6
import Derived.Test.YtmgklblglpplcaaGreatDoorRPubl7
import Derived.Test.YtmgklblglpplcaaGreatDoorRPubl10
import Derived.Test.YtmgklblglpplcaaGreatDoorRPubl12
import Derived.Test.YtmgklblglpplcaaGreatDoorRPubl14
import Derived.Test.YtmgklblglpplcaaGreatDoorRPubl19
import Derived.Test.YtmgklblglpplcaaGreatDoorRPubl20
import Derived.Test.YtmgklblglpplcaaGreatDoorRPubl22
import Derived.Test.YtmgklblglpplcaaGreatDoorRPubl23
import Derived.WalkKit
import Derived.WalkSpells
import Derived.WalkLawsBesides
import Derived.Lib.Hide
import Derived.BigQuiet
import Derived.Deep.DeepFit
import Derived.Deep.DeepCutAuto
import Derived.Deep.AppendLies
import Derived.Deep.QuietTactic
import Derived.Maps.OwnOps
import Derived.Maps.OwnSet
import Derived.Maps.RangeWalk
import Derived.WideKeyEntry
import Derived.Deep.MidRow
import Derived.Lib.Bits
import Derived.Test.YtmgklblglpplcaaGreatDoorRows
import Derived.Deep.RegionHeld3
import Derived.StillTail
import Derived.Laws.EntriesVeiled
import Derived.Handy
import Derived.DeepKeys4
import Derived.ArgAppend
import Derived.Deep.Upon
import Derived.Deep.CutBlock
import Derived.Test.YtmgklblglpplcaaGreatDoorShelf2
import Derived.Test.YtmgklblglpplcaaGreatDoorShelf
import Derived.Laws.BitsAllLaws
import Derived.Lib.Zigzag
import Derived.Recover
import Derived.Laws.BytesArg
import Derived.Deep.WholeRow
import Derived.Laws.IdiomStrings
namespace Go.Proofs.YtmgklblglpplcaaGreatDoor
open Go Go.RowKit Pk Pc
set_option maxRecDepth 100000
theorem run_build1 {P:Program} {S T:TypeId} {k:Nat} {Z:Array Value} {W:World} (hu:P.underlying S=some (.slice T)) (hs:(sizeOf T).run P W=.ok k W) (hz:(zeroValue T).run P W=.ok (.agg Z) W) (hk:0<k) (hk2:k≤1000) (c:List Value) (hc:c.length=k) :
  (Instr.buildSlice S 1 #[(0,.agg c.toArray)]).run P W=.ok (.slice (some ⟨W.heap.size,0,none⟩) 1 1) (W.alloc (.cells c.toArray T)):=by
 have hf:=fold_set0 c ((Array.range (1*k)).map (fun x=>Z[x % Z.size]!)) (by simp;omega);have hd:((Array.range (1*k)).map (fun x=>Z[x % Z.size]!)).toList.drop c.length=[]:=List.drop_of_length_le (by simp;omega);rw [hd,List.append_nil] at hf;have hsz:((Array.range (1*k)).map (fun x=>Z[x % Z.size]!)).size=k:=by simp
 generalize hq:(Array.range (1*k)).map (fun x=>Z[x % Z.size]!)=Q at *;have hk3:¬k=0:=by omega
 have hk4:¬16777216<k:=by omega
 simp [Instr.buildSlice,run_underlying hu,hs,hz,go_sem,Instr.fill,Value.cells,hk3,hk4];have hcond:¬(¬c.length=k∨k<c.length):=by omega
 rw [Nat.one_mul] at hq;rw [hq,if_neg hcond,hf];rfl
theorem exec_build1 {P:Program} {S T:TypeId} {k:Nat} {Z:Array Value} (W:World) {ev:Operand→Value} {o:Oper} (x:Operand) (c:List Value) (hu:P.underlying S=some (.slice T)) (hs:(sizeOf T).run P W=.ok k W) (hz:(zeroValue T).run P W=.ok (.agg Z) W) (hk:0<k) (hk2:k≤1000) (hc:c.length=k) (ho:o.op=.buildSlice S 1 #[(0,x)]) (hx:ev x=.agg c.toArray) :
  (execOp ev o).run P W=.ok (.value (.slice (some ⟨W.heap.size,0,none⟩) 1 1)) (W.alloc (.cells c.toArray T)):=by
 have h:=run_build1 hu hs hz hk hk2 c hc;unfold execOp;rw [ho];simp only [List.map_toArray,List.map_cons,List.map_nil,hx];rw [Sem.run_bind,h];rfl
def listGo {α:Type} (one:Bytes→Option (α × Bytes)) (k:Nat) (acc:List α) (s:Bytes):Option (List α × Bytes):=match listR one k s with
 | none=>none
 | some (l,r)=>some (acc++l,r)
theorem listGo_zero {α:Type} (one:Bytes→Option (α × Bytes)) (acc:List α) (s:Bytes):listGo one 0 acc s=some (acc,s):=by unfold listGo;rw [show listR one 0 s=some ([],s) from rfl];simp
theorem listGo_nil {α:Type} (one:Bytes→Option (α × Bytes)) (k:Nat) (s:Bytes):listGo one k [] s=listR one k s:=by
 unfold listGo;rcases listR one k s with _ | ⟨l,r⟩
 ·rfl
 ·rfl
theorem listGo_succ {α:Type} (one:Bytes→Option (α × Bytes)) (k:Nat) (acc:List α) (s:Bytes):listGo one (k+1) acc s=match one s with
  | none=>none
  | some (x,r)=>listGo one k (acc++[x]) r:=by
 unfold listGo;rw [listR_step];rcases one s with _ | ⟨x,r⟩
 ·rfl
 ·simp only;rcases listR one k r with _ | ⟨l,r2⟩
  ·rfl
  ·simp
def listQ {α β:Type} (K:Kd Tryz.prog β) (conv:α→β) (o:Option (List α × Bytes)) (b:Nat) (w:World) (en:Ending) (w':World):Prop:=
 orFail o (fun a en w'=>∃v,en=.returned v∧K.Own w.heap.size w' v (a.1.map conv)∧RdS w' b a.2∧Upd (fun k=>k=b) w w') (Upd (fun k=>k=b) w) en w'
set_option maxHeartbeats 2000000 in
theorem listPart_any (b:Nat) (s:Bytes) (w:World) (h:RdS w b s) :
  Calls Tryz.prog 106 #[.pointer (some ⟨b,0,none⟩),.func (.func 107) #[.pointer (some ⟨b,0,none⟩)] #[]] w fun en w'=>listQ kPart (fun p:Part=>(h32 p.1,h32 p.2)) (manyR partR s) b w en w':=by
 have HNR:=Lib.hid (kNum_any b s w h);have HONE:=fun s W hW=>Lib.hid (kPartR_any b s W hW);have HF:=fun W=>Lib.hid (fail_any W);have HBB:Hid (b<w.heap.size):=lt_of_heap h;obtain ⟨tgt,htgt⟩:∃t,t=manyR partR s:=⟨_,rfl⟩;rw [←htgt];have HT:=Lib.hid htgt;clear htgt h;go_enter Tryz.func106,Tryz.ntmps106
 go_wp2_with fail
 refine HNR.out.mono ?_;intro e w1 hp;rcases hm:readNum s with _ | ⟨n,r⟩
 ·rw [hm] at hp;obtain ⟨rfl,hu⟩:=hp;have HTN:Hid (tgt=none):=by show _=_;rw [HT.out];unfold manyR;rw [hm]
  have HU:=Lib.hid hu;clear HT HNR hm hu HONE;unfold panicW;go_wp2_with fail
  refine ⟨rfl,?_⟩;rw [HTN.out];exact ⟨rfl,HU.out⟩
 rw [hm] at hp;obtain ⟨rfl,hr,hu⟩:=hp;have HTM:Hid (tgt=if 65536<n then none else listR partR n r):=by show _=_;rw [HT.out];unfold manyR;rw [hm]
 have HR:=Lib.hid hr;have HU:=Lib.hid hu;clear HT HNR hm hr hu;by_cases hn:65536<n
 ·have HTN:Hid (tgt=none):=by show _=_;rw [HTM.out];exact if_pos hn
  have hn':(65536:Int)<(n:Int):=by omega
  clear HTM HONE;go_wp2_with fail
  refine (HF _).out.mono ?_;rintro e w3 ⟨rfl,rfl⟩;unfold panicW;go_wp2_with fail
  refine ⟨rfl,?_⟩;rw [HTN.out];exact ⟨rfl,HU.out⟩
 have HT2:Hid (listGo partR n [] r=tgt):=by show _=_;rw [HTM.out,if_neg hn];exact listGo_nil _ _ _
 have hn':¬(65536:Int)<(n:Int):=by omega
 have HNL:Hid (n≤65536):=by show _≤_;omega
 clear HTM hn HF;go_wp2_with fail
 clear hn';go_loopw [6,13] (fun sv i wr=>∃(k:Nat) (acc:List Part) (s':Bytes),i=.int .i64 k∧k≤n∧acc.length=k∧kPart.Own w.heap.size wr sv (acc.map (fun p:Part=>(h32 p.1,h32 p.2)))∧RdS wr b s'∧listGo partR (n-k) acc s'=tgt∧Upd (fun k=>k=b) w wr) (fun _ i _=>n-(intOf i).toNat)
 case atStart=>exact ⟨0,[],r,rfl,Nat.zero_le _,rfl,Kd.Own.nil _ _ _,HR.out,HT2.out,HU.out⟩
 case round=>
  obtain ⟨k,acc,s',rfl,hk,ha,ho,hr,ht,hu⟩:=hrel;have HO:=Lib.hid ho;have HR2:=Lib.hid hr;have HT3:=Lib.hid ht;have HU2:=Lib.hid hu;have HAL:Hid (acc.length=k):=ha;clear ho hr ht hu ha HR HT2 HU;by_cases hlt:k<n
  ·have hlt':(k:Int)<(n:Int):=by omega
   have HK:Hid (k<n):=hlt;have H1:=HONE s' wr HR2.out;obtain ⟨j,hj⟩:∃j,n-k=j+1:=⟨n-k-1,by omega⟩;have ht:=HT3.out;rw [hj,listGo_succ] at ht;have HJ:Hid (n-k=j+1):=hj;clear hlt hj HT3;go_wp2_with fail
   refine H1.out.mono ?_;intro e w2 hp;unfold readQ at hp;rcases hm:partR s' with _ | ⟨x,r2⟩
   ·rw [hm] at hp ht;obtain ⟨rfl,hu⟩:=hp;have HTN:Hid (tgt=none):=ht.symm;have HU3:=Lib.hid (HU2.out.trans hu);clear ht hm hu H1 HONE HO;unfold panicW;go_wp2_with fail
    refine ⟨rfl,?_⟩;rw [HTN.out];exact ⟨rfl,HU3.out⟩
   rw [hm] at hp ht;obtain ⟨rfl,hr2,hu2⟩:=hp;simp only at ht;have HT4:=Lib.hid ht;have HR3:=Lib.hid hr2;have HU3:=Lib.hid (HU2.out.trans hu2);have hown:=HO.out.other hu2 (fun g hg e=>by have h1:=(HO.out.blk hg).1;have:=HBB.out;have e':g=b:=e;omega);obtain ⟨g,cap2,w4,hrun,ho4,hu4,_⟩:=hown.app1 (Nat.le_trans HU3.out.size (Nat.le_refl _)) (h32 x.1,h32 x.2) (by rw [List.length_map];have:=HAL.out;have:=HNL.out;have:=HK.out;omega);rw [List.length_map,HAL.out] at hrun ho4;have hrun2:(Builtin.append_ #[95,95] 95 #[u6,.slice (some ⟨w2.heap.size,0,none⟩) 1 1]).run Tryz.prog (w2.alloc (.cells (partC (h32 x.1,h32 x.2)).toArray 97))=.ok (.slice (some ⟨g,0,none⟩) (k+1) cap2) w4:=hrun;have HRUN:=Lib.hid hrun2;have HO4:=Lib.hid ho4;have HR4:Hid (RdS w4 b r2):=hu4.heap hr2 (fun e=>by have h1:=(HO.out.blk e).1;have:=HBB.out;omega);have HU4:=Lib.hid (HU3.out.then hu4 (fun i hi e=>by have h1:=(HO.out.blk e).1;omega));have HSZ:Hid ((sizeOf 97).run Tryz.prog w2=.ok 64 w2):=by show _=_;kernel_rfl
   have HZ:Hid ((zeroValue 97).run Tryz.prog w2=.ok (.agg (Array.replicate 64 (.int .u8 0))) w2):=by show _=_;kernel_rfl
   have HLN:Hid ((partC (h32 x.1,h32 x.2)).length=64):=partC_len _;clear hr2 hu2 hown hrun hrun2 ho4 hu4 ht hm H1 HONE HO;unfold partV;go_wp2_with (first | (refine wpList_val rfl (.slice (some ⟨w2.heap.size,0,none⟩) 1 1) (w2.alloc (.cells (partC (h32 x.1,h32 x.2)).toArray 97)) (exec_build1 w2 _ (partC (h32 x.1,h32 x.2)) Tryz.underlying95 HSZ.out HZ.out (by decide) (by decide) HLN.out rfl rfl) ?_) | (at_builtin;refine wpList_append_run rfl _ _ _ rfl rfl rfl HRUN.out ?_))
   refine ⟨⟨k+1,acc++[x],r2,by push_cast;rfl,by have:=HK.out;omega,by rw [List.length_append,HAL.out];rfl,?_,HR4.out,?_,HU4.out⟩,?_⟩
   ·rw [List.map_append];exact HO4.out
   ·have e:n-(k+1)=j:=by have:=HJ.out;omega
    rw [e];exact HT4.out
   ·simp only [intOf];have:=HK.out;omega
  ·obtain rfl:k=n:=by omega
   have ht:=HT3.out;rw [Nat.sub_self,listGo_zero] at ht;have HTS:=Lib.hid ht;clear ht HT3;go_wp2_with fail
   go_ret
   rw [←HTS.out];exact ⟨_,rfl,HO.out,HR2.out,HU2.out⟩
end Go.Proofs.YtmgklblglpplcaaGreatDoor
