/- Parts: Walks of the packets' program: hashes, parts and moves are read. No condition. -/
import Derived.Test.YtmgklblglpplcaaGreatDoorRPubl1
import Derived.Test.YtmgklblglpplcaaGreatDoorRPubl2
import Derived.Test.YtmgklblglpplcaaGreatDoorRPubl3
import Derived.Test.YtmgklblglpplcaaGreatDoorRPubl5
import Derived.Test.YtmgklblglpplcaaGreatDoorRPubl6
import Derived.Test.YtmgklblglpplcaaGreatDoorRPubl8
import Derived.Test.YtmgklblglpplcaaGreatDoorRPubl11
import Derived.Test.YtmgklblglpplcaaGreatDoorRPubl12
import Derived.Test.YtmgklblglpplcaaGreatDoorRPubl14
import Derived.Test.YtmgklblglpplcaaGreatDoorRPubl16
import Derived.Test.YtmgklblglpplcaaGreatDoorRPubl19
import Derived.Test.YtmgklblglpplcaaGreatDoorRPubl20
import Derived.Test.YtmgklblglpplcaaGreatDoorRPubl22
import Derived.WalkKit
import Derived.WalkSpells
import Derived.WalkLawsBesides
import Derived.Lib.Hide
import Derived.BigQuiet
import Derived.Deep.DeepFit
import Derived.Deep.DeepCutAuto
import Derived.Deep.AppendLies
import Derived.Deep.QuietTactic
import Derived.Maps.OwnOps
import Derived.Maps.OwnSet
import Derived.Maps.RangeWalk
import Derived.WideKeyEntry
import Derived.Deep.MidRow
import Derived.Lib.Bits
import Derived.Test.YtmgklblglpplcaaGreatDoorRows
import Derived.Deep.RegionHeld3
import Derived.StillTail
import Derived.Laws.EntriesVeiled
import Derived.Handy
import Derived.DeepKeys4
import Derived.ArgAppend
import Derived.Deep.Upon
import Derived.Deep.CutBlock
import Derived.Test.YtmgklblglpplcaaGreatDoorShelf2
import Derived.Test.YtmgklblglpplcaaGreatDoorShelf
import Derived.Laws.BitsAllLaws
import Derived.Lib.Zigzag
import Derived.Recover
import Derived.Laws.BytesArg
import Derived.Deep.WholeRow
import Derived.Laws.IdiomStrings
namespace Go.Proofs.YtmgklblglpplcaaGreatDoor
open Go Go.RowKit Pk Pc
set_option maxRecDepth 100000
def readQ {α:Type} (V:α→Value) (o:Option (α × Bytes)) (b:Nat) (w:World) (en:Ending) (w':World):Prop:=
 orFail o (fun a en w'=>en=.returned (V a.1)∧RdS w' b a.2∧Upd (fun k=>k=b) w w') (Upd (fun k=>k=b) w) en w'
def h32 (l:Bytes):H32:=if h:l.length=32 then ⟨l,h⟩ else ⟨List.replicate 32 0,List.length_replicate⟩
theorem store_row {P:Program} {w:World} {g:Nat} {cur:Array Value} {t:TypeId} {vs:List Value} (hb:w.heap[g]?=some (.cells cur t (0,0))) (hl:vs.length=cur.size) (h1:∀v∈vs,v.oneCell'=true) :
  ∃W,(storeCells ⟨g,0,none⟩ vs 0).run P w=.ok () W∧W.heap[g]?=some (.cells vs.toArray t (0,0))∧Upd (fun k=>k=g) w W:=by
 have h:=run_storeCells_from (P:=P) g t vs 0 cur w hb (by omega) h1;rw [List.take_zero,List.nil_append] at h;refine ⟨_,h,setRow_heap w g cur vs.toArray t (0,0) hb,rfl,rfl,rfl,by simp [World.setRow],fun i hi hf=>?_⟩;have hf':¬g=i:=fun e=>hf e.symm;simp only [World.setRow,Array.getElem?_modify,if_neg hf']
theorem bytes_row (l:Bytes) (w:World):∃cap W,(convert 9 48 (.string (bs l))).run Tryz.prog w=.ok (.slice (some ⟨w.heap.size,0,none⟩) l.length cap) W∧Upd noBlk w W∧W.rangeAt w.heap.size 0 (byV l):=by
 have h:=run_bytes_of_string (P:=Tryz.prog) w 9 48 5 (bs l) Tryz.underlying9 Tryz.underlying48 Tryz.underlying5;rw [bs_size] at h;generalize grownCap w l.length 0 5=cap at h;refine ⟨cap,_,h,((Upd.refl _ _).drew).alloc _,fun j v hj=>?_⟩;have hg:(w.drew.alloc (.cells (bytesRow (bs l) cap) 5 ((bytesRow (bs l) cap).size,(bytesRow (bs l) cap).size+1))).heap[w.heap.size]?=some (.cells (bytesRow (bs l) cap) 5 ((bytesRow (bs l) cap).size,(bytesRow (bs l) cap).size+1)):=heap_alloc_new w.drew _;have hjl:j<l.length:=by have:=(List.getElem?_eq_some_iff.1 hj).1;rw [byV_len] at this;exact this
 have hs:j<(bs l).data.size:=by unfold bs;simpa using hjl
 rw [Nat.zero_add];simp only [World.cell?,hg];rw [bytesRow_at (bs l) cap j hs];have hb:(byV l)[j]?=some (.int .u8 ((l[j].toNat:Nat):Int)):=by unfold byV;rw [List.getElem?_map,List.getElem?_eq_getElem hjl];rfl
 rw [hb] at hj;rw [←hj];simp [bs];rfl
theorem h32_mk {l:Bytes} (h:l.length=32):h32 l=⟨l,h⟩:=dif_pos h
set_option maxHeartbeats 1000000 in
theorem kHashR_any (b:Nat) (s:Bytes) (w:World) (h:RdS w b s) :
  Calls Tryz.prog 109 #[.pointer (some ⟨b,0,none⟩)] w fun en w'=>readQ (fun l=>.agg (hashC (h32 l)).toArray) (takeR 32 s) b w en w':=by
 have HTK:=fun W hW=>Lib.hid (kTake_any b 32 s W hW);obtain ⟨tgt,htgt⟩:∃t,t=takeR 32 s:=⟨_,rfl⟩;rw [←htgt];have HT:=Lib.hid htgt;have HR:=Lib.hid h;clear htgt h;go_enter Tryz.func109,Tryz.ntmps109
 have HRB:Hid ((w.alloc (.cells (Array.replicate 32 (.int .u8 0)) 36)).heap[w.heap.size]?=some (.cells (Array.replicate 32 (.int .u8 0)) 36 (0,0))):=heap_alloc_new w _;have HU0:Hid (Upd noBlk w (w.alloc (.cells (Array.replicate 32 (.int .u8 0)) 36))):=(Upd.refl _ w).alloc _;have hrep:(Array.replicate 32 (Value.int .u8 0))=#[.int .u8 0,.int .u8 0,.int .u8 0,.int .u8 0,.int .u8 0,.int .u8 0,.int .u8 0,.int .u8 0,.int .u8 0,.int .u8 0,.int .u8 0,.int .u8 0,.int .u8 0,.int .u8 0,.int .u8 0,.int .u8 0,.int .u8 0,.int .u8 0,.int .u8 0,.int .u8 0,.int .u8 0,.int .u8 0,.int .u8 0,.int .u8 0,.int .u8 0,.int .u8 0,.int .u8 0,.int .u8 0,.int .u8 0,.int .u8 0,.int .u8 0,.int .u8 0]:=rfl;rw [hrep] at HRB HU0;go_upto_region 1 with fail
 have HBB:Hid (b<w.heap.size):=lt_of_heap HR.out;obtain ⟨rb,hrb⟩:∃rb,rb=w.heap.size:=⟨_,rfl⟩;have HRBS:Hid (w.heap.size≤rb):=by show _≤_;omega
 rw [←hrb] at HRB HBB;rw [←hrb];clear hrb;generalize w.alloc _=w1 at *;have HTK1:=HTK w1 (HU0.out.heap HR.out id);clear HTK hrep;go_wp2_with fail
 refine HTK1.out.mono ?_;intro e w2 hp;rcases hm:takeR 32 s with _ | ⟨l,r⟩
 ·rw [hm] at hp;obtain ⟨rfl,rfl⟩:=hp;have HTN:Hid (tgt=none):=by show _=_;rw [HT.out,hm]
  clear HT HTK1 hm;unfold panicW;go_wp2_with fail
  refine ⟨rfl,?_⟩;rw [HTN.out];exact ⟨rfl,HU0.out.mono (fun _ _ h=>h.elim)⟩
 ·rw [hm] at hp;obtain ⟨rfl,h2,u2⟩:=hp;have HTS:Hid (tgt=some (l,r)):=by show _=_;rw [HT.out,hm]
  have hll:=(takeR_len hm).1;have HRR:=Lib.hid h2;have HU2:=Lib.hid u2;have HRB2:=Lib.hid (u2.heap HRB.out (by have:=HBB.out;omega));obtain ⟨cap,W,hcv,hu3,hra⟩:=bytes_row l w2;rw [hll] at hcv;have HC:=Lib.hid hcv;have HU3:=Lib.hid hu3;have HRA:Hid (W.rangeAt w2.heap.size 0 (hashC ⟨l,hll⟩)):=hra;obtain ⟨X,hst,hx1,hx2⟩:=store_row (P:=Tryz.prog) (hu3.heap HRB2.out id) (vs:=hashC ⟨l,hll⟩) (by rw [hashC_len];rfl) (byV_one l);have hst2:=hst;have hat:(Instr.arrayAt 36 (.slice (some ⟨w2.heap.size,0,none⟩) 32 cap)).run Tryz.prog W=.ok (.pointer (some ⟨w2.heap.size,0,none⟩)) W:=by kernel_rfl
  have HI:Hid ((Tryz.prog.info? 36).map (·.size)=some (hashC ⟨l,hll⟩).length):=by show _=_;rw [hashC_len];kernel_rfl
  have hlen:=hashC_len ⟨l,hll⟩;clear hst HTK1 HT hm h2 u2 hu3 hra;go_wp2_with (first | (refine wpList_load_mid rfl _ _ rfl w2.heap.size 0 rfl (hashC ⟨l,hll⟩) _ HRA.out Tryz.underlying36 rfl HI.out ?_))
  (try simp only [Exit.inBlock,Exit.then])
  refine bodyPost_ret (results_cell_row rfl _ _ rb 36 _ (0,0) _ rfl hx1 Tryz.underlying36 rfl (by have:=HI.out;simpa using this)) rfl ?_;unfold readQ;rw [HTS.out];have hn:¬b=rb:=by have:=HBB.out;omega
  refine ⟨by show _=Ending.returned (.agg (hashC (h32 l)).toArray);rw [h32_mk hll],hx2.heap (HU3.out.heap HRR.out id) hn,?_⟩;exact (((HU0.out.mono (fun _ _ h=>h.elim)).trans HU2.out).trans (HU3.out.mono (fun _ _ h=>h.elim))).then hx2 (fun i hi e=>by have e':i=rb:=e;have:=HRBS.out;omega)
theorem h32_len {l:Bytes} (h:l.length=32):(h32 l).1=l:=by unfold h32;rw [dif_pos h]
def partV (p:Part):Value:=.agg (partC (h32 p.1,h32 p.2)).toArray
theorem fold_set (off:Nat):∀(l:List Value) (k:Nat) (cs:Array Value),off+k+l.length≤cs.size→(l.zipIdx k).foldl (fun cs x=>cs.setIfInBounds (off+x.2) x.1) cs=(cs.toList.take (off+k)++l++cs.toList.drop (off+k+l.length)).toArray
 | [],k,cs,_=>by simp
 | v :: l,k,cs,h=>by
  simp only [List.length_cons] at h;rw [List.zipIdx_cons,List.foldl_cons,fold_set off l (k+1) _ (by simp;omega)];have hn:off+k<cs.toList.length:=by simp;omega
  have e:(cs.setIfInBounds (off+k) v).toList=cs.toList.take (off+k)++v :: cs.toList.drop (off+k+1):=by
   rw [Array.toList_setIfInBounds,List.set_eq_take_append_cons_drop,if_pos hn]
  have ht:(cs.toList.take (off+k)).length=off+k:=by rw [List.length_take];omega
  rw [e,List.take_append,List.drop_append,ht,show off+(k+1)-(off+k)=1 by omega,show off+(k+1)+l.length-(off+k)=l.length+1 by omega];rw [List.take_of_length_le (i:=off+(k+1)) (by omega),List.drop_of_length_le (i:=off+(k+1)+l.length) (by omega)];simp only [List.take_succ_cons,List.take_zero,List.nil_append,List.drop_succ_cons,List.drop_drop,List.length_cons,List.append_assoc,List.cons_append];congr 4
  congr 1
  omega
theorem fold_set0 (l:List Value) (cs:Array Value) (h:l.length≤cs.size):l.zipIdx.foldl (fun cs x=>cs.setIfInBounds x.2 x.1) cs=(l++cs.toList.drop l.length).toArray:=by
 have:=fold_set 0 l 0 cs (by omega);simpa using this
theorem wpList_val {P:Program} {ops:Array Oper} {rest:List Oper} {o:Oper} {a:Act} {w:World} {Q:Exit→Act→World→Prop} (hg:o.guard=none) (v:Value) (w':World) (hv:(execOp a.eval o).run P w=.ok (.value v) w') (h:wpList P ops Q rest (a.put o.dst v) w'):wpList P ops Q (o :: rest) a w:=
 wpList_plain hg fun K hK=>by
  unfold Oper.wp;rw [hv];exact hK _ _ h
theorem build_part (a b:H32) (W:World):(Instr.build 97 #[(0,.agg (hashC a).toArray),(1,.agg (hashC b).toArray)]).run Tryz.prog W=.ok (.agg (partC (a,b)).toArray) W:=by
 have h1:(zeroValue 97).run Tryz.prog W=.ok (.agg (Array.replicate 64 (.int .u8 0))) W:=by kernel_rfl
 have hZ:(Array.replicate 64 (Value.int .u8 0)).size=64:=Array.size_replicate ..;generalize Array.replicate 64 (Value.int .u8 0)=Z at *;have ha:=hashC_len a;have hb:=hashC_len b;have hf1:=fold_set0 (hashC a) Z (by omega);have hR:(Z.toList.drop (hashC a).length).length=32:=by rw [List.length_drop,Array.length_toList,hZ,ha]
 generalize Z.toList.drop (hashC a).length=R at *;have hs1:((hashC a++R).toArray).size=64:=by rw [List.size_toArray,List.length_append,ha,hR]
 have hf2:=fold_set 32 (hashC b) 0 (hashC a++R).toArray (by rw [hs1,hb];decide);have hend:(((hashC a++R).toArray.toList.take (32+0)++hashC b++(hashC a++R).toArray.toList.drop (32+0+(hashC b).length)).toArray)=(partC (a,b)).toArray:=by
  have e1:(hashC a++R).toArray.toList=hashC a++R:=rfl;rw [e1,List.take_left' ha,List.drop_of_length_le (by rw [List.length_append,ha,hR,hb];decide),List.append_nil];rfl
 rw [hend] at hf2;generalize (hashC a++R).toArray=F1 at *;generalize (partC (a,b)).toArray=E at *;simp [Instr.build,go_sem,h1,Instr.fill,ha,hb,hZ,hf1,hf2,hs1,Value.cells]
theorem exec_build_part (a b:H32) (W:World) {ev:Operand→Value} {o:Oper} (x y:Operand) (ho:o.op=.build 97 #[(0,x),(1,y)]) (hx:ev x=.agg (hashC a).toArray) (hy:ev y=.agg (hashC b).toArray):(execOp ev o).run Tryz.prog W=.ok (.value (.agg (partC (a,b)).toArray)) W:=by
 have h:=build_part a b W;unfold execOp;rw [ho];simp only [List.map_toArray,List.map_cons,List.map_nil,hx,hy];rw [Sem.run_bind,h];rfl
set_option maxHeartbeats 1000000 in
theorem kPartR_any (b:Nat) (s:Bytes) (w:World) (h:RdS w b s) :
  Calls Tryz.prog 107 #[.pointer (some ⟨b,0,none⟩)] w fun en w'=>readQ partV (partR s) b w en w':=by
 have HHR:=fun s W hW=>Lib.hid (kHashR_any b s W hW);obtain ⟨tgt,htgt⟩:∃t,t=partR s:=⟨_,rfl⟩;rw [←htgt];have HT:=Lib.hid htgt;have HR:=Lib.hid h;have HBB:Hid (b<w.heap.size):=lt_of_heap HR.out;clear htgt h;go_enter Tryz.func107,Tryz.ntmps107
 go_upto_region 1 with fail
 generalize hw1:w.alloc _=w1;obtain ⟨c0,hc0,hrb0⟩:∃c0:Array Value,c0.size=64∧w1.heap[w.heap.size]?=some (.cells c0 97 (0,0)):=by
  refine ⟨_,?_,(by rw [←hw1];exact heap_alloc_new w _)⟩;rfl
 have HU0:Hid (Upd noBlk w w1):=by show Upd _ _ _;rw [←hw1];exact (Upd.refl _ w).alloc _
 have HRB:=Lib.hid hrb0;have HC0:Hid (c0.size=64):=hc0;obtain ⟨rb,hrb⟩:∃rb,rb=w.heap.size:=⟨_,rfl⟩;have HRBS:Hid (w.heap.size≤rb):=by show _≤_;omega
 rw [←hrb] at HRB HBB;rw [←hrb];clear hrb hrb0 hc0 hw1;have H1:=HHR s w1 (HU0.out.heap HR.out id);go_wp2_with fail
 refine H1.out.mono ?_;intro e w2 hp;unfold readQ at hp;rcases hm:takeR 32 s with _ | ⟨l1,r1⟩
 ·rw [hm] at hp;obtain ⟨rfl,hu⟩:=hp;have HTN:Hid (tgt=none):=by show _=_;rw [HT.out];unfold partR;rw [hm]
  have HU2:=Lib.hid ((HU0.out.mono (fun _ _ h=>h.elim)).trans hu);clear HT H1 hm hu HHR;unfold panicW;go_wp2_with fail
  refine ⟨rfl,?_⟩;rw [HTN.out];exact ⟨rfl,HU2.out⟩
 rw [hm] at hp;obtain ⟨rfl,h2,u2⟩:=hp;have HL1:Hid (l1.length=32):=(takeR_len hm).1;have HU2:Hid (Upd (fun k=>k=b) w w2):=(HU0.out.mono (fun _ _ h=>h.elim)).trans u2;have HRB2:=Lib.hid (u2.heap HRB.out (by have:=HBB.out;omega));have HR2:=Lib.hid h2;have H2:=HHR r1 w2 h2;have HM1:=Lib.hid hm;clear hm h2 u2 H1 HHR;go_wp2_with fail
 refine H2.out.mono ?_;intro e w3 hp;unfold readQ at hp;rcases hm:takeR 32 r1 with _ | ⟨l2,r2⟩
 ·rw [hm] at hp;obtain ⟨rfl,hu⟩:=hp;have HTN:Hid (tgt=none):=by show _=_;rw [HT.out];unfold partR;rw [HM1.out];show (match takeR 32 r1 with | none=>none | some (b,r2)=>some ((l1,b),r2))=none;rw [hm]
  have HU3:=Lib.hid (HU2.out.trans hu);clear HT H2 hm hu;unfold panicW;go_wp2_with fail
  refine ⟨rfl,?_⟩;rw [HTN.out];exact ⟨rfl,HU3.out⟩
 rw [hm] at hp;obtain ⟨rfl,h3,u3⟩:=hp;have HL2:Hid (l2.length=32):=(takeR_len hm).1;have HTS:Hid (tgt=some ((l1,l2),r2)):=by show _=_;rw [HT.out];unfold partR;rw [HM1.out];show (match takeR 32 r1 with | none=>none | some (b,r2)=>some ((l1,b),r2))=some _;rw [hm]
 have HU3:=Lib.hid (HU2.out.trans u3);have HRB3:=Lib.hid (u3.heap HRB2.out (by have:=HBB.out;omega));have HR3:=Lib.hid h3;clear hm h3 u3 H2 HT HM1;obtain ⟨X,hst,hx1,hx2⟩:=store_row (P:=Tryz.prog) HRB3.out (vs:=partC (h32 l1,h32 l2)) (by rw [partC_len];exact HC0.out.symm) (partC_one _);have hpl:=partC_len (h32 l1,h32 l2);have HPL:Hid ((partC (h32 l1,h32 l2)).length=64):=hpl;go_wp2_with (first | (refine wpList_val rfl (.agg (partC (h32 l1,h32 l2)).toArray) w3 (exec_build_part (h32 l1) (h32 l2) w3 _ _ rfl rfl rfl) ?_))
 (try simp only [Exit.inBlock,Exit.then])
 refine bodyPost_ret (results_cell_row rfl _ _ rb 97 _ (0,0) _ rfl hx1 Tryz.underlying97 rfl (by rw [List.size_toArray,HPL.out];kernel_rfl)) rfl ?_;unfold readQ;rw [HTS.out];have hn:¬b=rb:=by have:=HBB.out;omega
 exact ⟨rfl,hx2.heap HR3.out hn,HU3.out.then hx2 (fun i hi e=>by have e':i=rb:=e;have:=HRBS.out;omega)⟩
end Go.Proofs.YtmgklblglpplcaaGreatDoor
