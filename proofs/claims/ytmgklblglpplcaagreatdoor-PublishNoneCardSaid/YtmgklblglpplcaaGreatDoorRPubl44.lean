/- Parts: Walks of the law: the sanity check. No condition. Walks of the law: the small version. No condition. What a reading of an argument tells (publications): a hash. No condition. -/
import Derived.Test.YtmgklblglpplcaaGreatDoorRPubl2
import Derived.Test.YtmgklblglpplcaaGreatDoorRPubl4
import Derived.Test.YtmgklblglpplcaaGreatDoorRPubl5
import Derived.Test.YtmgklblglpplcaaGreatDoorRPubl6
import Derived.Test.YtmgklblglpplcaaGreatDoorRPubl8
import Derived.Test.YtmgklblglpplcaaGreatDoorRPubl9
import Derived.Test.YtmgklblglpplcaaGreatDoorRPubl11
import Derived.Test.YtmgklblglpplcaaGreatDoorRPubl12
import Derived.Test.YtmgklblglpplcaaGreatDoorRPubl14
import Derived.Test.YtmgklblglpplcaaGreatDoorRPubl16
import Derived.Test.YtmgklblglpplcaaGreatDoorRPubl19
import Derived.Test.YtmgklblglpplcaaGreatDoorRPubl20
import Derived.Test.YtmgklblglpplcaaGreatDoorRPubl21
import Derived.Test.YtmgklblglpplcaaGreatDoorRPubl23
import Derived.Test.YtmgklblglpplcaaGreatDoorRPubl25
import Derived.Test.YtmgklblglpplcaaGreatDoorRPubl28
import Derived.Test.YtmgklblglpplcaaGreatDoorRPubl31
import Derived.Test.YtmgklblglpplcaaGreatDoorRPubl34
import Derived.Test.YtmgklblglpplcaaGreatDoorRPubl35
import Derived.Test.YtmgklblglpplcaaGreatDoorRPubl37
import Derived.Test.YtmgklblglpplcaaGreatDoorRPubl39
import Derived.Test.YtmgklblglpplcaaGreatDoorRPubl41
import Derived.Test.YtmgklblglpplcaaGreatDoorRPubl42
import Derived.Test.YtmgklblglpplcaaGreatDoorRPubl43
import Derived.WalkKit
import Derived.WalkSpells
import Derived.WalkLawsBesides
import Derived.Lib.Hide
import Derived.BigQuiet
import Derived.Deep.DeepFit
import Derived.Deep.DeepCutAuto
import Derived.Deep.AppendLies
import Derived.Deep.QuietTactic
import Derived.Test.YtmgklblglpplcaaGreatDoorRows
import Derived.Deep.RegionHeld3
import Derived.StillTail
import Derived.Lib.AppendStr
import Derived.Lib.AppendZeros
import Derived.Deep.MidRow
import Derived.ArgAppend
import Derived.Deep.Upon
import Derived.Maps.OwnOps
import Derived.Maps.OwnSet
import Derived.Maps.RangeWalk
import Derived.WideKeyEntry
import Derived.Lib.Bits
import Derived.Laws.EntriesVeiled
import Derived.Handy
import Derived.DeepKeys4
import Derived.Deep.CutBlock
import Derived.Test.YtmgklblglpplcaaGreatDoorShelf2
import Derived.Laws.BitsAllLaws
import Derived.Laws.BytesArg
import Derived.Test.YtmgklblglpplcaaGreatDoorShelf
import Derived.Lib.Zigzag
import Derived.Recover
import Derived.Deep.WholeRow
import Derived.Laws.IdiomStrings
import Derived.Laws.MakeOwn
import Derived.Laws.CopyOwn
import Derived.IntWalk
import Derived.RangeFuncNested
import Derived.RangeFuncBound
import Derived.RangeFuncCalls
import Derived.RangeFuncLeaves
import Derived.RangeFuncFrom
import Derived.LoopIn
import Derived.LoopNIn
import Derived.OwnWalkIn
import Derived.TacticsInMore
import Derived.Stop.BytesEq
import Derived.Defers
import Derived.Lib.SliceRun
import Derived.WalkMore
import Derived.RegionIn
import Derived.Deep.AppendSrc
import Derived.ProofKit
import Derived.OpenShut
import Derived.ChangeOld
import Derived.Deep.SlicePairs
import Derived.Deep.Grids
import Derived.WideKeyPair
import Derived.Test.YtmgklblglpplcaaGreatDoorCards
import Derived.Test.YtmgklblglpplcaaGreatDoorTie
import Derived.ShutString
import Derived.Below
import Derived.Carry
import Derived.Laws.IdiomArrays
import Derived.Deep.DeepHandedRow
import Derived.Deep.DeepWitnessRowRef
import Derived.Lib.LaidTab
namespace Go.Proofs.YtmgklblglpplcaaGreatDoor
open Go Go.RowKit Pk
set_option maxRecDepth 100000
set_option maxHeartbeats 400000 in
theorem small_any (X:H32) (hX:shaH [3,0]=X) (w:World):Calls Tryz.prog 13 #[] w fun e w'=>∃g,e=.returned (.agg (verC X (.slice (some ⟨g,0,none⟩) 1 1)).toArray)∧kPk.Own w.heap.size w' (.slice (some ⟨g,0,none⟩) 1 1) [(X,[3,0])]∧Upd noBlk w w':=by
 have hzv:∀W,(zeroValue 45).run Tryz.prog W=.ok (.agg (verC zeroH (.slice none 0 0)).toArray) W:=fun W=>by kernel_rfl
 have hvz:=verC_len zeroH (.slice none 0 0);obtain ⟨w1,hw1⟩:∃w1,w1=w.alloc (.cells (verC zeroH (.slice none 0 0)).toArray 45):=⟨_,rfl⟩;obtain ⟨N,hN⟩:∃N,N=w.heap.size:=⟨_,rfl⟩;have hb:w1.heap[N]?=some (.cells (verC zeroH (.slice none 0 0)).toArray 45 (0,0)):=by rw [hw1,hN];exact heap_alloc_new w _
 have U1:Hid (Upd noBlk w w1):=by show Upd _ _ _;rw [hw1];exact (Upd.refl _ w).alloc _
 have B1:=Lib.hid hb;have HJ:=Lib.hid (jSum_any [3,0] (by simp) w1);rw [hX] at HJ;unfold hashV0 at HJ;have hcl:=hashC_len X;have HI:=Lib.hid (size_h X);clear hb hX;go_enter Tryz.func13,Tryz.ntmps13
 go_wp2_with fail
 rw [←hw1,←hN];have HN:=Lib.hid hN;clear hw1 hN;refine HJ.out.mono ?_;rintro e w2 ⟨rfl,u2⟩;have hzh:=zero_hash;obtain ⟨Z,hst,hz1,hz2⟩:=store_row (P:=Tryz.prog) (heap_alloc_new w2 (.cells (hashC zeroH).toArray 36)) (vs:=hashC X) (by rw [List.size_toArray,hashC_len,hashC_len]) (byV_one X.1);have uz:Upd noBlk w1 Z:=u2.trans (((Upd.refl noBlk w2).alloc _).then hz2 (fun i hi e=>by omega));obtain ⟨Hb,hHb⟩:∃Hb,Hb=w2.heap.size:=⟨_,rfl⟩;have RZ:Hid (Z.rangeAt Hb 0 (hashC X)):=by show World.rangeAt _ _ _ _;rw [hHb];exact range_row hz1
 have UZ:=Lib.hid (U1.out.trans uz);have BZ:=Lib.hid (uz.heap B1.out id);have HSZ:Hid ((sizeOf 63).run Tryz.prog Z=.ok 33 Z):=by show _=_;kernel_rfl
 have HZ:Hid ((zeroValue 63).run Tryz.prog Z=.ok (.agg (pkC (zeroH,[])).toArray) Z):=zero_pk _;obtain ⟨V,hV⟩:∃V,V=Z.alloc (.cells (pkC (X,[3,0])).toArray 63):=⟨_,rfl⟩;obtain ⟨g,hg⟩:∃g,g=Z.heap.size:=⟨_,rfl⟩;have hgb:V.heap[g]?=some (.cells (pkC (X,[3,0])).toArray 63 (0,0)):=by rw [hV,hg];exact heap_alloc_new Z _
 have UV:Hid (Upd noBlk Z V):=by show Upd _ _ _;rw [hV];exact (Upd.refl _ Z).alloc _
 have BV:=Lib.hid (UV.out.heap BZ.out id);obtain ⟨T,hst2,ht1,ht2⟩:=store_row (P:=Tryz.prog) BV.out (vs:=verC X (.slice (some ⟨g,0,none⟩) 1 1)) (by rw [List.size_toArray,verC_len,verC_len]) (fun v hv=>by
  rcases List.mem_append.1 hv with e | e
  ·exact byV_one _ v e
  ·rw [List.mem_singleton.1 e];rfl)
 have hne:g≠N:=by rw [hg];have:=lt_of_heap BZ.out;omega
 have HGT:=Lib.hid (ht2.heap hgb hne);have HT1:=Lib.hid ht1;have UT:Hid (Upd noBlk w T):=(UZ.out.trans UV.out).then ht2 (fun i hi e=>by have:=HN.out;omega);have HGN:Hid (w.heap.size≤g):=by show _≤_;rw [hg];exact UZ.out.size
 have hvx:=verC_len X (.slice (some ⟨g,0,none⟩) 1 1);have HIV:=Lib.hid (size_ver X (.slice (some ⟨g,0,none⟩) 1 1));clear uz hz1 hz2 u2 HJ B1 U1 ht1 ht2 hgb;go_upto_region 2 with fail
 rw [←hHb];clear hHb hst hzh;rw [hg,hV] at hst2;rw [hg] at hvx;have HST2:=Lib.hid hst2;clear hst2 hvx;refine wp_region_lit ?_;refine wpList_load_mid rfl _ _ rfl Hb 0 (by go_simp) (hashC X) _ RZ.out Tryz.underlying36 rfl HI.out ?_;refine wpList_load_mid rfl _ _ rfl Hb 0 (by go_simp) (hashC X) _ RZ.out Tryz.underlying36 rfl HI.out ?_;refine wpList_val rfl (.agg (pkC (X,[3,0])).toArray) Z (exec_build_pk X [3,0] Z (.tmp 4) (.const (.string (bs [3,0]))) rfl (by go_simp) (by go_simp)) ?_;refine wpList_val rfl (.slice (some ⟨Z.heap.size,0,none⟩) 1 1) (Z.alloc (.cells (pkC (X,[3,0])).toArray 63)) (exec_build1 Z (.tmp 5) (pkC (X,[3,0])) Tryz.underlying30 HSZ.out HZ.out (by decide) (by decide) (pkC_len _) rfl (by go_simp)) ?_;refine wpList_val rfl (.agg (verC X (.slice (some ⟨Z.heap.size,0,none⟩) 1 1)).toArray) (Z.alloc (.cells (pkC (X,[3,0])).toArray 63)) (exec_build_ver X (some ⟨Z.heap.size,0,none⟩) 1 1 (Z.alloc (.cells (pkC (X,[3,0])).toArray 63)) (.tmp 3) (.tmp 6) rfl (by go_simp) (by go_simp)) ?_;have hst2:=HST2.out;have hvx:=verC_len X (.slice (some ⟨Z.heap.size,0,none⟩) 1 1);go_wp2_with fail
 (try simp only [Exit.inBlock,Exit.then])
 refine bodyPost_ret (results_cell_row rfl _ _ N 45 _ (0,0) _ rfl HT1.out Tryz.underlying45 rfl (by have:=HIV.out;simpa using this)) rfl ?_;refine ⟨g,rfl,?_,UT.out⟩;exact ⟨by simp [kPk,pkC_len],.inr ⟨g,1,_,rfl,HGN.out,HGT.out,Nat.le_refl _,by unfold maxLen;omega,by rw [List.size_toArray,pkC_len];rfl,by
  have e:([(X,[3,0])]:List (H32 × Bytes)).flatMap kPk.enc=pkC (X,[3,0]):=by rw [List.flatMap_cons,List.flatMap_nil,List.append_nil];rfl
  rw [e];exact List.take_of_length_le (by rw [show (pkC (X,[3,0])).toArray.toList=pkC (X,[3,0]) from rfl,pkC_len];show 33≤1*33;omega)⟩⟩
end Go.Proofs.YtmgklblglpplcaaGreatDoor
namespace Go.Proofs.YtmgklblglpplcaaGreatDoor
open Go Go.RowKit Pk
set_option maxRecDepth 100000
theorem wpList_valG {P:Program} {ops:Array Oper} {rest:List Oper} {o:Oper} {a:Act} {w w':World} {Q:Exit→Act→World→Prop} (v:Value) (hw:Region.wanted o (yielded ops a.tmps)=true) (hv:(execOp a.eval o).run P w=.ok (.value v) w') (h:wpList P ops Q rest (a.put o.dst v) w'):wpList P ops Q (o :: rest) a w:=
 wpList_step fun K hK=>by
  rw [if_pos hw];unfold Oper.wp;rw [hv];exact hK _ _ h
theorem body_one (X:H32):bodyB [[3,0]] X=[1,2,3,0]++X.1:=rfl
theorem content1 (X:H32):putB (putB [] 1 (frameB (bodyB [[3,0]] X)++[0])) 0 [1]=[1,36,1,2,3,0]++X.1++[0]:=by
 have h:X.1.length=32:=X.2;have e:frameB (bodyB [[3,0]] X)=[36,1,2,3,0]++X.1:=by
  rw [body_one];unfold frameB;rw [List.length_append,h];rfl
 rw [e];unfold putB;simp [h]
theorem newP_nil:newP []=[[3,0]]:=rfl
theorem newP_cons (p:H32 × Bytes):newP [p]=[]:=rfl
end Go.Proofs.YtmgklblglpplcaaGreatDoor
namespace Go.Proofs.YtmgklblglpplcaaGreatDoor
open Go Go.RowKit Go.ChangeShapes Go.WideShapes Go.ChangeAt Pk
set_option maxRecDepth 100000
theorem u8_wf3 {z:Int} (h:(Lit.int .u8 z).wf=true):∃c:Nat,z=c∧c<256:=by
 simp [Lit.wf,IntKind.min,IntKind.max,IntKind.signed,IntKind.bits] at h;exact ⟨z.toNat,by omega,by omega⟩
theorem bytes_of_cells:∀cs:List Value,(∀i,i<cs.length→∃c:Nat,c<256∧cs[i]?=some (.int .u8 (c:Int)))→∃l:Bytes,l.length=cs.length∧cs=byV l
 | [],_=>⟨[],rfl,rfl⟩
 | v :: cs,h=>by
  obtain ⟨c,hc,e⟩:=h 0 (by simp);obtain ⟨l,hl,hcs⟩:=bytes_of_cells cs (fun i hi=>by
   obtain ⟨c,hc,e⟩:=h (i+1) (by simp;omega);exact ⟨c,hc,by simpa using e⟩)
  refine ⟨UInt8.ofNat c :: l,by simp [hl],?_⟩;have e2:v=.int .u8 (c:Int):=by simpa using e
  have e3:(UInt8.ofNat c).toNat=c:=by rw [UInt8.toNat_ofNat'];omega
  rw [e2,hcs];simp [byV,e3]
  try omega
theorem hash_of_trod {H:Type} {enc:TypeId × Value→H} {W:World} {n:Nat} {cs:List Value} {x:DataW H × List MemPlace} (hf:DataW.trod enc Tryz.prog W 0 (fun _=>true) true n 22 cs=some x):∃h:H32,cs=hashC h:=by
 obtain ⟨xs,m,_,_,hl,hlen,hel⟩:=DataW.trod_array Tryz.underlying22 hf;have hc1:Tryz.prog.cellsOf 5=1:=by kernel_rfl
 have hc6:Tryz.prog.cellsOf 22=32:=by kernel_rfl
 rw [hc6] at hl;obtain ⟨l,h1,h2⟩:=bytes_of_cells cs (fun i hi=>by
  have h:=hel i (by omega);rw [List.getElem?_eq_getElem (by omega:i<xs.length),hc1,Nat.mul_one] at h;obtain ⟨z,e,_,wf⟩:=DataW.trod_int Tryz.underlying5 h;obtain ⟨c,rfl,hc⟩:=u8_wf3 wf;refine ⟨c,hc,?_⟩;rw [List.take_one,List.head?_drop] at e;cases hg:cs[i]? with
  | none=>rw [hg] at e;cases e
  | some c=>rw [hg] at e;simp at e;rw [e])
 exact ⟨⟨l,by omega⟩,h2⟩
theorem hash_of_reading {H:Type} {enc:TypeId × Value→H} {W:World} {d:DataW H} {p:List MemPlace} {v:Value}
  (hval:Value.okWide Tryz.prog W .any 0 22 v) (h:DataW.Trod enc Tryz.prog W 0 (fun _=>true) true 22 v d p):∃x:H32,v=.agg (hashC x).toArray:=by
 simp only [Value.okWide,Tryz.underlying22] at hval;obtain ⟨cs,rfl,hl,_⟩:=hval;obtain ⟨fuel,hf⟩:=h;obtain ⟨x,e⟩:=hash_of_trod hf;refine ⟨x,?_⟩;obtain ⟨l⟩:=cs;simp only [Value.cells] at e;rw [e]
end Go.Proofs.YtmgklblglpplcaaGreatDoor
