/- Parts: Walks of the reference of SHA-256: Sum. No condition. -/
import Derived.Test.YtmgklblglpplcaaGreatDoorRPubl1
import Derived.Test.YtmgklblglpplcaaGreatDoorRPubl2
import Derived.Test.YtmgklblglpplcaaGreatDoorRPubl3
import Derived.Test.YtmgklblglpplcaaGreatDoorRPubl4
import Derived.Test.YtmgklblglpplcaaGreatDoorRPubl5
import Derived.Test.YtmgklblglpplcaaGreatDoorRPubl6
import Derived.Test.YtmgklblglpplcaaGreatDoorRPubl10
import Derived.Test.YtmgklblglpplcaaGreatDoorRPubl11
import Derived.Test.YtmgklblglpplcaaGreatDoorRPubl12
import Derived.Test.YtmgklblglpplcaaGreatDoorRPubl14
import Derived.Test.YtmgklblglpplcaaGreatDoorRPubl15
import Derived.Test.YtmgklblglpplcaaGreatDoorRPubl19
import Derived.Test.YtmgklblglpplcaaGreatDoorRPubl20
import Derived.Test.YtmgklblglpplcaaGreatDoorRPubl21
import Derived.Test.YtmgklblglpplcaaGreatDoorRPubl22
import Derived.Test.YtmgklblglpplcaaGreatDoorRPubl23
import Derived.Test.YtmgklblglpplcaaGreatDoorRPubl25
import Derived.Test.YtmgklblglpplcaaGreatDoorRPubl26
import Derived.Test.YtmgklblglpplcaaGreatDoorRPubl29
import Derived.Test.YtmgklblglpplcaaGreatDoorRPubl31
import Derived.Test.YtmgklblglpplcaaGreatDoorRPubl32
import Derived.WalkKit
import Derived.WalkSpells
import Derived.WalkLawsBesides
import Derived.Lib.Hide
import Derived.BigQuiet
import Derived.Deep.DeepFit
import Derived.Deep.DeepCutAuto
import Derived.Deep.AppendLies
import Derived.Deep.QuietTactic
import Derived.Test.YtmgklblglpplcaaGreatDoorRows
import Derived.Deep.RegionHeld3
import Derived.StillTail
import Derived.Maps.OwnOps
import Derived.Maps.OwnSet
import Derived.Maps.RangeWalk
import Derived.WideKeyEntry
import Derived.Deep.MidRow
import Derived.Lib.Bits
import Derived.Laws.EntriesVeiled
import Derived.Handy
import Derived.DeepKeys4
import Derived.ArgAppend
import Derived.Deep.Upon
import Derived.Deep.CutBlock
import Derived.Test.YtmgklblglpplcaaGreatDoorShelf2
import Derived.Test.YtmgklblglpplcaaGreatDoorShelf
import Derived.Laws.BitsAllLaws
import Derived.Lib.Zigzag
import Derived.Recover
import Derived.Laws.BytesArg
import Derived.Deep.WholeRow
import Derived.Laws.IdiomStrings
import Derived.IntWalk
namespace Go.Proofs.YtmgklblglpplcaaGreatDoor
open Go Go.RowKit Pk Dg
set_option maxRecDepth 100000
def shaH (s:Bytes):H32:=⟨shaB s,shaB_len s⟩
theorem exec_load_row {P:Program} {op:Oper} {e:Operand→Value} {w:World} (ty:TypeId) (x:Operand) (ho:op.op=.load ty x) (b o:Nat) (hx:e x=.pointer (some ⟨b,o,none⟩)) (cs:List Value) (d:TypeDesc) (hc:w.rangeAt b o cs) (hu:P.underlying ty=some d) (hd:d.isRow=true) (hi:(P.info? ty).map (·.size)=some cs.length):(execOp e op).run P w=.ok (.value (.agg cs.toArray)) w:=by
 unfold execOp;simp only [ho,hx,Instr.loadAt,Instr.sureAddr,Sem.run_bind,Sem.run_pure,Result.andThen_ok,run_loadVar_mid w b o ty cs d hc hu hd hi]
def zeroB32:Bytes:=List.replicate 32 0
def fillB (B:Bytes) (k:Nat):Bytes:=B.take k++List.replicate (B.length-k) 0
theorem fillB_len (B:Bytes) (k:Nat) (h:k≤B.length):(fillB B k).length=B.length:=by simp [fillB];omega
theorem fillB_get (B:Bytes) (k j:Nat) (h:j<B.length) (hk:k≤B.length):(fillB B k)[j]?=some (if j<k then B[j] else 0):=by
 unfold fillB;by_cases e:j<k
 ·rw [if_pos e,List.getElem?_append_left (by rw [List.length_take];omega),List.getElem?_take,if_pos e,List.getElem?_eq_getElem h]
 ·rw [if_neg e,List.getElem?_append_right (by rw [List.length_take];omega),List.getElem?_replicate,if_pos (by rw [List.length_take];omega)]
theorem fillB_end (B:Bytes):fillB B B.length=B:=by simp [fillB]
theorem fillB_zero (B:Bytes):fillB B 0=List.replicate B.length 0:=by simp [fillB]
theorem fill_set (B:Bytes) (k:Nat) (h:k<B.length):(byV (fillB B k)).toArray.setIfInBounds k (.int .u8 ((B[k].toNat:Nat):Int))=(byV (fillB B (k+1))).toArray:=by
 apply Array.ext_getElem?;intro j;rw [Array.getElem?_setIfInBounds];by_cases hj:j<B.length
 ·have h1:∀q,q≤B.length→(byV (fillB B q)).toArray[j]?=some (.int .u8 (((if j<q then B[j] else 0:UInt8).toNat:Nat):Int)):=fun q hq=>by
   rw [List.getElem?_toArray,byV,List.getElem?_map,fillB_get B q j hj hq];rfl
  rw [h1 (k+1) (by omega)];by_cases e:k=j
  ·subst e;rw [if_pos rfl,if_pos (by rw [List.size_toArray,byV_len,fillB_len B k (by omega)];exact h),if_pos (by omega)]
  ·rw [if_neg e,h1 k (by omega)];by_cases h2:j<k
   ·rw [if_pos h2,if_pos (by omega)]
   ·rw [if_neg h2,if_neg (by omega)]
 ·have h1:∀q,q≤B.length→(byV (fillB B q)).toArray[j]?=none:=fun q hq=>by
   rw [List.getElem?_toArray];exact List.getElem?_eq_none (by rw [byV_len,fillB_len B q hq];omega)
  rw [h1 (k+1) (by omega),h1 k (by omega)];by_cases e:k=j
  ·omega
  ·rw [if_neg e]
theorem bytes_at (S:S8) (q r:Nat) (hq:q<8) (hr:r<4):S.bytes[4*q+r]?=some (UInt8.ofNat ((l8 S).getD q 0 / 2 ^ (24-8*r))):=by
 rcases (by omega:q=0∨q=1∨q=2∨q=3∨q=4∨q=5∨q=6∨q=7) with rfl | rfl | rfl | rfl | rfl | rfl | rfl | rfl <;>
 rcases (by omega:r=0∨r=1∨r=2∨r=3) with rfl | rfl | rfl | rfl<;>first | rfl | (simp [S8.bytes,be4,l8])
theorem l8_lt {S:S8} (h:S.Ok) (q:Nat):(l8 S).getD q 0<4294967296:=getD_lt (l:=l8 S) (by intro x hx;simp [l8] at hx;rcases hx with rfl | rfl | rfl | rfl | rfl | rfl | rfl | rfl<;>first | exact h.a | exact h.b | exact h.c | exact h.d | exact h.e | exact h.f | exact h.g | exact h.h) q
theorem addAll_ok:∀(k:Nat) {s:S8} (_:s.Ok) (m:Bytes),(addAll k s m).Ok
 | 0,_,h,_=>h
 | k+1,s,_,_=>addAll_ok k (addB_ok s _) _
set_option maxHeartbeats 4000000 in
theorem jSum_any (s:Bytes) (hs:s.length≤1152921504606846976) (w:World):Calls Tryz.prog 26 #[.string (bs s)] w fun en w'=>en=.returned (hashV0 (shaH s))∧Upd noBlk w w':=by
 have hzH:∀W,(zeroValue 36).run Tryz.prog W=.ok (.agg (byV zeroB32).toArray) W:=fun W=>by kernel_rfl
 have HPD:=fun W=>Lib.hid (jpadded_any s hs W);obtain ⟨T,hT⟩:∃T,T=padB s:=⟨_,rfl⟩;obtain ⟨nb,hnb⟩:∃nb,T.length=64*nb:=⟨T.length / 64,by have:=padB_len s;rw [←hT] at this;omega⟩;have HTL:Hid (T.length≤1152921504606847104):=by
  show _≤_;rw [hT,padB_eq];have:=padN_lt s;simp only [List.length_append,List.length_replicate,be8_len,List.length_cons,List.length_nil];omega
 have HRES:Hid (shaB s=(addAll nb start8 T).bytes):=by
  show _=_;unfold shaB;rw [←hT,show T.length / 64=nb by omega]
 rw [←hT] at HPD;have HNB:=Lib.hid hnb;have HB0:Hid ((w.alloc (.cells (byV zeroB32).toArray 36)).heap[w.heap.size]?=some (.cells (byV zeroB32).toArray 36 (0,0))):=heap_alloc_new w _;have HU0:Hid (Upd noBlk w (w.alloc (.cells (byV zeroB32).toArray 36))):=(Upd.refl noBlk w).alloc _;have HB1:Hid (((w.alloc (.cells (byV zeroB32).toArray 36)).alloc (.cells (rowW (l8 start8) 8) 82)).heap[w.heap.size+1]?=some (.cells (rowW (l8 start8) 8) 82 (0,0))):=by
  have h:=heap_alloc_new (w.alloc (.cells (byV zeroB32).toArray 36)) (.cells (rowW (l8 start8) 8) 82);rw [show (w.alloc (.cells (byV zeroB32).toArray 36)).heap.size=w.heap.size+1 from Array.size_push ..] at h;exact h
 have HB0':Hid (((w.alloc (.cells (byV zeroB32).toArray 36)).alloc (.cells (rowW (l8 start8) 8) 82)).heap[w.heap.size]?=some (.cells (byV zeroB32).toArray 36 (0,0))):=((Upd.refl noBlk _).alloc _).heap HB0.out id;have HU1:Hid (Upd noBlk w ((w.alloc (.cells (byV zeroB32).toArray 36)).alloc (.cells (rowW (l8 start8) 8) 82))):=HU0.out.alloc _;clear hT hnb hs HB0 HU0;go_enter Tryz.func26,Tryz.ntmps26
 go_wp2_with fail
 rw [show (#[Value.int .u32 1779033703,Value.int .u32 3144134277,Value.int .u32 1013904242,Value.int .u32 2773480762,Value.int .u32 1359893119,Value.int .u32 2600822924,Value.int .u32 528734635,Value.int .u32 1541459225]:Array Value)=rowW (l8 start8) 8 from rfl];generalize (w.alloc _).alloc _=w1 at *;refine (HPD _).out.mono ?_;rintro e w2 ⟨rfl,u2⟩;obtain ⟨N,hN⟩:∃N,N=w.heap.size:=⟨_,rfl⟩;rw [←hN] at HB1 HB0' ⊢;have HR2:=Lib.hid (u2.heap HB0'.out id);have HS2:=Lib.hid (u2.heap HB1.out id);have HU2:=Lib.hid (HU1.out.trans u2);have HWN:Hid (w.heap.size≤N):=by show _≤_;omega
 have hsz:(bs T).size=64*nb:=by rw [bs_size,HNB.out]
 clear hN u2 HPD HB1 HB0' HU1;go_wp2_with fail
 go_loopw [5] (fun i wr=>∃k:Nat,i=.int .i64 (64*(k:Int))∧k≤nb∧wr.heap[N+1]?=some (.cells (rowW (l8 (addAll k start8 T)) 8) 82 (0,0))∧Upd (fun j=>j=N+1) w2 wr) (fun i _=>64*nb-(intOf i).toNat)
 case atStart=>exact ⟨0,rfl,by omega,HS2.out,Upd.refl _ _⟩
 case round=>
  obtain ⟨k,rfl,hk,hb,hu⟩:=hrel;have HB:=Lib.hid hb;have HU:=Lib.hid hu;clear hb hu HS2;have hnb63:(nb:Int)≤18014398509481986:=by have:=HTL.out;have:=HNB.out;omega
  by_cases hlt:k<nb
  ·have hlt':64*(k:Int)<64*(nb:Int):=by omega
   obtain ⟨S,hS⟩:∃S,addAll k start8 T=S:=⟨_,rfl⟩;have HOK:Hid (S.Ok):=by show S.Ok;rw [←hS];exact addAll_ok k start_ok T
   have HSN:Hid (addAll (k+1) start8 T=addB S ((T.drop (64*k)).take 64)):=by show _=_;rw [addAll_snoc,hS]
   rw [hS] at HB;obtain ⟨B,hB⟩:∃B,B=(T.drop (64*k)).take 64:=⟨_,rfl⟩;have hnbo:=HNB.out;have HBL:Hid (B.length=64):=by show _=_;rw [hB,List.length_take,List.length_drop];omega
   have hex:(bs T).extract (64*k) (64*k+64)=bs B:=by rw [bs_extract,hB,show 64*k+64-64*k=64 by omega]
   rw [←hB] at HSN;have HRA:Hid (wr.rangeAt (N+1) 0 (rowW (l8 S) 8).toList):=fun j v hv=>by
    rw [Nat.zero_add,cell_of_row _ _ j _ 82 (0,0) HB.out];simpa using hv
   have HI:Hid ((Tryz.prog.info? 82).map (·.size)=some (rowW (l8 S) 8).toList.length):=by show _=_;rw [show (rowW (l8 S) 8).toList.length=8 by simp [rowW_size]];kernel_rfl
   have a1:IntKind.i64.wrap (64*(k:Int)+64)=64*(k:Int)+64:=IntWalk.i64_in _ (by omega);have a2:0≤64*(k:Int):=by omega
   have a3:64*(k:Int)≤64*(k:Int)+64:=by omega
   have a4:64*(k:Int)+64≤64*(nb:Int):=by omega
   have a5:(64*(k:Int)).toNat=64*k:=by omega
   have a6:(64*(k:Int)+64).toNat=64*k+64:=by omega
   have HK1:Hid (k+1≤nb):=hlt;clear hS hB hnbo hlt hk;go_wp2_with fail
   refine wp_region_tree 6 (OT.sures [0,1,2,3,4,5] .nil) (fun w'=>Upd noBlk wr w') (by kernel_rfl) (by kernel_rfl) (fun c a d v w h=>by cases d<;>exact h) ((Upd.refl noBlk wr).drew) ?_
   simp only [OT.sures];apply wpT_sure rfl rfl
   focus (intro w' hw';exact exec_load_row 82 (.tmp 3) rfl (N+1) 0 (by go_simp) (rowW (l8 S) 8).toList _ (rangeAt_upd HRA.out hw') Tryz.underlying82 rfl HI.out)
   iterate 4 (apply wpT_sure rfl rfl;focus (intro w' hw';go_simp;rfl))
   refine wpT_sure rfl rfl (.string (bs B)) (fun w' hw'=>?_) ?_
   focus (go_simp)
   refine wpT_nil ?_;have UD:Hid (Upd noBlk wr wr.drew):=(Upd.refl noBlk wr).drew;generalize wr.drew=wa at *;go_wp2_with fail
   refine (jblock_any S HOK.out B HBL.out _).mono ?_;rintro e wb ⟨rfl,ub⟩;have UB:=Lib.hid (UD.out.trans ub);obtain ⟨Z,hst,hz1,hz2⟩:=store_row (P:=Tryz.prog) (UB.out.heap HB.out id) (vs:=(rowW (l8 (addB S B)) 8).toList) (by simp [rowW_size]) (row_one (l8 (addB S B)) 8);have HZ1:=Lib.hid hz1;have HZ2:=Lib.hid ((HU.out.trans (UB.out.mono (fun _ _ h=>h.elim))).trans hz2);clear hz1 hz2 ub UD UB a1 a3 a4 a5 a6 hex;go_wp2_with fail
   refine ⟨⟨k+1,by rw [show 64*(((k+1:Nat)):Int)=64*(k:Int)+64 by omega],HK1.out,by rw [HSN.out];have:=HZ1.out;simpa using this,HZ2.out⟩,?_⟩;simp only [intOf];have:=HK1.out;omega
  ·obtain rfl:k=nb:=by omega
   obtain ⟨S,hS⟩:∃S,addAll k start8 T=S:=⟨_,rfl⟩;have HOK:Hid (S.Ok):=by show S.Ok;rw [←hS];exact addAll_ok k start_ok T
   rw [hS] at HB HRES;obtain ⟨W,hW⟩:∃W,W=S.bytes:=⟨_,rfl⟩;have HWL:Hid (W.length=32):=by show _=_;rw [hW];rfl
   have HBY:Hid (∀q r (hq:q<8) (hr:r<4),W[4*q+r]?=some (UInt8.ofNat ((l8 S).getD q 0 / 2 ^ (24-8*r)))):=by rw [hW];exact bytes_at S
   have HRW:Hid (hashV0 (shaH s)=.agg (byV W).toArray):=by show _=_;rw [hW,←HRES.out];rfl
   have HRx:=Lib.hid (HU.out.heap HR2.out (by omega));have HUx:Hid (Upd noBlk w wr):=HU2.out.then HU.out (fun i hi e=>by have:=HWN.out;omega);obtain ⟨M,hM⟩:∃M,M=wr.heap.size:=⟨_,rfl⟩;have HMN:Hid (N+1<M):=by have:=lt_of_heap HB.out;show _<_;omega
   have HF0:Hid ((wr.alloc (.cells (byV zeroB32).toArray 36)).heap[M]?=some (.cells (byV (fillB W 0)).toArray 36 (0,0))):=by
    show _=_;rw [hM,fillB_zero,HWL.out];exact heap_alloc_new wr _
   have HSy:=Lib.hid (((Upd.refl noBlk wr).alloc (.cells (byV zeroB32).toArray 36)).heap HB.out id);have HRy:=Lib.hid (((Upd.refl noBlk wr).alloc (.cells (byV zeroB32).toArray 36)).heap HRx.out id);have HUy:=Lib.hid (HUx.out.alloc (.cells (byV zeroB32).toArray 36));clear hS hW hlt hk;go_wp2_with fail
   rw [←hM];have HWM:Hid (w.heap.size≤M):=by have:=HUx.out.size;show _≤_;omega
   generalize wr.alloc (.cells (byV zeroB32).toArray 36)=wy at *;clear hM HB HU HR2 HU2 HRx HUx hsz HNB HTL;go_loopw [7] (fun i wx=>∃k:Nat,i=.int .i64 k∧k≤32∧wx.heap[M]?=some (.cells (byV (fillB W k)).toArray 36 (0,0))∧Upd (fun j=>j=M) wy wx) (fun i _=>32-(intOf i).toNat)
   case atStart=>exact ⟨0,rfl,by omega,HF0.out,Upd.refl _ _⟩
   case round=>
    obtain ⟨j,rfl,hj,hb,hu⟩:=hrel;have HB:=Lib.hid hb;have HU:=Lib.hid hu;clear hb hu HF0;by_cases hlt:j<32
    ·obtain ⟨q,r,hr,rfl⟩:∃q r,r<4∧j=4*q+r:=⟨j / 4,j % 4,by omega,by omega⟩;have hq:q<8:=by omega
     have HQ:=Lib.hid (HBY.out q r hq hr);have hx:=cell_rowW (HU.out.heap HSy.out (by have:=HMN.out;omega)) hq;have hxl:=l8_lt HOK.out q;obtain ⟨x,hxx⟩:∃x,(l8 S).getD q 0=x:=⟨_,rfl⟩;rw [hxx] at hx hxl HQ;have hx63:(x:Int)≤4294967295:=by omega
     have hcl:wr.cell? ⟨M,4*q+r,none⟩=some (.int .u8 0):=by
      rw [cell_of_row _ _ (4*q+r) _ 36 (0,0) HB.out,List.getElem?_toArray,byV,List.getElem?_map,fillB_get W _ _ (by rw [HWL.out];exact hlt) (by rw [HWL.out];omega),if_neg (by omega)];rfl
     have hfr:wr.frozen? ⟨M,4*q+r,none⟩=false:=fro_row HB.out;have hq63:(q:Int)≤7:=by omega
     have HX:Hid (x<4294967296):=hxl;have HWL2:Hid (4*q+r<W.length):=by show _<_;rw [HWL.out];exact hlt
     clear hxx hxl hq hj;rcases (by omega:r=0∨r=1∨r=2∨r=3) with rfl | rfl | rfl | rfl
     ·have hd:(4*(q:Int)) / 4=(q:Int):=by omega
      have hm:(4*(q:Int)) % 4=0:=by omega
      have hlt':4*(q:Int)<32:=by omega
      simp only [Nat.add_zero] at hcl hfr;clear hlt;go_wp2_with fail
      have hc:W[4*q+0]'HWL2.out=UInt8.ofNat (x / 2 ^ (24-8*0)):=by
       have h:=HQ.out;rw [List.getElem?_eq_getElem HWL2.out] at h;exact Option.some.inj h
      have hv:(((W[4*q+0]'HWL2.out).toNat:Nat):Int)=(x:Int) / 16777216:=by
       rw [hc,UInt8.toNat_ofNat'];have:=HX.out;simp only [Nat.reduceMul,Nat.reduceSub,Nat.reducePow];omega
      have h1:=fill_set W (4*q+0) HWL2.out;rw [hv] at h1;refine ⟨⟨4*q+0+1,by push_cast;simp,by have:=HWL2.out;have:=HWL.out;omega,?_,HU.out.setCell (p:=⟨M,4*q+0,none⟩) (fun _=>rfl) _⟩,by simp only [intOf];omega⟩;rw [←h1];exact heap_setCell_eq (i:=4*q+0) _ HB.out
     ·have hd:(4*(q:Int)+1) / 4=(q:Int):=by omega
      have hm:(4*(q:Int)+1) % 4=1:=by omega
      have hlt':4*(q:Int)+1<32:=by omega
      skip
      clear hlt;go_wp2_with fail
      have hc:W[4*q+1]'HWL2.out=UInt8.ofNat (x / 2 ^ (24-8*1)):=by
       have h:=HQ.out;rw [List.getElem?_eq_getElem HWL2.out] at h;exact Option.some.inj h
      have hv:(((W[4*q+1]'HWL2.out).toNat:Nat):Int)=((x:Int) / 65536) % 256:=by
       rw [hc,UInt8.toNat_ofNat'];have:=HX.out;simp only [Nat.reduceMul,Nat.reduceSub,Nat.reducePow];omega
      have h1:=fill_set W (4*q+1) HWL2.out;rw [hv] at h1;refine ⟨⟨4*q+1+1,by push_cast;rfl,by have:=HWL2.out;have:=HWL.out;omega,?_,HU.out.setCell (p:=⟨M,4*q+1,none⟩) (fun _=>rfl) _⟩,by simp only [intOf];omega⟩;rw [←h1];exact heap_setCell_eq (i:=4*q+1) _ HB.out
     ·have hd:(4*(q:Int)+2) / 4=(q:Int):=by omega
      have hm:(4*(q:Int)+2) % 4=2:=by omega
      have hlt':4*(q:Int)+2<32:=by omega
      skip
      clear hlt;go_wp2_with fail
      have hc:W[4*q+2]'HWL2.out=UInt8.ofNat (x / 2 ^ (24-8*2)):=by
       have h:=HQ.out;rw [List.getElem?_eq_getElem HWL2.out] at h;exact Option.some.inj h
      have hv:(((W[4*q+2]'HWL2.out).toNat:Nat):Int)=((x:Int) / 256) % 256:=by
       rw [hc,UInt8.toNat_ofNat'];have:=HX.out;simp only [Nat.reduceMul,Nat.reduceSub,Nat.reducePow];omega
      have h1:=fill_set W (4*q+2) HWL2.out;rw [hv] at h1;refine ⟨⟨4*q+2+1,by push_cast;rfl,by have:=HWL2.out;have:=HWL.out;omega,?_,HU.out.setCell (p:=⟨M,4*q+2,none⟩) (fun _=>rfl) _⟩,by simp only [intOf];omega⟩;rw [←h1];exact heap_setCell_eq (i:=4*q+2) _ HB.out
     ·have hd:(4*(q:Int)+3) / 4=(q:Int):=by omega
      have hm:(4*(q:Int)+3) % 4=3:=by omega
      have hlt':4*(q:Int)+3<32:=by omega
      skip
      clear hlt;go_wp2_with fail
      have hc:W[4*q+3]'HWL2.out=UInt8.ofNat (x / 2 ^ (24-8*3)):=by
       have h:=HQ.out;rw [List.getElem?_eq_getElem HWL2.out] at h;exact Option.some.inj h
      have hv:(((W[4*q+3]'HWL2.out).toNat:Nat):Int)=((x:Int)) % 256:=by
       rw [hc,UInt8.toNat_ofNat'];have:=HX.out;simp only [Nat.reduceMul,Nat.reduceSub,Nat.reducePow];omega
      have h1:=fill_set W (4*q+3) HWL2.out;rw [hv] at h1;refine ⟨⟨4*q+3+1,by push_cast;rfl,by have:=HWL2.out;have:=HWL.out;omega,?_,HU.out.setCell (p:=⟨M,4*q+3,none⟩) (fun _=>rfl) _⟩,by simp only [intOf];omega⟩;rw [←h1];exact heap_setCell_eq (i:=4*q+3) _ HB.out
    ·obtain rfl:j=32:=by omega
     have HB8:Hid (wr.heap[M]?=some (.cells (byV W).toArray 36 (0,0))):=by have:=HB.out;rw [←HWL.out,fillB_end] at this;exact this
     have HRz:=Lib.hid (HU.out.heap HRy.out (by have:=HMN.out;omega));have hl32:(byV W).length=32:=by rw [byV_len,HWL.out]
     obtain ⟨Z,hst4,hz1,hz2⟩:=store_row (P:=Tryz.prog) HRz.out (vs:=byV W) (by rw [hl32];simp [byV,zeroB32]) (byV_one W);have HRA:Hid (wr.rangeAt M 0 (byV W)):=fun j u hu=>by
      rw [Nat.zero_add,cell_of_row _ _ j _ 36 (0,0) HB8.out];simpa using hu
     have HI:Hid ((Tryz.prog.info? 36).map (·.size)=some (byV W).length):=by show _=_;rw [hl32];kernel_rfl
     have HZ1:=Lib.hid hz1;have HZ2:Hid (Upd noBlk w Z):=(HUy.out.then HU.out (fun i hi e=>by have:=HWM.out;omega)).then hz2 (fun i hi e=>by have:=HWN.out;omega);clear hz1 hz2;go_wp2_with (first | (refine wpList_load_mid rfl _ _ rfl M 0 rfl (byV W) _ HRA.out Tryz.underlying36 rfl HI.out ?_))
     (try simp only [Exit.inBlock,Exit.then])
     refine bodyPost_ret (results_cell_row rfl _ _ N 36 _ (0,0) _ rfl HZ1.out Tryz.underlying36 rfl (by have:=HI.out;simpa using this)) rfl ?_;refine ⟨?_,HZ2.out⟩;rw [HRW.out]
end Go.Proofs.YtmgklblglpplcaaGreatDoor
