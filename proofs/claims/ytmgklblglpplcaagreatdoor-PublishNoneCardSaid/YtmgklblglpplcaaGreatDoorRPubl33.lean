/- Parts: Walks of the packets' program: root packets are opened. No condition. -/
import Derived.Test.YtmgklblglpplcaaGreatDoorRPubl1
import Derived.Test.YtmgklblglpplcaaGreatDoorRPubl2
import Derived.Test.YtmgklblglpplcaaGreatDoorRPubl3
import Derived.Test.YtmgklblglpplcaaGreatDoorRPubl5
import Derived.Test.YtmgklblglpplcaaGreatDoorRPubl6
import Derived.Test.YtmgklblglpplcaaGreatDoorRPubl8
import Derived.Test.YtmgklblglpplcaaGreatDoorRPubl9
import Derived.Test.YtmgklblglpplcaaGreatDoorRPubl10
import Derived.Test.YtmgklblglpplcaaGreatDoorRPubl11
import Derived.Test.YtmgklblglpplcaaGreatDoorRPubl12
import Derived.Test.YtmgklblglpplcaaGreatDoorRPubl14
import Derived.Test.YtmgklblglpplcaaGreatDoorRPubl16
import Derived.Test.YtmgklblglpplcaaGreatDoorRPubl19
import Derived.Test.YtmgklblglpplcaaGreatDoorRPubl20
import Derived.Test.YtmgklblglpplcaaGreatDoorRPubl22
import Derived.Test.YtmgklblglpplcaaGreatDoorRPubl23
import Derived.Test.YtmgklblglpplcaaGreatDoorRPubl24
import Derived.Test.YtmgklblglpplcaaGreatDoorRPubl28
import Derived.Test.YtmgklblglpplcaaGreatDoorRPubl30
import Derived.WalkKit
import Derived.WalkSpells
import Derived.WalkLawsBesides
import Derived.Lib.Hide
import Derived.BigQuiet
import Derived.Deep.DeepFit
import Derived.Deep.DeepCutAuto
import Derived.Deep.AppendLies
import Derived.Deep.QuietTactic
import Derived.Maps.OwnOps
import Derived.Maps.OwnSet
import Derived.Maps.RangeWalk
import Derived.WideKeyEntry
import Derived.Deep.MidRow
import Derived.Lib.Bits
import Derived.Test.YtmgklblglpplcaaGreatDoorRows
import Derived.Deep.RegionHeld3
import Derived.StillTail
import Derived.Laws.EntriesVeiled
import Derived.Handy
import Derived.DeepKeys4
import Derived.ArgAppend
import Derived.Deep.Upon
import Derived.Deep.CutBlock
import Derived.Test.YtmgklblglpplcaaGreatDoorShelf2
import Derived.Test.YtmgklblglpplcaaGreatDoorShelf
import Derived.Laws.BitsAllLaws
import Derived.Lib.Zigzag
import Derived.Recover
import Derived.Laws.BytesArg
import Derived.Deep.WholeRow
import Derived.Laws.IdiomStrings
namespace Go.Proofs.YtmgklblglpplcaaGreatDoor
open Go Go.RowKit Pk Pc
set_option maxRecDepth 100000
def p32 (p:Part):P32:=(h32 p.1,h32 p.2)
def rootO (s:Bytes):Option (List Part × Bytes):=match kindM 3 s with
 | none=>none
 | some r=>manyR partR r
def rootQ (o:Option (List Part)) (w:World) (en:Ending) (w':World):Prop:=Upd noBlk w w'∧match o with
 | some l=>∃v,en=.returned (.tuple #[.agg #[v],.int .i64 0])∧kPart.Own w.heap.size w' v (l.map p32)
 | none=>en=.returned (.tuple #[.agg #[.slice none 0 0],.int .i64 13])
theorem load_root {w:World} {xb:Nat} {v:Value} (h:w.heap[xb]?=some (.cells #[v] 133 (0,0))):(loadVar 133 ⟨xb,0,none⟩).run Tryz.prog w=.ok (.agg #[v]) w:=
 run_loadVar_row w xb 133 133 #[v] (0,0) _ h Tryz.underlying133 rfl (by kernel_rfl)
set_option maxHeartbeats 2000000 in
theorem openRoot_any (s:Bytes) (w:World) :
  Calls Tryz.prog 81 #[.string (bs s)] w fun en w'=>rootQ ((rootO s).map (·.1)) w en w':=by
 have hmf:∀(fn:Fn) (first cap:Array Value) (w:World),(Instr.makeFunc fn first cap).run Tryz.prog w=.ok (.func fn first cap) w:=fun _ _ _ _=>rfl;obtain ⟨tgt,htgt⟩:∃t,t=(rootO s).map (·.1):=⟨_,rfl⟩;rw [←htgt];have HT:=Lib.hid htgt;obtain ⟨w1,hw1⟩:∃w1,w1=((w.alloc (.cells #[.slice none 0 0] 133)).alloc (.cells #[.int .i64 0] 25)).alloc (.cells #[.string (bs s)] 198):=⟨_,rfl⟩;have HU0:Hid (Upd noBlk w w1):=by show Upd _ _ _;rw [hw1];exact (((Upd.refl _ w).alloc _).alloc _).alloc _
 have HX:Hid (w1.heap[w.heap.size]?=some (.cells #[.slice none 0 0] 133 (0,0))):=by show _=_;rw [hw1];exact (((Upd.refl noBlk _).alloc _).alloc _).heap (heap_alloc_new w _) id
 have HE:Hid (w1.heap[w.heap.size+1]?=some (.cells #[.int .i64 0] 25 (0,0))):=by
  show _=_;rw [hw1];refine ((Upd.refl noBlk _).alloc _).heap ?_ id;have:=heap_alloc_new (w.alloc (.cells #[.slice none 0 0] 133)) (.cells #[.int .i64 0] 25);simp only [World.size_alloc] at this;exact this
 have HR:Hid (RdS w1 (w.heap.size+1+1) s):=by
  show RdS _ _ _;rw [hw1];have:=heap_alloc_new ((w.alloc (.cells #[.slice none 0 0] 133)).alloc (.cells #[.int .i64 0] 25)) (.cells #[.string (bs s)] 198);simp only [World.size_alloc] at this;exact this
 have HSZ:Hid (w1.heap.size=w.heap.size+3):=by show _=_;rw [hw1];simp only [World.size_alloc]
 clear htgt;go_enter_defers Tryz.func81,Tryz.ntmps81
 go_upto_region 3 with fail
 rw [←hw1];clear hw1;obtain ⟨xb,hxb⟩:∃xb,xb=w.heap.size:=⟨_,rfl⟩;have HXB:Hid (w.heap.size≤xb):=by show _≤_;omega
 rw [←hxb] at HX HE HR HSZ;rw [←hxb];clear hxb;have HK:=Lib.hid (kKind_any (xb+1+1) 3 s w1 HR.out);go_wp2_with fail
 refine HK.out.mono ?_;intro e w2 hp;rcases hm:kindM 3 s with _ | r
 ·rw [hm] at hp;obtain ⟨rfl,hu⟩:=hp;have HTN:Hid (tgt=none):=by show _=_;rw [HT.out];unfold rootO;rw [hm];rfl
  have HX2:=Lib.hid (hu.heap HX.out (by omega));have HE2:=Lib.hid (hu.heap HE.out (by omega));have HU2:=Lib.hid (HU0.out.then hu (fun i hi e=>by have e':i=xb+1+1:=e;have:=HXB.out;omega));clear HT HK hm hu;unfold panicW;go_wp2_with fail
  refine door_bad HE2.out (fun W hW hu=>?_);refine ⟨_,results_cell_cell rfl _ rfl rfl (load_root (hu.heap HX2.out (by omega))) (load_err hW),?_⟩;rw [HTN.out];exact ⟨upd_newE HU2.out hu (by have:=HXB.out;omega),rfl⟩
 rw [hm] at hp;obtain ⟨rfl,hr,hu⟩:=hp;have HTM:Hid (tgt=(manyR partR r).map (·.1)):=by show _=_;rw [HT.out];unfold rootO;rw [hm]
 have HX2:=Lib.hid (hu.heap HX.out (by omega));have HE2:=Lib.hid (hu.heap HE.out (by omega));have HU2:=Lib.hid (HU0.out.then hu (fun i hi e=>by have e':i=xb+1+1:=e;have:=HXB.out;omega));have HS2:Hid (xb+3≤w2.heap.size):=by show _≤_;have:=hu.size;have:=HSZ.out;omega
 have HL:=Lib.hid (listPart_any (xb+1+1) r w2 hr);clear HT HK hm hr hu HX HE HU0 HR HSZ;obtain ⟨_,hfx⟩:=cellF1 HX2.out;go_wp2_with fail
 refine HL.out.mono ?_;intro e w3 hp;unfold listQ at hp;rcases hm:manyR partR r with _ | ⟨l,r2⟩
 ·rw [hm] at hp;obtain ⟨rfl,hu⟩:=hp;have HTN:Hid (tgt=none):=by show _=_;rw [HTM.out,hm];rfl
  have HX3:=Lib.hid (hu.heap HX2.out (by omega));have HE3:=Lib.hid (hu.heap HE2.out (by omega));have HU3:=Lib.hid (HU2.out.then hu (fun i hi e=>by have e':i=xb+1+1:=e;have:=HXB.out;omega));clear HL hm hu HTM;unfold panicW;go_wp2_with fail
  refine door_bad HE3.out (fun W hW hu=>?_);refine ⟨_,results_cell_cell rfl _ rfl rfl (load_root (hu.heap HX3.out (by omega))) (load_err hW),?_⟩;rw [HTN.out];exact ⟨upd_newE HU3.out hu (by have:=HXB.out;omega),rfl⟩
 rw [hm] at hp;obtain ⟨v,rfl,hown,_,hu⟩:=hp;obtain ⟨A,cap,hv,_⟩:=hown.form;rw [List.length_map] at hv;subst hv;have HTS:Hid (tgt=some l):=by show _=_;rw [HTM.out,hm];rfl
 have HX3:=Lib.hid (hu.heap HX2.out (by omega));have HE3:=Lib.hid (hu.heap HE2.out (by omega));have HU3:=Lib.hid (HU2.out.then hu (fun i hi e=>by have e':i=xb+1+1:=e;have:=HXB.out;omega));have HOW:=Lib.hid hown;clear hm hu hown HTM HL hfx;obtain ⟨_,hfx⟩:=cellF1 HX3.out;go_upto_region 5 with fail
 have HX4:Hid ((w3.setCell ⟨xb,0,none⟩ (.slice A l.length cap)).heap[xb]?=some (.cells #[.slice A l.length cap] 133 (0,0))):=heap_setCell_eq (i:=0) (.slice A l.length cap) HX3.out;have hset:=(Upd.refl (fun k=>k=xb) w3).setCell (p:=⟨xb,0,none⟩) (fun _=>rfl) (.slice A l.length cap);have HE4:=Lib.hid (hset.heap HE3.out (by omega));have HU4:=Lib.hid (upd_newE HU3.out hset HXB.out);have HO4:=Lib.hid (HOW.out.other hset (fun g hg e=>by have h1:=(HOW.out.blk hg).1;have:=HS2.out;have e':g=xb:=e;omega));clear hset hfx HX3 HE3 HU3 HOW;generalize w3.setCell ⟨xb,0,none⟩ (.slice A l.length cap)=w4 at *;obtain ⟨hx0,hfx⟩:=cellF1 HX4.out;have HUS:=Lib.hid (upd_same HX4.out);obtain ⟨he0,hfe⟩:=cellF1 (HUS.out.heap HE4.out id);have HX5:=Lib.hid (HUS.out.heap HX4.out id);have HE5:=Lib.hid (HUS.out.heap HE4.out id);go_wp2_with fail
 have HUS2:=upd_same HE5.out;refine door_good ?_;refine ⟨_,results_cell_cell rfl _ rfl rfl (load_root (HUS2.heap HX5.out id)) (load_err (HUS2.heap HE5.out id)),?_⟩;rw [HTS.out];exact ⟨(HU4.out.trans HUS.out).trans HUS2,_,rfl,((HO4.out.upd HUS.out).upd HUS2).mono (by have:=HS2.out;have:=HXB.out;omega)⟩
theorem rootR_of (s:Bytes):rootR s=match (rootO s).map (·.1) with
  | none=>none
  | some l=>if rootB l=s then some l else none:=by
 unfold rootR rootO kindM;cases s with
 | nil=>rfl
 | cons c r=>
  have hc:c.toNat=3↔c=3:=⟨fun h=>UInt8.toNat_inj.1 (by rw [h];rfl),fun h=>by rw [h];rfl⟩;by_cases h:c=3
  ·simp only [h,ne_eq,not_true_eq_false,if_false];show _=match ((match (if (3:UInt8).toNat=3 then some r else none) with | none=>none | some r=>manyR partR r):Option _).map (·.1) with | none=>none | some l=>_
   rw [if_pos (by decide)];simp only;rcases manyR partR r with _ | ⟨l,r2⟩
   ·rfl
   ·rfl
  ·have h2:¬c.toNat=3:=fun e=>h (hc.1 e);simp only [ne_eq,h,not_false_eq_true,if_true,if_neg h2];rfl
theorem results_cell_tmp1 {fn:Func} {t p:Tmp} {ty2:TypeId} (h:fn.results=#[.cell t ty2,.tmp p]) (tmps:Array Value) {P:Program} {w:World} {a2:Addr} {x2:Value} (ht:tmps.getD t undef=.pointer (some a2)) (hl2:(loadVar ty2 a2).run P w=.ok x2 w) :
  (results fn tmps).run P w=.ok (.tuple #[x2,tmps.getD p undef]) w:=by
 have ht':tmps[t]?.getD undef=.pointer (some a2):=by simpa using ht
 simp only [results,h];simp [Result.andThen,asAddr,ht',hl2]
theorem bs_toList (l:Bytes):(bs l).toList=l:=ByteArray.toList_mk _
theorem plain_p32 {p:Part} (h:goodPart p):plainP (p32 p)=p:=by
 obtain ⟨a,b⟩:=p;unfold plainP p32;rw [h32_len h.1,h32_len h.2]
theorem plain_map {l:List Part} (h:∀p,p∈l→goodPart p):(l.map p32).map plainP=l:=by
 rw [List.map_map];have:l.map (plainP ∘ p32)=l.map id:=List.map_congr_left (fun p hp=>plain_p32 (h p hp));rw [this,List.map_id]
set_option maxHeartbeats 2000000 in
theorem OpenRoot_any (s:Bytes) (w:World) :
  Calls Tryz.prog 66 #[.string (bs s)] w fun en w'=>rootQ (rootR s) w en w':=by
 have HOP:=fun W=>Lib.hid (openRoot_any s W);obtain ⟨tgt,htgt⟩:∃t,t=rootR s:=⟨_,rfl⟩;rw [←htgt];have HT:=Lib.hid htgt;clear htgt;have HX:Hid ((w.alloc (.cells #[.slice none 0 0] 133)).heap[w.heap.size]?=some (.cells #[.slice none 0 0] 133 (0,0))):=heap_alloc_new w _;have HU0:Hid (Upd noBlk w (w.alloc (.cells #[.slice none 0 0] 133))):=(Upd.refl _ w).alloc _;go_enter Tryz.func66,Tryz.ntmps66
 go_upto_region 1 with fail
 obtain ⟨xb,hxb⟩:∃xb,xb=w.heap.size:=⟨_,rfl⟩;have HXB:Hid (w.heap.size≤xb):=by show _≤_;omega
 rw [←hxb] at HX;rw [←hxb];clear hxb;generalize w.alloc (.cells #[.slice none 0 0] 133)=w1 at *;have HOP1:=HOP w1;clear HOP;go_wp2_with fail
 refine HOP1.out.mono ?_;rintro e w2 ⟨hu,hv⟩;have HU2:=Lib.hid (HU0.out.trans hu);have HX2:=Lib.hid (hu.heap HX.out id);rcases hm:rootO s with _ | ⟨l,r2⟩
 ·rw [hm] at hv;simp only [Option.map_none] at hv;subst hv;have HTN:Hid (tgt=none):=by show _=_;rw [HT.out,rootR_of,hm];rfl
  have HXA:=Lib.hid (((Upd.refl noBlk w2).alloc (.cells #[.slice none 0 0] 133)).heap HX2.out id);have HUA:=Lib.hid (HU2.out.alloc (.cells #[.slice none 0 0] 133));clear HT HOP1 hu hm HX HU0;obtain ⟨_,hfx⟩:=cellF1 HXA.out;go_wp2_with fail
  have HZ:=heap_setCell_eq (i:=0) (.slice none 0 0) HXA.out
  (try simp only [Exit.inBlock,Exit.then])
  refine bodyPost_ret (results_cell_tmp1 rfl _ rfl (load_root HZ)) rfl ?_;rw [HTN.out];exact ⟨upd_newE HUA.out ((Upd.refl (fun k=>k=xb) _).setCell (p:=⟨xb,0,none⟩) (fun _=>rfl) _) HXB.out,rfl⟩
 ·rw [hm] at hv;simp only [Option.map_some] at hv;obtain ⟨v,rfl,hown⟩:=hv;have HTS:Hid (tgt=if rootB l=s then some l else none):=by show _=_;rw [HT.out,rootR_of,hm];rfl
  have HLG:Hid ((∀p,p∈l→goodPart p)∧l.length≤65536):=by
   show _∧_;unfold rootO at hm;rcases hk:kindM 3 s with _ | r
   ·rw [hk] at hm;cases hm
   ·rw [hk] at hm;exact manyR_all (good:=goodPart) (fun s x r h=>(partR_good h).1) hm
  obtain ⟨A,cap,hv,_⟩:=hown.form;rw [List.length_map] at hv;subst hv;have hA:Upd noBlk w2 (w2.alloc (.cells #[.slice A l.length cap] 133)):=(Upd.refl _ w2).alloc _;have HOW:=Lib.hid (hown.upd hA);have HS1:Hid (xb<w1.heap.size):=lt_of_heap HX.out;have HXA:=Lib.hid (hA.heap HX2.out id);have HTA:Hid ((w2.alloc (.cells #[.slice A l.length cap] 133)).heap[w2.heap.size]?=some (.cells #[.slice A l.length cap] 133 (0,0))):=heap_alloc_new w2 _;have HUA:=Lib.hid (HU2.out.trans hA);have HX2X:=HX2;clear HT HOP1 hu hm hA HX HU0 hown HX2 HU2;go_upto_region 2 with fail
  have HNE:Hid (¬xb=w2.heap.size):=fun e=>by have:=lt_of_heap HX2X.out;omega
  clear HX2X;generalize w2.heap.size=tb at *;generalize w2.alloc (.cells #[.slice A l.length cap] 133)=w3 at *;have hro:=Root_any (.slice A l.length cap) (l.map p32) w3 HOW.out.rd;rw [if_neg (by rw [List.length_map];have:=HLG.out.2;omega),plain_map HLG.out.1] at hro;have HRO:=Lib.hid hro;clear hro;obtain ⟨_,hfx⟩:=cellF1 HXA.out;obtain ⟨ht0,_⟩:=cellF1 HTA.out;by_cases hc:rootB l=s
  ·have HTN:Hid (tgt=some l):=by show _=_;rw [HTS.out];exact if_pos hc
   rw [hc] at HRO;clear HTS hc;go_wp2_with fail
   refine HRO.out.mono ?_;rintro e w4 ⟨rfl,u4⟩;have HX4:=Lib.hid (u4.heap HXA.out id);have HT4:=Lib.hid (u4.heap HTA.out id);have HO4:=Lib.hid (HOW.out.upd u4);have HU4:=Lib.hid (HUA.out.trans u4);clear u4 hfx ht0 HRO;obtain ⟨_,hfx⟩:=cellF1 HX4.out;obtain ⟨ht0,_⟩:=cellF1 HT4.out;go_wp2_with fail
   have HZ:=heap_setCell_eq (i:=0) (.slice A l.length cap) HX4.out;have hset:=(Upd.refl (fun k=>k=xb) w4).setCell (p:=⟨xb,0,none⟩) (fun _=>rfl) (.slice A l.length cap)
   (try simp only [Exit.inBlock,Exit.then])
   refine bodyPost_ret (results_cell_tmp1 rfl _ rfl (load_root HZ)) rfl ?_;rw [HTN.out];refine ⟨upd_newE HU4.out hset HXB.out,_,rfl,(HO4.out.other hset (fun g hg e=>by have h1:=(HO4.out.blk hg).1;have:=HS1.out;have e':g=xb:=e;omega)).mono ?_⟩;have:=HS1.out;have:=HXB.out;omega
  ·have HTN:Hid (tgt=none):=by show _=_;rw [HTS.out];exact if_neg hc
   have hne:((bs (rootB l)).toList == (bs s).toList)=false:=by
    rw [beq_eq_false_iff_ne,bs_toList,bs_toList];exact hc
   clear HTS hc;go_wp2_with fail
   refine HRO.out.mono ?_;rintro e w4 ⟨rfl,u4⟩;have HX4:=Lib.hid (u4.heap HXA.out id);have HU4:=Lib.hid (HUA.out.trans u4);clear u4 hfx ht0 HRO;obtain ⟨_,hfx⟩:=cellF1 HX4.out;go_wp2_with fail
   have HZ:=heap_setCell_eq (i:=0) (.slice none 0 0) HX4.out
   (try simp only [Exit.inBlock,Exit.then])
   refine bodyPost_ret (results_cell_tmp1 rfl _ rfl (load_root HZ)) rfl ?_;rw [HTN.out];exact ⟨upd_newE HU4.out ((Upd.refl (fun k=>k=xb) _).setCell (p:=⟨xb,0,none⟩) (fun _=>rfl) _) HXB.out,rfl⟩
end Go.Proofs.YtmgklblglpplcaaGreatDoor
