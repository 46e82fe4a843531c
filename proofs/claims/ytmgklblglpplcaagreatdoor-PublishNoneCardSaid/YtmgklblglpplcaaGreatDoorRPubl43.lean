/- Parts: Walks of the store: Publish of the small version. No condition. Walks of the store: Root, Roots, Get, Many. No condition. -/
import Derived.Test.YtmgklblglpplcaaGreatDoorRPubl1
import Derived.Test.YtmgklblglpplcaaGreatDoorRPubl2
import Derived.Test.YtmgklblglpplcaaGreatDoorRPubl3
import Derived.Test.YtmgklblglpplcaaGreatDoorRPubl4
import Derived.Test.YtmgklblglpplcaaGreatDoorRPubl5
import Derived.Test.YtmgklblglpplcaaGreatDoorRPubl6
import Derived.Test.YtmgklblglpplcaaGreatDoorRPubl9
import Derived.Test.YtmgklblglpplcaaGreatDoorRPubl10
import Derived.Test.YtmgklblglpplcaaGreatDoorRPubl11
import Derived.Test.YtmgklblglpplcaaGreatDoorRPubl12
import Derived.Test.YtmgklblglpplcaaGreatDoorRPubl14
import Derived.Test.YtmgklblglpplcaaGreatDoorRPubl15
import Derived.Test.YtmgklblglpplcaaGreatDoorRPubl16
import Derived.Test.YtmgklblglpplcaaGreatDoorRPubl19
import Derived.Test.YtmgklblglpplcaaGreatDoorRPubl20
import Derived.Test.YtmgklblglpplcaaGreatDoorRPubl21
import Derived.Test.YtmgklblglpplcaaGreatDoorRPubl22
import Derived.Test.YtmgklblglpplcaaGreatDoorRPubl23
import Derived.Test.YtmgklblglpplcaaGreatDoorRPubl25
import Derived.Test.YtmgklblglpplcaaGreatDoorRPubl31
import Derived.Test.YtmgklblglpplcaaGreatDoorRPubl33
import Derived.Test.YtmgklblglpplcaaGreatDoorRPubl34
import Derived.Test.YtmgklblglpplcaaGreatDoorRPubl35
import Derived.Test.YtmgklblglpplcaaGreatDoorRPubl37
import Derived.Test.YtmgklblglpplcaaGreatDoorRPubl38
import Derived.Test.YtmgklblglpplcaaGreatDoorRPubl39
import Derived.Test.YtmgklblglpplcaaGreatDoorRPubl40
import Derived.Test.YtmgklblglpplcaaGreatDoorRPubl41
import Derived.Test.YtmgklblglpplcaaGreatDoorRPubl42
import Derived.WalkKit
import Derived.WalkSpells
import Derived.WalkLawsBesides
import Derived.Lib.Hide
import Derived.BigQuiet
import Derived.Deep.DeepFit
import Derived.Deep.DeepCutAuto
import Derived.Deep.AppendLies
import Derived.Deep.QuietTactic
import Derived.Test.YtmgklblglpplcaaGreatDoorRows
import Derived.Deep.RegionHeld3
import Derived.StillTail
import Derived.Lib.AppendStr
import Derived.Lib.AppendZeros
import Derived.Deep.MidRow
import Derived.ArgAppend
import Derived.Deep.Upon
import Derived.Maps.OwnOps
import Derived.Maps.OwnSet
import Derived.Maps.RangeWalk
import Derived.WideKeyEntry
import Derived.Lib.Bits
import Derived.Laws.EntriesVeiled
import Derived.Handy
import Derived.DeepKeys4
import Derived.Deep.CutBlock
import Derived.Test.YtmgklblglpplcaaGreatDoorShelf2
import Derived.Laws.BitsAllLaws
import Derived.Laws.BytesArg
import Derived.Test.YtmgklblglpplcaaGreatDoorShelf
import Derived.Lib.Zigzag
import Derived.Recover
import Derived.Deep.WholeRow
import Derived.Laws.IdiomStrings
import Derived.Laws.MakeOwn
import Derived.Laws.CopyOwn
import Derived.IntWalk
import Derived.RangeFuncNested
import Derived.RangeFuncBound
import Derived.RangeFuncCalls
import Derived.RangeFuncLeaves
import Derived.RangeFuncFrom
import Derived.LoopIn
import Derived.LoopNIn
import Derived.OwnWalkIn
import Derived.TacticsInMore
import Derived.Stop.BytesEq
import Derived.Defers
import Derived.Lib.SliceRun
import Derived.WalkMore
import Derived.RegionIn
import Derived.Deep.AppendSrc
namespace Go.Proofs.YtmgklblglpplcaaGreatDoor
open Go Go.RowKit Pk
set_option maxRecDepth 100000
def strZ:Obj:=.cells #[.pointer none,.int .i64 0,.map none,.slice none 0 0,.slice none 0 0,.bool false] 33 (0,0)
theorem strZ_cells {w:World} {S:Nat} (h:w.heap[S]?=some strZ):w.cell? ⟨S,0,none⟩=some (.pointer none)∧w.cell? ⟨S,1,none⟩=some (.int .i64 0)∧w.cell? ⟨S,2,none⟩=some (.map none)∧w.cell? ⟨S,3,none⟩=some (.slice none 0 0)∧w.cell? ⟨S,4,none⟩=some (.slice none 0 0)∧w.cell? ⟨S,5,none⟩=some (.bool false):=by
 simp [World.cell?,h,strZ]
theorem load_hash {w:World} {xb:Nat} {h:H32} (hx:w.heap[xb]?=some (.cells (hashC h).toArray 36 (0,0))):(loadVar 36 ⟨xb,0,none⟩).run Tryz.prog w=.ok (.agg (hashC h).toArray) w:=
 run_loadVar_row w xb 36 36 (hashC h).toArray (0,0) _ hx Tryz.underlying36 rfl (by have:=size_h h;simpa using this)
theorem look_none (k:H32) (w:World):(Instr.lookup 29 (.map none) (.agg (hashC k).toArray) true).run Tryz.prog w=.ok (.tuple #[.string (bs []),.bool false]) w:=by
 have h:=Maps.look_nil (P:=Tryz.prog) (w:=w) (t:=29) true keyedH Tryz.underlying29 (zero_strH w) (keyH k);rw [if_pos rfl] at h;exact h
theorem many_nil (w:World):Calls Tryz.prog 11 #[.pointer none] w fun e w'=>e=.returned (.int .i64 0)∧w'=w:=by
 go_enter Tryz.func11,Tryz.ntmps11
 go_wp2_with fail
 go_ret
 exact ⟨rfl,rfl⟩
theorem many_zero {S:Nat} (w:World) (h:w.heap[S]?=some strZ):Calls Tryz.prog 11 #[.pointer (some ⟨S,0,none⟩)] w fun e w'=>e=.returned (.int .i64 0)∧w'=w:=by
 obtain ⟨c0,c1,c2,c3,c4,c5⟩:=strZ_cells h;clear h;go_enter Tryz.func11,Tryz.ntmps11
 go_wp2_with fail
 go_ret
 exact ⟨rfl,rfl⟩
theorem many_any {B S D M n en:Nat} {os:List (H32 × Bytes)} {rs:List H32} {l:Bytes} (w:World) (h:StoreAt B S D M w en os rs l n):Calls Tryz.prog 11 #[.pointer (some ⟨S,0,none⟩)] w fun e w'=>e=.returned (.int .i64 (os.length:Int))∧w'=w:=by
 obtain ⟨ov,rv,m,f,h1,h2,_⟩:=h;obtain ⟨c0,c1,c2,c3,c4,c5,_⟩:=str_cells h1;obtain ⟨A,cap,rfl,hc⟩:=h2.form;clear h1 h2;go_enter Tryz.func11,Tryz.ntmps11
 go_wp2_with fail
 go_ret
 exact ⟨rfl,rfl⟩
theorem roots_nil (w:World):Calls Tryz.prog 10 #[.pointer none] w fun e w'=>e=.returned (.slice none 0 0)∧w'=w:=by
 go_enter Tryz.func10,Tryz.ntmps10
 go_wp2_with fail
 go_ret
 exact ⟨rfl,rfl⟩
theorem roots_zero {S:Nat} (w:World) (h:w.heap[S]?=some strZ):Calls Tryz.prog 10 #[.pointer (some ⟨S,0,none⟩)] w fun e w'=>e=.returned (.slice none 0 0)∧w'=w:=by
 obtain ⟨c0,c1,c2,c3,c4,c5⟩:=strZ_cells h;clear h;go_enter Tryz.func10,Tryz.ntmps10
 go_wp2_with fail
 refine (cloneH_nil w).mono ?_;rintro e w1 ⟨rfl,rfl⟩;go_wp2_with fail
 go_ret
 exact ⟨rfl,rfl⟩
theorem roots_any {B S D M n en:Nat} {os:List (H32 × Bytes)} {rs:List H32} {l:Bytes} (h0:0<rs.length) (hr:rs.length≤1000) (w:World) (h:StoreAt B S D M w en os rs l n):Calls Tryz.prog 10 #[.pointer (some ⟨S,0,none⟩)] w fun e w'=>(∃A cap,e=.returned (.slice A rs.length cap))∧Upd noBlk w w':=by
 obtain ⟨ov,rv,m,f,h1,h2,_,h4,_⟩:=h;obtain ⟨c0,c1,c2,c3,c4,c5,_⟩:=str_cells h1;have HC:=Lib.hid (cloneH_any rv rs h0 hr w h4.rd);clear h1 h2 h4 h0 hr;go_enter Tryz.func10,Tryz.ntmps10
 go_wp2_with fail
 refine HC.out.mono ?_;rintro e w1 ⟨⟨A,cap,rfl⟩,u1⟩;have HU:=Lib.hid u1;go_wp2_with fail
 go_ret
 exact ⟨⟨A,cap,rfl⟩,HU.out⟩
theorem get_nil (k:H32) (w:World):Calls Tryz.prog 9 #[.pointer none,.agg (hashC k).toArray] w fun e w'=>e=.returned (.tuple #[.string (bs []),.bool false])∧Upd noBlk w w':=by
 have hcl:=hashC_len k;go_enter Tryz.func9,Tryz.ntmps9
 go_wp2_with fail
 go_ret2
 exact ⟨rfl,(Upd.refl _ w).alloc _⟩
set_option maxHeartbeats 1000000 in
theorem get_zero {S:Nat} (k:H32) (w:World) (h:w.heap[S]?=some strZ):Calls Tryz.prog 9 #[.pointer (some ⟨S,0,none⟩),.agg (hashC k).toArray] w fun e w'=>e=.returned (.tuple #[.string (bs []),.bool false])∧Upd noBlk w w':=by
 obtain ⟨c0,c1,c2,c3,c4,c5⟩:=strZ_cells h;have hcl:=hashC_len k;have HI:=Lib.hid (size_h k);obtain ⟨N,hN⟩:∃N,N=w.heap.size:=⟨_,rfl⟩;obtain ⟨w1,hw1⟩:∃w1,w1=w.alloc (.cells (hashC k).toArray 36):=⟨_,rfl⟩;have hb:w1.heap[N]?=some (.cells (hashC k).toArray 36 (0,0)):=by rw [hw1,hN];exact heap_alloc_new w _
 have U1:Hid (Upd noBlk w w1):=by show Upd _ _ _;rw [hw1];exact (Upd.refl _ w).alloc _
 have R1:=Lib.hid (range_row hb);have C2:=Lib.hid (U1.out.cell c2 id);clear hb h c0 c1 c2 c3 c4 c5;go_enter Tryz.func9,Tryz.ntmps9
 go_upto_region 3 with fail
 rw [←hw1,←hN];clear hw1 hN;refine wp_region_tree 10 (OT.sures [0,4,1,2,3,5,6,7,8,9] .nil) (fun w'=>Upd noBlk w1 w') (by kernel_rfl) (by kernel_rfl) (fun c a d v w h=>by cases d<;>exact h) ((Upd.refl noBlk w1).drew) ?_
 simp only [OT.sures];apply wpT_sure rfl rfl
 focus (intro w' hw';go_simp;rfl)
 apply wpT_sure rfl rfl
 focus (intro w' hw';exact exec_load_row 36 (.tmp 3) rfl N 0 (by go_simp) (hashC k) _ (rangeAt_upd R1.out hw') Tryz.underlying36 rfl HI.out)
 iterate 3 (apply wpT_sure rfl rfl;focus (intro w' hw';have g0:=hw'.cell C2.out id;go_simp;rfl))
 refine wpT_sure rfl rfl (.tuple #[.string (bs []),.bool false]) (fun w' hw'=>?_) ?_
 focus (have e1:=look_none k w';go_simp)
 iterate 4 (apply wpT_sure rfl rfl;focus (intro w' hw';go_simp;rfl))
 refine wpT_nil ?_;go_wp2_with fail
 go_ret2
 exact ⟨rfl,U1.out.drew⟩
set_option maxHeartbeats 1000000 in
theorem get_any2 {B S D M n en:Nat} {os:List (H32 × Bytes)} {rs:List H32} {l:Bytes} (k:H32) (s:Bytes) (w:World) (h:StoreAt B S D M w en os rs l n) (hk:srcF os k=some s):Calls Tryz.prog 9 #[.pointer (some ⟨S,0,none⟩),.agg (hashC k).toArray] w fun e w'=>e=.returned (.tuple #[.string (bs s),.bool true])∧Upd noBlk w w':=by
 obtain ⟨ov,rv,m,f,h1,_,_,_,h5,_,h7,_⟩:=h;obtain ⟨c0,c1,c2,c3,c4,c5,_⟩:=str_cells h1;have hfk:f k=some s:=by rw [h7,hk]
 have hcl:=hashC_len k;have HI:=Lib.hid (size_h k);obtain ⟨N,hN⟩:∃N,N=w.heap.size:=⟨_,rfl⟩;obtain ⟨w1,hw1⟩:∃w1,w1=w.alloc (.cells (hashC k).toArray 36):=⟨_,rfl⟩;have hb:w1.heap[N]?=some (.cells (hashC k).toArray 36 (0,0)):=by rw [hw1,hN];exact heap_alloc_new w _
 have U1:Hid (Upd noBlk w w1):=by show Upd _ _ _;rw [hw1];exact (Upd.refl _ w).alloc _
 have R1:=Lib.hid (range_row hb);have C2:=Lib.hid (U1.out.cell c2 id);have M1:=Lib.hid (h5.keep U1.out);have HFK:=Lib.hid hfk;clear hb h1 h5 h7 c0 c1 c2 c3 c4 c5 hfk hk;go_enter Tryz.func9,Tryz.ntmps9
 go_upto_region 3 with fail
 rw [←hw1,←hN];clear hw1 hN;refine wp_region_tree 10 (OT.sures [0,4,1,2,3,5,6,7,8,9] .nil) (fun w'=>Upd noBlk w1 w') (by kernel_rfl) (by kernel_rfl) (fun c a d v w h=>by cases d<;>exact h) ((Upd.refl noBlk w1).drew) ?_
 simp only [OT.sures];apply wpT_sure rfl rfl
 focus (intro w' hw';go_simp;rfl)
 apply wpT_sure rfl rfl
 focus (intro w' hw';exact exec_load_row 36 (.tmp 3) rfl N 0 (by go_simp) (hashC k) _ (rangeAt_upd R1.out hw') Tryz.underlying36 rfl HI.out)
 iterate 3 (apply wpT_sure rfl rfl;focus (intro w' hw';have g0:=hw'.cell C2.out id;go_simp;rfl))
 refine wpT_sure rfl rfl (.tuple #[.string (bs s),.bool true]) (fun w' hw'=>?_) ?_
 focus (have e1:(Instr.lookup 29 (.map (some M)) (.agg (hashC k).toArray) true).run Tryz.prog w'=.ok (.tuple #[.string (bs ((f k).getD [])),.bool (f k).isSome]) w':=(M1.out.keep hw').lookOkR (a:=k) trivial;rw [HFK.out] at e1;simp only [Option.getD_some,Option.isSome_some] at e1;go_simp)
 iterate 4 (apply wpT_sure rfl rfl;focus (intro w' hw';go_simp;rfl))
 refine wpT_nil ?_;go_wp2_with fail
 go_ret2
 exact ⟨rfl,U1.out.drew⟩
theorem root_nil2 (w:World):Calls Tryz.prog 8 #[.pointer none] w fun e w'=>e=.returned (.tuple #[.agg (hashC zeroH).toArray,.bool false])∧Upd noBlk w w':=by
 have hzh:=zero_hash;have hcl:=hashC_len zeroH;obtain ⟨Z,hst,hz1,hz2⟩:=store_row (P:=Tryz.prog) (heap_alloc_new w (.cells (hashC zeroH).toArray 36)) (vs:=hashC zeroH) (by rw [List.size_toArray]) (byV_one zeroH.1);have HZU:Hid (Upd noBlk w Z):=((Upd.refl noBlk w).alloc _).then hz2 (fun i hi e=>by omega);have HZ1:=Lib.hid hz1;clear hz1 hz2;go_enter Tryz.func8,Tryz.ntmps8
 go_wp2_with fail
 (try simp only [Exit.inBlock,Exit.then])
 refine bodyPost_ret (results_cell_tmp1 rfl _ rfl (load_hash HZ1.out)) rfl ?_;exact ⟨rfl,HZU.out⟩
theorem root_none {S:Nat} {A:Option Addr} {cap:Nat} (w:World) (c4:w.cell? ⟨S,4,none⟩=some (.slice A 0 cap)):Calls Tryz.prog 8 #[.pointer (some ⟨S,0,none⟩)] w fun e w'=>e=.returned (.tuple #[.agg (hashC zeroH).toArray,.bool false])∧Upd noBlk w w':=by
 have hzh:=zero_hash;have hcl:=hashC_len zeroH;obtain ⟨Z,hst,hz1,hz2⟩:=store_row (P:=Tryz.prog) (heap_alloc_new w (.cells (hashC zeroH).toArray 36)) (vs:=hashC zeroH) (by rw [List.size_toArray]) (byV_one zeroH.1);have HZU:Hid (Upd noBlk w Z):=((Upd.refl noBlk w).alloc _).then hz2 (fun i hi e=>by omega);have HZ1:=Lib.hid hz1;have c4':=cell_alloc_keep (.cells (hashC zeroH).toArray 36) c4;clear hz1 hz2 c4;go_enter Tryz.func8,Tryz.ntmps8
 go_wp2_with fail
 (try simp only [Exit.inBlock,Exit.then])
 refine bodyPost_ret (results_cell_tmp1 rfl _ rfl (load_hash HZ1.out)) rfl ?_;exact ⟨rfl,HZU.out⟩
set_option maxHeartbeats 1000000 in
theorem root_some {B S D M n en:Nat} {os:List (H32 × Bytes)} {rs:List H32} {l:Bytes} (X:H32) (hr:rs.length≤1000) (w:World) (h:StoreAt B S D M w en os (rs++[X]) l n):Calls Tryz.prog 8 #[.pointer (some ⟨S,0,none⟩)] w fun e w'=>e=.returned (.tuple #[.agg (hashC X).toArray,.bool true])∧Upd noBlk w w':=by
 obtain ⟨ov,rv,m,f,h1,_,_,h4,_⟩:=h;have hzh:=zero_hash;have hcz:=hashC_len zeroH;have hcl:=hashC_len X;have HI:=Lib.hid (size_h X);obtain ⟨N,hN⟩:∃N,N=w.heap.size:=⟨_,rfl⟩;obtain ⟨w1,hw1⟩:∃w1,w1=w.alloc (.cells (hashC zeroH).toArray 36):=⟨_,rfl⟩;have hb:w1.heap[N]?=some (.cells (hashC zeroH).toArray 36 (0,0)):=by rw [hw1,hN];exact heap_alloc_new w _
 have u1:Upd noBlk w w1:=by rw [hw1];exact (Upd.refl _ w).alloc _
 have H1:=Lib.hid (u1.heap h1 id);obtain ⟨A,cap,e,hc,hx⟩:=(h4.upd u1).rd;obtain ⟨q,hq⟩:∃q,q=rs.length:=⟨_,rfl⟩;have hlen:(rs++[X]).length=q+1:=by rw [hq];simp
 rw [hlen] at e;subst e;obtain ⟨b,off,rfl,hx2⟩:=hx (by omega);have hat:w1.rangeAt b (off+q*32) (hashC X):=by
  have h9:=hx2 q (by omega);rw [List.getElem_append_right (by omega)] at h9;simp only [hq,Nat.sub_self,List.getElem_cons_zero] at h9;rw [hq];exact h9
 have HAT:=Lib.hid hat;obtain ⟨_,_,_,_,s4,_⟩:=str_cells H1.out;have S4:=Lib.hid s4;have U1:=Lib.hid u1;have HB:=Lib.hid hb;have hq63:(q:Int)≤1000:=by omega
 have hq1:((q:Int)+1)-1=(q:Int):=by omega
 have hqn:¬(q:Int)+1=0:=by omega
 have HNN:=Lib.hid hN;clear s4 u1 hb hat hx hx2 hc h4 h1 hr hlen hq;go_enter Tryz.func8,Tryz.ntmps8
 go_upto_region 1 with fail
 rw [←hw1,←hN];clear hw1 hN;have s4:=S4.out;go_upto_region 3 with fail
 clear s4;have ud:Upd noBlk w1 w1.drew:=(Upd.refl noBlk w1).drew;have HUD:=Lib.hid (U1.out.trans ud);have HAD:=Lib.hid (rangeAt_upd HAT.out ud);obtain ⟨Z,hst,hz1,hz2⟩:=store_row (P:=Tryz.prog) (ud.heap HB.out id) (vs:=hashC X) (by rw [List.size_toArray,hashC_len,hashC_len]) (byV_one X.1);have HZ1:=Lib.hid hz1;have HZU:Hid (Upd noBlk w Z):=HUD.out.then hz2 (fun i hi e=>by have:=HNN.out;omega);clear hz1 hz2;refine wp_region_tree 10 (OT.sures [0,4,1,2,3,5,6,7,8,9] .nil) (fun w'=>Upd noBlk w1 w') (by kernel_rfl) (by kernel_rfl) (fun c a d v w h=>by cases d<;>exact h) ud ?_
 simp only [OT.sures];clear ud
 iterate 8 (apply wpT_sure rfl rfl;focus (intro w' hw';have g0:=hw'.cell S4.out id;go_simp;rfl))
 refine wpT_sure rfl rfl (.int .i64 ((q:Int)+1)) (fun w' hw'=>?_) ?_
 focus (go_simp)
 refine wpT_sure rfl rfl (.int .i64 (q:Int)) (fun w' hw'=>?_) ?_
 focus (go_simp;rw [IntKind.wrap_i64];omega)
 refine wpT_nil ?_;generalize w1.drew=wd at *;go_wp2_with (first | (refine wpList_load_mid rfl _ _ rfl b (off+q*32) rfl (hashC X) _ HAD.out Tryz.underlying36 rfl HI.out ?_))
 (try simp only [Exit.inBlock,Exit.then])
 refine bodyPost_ret (results_cell_tmp1 rfl _ rfl (load_hash HZ1.out)) rfl ?_;exact ⟨rfl,HZU.out⟩
end Go.Proofs.YtmgklblglpplcaaGreatDoor
namespace Go.Proofs.YtmgklblglpplcaaGreatDoor
open Go Go.RowKit Pk
set_option maxRecDepth 100000
def pQ (B k:Nat) (o:Obj):Prop:=wQ B k o∨aQ B k o
theorem pQ_below {B k:Nat} {o:Obj} (h:pQ B k o):B≤k:=by
 rcases h with h | h<;>exact h.1
theorem pQ_pk {B k:Nat} (cs:Array Value):¬pQ B k (.cells cs 63 (0,0)):=fun h=>by
 rcases h with h | h
 ·have:=tyQ_cells.1 h.2;simp at this
 ·exact aQ_not (by decide) (by decide) h
theorem pub_nil (v:Value) (X:H32) (A:Option Addr) (n c:Nat) (hv:v=.agg (verC X (.slice A n c)).toArray) (w:World):Calls Tryz.prog 12 #[.pointer none,v] w fun e w'=>e=.returned (.int .i64 1)∧Upd noBlk w w':=by
 subst hv;have hvl:=verC_len X (.slice A n c);have HU:Hid (Upd noBlk w (w.alloc (.cells (verC X (.slice A n c)).toArray 45))):=(Upd.refl _ w).alloc _;go_enter Tryz.func12,Tryz.ntmps12
 go_wp2_with fail
 go_ret
 exact ⟨rfl,HU.out⟩
theorem pub_zero {S:Nat} (v:Value) (X:H32) (A:Option Addr) (n c:Nat) (hv:v=.agg (verC X (.slice A n c)).toArray) (w:World) (h:w.heap[S]?=some strZ):Calls Tryz.prog 12 #[.pointer (some ⟨S,0,none⟩),v] w fun e w'=>e=.returned (.int .i64 1)∧Upd noBlk w w':=by
 subst hv;have hvl:=verC_len X (.slice A n c);obtain ⟨w1,hw1⟩:∃w1,w1=w.alloc (.cells (verC X (.slice A n c)).toArray 45):=⟨_,rfl⟩;have HU:Hid (Upd noBlk w w1):=by show Upd _ _ _;rw [hw1];exact (Upd.refl _ w).alloc _
 obtain ⟨c0,c1,c2,c3,c4,c5⟩:=strZ_cells (HU.out.heap h id);clear h;go_enter Tryz.func12,Tryz.ntmps12
 go_upto_region 1 with fail
 rw [←hw1];clear hw1;go_wp2_with fail
 go_ret
 exact ⟨rfl,HU.out⟩
theorem Kd.Own.app0U {α:Type} {K:Kd Tryz.prog α} {base:Nat} {w:World} {v:Value} {l:List α} (h:K.Own base w v l) (A:Option Addr) (c:Nat):(Builtin.append_ #[K.S,K.S] K.S #[v,.slice A 0 c]).run Tryz.prog w=.ok v w:=by
 obtain ⟨i,z,hi,hz,h1,h2,h3⟩:=K.info;obtain ⟨Av,cap,rfl,hc⟩:=h.form;refine run_append_nothing w K.S K.S K.S K.T i K.und hi Av l.length cap hc (.slice A 0 c) ?_;cases A with
 | none=>exact Src.ofNil w K.und c
 | some a=>exact Src.ofSlice w K.und a 0 c [] (by simp) (by intro j u hu;simp at hu) (by intro u hu;cases hu)
theorem Kd.Own.appRU {α:Type} {K:Kd Tryz.prog α} {base:Nat} {w:World} {v:Value} {l:List α} (h:K.Own base w v l) (hb:base≤w.heap.size) {A:Option Addr} {c:Nat} {m:List α} (hm:K.Rd w (.slice A m.length c) m) (hl:l.length+m.length<4294967296) :
  ∃A' cap w',(Builtin.append_ #[K.S,K.S] K.S #[v,.slice A m.length c]).run Tryz.prog w=.ok (.slice A' (l.length+m.length) cap) w'∧K.Own base w' (.slice A' (l.length+m.length) cap) (l++m)∧Upd (fun k=>v.ownBlock=some k) w w':=by
 obtain ⟨A2,c2,e,_,hx⟩:=hm;cases e;rcases Nat.eq_zero_or_pos m.length with h0 | h0
 ·have hm0:m=[]:=List.eq_nil_of_length_eq_zero h0;subst hm0;obtain ⟨Av,cv,rfl,hcv⟩:=h.form;exact ⟨Av,cv,w,h.app0U A _,by rw [List.append_nil];exact h,Upd.refl _ _⟩
 ·obtain ⟨b,off,rfl,hat⟩:=hx h0;obtain ⟨g,cap,w',r,o,u,_⟩:=h.appN hb m hat hl h0;exact ⟨_,_,_,r,o,u⟩
theorem StoreAt.keep {B S D M n en:Nat} {os:List (H32 × Bytes)} {rs:List H32} {l:Bytes} {w w':World} (h:StoreAt B S D M w en os rs l n) (hu:Upd noBlk w w'):StoreAt B S D M w' en os rs l n:=by
 obtain ⟨ov,rv,m,f,h1,h2,h3,h4,h5,h6,h7,h8,hBB⟩:=h;exact ⟨ov,rv,m,f,hu.heap h1 id,h2.upd hu,h3,h4.upd hu,h5.keep hu,h6,h7,h8.keep hu,hBB⟩
theorem wQ_cells {B k:Nat} {cs:Array Value} {T:TypeId} {fr:Nat × Nat} (h:T≠5∧T≠144∧T≠60∧T≠33):¬wQ B k (.cells cs T fr):=fun e=>by
 have:=tyQ_cells.1 e.2;simp at this;obtain ⟨h1,h2,h3,h4⟩:=h;rcases this with e | e | e | e
 ·exact h1 e
 ·exact h2 e
 ·exact h3 e
 ·exact h4 e
theorem StoreAt.wrote {B S D M n en:Nat} {os:List (H32 × Bytes)} {rs:List H32} {l:Bytes} {w:World} (h:StoreAt B S D M w en os rs l n):∃ov rv,w.heap[S]?=some (strB D (en:Int) M ov rv false)∧DiskAt B D w l n∧B≤S ∧
  ∀(w':World) (en':Nat) (l':Bytes) (n':Nat),UpdO (wQ B) w w'→w'.heap[S]?=some (strB D (en':Int) M ov rv false)→DiskAt B D w' l' n'→n≤n'→StoreAt B S D M w' en' os rs l' n':=by
 obtain ⟨ov,rv,m,f,h1,h2,h3,h4,h5,h6,h7,h8,hBB⟩:=h;refine ⟨ov,rv,h1,h8,hBB.1,fun w' en' l' n' hu hs hd hn=>⟨ov,rv,m,f,hs,h2.keepO hu (fun _ cs=>wQ_cells (by decide)),h3,h4.keepO hu (fun _ cs=>wQ_cells (by decide)),?_,by omega,h7,hd,hBB⟩⟩;obtain ⟨es,c,hc⟩:=h5.blk;exact h5.heap (fun o ho=>hu.keep ho (fun hq=>by
  rw [hc] at ho;cases ho;obtain ⟨_,cs,T,fr,e,_⟩:=hq;cases e))
theorem StoreAt.mono {B S D M n n' en:Nat} {os:List (H32 × Bytes)} {rs:List H32} {l:Bytes} {w:World} (h:StoreAt B S D M w en os rs l n) (hn:n≤n'):StoreAt B S D M w en os rs l n':=by
 obtain ⟨ov,rv,m,f,h1,h2,h3,h4,h5,h6,h7,h8,hBB⟩:=h;exact ⟨ov,rv,m,f,h1,h2,h3,h4,h5,by omega,h7,h8.mono hn,hBB⟩
theorem size_ver (X:H32) (pv:Value):(Tryz.prog.info? 45).map (·.size)=some (verC X pv).length:=by rw [verC_len];kernel_rfl
theorem size_pub (X:H32) (pv:Value):(Tryz.prog.info? 56).map (·.size)=some (pubC pv X).length:=by rw [pubC_len];kernel_rfl
def newP (os:List (H32 × Bytes)):List Bytes:=if os=[] then [[3,0]] else []
set_option maxHeartbeats 16000000 in
theorem publish_any {B S D M n:Nat} {en:Nat} {os:List (H32 × Bytes)} {rs:List H32} {l:Bytes} (X:H32) (hX:shaH [3,0]=X) (hos:os=[]∨os=[(X,[3,0])]) (hn:n≤5000) (hen:en≤5000) (hl:l.length≤5000) (hrs:rs.length≤10) (pv:Value) (w:World)
  (hS:StoreAt B S D M w en os rs l n) (hpv:kPk.Own 0 w pv [(X,[3,0])]) :
  Calls Tryz.prog 12 #[.pointer (some ⟨S,0,none⟩),.agg (verC X pv).toArray] w fun e w'=>e=.returned (.int .i64 0) ∧
   (∃P:List Bytes,P=newP os∧StoreAt B S D M w' (en+1+(frameB (bodyB P X)).length) (osK os P P.length) (rs++[X]) (putB (putB l (en+1) (frameB (bodyB P X)++[0])) en [1]) (n+300))∧UpdO (pQ B) w w':=by
 have HPV:=Lib.hid hpv;have HST:=Lib.hid hS;have HB:Hid (n≤5000∧en≤5000∧l.length≤5000∧rs.length≤10):=⟨hn,hen,hl,hrs⟩;have HOS:=Lib.hid hos;have HX:=Lib.hid hX;obtain ⟨A,cap,e,hc⟩:=hpv.form;have e1:pv=.slice A 1 cap:=e;subst e1;have hvl:=verC_len X (.slice A 1 cap);obtain ⟨NV,hNV⟩:∃NV,NV=w.heap.size:=⟨_,rfl⟩;obtain ⟨w1,hw1⟩:∃w1,w1=w.alloc (.cells (verC X (.slice A 1 cap)).toArray 45):=⟨_,rfl⟩;have hb:w1.heap[NV]?=some (.cells (verC X (.slice A 1 cap)).toArray 45 (0,0)):=by rw [hw1,hNV];exact heap_alloc_new w _
 have U1:Hid (Upd noBlk w w1):=by show Upd _ _ _;rw [hw1];exact (Upd.refl _ w).alloc _
 have B1:=Lib.hid hb;have ST1:=Lib.hid (hS.keep U1.out);have PV1:=Lib.hid (hpv.upd U1.out);obtain ⟨ov,rv,m,f,h1,_⟩:=ST1.out;obtain ⟨c0,c1,c2,c3,c4,c5,f0,f1,f2,f3,f4,f5⟩:=str_cells h1;have cv:=ver_row (range_row hb);clear hb h1 hS hpv hos hn hen hl hrs hX e hc c1 c2 c3 c4 f0 f1 f2 f3 f4 f5;go_enter Tryz.func12,Tryz.ntmps12
 go_upto_region 1 with fail
 rw [←hw1,←hNV];have HNV:=Lib.hid hNV;clear hw1 hNV;go_wp2_with fail
 have HI:=Lib.hid (size_pk (X,([3,0]:Bytes)));have HIX:=Lib.hid (size_h X);have hcl:=hashC_len X;have hpl:=pkC_len (X,([3,0]:Bytes));go_loopw [32] (fun i wr=>(i=.int .i64 0∨i=.int .i64 1)∧Upd noBlk w1 wr) (fun i _=>1-(intOf i).toNat)
 case atStart=>exact ⟨.inl rfl,Upd.refl _ _⟩
 case round=>
  obtain ⟨hi,hu⟩:=hrel;have HU:=Lib.hid hu;clear hu c0 c5 cv;rcases hi with rfl | rfl
  ·obtain ⟨A',cap',e',_,hx⟩:=(PV1.out.upd HU.out).rd;cases e';obtain ⟨b,off,rfl,hx2⟩:=hx (by simp);have hr0:wr.rangeAt b (off+0*33) (pkC (X,[3,0])):=hx2 0 (by simp);have HR:=Lib.hid hr0;clear hx hx2 hr0;have hzp:=zero_pk;obtain ⟨Z,hst,hz1,hz2⟩:=store_row (P:=Tryz.prog) (heap_alloc_new wr (.cells (pkC (zeroH,[])).toArray 63)) (vs:=pkC (X,[3,0])) (by rw [List.size_toArray,pkC_len,pkC_len]) (pkC_one _);obtain ⟨Hb,hHb⟩:∃Hb,Hb=wr.heap.size:=⟨_,rfl⟩;have uz:Upd noBlk wr Z:=((Upd.refl noBlk wr).alloc _).then hz2 (fun i hi e=>by omega);have UZ:=Lib.hid (HU.out.trans uz);have RZ:Hid (Z.rangeAt Hb 0 (pkC (X,[3,0]))):=by show World.rangeAt _ _ _ _;rw [hHb];exact range_row hz1
   clear hz1 hz2 uz;go_upto_region 8 with (first | (refine wpList_load_mid rfl _ _ rfl b (off+0*33) rfl (pkC (X,[3,0])) _ HR.out Tryz.underlying63 rfl HI.out ?_))
   rw [←hHb];clear hHb hst hzp;have C32:Hid (Z.cell? ⟨Hb,32,none⟩=some (.string (bs [3,0]))):=by
    have h9:=pk_str RZ.out;rw [Nat.zero_add] at h9;exact h9
   have RZH:=Lib.hid (pk_hash RZ.out);have UZd:Hid (Upd noBlk Z Z.drew):=(Upd.refl noBlk Z).drew;have HSM:=Lib.hid (gSum_any [3,0] (by decide) (by decide) Z.drew);refine wp_region_tree 5 (OT.sures [0,3,1,4] (.run 2 .nil)) (fun w'=>Upd noBlk Z w') (by kernel_rfl) (by kernel_rfl) (fun c a d v w h=>by cases d<;>exact h) UZd.out ?_
   simp only [OT.sures]
   iterate 3 (apply wpT_sure rfl rfl;focus (intro w' hw';have g0:=hw'.cell C32.out id;go_simp;rfl))
   apply wpT_sure rfl rfl
   focus (intro w' hw';exact exec_load_row 36 (.tmp 39) rfl Hb 0 (by go_simp) (hashC X) _ (rangeAt_upd RZH.out hw') Tryz.underlying36 rfl HIX.out)
   generalize Z.drew=Zd at *;refine wpT_run (fun w'=>Upd noBlk Z w') (fun _ h=>h) rfl (fun K' hK=>?_);go_simp
   refine HSM.out.mono ?_;rintro e w2 ⟨rfl,u2⟩;have U2:=Lib.hid (UZ.out.trans (UZd.out.trans u2));refine hK _ _ ⟨UZd.out.trans u2,?_⟩;clear hK K' u2 HSM;rw [HX.out];unfold hashV0;have eq2:(Op.equalIn 10000 36 (.agg (hashC X).toArray) (.agg (hashC X).toArray)).run Tryz.prog w2=.ok true w2:=by rw [eq_hash];simp
   refine wpT_nil ?_;go_wp2_with fail
   exact ⟨⟨.inr rfl,U2.out⟩,by simp [intOf]⟩
  ·have ST:=Lib.hid (ST1.out.keep HU.out);have PV:=Lib.hid (PV1.out.upd HU.out);have BV:=Lib.hid (HU.out.heap B1.out id);have UW:=Lib.hid (U1.out.trans HU.out);have CV:=Lib.hid (ver_row (range_row BV.out));have RVH:=Lib.hid (ver_hash (range_row BV.out));obtain ⟨ov2,rv2,m2,f2,h1,h2,_⟩:=ST.out;obtain ⟨_,_,_,s3,_⟩:=str_cells h1;have S3:=Lib.hid s3;have OV:=Lib.hid h2;obtain ⟨Ao,co,rfl,hco⟩:=h2.form;have ud:Upd noBlk wr wr.drew:=(Upd.refl noBlk wr).drew;have UD:=Lib.hid ud;have HCL:=Lib.hid (clonePk_any _ [(X,[3,0])] (by simp) (by simp) wr.drew (PV.out.upd ud).rd);clear h1 h2 s3 hco ud ST1 PV1 B1 U1 HU;go_upto_region 11 with fail
   refine wp_region_tree 15 (OT.sures [0,2,5,1,3,6,7,8] (.run 4 (.run 9 (.run 10 (OT.sures [11,12,13,14] .nil))))) (fun w'=>Upd noBlk wr w') (by kernel_rfl) (by kernel_rfl) (fun c a d v w h=>by cases d<;>exact h) UD.out ?_
   simp only [OT.sures]
   iterate 3 (apply wpT_sure rfl rfl;focus (intro w' hw';go_simp;rfl))
   apply wpT_sure rfl rfl
   focus (intro w' hw';exact exec_load_row 36 (.tmp 44) rfl NV 0 (by go_simp) (hashC X) _ (rangeAt_upd RVH.out hw') Tryz.underlying36 rfl HIX.out)
   iterate 4 (apply wpT_sure rfl rfl;focus (intro w' hw';have g0:=hw'.cell S3.out id;have g1:=hw'.cell CV.out id;go_simp;rfl))
   generalize wr.drew=wd at *;refine wpT_run (fun w'=>Upd noBlk wr w') (fun _ h=>h) rfl (fun K' hK=>?_);go_simp
   refine HCL.out.mono ?_;rintro e w2 ⟨v2,rfl,o2,u2⟩;have U2:=Lib.hid (UD.out.trans u2);refine hK _ _ ⟨U2.out,?_⟩;obtain ⟨A3,c3,w3,r3,o3,u3⟩:=o2.appRU u2.size ((OV.out.upd U2.out).rd) (by simp;rcases HOS.out with e | e<;>rw [e]<;>simp)
   obtain ⟨n3,hn3⟩:∃n3,n3=[(X,([3,0]:Bytes))].length+os.length:=⟨_,rfl⟩;obtain ⟨A2,c2,rfl,hc2⟩:=o2.form;have U3:Hid (Upd noBlk wr w3):=U2.out.then u3 (fun i hi e=>by have h9:=(o2.blk e).1;have:=UD.out.size;omega);rw [←hn3] at r3 o3;have R3:=Lib.hid r3;have hos3:([(X,([3,0]:Bytes))]++os).length≤1000:=by rcases HOS.out with e | e<;>rw [e]<;>simp
   have HRC:=Lib.hid (reach_any ([(X,[3,0])]++os) hos3 X (by unfold srcF;simp) HX.out _ w3 o3.rd);clear hK K' r3 o3 u3 o2 u2 HCL hc2 hn3 hos3;refine wpT_run (fun w'=>Upd noBlk wr w') (fun _ h=>h) rfl (fun K' hK=>?_);refine if_wantU (by go_simp) ?_;refine wp_append_run (.tmp 48) (.tmp 52) _ rfl (by go_simp) (by go_simp) R3.out ?_;refine hK _ _ ⟨U3.out,?_⟩;clear hK K';refine wpT_run (fun w'=>Upd noBlk wr w') (fun _ h=>h) rfl (fun K' hK=>?_);go_simp
   refine HRC.out.mono ?_;rintro e w4 ⟨⟨vr,rfl⟩,u4⟩;have U4:=Lib.hid (U3.out.trans u4);refine hK _ _ ⟨U4.out,?_⟩;clear hK K' u4 HRC
   iterate 4 (apply wpT_sure rfl rfl;focus (intro w' hw';go_simp;rfl))
   refine wpT_nil ?_;have ST4:=Lib.hid (ST.out.keep U4.out);have PV4:=Lib.hid (PV.out.upd U4.out);have BV4:=Lib.hid (U4.out.heap BV.out id);have UW4:=Lib.hid (UW.out.trans U4.out);have RVH4:=Lib.hid (ver_hash (range_row BV4.out));clear ST PV BV UW CV RVH S3 OV UD U2 U3 R3 U4;have hzpub:∀W,(zeroValue 56).run Tryz.prog W=.ok (.agg (pubC (.slice none 0 0) zeroH).toArray) W:=fun W=>by kernel_rfl
   have hplz:=pubC_len (.slice none 0 0) zeroH;have hplx:=pubC_len (.slice none 0 0) X;obtain ⟨Z,hst,hz1,hz2⟩:=store_row (P:=Tryz.prog) (heap_alloc_new w4 (.cells (pubC (.slice none 0 0) zeroH).toArray 56)) (vs:=pubC (.slice none 0 0) X) (by rw [List.size_toArray,pubC_len,pubC_len]) (fun v hv=>by
    rcases List.mem_cons.1 hv with e | e
    ·rw [e];rfl
    ·exact byV_one _ v e)
   obtain ⟨NP,hNP⟩:∃NP,NP=w4.heap.size:=⟨_,rfl⟩;have uz:Upd noBlk w4 Z:=((Upd.refl noBlk w4).alloc _).then hz2 (fun i hi e=>by omega);rw [←hNP] at hz1;have HZ1:=Lib.hid hz1;have UZ:=Lib.hid uz;clear hz1 hz2 uz;go_upto_region 15 with (first
    | (refine wpList_load_mid rfl _ _ rfl NV 0 rfl (hashC X) _ RVH4.out Tryz.underlying36 rfl HIX.out ?_)
    | (refine wpList_val rfl (.agg (pubC (.slice none 0 0) X).toArray) w4 (exec_build_pub X w4 (.tmp 61) rfl (by go_simp)) ?_))
   rw [←hNP];have HNP:=Lib.hid hNP;clear hNP hst hzpub hplz;have hmm:=@run_makeMap Tryz.prog;obtain ⟨MS,hMS⟩:∃MS,MS=Z.heap.size:=⟨_,rfl⟩;obtain ⟨wm,hwm⟩:∃wm,wm=Z.alloc (.map #[] 0):=⟨_,rfl⟩;have HMm:Hid (kitHB.At wm MS 0 (fun _=>none)):=by show kitHB.At _ _ _ _;rw [hwm,hMS];exact MapKit.At.made kitHB Z
   have um:Upd noBlk Z wm:=by rw [hwm];exact (Upd.refl _ Z).alloc _
   have Um:=Lib.hid (UZ.out.trans um);have Zm:=Lib.hid (um.heap HZ1.out id);have hMN:NP<MS:=by rw [hMS];exact lt_of_heap HZ1.out
   have HMN:=Lib.hid hMN;go_upto_region 16 with fail
   rw [←hwm,←hMS];clear hwm hMS um hMN HZ1 UZ hmm;have STm:=Lib.hid (ST4.out.keep Um.out);have PVm:=Lib.hid (PV4.out.upd Um.out);have BVm:=Lib.hid (Um.out.heap BV4.out id);have RVm:=Lib.hid (range_row BVm.out);have HIV:=Lib.hid (size_ver X (.slice A 1 cap));obtain ⟨ov3,rv3,m3,f3,h1,h2,_⟩:=STm.out;obtain ⟨_,_,_,s3,_⟩:=str_cells h1;have S3:=Lib.hid s3;have OV:=Lib.hid h2;obtain ⟨Ao3,co3,rfl,hco⟩:=h2.form;have ud:Upd noBlk wm wm.drew:=(Upd.refl noBlk wm).drew;have UD:=Lib.hid ud;have HMI:=Lib.hid (missing_any _ os (by rcases HOS.out with e | e<;>rw [e]<;>simp) X _ (X,[3,0]) wm.drew (OV.out.upd ud).rd (PVm.out.upd ud).rd)
   clear h1 h2 s3 hco ud PV4 BV4 RVH4;refine wp_region_full 8 (OT.sures [0,1,2,3,4,7] (.run 5 (OT.sures [6] .nil))) (fun w'=>Upd noBlk wm w') (by kernel_rfl) (by kernel_rfl) (fun c a d v w h=>by cases d<;>exact h) UD.out ?_
   simp only [OT.sures]
   iterate 4 (apply wpT_sure rfl rfl;focus (intro w' hw';have g0:=hw'.cell S3.out id;go_simp;rfl))
   apply wpT_sure rfl rfl
   focus (intro w' hw';exact exec_load_row 45 (.tmp 3) rfl NV 0 (by go_simp) (verC X (.slice A 1 cap)) _ (rangeAt_upd RVm.out hw') Tryz.underlying45 rfl HIV.out)
   apply wpT_sure rfl rfl
   focus (intro w' hw';go_simp;rfl)
   generalize wm.drew=wd5 at *;refine wpT_run (fun w'=>Upd noBlk wm w') (fun _ h=>h) rfl (fun K' hK=>?_);go_simp
   refine HMI.out.mono ?_;intro e w5 hq;have u5:Upd noBlk wm w5:=UD.out.trans (hq.2.mono (fun i hi e=>by omega));obtain ⟨ms,hms,mv,rfl,⟨Am,cm,rfl⟩,hmo⟩:∃ms:List (H32 × Bytes),(os=[]∧ms=[(X,[3,0])]∨os=[(X,[3,0])]∧ms=[])∧∃mv,e=.returned mv∧(∃Am cm,mv=.slice Am ms.length cm)∧(0<ms.length→kPk.Own 0 w5 mv ms):=by
    rcases HOS.out with e0 | e0
    ·have h1:=hq.1;rw [e0,if_neg (by simp [srcF])] at h1;obtain ⟨v,e,o⟩:=h1;obtain ⟨Am,cm,ev,_⟩:=o.form;exact ⟨[(X,[3,0])],.inl ⟨e0,rfl⟩,v,e,⟨Am,cm,ev⟩,fun _=>o.mono (Nat.zero_le _)⟩
    ·have h1:=hq.1;rw [e0,if_pos (by simp [srcF])] at h1;obtain ⟨Am,cm,e⟩:=h1;exact ⟨[],.inr ⟨e0,rfl⟩,_,e,⟨Am,cm,rfl⟩,fun h=>absurd h (by simp)⟩
   refine hK _ _ ⟨u5,?_⟩;have U5:=Lib.hid u5;have HMS:=Lib.hid hms;have HMO:=Lib.hid hmo;have hml:ms.length≤1:=by rcases hms with ⟨_,e⟩ | ⟨_,e⟩<;>rw [e]<;>simp
   have hml1:(ms.length:Int)≤1:=by omega
   have HML:=Lib.hid hml;clear hK K' u5 hq hms hmo hml HMI UD OV S3;apply wpT_sure rfl rfl
   focus (intro w' hw';go_simp;rfl)
   refine wpT_nil ?_;have ST5:=Lib.hid (STm.out.keep U5.out);have Z5:=Lib.hid (U5.out.heap Zm.out id);have M5:=Lib.hid (HMm.out.keep U5.out);have U45:=Lib.hid (Um.out.trans U5.out);have HSM5:Hid (w4.heap.size≤NP∧NP<MS):=⟨by rw [HNP.out];exact Nat.le_refl _,HMN.out⟩;clear STm PVm BVm RVm Zm HMm Um U5 HNP HMN;go_wp2_with fail
   simp only [List.getElem_toArray,List.getElem_cons_succ,List.getElem_cons_zero,Act.put,List.setIfInBounds_toArray,List.set_cons_succ,List.set_cons_zero];go_loopw [71] (fun i wr=>∃(k m':Nat) (pvv:Value) (fz:H32→Option Bool),i=.int .i64 k∧k≤ms.length∧wr.heap[NP]?=some (.cells (pubC pvv X).toArray 56 (0,0))∧kStr.Own w4.heap.size wr pvv ((ms.map (·.2)).take k)∧kitHB.At wr MS m' fz∧m'≤k∧(k=0→pvv=.slice none 0 0∧fz X=none)∧Upd (fun j=>j=NP∨j=MS) w5 wr) (fun i _=>ms.length-(intOf i).toNat)
   case atStart=>exact ⟨0,0,.slice none 0 0,fun _=>none,rfl,Nat.zero_le _,Z5.out,Kd.Own.nil _ _ _,M5.out,Nat.le_refl _,fun _=>⟨rfl,rfl⟩,Upd.refl _ _⟩
   case round=>
    obtain ⟨k,m',pvv,fz,rfl,hk,r1,r2,r3,r4,r5,r6⟩:=hrel;have Q1:=Lib.hid r1;have Q2:=Lib.hid r2;have Q3:=Lib.hid r3;have Q4:=Lib.hid r4;have Q5:=Lib.hid r5;have Q6:=Lib.hid r6;clear r1 r2 r3 r4 r5 r6;by_cases hlt:k<ms.length
    ·have hlt':(k:Int)<(ms.length:Int):=by omega
     have hk0:k=0:=by have:=HML.out;omega
     subst hk0;have hms:ms=[(X,[3,0])]:=by
      rcases HMS.out with ⟨_,e⟩ | ⟨_,e⟩
      ·exact e
      ·rw [e] at hlt;simp at hlt
     obtain ⟨hpv0,hfz0⟩:=Q5.out rfl;subst hpv0;have hown:=(HMO.out hlt).other Q6.out (fun g hg e=>by
      obtain ⟨_,cur,hc⟩:=(HMO.out hlt).blk hg;rcases e with e | e
      ·rw [e,Z5.out] at hc;have h9:(Obj.cells (pubC (.slice none 0 0) X).toArray 56 (0,0))=.cells cur kPk.T (0,0):=Option.some.inj hc;injection h9 with _ h10 _
       exact absurd h10 (by decide)
      ·obtain ⟨es,c,hm⟩:=M5.out.blk;rw [e,hm] at hc;cases hc)
     rw [hms] at hown;obtain ⟨b,off,hAm,hat⟩:∃b off,Am=some ⟨b,off,none⟩∧wr.rangeAt b (off+0*33) (pkC (X,[3,0])):=by
      obtain ⟨A',c',e',_,hx⟩:=hown.rd;cases e';obtain ⟨b,off,e,hx2⟩:=hx (by simp);exact ⟨b,off,e,hx2 0 (by simp)⟩
     subst hAm;have HR:=Lib.hid hat;have HFZ:=Lib.hid hfz0;have hzp:=zero_pk;obtain ⟨Y,hst,hz1,hz2⟩:=store_row (P:=Tryz.prog) (heap_alloc_new wr (.cells (pkC (zeroH,[])).toArray 63)) (vs:=pkC (X,[3,0])) (by rw [List.size_toArray,pkC_len,pkC_len]) (pkC_one _);obtain ⟨Hb,hHb⟩:∃Hb,Hb=wr.heap.size:=⟨_,rfl⟩;have uz:Upd noBlk wr Y:=((Upd.refl noBlk wr).alloc _).then hz2 (fun i hi e=>by omega);have UY:=Lib.hid uz;have RY:Hid (Y.rangeAt Hb 0 (pkC (X,[3,0]))):=by show World.rangeAt _ _ _ _;rw [hHb];exact range_row hz1
     have RYH:=Lib.hid (pk_hash RY.out);have hmY:=Q3.out.keep uz;have hlk:(Instr.lookup 68 (.map (some MS)) (.agg (hashC X).toArray) false).run Tryz.prog Y=.ok (.bool ((fz X).getD false)) Y:=hmY.lookR (a:=X) trivial;rw [HFZ.out] at hlk;simp only [Option.getD_none] at hlk;obtain ⟨V,hup,hv1,hv2⟩:=hmY.put (by have:=Q4.out;unfold maxLen;omega) (a:=X) trivial (v:=true) trivial;have hup':(Instr.mapUpdate 68 (.map (some MS)) (.agg (hashC X).toArray) (.bool true)).run Tryz.prog Y=.ok () V:=hup;have UV:=Lib.hid hv2;have MV:=Lib.hid hv1;have hYM:∀{j:Nat} {cs:Array Value} {T:TypeId},Y.heap[j]?=some (.cells cs T (0,0))→¬j=MS:=fun hj e=>by
      obtain ⟨es,c,hc⟩:=hmY.blk;rw [e,hc] at hj;cases hj
     have PY:=uz.heap Q1.out id;have PV5:=Lib.hid (hv2.heap PY (hYM PY));have CV:=Lib.hid (pub_row (range_row PV5.out));have CS:Hid (V.cell? ⟨Hb,32,none⟩=some (.string (bs [3,0]))):=by
      have h9:=pk_str RY.out;rw [Nat.zero_add] at h9;exact hv2.cell h9 (fun e=>by
       have e2:Hb=MS:=e;rw [e2] at h9;obtain ⟨es,c,hc⟩:=hmY.blk;simp [World.cell?,hc] at h9)
     have hsz4:w4.heap.size≤V.heap.size:=by
      have a1:=U45.out.size;have a2:=Q6.out.size;have a3:=UY.out.size;have a4:=UV.out.size;omega
     obtain ⟨g,c',w7,r7,o7,u7,_⟩:=(Kd.Own.nil kStr w4.heap.size V).app1 hsz4 [3,0] (by simp);have HR7:Hid ((Builtin.append_ #[54,54] 54 #[.slice none 0 0,.slice (some ⟨V.heap.size,0,none⟩) 1 1]).run Tryz.prog (V.alloc (.cells #[.string (bs [3,0])] 9))=.ok (.slice (some ⟨g,0,none⟩) 1 c') w7):=r7;have O7:Hid (kStr.Own w4.heap.size w7 (.slice (some ⟨g,0,none⟩) 1 c') [[3,0]]):=o7;have U7:Hid (Upd noBlk V w7):=u7.mono (fun _ _ h=>by cases h);have HMS3:=Lib.hid hms;have P7:=Lib.hid (U7.out.heap PV5.out id);obtain ⟨cp7,fp7⟩:w7.cell? ⟨NP,0,none⟩=some (.slice none 0 0)∧w7.frozen? ⟨NP,0,none⟩=false:=by
      refine ⟨pub_row (range_row P7.out),by simp [World.frozen?,P7.out]⟩
     clear hat hown hfz0 hz1 hz2 uz hup hv1 hv2 hYM PY hmY HMO r7 o7 u7 hms hsz4;have cv2:=CV.out;have cs2:=CS.out;go_upto_region 19 with (first | (refine wpList_load_mid rfl _ _ rfl b (off+0*33) rfl (pkC (X,[3,0])) _ HR.out Tryz.underlying63 rfl HI.out ?_))
     rw [←hHb];clear hHb hst hzp;go_wp2_with (first
      | (refine wpList_load_mid rfl _ _ rfl Hb 0 rfl (hashC X) _ RYH.out Tryz.underlying36 rfl HIX.out ?_)
      | (at_builtin;refine wpList_append_run rfl _ _ _ rfl rfl rfl HR7.out ?_))
     have hs8:=(Upd.refl (fun j=>j=NP) w7).setCell (p:=⟨NP,0,none⟩) (fun _=>rfl) (.slice (some ⟨g,0,none⟩) 1 c');have hNM:¬MS=NP:=fun e=>by have h9:=HSM5.out;omega
     refine ⟨⟨0+1,m'+1,.slice (some ⟨g,0,none⟩) 1 c',_,by simp,hlt,?_,?_,((MV.out.keep U7.out).other hs8 hNM),by have:=Q4.out;omega,(fun e=>by omega),?_⟩,by simp [intOf];omega⟩
     ·refine (heap_setCell_eq (i:=0) _ P7.out).trans ?_;simp [pubC]
     ·rw [HMS3.out];refine O7.out.other hs8 (fun g' hg' e=>?_);obtain ⟨_,cur,hc⟩:=O7.out.blk hg';rw [e,P7.out] at hc;have h9:(Obj.cells (pubC (.slice none 0 0) X).toArray 56 (0,0))=.cells cur kStr.T (0,0):=Option.some.inj hc;injection h9 with _ h10 _
      exact absurd h10 (by decide)
     ·exact (((Q6.out.trans (UY.out.mono (fun _ _ h=>h.elim))).trans (UV.out.mono (fun _ _ h=>.inr h))).trans (U7.out.mono (fun _ _ h=>h.elim))).trans (hs8.mono (fun _ _ h=>.inl h))
    ·obtain rfl:k=ms.length:=by omega
     have U4r:Hid (Upd noBlk w4 wr):=U45.out.then Q6.out (fun i hi e=>by have h9:=HSM5.out;rcases e with e | e<;>omega)
     have STr:=Lib.hid (ST4.out.keep U4r.out);have UWr:=Lib.hid (UW4.out.trans U4r.out);obtain ⟨P,hP⟩:∃P,P=ms.map (·.2):=⟨_,rfl⟩;have hPl:P.length=ms.length:=by rw [hP,List.length_map]
     have hQ2:=Q2.out;rw [←hP,←hPl,List.take_length] at hQ2;have HQ2:=Lib.hid hQ2;have HPO:Hid ((os=[]∧P=[[3,0]])∨(os=[(X,[3,0])]∧P=[])):=by
      rcases HMS.out with ⟨e1,e2⟩ | ⟨e1,e2⟩
      ·exact .inl ⟨e1,by rw [hP,e2];rfl⟩
      ·exact .inr ⟨e1,by rw [hP,e2];rfl⟩
     obtain ⟨Ap,cp,rfl,_⟩:=hQ2.form;have RP:=Lib.hid (range_row Q1.out);have HIP:=Lib.hid (size_pub X (.slice Ap P.length cp));have hplp:=pubC_len (.slice Ap P.length cp) X;have HBA:=Lib.hid (body_any _ P X (by rcases HPO.out with ⟨_,e⟩ | ⟨_,e⟩<;>rw [e]<;>decide) (fun s hs=>by rcases HPO.out with ⟨_,e⟩ | ⟨_,e⟩<;>rw [e] at hs<;>simp at hs;rw [hs];decide) (fun k hk=>by rcases HPO.out with ⟨_,e⟩ | ⟨_,e⟩<;>rw [e] at hk ⊢<;>simp [bodyP]<;>rcases k with _ | k<;>simp) wr hQ2.rd)
     have hbl:(bodyB P X).length<128∧0<(bodyB P X).length:=by rcases HPO.out with ⟨_,e⟩ | ⟨_,e⟩<;>rw [e]<;>simp [bodyB,bodyP,X.2]
     have HBL:=Lib.hid hbl;clear hP hPl hQ2 hbl HMO Z5 M5 ST4 UW4 Q2;go_wp2_with (first | (refine wpList_load_mid rfl _ _ rfl NP 0 rfl (pubC (.slice Ap P.length cp) X) _ RP.out Tryz.underlying56 rfl HIP.out ?_))
     refine HBA.out.mono ?_;rintro e w9 ⟨bv,rfl,ob,u9⟩;have ST9:=Lib.hid (STr.out.keep u9);have U9:=Lib.hid (UWr.out.trans u9);have N9:=Lib.hid (u9.heap Q1.out id);have P9:=Lib.hid (HQ2.out.upd u9);obtain ⟨ov9,rv9,hs9,hd9,hbs9,hw9⟩:=ST9.out.wrote;have HWR:=Lib.hid (write_any (bodyB P X) HBL.out.1 HBL.out.2 (by have:=HB.out;omega) (by have:=HB.out;omega) (by have:=HB.out;omega) w9 hs9 hd9 ob hbs9);have HW9:=Lib.hid hw9;obtain ⟨Ab,cb,rfl,_⟩:=ob.form;clear ob u9 hs9 hd9 hw9 HBA STr UWr;go_wp2_with fail
     refine HWR.out.mono ?_;rintro e w10 ⟨rfl,hs10,hd10,u10⟩;have ST10:=Lib.hid (HW9.out w10 _ _ _ u10 hs10 hd10 (by omega));have N10:=Lib.hid (u10.keep N9.out (wQ_cells (by decide)));have P10:=Lib.hid ((P9.out.mono (Nat.zero_le _)).keepO u10 (fun _ cs=>wQ_cells (show kStr.T≠_∧kStr.T≠_∧kStr.T≠_∧kStr.T≠_ by decide)));have U10:Hid (UpdO (pQ B) w w10):=(UpdO.same U9.out).trans (u10.mono (fun _ _ h=>.inl h));have RP10:=Lib.hid (range_row N10.out);have HAD:=Lib.hid (add_any P _ X (by rcases HPO.out with ⟨_,e⟩ | ⟨_,e⟩<;>rw [e]<;>simp) (by rcases HPO.out with ⟨e,_⟩ | ⟨_,e⟩;exact .inr e;exact .inl e) (fun s hs=>by rcases HPO.out with ⟨_,e⟩ | ⟨_,e⟩<;>rw [e] at hs<;>simp at hs;rw [hs];simp) (by have:=HB.out;omega) (by rcases HOS.out with e | e<;>rw [e]<;>simp) (by have:=HB.out;omega) w10 ST10.out P10.out)
     clear hs10 hd10 u10 HWR HW9 ST9 U9 N9 P9;go_wp2_with (first | (refine wpList_load_mid rfl _ _ rfl NP 0 rfl (pubC (.slice Ap P.length cp) X) _ RP10.out Tryz.underlying56 rfl HIP.out ?_))
     refine HAD.out.mono ?_;rintro e w11 ⟨rfl,hst11,u11⟩;have ST11:=Lib.hid hst11;have U11:Hid (UpdO (pQ B) w w11):=U10.out.trans (u11.mono (fun _ _ h=>.inr h));clear hst11 u11 HAD;go_wp2_with fail
     go_ret
     refine ⟨rfl,⟨P,?_,ST11.out.mono (by omega)⟩,U11.out⟩;rcases HPO.out with ⟨e1,e2⟩ | ⟨e1,e2⟩
     ·unfold newP;rw [e1,if_pos rfl,e2]
     ·unfold newP;rw [e1,if_neg (by simp),e2]
end Go.Proofs.YtmgklblglpplcaaGreatDoor
