/- Parts: Walks of the law: no publication. No condition. Walks of the law: the sanity check. No condition. -/
import Derived.Test.YtmgklblglpplcaaGreatDoorRPubl1
import Derived.Test.YtmgklblglpplcaaGreatDoorRPubl2
import Derived.Test.YtmgklblglpplcaaGreatDoorRPubl3
import Derived.Test.YtmgklblglpplcaaGreatDoorRPubl4
import Derived.Test.YtmgklblglpplcaaGreatDoorRPubl5
import Derived.Test.YtmgklblglpplcaaGreatDoorRPubl6
import Derived.Test.YtmgklblglpplcaaGreatDoorRPubl9
import Derived.Test.YtmgklblglpplcaaGreatDoorRPubl10
import Derived.Test.YtmgklblglpplcaaGreatDoorRPubl11
import Derived.Test.YtmgklblglpplcaaGreatDoorRPubl12
import Derived.Test.YtmgklblglpplcaaGreatDoorRPubl14
import Derived.Test.YtmgklblglpplcaaGreatDoorRPubl16
import Derived.Test.YtmgklblglpplcaaGreatDoorRPubl19
import Derived.Test.YtmgklblglpplcaaGreatDoorRPubl20
import Derived.Test.YtmgklblglpplcaaGreatDoorRPubl21
import Derived.Test.YtmgklblglpplcaaGreatDoorRPubl22
import Derived.Test.YtmgklblglpplcaaGreatDoorRPubl23
import Derived.Test.YtmgklblglpplcaaGreatDoorRPubl25
import Derived.Test.YtmgklblglpplcaaGreatDoorRPubl26
import Derived.Test.YtmgklblglpplcaaGreatDoorRPubl27
import Derived.Test.YtmgklblglpplcaaGreatDoorRPubl33
import Derived.Test.YtmgklblglpplcaaGreatDoorRPubl34
import Derived.Test.YtmgklblglpplcaaGreatDoorRPubl35
import Derived.Test.YtmgklblglpplcaaGreatDoorRPubl37
import Derived.Test.YtmgklblglpplcaaGreatDoorRPubl39
import Derived.Test.YtmgklblglpplcaaGreatDoorRPubl40
import Derived.Test.YtmgklblglpplcaaGreatDoorRPubl41
import Derived.Test.YtmgklblglpplcaaGreatDoorRPubl42
import Derived.Test.YtmgklblglpplcaaGreatDoorRPubl43
import Derived.Test.YtmgklblglpplcaaGreatDoorRPubl44
import Derived.Test.YtmgklblglpplcaaGreatDoorRPubl45
import Derived.WalkKit
import Derived.WalkSpells
import Derived.WalkLawsBesides
import Derived.Lib.Hide
import Derived.BigQuiet
import Derived.Deep.DeepFit
import Derived.Deep.DeepCutAuto
import Derived.Deep.AppendLies
import Derived.Deep.QuietTactic
import Derived.Test.YtmgklblglpplcaaGreatDoorRows
import Derived.Deep.RegionHeld3
import Derived.StillTail
import Derived.Lib.AppendStr
import Derived.Lib.AppendZeros
import Derived.Deep.MidRow
import Derived.ArgAppend
import Derived.Deep.Upon
import Derived.Maps.OwnOps
import Derived.Maps.OwnSet
import Derived.Maps.RangeWalk
import Derived.WideKeyEntry
import Derived.Lib.Bits
import Derived.Laws.EntriesVeiled
import Derived.Handy
import Derived.DeepKeys4
import Derived.Deep.CutBlock
import Derived.Test.YtmgklblglpplcaaGreatDoorShelf2
import Derived.Laws.BitsAllLaws
import Derived.Laws.BytesArg
import Derived.Test.YtmgklblglpplcaaGreatDoorShelf
import Derived.Lib.Zigzag
import Derived.Recover
import Derived.Deep.WholeRow
import Derived.Laws.IdiomStrings
import Derived.Laws.MakeOwn
import Derived.Laws.CopyOwn
import Derived.IntWalk
import Derived.RangeFuncNested
import Derived.RangeFuncBound
import Derived.RangeFuncCalls
import Derived.RangeFuncLeaves
import Derived.RangeFuncFrom
import Derived.LoopIn
import Derived.LoopNIn
import Derived.OwnWalkIn
import Derived.TacticsInMore
import Derived.Stop.BytesEq
import Derived.Defers
import Derived.Lib.SliceRun
import Derived.WalkMore
import Derived.RegionIn
import Derived.Deep.AppendSrc
namespace Go.Proofs.YtmgklblglpplcaaGreatDoor
open Go Go.RowKit Pk
set_option maxRecDepth 100000
theorem pQ_cells {B k:Nat} {cs:Array Value} {T:TypeId} {fr:Nat × Nat} (h:T≠5∧T≠144∧T≠60∧T≠33) (h2:T≠36):¬pQ B k (.cells cs T fr):=fun e=>by
 rcases e with e | e
 ·exact wQ_cells h e
 ·exact aQ_not h.2.2.2 h2 e
theorem frame1_len (X:H32):(frameB (bodyB [[3,0]] X)).length=37:=by
 rw [body_one];unfold frameB;rw [List.length_cons,List.length_append,X.2];rfl
theorem StoreAt.first {B S D M:Nat} {w:World} {X:H32} (hX:shaH [3,0]=X) (h:StoreAt B S D M w (0+1+(frameB (bodyB [[3,0]] X)).length) (osK [] [[3,0]] ([[3,0]]:List Bytes).length) ([]++[X]) (putB (putB [] (0+1) (frameB (bodyB [[3,0]] X)++[0])) 0 [1]) (0+1+300)) :
  StoreAt B S D M w 38 [(X,[3,0])] [X] ([1,36,1,2,3,0]++X.1++[0]) 301:=by
 rw [frame1_len] at h;have e1:osK [] [[3,0]] ([[3,0]]:List Bytes).length=[(X,[3,0])]:=by unfold osK;simp [hX]
 have e2:=content1 X;rw [e1] at h;simp only [Nat.zero_add,List.nil_append] at h;rw [e2] at h;exact h
theorem str1 (X:H32):({ data:=#[1,36,1,2,3,0] }:ByteArray)++bs X.1++{ data:=#[0] }=bs ([1,36,1,2,3,0]++X.1++[0]):=by
 have e1:({ data:=#[1,36,1,2,3,0] }:ByteArray)=bs [1,36,1,2,3,0]:=rfl;have e2:({ data:=#[0] }:ByteArray)=bs [0]:=rfl;rw [e1,e2,bs_append,bs_append]
set_option maxHeartbeats 16000000 in
theorem sanity21_any (w:World):Calls Tryz.prog 4 #[] w fun e w'=>e=.returned (.bool true)∧Upd noBlk w w':=by
 obtain ⟨X,hX⟩:∃X,shaH [3,0]=X:=⟨_,rfl⟩;have HX:=Lib.hid hX;clear hX;have hcl:=hashC_len X;have hcz:=hashC_len zeroH;have HI:=Lib.hid (size_h X);have HIZ:=Lib.hid (size_h zeroH);have hzh:=zero_hash;go_enter Tryz.func4,Tryz.ntmps4
 go_wp2_with fail
 refine (dnew_any w).mono ?_;rintro e w1 ⟨rfl,hw1⟩;obtain ⟨D,hD⟩:∃D,D=w.heap.size:=⟨_,rfl⟩;have D1:Hid (DiskAt w.heap.size D w1 [] 0):=by
  show DiskAt _ _ _ _ _;rw [hw1,hD];exact ⟨_,_,_,0,0,[],heap_alloc_new w _,OwB.nil _ _,Kd.Own.nil _ _ _,by omega,by omega,by simp,Nat.le_refl _⟩
 have U1:Hid (Upd noBlk w w1):=by show Upd _ _ _;rw [hw1];exact (Upd.refl _ w).alloc _
 rw [←hD];have HDD:=Lib.hid hD;clear hw1 hD;go_wp2_with fail
 refine (open_good (by omega) w1 D1.out).mono ?_;rintro e w2 ⟨S,M,rfl,st2,u2⟩;have ST2:=Lib.hid st2;have U2:Hid (UpdO (pQ w.heap.size) w w2):=(UpdO.same U1.out).trans (u2.mono (fun _ _ h=>.inl (dQ_wQ _ _ h)));clear st2 u2 U1 D1;go_wp2_with fail
 refine (small_any X HX.out w2).mono ?_;rintro e w3 ⟨g,rfl,ho3,u3⟩;have O3:=Lib.hid (ho3.mono (Nat.zero_le _));have ST3:=Lib.hid (ST2.out.keep u3);have hzv:∀W,(zeroValue 45).run Tryz.prog W=.ok (.agg (verC zeroH (.slice none 0 0)).toArray) W:=fun W=>by kernel_rfl
 have hvz:=verC_len zeroH (.slice none 0 0);have hvx:=verC_len X (.slice (some ⟨g,0,none⟩) 1 1);obtain ⟨w4,hst,hz1,hz2⟩:=store_row (P:=Tryz.prog) (heap_alloc_new w3 (.cells (verC zeroH (.slice none 0 0)).toArray 45)) (vs:=verC X (.slice (some ⟨g,0,none⟩) 1 1)) (by rw [List.size_toArray,verC_len,verC_len]) (fun v hv=>by
  rcases List.mem_append.1 hv with e | e
  ·exact byV_one _ v e
  ·rw [List.mem_singleton.1 e];rfl)
 obtain ⟨N4,hN4⟩:∃N4,N4=w3.heap.size:=⟨_,rfl⟩;have u4:Upd noBlk w3 w4:=((Upd.refl noBlk w3).alloc _).then hz2 (fun i hi e=>by omega);rw [←hN4] at hz1;have B4:=Lib.hid hz1;have ST4:=Lib.hid (ST3.out.keep u4);have U4:Hid (UpdO (pQ w.heap.size) w w4):=(U2.out.trans (UpdO.same u3)).trans (UpdO.same u4);have O4:=Lib.hid (O3.out.upd u4);clear hz1 hz2 u3 u4 ho3 ST2 ST3 O3 U2;go_upto_region 6 with fail
 rw [←hN4];clear hN4 hst hzv hvz;obtain ⟨ov,rv,m,f,s1,_,_,s4,_⟩:=ST4.out;obtain ⟨Ar,cr,e4,hcr⟩:=s4.form;have e5:rv=.slice Ar 0 cr:=e4;subst e5;obtain ⟨_,_,_,_,k4,_⟩:=str_cells s1;have HRN:=Lib.hid (root_none w4 k4);clear s1 s4 e4 hcr k4;go_wp2_with fail
 refine HRN.out.mono ?_;rintro e w5 ⟨rfl,u5⟩;obtain ⟨w6,hst,hz1,hz2⟩:=store_row (P:=Tryz.prog) (heap_alloc_new w5 (.cells (hashC zeroH).toArray 36)) (vs:=hashC zeroH) (by rw [List.size_toArray]) (byV_one zeroH.1);obtain ⟨N6,hN6⟩:∃N6,N6=w5.heap.size:=⟨_,rfl⟩;have u6:Upd noBlk w5 w6:=((Upd.refl noBlk w5).alloc _).then hz2 (fun i hi e=>by omega);have u46:=u5.trans u6;have ST6:=Lib.hid (ST4.out.keep u46);have O6:=Lib.hid (O4.out.upd u46);have B6:=Lib.hid (u46.heap B4.out id);have U6:Hid (UpdO (pQ w.heap.size) w w6):=U4.out.trans (UpdO.same u46);have RV6:=Lib.hid (range_row B6.out);have HIV:=Lib.hid (size_ver X (.slice (some ⟨g,0,none⟩) 1 1));clear hz1 hz2 u5 u6 u46 ST4 O4 B4 U4 HRN;go_upto_region 7 with fail
 rw [←hN6];clear hN6 hst;have HPU:=Lib.hid (publish_any X HX.out (.inl rfl) (by omega) (by omega) (by simp) (by simp) _ w6 ST6.out (O6.out.mono (Nat.zero_le _)));go_wp2_with (first | (refine wpList_load_mid rfl _ _ rfl N4 0 rfl (verC X (.slice (some ⟨g,0,none⟩) 1 1)) _ RV6.out Tryz.underlying45 rfl HIV.out ?_))
 refine HPU.out.mono ?_;rintro e w7 ⟨rfl,⟨P7,hP7,st7⟩,u7⟩;rw [newP_nil] at hP7;subst hP7;have ST7:=Lib.hid (st7.first HX.out);have B7:=Lib.hid (u7.keep B6.out (pQ_cells (by decide) (by decide)));have O7:=Lib.hid (O6.out.keepO u7 (fun _ cs=>pQ_pk cs));have U7:Hid (UpdO (pQ w.heap.size) w w7):=U6.out.trans u7;clear st7 u7 ST6 O6 B6 U6 RV6 HPU;have HRS:=Lib.hid (root_some (rs:=[]) X (by simp) w7 ST7.out);go_wp2_with fail
 refine HRS.out.mono ?_;rintro e w8 ⟨rfl,u8⟩;obtain ⟨w9,hst,hz1,hz2⟩:=store_row (P:=Tryz.prog) (heap_alloc_new w8 (.cells (hashC zeroH).toArray 36)) (vs:=hashC X) (by rw [List.size_toArray,hashC_len,hashC_len]) (byV_one X.1);obtain ⟨N9,hN9⟩:∃N9,N9=w8.heap.size:=⟨_,rfl⟩;have u9:Upd noBlk w8 w9:=((Upd.refl noBlk w8).alloc _).then hz2 (fun i hi e=>by omega);have u79:=u8.trans u9;rw [←hN9] at hz1;have ST9:=Lib.hid (ST7.out.keep u79);have O9:=Lib.hid (O7.out.upd u79);have B9:=Lib.hid (u79.heap B7.out id);have R9:=Lib.hid hz1;have U9:Hid (UpdO (pQ w.heap.size) w w9):=U7.out.trans (UpdO.same u79);have RVH9:=Lib.hid (ver_hash (range_row B9.out));clear hz1 hz2 u8 u9 u79 ST7 O7 B7 U7 HRS;go_upto_region 9 with fail
 rw [←hN9];clear hN9 hst;obtain ⟨w10,hst,hz1,hz2⟩:=store_row (P:=Tryz.prog) (heap_alloc_new w9 (.cells (hashC zeroH).toArray 36)) (vs:=hashC X) (by rw [List.size_toArray,hashC_len,hashC_len]) (byV_one X.1);obtain ⟨N10,hN10⟩:∃N10,N10=w9.heap.size:=⟨_,rfl⟩;have u10:Upd noBlk w9 w10:=((Upd.refl noBlk w9).alloc _).then hz2 (fun i hi e=>by omega);rw [←hN10] at hz1;have ST10:=Lib.hid (ST9.out.keep u10);have O10:=Lib.hid (O9.out.upd u10);have B10:=Lib.hid (u10.heap B9.out id);have R10:=Lib.hid hz1;have Q10:=Lib.hid (u10.heap R9.out id);have U10:Hid (UpdO (pQ w.heap.size) w w10):=U9.out.trans (UpdO.same u10);clear hz1 hz2 u10 ST9 O9 B9 U9 R9;go_upto_region 10 with (first | (refine wpList_load_mid rfl _ _ rfl N4 0 rfl (hashC X) _ RVH9.out Tryz.underlying36 rfl HI.out ?_))
 rw [←hN10];clear hN10 hst;have hcv:=conv32 X (range_row R10.out);have hbx:(bs X.1).size=32:=by rw [bs_size];exact X.2
 go_upto_region 11 with fail
 rw [str1];clear hcv hbx;obtain ⟨L,hL⟩:∃L,L=[1,36,1,2,3,0]++X.1++[0]:=⟨_,rfl⟩;have hLl:L.length=39:=by rw [hL,List.length_append,List.length_append,X.2];rfl
 rw [←hL] at ST10 ⊢;obtain ⟨_,_,_,_,_,_,_,_,_,_,_,d10,_⟩:=ST10.out;have HMY:Hid (Calls Tryz.prog 11 #[.pointer (some ⟨S,0,none⟩)] w10 fun e w'=>e=.returned (.int .i64 1)∧w'=w10):=many_any w10 ST10.out;have hds:=dsize_any w10 d10;have hdr:=dread_any (by omega) w10 d10;rw [hLl] at hds hdr;have HDS:Hid (Calls Tryz.prog 15 #[.pointer (some ⟨D,0,none⟩)] w10 fun e w'=>e=.returned (.int .i64 39)∧w'=w10):=hds;have HDR:Hid (Calls Tryz.prog 14 #[.pointer (some ⟨D,0,none⟩),.int .i64 0,.int .i64 39] w10 fun e w'=>e=.returned (.string (bs L))∧Upd noBlk w10 w'):=hdr;clear d10 hL hds hdr;have eq2:(Op.equalIn 10000 36 (.agg (hashC X).toArray) (.agg (hashC X).toArray)).run Tryz.prog w10=.ok true w10:=by rw [eq_hash];simp
 go_wp2_with (first
  | (refine wpList_valG (.agg (hashC X).toArray) (by go_simp) (exec_load_row 36 (.tmp 8) rfl N9 0 (by go_simp) (hashC X) _ (range_row Q10.out) Tryz.underlying36 rfl HI.out) ?_)
  | (refine wpList_valG (.agg (hashC X).toArray) (by go_simp) (exec_load_row 36 (.tmp 59) rfl N4 0 (by go_simp) (hashC X) _ (ver_hash (range_row B10.out)) Tryz.underlying36 rfl HI.out) ?_))
 refine HMY.out.mono ?_;rintro e w11 ⟨rfl,rfl⟩;go_wp2_with fail
 refine HDS.out.mono ?_;rintro e w12 ⟨rfl,rfl⟩;go_wp2_with fail
 refine HDR.out.mono ?_;rintro e w13 ⟨rfl,u13⟩;have ST13:=Lib.hid (ST10.out.keep u13);have O13:=Lib.hid (O10.out.upd u13);have B13:=Lib.hid (u13.heap B10.out id);have U13:Hid (UpdO (pQ w.heap.size) w w13):=U10.out.trans (UpdO.same u13);have RV13:=Lib.hid (range_row B13.out);have HPU:=Lib.hid (publish_any X HX.out (.inr rfl) (by omega) (by omega) (by omega) (by simp) _ w13 ST13.out (O13.out.mono (Nat.zero_le _)));clear u13 ST10 O10 B10 U10 R10 Q10 HMY HDS HDR;clear hLl eq2 hcz hzh;go_upto_region 12 with fail
 go_wp2_with (first | (refine wpList_load_mid rfl _ _ rfl N4 0 rfl (verC X (.slice (some ⟨g,0,none⟩) 1 1)) _ RV13.out Tryz.underlying45 rfl HIV.out ?_))
 refine HPU.out.mono ?_;rintro e w14 ⟨rfl,⟨P,hP,st14⟩,u14⟩;rw [newP_cons] at hP;subst hP;have ost:osK [(X,([3,0]:Bytes))] [] ([]:List Bytes).length=[(X,[3,0])]:=by unfold osK;simp
 rw [ost] at st14;obtain ⟨en,l,n,st⟩:∃en l n,StoreAt w.heap.size S D M w14 en [(X,[3,0])] [X,X] l n:=⟨_,_,_,st14⟩;have ST14:=Lib.hid st;have B14:=Lib.hid (u14.keep B13.out (pQ_cells (by decide) (by decide)));have U14:Hid (UpdO (pQ w.heap.size) w w14):=U13.out.trans u14;have RVH:=Lib.hid (ver_hash (range_row B14.out));have HGT:=Lib.hid (get_any2 X [3,0] w14 ST14.out (by unfold srcF;simp));clear st st14 u14 ost ST13 O13 B13 U13 RV13 HPU;go_wp2_with (first | (refine wpList_load_mid rfl _ _ rfl N4 0 rfl (hashC X) _ RVH.out Tryz.underlying36 rfl HI.out ?_))
 refine HGT.out.mono ?_;rintro e w15 ⟨rfl,u15⟩;have ST15:=Lib.hid (ST14.out.keep u15);have U15:Hid (UpdO (pQ w.heap.size) w w15):=U14.out.trans (UpdO.same u15);have HMY:Hid (Calls Tryz.prog 11 #[.pointer (some ⟨S,0,none⟩)] w15 fun e w'=>e=.returned (.int .i64 1)∧w'=w15):=many_any w15 ST15.out;have HRO:Hid (Calls Tryz.prog 10 #[.pointer (some ⟨S,0,none⟩)] w15 fun e w'=>(∃A cap,e=.returned (.slice A 2 cap))∧Upd noBlk w15 w'):=roots_any (rs:=[X,X]) (by simp) (by simp) w15 ST15.out;clear u15 ST14 B14 U14 RVH HGT;go_upto_region 14 with fail
 go_wp2_with fail
 refine HMY.out.mono ?_;rintro e w16 ⟨rfl,rfl⟩;go_wp2_with fail
 refine HRO.out.mono ?_;rintro e w17 ⟨⟨A17,c17,rfl⟩,u17⟩;have U17:Hid (UpdO (pQ w.heap.size) w w17):=U15.out.trans (UpdO.same u17);clear u17 HRO HMY ST15 U15;go_wp2_with fail
 go_ret
 refine ⟨?_,U17.out.below (fun k o h=>pQ_below h)⟩;have e9:((bs [3,0]).toList == [3,0])=true:=by rw [show (bs [3,0]).toList=[3,0] by simp [bs_toList]];rfl
 exact congrArg (fun b=>Ending.returned (.bool b)) e9
end Go.Proofs.YtmgklblglpplcaaGreatDoor
namespace Go.Proofs.YtmgklblglpplcaaGreatDoor
open Go Go.RowKit Pk
set_option maxRecDepth 100000
set_option maxHeartbeats 16000000 in
theorem lawPublishNone_c (h:H32) (w:World):Calls Tryz.prog 3 #[.agg (hashC h).toArray] w fun en w'=>en=.returned (.bool true)∧Upd noBlk w w':=by
 obtain ⟨X,hX⟩:∃X,shaH [3,0]=X:=⟨_,rfl⟩;have HX:=Lib.hid hX;clear hX;have hcl:=hashC_len h;have hcz:=hashC_len zeroH;have HI:=Lib.hid (size_h h);have hzh:=zero_hash;obtain ⟨NB,hNB⟩:∃NB,NB=w.heap.size:=⟨_,rfl⟩;obtain ⟨w1,hw1⟩:∃w1,w1=w.alloc (.cells (hashC h).toArray 22):=⟨_,rfl⟩;have U1:Hid (Upd noBlk w w1):=by show Upd _ _ _;rw [hw1];exact (Upd.refl _ w).alloc _
 have hb:w1.heap[NB]?=some (.cells (hashC h).toArray 22 (0,0)):=by rw [hw1,hNB];exact heap_alloc_new w _
 have B1:=Lib.hid hb;have HNB:=Lib.hid hNB;clear hb;go_enter Tryz.func3,Tryz.ntmps3
 go_upto_region 1 with fail
 rw [←hw1,←hNB];clear hw1 hNB;go_wp2_with fail
 refine (sanity21_any w1).mono ?_;rintro e w2 ⟨rfl,u2⟩;have B2:=Lib.hid (u2.heap B1.out id);have U2:=Lib.hid (U1.out.trans u2);clear u2 U1 B1;go_wp2_with fail
 refine (open_bad (.pointer none) 1 (by decide) w2 ⟨_,rfl⟩ (fun W _=>dsync_nil W)).mono ?_;rintro e w3 ⟨rfl,u3⟩;have B3:=Lib.hid (u3.heap B2.out id);have U3:=Lib.hid (U2.out.trans u3);clear u3 U2 B2;have hz:∀W,(zeroValue 33).run Tryz.prog W=.ok (.agg #[.pointer none,.int .i64 0,.map none,.slice none 0 0,.slice none 0 0,.bool false]) W:=fun W=>by kernel_rfl
 obtain ⟨SZ,hSZ⟩:∃SZ,SZ=w3.heap.size:=⟨_,rfl⟩;obtain ⟨w4,hw4⟩:∃w4,w4=w3.alloc strZ:=⟨_,rfl⟩;have u4:Upd noBlk w3 w4:=by rw [hw4];exact (Upd.refl _ w3).alloc _
 have U4:=Lib.hid (U3.out.trans u4);have B4:=Lib.hid (u4.heap B3.out id);have Z4:Hid (w4.heap[SZ]?=some strZ):=by show _=_;rw [hw4,hSZ];exact heap_alloc_new w3 _
 clear u4 U3 B3;go_upto_region 5 with fail
 unfold strZ at hw4;rw [←hw4,←hSZ];have HSZ:=Lib.hid hSZ;clear hw4 hSZ hz;go_wp2_with fail
 refine (dnew_any w4).mono ?_;rintro e w5 ⟨rfl,hw5⟩;obtain ⟨D,hD⟩:∃D,D=w4.heap.size:=⟨_,rfl⟩;have d5:w5.heap[D]?=some (dskB (.slice none 0 0) (.slice none 0 0) (.slice none 0 0) 0 0 0):=by rw [hw5,hD];exact heap_alloc_new w4 _
 have u5:Upd noBlk w4 w5:=by rw [hw5];exact (Upd.refl _ w4).alloc _
 have U5:=Lib.hid (U4.out.trans u5);have B5:=Lib.hid (u5.heap B4.out id);have Z5:=Lib.hid (u5.heap Z4.out id);have D5:=Lib.hid d5;rw [←hD];have HD:Hid (NB<D∧SZ<D):=by
  have h1:=lt_of_heap B4.out;have h2:=lt_of_heap Z4.out;show _∧_;omega
 have HDW:Hid (w.heap.size≤D):=by have:=U4.out.size;show _≤_;omega
 clear hw5 hD d5 u5 U4 B4 Z4;go_wp2_with fail
 refine (dfail_any w5 D5.out).mono ?_;rintro e w6 ⟨rfl,d6,u6⟩;have B6:=Lib.hid (u6.heap B5.out (by have:=HD.out;omega));have Z6:=Lib.hid (u6.heap Z5.out (by have:=HD.out;omega));have U6:Hid (Upd noBlk w w6):=U5.out.then u6 (fun i hi e=>by have:=HDW.out;omega);have D6:=Lib.hid d6;clear d6 u6 U5 B5 Z5 D5;go_wp2_with fail
 refine (open_bad (.pointer (some ⟨D,0,none⟩)) 50 (by decide) w6 ⟨_,rfl⟩ (fun W hW=>dsync_off W (hW.heap D6.out id))).mono ?_;rintro e w7 ⟨rfl,u7⟩;have B7:=Lib.hid (u7.heap B6.out id);have Z7:=Lib.hid (u7.heap Z6.out id);have U7:=Lib.hid (U6.out.trans u7);clear u7 U6 B6 Z6 D6;go_wp2_with fail
 refine (root_nil2 w7).mono ?_;rintro e w8 ⟨rfl,u8⟩;obtain ⟨w9,hst,hz1,hz2⟩:=store_row (P:=Tryz.prog) (heap_alloc_new w8 (.cells (hashC zeroH).toArray 36)) (vs:=hashC zeroH) (by rw [List.size_toArray]) (byV_one zeroH.1);have u9:Upd noBlk w8 w9:=((Upd.refl noBlk w8).alloc _).then hz2 (fun i hi e=>by omega);have u79:=u8.trans u9;have B9:=Lib.hid (u79.heap B7.out id);have Z9:=Lib.hid (u79.heap Z7.out id);have U9:=Lib.hid (U7.out.trans u79);obtain ⟨N9,hN9⟩:∃N9,N9=w8.heap.size:=⟨_,rfl⟩;clear hz1 hz2 u8 u9 u79 U7 B7 Z7;go_upto_region 9 with fail
 rw [←hN9];clear hN9 hst;have h22:(Tryz.prog.info? 22).map (·.size)=some (hashC h).length:=by rw [hashC_len];kernel_rfl
 have HI22:=Lib.hid h22;have hu22:Tryz.prog.underlying 22=some (.array 32 5):=by kernel_rfl
 have HU22:=Lib.hid hu22;clear h22 hu22;have R9:=Lib.hid (range_row B9.out);have HG:=Lib.hid (get_nil h w9);go_wp2_with (first | (refine wpList_load_mid rfl _ _ rfl NB 0 rfl (hashC h) _ R9.out HU22.out rfl HI22.out ?_))
 refine HG.out.mono ?_;rintro e w10 ⟨rfl,u10⟩;have B10:=Lib.hid (u10.heap B9.out id);have Z10:=Lib.hid (u10.heap Z9.out id);have U10:=Lib.hid (U9.out.trans u10);clear u10 U9 B9 Z9 R9 HG;have HRZ:=Lib.hid (root_none w10 (strZ_cells Z10.out).2.2.2.2.1);go_wp2_with fail
 refine HRZ.out.mono ?_;rintro e w11 ⟨rfl,u11⟩;obtain ⟨w12,hst,hz1,hz2⟩:=store_row (P:=Tryz.prog) (heap_alloc_new w11 (.cells (hashC zeroH).toArray 36)) (vs:=hashC zeroH) (by rw [List.size_toArray]) (byV_one zeroH.1);have u12:Upd noBlk w11 w12:=((Upd.refl noBlk w11).alloc _).then hz2 (fun i hi e=>by omega);have u1012:=u11.trans u12;have B12:=Lib.hid (u1012.heap B10.out id);have Z12:=Lib.hid (u1012.heap Z10.out id);have U12:=Lib.hid (U10.out.trans u1012);obtain ⟨N12,hN12⟩:∃N12,N12=w11.heap.size:=⟨_,rfl⟩;clear hz1 hz2 u11 u12 u1012 U10 B10 Z10 HRZ;go_upto_region 11 with fail
 rw [←hN12];clear hN12 hst;have R12:=Lib.hid (range_row B12.out);have HG:=Lib.hid (get_zero h w12 Z12.out);go_wp2_with (first | (refine wpList_load_mid rfl _ _ rfl NB 0 rfl (hashC h) _ R12.out HU22.out rfl HI22.out ?_))
 refine HG.out.mono ?_;rintro e w13 ⟨rfl,u13⟩;have Z13:=Lib.hid (u13.heap Z12.out id);have U13:=Lib.hid (U12.out.trans u13);clear u13 U12 B12 Z12 R12 HG;go_wp2_with fail
 refine (roots_nil w13).mono ?_;rintro e w14 ⟨rfl,rfl⟩;go_wp2_with fail
 refine (many_nil w14).mono ?_;rintro e w15 ⟨rfl,rfl⟩;go_wp2_with fail
 refine (roots_zero w15 Z13.out).mono ?_;rintro e w16 ⟨rfl,rfl⟩;go_wp2_with fail
 refine (many_zero w16 Z13.out).mono ?_;rintro e w17 ⟨rfl,rfl⟩;go_upto_region 13 with fail
 go_wp2_with fail
 refine (small_any X HX.out w17).mono ?_;rintro e w18 ⟨g,rfl,ho,u18⟩;have Z18:=Lib.hid (u18.heap Z13.out id);have U18:=Lib.hid (U13.out.trans u18);have HP:=Lib.hid (pub_nil (.agg (verC X (.slice (some ⟨g,0,none⟩) 1 1)).toArray) X (some ⟨g,0,none⟩) 1 1 rfl w18);clear ho u18 U13 Z13 HI HI22 HU22;go_wp2_with fail
 refine HP.out.mono ?_;rintro e w19 ⟨rfl,u19⟩;have Z19:=Lib.hid (u19.heap Z18.out id);have U19:=Lib.hid (U18.out.trans u19);clear u19 Z18 U18 HP;go_wp2_with fail
 refine (small_any X HX.out w19).mono ?_;rintro e w20 ⟨g2,rfl,ho,u20⟩;have Z20:=Lib.hid (u20.heap Z19.out id);have U20:=Lib.hid (U19.out.trans u20);have HP:=Lib.hid (pub_zero (.agg (verC X (.slice (some ⟨g2,0,none⟩) 1 1)).toArray) X (some ⟨g2,0,none⟩) 1 1 rfl w20 Z20.out);clear ho u20 U19 Z19;go_wp2_with fail
 refine HP.out.mono ?_;rintro e w21 ⟨rfl,u21⟩;have U21:=Lib.hid (U20.out.trans u21);clear u21 Z20 U20 HP;go_wp2_with fail
 go_ret
 exact ⟨rfl,U21.out⟩
end Go.Proofs.YtmgklblglpplcaaGreatDoor
