/- Parts: The keys of a map of one hash, as an iterator. No condition. Walks of the disk: Read, Write. No condition. Walks of the versions: open. No condition. -/
import Derived.Test.YtmgklblglpplcaaGreatDoorRPubl1
import Derived.Test.YtmgklblglpplcaaGreatDoorRPubl2
import Derived.Test.YtmgklblglpplcaaGreatDoorRPubl3
import Derived.Test.YtmgklblglpplcaaGreatDoorRPubl4
import Derived.Test.YtmgklblglpplcaaGreatDoorRPubl5
import Derived.Test.YtmgklblglpplcaaGreatDoorRPubl6
import Derived.Test.YtmgklblglpplcaaGreatDoorRPubl8
import Derived.Test.YtmgklblglpplcaaGreatDoorRPubl9
import Derived.Test.YtmgklblglpplcaaGreatDoorRPubl10
import Derived.Test.YtmgklblglpplcaaGreatDoorRPubl11
import Derived.Test.YtmgklblglpplcaaGreatDoorRPubl12
import Derived.Test.YtmgklblglpplcaaGreatDoorRPubl14
import Derived.Test.YtmgklblglpplcaaGreatDoorRPubl15
import Derived.Test.YtmgklblglpplcaaGreatDoorRPubl16
import Derived.Test.YtmgklblglpplcaaGreatDoorRPubl19
import Derived.Test.YtmgklblglpplcaaGreatDoorRPubl20
import Derived.Test.YtmgklblglpplcaaGreatDoorRPubl21
import Derived.Test.YtmgklblglpplcaaGreatDoorRPubl22
import Derived.Test.YtmgklblglpplcaaGreatDoorRPubl23
import Derived.Test.YtmgklblglpplcaaGreatDoorRPubl25
import Derived.Test.YtmgklblglpplcaaGreatDoorRPubl26
import Derived.Test.YtmgklblglpplcaaGreatDoorRPubl34
import Derived.Test.YtmgklblglpplcaaGreatDoorRPubl35
import Derived.WalkKit
import Derived.WalkSpells
import Derived.WalkLawsBesides
import Derived.Lib.Hide
import Derived.BigQuiet
import Derived.Deep.DeepFit
import Derived.Deep.DeepCutAuto
import Derived.Deep.AppendLies
import Derived.Deep.QuietTactic
import Derived.Test.YtmgklblglpplcaaGreatDoorRows
import Derived.Deep.RegionHeld3
import Derived.StillTail
import Derived.Lib.AppendStr
import Derived.Lib.AppendZeros
import Derived.Deep.MidRow
import Derived.ArgAppend
import Derived.Deep.Upon
import Derived.Maps.OwnOps
import Derived.Maps.OwnSet
import Derived.Maps.RangeWalk
import Derived.WideKeyEntry
import Derived.Lib.Bits
import Derived.Laws.EntriesVeiled
import Derived.Handy
import Derived.DeepKeys4
import Derived.Deep.CutBlock
import Derived.Test.YtmgklblglpplcaaGreatDoorShelf2
import Derived.Laws.BitsAllLaws
import Derived.Laws.BytesArg
import Derived.Test.YtmgklblglpplcaaGreatDoorShelf
import Derived.Lib.Zigzag
import Derived.Recover
import Derived.Deep.WholeRow
import Derived.Laws.IdiomStrings
import Derived.Laws.MakeOwn
import Derived.Laws.CopyOwn
import Derived.IntWalk
import Derived.RangeFuncNested
import Derived.RangeFuncBound
import Derived.RangeFuncCalls
import Derived.RangeFuncLeaves
import Derived.RangeFuncFrom
import Derived.LoopIn
import Derived.LoopNIn
import Derived.OwnWalkIn
import Derived.TacticsInMore
import Derived.Stop.BytesEq
import Derived.Defers
import Derived.RegionIn
namespace Go.Proofs.YtmgklblglpplcaaGreatDoor
open Go Go.RowKit Pk
set_option maxRecDepth 100000
set_option maxHeartbeats 1000000 in
theorem dread_any {B D n:Nat} {l:Bytes} (hl:l.length≤100000) (w:World) (h:DiskAt B D w l n) :
  Calls Tryz.prog 14 #[.pointer (some ⟨D,0,none⟩),.int .i64 0,.int .i64 (l.length:Int)] w fun e w'=>e=.returned (.string (bs l))∧Upd noBlk w w':=by
 obtain ⟨nv,sv,lv,ca,lf,ps,h1,h2,h3,h4⟩:=h;obtain ⟨c0,_⟩:=dsk_cells h1;have HCV:Hid (∀w',Upd noBlk w w'→(convert 48 9 nv).run Tryz.prog w'=.ok (.string (bs l)) w'):=fun w' hu=>conv_bs rfl (h2.upd hu);obtain ⟨A,cap,rfl,hc⟩:=h2.form;have h63:(l.length:Int)≤100000:=by omega
 have hcl:(l.length:Int)≤(cap:Int):=by omega
 by_cases h0:l.length=0
 ·obtain rfl:l=[]:=List.eq_nil_of_length_eq_zero h0;clear h1 h2 h3 h4 HCV;go_enter Tryz.func14,Tryz.ntmps14
  go_wp2_with fail
  go_ret
  exact ⟨rfl,Upd.refl _ _⟩
 ·have hp:¬(l.length:Int)<1:=by omega
  have hp0:(0:Int)<(l.length:Int):=by omega
  have hp1:(1:Int)≤(l.length:Int):=by omega
  have C0:=Lib.hid c0;have hnil:¬l=[]:=fun e=>h0 (by rw [e];rfl);clear h1 h2 h3 h4 hl;go_enter Tryz.func14,Tryz.ntmps14
  go_wp2_with fail
  refine wp_region_tree 15 (OT.sures [0,4,6,7,12,1,8,2,3,5,9,10,11,13,14] .nil) (fun w'=>Upd noBlk w w') (by kernel_rfl) (by kernel_rfl) (fun c a d v w h=>by cases d<;>exact h) ((Upd.refl noBlk w).drew) ?_
  simp only [OT.sures]
  iterate 15 (apply wpT_sure rfl rfl;focus (intro w' hw';have g0:=hw'.cell C0.out id;go_simp;rfl))
  refine wpT_nil ?_;have UD:Hid (Upd noBlk w w.drew):=(Upd.refl noBlk w).drew;have hcv:=HCV.out w.drew UD.out;generalize w.drew=wd at *;go_wp2_with fail
  go_ret
  exact ⟨rfl,UD.out⟩
theorem if_wantU {c:Bool} {A B:Prop} (h:c=true) (ha:A):if c=true then A else B:=by rw [if_pos h];exact ha
def strSz:Value→Nat
 | .string b=>b.size
 | _=>0
set_option maxHeartbeats 2000000 in
theorem dwrite_any {B D n:Nat} {l:Bytes} (hl:l.length≤50000) (hn:n≤50000) (off:Nat) (s:Bytes) (ho:off+s.length≤50000) (hs:0<s.length) (w:World) (h:DiskAt B D w l n) :
  Calls Tryz.prog 51 #[.pointer (some ⟨D,0,none⟩),.int .i64 (off:Int),.string (bs s)] w fun e w'=>e=.returned (.int .i64 0)∧DiskAt B D w' (putB l off s) (n+1+s.length)∧UpdO (dQ B) w w':=by
 obtain ⟨nv,sv,lv,ca,lf,ps,h1,h2,h3,h4,h5,h6,hBD⟩:=h;have HBD:=Lib.hid hBD;clear hBD;have HD:=Lib.hid h1;have HO:=Lib.hid h2;have HP:=Lib.hid h3;have HC:Hid (0≤ca∧ca≤n∧ps.length≤n):=⟨h4,h5,h6⟩;have HL:Hid (l.length≤50000∧n≤50000∧off+s.length≤50000∧0<s.length):=⟨hl,hn,ho,hs⟩;have hsz:(bs s).size=s.length:=bs_size s;have hb1:(off:Int)≤16777216-(s.length:Int):=by omega
 have hb2:(s.length:Int)≤50000:=by omega
 have hb3:¬16777216-(s.length:Int)<(off:Int):=by omega
 have hb4:-9223372036854775808≤16777216-(s.length:Int):=by omega
 have hb5:16777216-(s.length:Int)≤9223372036854775807:=by omega
 clear h1 h2 h3 h4 h5 h6 hl hn ho hs;go_enter Tryz.func51,Tryz.ntmps51
 go_wp2_with fail
 refine (dcall_any (by have:=HC.out;have:=HL.out;omega) _ HD.out).mono ?_;rintro e w1 ⟨rfl,k1,k2⟩;have HK1:=Lib.hid k1;have HK2:=Lib.hid k2;obtain ⟨c0,_⟩:=dsk_cells k1;have hne:∀g,nv.ownBlock=some g→¬g=D:=fun g hg e=>by
  obtain ⟨_,cur,hc⟩:=HO.out.blk hg;rw [e,HD.out] at hc;cases hc
 have hnl:∀g,lv.ownBlock=some g→¬g=D:=fun g hg e=>by
  obtain ⟨_,cur,hc⟩:=HP.out.blk hg;rw [e,HD.out] at hc;cases hc
 have HO1:Hid (OwB B w1 nv l):=HO.out.other k2 hne;have HP1:Hid (kDp.Own B w1 lv ps):=HP.out.other k2 hnl;have HNL:=Lib.hid hnl;clear k1 k2 hne hnl;go_wp2_with fail
 refine (dput_any nv l off s (by have:=HL.out;omega) (by have:=HL.out;omega) HL.out.2.2.2 _ (Nat.le_trans HBD.out (Nat.le_of_lt (lt_of_heap HK1.out))) HO1.out).mono ?_;rintro e w2 ⟨v2,rfl,o2,u2⟩;have HO2:=Lib.hid o2;have HU2:=Lib.hid u2;have HNN:Hid (∀g,nv.ownBlock=some g→¬g=D):=fun g hg e=>by
  obtain ⟨_,cur,hc⟩:=HO.out.blk hg;rw [e,HD.out] at hc;cases hc
 have HD2:=Lib.hid (u2.heap HK1.out (fun e=>HNN.out _ e rfl));obtain ⟨A2,cap2,rfl,hc2⟩:=o2.form;clear o2 u2;obtain ⟨d0,d1,d2,d3,d4,d5,f0,f1,f2,f3,f4,f5⟩:=dsk_cells HD2.out;go_wp2_with fail
 obtain ⟨L,hL⟩:∃L,L=putB l off s:=⟨_,rfl⟩;rw [←hL] at HO2 hc2 ⊢;have HLL:=Lib.hid hL;obtain ⟨w3,hw3⟩:∃w3,w3=w2.setCell ⟨D,0,none⟩ (.slice A2 L.length cap2):=⟨_,rfl⟩;rw [←hw3];obtain ⟨ca1,hca1⟩:∃ca1,ca1=ca+1:=⟨_,rfl⟩;have HD3:Hid (w3.heap[D]?=some (dskB (.slice A2 L.length cap2) sv lv ca1 0 lf)):=by show _=_;rw [hw3,hca1];exact (heap_setCell_eq (i:=0) _ HD2.out).trans rfl
 have HS3:Hid (Upd (fun k=>k=D) w2 w3):=by show Upd _ _ _;rw [hw3];exact (Upd.refl (fun k=>k=D) w2).setCell (p:=⟨D,0,none⟩) (fun _=>rfl) _
 have HO3:Hid (OwB B w3 (.slice A2 L.length cap2) L):=HO2.out.other HS3.out (fun g hg e=>by
  obtain ⟨_,cur,hc⟩:=HO2.out.blk hg;rw [e,HD2.out] at hc;cases hc)
 have hP2:kDp.Own B w2 lv ps:=HP1.out.other HU2.out (fun g hg e=>by
  obtain ⟨_,cur,hc⟩:=HP1.out.blk hg;obtain ⟨_,cur2,hc2⟩:=HO1.out.blk e;rw [hc] at hc2;have h9:(Obj.cells cur kDp.T (0,0))=.cells cur2 5 (0,0):=Option.some.inj hc2;cases h9)
 have HP3:Hid (kDp.Own B w3 lv ps):=hP2.other HS3.out HNL.out;have HU3:Hid (UpdO (dQ B) w w3):=by
  refine ((UpdO.blk HK2.out HD.out (dQ_dsk HBD.out _ _ _ _ _ _)).trans (UpdO.of HU2.out (fun i _ e=>?_))).trans (UpdO.blk HS3.out HD2.out (dQ_dsk HBD.out _ _ _ _ _ _));obtain ⟨hb,cur,hc⟩:=HO1.out.blk e;exact ⟨_,hc,dQ_u8 hb _⟩
 have HC1:Hid (0≤ca1∧ca1≤n+1∧ps.length≤n):=by have:=HC.out;show _∧_∧_;omega
 clear hw3 hL hca1 d0 d1 d2 d3 d4 d5 f0 f1 f2 f3 f4 f5 HS3 hP2 HD2 HO2 HNN HU2 HP1 HO1 HNL HK2 HK1 HC HP HO HD;go_loopw [1,2] (fun o t wr=>∃(o':Nat) (t':Bytes) (lv':Value) (ps':List (Nat × Bytes)),o=.int .i64 o'∧t=.string (bs t')∧o'+t'.length=off+s.length∧wr.heap[D]?=some (dskB (.slice A2 L.length cap2) sv lv' ca1 0 lf)∧OwB B wr (.slice A2 L.length cap2) L∧kDp.Own B wr lv' ps'∧ps'.length+t'.length≤n+s.length∧UpdO (dQ B) w wr) (fun _ t _=>strSz t)
 case atStart=>exact ⟨off,s,lv,ps,rfl,rfl,rfl,HD3.out,HO3.out,HP3.out,by have:=HC1.out;omega,HU3.out⟩
 case round=>
  obtain ⟨o',t',lv',ps',rfl,rfl,ho',hD,hO,hP,hps,hu⟩:=hrel;have HD:=Lib.hid hD;have HO:=Lib.hid hO;have HP:=Lib.hid hP;have HU:=Lib.hid hu;have HPS:=Lib.hid hps;have HOT:=Lib.hid ho';have hsz':(bs t').size=t'.length:=bs_size t';clear hD hO hP hu hps ho' HD3 HO3 HP3 HU3;by_cases ht:0<t'.length
  ·obtain ⟨q,hq⟩:∃q,q=o' % 64:=⟨_,rfl⟩;have hq1:Int.tmod (o':Int) 64=(q:Int):=by rw [Int.tmod_eq_emod_of_nonneg (by omega)];omega
   have hq1':(o':Int) % 64=(q:Int):=by omega
   have hq63:(q:Int)≤63:=by omega
   have HQ:=Lib.hid hq;clear hq;have ht':(0:Int)<(t'.length:Int):=by omega
   have ht5:(t'.length:Int)≤50000:=by have:=HL.out;have:=HOT.out;omega
   obtain ⟨m,hm⟩:∃m,m=min (64-q) t'.length:=⟨_,rfl⟩;have hmin:min (64-(q:Int)) (t'.length:Int)=(m:Int):=by omega
   have hm1:(m:Int)≤(t'.length:Int):=by omega
   have HM:Hid (1≤m∧m≤t'.length):=by show _∧_;omega
   have hom:(o':Int)+(m:Int)≤50000:=by have:=HL.out;have:=HOT.out;omega
   have hx1:(bs t').extract 0 m=bs (t'.take m):=by rw [bs_extract,Nat.sub_zero,List.drop_zero]
   have hx2:(bs t').extract m t'.length=bs (t'.drop m):=by
    rw [bs_extract,List.take_of_length_le (by rw [List.length_drop];exact Nat.le_refl _)]
   clear hm;have HX1:=Lib.hid hx1;have HX2:=Lib.hid hx2;clear hx1 hx2;obtain ⟨e0,e1,e2,e3,e4,e5,g0,g1,g2,g3,g4,g5⟩:=dsk_cells HD.out;have C2:=Lib.hid e2;have HNL:Hid (∀g,lv'.ownBlock=some g→¬g=D):=fun g hg e=>by
    obtain ⟨_,cur,hc⟩:=HP.out.blk hg;rw [e,HD.out] at hc;cases hc
   clear e0 e1 e2 e3 e4 e5 g0 g1 g2 g3 g4 g5;go_upto_region 8 with fail
   have HPd:Hid (kDp.Own B wr.drew lv' ps'):=HP.out.upd (Upd.refl noBlk wr).drew;have HDd:Hid (wr.drew.heap[D]?=some (dskB (.slice A2 L.length cap2) sv lv' ca1 0 lf)):=HD.out;have HUd:Hid (UpdO (dQ B) w wr.drew):=HU.out.drew;have HOd:Hid (OwB B wr.drew (.slice A2 L.length cap2) L):=HO.out.upd (Upd.refl noBlk wr).drew;refine wp_region_tree 12 (OT.sures [0,1,5,6,7,8,9,2,3,4] (.run 10 (.run 11 .nil))) (fun w'=>Upd (fun k=>lv'.ownBlock=some k) wr w') (by kernel_rfl) (by kernel_rfl) (fun c a d v w h=>by cases d<;>exact h) ((Upd.refl _ wr).drew) ?_
   simp only [OT.sures]
   iterate 5 (apply wpT_sure rfl rfl;focus (intro w' hw';go_simp;rfl))
   refine wpT_sure rfl rfl (.string (bs (t'.take m))) (fun w' hw'=>?_) ?_
   focus (have e1:=HX1.out;go_simp)
   iterate 3 (apply wpT_sure rfl rfl;focus (intro w' hw';go_simp;rfl))
   apply wpT_sure rfl rfl
   focus (intro w' hw';have e2:=hw'.cell C2.out (fun e=>HNL.out _ e rfl);go_simp;rfl)
   have HUD:Hid (Upd noBlk wr wr.drew):=(Upd.refl noBlk wr).drew;generalize wr.drew=wd at *;obtain ⟨gp,capp,w4,r3,o3,u3,_⟩:=HPd.out.app1 (Nat.le_trans HBD.out (Nat.le_of_lt (lt_of_heap HDd.out))) (o',t'.take m) (by have:=HPS.out;have:=HL.out;omega);have R3:=Lib.hid r3;have O3:=Lib.hid o3;have U3:=Lib.hid u3;clear r3 o3 u3;refine wpT_run (fun w'=>Upd (fun k=>lv'.ownBlock=some k) wr w') (fun _ h=>h) rfl (fun K' hK=>?_);refine if_wantU (by go_simp) ?_;go_simp
   refine hK _ _ ⟨(HUD.out.mono (fun _ _ h=>h.elim)).alloc _,?_⟩;clear hK K';refine wpT_run (fun w'=>Upd (fun k=>lv'.ownBlock=some k) wr w') (fun _ h=>h) rfl (fun K' hK=>?_);refine if_wantU (by go_simp) ?_;refine wp_append_run (.tmp 49) (.tmp 55) _ rfl (by go_simp) (by go_simp) R3.out ?_;refine hK _ _ ⟨(HUD.out.mono (fun _ _ h=>h.elim)).trans U3.out,?_⟩;clear hK K';refine wpT_nil ?_;have HD4:=Lib.hid (U3.out.heap HDd.out (fun e=>HNL.out _ e rfl));have HO4:Hid (OwB B w4 (.slice A2 L.length cap2) L):=HOd.out.other U3.out (fun g hg e=>by
    obtain ⟨_,cur,hc⟩:=HPd.out.blk e;obtain ⟨_,cur2,hc2⟩:=HOd.out.blk hg;rw [hc] at hc2;have h9:(Obj.cells cur kDp.T (0,0))=.cells cur2 5 (0,0):=Option.some.inj hc2;cases h9)
   have HU4:Hid (UpdO (dQ B) w w4):=HUd.out.trans (UpdO.of U3.out (fun i _ e=>by
    obtain ⟨hb,cur,hc⟩:=HPd.out.blk e;exact ⟨_,hc,dQ_part hb _⟩))
   obtain ⟨e0,e1,e2,e3,e4,e5,g0,g1,g2,g3,g4,g5⟩:=dsk_cells HD4.out;obtain ⟨np,hnp⟩:∃np,np=ps'.length+1:=⟨_,rfl⟩;rw [←hnp] at O3 ⊢;clear hnp;go_wp2_with fail
   obtain ⟨w5,hw5⟩:∃w5,w5=w4.setCell ⟨D,2,none⟩ (.slice (some ⟨gp,0,none⟩) np capp):=⟨_,rfl⟩;rw [←hw5];have HD5:Hid (w5.heap[D]?=some (dskB (.slice A2 L.length cap2) sv (.slice (some ⟨gp,0,none⟩) np capp) ca1 0 lf)):=by show _=_;rw [hw5];exact (heap_setCell_eq (i:=2) _ HD4.out).trans rfl
   have HS5:Hid (Upd (fun k=>k=D) w4 w5):=by show Upd _ _ _;rw [hw5];exact (Upd.refl (fun k=>k=D) w4).setCell (p:=⟨D,2,none⟩) (fun _=>rfl) _
   have HO5:Hid (OwB B w5 (.slice A2 L.length cap2) L):=HO4.out.other HS5.out (fun g hg e=>by
    obtain ⟨_,cur,hc⟩:=HO4.out.blk hg;rw [e,HD4.out] at hc;cases hc)
   have HU5:Hid (UpdO (dQ B) w w5):=HU4.out.trans (UpdO.blk HS5.out HD4.out (dQ_dsk HBD.out _ _ _ _ _ _));have HP5:Hid (kDp.Own B w5 (.slice (some ⟨gp,0,none⟩) np capp) (ps'++[(o',t'.take m)])):=by
    exact O3.out.other HS5.out (fun g hg e=>by
     obtain ⟨_,cur,hc⟩:=O3.out.blk hg;rw [e,HD4.out] at hc;cases hc)
   clear hw5 e0 e1 e2 e3 e4 e5 g0 g1 g2 g3 g4 g5;refine wp_region_tree 7 (OT.sures [0,1,3,4,2,5,6] .nil) (fun w'=>Upd noBlk w5 w') (by kernel_rfl) (by kernel_rfl) (fun c a d v w h=>by cases d<;>exact h) ((Upd.refl _ w5).drew) ?_
   simp only [OT.sures]
   iterate 5 (apply wpT_sure rfl rfl;focus (intro w' hw';go_simp;rfl))
   refine wpT_sure rfl rfl (.string (bs (t'.drop m))) (fun w' hw'=>?_) ?_
   focus (have e1:=HX2.out;go_simp)
   iterate 1 (apply wpT_sure rfl rfl;focus (intro w' hw';go_simp;rfl))
   refine wpT_nil ?_;have HD6:Hid (w5.drew.heap[D]?=some (dskB (.slice A2 L.length cap2) sv (.slice (some ⟨gp,0,none⟩) np capp) ca1 0 lf)):=HD5.out;have HO6:Hid (OwB B w5.drew (.slice A2 L.length cap2) L):=HO5.out.upd (Upd.refl noBlk w5).drew;have HP6:Hid (kDp.Own B w5.drew (.slice (some ⟨gp,0,none⟩) np capp) (ps'++[(o',t'.take m)])):=HP5.out.upd (Upd.refl noBlk w5).drew;have HU6:Hid (UpdO (dQ B) w w5.drew):=HU5.out.drew;generalize w5.drew=w6 at *;go_wp2_with fail
   refine ⟨⟨o'+m,t'.drop m,_,ps'++[(o',t'.take m)],by push_cast;rfl,rfl,?_,HD6.out,HO6.out,HP6.out,?_,HU6.out⟩,?_⟩
   ·have:=HM.out;have:=HOT.out;rw [List.length_drop];omega
   ·have:=HM.out;have:=HPS.out;rw [List.length_drop,List.length_append,List.length_cons,List.length_nil];omega
   ·have:=HM.out;simp only [strSz,bs_size];rw [List.length_drop];omega
  ·obtain rfl:t'=[]:=List.eq_nil_of_length_eq_zero (by omega);go_wp2_with fail
   go_ret
   have h9:=HC1.out;have h8:=HPS.out;refine ⟨rfl,⟨_,sv,lv',ca1,lf,ps',HD.out,by rw [←HLL.out];exact HO.out,HP.out,h9.1,by omega,?_,HBD.out⟩,HU.out⟩;simp at h8;omega
end Go.Proofs.YtmgklblglpplcaaGreatDoor
namespace Go.Proofs.YtmgklblglpplcaaGreatDoor
open Go Go.RowKit Pk
set_option maxRecDepth 100000
def srcF (l:List (H32 × Bytes)) (h:H32):Option Bytes:=(l.find? (fun p=>decide (p.1=h))).map (·.2)
theorem srcF_nil:srcF []=fun _=>none:=rfl
theorem srcF_old (l:List (H32 × Bytes)) (p:H32 × Bytes) (h:(srcF l p.1).isSome=true):srcF (l++[p])=srcF l:=by
 funext c
 unfold srcF at h ⊢;rw [List.find?_append];by_cases e:p.1=c
 ·subst e;cases hf:l.find? (fun q=>decide (q.1=p.1)) with
  | none=>rw [hf] at h;cases h
  | some q=>rfl
 ·simp [e]
theorem srcF_new (l:List (H32 × Bytes)) (p:H32 × Bytes) (h:(srcF l p.1).isSome=false):srcF (l++[p])=fun c=>if c=p.1 then some p.2 else srcF l c:=by
 funext c
 unfold srcF at h ⊢;rw [List.find?_append];by_cases e:c=p.1
 ·subst e;cases hf:l.find? (fun q=>decide (q.1=p.1)) with
  | none=>simp
  | some q=>rw [hf] at h;cases h
 ·rw [if_neg e];have e2:¬p.1=c:=fun h=>e h.symm;simp [e2]
theorem pkC_len (p:H32 × Bytes):(pkC p).length=33:=by unfold pkC;rw [List.length_append,hashC_len];rfl
theorem pk_hash {w:World} {b o:Nat} {p:H32 × Bytes} (h:w.rangeAt b o (pkC p)):w.rangeAt b o (hashC p.1):=fun j v hv=>h j v (by
 unfold pkC;rw [List.getElem?_append_left (List.getElem?_eq_some_iff.1 hv).1];exact hv)
theorem pk_str {w:World} {b o:Nat} {p:H32 × Bytes} (h:w.rangeAt b o (pkC p)):w.cell? ⟨b,o+32,none⟩=some (.string (bs p.2)):=h 32 _ (by
 unfold pkC;rw [List.getElem?_append_right (by rw [hashC_len];exact Nat.le_refl _),hashC_len];rfl)
def zeroH:H32:=⟨zeroB32,rfl⟩
theorem zero_pk (W:World):(zeroValue 63).run Tryz.prog W=.ok (.agg (pkC (zeroH,[])).toArray) W:=by kernel_rfl
theorem zero_hash (W:World):(zeroValue 36).run Tryz.prog W=.ok (.agg (hashC zeroH).toArray) W:=by kernel_rfl
theorem size_pk (p:H32 × Bytes):(Tryz.prog.info? 63).map (·.size)=some (pkC p).length:=by rw [pkC_len];kernel_rfl
theorem size_h (h:H32):(Tryz.prog.info? 36).map (·.size)=some (hashC h).length:=by rw [hashC_len];kernel_rfl
theorem range_row {w:World} {g:Nat} {vs:List Value} {t:TypeId} (h:w.heap[g]?=some (.cells vs.toArray t (0,0))):w.rangeAt g 0 vs:=fun j v hv=>by
 rw [Nat.zero_add,cell_of_row _ _ j _ t (0,0) h];simpa using hv
set_option maxHeartbeats 1000000 in
theorem open_any (lv:Value) (l:List (H32 × Bytes)) (hl:l.length≤1000) (w:World) (h:kPk.Rd w lv l) :
  Calls Tryz.prog 36 #[lv] w fun e w'=>∃b n,e=.returned (.map (some b))∧kitSrc.At w' b n (srcF l)∧n≤l.length∧Upd noBlk w w'∧w.heap.size≤b:=by
 have hmm:=@run_makeMap Tryz.prog;obtain ⟨A,cap,rfl,hc,hx⟩:=h;obtain ⟨w1,hw1⟩:∃w1,w1=w.alloc (.map #[] 0):=⟨_,rfl⟩;have HM0:Hid (kitSrc.At w1 w.heap.size 0 (srcF [])):=by show kitSrc.At _ _ _ _;rw [hw1,srcF_nil];exact MapKit.At.made kitSrc w
 have HU0:Hid (Upd noBlk w w1):=by show Upd _ _ _;rw [hw1];exact (Upd.refl _ w).alloc _
 have HX:=Lib.hid hx;have HL:=Lib.hid hl;clear hl hx;go_enter Tryz.func36,Tryz.ntmps36
 go_wp2_with fail
 rw [←hw1];obtain ⟨M,hM⟩:∃M,M=w.heap.size:=⟨_,rfl⟩;rw [←hM] at HM0 ⊢;clear hw1;have HMM:=Lib.hid hM;clear hM;go_loopw [11] (fun i wr=>∃k m:Nat,i=.int .i64 k∧k≤l.length∧m≤k∧kitSrc.At wr M m (srcF (l.take k))∧Upd noBlk w wr) (fun i _=>l.length-(intOf i).toNat)
 case atStart=>exact ⟨0,0,rfl,Nat.zero_le _,Nat.le_refl _,HM0.out,HU0.out⟩
 case round=>
  obtain ⟨k,m,rfl,hk,hm,hat,hu⟩:=hrel;have HAT:=Lib.hid hat;have HU:=Lib.hid hu;clear hat hu HM0 HU0;by_cases hlt:k<l.length
  ·have hlt':(k:Int)<(l.length:Int):=by omega
   obtain ⟨b,off,rfl,hx⟩:=HX.out (by omega);have hr0:w.rangeAt b (off+k*33) (pkC l[k]):=hx k hlt;have HTK:Hid (l.take (k+1)=l.take k++[l[k]]):=List.take_succ_eq_append_getElem hlt;have HR:=Lib.hid (rangeAt_upd hr0 HU.out);clear HX hx hr0;generalize l[k]=p at *;obtain ⟨Z,hst,hz1,hz2⟩:=store_row (P:=Tryz.prog) (heap_alloc_new wr (.cells (pkC (zeroH,[])).toArray 63)) (vs:=pkC p) (by rw [List.size_toArray,pkC_len,pkC_len]) (pkC_one p);have hzp:=zero_pk;have hpl:=pkC_len p;have hk63:(k:Int)+1≤9223372036854775807:=by have:=HL.out;omega
   have hk0:-9223372036854775808≤(k:Int)+1:=by omega
   have HI:=Lib.hid (size_pk p);have HIH:=Lib.hid (size_h p.1);have hRZ:=range_row hz1;have HRH:=Lib.hid (pk_hash hRZ);have hcs:=pk_str hRZ;have HZU:Hid (Upd noBlk wr Z):=((Upd.refl noBlk wr).alloc _).then hz2 (fun i hi e=>by omega);have HAZ:=Lib.hid (HAT.out.keep HZU.out);have hlk:(Instr.lookup 89 (.map (some M)) (.agg (hashC p.1).toArray) true).run Tryz.prog Z=.ok (.tuple #[.string (bs ((srcF (l.take k) p.1).getD [])),.bool (srcF (l.take k) p.1).isSome]) Z:=HAZ.out.lookOkR (a:=p.1) trivial;clear hRZ hz1 hz2;cases hs:(srcF (l.take k) p.1).isSome with
   | true=>
    rw [hs] at hlk;have HS:=Lib.hid hs;clear hs;go_wp2_with (first | (refine wpList_load_mid rfl _ _ rfl b (off+k*33) rfl (pkC p) _ HR.out Tryz.underlying63 rfl HI.out ?_) | (refine wpList_load_mid rfl _ _ rfl wr.heap.size 0 rfl (hashC p.1) _ HRH.out Tryz.underlying36 rfl HIH.out ?_))
    refine ⟨⟨k+1,m,by push_cast;rfl,hlt,by omega,?_,HU.out.trans HZU.out⟩,by simp only [intOf];omega⟩;rw [HTK.out,srcF_old _ _ HS.out];exact HAZ.out
   | false=>
    rw [hs] at hlk;have HS:=Lib.hid hs;clear hs;obtain ⟨Y,hup,hy1,hy2⟩:=HAZ.out.put (by have:=HL.out;unfold maxLen;omega) (a:=p.1) trivial (v:=p.2) trivial;have hup':(Instr.mapUpdate 89 (.map (some M)) (.agg (hashC p.1).toArray) (.string (bs p.2))).run Tryz.prog Z=.ok () Y:=hup;clear hup;go_wp2_with (first | (refine wpList_load_mid rfl _ _ rfl b (off+k*33) rfl (pkC p) _ HR.out Tryz.underlying63 rfl HI.out ?_) | (refine wpList_load_mid rfl _ _ rfl wr.heap.size 0 rfl (hashC p.1) _ HRH.out Tryz.underlying36 rfl HIH.out ?_))
    have HYU:Upd noBlk w Y:=(HU.out.trans HZU.out).then hy2 (fun i hi e=>by have:=HMM.out;omega);refine ⟨⟨k+1,m+1,by push_cast;rfl,hlt,by omega,?_,HYU⟩,by simp only [intOf];omega⟩;rw [HTK.out,srcF_new _ _ HS.out];exact hy1
  ·obtain rfl:k=l.length:=by omega
   have HAL:=HAT;rw [List.take_length] at HAL;go_wp2_with fail
   go_ret
   exact ⟨M,m,rfl,HAL.out,hm,HU.out,by rw [HMM.out];exact Nat.le_refl _⟩
end Go.Proofs.YtmgklblglpplcaaGreatDoor
namespace Go.Proofs.YtmgklblglpplcaaGreatDoor
open Go Go.RowKit Pk
set_option maxRecDepth 100000
attribute [local go_sem] Oper.semAt_some
theorem wpListIn_val {F:Fence} {n:Nat} {P:Program} {w w':World} {ops:Array Oper} {rest:List Oper} {o:Oper} {a:Act} {Q:Exit→Act→World→Prop} (v:Value) (hg:o.guard=none)
  (ha:∀f,o.about P w a.eval=some f→F.fn f) (hd:∀c,o.op≠.defer c) (hv:(execOp a.eval o).run P w=.ok (.value v) w') (h:wpListIn F n P ops Q rest (a.put o.dst v) w'):wpListIn F n P ops Q (o :: rest) a w:=by
 refine wpListIn_plain hg fun K' hK'=>?_;unfold Oper.wpIn;refine ⟨ha,?_⟩;rw [Oper.semAt_plain F _ _ hd];simp only [hv];exact hK' _ _ h
def oneF (X:H32):H32→Option Bool:=fun c=>if c=X then some true else none
theorem keysB_any (M:Nat) (w:World):Calls Tryz.prog 46 #[.map (some M)] w fun e w'=>e=.returned (.func (.func 69) #[] #[.pointer (some ⟨w.heap.size,0,none⟩)])∧w'=w.alloc (.cells #[.map (some M)] 68):=by
 have hmf:∀(fn:Fn) (first cap:Array Value) (w:World),(Instr.makeFunc fn first cap).run Tryz.prog w=.ok (.func fn first cap) w:=fun _ _ _ _=>rfl;go_enter Tryz.func46,Tryz.ntmps46
 go_wp2
 go_ret
 exact ⟨rfl,rfl⟩
theorem rng_next1 {w:World} {ops:Array Oper} {rest:List Oper} {o:Oper} {ac:Act} {Q:Exit→Act→World→Prop} {b r n:Nat} {X:H32} {left:H32→Bool} {cnt:Nat} (h:kitHB.Rng w b r n (oneF X) left cnt) (hg:o.guard=none) (it:Operand) (hop:o.op=Op.next it false) (hit:ac.eval it=.pointer (some ⟨r,0,none⟩))
  (hDone:Hid (left X=false→wpList Tryz.prog ops Q rest (ac.put o.dst (.tuple #[.bool false])) w))
  (hMore:Hid (∀(left':H32→Bool) (w':World) (cnt':Nat),left X=true→left' X=false→kitHB.Rng w' b r n (oneF X) left' cnt'→cnt'<cnt→w.grownBy w' (some r) →
   (Instr.entry (.pointer (some ⟨r,0,none⟩))).run Tryz.prog w'=.ok (.tuple #[.agg (hashC X).toArray,.bool true]) w'→wpList Tryz.prog ops Q rest (ac.put o.dst (.tuple #[.bool true,.agg (hashC X).toArray,.bool true])) w')) :
  wpList Tryz.prog ops Q (o :: rest) ac w:=by
 refine h.next hg it hop hit (fun _ ha=>hDone (ha X trivial)) ?_;intro a v w' cnt' _ hl hf hr hlt hgr _ hen;have e:a=X:=by
  unfold oneF at hf;by_cases e:a=X
  ·exact e
  ·rw [if_neg e] at hf;cases hf
 subst e;have ev:v=true:=by
  unfold oneF at hf;rw [if_pos rfl] at hf;exact (Option.some.inj hf).symm
 subst ev;exact hMore _ w' cnt' hl (by simp) hr hlt hgr hen
set_option maxHeartbeats 2000000 in
theorem keys1_seq (n0 nn M Nb:Nat) (X:H32) (w:World) (hN:w.heap[Nb]?=some (.cells #[.map (some M)] 68 (0,0))) (hM:kitHB.At w M nn (oneF X)) :
  SeqStopsK Fence.wide n0 Tryz.prog 69 #[.pointer (some ⟨Nb,0,none⟩)] (fun h:H32=>#[.agg (hashC h).toArray]) KeepsWalks (fun xs=>xs.length≤1) (fun xs=>xs.length≤1) 1 w:=by
 intro l J Jx W hW hJ hJx hY h0;have HN:Hid (W.heap[Nb]?=some (.cells #[.map (some M)] 68 (0,0))):=(hW.block Nb (lt_of_heap hN)).trans hN;have HM:Hid (kitHB.At W M nn (oneF X)):=hM.heap (fun o ho=>(hW.block M (lt_of_heap ho)).trans ho);have HJ:=Lib.hid hJ;have HY:=Lib.hid hY;have H0:=Lib.hid h0;have c0:W.cell? ⟨Nb,0,none⟩=some (.map (some M)):=by simp [World.cell?,HN.out]
 clear hJ hY h0 hN hM hW hJx;refine callsIn_of_wp Tryz.func69 rfl trivial ?_ rfl;simp only [Tryz.ntmps69,List.size_toArray,List.length_cons,List.length_nil,Nat.reduceAdd,Nat.reduceSub,Array.replicate_succ,Array.replicate_zero,List.push_toArray,List.append_toArray,List.nil_append,List.cons_append];refine wpIn_seq (wpIn_wide.2 ?_);go_wp2_with (at_range;refine HM.out.range rfl _ rfl rfl ?_;intro w0 cnt0 hrg0 hg0 hs0)
 obtain ⟨rb,hrb⟩:∃rb,rb=W.heap.size:=⟨_,rfl⟩;have HR0:=Lib.hid hrg0;have HJ0:=Lib.hid (HJ.out _ _ _ none H0.out hg0 (fun r e=>by cases e));rw [←hrb] at HR0 ⊢;have HRB:=Lib.hid hrb;clear hrb hrg0 hs0 hg0 c0;gi_wp2_with fail
 gi_loopw [6] (fun _ wr=>∃(left:H32→Bool) (cnt:Nat) (pre:List H32),kitHB.Rng wr M rb nn (oneF X) left cnt∧J pre wr∧pre.length≤1∧(0<pre.length→left X=false)) (fun _ wr=>wr.rangeLeft M rb)
 case atStart=>exact ⟨_,_,[],HR0.out,HJ0.out,by simp,fun h=>by simp at h⟩
 case round=>
  obtain ⟨left,cnt,pre,hr,hj,hp1,hp2⟩:=hrel;have HJP:=Lib.hid hj;have HP:Hid (pre.length≤1∧(0<pre.length→left X=false)):=⟨hp1,hp2⟩;clear hj hp1 hp2 HR0 HJ0 H0;refine wpIn_seq (wpIn_wide.2 ?_);go_wp2_with (at_next;refine rng_next1 hr rfl _ rfl rfl ?_ ?_)
  ·show _→_;intro hl0;clear hl0 hr;go_wp2_with fail
   gi_wp2_with fail
   go_end0
   exact ⟨⟨_,rfl⟩,.inl ⟨pre,HP.out.1,HJP.out⟩⟩
  ·intro left' w2 cnt2 hl hl2 hr2 hlt hgr hen;have hpre:pre=[]:=List.eq_nil_of_length_eq_zero (by
    have:=HP.out.2;by_cases e:0<pre.length
    ·rw [this e] at hl;cases hl
    ·omega)
   subst hpre;have HJ2:=Lib.hid (HJ.out _ _ _ _ HJP.out hgr (fun r e=>by cases e;exact ⟨by rw [HRB.out];exact Nat.le_refl _,(by obtain ⟨D,ll,h1,_⟩:=hr;exact h1.iter_walk)⟩));have HR2:=Lib.hid hr2;have HL2:=Lib.hid hl2;have HLT:Hid (cnt2<wr.rangeLeft M rb):=by show _<_;rw [hr.left_eq];exact hlt
   clear hl hl2 hr2 hlt hgr hr HP HJP;have hzh:=zero_hash;obtain ⟨Z,hst,hz1,hz2⟩:=store_row (P:=Tryz.prog) (heap_alloc_new w2 (.cells (hashC zeroH).toArray 36)) (vs:=hashC X) (by rw [List.size_toArray,hashC_len,hashC_len]) (byV_one X.1);have HRX:=Lib.hid (range_row hz1);have HZU:Hid (Upd noBlk w2 Z):=((Upd.refl noBlk w2).alloc _).then hz2 (fun i hi e=>by omega);have hcl:=hashC_len X;have HI:=Lib.hid (size_h X);have HJZ:=Lib.hid (HJ.out _ _ _ none HJ2.out (grown_of_upd HZU.out) (fun r e=>by cases e));have HRZ:=Lib.hid (HR2.out.keep HZU.out);clear hz1 hz2;obtain ⟨fn,tmps,assign,body,hyy,hR⟩:=HY.out [] X Z HJZ.out (by decide);have HRR:=Lib.hid hR;clear hR;go_wp2_with fail
   gi_wp2_with (refine wpListIn_val (.agg (hashC X).toArray) rfl (fun _ _=>trivial) (by intro c h;cases h) (exec_load_row 36 (.tmp 3) rfl w2.heap.size 0 (by go_simp) (hashC X) _ HRX.out Tryz.underlying36 rfl HI.out) ?_)
   refine ⟨fun h=>(by simp [Fence.wide] at h),HRR.out.mono ?_⟩;rintro e w4 (⟨rfl,hj4,hk4⟩ | ⟨rfl,hj4⟩)
   ·have HJ4:=Lib.hid hj4;have HR4:Hid (kitHB.Rng w4 M rb nn (oneF X) left' cnt2):=by
     obtain ⟨D,ll,h1,h2⟩:=HRZ.out;exact ⟨D,ll,h1.of_walks hk4,h2⟩
    clear hj4 hk4;gi_wp2_with fail
    refine ⟨⟨left',cnt2,[X],HR4.out,HJ4.out,by simp,fun _=>HL2.out⟩,?_⟩;rw [HR4.out.left_eq];exact HLT.out
   ·have HJ4:=Lib.hid hj4;clear hj4;gi_wp2_with fail
    refine bodyPost_ret (results_none rfl _ _ _) rfl ?_;exact ⟨⟨_,rfl⟩,.inr ⟨[X],by simp,HJ4.out⟩⟩
end Go.Proofs.YtmgklblglpplcaaGreatDoor
