/- Parts: Walks of the program's mesh: pinched. No condition. -/
import Derived.Test.YtcikldoaidmnhaaGreatDoorRSpoi1
import Derived.Test.YtcikldoaidmnhaaGreatDoorRSpoi2
import Derived.Test.YtcikldoaidmnhaaGreatDoorRSpoi3
import Derived.Test.YtcikldoaidmnhaaGreatDoorRSpoi4
import Derived.Test.YtcikldoaidmnhaaGreatDoorRSpoi5
import Derived.Test.YtcikldoaidmnhaaGreatDoorRSpoi6
import Derived.Test.YtcikldoaidmnhaaGreatDoorRSpoi7
import Derived.Test.YtcikldoaidmnhaaGreatDoorRSpoi8
import Derived.Test.YtcikldoaidmnhaaGreatDoorRSpoi9
import Derived.Test.YtcikldoaidmnhaaGreatDoorRSpoi11
import Derived.Test.YtcikldoaidmnhaaGreatDoorRSpoi12
import Derived.WalkKit
import Derived.WalkSpells
import Derived.WalkLawsBesides
import Derived.Lib.Hide
import Derived.BigQuiet
import Derived.Deep.DeepFit
import Derived.Deep.DeepCutAuto
import Derived.Deep.AppendLies
import Derived.Deep.QuietTactic
import Derived.Maps.OwnOps
import Derived.Maps.OwnSet
import Derived.Maps.RangeWalk
import Derived.WideKeyEntry
import Derived.Deep.MidRow
import Derived.Lib.Bits
import Derived.Test.YtcikldoaidmnhaaGreatDoorRows
import Derived.Deep.RegionHeld3
import Derived.StillTail
import Derived.Laws.EntriesVeiled
import Derived.Handy
import Derived.DeepKeys4
import Derived.Deep.CutBlock
namespace Go.Proofs.YtcikldoaidmnhaaGreatDoor
open Go Go.RowKit Pk
set_option maxRecDepth 100000
theorem post3 {Q:World→Prop} {w:World} {b:Nat} {x0 x1 x2 y0 y1 y2:Value} {t:TypeId} (h:w.heap[b]?=some (.cells #[x0,x1,x2] t (0,0)))
  (hQ:∀wz:World,wz.heap[b]?=some (.cells #[y0,y1,y2] t (0,0))→Upd (fun j=>j=b) w wz→Q wz):Q (((w.setCell ⟨b,0,none⟩ y0).setCell ⟨b,1,none⟩ y1).setCell ⟨b,2,none⟩ y2):=by
 have h0:(w.setCell ⟨b,0,none⟩ y0).heap[b]?=some (.cells #[y0,x1,x2] t (0,0)):=by simpa using heap_setCell_eq (i:=0) y0 h
 have h1:((w.setCell ⟨b,0,none⟩ y0).setCell ⟨b,1,none⟩ y1).heap[b]?=some (.cells #[y0,y1,x2] t (0,0)):=by simpa using heap_setCell_eq (i:=1) y1 h0
 have h2:(((w.setCell ⟨b,0,none⟩ y0).setCell ⟨b,1,none⟩ y1).setCell ⟨b,2,none⟩ y2).heap[b]?=some (.cells #[y0,y1,y2] t (0,0)):=by simpa using heap_setCell_eq (i:=2) y2 h1
 exact hQ _ h2 ((((Upd.refl (fun j=>j=b) w).setCell (p:=⟨b,0,none⟩) (fun _=>rfl) _).setCell (p:=⟨b,1,none⟩) (fun _=>rfl) _).setCell (p:=⟨b,2,none⟩) (fun _=>rfl) _)
theorem cellsF3 {w:World} {b:Nat} {x0 x1 x2:Value} {t:TypeId} (h:w.heap[b]?=some (.cells #[x0,x1,x2] t (0,0))) :
  (w.cell? ⟨b,0,none⟩=some x0∧w.cell? ⟨b,1,none⟩=some x1∧w.cell? ⟨b,2,none⟩=some x2)∧(w.frozen? ⟨b,0,none⟩=false∧w.frozen? ⟨b,1,none⟩=false∧w.frozen? ⟨b,2,none⟩=false):=by simp [World.cell?,World.frozen?,h]
theorem cells6 {w:World} {b:Nat} {x0 x1 x2 x3 x4 x5:Value} {t:TypeId} {fr:Nat × Nat} (h:w.heap[b]?=some (.cells #[x0,x1,x2,x3,x4,x5] t fr)) :
  w.cell? ⟨b,0,none⟩=some x0∧w.cell? ⟨b,1,none⟩=some x1∧w.cell? ⟨b,2,none⟩=some x2∧w.cell? ⟨b,3,none⟩=some x3∧w.cell? ⟨b,4,none⟩=some x4∧w.cell? ⟨b,5,none⟩=some x5:=by simp [World.cell?,h]
set_option maxHeartbeats 4000000 in
theorem mPinched_any (v:Value) (l:List Tri) (hn:l.length≤100000) (hok:∀t,t∈l→okT t) (hnd:(edgesL l).Nodup) (w:World) (h:kTri.Rd w v l) :
  Calls Tryz.prog 160 #[v] w fun en w'=>en=.returned (.bool (pinched l))∧Upd noBlk w w':=by
 obtain ⟨A,cap,rfl,hcap,hx⟩:=h;have HX:=Lib.hid hx;have HOK:=Lib.hid hok;have hn':(l.length:Int)≤100000:=by omega
 have HM0:Hid (kitNext.At ((w.alloc (.map #[] 0)).alloc (.map #[] 0)) w.heap.size 0 (putAll (pairsL (l.take 0)))):=(MapKit.At.made kitNext w).keep ((Upd.refl _ _).alloc _);have HC0:Hid (kitAt.At ((w.alloc (.map #[] 0)).alloc (.map #[] 0)) (w.heap.size+1) 0 (cntF ((l.take 0).flatMap cornT))):=by
  have:=MapKit.At.made kitAt (w.alloc (.map #[] 0));rw [World.size_alloc] at this;exact this
 have HU0:Hid (Upd noBlk w ((w.alloc (.map #[] 0)).alloc (.map #[] 0))):=((Upd.refl _ _).alloc _).alloc _;have hmm:=@run_makeMap Tryz.prog;clear hx hok;go_enter Tryz.func160,Tryz.ntmps160
 go_wp2_with fail
 go_loopw [18] (fun i wr=>∃k:Nat,i=.int .i64 k∧k≤l.length∧kitNext.At wr w.heap.size (3*k) (putAll (pairsL (l.take k)))∧kitAt.At wr (w.heap.size+1) (3*k) (cntF ((l.take k).flatMap cornT))∧Upd noBlk w wr) (fun i _=>l.length-(intOf i).toNat)
 case atStart=>exact ⟨0,rfl,Nat.zero_le _,HM0.out,HC0.out,HU0.out⟩
 case round=>
  obtain ⟨k,rfl,hk,hm,hc,hu⟩:=hrel;have HM:=Lib.hid hm;have HC:=Lib.hid hc;have HU:=Lib.hid hu;clear hm hc hu hmm;by_cases hlt:k<l.length
  ·have hlt':(k:Int)<(l.length:Int):=by omega
   obtain ⟨b,off,rfl,f1⟩:=HX.out (by omega);obtain ⟨g0,g1,g2,g3,g4,g5,g6,g7,g8⟩:=triAt9 ((f1 k hlt).keep HU.out);have hk9:kTri.k=9:=rfl;rw [hk9] at g0 g1 g2 g3 g4 g5 g6 g7 g8;have ht0:pairsL (l.take (k+1))=pairsL (l.take k++[l[k]]):=by rw [List.take_succ_eq_append_getElem hlt]
   rw [pairsL_snoc] at ht0;have HT:=Lib.hid ht0;have hk0:(l.take (k+1)).flatMap cornT=(l.take k++[l[k]]).flatMap cornT:=by rw [List.take_succ_eq_append_getElem hlt]
   rw [corners_snoc] at hk0;have HK:=Lib.hid hk0;clear ht0 hk0;have HL:Hid (((l.take k).flatMap cornT).length=3*k):=by show _=_;rw [corners_len,List.length_take];omega
   have HKT:=Lib.hid (HOK.out l[k] (List.getElem_mem hlt));clear f1 hk9;generalize l[k]=tk at *;obtain ⟨⟨a0,a1,a2⟩,⟨a3,a4,a5⟩,⟨a6,a7,a8⟩⟩:=tk;simp only at g0 g1 g2 g3 g4 g5 g6 g7 g8 HT HK;obtain ⟨E,hE⟩:∃E,E=pairsL (l.take k):=⟨_,rfl⟩;rw [←hE] at HM HT;clear hE;obtain ⟨C,hC⟩:∃C,C=(l.take k).flatMap cornT:=⟨_,rfl⟩;rw [←hC] at HC HK HL;clear hC;have ix0:∀W:World,(Instr.index 45 (.agg #[.int .i64 a0,.int .i64 a1,.int .i64 a2,.int .i64 a3,.int .i64 a4,.int .i64 a5,.int .i64 a6,.int .i64 a7,.int .i64 a8]) (.int .i64 0)).run Tryz.prog W=.ok (.agg #[.int .i64 a0,.int .i64 a1,.int .i64 a2]) W:=fun W=>by kernel_rfl
   have ix1:∀W:World,(Instr.index 45 (.agg #[.int .i64 a0,.int .i64 a1,.int .i64 a2,.int .i64 a3,.int .i64 a4,.int .i64 a5,.int .i64 a6,.int .i64 a7,.int .i64 a8]) (.int .i64 1)).run Tryz.prog W=.ok (.agg #[.int .i64 a3,.int .i64 a4,.int .i64 a5]) W:=fun W=>by kernel_rfl
   have ix2:∀W:World,(Instr.index 45 (.agg #[.int .i64 a0,.int .i64 a1,.int .i64 a2,.int .i64 a3,.int .i64 a4,.int .i64 a5,.int .i64 a6,.int .i64 a7,.int .i64 a8]) (.int .i64 2)).run Tryz.prog W=.ok (.agg #[.int .i64 a6,.int .i64 a7,.int .i64 a8]) W:=fun W=>by kernel_rfl
   have q1:(IntKind.i64.wrap 1).tmod 3=1:=by decide
   have q2:(IntKind.i64.wrap 2).tmod 3=2:=by decide
   have q3:(IntKind.i64.wrap 3).tmod 3=0:=by decide
   have q4:(IntKind.i64.wrap 4).tmod 3=1:=by decide
   have HT0:=Lib.hid (show (wr.alloc (.cells #[.int .i64 a0,.int .i64 a1,.int .i64 a2,.int .i64 a3,.int .i64 a4,.int .i64 a5,.int .i64 a6,.int .i64 a7,.int .i64 a8] 45)).heap[wr.heap.size]?=some (.cells #[.int .i64 a0,.int .i64 a1,.int .i64 a2,.int .i64 a3,.int .i64 a4,.int .i64 a5,.int .i64 a6,.int .i64 a7,.int .i64 a8] 45 (0,0)) from heap_alloc_new _ _);have HU1:=Lib.hid (HU.out.alloc (.cells #[.int .i64 a0,.int .i64 a1,.int .i64 a2,.int .i64 a3,.int .i64 a4,.int .i64 a5,.int .i64 a6,.int .i64 a7,.int .i64 a8] 45));have HM1:Hid (kitNext.At (wr.alloc (.cells #[.int .i64 a0,.int .i64 a1,.int .i64 a2,.int .i64 a3,.int .i64 a4,.int .i64 a5,.int .i64 a6,.int .i64 a7,.int .i64 a8] 45)) w.heap.size (3*k+0) (putAll E)):=HM.out.keep ((Upd.refl noBlk wr).alloc (.cells #[.int .i64 a0,.int .i64 a1,.int .i64 a2,.int .i64 a3,.int .i64 a4,.int .i64 a5,.int .i64 a6,.int .i64 a7,.int .i64 a8] 45));have HC1:Hid (kitAt.At (wr.alloc (.cells #[.int .i64 a0,.int .i64 a1,.int .i64 a2,.int .i64 a3,.int .i64 a4,.int .i64 a5,.int .i64 a6,.int .i64 a7,.int .i64 a8] 45)) (w.heap.size+1) (3*k+0) (cntF C)):=HC.out.keep ((Upd.refl noBlk wr).alloc (.cells #[.int .i64 a0,.int .i64 a1,.int .i64 a2,.int .i64 a3,.int .i64 a4,.int .i64 a5,.int .i64 a6,.int .i64 a7,.int .i64 a8] 45));go_wp2_with fail
   obtain ⟨x0,hx0⟩:∃x0,x0=wr.alloc (.cells #[.int .i64 a0,.int .i64 a1,.int .i64 a2,.int .i64 a3,.int .i64 a4,.int .i64 a5,.int .i64 a6,.int .i64 a7,.int .i64 a8] 45):=⟨_,rfl⟩;rw [←hx0] at HT0 HU1 HM1 HC1;obtain ⟨bt,hbt⟩:∃bt,bt=wr.heap.size:=⟨_,rfl⟩;rw [←hbt] at HT0;have HB:Hid (w.heap.size+2≤bt∧bt<x0.heap.size):=⟨by rw [hbt];have:=lt_of_heap (HC.out.blk.choose_spec.choose_spec);omega,lt_of_heap HT0.out⟩;rw [←hx0,←hbt];clear hx0 hbt HM HC HU g0 g1 g2 g3 g4 g5 g6 g7 g8;refine wp_loop_rounds 4 ?_;rw [rounds_succ];go_wp2_with fail
   have T0:=Lib.hid (show (x0.alloc (.cells #[.int .i64 a0,.int .i64 a1,.int .i64 a2] 43)).heap[x0.heap.size]?=some (.cells #[.int .i64 a0,.int .i64 a1,.int .i64 a2] 43 (0,0)) from heap_alloc_new _ _);have TT0:=Lib.hid (((Upd.refl noBlk x0).alloc (.cells #[.int .i64 a0,.int .i64 a1,.int .i64 a2] 43)).heap HT0.out id);have MM0:=Lib.hid (HM1.out.keep ((Upd.refl noBlk x0).alloc (.cells #[.int .i64 a0,.int .i64 a1,.int .i64 a2] 43)));have CC0:=Lib.hid (HC1.out.keep ((Upd.refl noBlk x0).alloc (.cells #[.int .i64 a0,.int .i64 a1,.int .i64 a2] 43)));have UU0:=Lib.hid (HU1.out.alloc (.cells #[.int .i64 a0,.int .i64 a1,.int .i64 a2] 43));obtain ⟨z0,hz0⟩:∃z0,z0=x0.alloc (.cells #[.int .i64 a0,.int .i64 a1,.int .i64 a2] 43):=⟨_,rfl⟩;rw [←hz0] at T0 TT0 MM0 CC0 UU0;have ZS0:Hid (z0.heap.size=x0.heap.size+1):=by show _=_;rw [hz0];simp
   have HX0:Hid (bt<x0.heap.size):=lt_of_heap HT0.out;rw [←hz0];clear hz0 HT0 HM1 HC1 HU1;refine wp_region_tree 13 (OT.sures [0,1,2,8,3,9,4,10,5,11,6,12,7] .nil) (fun w'=>Gr z0 w') (by kernel_rfl) (by kernel_rfl) (fun c a d v w h=>by cases d<;>exact h) ((Gr.refl z0).drew) ?_
   simp only [OT.sures]
   iterate 13 (apply wpT_sure rfl rfl;focus (intro w' hw';obtain ⟨g0,g1,g2,g3,g4,g5,g6,g7,g8⟩:=cells9 (hw'.heap TT0.out id);obtain ⟨k0,k1,k2⟩:=cells3 (hw'.heap T0.out id);go_simp;rfl))
   refine wpT_nil ?_;have KE0:Hid (okE ((a0,a1,a2),(a3,a4,a5))):=by have:=HKT.out;exact ⟨this.1,this.2.1⟩
   obtain ⟨y0,hr0,hm0,hu0⟩:=(MM0.out.keep (Upd.refl noBlk z0).drew).put (by unfold maxLen;omega) (a:=((a0,a1,a2),(a3,a4,a5))) KE0.out (v:=(a6,a7,a8)) trivial;rw [putAll_snoc] at hm0;have NM0:=Lib.hid hm0;have NU0:=Lib.hid ((Upd.refl _ z0).drew.trans hu0);clear hm0 hu0;have HR:(Instr.mapUpdate 263 (.map (some w.heap.size)) (.agg #[.int .i64 a0,.int .i64 a1,.int .i64 a2,.int .i64 a3,.int .i64 a4,.int .i64 a5]) (.agg #[.int .i64 a6,.int .i64 a7,.int .i64 a8])).run Tryz.prog z0.drew=.ok () y0:=hr0;clear hr0;go_wp2_with fail
   clear HR;have KP0:Hid (okP (a0,a1,a2)):=by have:=HKT.out;exact this.1
   have NC0:=Lib.hid (CC0.out.other NU0.out (by omega));have NT0:=Lib.hid (NU0.out.heap TT0.out (by have:=HB.out;omega));have NP0:=Lib.hid (NU0.out.heap T0.out (by have:=HX0.out;have:=HB.out;omega));have NW0:=Lib.hid (UU0.out.then NU0.out (fun i hi e=>by have e':i=w.heap.size:=e;omega));clear MM0 CC0 UU0 TT0 T0;have hcv0:=cntF_val (C) (a0,a1,a2);obtain ⟨c0,hc0⟩:∃c:Nat,c=(C).count (a0,a1,a2):=⟨_,rfl⟩;rw [←hc0] at hcv0;have hcb0:(c0:Int)≤1000000:=by
    have h1:c0≤(C).length:=hc0 ▸ List.count_le_length;have h2:=HL.out
    (try simp only [List.length_append,List.length_cons,List.length_nil] at h1)
    omega
   obtain ⟨st0,ye0,he0,⟨em0,eu0⟩,hs0⟩:=(NC0.out.keep (Upd.refl noBlk y0).drew).entry2 lawPt (by unfold maxLen;omega) (a:=(a0,a1,a2)) KP0.out;obtain ⟨x1,hs20,sm0,su0⟩:=hs0 ((c0:Int)+1) trivial;have hl00:=(NC0.out.keep (Upd.refl noBlk y0).drew).lookR (a:=(a0,a1,a2)) KP0.out;have hl10:=em0.lookR (a:=(a0,a1,a2)) KP0.out;simp only [if_true,Option.getD_some] at hl10;have hz0:kitAt.zero=0:=rfl;rw [hz0] at he0 hl00 hl10 em0;rw [hcv0] at he0 hl00 hl10 em0;rw [cntF_snoc (C) (a0,a1,a2) (by rw [hc0])] at sm0;have HE0:(Instr.mapEntry 99 (.map (some (w.heap.size+1))) (.agg #[.int .i64 a0,.int .i64 a1,.int .i64 a2])).run Tryz.prog y0.drew=.ok (.tuple #[.int .i64 (c0:Int),.int .i64 (st0:Int)]) ye0:=he0;have HS0:(Instr.entryStore 99 (.map (some (w.heap.size+1))) (.int .i64 (st0:Int)) (.int .i64 ((c0:Int)+1))).run Tryz.prog ye0=.ok () x1:=hs20;have HL00:Hid ((Instr.lookup 99 (.map (some (w.heap.size+1))) (.agg #[.int .i64 a0,.int .i64 a1,.int .i64 a2]) false).run Tryz.prog y0.drew=.ok (.int .i64 (c0:Int)) y0.drew):=hl00;have HL10:Hid ((Instr.lookup 99 (.map (some (w.heap.size+1))) (.agg #[.int .i64 a0,.int .i64 a1,.int .i64 a2]) false).run Tryz.prog ye0=.ok (.int .i64 (c0:Int)) ye0):=hl10;have EU0:=Lib.hid ((Upd.refl _ y0).drew.trans eu0);have SU0:=Lib.hid ((Upd.refl _ y0).drew.trans su0);have HC2:=Lib.hid sm0;clear he0 hs0 hs20 hl00 hl10 em0 eu0 su0 sm0 hcv0 hc0;refine wp_region_tree 6 (OT.sures [0,1,2,3] (.run 4 (OT.sures [5] .nil))) (fun w'=>w'.heap[x0.heap.size]?=some (.cells #[.int .i64 a0,.int .i64 a1,.int .i64 a2] 43 (0,0))∧(Instr.lookup 99 (.map (some (w.heap.size+1))) (.agg #[.int .i64 a0,.int .i64 a1,.int .i64 a2]) false).run Tryz.prog w'=.ok (.int .i64 (c0:Int)) w') (by kernel_rfl) (by kernel_rfl) (fun c a d v w h=>by cases d<;>exact h) ⟨NP0.out,HL00.out⟩ ?_
   simp only [OT.sures]
   iterate 4 (apply wpT_sure rfl rfl;focus (intro w' hw';obtain ⟨hw1,hw2⟩:=hw';obtain ⟨k0,k1,k2⟩:=cells3 hw1;go_simp;rfl))
   refine wpT_run _ (fun _ h=>h) rfl (fun K hK=>?_);go_simp
   refine hK _ _ ⟨⟨EU0.out.heap NP0.out (by have:=HX0.out;have:=HB.out;omega),HL10.out⟩,?_⟩;clear hK K HE0
   (apply wpT_sure rfl rfl;focus (intro w' hw';go_simp;rfl))
   refine wpT_nil ?_;go_wp2_with fail
   rw [HS0];go_wp2_with fail
   clear HS0 HL00 HL10;have HT1:=Lib.hid (SU0.out.heap NT0.out (by have:=HB.out;omega));have HM2:=Lib.hid (NM0.out.other SU0.out (by omega));have HU2:=Lib.hid (NW0.out.then SU0.out (fun i hi e=>by have e':i=w.heap.size+1:=e;omega));clear NT0 NM0 NW0 SU0 EU0 NC0 NP0 NU0 ZS0 KE0 KP0 HX0 hcb0;rw [rounds_succ];go_wp2_with fail
   have T1:=Lib.hid (show (x1.alloc (.cells #[.int .i64 a3,.int .i64 a4,.int .i64 a5] 43)).heap[x1.heap.size]?=some (.cells #[.int .i64 a3,.int .i64 a4,.int .i64 a5] 43 (0,0)) from heap_alloc_new _ _);have TT1:=Lib.hid (((Upd.refl noBlk x1).alloc (.cells #[.int .i64 a3,.int .i64 a4,.int .i64 a5] 43)).heap HT1.out id);have MM1:=Lib.hid (HM2.out.keep ((Upd.refl noBlk x1).alloc (.cells #[.int .i64 a3,.int .i64 a4,.int .i64 a5] 43)));have CC1:=Lib.hid (HC2.out.keep ((Upd.refl noBlk x1).alloc (.cells #[.int .i64 a3,.int .i64 a4,.int .i64 a5] 43)));have UU1:=Lib.hid (HU2.out.alloc (.cells #[.int .i64 a3,.int .i64 a4,.int .i64 a5] 43));obtain ⟨z1,hz1⟩:∃z1,z1=x1.alloc (.cells #[.int .i64 a3,.int .i64 a4,.int .i64 a5] 43):=⟨_,rfl⟩;rw [←hz1] at T1 TT1 MM1 CC1 UU1;have ZS1:Hid (z1.heap.size=x1.heap.size+1):=by show _=_;rw [hz1];simp
   have HX1:Hid (bt<x1.heap.size):=lt_of_heap HT1.out;rw [←hz1];clear hz1 HT1 HM2 HC2 HU2;refine wp_region_tree 13 (OT.sures [0,1,2,8,3,9,4,10,5,11,6,12,7] .nil) (fun w'=>Gr z1 w') (by kernel_rfl) (by kernel_rfl) (fun c a d v w h=>by cases d<;>exact h) ((Gr.refl z1).drew) ?_
   simp only [OT.sures]
   iterate 13 (apply wpT_sure rfl rfl;focus (intro w' hw';obtain ⟨g0,g1,g2,g3,g4,g5,g6,g7,g8⟩:=cells9 (hw'.heap TT1.out id);obtain ⟨k0,k1,k2⟩:=cells3 (hw'.heap T1.out id);go_simp;rfl))
   refine wpT_nil ?_;have KE1:Hid (okE ((a3,a4,a5),(a6,a7,a8))):=by have:=HKT.out;exact ⟨this.2.1,this.2.2⟩
   obtain ⟨y1,hr1,hm1,hu1⟩:=(MM1.out.keep (Upd.refl noBlk z1).drew).put (by unfold maxLen;omega) (a:=((a3,a4,a5),(a6,a7,a8))) KE1.out (v:=(a0,a1,a2)) trivial;rw [putAll_snoc] at hm1;have NM1:=Lib.hid hm1;have NU1:=Lib.hid ((Upd.refl _ z1).drew.trans hu1);clear hm1 hu1;have HR:(Instr.mapUpdate 263 (.map (some w.heap.size)) (.agg #[.int .i64 a3,.int .i64 a4,.int .i64 a5,.int .i64 a6,.int .i64 a7,.int .i64 a8]) (.agg #[.int .i64 a0,.int .i64 a1,.int .i64 a2])).run Tryz.prog z1.drew=.ok () y1:=hr1;clear hr1;go_wp2_with fail
   clear HR;have KP1:Hid (okP (a3,a4,a5)):=by have:=HKT.out;exact this.2.1
   have NC1:=Lib.hid (CC1.out.other NU1.out (by omega));have NT1:=Lib.hid (NU1.out.heap TT1.out (by have:=HB.out;omega));have NP1:=Lib.hid (NU1.out.heap T1.out (by have:=HX1.out;have:=HB.out;omega));have NW1:=Lib.hid (UU1.out.then NU1.out (fun i hi e=>by have e':i=w.heap.size:=e;omega));clear MM1 CC1 UU1 TT1 T1;have hcv1:=cntF_val (C++[(a0,a1,a2)]) (a3,a4,a5);obtain ⟨c1,hc1⟩:∃c:Nat,c=(C++[(a0,a1,a2)]).count (a3,a4,a5):=⟨_,rfl⟩;rw [←hc1] at hcv1;have hcb1:(c1:Int)≤1000000:=by
    have h1:c1≤(C++[(a0,a1,a2)]).length:=hc1 ▸ List.count_le_length;have h2:=HL.out
    (try simp only [List.length_append,List.length_cons,List.length_nil] at h1)
    omega
   obtain ⟨st1,ye1,he1,⟨em1,eu1⟩,hs1⟩:=(NC1.out.keep (Upd.refl noBlk y1).drew).entry2 lawPt (by unfold maxLen;omega) (a:=(a3,a4,a5)) KP1.out;obtain ⟨x2,hs21,sm1,su1⟩:=hs1 ((c1:Int)+1) trivial;have hl01:=(NC1.out.keep (Upd.refl noBlk y1).drew).lookR (a:=(a3,a4,a5)) KP1.out;have hl11:=em1.lookR (a:=(a3,a4,a5)) KP1.out;simp only [if_true,Option.getD_some] at hl11;have hz0:kitAt.zero=0:=rfl;rw [hz0] at he1 hl01 hl11 em1;rw [hcv1] at he1 hl01 hl11 em1;rw [cntF_snoc (C++[(a0,a1,a2)]) (a3,a4,a5) (by rw [hc1])] at sm1;have HE1:(Instr.mapEntry 99 (.map (some (w.heap.size+1))) (.agg #[.int .i64 a3,.int .i64 a4,.int .i64 a5])).run Tryz.prog y1.drew=.ok (.tuple #[.int .i64 (c1:Int),.int .i64 (st1:Int)]) ye1:=he1;have HS1:(Instr.entryStore 99 (.map (some (w.heap.size+1))) (.int .i64 (st1:Int)) (.int .i64 ((c1:Int)+1))).run Tryz.prog ye1=.ok () x2:=hs21;have HL01:Hid ((Instr.lookup 99 (.map (some (w.heap.size+1))) (.agg #[.int .i64 a3,.int .i64 a4,.int .i64 a5]) false).run Tryz.prog y1.drew=.ok (.int .i64 (c1:Int)) y1.drew):=hl01;have HL11:Hid ((Instr.lookup 99 (.map (some (w.heap.size+1))) (.agg #[.int .i64 a3,.int .i64 a4,.int .i64 a5]) false).run Tryz.prog ye1=.ok (.int .i64 (c1:Int)) ye1):=hl11;have EU1:=Lib.hid ((Upd.refl _ y1).drew.trans eu1);have SU1:=Lib.hid ((Upd.refl _ y1).drew.trans su1);have HC3:=Lib.hid sm1;clear he1 hs1 hs21 hl01 hl11 em1 eu1 su1 sm1 hcv1 hc1;refine wp_region_tree 6 (OT.sures [0,1,2,3] (.run 4 (OT.sures [5] .nil))) (fun w'=>w'.heap[x1.heap.size]?=some (.cells #[.int .i64 a3,.int .i64 a4,.int .i64 a5] 43 (0,0))∧(Instr.lookup 99 (.map (some (w.heap.size+1))) (.agg #[.int .i64 a3,.int .i64 a4,.int .i64 a5]) false).run Tryz.prog w'=.ok (.int .i64 (c1:Int)) w') (by kernel_rfl) (by kernel_rfl) (fun c a d v w h=>by cases d<;>exact h) ⟨NP1.out,HL01.out⟩ ?_
   simp only [OT.sures]
   iterate 4 (apply wpT_sure rfl rfl;focus (intro w' hw';obtain ⟨hw1,hw2⟩:=hw';obtain ⟨k0,k1,k2⟩:=cells3 hw1;go_simp;rfl))
   refine wpT_run _ (fun _ h=>h) rfl (fun K hK=>?_);go_simp
   refine hK _ _ ⟨⟨EU1.out.heap NP1.out (by have:=HX1.out;have:=HB.out;omega),HL11.out⟩,?_⟩;clear hK K HE1
   (apply wpT_sure rfl rfl;focus (intro w' hw';go_simp;rfl))
   refine wpT_nil ?_;go_wp2_with fail
   rw [HS1];go_wp2_with fail
   clear HS1 HL01 HL11;have HT2:=Lib.hid (SU1.out.heap NT1.out (by have:=HB.out;omega));have HM3:=Lib.hid (NM1.out.other SU1.out (by omega));have HU3:=Lib.hid (NW1.out.then SU1.out (fun i hi e=>by have e':i=w.heap.size+1:=e;omega));clear NT1 NM1 NW1 SU1 EU1 NC1 NP1 NU1 ZS1 KE1 KP1 HX1 hcb1;rw [rounds_succ];go_wp2_with fail
   have T2:=Lib.hid (show (x2.alloc (.cells #[.int .i64 a6,.int .i64 a7,.int .i64 a8] 43)).heap[x2.heap.size]?=some (.cells #[.int .i64 a6,.int .i64 a7,.int .i64 a8] 43 (0,0)) from heap_alloc_new _ _);have TT2:=Lib.hid (((Upd.refl noBlk x2).alloc (.cells #[.int .i64 a6,.int .i64 a7,.int .i64 a8] 43)).heap HT2.out id);have MM2:=Lib.hid (HM3.out.keep ((Upd.refl noBlk x2).alloc (.cells #[.int .i64 a6,.int .i64 a7,.int .i64 a8] 43)));have CC2:=Lib.hid (HC3.out.keep ((Upd.refl noBlk x2).alloc (.cells #[.int .i64 a6,.int .i64 a7,.int .i64 a8] 43)));have UU2:=Lib.hid (HU3.out.alloc (.cells #[.int .i64 a6,.int .i64 a7,.int .i64 a8] 43));obtain ⟨z2,hz2⟩:∃z2,z2=x2.alloc (.cells #[.int .i64 a6,.int .i64 a7,.int .i64 a8] 43):=⟨_,rfl⟩;rw [←hz2] at T2 TT2 MM2 CC2 UU2;have ZS2:Hid (z2.heap.size=x2.heap.size+1):=by show _=_;rw [hz2];simp
   have HX2:Hid (bt<x2.heap.size):=lt_of_heap HT2.out;rw [←hz2];clear hz2 HT2 HM3 HC3 HU3;refine wp_region_tree 13 (OT.sures [0,1,2,8,3,9,4,10,5,11,6,12,7] .nil) (fun w'=>Gr z2 w') (by kernel_rfl) (by kernel_rfl) (fun c a d v w h=>by cases d<;>exact h) ((Gr.refl z2).drew) ?_
   simp only [OT.sures]
   iterate 13 (apply wpT_sure rfl rfl;focus (intro w' hw';obtain ⟨g0,g1,g2,g3,g4,g5,g6,g7,g8⟩:=cells9 (hw'.heap TT2.out id);obtain ⟨k0,k1,k2⟩:=cells3 (hw'.heap T2.out id);go_simp;rfl))
   refine wpT_nil ?_;have KE2:Hid (okE ((a6,a7,a8),(a0,a1,a2))):=by have:=HKT.out;exact ⟨this.2.2,this.1⟩
   obtain ⟨y2,hr2,hm2,hu2⟩:=(MM2.out.keep (Upd.refl noBlk z2).drew).put (by unfold maxLen;omega) (a:=((a6,a7,a8),(a0,a1,a2))) KE2.out (v:=(a3,a4,a5)) trivial;rw [putAll_snoc] at hm2;have NM2:=Lib.hid hm2;have NU2:=Lib.hid ((Upd.refl _ z2).drew.trans hu2);clear hm2 hu2;have HR:(Instr.mapUpdate 263 (.map (some w.heap.size)) (.agg #[.int .i64 a6,.int .i64 a7,.int .i64 a8,.int .i64 a0,.int .i64 a1,.int .i64 a2]) (.agg #[.int .i64 a3,.int .i64 a4,.int .i64 a5])).run Tryz.prog z2.drew=.ok () y2:=hr2;clear hr2;go_wp2_with fail
   clear HR;have KP2:Hid (okP (a6,a7,a8)):=by have:=HKT.out;exact this.2.2
   have NC2:=Lib.hid (CC2.out.other NU2.out (by omega));have NT2:=Lib.hid (NU2.out.heap TT2.out (by have:=HB.out;omega));have NP2:=Lib.hid (NU2.out.heap T2.out (by have:=HX2.out;have:=HB.out;omega));have NW2:=Lib.hid (UU2.out.then NU2.out (fun i hi e=>by have e':i=w.heap.size:=e;omega));clear MM2 CC2 UU2 TT2 T2;have hcv2:=cntF_val (C++[(a0,a1,a2)]++[(a3,a4,a5)]) (a6,a7,a8);obtain ⟨c2,hc2⟩:∃c:Nat,c=(C++[(a0,a1,a2)]++[(a3,a4,a5)]).count (a6,a7,a8):=⟨_,rfl⟩;rw [←hc2] at hcv2;have hcb2:(c2:Int)≤1000000:=by
    have h1:c2≤(C++[(a0,a1,a2)]++[(a3,a4,a5)]).length:=hc2 ▸ List.count_le_length;have h2:=HL.out
    (try simp only [List.length_append,List.length_cons,List.length_nil] at h1)
    omega
   obtain ⟨st2,ye2,he2,⟨em2,eu2⟩,hs2⟩:=(NC2.out.keep (Upd.refl noBlk y2).drew).entry2 lawPt (by unfold maxLen;omega) (a:=(a6,a7,a8)) KP2.out;obtain ⟨x3,hs22,sm2,su2⟩:=hs2 ((c2:Int)+1) trivial;have hl02:=(NC2.out.keep (Upd.refl noBlk y2).drew).lookR (a:=(a6,a7,a8)) KP2.out;have hl12:=em2.lookR (a:=(a6,a7,a8)) KP2.out;simp only [if_true,Option.getD_some] at hl12;have hz0:kitAt.zero=0:=rfl;rw [hz0] at he2 hl02 hl12 em2;rw [hcv2] at he2 hl02 hl12 em2;rw [cntF_snoc (C++[(a0,a1,a2)]++[(a3,a4,a5)]) (a6,a7,a8) (by rw [hc2])] at sm2;have HE2:(Instr.mapEntry 99 (.map (some (w.heap.size+1))) (.agg #[.int .i64 a6,.int .i64 a7,.int .i64 a8])).run Tryz.prog y2.drew=.ok (.tuple #[.int .i64 (c2:Int),.int .i64 (st2:Int)]) ye2:=he2;have HS2:(Instr.entryStore 99 (.map (some (w.heap.size+1))) (.int .i64 (st2:Int)) (.int .i64 ((c2:Int)+1))).run Tryz.prog ye2=.ok () x3:=hs22;have HL02:Hid ((Instr.lookup 99 (.map (some (w.heap.size+1))) (.agg #[.int .i64 a6,.int .i64 a7,.int .i64 a8]) false).run Tryz.prog y2.drew=.ok (.int .i64 (c2:Int)) y2.drew):=hl02;have HL12:Hid ((Instr.lookup 99 (.map (some (w.heap.size+1))) (.agg #[.int .i64 a6,.int .i64 a7,.int .i64 a8]) false).run Tryz.prog ye2=.ok (.int .i64 (c2:Int)) ye2):=hl12;have EU2:=Lib.hid ((Upd.refl _ y2).drew.trans eu2);have SU2:=Lib.hid ((Upd.refl _ y2).drew.trans su2);have HC4:=Lib.hid sm2;clear he2 hs2 hs22 hl02 hl12 em2 eu2 su2 sm2 hcv2 hc2;refine wp_region_tree 6 (OT.sures [0,1,2,3] (.run 4 (OT.sures [5] .nil))) (fun w'=>w'.heap[x2.heap.size]?=some (.cells #[.int .i64 a6,.int .i64 a7,.int .i64 a8] 43 (0,0))∧(Instr.lookup 99 (.map (some (w.heap.size+1))) (.agg #[.int .i64 a6,.int .i64 a7,.int .i64 a8]) false).run Tryz.prog w'=.ok (.int .i64 (c2:Int)) w') (by kernel_rfl) (by kernel_rfl) (fun c a d v w h=>by cases d<;>exact h) ⟨NP2.out,HL02.out⟩ ?_
   simp only [OT.sures]
   iterate 4 (apply wpT_sure rfl rfl;focus (intro w' hw';obtain ⟨hw1,hw2⟩:=hw';obtain ⟨k0,k1,k2⟩:=cells3 hw1;go_simp;rfl))
   refine wpT_run _ (fun _ h=>h) rfl (fun K hK=>?_);go_simp
   refine hK _ _ ⟨⟨EU2.out.heap NP2.out (by have:=HX2.out;have:=HB.out;omega),HL12.out⟩,?_⟩;clear hK K HE2
   (apply wpT_sure rfl rfl;focus (intro w' hw';go_simp;rfl))
   refine wpT_nil ?_;go_wp2_with fail
   rw [HS2];go_wp2_with fail
   clear HS2 HL02 HL12;have HT3:=Lib.hid (SU2.out.heap NT2.out (by have:=HB.out;omega));have HM4:=Lib.hid (NM2.out.other SU2.out (by omega));have HU4:=Lib.hid (NW2.out.then SU2.out (fun i hi e=>by have e':i=w.heap.size+1:=e;omega));clear NT2 NM2 NW2 SU2 EU2 NC2 NP2 NU2 ZS2 KE2 KP2 HX2 hcb2;rw [rounds_succ];go_wp2_with fail
   refine ⟨⟨k+1,by go_num,hlt,?_,?_,HU4.out⟩,by simp [intOf];omega⟩
   ·rw [HT.out];exact HM4.out
   ·rw [HK.out];exact HC4.out
  ·obtain rfl:k=l.length:=by omega
   have hm2:=HM.out;have hc2:=HC.out;rw [List.take_length] at hm2 hc2;have HP:=Lib.hid (putAll_pairs hnd);obtain ⟨F,hF⟩:∃F,F=putAll (pairsL l):=⟨_,rfl⟩;obtain ⟨G,hG⟩:∃G,G=cntF (l.flatMap cornT):=⟨_,rfl⟩;have HGV:Hid (∀p,(G p).getD 0=((manyC l p:Nat):Int)):=fun p=>by rw [hG];exact cntF_val _ _
   have HFS:Hid (∀e,(F e).isSome=true↔e∈edgesL l):=fun e=>by
    rw [hF,HP.out,third_isSome,decide_eq_true_eq]
   have HFV:Hid (∀e r,F e=some r→okP r):=fun e r h=>by
    rw [hF,HP.out] at h;obtain ⟨t,k1,k2⟩:=third_some h;obtain ⟨o1,o2,o3⟩:=HOK.out t k1;rcases k2 with k2 | k2 | k2
    ·have e3:r=t.2.2:=congrArg (fun x:Tri=>x.2.2) k2;rw [e3];exact o3
    ·have e3:r=t.1:=congrArg (fun x:Tri=>x.2.2) k2;rw [e3];exact o1
    ·have e3:r=t.2.1:=congrArg (fun x:Tri=>x.2.2) k2;rw [e3];exact o2
   rw [←hF] at hm2 HP;rw [←hG] at hc2;clear hF hG HM HC;have HM:=Lib.hid hm2;have HC:=Lib.hid hc2;clear hm2 hc2;go_wp2_with (at_range;refine HM.out.range rfl _ rfl rfl ?_;intro w0 cnt0 hrg0 hg0 hs0)
   have HR0:=Lib.hid hrg0;have HU0b:Hid (Upd noBlk wr w0):=upd_of_grown hg0 (fun j hj _=>by cases hj);have HC0b:=Lib.hid (HC.out.keep HU0b.out);have HU0c:=Lib.hid (HU.out.trans HU0b.out);obtain ⟨rb,hrb⟩:∃rb,rb=wr.heap.size:=⟨_,rfl⟩;have HRB:Hid (w.heap.size+2≤rb):=by have:=lt_of_heap (HC.out.blk.choose_spec.choose_spec);show _≤_;omega
   rw [←hrb] at HR0;rw [←hrb];clear hrg0 hg0 hs0 hrb HC0 HU0 HM HC HU HM0 HU0b;go_frame
   go_loopw [10] (fun _ wq=>∃(left:Ed→Bool) (cnt:Nat),kitNext.Rng wq w.heap.size rb (3*l.length) F left cnt∧kitAt.At wq (w.heap.size+1) (3*l.length) G∧Upd noBlk w wq∧∀e,okE e→(F e).isSome=true→left e=false→hitE l e=false) (fun _ wq=>wq.rangeLeft w.heap.size rb)
   case atStart=>exact ⟨_,_,HR0.out,HC0b.out,HU0c.out,fun e _ h1 h2=>by rw [h1] at h2;cases h2⟩
   case round=>
    obtain ⟨left,cnt,hr,hc,hu,hl⟩:=hrel;have HC:=Lib.hid hc;have HU:=Lib.hid hu;have HL:=Lib.hid hl;clear hc hu hl HC0b HU0c HR0;go_wp2_with (at_next;refine hr.nextH rfl _ rfl rfl ?_ ?_)
    ·show _→_→_;intro hc0 hl0;have hv:pinched l=false:=by
      rw [pinched_any,List.any_eq_false];intro e he;obtain ⟨t,k1,k2⟩:=mem_edgesL.1 he;have hoke:okE e:=by
       obtain ⟨o1,o2,o3⟩:=HOK.out t k1;simp only [edgesT,List.mem_cons,List.not_mem_nil,or_false] at k2;rcases k2 with rfl | rfl | rfl
       ·exact ⟨o1,o2⟩
       ·exact ⟨o2,o3⟩
       ·exact ⟨o3,o1⟩
      rw [HL.out e hoke ((HFS.out e).2 he) (hl0 _ _ _ _ _ _ hoke)];simp
     have HV:=Lib.hid hv;clear hr hc0 hl0 hv;go_wp2_with fail
     go_ret
     exact ⟨by rw [HV.out];rfl,HU.out⟩
    ·intro b0 b1 b2 b3 b4 b5 p0 p1 p2 w1 cnt1 ge hle hfe hr1 hlt1 hg1 hs1 hen;have GE:Hid (okE ((b0,b1,b2),(b3,b4,b5))):=ge;have HFE:=Lib.hid hfe;have HR1:=Lib.hid hr1;have HLT:=Lib.hid hlt1;have HLE:=Lib.hid hle;have HG1:Hid (Upd (fun j=>j=rb) wr w1):=upd_of_grown hg1 (fun j hj _=>(Option.some.inj hj).symm);have HLC:=Lib.hid hr.left_eq;have HC1b:=Lib.hid (HC.out.other HG1.out (by have:=HRB.out;omega));have HU1b:=Lib.hid (HU.out.then HG1.out (fun i hi e=>by have e':i=rb:=e;have:=HRB.out;omega));clear ge hfe hr1 hlt1 hle hg1 hs1 hr HG1 HC HU;have hA:=(Upd.refl noBlk w1).alloc (.cells #[.int .i64 b0,.int .i64 b1,.int .i64 b2,.int .i64 b3,.int .i64 b4,.int .i64 b5] 258);have hlk:=(HR1.out.keep hA).at.lookR (a:=((b0,b1,b2),(b3,b4,b5))) GE.out;rw [HFE.out] at hlk;have HK1:(Instr.lookup 263 (.map (some w.heap.size)) (.agg #[.int .i64 b0,.int .i64 b1,.int .i64 b2,.int .i64 b3,.int .i64 b4,.int .i64 b5]) false).run Tryz.prog (w1.alloc (.cells #[.int .i64 b0,.int .i64 b1,.int .i64 b2,.int .i64 b3,.int .i64 b4,.int .i64 b5] 258))=.ok (.agg #[.int .i64 p0,.int .i64 p1,.int .i64 p2]) (w1.alloc (.cells #[.int .i64 b0,.int .i64 b1,.int .i64 b2,.int .i64 b3,.int .i64 b4,.int .i64 b5] 258)):=hlk;have hen1:(Instr.entry (.pointer (some ⟨rb,0,none⟩))).run Tryz.prog w1=.ok (.tuple #[.agg #[.int .i64 b0,.int .i64 b1,.int .i64 b2,.int .i64 b3,.int .i64 b4,.int .i64 b5],.agg #[.int .i64 p0,.int .i64 p1,.int .i64 p2]]) w1:=hen;clear hlk hen hA;have e1:kitNext.encK ((b0,b1,b2),(b3,b4,b5))=.agg #[.int .i64 b0,.int .i64 b1,.int .i64 b2,.int .i64 b3,.int .i64 b4,.int .i64 b5]:=rfl;have e2:kitNext.encV (p0,p1,p2)=.agg #[.int .i64 p0,.int .i64 p1,.int .i64 p2]:=rfl;rw [e1,e2];clear e1 e2;go_upto_block 6 with fail
     clear HK1 hen1;obtain ⟨M,hM⟩:∃M,M=manyC l (b0,b1,b2):=⟨_,rfl⟩;have HMB:Hid (M≤300000):=by
      show _≤_;have h1:M≤(l.flatMap cornT).length:=hM ▸ List.count_le_length;rw [corners_len] at h1;omega
     have HGM:=Lib.hid (HGV.out (b0,b1,b2));rw [←hM] at HGM;have HT3:Hid (third l (b0,b1,b2) (b3,b4,b5)=some (p0,p1,p2)):=by show _=_;rw [←HFE.out,HP.out]
     have HRING:Hid (ringLoop l (b0,b1,b2) (b3,b4,b5) M (M+1-1) 1 (p0,p1,p2)=hitE l ((b0,b1,b2),(b3,b4,b5))):=by
      have:=ring_prog l ((b0,b1,b2),(b3,b4,b5)) HT3.out;show _=_;rw [Nat.add_sub_cancel,hM];exact this
     obtain ⟨HE,hHE⟩:∃HE,HE=hitE l ((b0,b1,b2),(b3,b4,b5)):=⟨_,rfl⟩;rw [←hHE] at HRING;have HHE:=Lib.hid hHE;clear hM hHE;have hA2:=((Upd.refl noBlk w1).alloc (.cells #[.int .i64 b0,.int .i64 b1,.int .i64 b2,.int .i64 b3,.int .i64 b4,.int .i64 b5] 258)).alloc (.cells #[.int .i64 p0,.int .i64 p1,.int .i64 p2] 43);have HR2:=Lib.hid (HR1.out.keep hA2);have HC2:=Lib.hid (HC1b.out.keep hA2);have HU2:=Lib.hid (HU1b.out.trans hA2);have HE1:Hid (((w1.alloc (.cells #[.int .i64 b0,.int .i64 b1,.int .i64 b2,.int .i64 b3,.int .i64 b4,.int .i64 b5] 258)).alloc (.cells #[.int .i64 p0,.int .i64 p1,.int .i64 p2] 43)).heap[w1.heap.size]?=some (.cells #[.int .i64 b0,.int .i64 b1,.int .i64 b2,.int .i64 b3,.int .i64 b4,.int .i64 b5] 258 (0,0))):=((Upd.refl noBlk _).alloc _).heap (heap_alloc_new w1 (.cells #[.int .i64 b0,.int .i64 b1,.int .i64 b2,.int .i64 b3,.int .i64 b4,.int .i64 b5] 258)) id;have HP1:Hid (((w1.alloc (.cells #[.int .i64 b0,.int .i64 b1,.int .i64 b2,.int .i64 b3,.int .i64 b4,.int .i64 b5] 258)).alloc (.cells #[.int .i64 p0,.int .i64 p1,.int .i64 p2] 43)).heap[w1.heap.size+1]?=some (.cells #[.int .i64 p0,.int .i64 p1,.int .i64 p2] 43 (0,0))):=by
      have:=heap_alloc_new (w1.alloc (.cells #[.int .i64 b0,.int .i64 b1,.int .i64 b2,.int .i64 b3,.int .i64 b4,.int .i64 b5] 258)) (.cells #[.int .i64 p0,.int .i64 p1,.int .i64 p2] 43);rw [World.size_alloc] at this;exact this
     clear hA2;have HBE:Hid (w.heap.size+2≤w1.heap.size∧rb<w1.heap.size):=⟨by have:=lt_of_heap (HC1b.out.blk.choose_spec.choose_spec);show _≤_;omega,by
      obtain ⟨D,ll,h1,_⟩:=HR1.out;exact h1.lt⟩
     generalize w1.heap.size=be at *;generalize (w1.alloc (.cells #[.int .i64 b0,.int .i64 b1,.int .i64 b2,.int .i64 b3,.int .i64 b4,.int .i64 b5] 258)).alloc (.cells #[.int .i64 p0,.int .i64 p1,.int .i64 p2] 43)=x2 at *;go_cut [10] (fun s wz=>∃(sz:Nat) (q:Pt),s=.int .i64 sz∧sz≤M+1∧wz.heap[be+1]?=some (.cells #[.int .i64 q.1,.int .i64 q.2.1,.int .i64 q.2.2] 43 (0,0))∧wz.heap[be]?=some (.cells #[.int .i64 b0,.int .i64 b1,.int .i64 b2,.int .i64 b3,.int .i64 b4,.int .i64 b5] 258 (0,0))∧kitNext.Rng wz w.heap.size rb (3*l.length) F (fun c=>left c&&!decide (c=((b0,b1,b2),(b3,b4,b5)))) cnt1∧kitAt.At wz (w.heap.size+1) (3*l.length) G∧Upd noBlk w wz∧decide (q=(b3,b4,b5)∧sz<M)=HE)
     case first=>
      go_wp2_with fail
      go_loopw [10] (fun s wz=>∃(sz:Nat) (q:Pt),s=.int .i64 sz∧sz≤M+1∧wz.heap[be+1]?=some (.cells #[.int .i64 q.1,.int .i64 q.2.1,.int .i64 q.2.2] 43 (0,0))∧wz.heap[be]?=some (.cells #[.int .i64 b0,.int .i64 b1,.int .i64 b2,.int .i64 b3,.int .i64 b4,.int .i64 b5] 258 (0,0))∧kitNext.Rng wz w.heap.size rb (3*l.length) F (fun c=>left c&&!decide (c=((b0,b1,b2),(b3,b4,b5)))) cnt1∧kitAt.At wz (w.heap.size+1) (3*l.length) G∧Upd noBlk w wz∧okP q∧ringLoop l (b0,b1,b2) (b3,b4,b5) M (M+1-sz) sz q=HE) (fun s _=>M+2-(intOf s).toNat)
      case atStart=>exact ⟨1,(p0,p1,p2),rfl,by omega,HP1.out,HE1.out,HR2.out,HC2.out,HU2.out,HFV.out _ _ HFE.out,HRING.out⟩
      case round=>
       obtain ⟨sz,⟨q0,q1,q2⟩,rfl,h1,h2,h3,h4,h5,h6,h8,h7⟩:=hrel;have HOQ:=Lib.hid h8;have HQ:=Lib.hid h2;have HE2:=Lib.hid h3;have HR:=Lib.hid h4;have HC:=Lib.hid h5;have HU:=Lib.hid h6;have HG:=Lib.hid h7;have hsz0:(sz:Int)≤300001:=by have:=HMB.out;omega
       have HSZ:=Lib.hid h1;clear h1 h2 h3 h4 h5 h6 h7 h8 HR2 HC2 HU2 HE1 HP1 HRING;simp only at HQ;obtain ⟨⟨k0,k1,k2⟩,⟨z0,z1,z2⟩⟩:=cellsF3 HQ.out;obtain ⟨g0,g1,g2,g3,g4,g5⟩:=cells6 HE2.out;have hmany:=HC.out.lookR (a:=(b0,b1,b2)) GE.out.1;have hkz:kitAt.zero=0:=rfl;rw [hkz,HGM.out] at hmany;have HK1:(Instr.lookup 99 (.map (some (w.heap.size+1))) (.agg #[.int .i64 b0,.int .i64 b1,.int .i64 b2]) false).run Tryz.prog wr=.ok (.int .i64 (M:Int)) wr:=hmany;clear hmany hkz;by_cases hq:q0=b3∧q1=b4∧q2=b5
       ·obtain ⟨rfl,rfl,rfl⟩:=hq;go_wp2_with fail
        go_meet
        refine ⟨sz,(q0,q1,q2),rfl,HSZ.out,HQ.out,HE2.out,HR.out,HC.out,HU.out,?_⟩;rw [←HG.out];rcases hf:M+1-sz with _ | f
        ·rw [ringLoop]
        ·rw [ringLoop,if_neg (fun h=>h.1 rfl)]
       ·by_cases hsz:sz≤M
        ·have hsz':(sz:Int)≤(M:Int):=by omega
         have hne:q0≠b3∨(q0=b3∧q1≠b4)∨(q0=b3∧q1=b4∧q2≠b5):=by
          by_cases e0:q0=b3
          ·by_cases e1:q1=b4
           ·exact .inr (.inr ⟨e0,e1,fun e2=>hq ⟨e0,e1,e2⟩⟩)
           ·exact .inr (.inl ⟨e0,e1⟩)
          ·exact .inl e0
         obtain ⟨f,hf⟩:∃f,M+1-sz=f+1:=⟨M-sz,by omega⟩;have HF2:=Lib.hid hf;have HSZ2:=Lib.hid hsz;clear hf hq hsz;rcases hne with he | ⟨rfl,he⟩ | ⟨rfl,rfl,he⟩
         ·have KE:Hid (okE ((b0,b1,b2),(q0,q1,q2))):=⟨GE.out.1,HOQ.out⟩;have HG2:=HG.out;rw [HF2.out,ringLoop,if_pos ⟨fun e=>he (congrArg (fun x:Pt=>x.1) e),HSZ2.out⟩] at HG2;have hlk:=HR.out.at.lookOkR (a:=((b0,b1,b2),(q0,q1,q2))) KE.out;rw [HP.out] at hlk;simp only at hlk;rcases h3:third l (b0,b1,b2) (q0,q1,q2) with _ | ⟨r0,r1,r2⟩
          ·rw [h3] at hlk HG2;have HK2:(Instr.lookup 263 (.map (some w.heap.size)) (.agg #[.int .i64 b0,.int .i64 b1,.int .i64 b2,.int .i64 q0,.int .i64 q1,.int .i64 q2]) true).run Tryz.prog wr=.ok (.tuple #[.agg #[.int .i64 0,.int .i64 0,.int .i64 0],.bool false]) wr:=hlk;have HG3:=Lib.hid HG2;clear hlk HG2 h3;go_wp2_with fail
           go_meet
           have hA:=(Upd.refl noBlk wr).alloc (.cells #[.int .i64 0,.int .i64 0,.int .i64 0] 43);exact ⟨sz,(q0,q1,q2),rfl,HSZ.out,hA.heap HQ.out id,hA.heap HE2.out id,HR.out.keep hA,HC.out.keep hA,HU.out.trans hA,HG3.out⟩
          ·rw [h3] at hlk HG2;have HK2:(Instr.lookup 263 (.map (some w.heap.size)) (.agg #[.int .i64 b0,.int .i64 b1,.int .i64 b2,.int .i64 q0,.int .i64 q1,.int .i64 q2]) true).run Tryz.prog wr=.ok (.tuple #[.agg #[.int .i64 r0,.int .i64 r1,.int .i64 r2],.bool true]) wr:=hlk;have HG3:=Lib.hid HG2;have HFV2:Hid (okP (r0,r1,r2)):=HFV.out ((b0,b1,b2),(q0,q1,q2)) _ (by rw [HP.out];exact h3);have hA:=(Upd.refl noBlk wr).alloc (.cells #[.int .i64 r0,.int .i64 r1,.int .i64 r2] 43);obtain ⟨⟨kk0,kk1,kk2⟩,⟨zz0,zz1,zz2⟩⟩:=cellsF3 (hA.heap HQ.out id);have HQ2:=Lib.hid (hA.heap HQ.out id);have HE3:=Lib.hid (hA.heap HE2.out id);have HR3:=Lib.hid (HR.out.keep hA);have HC3:=Lib.hid (HC.out.keep hA);have HU3:=Lib.hid (HU.out.trans hA);clear hlk HG2 h3 hA;go_wp2_with fail
           have hP:=post3 (Q:=fun wz=>wz.heap[be+1]?=some (.cells #[.int .i64 r0,.int .i64 r1,.int .i64 r2] 43 (0,0))∧Upd (fun j=>j=be+1) (wr.alloc (.cells #[.int .i64 r0,.int .i64 r1,.int .i64 r2] 43)) wz) (y0:=.int .i64 r0) (y1:=.int .i64 r1) (y2:=.int .i64 r2) HQ2.out (fun wz h1 h2=>⟨h1,h2⟩);generalize (((wr.alloc (.cells #[.int .i64 r0,.int .i64 r1,.int .i64 r2] 43)).setCell ⟨be+1,0,none⟩ (.int .i64 r0)).setCell ⟨be+1,1,none⟩ (.int .i64 r1)).setCell ⟨be+1,2,none⟩ (.int .i64 r2)=wz at hP ⊢;obtain ⟨hP1,hP2⟩:=hP;have hb1:=HBE.out;have hs1:=HSZ2.out;have hf1:=HF2.out;refine ⟨⟨sz+1,(r0,r1,r2),by go_num,by omega,hP1,hP2.heap HE3.out (by omega),HR3.out.other hP2 (by omega) (by omega),HC3.out.other hP2 (by omega),HU3.out.then hP2 (fun i hi e=>by have e':i=be+1:=e;omega),HFV2.out,?_⟩,by simp [intOf];omega⟩;rw [show M+1-(sz+1)=f by omega];exact HG3.out
         ·have KE:Hid (okE ((b0,b1,b2),(q0,q1,q2))):=⟨GE.out.1,HOQ.out⟩;have HG2:=HG.out;rw [HF2.out,ringLoop,if_pos ⟨fun e=>he (congrArg (fun x:Pt=>x.2.1) e),HSZ2.out⟩] at HG2;have hlk:=HR.out.at.lookOkR (a:=((b0,b1,b2),(q0,q1,q2))) KE.out;rw [HP.out] at hlk;simp only at hlk;rcases h3:third l (b0,b1,b2) (q0,q1,q2) with _ | ⟨r0,r1,r2⟩
          ·rw [h3] at hlk HG2;have HK2:(Instr.lookup 263 (.map (some w.heap.size)) (.agg #[.int .i64 b0,.int .i64 b1,.int .i64 b2,.int .i64 q0,.int .i64 q1,.int .i64 q2]) true).run Tryz.prog wr=.ok (.tuple #[.agg #[.int .i64 0,.int .i64 0,.int .i64 0],.bool false]) wr:=hlk;have HG3:=Lib.hid HG2;clear hlk HG2 h3;go_wp2_with fail
           go_meet
           have hA:=(Upd.refl noBlk wr).alloc (.cells #[.int .i64 0,.int .i64 0,.int .i64 0] 43);exact ⟨sz,(q0,q1,q2),rfl,HSZ.out,hA.heap HQ.out id,hA.heap HE2.out id,HR.out.keep hA,HC.out.keep hA,HU.out.trans hA,HG3.out⟩
          ·rw [h3] at hlk HG2;have HK2:(Instr.lookup 263 (.map (some w.heap.size)) (.agg #[.int .i64 b0,.int .i64 b1,.int .i64 b2,.int .i64 q0,.int .i64 q1,.int .i64 q2]) true).run Tryz.prog wr=.ok (.tuple #[.agg #[.int .i64 r0,.int .i64 r1,.int .i64 r2],.bool true]) wr:=hlk;have HG3:=Lib.hid HG2;have HFV2:Hid (okP (r0,r1,r2)):=HFV.out ((b0,b1,b2),(q0,q1,q2)) _ (by rw [HP.out];exact h3);have hA:=(Upd.refl noBlk wr).alloc (.cells #[.int .i64 r0,.int .i64 r1,.int .i64 r2] 43);obtain ⟨⟨kk0,kk1,kk2⟩,⟨zz0,zz1,zz2⟩⟩:=cellsF3 (hA.heap HQ.out id);have HQ2:=Lib.hid (hA.heap HQ.out id);have HE3:=Lib.hid (hA.heap HE2.out id);have HR3:=Lib.hid (HR.out.keep hA);have HC3:=Lib.hid (HC.out.keep hA);have HU3:=Lib.hid (HU.out.trans hA);clear hlk HG2 h3 hA;go_wp2_with fail
           have hP:=post3 (Q:=fun wz=>wz.heap[be+1]?=some (.cells #[.int .i64 r0,.int .i64 r1,.int .i64 r2] 43 (0,0))∧Upd (fun j=>j=be+1) (wr.alloc (.cells #[.int .i64 r0,.int .i64 r1,.int .i64 r2] 43)) wz) (y0:=.int .i64 r0) (y1:=.int .i64 r1) (y2:=.int .i64 r2) HQ2.out (fun wz h1 h2=>⟨h1,h2⟩);generalize (((wr.alloc (.cells #[.int .i64 r0,.int .i64 r1,.int .i64 r2] 43)).setCell ⟨be+1,0,none⟩ (.int .i64 r0)).setCell ⟨be+1,1,none⟩ (.int .i64 r1)).setCell ⟨be+1,2,none⟩ (.int .i64 r2)=wz at hP ⊢;obtain ⟨hP1,hP2⟩:=hP;have hb1:=HBE.out;have hs1:=HSZ2.out;have hf1:=HF2.out;refine ⟨⟨sz+1,(r0,r1,r2),by go_num,by omega,hP1,hP2.heap HE3.out (by omega),HR3.out.other hP2 (by omega) (by omega),HC3.out.other hP2 (by omega),HU3.out.then hP2 (fun i hi e=>by have e':i=be+1:=e;omega),HFV2.out,?_⟩,by simp [intOf];omega⟩;rw [show M+1-(sz+1)=f by omega];exact HG3.out
         ·have KE:Hid (okE ((b0,b1,b2),(q0,q1,q2))):=⟨GE.out.1,HOQ.out⟩;have HG2:=HG.out;rw [HF2.out,ringLoop,if_pos ⟨fun e=>he (congrArg (fun x:Pt=>x.2.2) e),HSZ2.out⟩] at HG2;have hlk:=HR.out.at.lookOkR (a:=((b0,b1,b2),(q0,q1,q2))) KE.out;rw [HP.out] at hlk;simp only at hlk;rcases h3:third l (b0,b1,b2) (q0,q1,q2) with _ | ⟨r0,r1,r2⟩
          ·rw [h3] at hlk HG2;have HK2:(Instr.lookup 263 (.map (some w.heap.size)) (.agg #[.int .i64 b0,.int .i64 b1,.int .i64 b2,.int .i64 q0,.int .i64 q1,.int .i64 q2]) true).run Tryz.prog wr=.ok (.tuple #[.agg #[.int .i64 0,.int .i64 0,.int .i64 0],.bool false]) wr:=hlk;have HG3:=Lib.hid HG2;clear hlk HG2 h3;go_wp2_with fail
           go_meet
           have hA:=(Upd.refl noBlk wr).alloc (.cells #[.int .i64 0,.int .i64 0,.int .i64 0] 43);exact ⟨sz,(q0,q1,q2),rfl,HSZ.out,hA.heap HQ.out id,hA.heap HE2.out id,HR.out.keep hA,HC.out.keep hA,HU.out.trans hA,HG3.out⟩
          ·rw [h3] at hlk HG2;have HK2:(Instr.lookup 263 (.map (some w.heap.size)) (.agg #[.int .i64 b0,.int .i64 b1,.int .i64 b2,.int .i64 q0,.int .i64 q1,.int .i64 q2]) true).run Tryz.prog wr=.ok (.tuple #[.agg #[.int .i64 r0,.int .i64 r1,.int .i64 r2],.bool true]) wr:=hlk;have HG3:=Lib.hid HG2;have HFV2:Hid (okP (r0,r1,r2)):=HFV.out ((b0,b1,b2),(q0,q1,q2)) _ (by rw [HP.out];exact h3);have hA:=(Upd.refl noBlk wr).alloc (.cells #[.int .i64 r0,.int .i64 r1,.int .i64 r2] 43);obtain ⟨⟨kk0,kk1,kk2⟩,⟨zz0,zz1,zz2⟩⟩:=cellsF3 (hA.heap HQ.out id);have HQ2:=Lib.hid (hA.heap HQ.out id);have HE3:=Lib.hid (hA.heap HE2.out id);have HR3:=Lib.hid (HR.out.keep hA);have HC3:=Lib.hid (HC.out.keep hA);have HU3:=Lib.hid (HU.out.trans hA);clear hlk HG2 h3 hA;go_wp2_with fail
           have hP:=post3 (Q:=fun wz=>wz.heap[be+1]?=some (.cells #[.int .i64 r0,.int .i64 r1,.int .i64 r2] 43 (0,0))∧Upd (fun j=>j=be+1) (wr.alloc (.cells #[.int .i64 r0,.int .i64 r1,.int .i64 r2] 43)) wz) (y0:=.int .i64 r0) (y1:=.int .i64 r1) (y2:=.int .i64 r2) HQ2.out (fun wz h1 h2=>⟨h1,h2⟩);generalize (((wr.alloc (.cells #[.int .i64 r0,.int .i64 r1,.int .i64 r2] 43)).setCell ⟨be+1,0,none⟩ (.int .i64 r0)).setCell ⟨be+1,1,none⟩ (.int .i64 r1)).setCell ⟨be+1,2,none⟩ (.int .i64 r2)=wz at hP ⊢;obtain ⟨hP1,hP2⟩:=hP;have hb1:=HBE.out;have hs1:=HSZ2.out;have hf1:=HF2.out;refine ⟨⟨sz+1,(r0,r1,r2),by go_num,by omega,hP1,hP2.heap HE3.out (by omega),HR3.out.other hP2 (by omega) (by omega),HC3.out.other hP2 (by omega),HU3.out.then hP2 (fun i hi e=>by have e':i=be+1:=e;omega),HFV2.out,?_⟩,by simp [intOf];omega⟩;rw [show M+1-(sz+1)=f by omega];exact HG3.out
        ·have hsz':¬(sz:Int)≤(M:Int):=by omega
         have hf:M+1-sz=0:=by have:=HSZ.out;omega
         have HF2:=Lib.hid hf;have HSZ2:=Lib.hid hsz;have hne:q0≠b3∨(q0=b3∧q1≠b4)∨(q0=b3∧q1=b4∧q2≠b5):=by
          by_cases e0:q0=b3
          ·by_cases e1:q1=b4
           ·exact .inr (.inr ⟨e0,e1,fun e2=>hq ⟨e0,e1,e2⟩⟩)
           ·exact .inr (.inl ⟨e0,e1⟩)
          ·exact .inl e0
         have HG2:Hid (decide ((q0,q1,q2)=(b3,b4,b5)∧sz<M)=HE):=by
          have:=HG.out;rw [hf,ringLoop] at this;exact this
         clear hf hsz hq;rcases hne with he | ⟨rfl,he⟩ | ⟨rfl,rfl,he⟩
         all_goals (go_wp2_with fail;go_meet;exact ⟨sz,_,rfl,HSZ.out,HQ.out,HE2.out,HR.out,HC.out,HU.out,HG2.out⟩)
     case rest=>
      obtain ⟨sz,⟨q0,q1,q2⟩,rfl,h1,h2,h3,h4,h5,h6,h7⟩:=hcut;have HQ:=Lib.hid h2;have HE2:=Lib.hid h3;have HR:=Lib.hid h4;have HC:=Lib.hid h5;have HU:=Lib.hid h6;have HG:=Lib.hid h7;have hsz0:(sz:Int)≤300001:=by have:=HMB.out;omega
      have HSZ:=Lib.hid h1;clear h1 h2 h3 h4 h5 h6 h7 HR2 HC2 HU2 HE1 HP1 HRING;simp only at HQ;obtain ⟨k0,k1,k2⟩:=cells3 HQ.out;obtain ⟨g0,g1,g2,g3,g4,g5⟩:=cells6 HE2.out;have hmany:=HC.out.lookR (a:=(b0,b1,b2)) GE.out.1;have hkz:kitAt.zero=0:=rfl;rw [hkz,HGM.out] at hmany;have HK1:(Instr.lookup 99 (.map (some (w.heap.size+1))) (.agg #[.int .i64 b0,.int .i64 b1,.int .i64 b2]) false).run Tryz.prog wc=.ok (.int .i64 (M:Int)) wc:=hmany;clear hmany hkz;have hHL:HE=false→∀e,okE e→(F e).isSome=true→(left e&&!decide (e=((b0,b1,b2),(b3,b4,b5))))=false→hitE l e=false:=fun h0 e h1 h2 h3=>by
       by_cases he:e=((b0,b1,b2),(b3,b4,b5))
       ·rw [he,←HHE.out];exact h0
       ·rw [decide_eq_false he] at h3;exact HL.out e h1 h2 (by simpa using h3)
      have HHL:=Lib.hid hHL;have HPI:Hid (HE=true→pinched l=true):=fun h0=>by
       rw [pinched_any,List.any_eq_true];exact ⟨((b0,b1,b2),(b3,b4,b5)),(HFS.out _).1 (by rw [HFE.out];rfl),by rw [←HHE.out];exact h0⟩
      have HCN:Hid (cnt1<wr.rangeLeft w.heap.size rb):=by show _<_;rw [HLC.out];exact HLT.out
      clear hHL HLC;by_cases hlt2:sz<M
      ·have hlt':(sz:Int)<(M:Int):=by omega
       by_cases e0:q0=b3
       ·by_cases e1:q1=b4
        ·by_cases e2:q2=b5
         ·subst e0 e1 e2;have HT:Hid (HE=true):=by show _=_;rw [←HG.out];exact decide_eq_true ⟨rfl,hlt2⟩
          clear hlt2;go_wp2_with fail
          go_ret
          exact ⟨by rw [HPI.out HT.out];rfl,HU.out⟩
         ·have HT:Hid (HE=false):=by show _=_;rw [←HG.out];exact decide_eq_false (fun h=>e2 (congrArg (fun x:Pt=>x.2.2) h.1))
          subst e0 e1;clear hlt2;go_wp2_with fail
          exact ⟨⟨_,cnt1,HR.out,HC.out,HU.out,HHL.out HT.out⟩,by rw [HR.out.left_eq];exact HCN.out⟩
        ·have HT:Hid (HE=false):=by show _=_;rw [←HG.out];exact decide_eq_false (fun h=>e1 (congrArg (fun x:Pt=>x.2.1) h.1))
         subst e0;clear hlt2;go_wp2_with fail
         exact ⟨⟨_,cnt1,HR.out,HC.out,HU.out,HHL.out HT.out⟩,by rw [HR.out.left_eq];exact HCN.out⟩
       ·have HT:Hid (HE=false):=by show _=_;rw [←HG.out];exact decide_eq_false (fun h=>e0 (congrArg (fun x:Pt=>x.1) h.1))
        clear hlt2;go_wp2_with fail
        exact ⟨⟨_,cnt1,HR.out,HC.out,HU.out,HHL.out HT.out⟩,by rw [HR.out.left_eq];exact HCN.out⟩
      ·have hlt':¬(sz:Int)<(M:Int):=by omega
       have HT:Hid (HE=false):=by show _=_;rw [←HG.out];exact decide_eq_false (fun h=>hlt2 h.2)
       clear hlt2;have hne:q0≠b3∨(q0=b3∧q1≠b4)∨(q0=b3∧q1=b4∧q2≠b5)∨(q0=b3∧q1=b4∧q2=b5):=by
        by_cases e0:q0=b3
        ·by_cases e1:q1=b4
         ·by_cases e2:q2=b5
          ·exact .inr (.inr (.inr ⟨e0,e1,e2⟩))
          ·exact .inr (.inr (.inl ⟨e0,e1,e2⟩))
         ·exact .inr (.inl ⟨e0,e1⟩)
        ·exact .inl e0
       rcases hne with he | ⟨rfl,he⟩ | ⟨rfl,rfl,he⟩ | ⟨rfl,rfl,rfl⟩
       all_goals (go_wp2_with fail;exact ⟨⟨_,cnt1,HR.out,HC.out,HU.out,HHL.out HT.out⟩,by rw [HR.out.left_eq];exact HCN.out⟩)
end Go.Proofs.YtcikldoaidmnhaaGreatDoor
