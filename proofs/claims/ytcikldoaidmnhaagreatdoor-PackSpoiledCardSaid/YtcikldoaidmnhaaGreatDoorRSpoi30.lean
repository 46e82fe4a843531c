/- Parts: Walks of the reference's meshes: triangles in order, equal lists. No condition. -/
import Derived.Test.YtcikldoaidmnhaaGreatDoorRSpoi1
import Derived.Test.YtcikldoaidmnhaaGreatDoorRSpoi3
import Derived.Test.YtcikldoaidmnhaaGreatDoorRSpoi4
import Derived.Test.YtcikldoaidmnhaaGreatDoorRSpoi5
import Derived.Test.YtcikldoaidmnhaaGreatDoorRSpoi6
import Derived.Test.YtcikldoaidmnhaaGreatDoorRSpoi7
import Derived.Test.YtcikldoaidmnhaaGreatDoorRSpoi9
import Derived.Test.YtcikldoaidmnhaaGreatDoorRSpoi12
import Derived.Test.YtcikldoaidmnhaaGreatDoorRSpoi17
import Derived.Test.YtcikldoaidmnhaaGreatDoorRSpoi29
import Derived.WalkKit
import Derived.WalkSpells
import Derived.WalkLawsBesides
import Derived.Lib.Hide
import Derived.BigQuiet
import Derived.Deep.DeepFit
import Derived.Deep.DeepCutAuto
import Derived.Deep.AppendLies
import Derived.Deep.QuietTactic
import Derived.Lib.Bits
import Derived.Maps.OwnOps
import Derived.Maps.OwnSet
import Derived.Maps.RangeWalk
import Derived.WideKeyEntry
import Derived.Deep.MidRow
import Derived.Test.YtcikldoaidmnhaaGreatDoorRows
import Derived.Deep.RegionHeld3
import Derived.StillTail
import Derived.Laws.EntriesVeiled
import Derived.Handy
import Derived.DeepKeys4
import Derived.ArgAppend
import Derived.Deep.Upon
import Derived.Deep.CutBlock
import Derived.Test.YtcikldoaidmnhaaGreatDoorShelf2
import Derived.ChangeKeysEq
namespace Go.Proofs.YtcikldoaidmnhaaGreatDoor
open Go Go.RowKit Pk
set_option maxRecDepth 100000
set_option maxHeartbeats 2000000 in
theorem hLessTri_any (s t:Tri) (w:World):Calls Tryz.prog 152 #[triV s,triV t] w fun en w'=>en=.returned (.bool (triLt s t))∧Upd noBlk w w':=by
 have hl:=fun p q W=>Lib.hid (oLess_any p q W);obtain ⟨R,hR⟩:∃R,R=triLt s t:=⟨_,rfl⟩;rw [←hR];have HR:=Lib.hid hR;clear hR;obtain ⟨⟨a0,a1,a2⟩,⟨a3,a4,a5⟩,⟨a6,a7,a8⟩⟩:=s;obtain ⟨⟨b0,b1,b2⟩,⟨b3,b4,b5⟩,⟨b6,b7,b8⟩⟩:=t;unfold triV triC;obtain ⟨w1,hw1⟩:∃w1,w1=(w.alloc (.cells #[.int .i64 a0,.int .i64 a1,.int .i64 a2,.int .i64 a3,.int .i64 a4,.int .i64 a5,.int .i64 a6,.int .i64 a7,.int .i64 a8] 45)).alloc (.cells #[.int .i64 b0,.int .i64 b1,.int .i64 b2,.int .i64 b3,.int .i64 b4,.int .i64 b5,.int .i64 b6,.int .i64 b7,.int .i64 b8] 45):=⟨_,rfl⟩;have HU:Hid (Upd noBlk w w1):=by show Upd _ _ _;rw [hw1];exact ((Upd.refl _ w).alloc _).alloc _
 have HA:Hid (w1.heap[w.heap.size]?=some (.cells #[.int .i64 a0,.int .i64 a1,.int .i64 a2,.int .i64 a3,.int .i64 a4,.int .i64 a5,.int .i64 a6,.int .i64 a7,.int .i64 a8] 45 (0,0))):=by show _=_;rw [hw1];exact ((Upd.refl noBlk _).alloc _).heap (heap_alloc_new w _) id
 have HB:Hid (w1.heap[w.heap.size+1]?=some (.cells #[.int .i64 b0,.int .i64 b1,.int .i64 b2,.int .i64 b3,.int .i64 b4,.int .i64 b5,.int .i64 b6,.int .i64 b7,.int .i64 b8] 45 (0,0))):=by
  show _=_;rw [hw1];have:=heap_alloc_new (w.alloc (.cells #[.int .i64 a0,.int .i64 a1,.int .i64 a2,.int .i64 a3,.int .i64 a4,.int .i64 a5,.int .i64 a6,.int .i64 a7,.int .i64 a8] 45)) (.cells #[.int .i64 b0,.int .i64 b1,.int .i64 b2,.int .i64 b3,.int .i64 b4,.int .i64 b5,.int .i64 b6,.int .i64 b7,.int .i64 b8] 45);rwa [World.size_alloc] at this
 go_enter Tryz.func152,Tryz.ntmps152
 go_upto_region 1 with fail
 rw [←hw1];clear hw1;generalize w.heap.size=ba at *;go_wp2_with fail
 have HW:=Lib.hid (Gr.refl w1);refine wp_loop_rounds 4 ?_;rw [rounds_succ];go_wp2_with fail
 refine wp_region_tree 6 (OT.sures [0,3,1,4,2,5] .nil) (fun w'=>Gr w1 w') (by kernel_rfl) (by kernel_rfl) (fun c a d v w h=>by cases d<;>exact h) ((Gr.refl w1).drew) ?_
 simp only [OT.sures]
 iterate 6 (apply wpT_sure rfl rfl;focus (intro w' hw';obtain ⟨g0,g1,g2,g3,g4,g5,g6,g7,g8⟩:=cells9 (hw'.heap HA.out id);obtain ⟨k0,k1,k2,k3,k4,k5,k6,k7,k8⟩:=cells9 (hw'.heap HB.out id);go_simp;rfl))
 refine wpT_nil ?_;have HA0:=Lib.hid ((Gr.refl w1).drew.heap HA.out id);have HB0:=Lib.hid ((Gr.refl w1).drew.heap HB.out id);have HW0:=Lib.hid (HW.out.trans (Gr.refl w1).drew);generalize w1.drew=x0 at *;clear HA HB HW;have HA:=HA0;have HB:=HB0;have HW:=HW0;clear HA0 HB0 HW0;by_cases hc:¬a0=b0
 ·skip
  have HD:Hid (R=ptLt (a0,a1,a2) (b0,b1,b2)):=by show _=_;rw [HR.out];simp [triLt,hc]
  clear HR;go_wp2_with fail
  refine wp_region_tree 6 (OT.sures [0,3,1,4,2,5] .nil) (fun w'=>Gr x0 w') (by kernel_rfl) (by kernel_rfl) (fun c a d v w h=>by cases d<;>exact h) ((Gr.refl x0).drew) ?_
  simp only [OT.sures]
  iterate 6 (apply wpT_sure rfl rfl;focus (intro w' hw';obtain ⟨g0,g1,g2,g3,g4,g5,g6,g7,g8⟩:=cells9 (hw'.heap HA.out id);obtain ⟨k0,k1,k2,k3,k4,k5,k6,k7,k8⟩:=cells9 (hw'.heap HB.out id);go_simp;rfl))
  refine wpT_nil ?_;go_wp2_with fail
  refine (hl (a0,a1,a2) (b0,b1,b2) _).out.mono ?_;rintro e w9 ⟨rfl,u9⟩;rw [←HD.out];go_wp2_with fail
  go_ret
  exact ⟨rfl,HU.out.trans (HW.out.up.trans ((Upd.refl noBlk x0).drew.trans u9))⟩
 have hd:=Classical.not_not.1 hc;subst hd;clear hc;by_cases hc:¬a1=b1
 ·skip
  have HD:Hid (R=ptLt (a0,a1,a2) (a0,b1,b2)):=by show _=_;rw [HR.out];simp [triLt,hc]
  clear HR;go_wp2_with fail
  refine wp_region_tree 6 (OT.sures [0,3,1,4,2,5] .nil) (fun w'=>Gr x0 w') (by kernel_rfl) (by kernel_rfl) (fun c a d v w h=>by cases d<;>exact h) ((Gr.refl x0).drew) ?_
  simp only [OT.sures]
  iterate 6 (apply wpT_sure rfl rfl;focus (intro w' hw';obtain ⟨g0,g1,g2,g3,g4,g5,g6,g7,g8⟩:=cells9 (hw'.heap HA.out id);obtain ⟨k0,k1,k2,k3,k4,k5,k6,k7,k8⟩:=cells9 (hw'.heap HB.out id);go_simp;rfl))
  refine wpT_nil ?_;go_wp2_with fail
  refine (hl (a0,a1,a2) (a0,b1,b2) _).out.mono ?_;rintro e w9 ⟨rfl,u9⟩;rw [←HD.out];go_wp2_with fail
  go_ret
  exact ⟨rfl,HU.out.trans (HW.out.up.trans ((Upd.refl noBlk x0).drew.trans u9))⟩
 have hd:=Classical.not_not.1 hc;subst hd;clear hc;by_cases hc:¬a2=b2
 ·skip
  have HD:Hid (R=ptLt (a0,a1,a2) (a0,a1,b2)):=by show _=_;rw [HR.out];simp [triLt,hc]
  clear HR;go_wp2_with fail
  refine wp_region_tree 6 (OT.sures [0,3,1,4,2,5] .nil) (fun w'=>Gr x0 w') (by kernel_rfl) (by kernel_rfl) (fun c a d v w h=>by cases d<;>exact h) ((Gr.refl x0).drew) ?_
  simp only [OT.sures]
  iterate 6 (apply wpT_sure rfl rfl;focus (intro w' hw';obtain ⟨g0,g1,g2,g3,g4,g5,g6,g7,g8⟩:=cells9 (hw'.heap HA.out id);obtain ⟨k0,k1,k2,k3,k4,k5,k6,k7,k8⟩:=cells9 (hw'.heap HB.out id);go_simp;rfl))
  refine wpT_nil ?_;go_wp2_with fail
  refine (hl (a0,a1,a2) (a0,a1,b2) _).out.mono ?_;rintro e w9 ⟨rfl,u9⟩;rw [←HD.out];go_wp2_with fail
  go_ret
  exact ⟨rfl,HU.out.trans (HW.out.up.trans ((Upd.refl noBlk x0).drew.trans u9))⟩
 have hd:=Classical.not_not.1 hc;subst hd;clear hc;go_wp2_with fail
 rw [rounds_succ];go_wp2_with fail
 refine wp_region_tree 6 (OT.sures [0,3,1,4,2,5] .nil) (fun w'=>Gr x0 w') (by kernel_rfl) (by kernel_rfl) (fun c a d v w h=>by cases d<;>exact h) ((Gr.refl x0).drew) ?_
 simp only [OT.sures]
 iterate 6 (apply wpT_sure rfl rfl;focus (intro w' hw';obtain ⟨g0,g1,g2,g3,g4,g5,g6,g7,g8⟩:=cells9 (hw'.heap HA.out id);obtain ⟨k0,k1,k2,k3,k4,k5,k6,k7,k8⟩:=cells9 (hw'.heap HB.out id);go_simp;rfl))
 refine wpT_nil ?_;have HA1:=Lib.hid ((Gr.refl x0).drew.heap HA.out id);have HB1:=Lib.hid ((Gr.refl x0).drew.heap HB.out id);have HW1:=Lib.hid (HW.out.trans (Gr.refl x0).drew);generalize x0.drew=x1 at *;clear HA HB HW;have HA:=HA1;have HB:=HB1;have HW:=HW1;clear HA1 HB1 HW1;by_cases hc:¬a3=b3
 ·skip
  have HD:Hid (R=ptLt (a3,a4,a5) (b3,b4,b5)):=by show _=_;rw [HR.out];simp [triLt,hc]
  clear HR;go_wp2_with fail
  refine wp_region_tree 6 (OT.sures [0,3,1,4,2,5] .nil) (fun w'=>Gr x1 w') (by kernel_rfl) (by kernel_rfl) (fun c a d v w h=>by cases d<;>exact h) ((Gr.refl x1).drew) ?_
  simp only [OT.sures]
  iterate 6 (apply wpT_sure rfl rfl;focus (intro w' hw';obtain ⟨g0,g1,g2,g3,g4,g5,g6,g7,g8⟩:=cells9 (hw'.heap HA.out id);obtain ⟨k0,k1,k2,k3,k4,k5,k6,k7,k8⟩:=cells9 (hw'.heap HB.out id);go_simp;rfl))
  refine wpT_nil ?_;go_wp2_with fail
  refine (hl (a3,a4,a5) (b3,b4,b5) _).out.mono ?_;rintro e w9 ⟨rfl,u9⟩;rw [←HD.out];go_wp2_with fail
  go_ret
  exact ⟨rfl,HU.out.trans (HW.out.up.trans ((Upd.refl noBlk x1).drew.trans u9))⟩
 have hd:=Classical.not_not.1 hc;subst hd;clear hc;by_cases hc:¬a4=b4
 ·skip
  have HD:Hid (R=ptLt (a3,a4,a5) (a3,b4,b5)):=by show _=_;rw [HR.out];simp [triLt,hc]
  clear HR;go_wp2_with fail
  refine wp_region_tree 6 (OT.sures [0,3,1,4,2,5] .nil) (fun w'=>Gr x1 w') (by kernel_rfl) (by kernel_rfl) (fun c a d v w h=>by cases d<;>exact h) ((Gr.refl x1).drew) ?_
  simp only [OT.sures]
  iterate 6 (apply wpT_sure rfl rfl;focus (intro w' hw';obtain ⟨g0,g1,g2,g3,g4,g5,g6,g7,g8⟩:=cells9 (hw'.heap HA.out id);obtain ⟨k0,k1,k2,k3,k4,k5,k6,k7,k8⟩:=cells9 (hw'.heap HB.out id);go_simp;rfl))
  refine wpT_nil ?_;go_wp2_with fail
  refine (hl (a3,a4,a5) (a3,b4,b5) _).out.mono ?_;rintro e w9 ⟨rfl,u9⟩;rw [←HD.out];go_wp2_with fail
  go_ret
  exact ⟨rfl,HU.out.trans (HW.out.up.trans ((Upd.refl noBlk x1).drew.trans u9))⟩
 have hd:=Classical.not_not.1 hc;subst hd;clear hc;by_cases hc:¬a5=b5
 ·skip
  have HD:Hid (R=ptLt (a3,a4,a5) (a3,a4,b5)):=by show _=_;rw [HR.out];simp [triLt,hc]
  clear HR;go_wp2_with fail
  refine wp_region_tree 6 (OT.sures [0,3,1,4,2,5] .nil) (fun w'=>Gr x1 w') (by kernel_rfl) (by kernel_rfl) (fun c a d v w h=>by cases d<;>exact h) ((Gr.refl x1).drew) ?_
  simp only [OT.sures]
  iterate 6 (apply wpT_sure rfl rfl;focus (intro w' hw';obtain ⟨g0,g1,g2,g3,g4,g5,g6,g7,g8⟩:=cells9 (hw'.heap HA.out id);obtain ⟨k0,k1,k2,k3,k4,k5,k6,k7,k8⟩:=cells9 (hw'.heap HB.out id);go_simp;rfl))
  refine wpT_nil ?_;go_wp2_with fail
  refine (hl (a3,a4,a5) (a3,a4,b5) _).out.mono ?_;rintro e w9 ⟨rfl,u9⟩;rw [←HD.out];go_wp2_with fail
  go_ret
  exact ⟨rfl,HU.out.trans (HW.out.up.trans ((Upd.refl noBlk x1).drew.trans u9))⟩
 have hd:=Classical.not_not.1 hc;subst hd;clear hc;go_wp2_with fail
 rw [rounds_succ];go_wp2_with fail
 refine wp_region_tree 6 (OT.sures [0,3,1,4,2,5] .nil) (fun w'=>Gr x1 w') (by kernel_rfl) (by kernel_rfl) (fun c a d v w h=>by cases d<;>exact h) ((Gr.refl x1).drew) ?_
 simp only [OT.sures]
 iterate 6 (apply wpT_sure rfl rfl;focus (intro w' hw';obtain ⟨g0,g1,g2,g3,g4,g5,g6,g7,g8⟩:=cells9 (hw'.heap HA.out id);obtain ⟨k0,k1,k2,k3,k4,k5,k6,k7,k8⟩:=cells9 (hw'.heap HB.out id);go_simp;rfl))
 refine wpT_nil ?_;have HA2:=Lib.hid ((Gr.refl x1).drew.heap HA.out id);have HB2:=Lib.hid ((Gr.refl x1).drew.heap HB.out id);have HW2:=Lib.hid (HW.out.trans (Gr.refl x1).drew);generalize x1.drew=x2 at *;clear HA HB HW;have HA:=HA2;have HB:=HB2;have HW:=HW2;clear HA2 HB2 HW2;by_cases hc:¬a6=b6
 ·skip
  have HD:Hid (R=ptLt (a6,a7,a8) (b6,b7,b8)):=by show _=_;rw [HR.out];simp [triLt]
  clear HR;go_wp2_with fail
  refine wp_region_tree 6 (OT.sures [0,3,1,4,2,5] .nil) (fun w'=>Gr x2 w') (by kernel_rfl) (by kernel_rfl) (fun c a d v w h=>by cases d<;>exact h) ((Gr.refl x2).drew) ?_
  simp only [OT.sures]
  iterate 6 (apply wpT_sure rfl rfl;focus (intro w' hw';obtain ⟨g0,g1,g2,g3,g4,g5,g6,g7,g8⟩:=cells9 (hw'.heap HA.out id);obtain ⟨k0,k1,k2,k3,k4,k5,k6,k7,k8⟩:=cells9 (hw'.heap HB.out id);go_simp;rfl))
  refine wpT_nil ?_;go_wp2_with fail
  refine (hl (a6,a7,a8) (b6,b7,b8) _).out.mono ?_;rintro e w9 ⟨rfl,u9⟩;rw [←HD.out];go_wp2_with fail
  go_ret
  exact ⟨rfl,HU.out.trans (HW.out.up.trans ((Upd.refl noBlk x2).drew.trans u9))⟩
 have hd:=Classical.not_not.1 hc;subst hd;clear hc;by_cases hc:¬a7=b7
 ·skip
  have HD:Hid (R=ptLt (a6,a7,a8) (a6,b7,b8)):=by show _=_;rw [HR.out];simp [triLt]
  clear HR;go_wp2_with fail
  refine wp_region_tree 6 (OT.sures [0,3,1,4,2,5] .nil) (fun w'=>Gr x2 w') (by kernel_rfl) (by kernel_rfl) (fun c a d v w h=>by cases d<;>exact h) ((Gr.refl x2).drew) ?_
  simp only [OT.sures]
  iterate 6 (apply wpT_sure rfl rfl;focus (intro w' hw';obtain ⟨g0,g1,g2,g3,g4,g5,g6,g7,g8⟩:=cells9 (hw'.heap HA.out id);obtain ⟨k0,k1,k2,k3,k4,k5,k6,k7,k8⟩:=cells9 (hw'.heap HB.out id);go_simp;rfl))
  refine wpT_nil ?_;go_wp2_with fail
  refine (hl (a6,a7,a8) (a6,b7,b8) _).out.mono ?_;rintro e w9 ⟨rfl,u9⟩;rw [←HD.out];go_wp2_with fail
  go_ret
  exact ⟨rfl,HU.out.trans (HW.out.up.trans ((Upd.refl noBlk x2).drew.trans u9))⟩
 have hd:=Classical.not_not.1 hc;subst hd;clear hc;by_cases hc:¬a8=b8
 ·skip
  have HD:Hid (R=ptLt (a6,a7,a8) (a6,a7,b8)):=by show _=_;rw [HR.out];simp [triLt]
  clear HR;go_wp2_with fail
  refine wp_region_tree 6 (OT.sures [0,3,1,4,2,5] .nil) (fun w'=>Gr x2 w') (by kernel_rfl) (by kernel_rfl) (fun c a d v w h=>by cases d<;>exact h) ((Gr.refl x2).drew) ?_
  simp only [OT.sures]
  iterate 6 (apply wpT_sure rfl rfl;focus (intro w' hw';obtain ⟨g0,g1,g2,g3,g4,g5,g6,g7,g8⟩:=cells9 (hw'.heap HA.out id);obtain ⟨k0,k1,k2,k3,k4,k5,k6,k7,k8⟩:=cells9 (hw'.heap HB.out id);go_simp;rfl))
  refine wpT_nil ?_;go_wp2_with fail
  refine (hl (a6,a7,a8) (a6,a7,b8) _).out.mono ?_;rintro e w9 ⟨rfl,u9⟩;rw [←HD.out];go_wp2_with fail
  go_ret
  exact ⟨rfl,HU.out.trans (HW.out.up.trans ((Upd.refl noBlk x2).drew.trans u9))⟩
 have hd:=Classical.not_not.1 hc;subst hd;clear hc;go_wp2_with fail
 rw [rounds_succ];have HD:Hid (R=false):=by show _=_;rw [HR.out];exact triLt_irrefl _
 go_wp2_with fail
 go_ret
 exact ⟨by rw [HD.out];rfl,HU.out.trans HW.out.up⟩
theorem take_eq {α:Type} {a b:List α} (h:a.length=b.length) {k:Nat} (hk:k<a.length) (ht:a.take k=b.take k) (he:a[k]=b[k]'(h ▸ hk)):a.take (k+1)=b.take (k+1):=by
 rw [List.take_succ_eq_append_getElem hk,List.take_succ_eq_append_getElem (h ▸ hk),ht,he]
set_option maxHeartbeats 4000000 in
theorem hEqual_any (va vb:Value) (a b:List Tri) (ha:a.length≤1000000) (w:World) (hra:kTri.Rd w va a) (hrb:kTri.Rd w vb b) :
  Calls Tryz.prog 20 #[va,vb] w fun en w'=>en=.returned (.bool (decide (a=b)))∧Upd noBlk w w':=by
 obtain ⟨R,hR⟩:∃R,R=decide (a=b):=⟨_,rfl⟩;rw [←hR];have HR:=Lib.hid hR;obtain ⟨A,capa,rfl,_,hxa⟩:=hra;obtain ⟨B,capb,rfl,_,hxb⟩:=hrb;have HXA:=Lib.hid hxa;have HXB:=Lib.hid hxb;clear hxa hxb hR;by_cases hl:a.length=b.length
 ·have HL:Hid (a.length=b.length):=hl;have HAL:Hid (a.length≤1000000):=ha;have hal:(a.length:Int)≤1000000:=by omega
  rw [←hl];clear hl ha;go_enter Tryz.func20,Tryz.ntmps20
  go_wp2_with fail
  go_loopw [5] (fun i wr=>∃k:Nat,i=.int .i64 k∧k≤a.length∧a.take k=b.take k∧Upd noBlk w wr) (fun i _=>a.length-(intOf i).toNat)
  case atStart=>exact ⟨0,rfl,Nat.zero_le _,rfl,Upd.refl _ _⟩
  case round=>
   obtain ⟨k,rfl,hk,ht,hu⟩:=hrel;have HT:=Lib.hid ht;have HU:=Lib.hid hu;clear ht hu;by_cases hlt:k<a.length
   ·have hlt':(k:Int)<(a.length:Int):=by omega
    have hltb:k<b.length:=by have:=HL.out;omega
    obtain ⟨ba,oa,rfl,f1⟩:=HXA.out (by omega);obtain ⟨bb,ob,rfl,f2⟩:=HXB.out (by omega);have hk9:kTri.k=9:=rfl;have HF1:=Lib.hid ((f1 k hlt).keep HU.out);have HF2:=Lib.hid ((f2 k hltb).keep HU.out);rw [hk9] at HF1 HF2;have hws:IntKind.i64.wrap ((k:Int)+1)=(k:Int)+1:=wrapN (by omega) (by omega);have HNE:Hid (∀h:a[k]=b[k],a.take (k+1)=b.take (k+1)):=fun h=>take_eq HL.out hlt HT.out h;have HNF:Hid (∀h:¬a[k]=b[k],R=false):=fun h=>by rw [HR.out];exact decide_eq_false (fun e=>h (by subst e;rfl))
    have HK:Hid (k<a.length):=hlt;clear f1 f2 hk9;generalize a[k]=s at *;generalize b[k]=t at *;clear hlt;obtain ⟨⟨a0,a1,a2⟩,⟨a3,a4,a5⟩,⟨a6,a7,a8⟩⟩:=s;obtain ⟨⟨b0,b1,b2⟩,⟨b3,b4,b5⟩,⟨b6,b7,b8⟩⟩:=t;clear hltb;by_cases he:(((a0,a1,a2),(a3,a4,a5),(a6,a7,a8)):Tri)=((b0,b1,b2),(b3,b4,b5),(b6,b7,b8))
    ·have HTK:=Lib.hid (HNE.out he);cases he;clear HNE HNF;have heq:=fun W=>eq_tri a0 a1 a2 a3 a4 a5 a6 a7 a8 a0 a1 a2 a3 a4 a5 a6 a7 a8 W;simp only [decide_true] at heq;go_wp2_with fail
     refine wp_region_tree 8 (OT.sures [0,1,4,5,2,6,3,7] .nil) (fun w'=>Gr wr w') (by kernel_rfl) (by kernel_rfl) (fun c a d v w h=>by cases d<;>exact h) ((Gr.refl wr).drew) ?_
     simp only [OT.sures]
     iterate 8 (apply wpT_sure rfl rfl;focus (intro w' hw';obtain ⟨g0,g1,g2,g3,g4,g5,g6,g7,g8⟩:=triAt9 (HF1.out.keep hw'.up);obtain ⟨k0,k1,k2,k3,k4,k5,k6,k7,k8⟩:=triAt9 (HF2.out.keep hw'.up);go_simp;rfl))
     refine wpT_nil ?_;go_wp2_with fail
     refine ⟨⟨k+1,by push_cast;rfl,by have:=HK.out;omega,HTK.out,HU.out.drew⟩,?_⟩;simp only [intOf];have:=HK.out;omega
    ·have HD:=Lib.hid (HNF.out he);have HE:Hid (¬(((a0,a1,a2),(a3,a4,a5),(a6,a7,a8)):Tri)=((b0,b1,b2),(b3,b4,b5),(b6,b7,b8))):=he;have heq:=fun W=>eq_tri a0 a1 a2 a3 a4 a5 a6 a7 a8 b0 b1 b2 b3 b4 b5 b6 b7 b8 W;simp only [decide_eq_false he] at heq;clear HNE HNF he;go_wp2_with fail
     refine wp_region_tree 8 (OT.sures [0,1,4,5,2,6,3,7] .nil) (fun w'=>Gr wr w') (by kernel_rfl) (by kernel_rfl) (fun c a d v w h=>by cases d<;>exact h) ((Gr.refl wr).drew) ?_
     simp only [OT.sures]
     iterate 8 (apply wpT_sure rfl rfl;focus (intro w' hw';obtain ⟨g0,g1,g2,g3,g4,g5,g6,g7,g8⟩:=triAt9 (HF1.out.keep hw'.up);obtain ⟨k0,k1,k2,k3,k4,k5,k6,k7,k8⟩:=triAt9 (HF2.out.keep hw'.up);go_simp;rfl))
     refine wpT_nil ?_;go_wp2_with fail
     go_ret
     exact ⟨by rw [HD.out];rfl,HU.out.drew⟩
   ·obtain rfl:k=a.length:=by omega
    have HD:Hid (R=true):=by
     show _=_;rw [HR.out];have:=HT.out;rw [List.take_length,List.take_of_length_le (by have:=HL.out;omega)] at this;exact decide_eq_true this
    go_wp2_with fail
    go_ret
    exact ⟨by rw [HD.out];rfl,HU.out⟩
 ·have HD:Hid (R=false):=by show _=_;rw [HR.out];exact decide_eq_false (fun e=>hl (by rw [e]))
  have hl':¬(a.length:Int)=(b.length:Int):=by omega
  clear HXA HXB ha;go_enter Tryz.func20,Tryz.ntmps20
  go_wp2_with fail
  go_ret
  exact ⟨by rw [HD.out];rfl,Upd.refl _ _⟩
end Go.Proofs.YtcikldoaidmnhaaGreatDoor
