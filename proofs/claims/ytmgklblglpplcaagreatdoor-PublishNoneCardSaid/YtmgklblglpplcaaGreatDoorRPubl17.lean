/- Parts: Walks of the packets' program: a triangle is visited. No condition. -/
import Derived.Test.YtmgklblglpplcaaGreatDoorRPubl1
import Derived.Test.YtmgklblglpplcaaGreatDoorRPubl2
import Derived.Test.YtmgklblglpplcaaGreatDoorRPubl3
import Derived.Test.YtmgklblglpplcaaGreatDoorRPubl4
import Derived.Test.YtmgklblglpplcaaGreatDoorRPubl6
import Derived.Test.YtmgklblglpplcaaGreatDoorRPubl8
import Derived.Test.YtmgklblglpplcaaGreatDoorRPubl9
import Derived.Test.YtmgklblglpplcaaGreatDoorRPubl10
import Derived.Test.YtmgklblglpplcaaGreatDoorRPubl12
import Derived.Test.YtmgklblglpplcaaGreatDoorRPubl13
import Derived.Test.YtmgklblglpplcaaGreatDoorRPubl14
import Derived.Test.YtmgklblglpplcaaGreatDoorRPubl15
import Derived.Test.YtmgklblglpplcaaGreatDoorRPubl16
import Derived.WalkKit
import Derived.WalkSpells
import Derived.WalkLawsBesides
import Derived.Lib.Hide
import Derived.BigQuiet
import Derived.Deep.DeepFit
import Derived.Deep.DeepCutAuto
import Derived.Deep.AppendLies
import Derived.Deep.QuietTactic
import Derived.Maps.OwnOps
import Derived.Maps.OwnSet
import Derived.Maps.RangeWalk
import Derived.WideKeyEntry
import Derived.Deep.MidRow
import Derived.Lib.Bits
import Derived.Test.YtmgklblglpplcaaGreatDoorRows
import Derived.Deep.RegionHeld3
import Derived.StillTail
import Derived.Laws.EntriesVeiled
import Derived.Handy
import Derived.DeepKeys4
import Derived.ArgAppend
import Derived.Deep.Upon
import Derived.Deep.CutBlock
import Derived.Test.YtmgklblglpplcaaGreatDoorShelf2
namespace Go.Proofs.YtmgklblglpplcaaGreatDoor
open Go Go.RowKit Pk
set_option maxRecDepth 100000
theorem free_iff {tris:List Tri} {e0 e1 e2:Ed} {t:Tri} (ht:edgesT t=[e0,e1,e2]):freeT false tris t↔(e0∉edgesL tris∧e1∉edgesL tris++[e0]∧e2∉edgesL tris++[e0]++[e1]):=by
 unfold freeT;rw [ht];simp only [List.nodup_cons,List.mem_cons,List.not_mem_nil,or_false,not_or,List.nodup_nil,and_true,List.mem_append,Bool.false_eq_true,false_or];constructor
 ·rintro ⟨⟨⟨h1,h2⟩,h3⟩,h4⟩;refine ⟨h4 e0 (.inl rfl),⟨h4 e1 (.inr (.inl rfl)),fun e=>h1 e.symm⟩,⟨h4 e2 (.inr (.inr rfl)),fun e=>h2 e.symm⟩,fun e=>h3.1 e.symm⟩
 ·rintro ⟨h1,⟨h2,h3⟩,⟨h4,h5⟩,h6⟩;refine ⟨⟨⟨fun e=>h3 e.symm,fun e=>h5 e.symm⟩,fun e=>h6 e.symm,not_false⟩,?_⟩;rintro e (rfl | rfl | rfl)
  ·exact h1
  ·exact h2
  ·exact h4
theorem tri_step {x:World} {b:Nat} {K:List Pt} {gs:List Gate} {vK vG vT:Value} {ba bu:Nat} {tr0:List Tri} (hb:x.heap[b]?=some (.cells #[vK,.map (some ba),.map (some bu),vG,vT] 182 (0,0))) (hn:SNe b vK vG vT ba bu) (hab:ba≠bu) (h1:kitAt.At x ba K.length (atF K)) (t:Tri) (h2:kitUsed.At x bu (3*(tr0++[t]).length) (setF (edgesL (tr0++[t])))) (h3:kPt.Own 0 x vK K) (h4:kGate.Que 0 x vG gs) (h5:kTri.Own 0 x vT tr0) (hl:tr0.length≤1000000) :
  ∃A cap g cap3 x3,vT=.slice A tr0.length cap∧(Builtin.append_ #[91,91] 91 #[.slice A tr0.length cap,.slice (some ⟨x.heap.size,0,none⟩) 1 1]).run Tryz.prog (x.drew.alloc (.cells (triC t).toArray 169))=.ok (.slice (some ⟨g,0,none⟩) (tr0.length+1) cap3) x3 ∧
   SLive (x3.setCell ⟨b,4,none⟩ (.slice (some ⟨g,0,none⟩) (tr0.length+1) cap3)) b ⟨K,tr0++[t],gs⟩ vK vG (.slice (some ⟨g,0,none⟩) (tr0.length+1) cap3) ba bu∧x3.heap[b]?=some (.cells #[vK,.map (some ba),.map (some bu),vG,vT] 182 (0,0))∧Upd (fun k=>vT.ownBlock=some k) x x3∧(vT.ownBlock=some g∨x.heap.size<g):=by
 obtain ⟨A,cap,rfl,_⟩:=h5.form;have hd1:Upd noBlk x x.drew:=(Upd.refl _ x).drew;obtain ⟨g,cap3,x3,r3,o3,u3,a3⟩:=(h5.upd hd1).app1 (Nat.zero_le _) t (by omega);have hU:Upd (fun k=>(Value.slice A tr0.length cap).ownBlock=some k) x x3:=(hd1.mono (fun _ _ h=>h.elim)).trans u3;have hb3:=hU.heap hb hn.t;refine ⟨A,cap,g,cap3,x3,rfl,r3,?_,hb3,hU,a3⟩;refine SLive.put hb3 ⟨h1.other hU hn.ta,h2.other hU hn.tu,own_keepB h3 (fun i hi=>hU.block i (own_lt h3 hi) (hn.kt i hi)),h4.other hU (fun i hi=>hn.gt i hi),?_,hab⟩ 4 _ rfl;have e:(tr0++[t]).length=tr0.length+1:=by simp
 exact o3
theorem gate_step {x:World} {b:Nat} {K:List Pt} {tr:List Tri} {gs:List Gate} {vK vG vT:Value} {ba bu:Nat} (hL:SLive x b ⟨K,tr,gs⟩ vK vG vT ba bu) (t:Gate) (hl:gs.length≤2000000) :
  ∃A cap g off cap3 x3,vG=.slice A gs.length cap∧(Builtin.append_ #[180,180] 180 #[.slice A gs.length cap,.slice (some ⟨x.heap.size,0,none⟩) 1 1]).run Tryz.prog (x.drew.alloc (.cells (triC t).toArray 184))=.ok (.slice (some ⟨g,off,none⟩) (gs.length+1) cap3) x3 ∧
   SLive (x3.setCell ⟨b,3,none⟩ (.slice (some ⟨g,off,none⟩) (gs.length+1) cap3)) b ⟨K,tr,gs++[t]⟩ vK (.slice (some ⟨g,off,none⟩) (gs.length+1) cap3) vT ba bu∧x3.heap[b]?=some (.cells #[vK,.map (some ba),.map (some bu),vG,vT] 182 (0,0))∧Upd (fun k=>vG.ownBlock=some k) x x3∧(vG.ownBlock=some g∨x.heap.size<g):=by
 have hn:=hL.ne;have hq:kGate.Que 0 x vG gs:=hL.comp.gates;obtain ⟨A,cap,rfl,_⟩:=hq.form;have hd1:Upd noBlk x x.drew:=(Upd.refl _ x).drew;obtain ⟨g,off,cap3,x3,r3,o3,u3,a3⟩:=(hq.keep hd1).app1 (Nat.zero_le _) t (by omega);have hU:Upd (fun k=>(Value.slice A gs.length cap).ownBlock=some k) x x3:=(hd1.mono (fun _ _ h=>h.elim)).trans u3;have hb3:=hU.heap hL.blk hn.g;refine ⟨A,cap,g,off,cap3,x3,rfl,r3,?_,hb3,hU,a3⟩;exact SLive.put hb3 (show SComp x3 ⟨K,tr,gs++[t]⟩ vK (.slice (some ⟨g,off,none⟩) (gs.length+1) cap3) vT ba bu from ⟨hL.comp.at_.other hU hn.ga,hL.comp.used.other hU hn.gu,own_keepB hL.comp.known (fun i hi=>hU.block i (own_lt hL.comp.known hi) (hn.kg i hi)),o3,own_keepB hL.comp.tris (fun i hi=>hU.block i (own_lt hL.comp.tris hi) (fun e=>hn.gt i e hi)),hL.comp.ab⟩) 3 _ rfl
set_option maxHeartbeats 4000000 in
theorem visit_any (b:Nat) (S:Wk) (G:Nat→Prop) (t:Tri) (first:Nat) (hf:first=0∨first=1) (ht:okT t) (hl:S.tris.length≤100000) (hg:S.gates.length≤1000000) (w:World) (h:SRep w b S G) :
  Calls Tryz.prog 102 #[.pointer (some ⟨b,0,none⟩),triV t,.int .i64 first] w fun en w'=>en=.returned (.bool (decide (freeT false S.tris t)))∧Upd G w w'∧(freeT false S.tris t→SPost G w w' b (S.visit t first)):=by
 obtain ⟨vK,vG,vT,ba,bu,h,rfl⟩:=h;have HL:=Lib.hid h;have HN:=Lib.hid h.ne;obtain ⟨⟨a0,a1,a2⟩,⟨a3,a4,a5⟩,⟨a6,a7,a8⟩⟩:=t;obtain ⟨K,tr,gs⟩:=S;simp only at *;have HFI:=Lib.hid (free_iff (tris:=tr) (t:=((a0,a1,a2),(a3,a4,a5),(a6,a7,a8))) rfl);have hu:=(Upd.refl noBlk w).alloc (.cells #[.int .i64 a0,.int .i64 a1,.int .i64 a2,.int .i64 a3,.int .i64 a4,.int .i64 a5,.int .i64 a6,.int .i64 a7,.int .i64 a8] 169);have HW0:Hid (Upd (fun k=>k=bu) w (w.alloc (.cells #[.int .i64 a0,.int .i64 a1,.int .i64 a2,.int .i64 a3,.int .i64 a4,.int .i64 a5,.int .i64 a6,.int .i64 a7,.int .i64 a8] 169))):=hu.mono (fun _ _ h=>h.elim);have HB0:=Lib.hid (hu.heap h.blk id);have HT0:=Lib.hid (heap_alloc_new w (.cells #[.int .i64 a0,.int .i64 a1,.int .i64 a2,.int .i64 a3,.int .i64 a4,.int .i64 a5,.int .i64 a6,.int .i64 a7,.int .i64 a8] 169));have HU0:=Lib.hid (h.comp.used.keep hu);have HKT:=Lib.hid ht;have HBU:Hid (bu<w.heap.size∧b<w.heap.size):=⟨h.lt bu (.inr (.inr (.inl rfl))),h.lt b (.inl rfl)⟩;have hl0:Hid (tr.length≤100000):=hl;have hg0:Hid (gs.length≤1000000):=hg;have HFF:=Lib.hid hf;have hf0:(0:Int)≤(first:Int):=by omega
 clear h hu ht hl hg hf;unfold triV triC;go_enter Tryz.func102,Tryz.ntmps102
 obtain ⟨x0,hx0⟩:∃x0,x0=w.alloc (.cells #[.int .i64 a0,.int .i64 a1,.int .i64 a2,.int .i64 a3,.int .i64 a4,.int .i64 a5,.int .i64 a6,.int .i64 a7,.int .i64 a8] 169):=⟨_,rfl⟩;rw [←hx0] at HW0 HB0 HT0 HU0;have q1:(IntKind.i64.wrap 1).tmod 3=1:=by decide
 have q2:(IntKind.i64.wrap 2).tmod 3=2:=by decide
 have q3:(IntKind.i64.wrap 3).tmod 3=0:=by decide
 have q4:(IntKind.i64.wrap 4).tmod 3=1:=by decide
 go_upto_block 0 with fail
 rw [←hx0];clear hx0;go_wp2_with fail
 refine wp_loop_rounds 4 ?_;rw [rounds_succ];go_wp2_with fail
 refine wp_region_tree 10 (OT.sures [0,3,1,4,2,5,6,7,8] (.run 9 .nil)) (fun w'=>w'.heap[w.heap.size]?=some (.cells #[.int .i64 a0,.int .i64 a1,.int .i64 a2,.int .i64 a3,.int .i64 a4,.int .i64 a5,.int .i64 a6,.int .i64 a7,.int .i64 a8] 169 (0,0))) (by kernel_rfl) (by kernel_rfl) (fun c a d v w h=>by cases d<;>exact h) HT0.out ?_
 simp only [OT.sures]
 iterate 9 (apply wpT_sure rfl rfl;focus (intro w' hw';obtain ⟨g0,g1,g2,g3,g4,g5,g6,g7,g8⟩:=cells9 hw';go_simp;rfl))
 refine wpT_run _ (fun _ h=>h) rfl (fun K' hK=>?_);go_simp
 have hal:Upd noBlk x0 (x0.alloc (.cells #[.int .i64 0,.int .i64 0,.int .i64 0,.int .i64 0,.int .i64 0,.int .i64 0] 171)).drew:=((Upd.refl noBlk x0).alloc _).drew;refine hK _ _ ⟨hal.heap HT0.out id,?_⟩;clear hK K' hal;refine wpT_nil ?_;go_wp2_with fail
 have he6:Upd noBlk x0 (x0.alloc (.cells #[.int .i64 a0,.int .i64 a1,.int .i64 a2,.int .i64 a3,.int .i64 a4,.int .i64 a5] 171)).drew:=((Upd.refl noBlk x0).alloc _).drew;have E0:Hid ((x0.alloc (.cells #[.int .i64 a0,.int .i64 a1,.int .i64 a2,.int .i64 a3,.int .i64 a4,.int .i64 a5] 171)).drew.heap[x0.heap.size]?=some (.cells #[.int .i64 a0,.int .i64 a1,.int .i64 a2,.int .i64 a3,.int .i64 a4,.int .i64 a5] 171 (0,0))):=heap_alloc_new x0 (.cells #[.int .i64 a0,.int .i64 a1,.int .i64 a2,.int .i64 a3,.int .i64 a4,.int .i64 a5] 171);have ZB0:=Lib.hid (he6.heap HB0.out id);have ZT0:=Lib.hid (he6.heap HT0.out id);have ZU0:=Lib.hid (HU0.out.keep he6);have ZW0:=Lib.hid (HW0.out.trans (he6.mono (fun _ _ h=>h.elim)));have ZX0:Hid (w.heap.size<x0.heap.size):=lt_of_heap HT0.out;obtain ⟨z0,hz0⟩:∃z0,z0=(x0.alloc (.cells #[.int .i64 a0,.int .i64 a1,.int .i64 a2,.int .i64 a3,.int .i64 a4,.int .i64 a5] 171)).drew:=⟨_,rfl⟩;rw [←hz0] at E0 ZB0 ZT0 ZU0 ZW0;rw [←hz0];clear hz0 he6 HB0 HT0 HU0 HW0;have KE0:Hid (okE ((a0,a1,a2),(a3,a4,a5))):=by have:=HKT.out;exact ⟨this.1,this.2.1⟩
 refine wp_region_tree 5 (OT.sures [0,4,1,2,3] .nil) (fun w'=>Gr z0 w') (by kernel_rfl) (by kernel_rfl) (fun c a d v w h=>by cases d<;>exact h) ((Gr.refl z0).drew) ?_
 simp only [OT.sures]
 iterate 5 (apply wpT_sure rfl rfl;focus (intro w' hw';obtain ⟨⟨k0,k1,k2,k3,k4⟩,_⟩:=cells5 (hw'.heap ZB0.out id);obtain ⟨g0,g1,g2,g3,g4,g5⟩:=cells6 (hw'.heap E0.out id);go_simp;rfl))
 refine wpT_nil ?_;have hlk0:=(ZU0.out.keep (Upd.refl noBlk z0).drew).lookR (a:=((a0,a1,a2),(a3,a4,a5))) KE0.out;by_cases hm0:((a0,a1,a2),(a3,a4,a5))∈(edgesL tr)
 ·have hv:(setF (edgesL tr) ((a0,a1,a2),(a3,a4,a5))).getD kitUsed.zero=true:=by unfold setF;rw [if_pos hm0];rfl
  rw [hv] at hlk0;have HK1:(Instr.lookup 179 (.map (some bu)) (.agg #[.int .i64 a0,.int .i64 a1,.int .i64 a2,.int .i64 a3,.int .i64 a4,.int .i64 a5]) false).run Tryz.prog z0.drew=.ok (.bool true) z0.drew:=hlk0;have HNF:Hid (¬freeT false tr ((a0,a1,a2),(a3,a4,a5),(a6,a7,a8))):=fun hf=>absurd hm0 (HFI.out.1 hf).1;clear hlk0 hv hm0;go_wp2_with fail
  go_ret
  refine ⟨by rw [decide_eq_false HNF.out];rfl,?_,fun hf=>absurd hf HNF.out⟩;exact (ZW0.out.mono (fun k _ e=>.inr (.inr (.inl e)))).drew
 have hv:(setF (edgesL tr) ((a0,a1,a2),(a3,a4,a5))).getD kitUsed.zero=false:=by unfold setF;rw [if_neg hm0];rfl
 rw [hv] at hlk0;have HK1:(Instr.lookup 179 (.map (some bu)) (.agg #[.int .i64 a0,.int .i64 a1,.int .i64 a2,.int .i64 a3,.int .i64 a4,.int .i64 a5]) false).run Tryz.prog z0.drew=.ok (.bool false) z0.drew:=hlk0;have HM0:=Lib.hid hm0;clear hlk0 hv hm0;go_wp2_with fail
 clear HK1;have hdr:Upd noBlk z0 z0.drew:=(Upd.refl _ z0).drew;have E0':=Lib.hid (hdr.heap E0.out id);have YB0:=Lib.hid (hdr.heap ZB0.out id);have YT0:=Lib.hid (hdr.heap ZT0.out id);have YU0:=Lib.hid (ZU0.out.keep hdr);have YW0:=Lib.hid (ZW0.out.trans (hdr.mono (fun _ _ h=>h.elim)));obtain ⟨v0,hv0⟩:∃v0,v0=z0.drew:=⟨_,rfl⟩;rw [←hv0] at E0' YB0 YT0 YU0 YW0;rw [←hv0];clear hv0 hdr E0 ZB0 ZT0 ZU0 ZW0;refine wp_region_tree 5 (OT.sures [0,4,1,2,3] .nil) (fun w'=>Gr v0 w') (by kernel_rfl) (by kernel_rfl) (fun c a d v w h=>by cases d<;>exact h) ((Gr.refl v0).drew) ?_
 simp only [OT.sures]
 iterate 5 (apply wpT_sure rfl rfl;focus (intro w' hw';obtain ⟨⟨k0,k1,k2,k3,k4⟩,_⟩:=cells5 (hw'.heap YB0.out id);obtain ⟨g0,g1,g2,g3,g4,g5⟩:=cells6 (hw'.heap E0'.out id);go_simp;rfl))
 refine wpT_nil ?_;obtain ⟨x1,hr0,hy0,hu0⟩:=(YU0.out.keep (Upd.refl noBlk v0).drew).put (by have:=hl0.out;unfold maxLen;omega) (a:=((a0,a1,a2),(a3,a4,a5))) KE0.out (v:=true) trivial;rw [setF_new] at hy0;have hu0':Upd (fun k=>k=bu) v0 x1:=(Upd.refl _ v0).drew.trans hu0;have HU1:=Lib.hid hy0;have HB1:=Lib.hid (hu0'.heap YB0.out (fun e=>HN.out.nbu e.symm));have HT1:=Lib.hid (hu0'.heap YT0.out (fun e=>by have:=HBU.out.1;omega));have HW1:=Lib.hid (YW0.out.trans hu0');have HR:(Instr.mapUpdate 179 (.map (some bu)) (.agg #[.int .i64 a0,.int .i64 a1,.int .i64 a2,.int .i64 a3,.int .i64 a4,.int .i64 a5]) (.bool true)).run Tryz.prog v0.drew=.ok () x1:=hr0;clear hr0 hy0 hu0 hu0' E0' YB0 YT0 YU0 YW0;go_wp2_with fail
 clear HR KE0 ZX0;rw [rounds_succ];go_wp2_with fail
 refine wp_region_tree 10 (OT.sures [0,3,1,4,2,5,6,7,8] (.run 9 .nil)) (fun w'=>w'.heap[w.heap.size]?=some (.cells #[.int .i64 a0,.int .i64 a1,.int .i64 a2,.int .i64 a3,.int .i64 a4,.int .i64 a5,.int .i64 a6,.int .i64 a7,.int .i64 a8] 169 (0,0))) (by kernel_rfl) (by kernel_rfl) (fun c a d v w h=>by cases d<;>exact h) HT1.out ?_
 simp only [OT.sures]
 iterate 9 (apply wpT_sure rfl rfl;focus (intro w' hw';obtain ⟨g0,g1,g2,g3,g4,g5,g6,g7,g8⟩:=cells9 hw';go_simp;rfl))
 refine wpT_run _ (fun _ h=>h) rfl (fun K' hK=>?_);go_simp
 have hal:Upd noBlk x1 (x1.alloc (.cells #[.int .i64 0,.int .i64 0,.int .i64 0,.int .i64 0,.int .i64 0,.int .i64 0] 171)).drew:=((Upd.refl noBlk x1).alloc _).drew;refine hK _ _ ⟨hal.heap HT1.out id,?_⟩;clear hK K' hal;refine wpT_nil ?_;go_wp2_with fail
 have he6:Upd noBlk x1 (x1.alloc (.cells #[.int .i64 a3,.int .i64 a4,.int .i64 a5,.int .i64 a6,.int .i64 a7,.int .i64 a8] 171)).drew:=((Upd.refl noBlk x1).alloc _).drew;have E1:Hid ((x1.alloc (.cells #[.int .i64 a3,.int .i64 a4,.int .i64 a5,.int .i64 a6,.int .i64 a7,.int .i64 a8] 171)).drew.heap[x1.heap.size]?=some (.cells #[.int .i64 a3,.int .i64 a4,.int .i64 a5,.int .i64 a6,.int .i64 a7,.int .i64 a8] 171 (0,0))):=heap_alloc_new x1 (.cells #[.int .i64 a3,.int .i64 a4,.int .i64 a5,.int .i64 a6,.int .i64 a7,.int .i64 a8] 171);have ZB1:=Lib.hid (he6.heap HB1.out id);have ZT1:=Lib.hid (he6.heap HT1.out id);have ZU1:=Lib.hid (HU1.out.keep he6);have ZW1:=Lib.hid (HW1.out.trans (he6.mono (fun _ _ h=>h.elim)));have ZX1:Hid (w.heap.size<x1.heap.size):=lt_of_heap HT1.out;obtain ⟨z1,hz1⟩:∃z1,z1=(x1.alloc (.cells #[.int .i64 a3,.int .i64 a4,.int .i64 a5,.int .i64 a6,.int .i64 a7,.int .i64 a8] 171)).drew:=⟨_,rfl⟩;rw [←hz1] at E1 ZB1 ZT1 ZU1 ZW1;rw [←hz1];clear hz1 he6 HB1 HT1 HU1 HW1;have KE1:Hid (okE ((a3,a4,a5),(a6,a7,a8))):=by have:=HKT.out;exact ⟨this.2.1,this.2.2⟩
 refine wp_region_tree 5 (OT.sures [0,4,1,2,3] .nil) (fun w'=>Gr z1 w') (by kernel_rfl) (by kernel_rfl) (fun c a d v w h=>by cases d<;>exact h) ((Gr.refl z1).drew) ?_
 simp only [OT.sures]
 iterate 5 (apply wpT_sure rfl rfl;focus (intro w' hw';obtain ⟨⟨k0,k1,k2,k3,k4⟩,_⟩:=cells5 (hw'.heap ZB1.out id);obtain ⟨g0,g1,g2,g3,g4,g5⟩:=cells6 (hw'.heap E1.out id);go_simp;rfl))
 refine wpT_nil ?_;have hlk1:=(ZU1.out.keep (Upd.refl noBlk z1).drew).lookR (a:=((a3,a4,a5),(a6,a7,a8))) KE1.out;by_cases hm1:((a3,a4,a5),(a6,a7,a8))∈(edgesL tr++[((a0,a1,a2),(a3,a4,a5))])
 ·have hv:(setF (edgesL tr++[((a0,a1,a2),(a3,a4,a5))]) ((a3,a4,a5),(a6,a7,a8))).getD kitUsed.zero=true:=by unfold setF;rw [if_pos hm1];rfl
  rw [hv] at hlk1;have HK1:(Instr.lookup 179 (.map (some bu)) (.agg #[.int .i64 a3,.int .i64 a4,.int .i64 a5,.int .i64 a6,.int .i64 a7,.int .i64 a8]) false).run Tryz.prog z1.drew=.ok (.bool true) z1.drew:=hlk1;have HNF:Hid (¬freeT false tr ((a0,a1,a2),(a3,a4,a5),(a6,a7,a8))):=fun hf=>absurd hm1 (HFI.out.1 hf).2.1;clear hlk1 hv hm1;go_wp2_with fail
  go_ret
  refine ⟨by rw [decide_eq_false HNF.out];rfl,?_,fun hf=>absurd hf HNF.out⟩;exact (ZW1.out.mono (fun k _ e=>.inr (.inr (.inl e)))).drew
 have hv:(setF (edgesL tr++[((a0,a1,a2),(a3,a4,a5))]) ((a3,a4,a5),(a6,a7,a8))).getD kitUsed.zero=false:=by unfold setF;rw [if_neg hm1];rfl
 rw [hv] at hlk1;have HK1:(Instr.lookup 179 (.map (some bu)) (.agg #[.int .i64 a3,.int .i64 a4,.int .i64 a5,.int .i64 a6,.int .i64 a7,.int .i64 a8]) false).run Tryz.prog z1.drew=.ok (.bool false) z1.drew:=hlk1;have HM1:=Lib.hid hm1;clear hlk1 hv hm1;go_wp2_with fail
 clear HK1;have hdr:Upd noBlk z1 z1.drew:=(Upd.refl _ z1).drew;have E1':=Lib.hid (hdr.heap E1.out id);have YB1:=Lib.hid (hdr.heap ZB1.out id);have YT1:=Lib.hid (hdr.heap ZT1.out id);have YU1:=Lib.hid (ZU1.out.keep hdr);have YW1:=Lib.hid (ZW1.out.trans (hdr.mono (fun _ _ h=>h.elim)));obtain ⟨v1,hv1⟩:∃v1,v1=z1.drew:=⟨_,rfl⟩;rw [←hv1] at E1' YB1 YT1 YU1 YW1;rw [←hv1];clear hv1 hdr E1 ZB1 ZT1 ZU1 ZW1;refine wp_region_tree 5 (OT.sures [0,4,1,2,3] .nil) (fun w'=>Gr v1 w') (by kernel_rfl) (by kernel_rfl) (fun c a d v w h=>by cases d<;>exact h) ((Gr.refl v1).drew) ?_
 simp only [OT.sures]
 iterate 5 (apply wpT_sure rfl rfl;focus (intro w' hw';obtain ⟨⟨k0,k1,k2,k3,k4⟩,_⟩:=cells5 (hw'.heap YB1.out id);obtain ⟨g0,g1,g2,g3,g4,g5⟩:=cells6 (hw'.heap E1'.out id);go_simp;rfl))
 refine wpT_nil ?_;obtain ⟨x2,hr1,hy1,hu1⟩:=(YU1.out.keep (Upd.refl noBlk v1).drew).put (by have:=hl0.out;unfold maxLen;omega) (a:=((a3,a4,a5),(a6,a7,a8))) KE1.out (v:=true) trivial;rw [setF_new] at hy1;have hu1':Upd (fun k=>k=bu) v1 x2:=(Upd.refl _ v1).drew.trans hu1;have HU2:=Lib.hid hy1;have HB2:=Lib.hid (hu1'.heap YB1.out (fun e=>HN.out.nbu e.symm));have HT2:=Lib.hid (hu1'.heap YT1.out (fun e=>by have:=HBU.out.1;omega));have HW2:=Lib.hid (YW1.out.trans hu1');have HR:(Instr.mapUpdate 179 (.map (some bu)) (.agg #[.int .i64 a3,.int .i64 a4,.int .i64 a5,.int .i64 a6,.int .i64 a7,.int .i64 a8]) (.bool true)).run Tryz.prog v1.drew=.ok () x2:=hr1;clear hr1 hy1 hu1 hu1' E1' YB1 YT1 YU1 YW1;go_wp2_with fail
 clear HR KE1 ZX1;rw [rounds_succ];go_wp2_with fail
 refine wp_region_tree 10 (OT.sures [0,3,1,4,2,5,6,7,8] (.run 9 .nil)) (fun w'=>w'.heap[w.heap.size]?=some (.cells #[.int .i64 a0,.int .i64 a1,.int .i64 a2,.int .i64 a3,.int .i64 a4,.int .i64 a5,.int .i64 a6,.int .i64 a7,.int .i64 a8] 169 (0,0))) (by kernel_rfl) (by kernel_rfl) (fun c a d v w h=>by cases d<;>exact h) HT2.out ?_
 simp only [OT.sures]
 iterate 9 (apply wpT_sure rfl rfl;focus (intro w' hw';obtain ⟨g0,g1,g2,g3,g4,g5,g6,g7,g8⟩:=cells9 hw';go_simp;rfl))
 refine wpT_run _ (fun _ h=>h) rfl (fun K' hK=>?_);go_simp
 have hal:Upd noBlk x2 (x2.alloc (.cells #[.int .i64 0,.int .i64 0,.int .i64 0,.int .i64 0,.int .i64 0,.int .i64 0] 171)).drew:=((Upd.refl noBlk x2).alloc _).drew;refine hK _ _ ⟨hal.heap HT2.out id,?_⟩;clear hK K' hal;refine wpT_nil ?_;go_wp2_with fail
 have he6:Upd noBlk x2 (x2.alloc (.cells #[.int .i64 a6,.int .i64 a7,.int .i64 a8,.int .i64 a0,.int .i64 a1,.int .i64 a2] 171)).drew:=((Upd.refl noBlk x2).alloc _).drew;have E2:Hid ((x2.alloc (.cells #[.int .i64 a6,.int .i64 a7,.int .i64 a8,.int .i64 a0,.int .i64 a1,.int .i64 a2] 171)).drew.heap[x2.heap.size]?=some (.cells #[.int .i64 a6,.int .i64 a7,.int .i64 a8,.int .i64 a0,.int .i64 a1,.int .i64 a2] 171 (0,0))):=heap_alloc_new x2 (.cells #[.int .i64 a6,.int .i64 a7,.int .i64 a8,.int .i64 a0,.int .i64 a1,.int .i64 a2] 171);have ZB2:=Lib.hid (he6.heap HB2.out id);have ZT2:=Lib.hid (he6.heap HT2.out id);have ZU2:=Lib.hid (HU2.out.keep he6);have ZW2:=Lib.hid (HW2.out.trans (he6.mono (fun _ _ h=>h.elim)));have ZX2:Hid (w.heap.size<x2.heap.size):=lt_of_heap HT2.out;obtain ⟨z2,hz2⟩:∃z2,z2=(x2.alloc (.cells #[.int .i64 a6,.int .i64 a7,.int .i64 a8,.int .i64 a0,.int .i64 a1,.int .i64 a2] 171)).drew:=⟨_,rfl⟩;rw [←hz2] at E2 ZB2 ZT2 ZU2 ZW2;rw [←hz2];clear hz2 he6 HB2 HT2 HU2 HW2;have KE2:Hid (okE ((a6,a7,a8),(a0,a1,a2))):=by have:=HKT.out;exact ⟨this.2.2,this.1⟩
 refine wp_region_tree 5 (OT.sures [0,4,1,2,3] .nil) (fun w'=>Gr z2 w') (by kernel_rfl) (by kernel_rfl) (fun c a d v w h=>by cases d<;>exact h) ((Gr.refl z2).drew) ?_
 simp only [OT.sures]
 iterate 5 (apply wpT_sure rfl rfl;focus (intro w' hw';obtain ⟨⟨k0,k1,k2,k3,k4⟩,_⟩:=cells5 (hw'.heap ZB2.out id);obtain ⟨g0,g1,g2,g3,g4,g5⟩:=cells6 (hw'.heap E2.out id);go_simp;rfl))
 refine wpT_nil ?_;have hlk2:=(ZU2.out.keep (Upd.refl noBlk z2).drew).lookR (a:=((a6,a7,a8),(a0,a1,a2))) KE2.out;by_cases hm2:((a6,a7,a8),(a0,a1,a2))∈(edgesL tr++[((a0,a1,a2),(a3,a4,a5))]++[((a3,a4,a5),(a6,a7,a8))])
 ·have hv:(setF (edgesL tr++[((a0,a1,a2),(a3,a4,a5))]++[((a3,a4,a5),(a6,a7,a8))]) ((a6,a7,a8),(a0,a1,a2))).getD kitUsed.zero=true:=by unfold setF;rw [if_pos hm2];rfl
  rw [hv] at hlk2;have HK1:(Instr.lookup 179 (.map (some bu)) (.agg #[.int .i64 a6,.int .i64 a7,.int .i64 a8,.int .i64 a0,.int .i64 a1,.int .i64 a2]) false).run Tryz.prog z2.drew=.ok (.bool true) z2.drew:=hlk2;have HNF:Hid (¬freeT false tr ((a0,a1,a2),(a3,a4,a5),(a6,a7,a8))):=fun hf=>absurd hm2 (HFI.out.1 hf).2.2;clear hlk2 hv hm2;go_wp2_with fail
  go_ret
  refine ⟨by rw [decide_eq_false HNF.out];rfl,?_,fun hf=>absurd hf HNF.out⟩;exact (ZW2.out.mono (fun k _ e=>.inr (.inr (.inl e)))).drew
 have hv:(setF (edgesL tr++[((a0,a1,a2),(a3,a4,a5))]++[((a3,a4,a5),(a6,a7,a8))]) ((a6,a7,a8),(a0,a1,a2))).getD kitUsed.zero=false:=by unfold setF;rw [if_neg hm2];rfl
 rw [hv] at hlk2;have HK1:(Instr.lookup 179 (.map (some bu)) (.agg #[.int .i64 a6,.int .i64 a7,.int .i64 a8,.int .i64 a0,.int .i64 a1,.int .i64 a2]) false).run Tryz.prog z2.drew=.ok (.bool false) z2.drew:=hlk2;have HM2:=Lib.hid hm2;clear hlk2 hv hm2;go_wp2_with fail
 clear HK1;have hdr:Upd noBlk z2 z2.drew:=(Upd.refl _ z2).drew;have E2':=Lib.hid (hdr.heap E2.out id);have YB2:=Lib.hid (hdr.heap ZB2.out id);have YT2:=Lib.hid (hdr.heap ZT2.out id);have YU2:=Lib.hid (ZU2.out.keep hdr);have YW2:=Lib.hid (ZW2.out.trans (hdr.mono (fun _ _ h=>h.elim)));obtain ⟨v2,hv2⟩:∃v2,v2=z2.drew:=⟨_,rfl⟩;rw [←hv2] at E2' YB2 YT2 YU2 YW2;rw [←hv2];clear hv2 hdr E2 ZB2 ZT2 ZU2 ZW2;refine wp_region_tree 5 (OT.sures [0,4,1,2,3] .nil) (fun w'=>Gr v2 w') (by kernel_rfl) (by kernel_rfl) (fun c a d v w h=>by cases d<;>exact h) ((Gr.refl v2).drew) ?_
 simp only [OT.sures]
 iterate 5 (apply wpT_sure rfl rfl;focus (intro w' hw';obtain ⟨⟨k0,k1,k2,k3,k4⟩,_⟩:=cells5 (hw'.heap YB2.out id);obtain ⟨g0,g1,g2,g3,g4,g5⟩:=cells6 (hw'.heap E2'.out id);go_simp;rfl))
 refine wpT_nil ?_;obtain ⟨x3,hr2,hy2,hu2⟩:=(YU2.out.keep (Upd.refl noBlk v2).drew).put (by have:=hl0.out;unfold maxLen;omega) (a:=((a6,a7,a8),(a0,a1,a2))) KE2.out (v:=true) trivial;rw [setF_new] at hy2;have hu2':Upd (fun k=>k=bu) v2 x3:=(Upd.refl _ v2).drew.trans hu2;have HU3:=Lib.hid hy2;have HB3:=Lib.hid (hu2'.heap YB2.out (fun e=>HN.out.nbu e.symm));have HT3:=Lib.hid (hu2'.heap YT2.out (fun e=>by have:=HBU.out.1;omega));have HW3:=Lib.hid (YW2.out.trans hu2');have HR:(Instr.mapUpdate 179 (.map (some bu)) (.agg #[.int .i64 a6,.int .i64 a7,.int .i64 a8,.int .i64 a0,.int .i64 a1,.int .i64 a2]) (.bool true)).run Tryz.prog v2.drew=.ok () x3:=hr2;clear hr2 hy2 hu2 hu2' E2' YB2 YT2 YU2 YW2;go_wp2_with fail
 clear HR KE2 ZX2;rw [rounds_succ];go_wp2_with fail
 have hL:=HL.out;have hx3:Upd (sFoot b vK vG vT ba bu) w x3:=HW3.out.mono (fun k _ e=>.inr (.inr (.inl e)));have HFR:Hid (decide (freeT false tr ((a0,a1,a2),(a3,a4,a5),(a6,a7,a8)))=true):=decide_eq_true (HFI.out.2 ⟨HM0.out,HM1.out,HM2.out⟩);have hE:edgesL (tr++[((a0,a1,a2),(a3,a4,a5),(a6,a7,a8))])=edgesL tr++[((a0,a1,a2),(a3,a4,a5))]++[((a3,a4,a5),(a6,a7,a8))]++[((a6,a7,a8),(a0,a1,a2))]:=by rw [edgesL_app];simp [edgesT]
 have hlen:3*(tr++[((a0,a1,a2),(a3,a4,a5),(a6,a7,a8))]).length=3*tr.length+1+1+1:=by simp;omega
 have hne:=HN.out;obtain ⟨AT,capT,gT,cap3,x4,hvT,r4,L5,hb4,u4,hat4⟩:=tri_step (K:=K) (gs:=gs) (tr0:=tr) HB3.out hne hL.comp.ab (hL.comp.at_.other HW3.out hL.comp.ab) ((a0,a1,a2),(a3,a4,a5),(a6,a7,a8)) (by rw [hE,hlen];exact HU3.out) (own_keepB hL.comp.known (fun i hi=>HW3.out.block i (own_lt hL.comp.known hi) (fun e=>hne.ku (by rw [hi,e])))) (hL.comp.gates.other HW3.out (fun i hi e=>hne.gu (by rw [hi,e]))) (own_keepB hL.comp.tris (fun i hi=>HW3.out.block i (own_lt hL.comp.tris hi) (fun e=>hne.tu (by rw [hi,e])))) (by have:=hl0.out;omega);subst hvT;have HAPP:(Builtin.append_ #[91,91] 91 #[.slice AT tr.length capT,.slice (some ⟨x3.heap.size,0,none⟩) 1 1]).run Tryz.prog (x3.drew.alloc (.cells #[.int .i64 a0,.int .i64 a1,.int .i64 a2,.int .i64 a3,.int .i64 a4,.int .i64 a5,.int .i64 a6,.int .i64 a7,.int .i64 a8] 169))=.ok (.slice (some ⟨gT,0,none⟩) (tr.length+1) cap3) x4:=r4;have L5':=Lib.hid L5;have HB4:=Lib.hid hb4;have HU4:=Lib.hid u4;have HA4:=Lib.hid hat4;have hd1:Upd noBlk x3 (x3.drew.alloc (.cells #[.int .i64 a0,.int .i64 a1,.int .i64 a2,.int .i64 a3,.int .i64 a4,.int .i64 a5,.int .i64 a6,.int .i64 a7,.int .i64 a8] 169)):=(Upd.refl _ x3).drew.alloc _;have HAB:Hid ((x3.drew.alloc (.cells #[.int .i64 a0,.int .i64 a1,.int .i64 a2,.int .i64 a3,.int .i64 a4,.int .i64 a5,.int .i64 a6,.int .i64 a7,.int .i64 a8] 169)).heap[b]?=some (.cells #[vK,.map (some ba),.map (some bu),vG,.slice AT tr.length capT] 182 (0,0))∧(x3.drew.alloc (.cells #[.int .i64 a0,.int .i64 a1,.int .i64 a2,.int .i64 a3,.int .i64 a4,.int .i64 a5,.int .i64 a6,.int .i64 a7,.int .i64 a8] 169)).heap[w.heap.size]?=some (.cells #[.int .i64 a0,.int .i64 a1,.int .i64 a2,.int .i64 a3,.int .i64 a4,.int .i64 a5,.int .i64 a6,.int .i64 a7,.int .i64 a8] 169 (0,0))):=⟨hd1.heap HB3.out id,hd1.heap HT3.out id⟩;have HT4:=Lib.hid (u4.heap HT3.out (fun e=>by have:=own_lt hL.comp.tris e;omega));have HX3:=Lib.hid hx3;clear hL hx3 hE hlen hne r4 L5 hb4 u4 hat4 hd1 HU3 HW3;refine wp_region_tree 8 (OT.sures [0,1,5,2,3,4] (.run 6 (.run 7 .nil))) (fun w'=>w'.heap[b]?=some (.cells #[vK,.map (some ba),.map (some bu),vG,.slice AT tr.length capT] 182 (0,0))∧w'.heap[w.heap.size]?=some (.cells #[.int .i64 a0,.int .i64 a1,.int .i64 a2,.int .i64 a3,.int .i64 a4,.int .i64 a5,.int .i64 a6,.int .i64 a7,.int .i64 a8] 169 (0,0))) (by kernel_rfl) (by kernel_rfl) (fun c a d v w h=>by cases d<;>exact h) ⟨HB3.out,HT3.out⟩ ?_
 simp only [OT.sures]
 iterate 6 (apply wpT_sure rfl rfl;focus (intro w' hw';obtain ⟨⟨k0,k1,k2,k3,k4⟩,_⟩:=cells5 hw'.1;obtain ⟨g0,g1,g2,g3,g4,g5,g6,g7,g8⟩:=cells9 hw'.2;go_simp;rfl))
 refine wpT_run _ (fun _ h=>h) rfl (fun K' hK=>?_);go_simp
 refine hK _ _ ⟨HAB.out,?_⟩;clear hK K';refine wpT_run _ (fun _ h=>h) rfl (fun K' hK=>?_);rw [if_pos (by rfl)];refine wp_append_run _ _ _ rfl rfl rfl HAPP ?_;refine hK _ _ ⟨⟨HB4.out,HT4.out⟩,?_⟩;clear hK K' HAPP HAB;refine wpT_nil ?_;obtain ⟨⟨k0,k1,k2,k3,k4⟩,⟨f0,f1,f2,f3,f4⟩⟩:=cells5 HB4.out;go_wp2_with fail
 clear k0 k1 k2 k3 k4 f0 f1 f2 f3 f4;obtain ⟨y0,hy0⟩:∃y0,y0=x4.setCell ⟨b,4,none⟩ (.slice (some ⟨gT,0,none⟩) (tr.length+1) cap3):=⟨_,rfl⟩;have hne5:w.heap.size≠b:=by have:=HBU.out.2;omega
 have LV0:Hid (SLive y0 b ⟨K,tr++[((a0,a1,a2),(a3,a4,a5),(a6,a7,a8))],gs⟩ vK vG (.slice (some ⟨gT,0,none⟩) (tr.length+1) cap3) ba bu):=by show SLive _ _ _ _ _ _ _ _;rw [hy0];exact L5'.out
 have TT0:Hid (y0.heap[w.heap.size]?=some (.cells #[.int .i64 a0,.int .i64 a1,.int .i64 a2,.int .i64 a3,.int .i64 a4,.int .i64 a5,.int .i64 a6,.int .i64 a7,.int .i64 a8] 169 (0,0))):=by show _=_;rw [hy0,heap_setCell_other _ _ _ _ hne5];exact HT4.out
 have UP0:Hid (Upd (sFoot b vK vG (.slice AT tr.length capT) ba bu) w y0):=by show Upd _ _ _;rw [hy0];exact (HX3.out.trans (HU4.out.mono (fun k _ e=>.inr (.inr (.inr (.inr (.inr e))))))).setCell (p:=⟨b,4,none⟩) (fun _=>.inl rfl) _
 have FN0:Hid (∀k,sFoot b vK vG (.slice (some ⟨gT,0,none⟩) (tr.length+1) cap3) ba bu k→sFoot b vK vG (.slice AT tr.length capT) ba bu k∨w.heap.size≤k):=fun k hk=>by
  rcases hk with h | h | h | h | h | h
  ·exact .inl (.inl h)
  ·exact .inl (.inr (.inl h))
  ·exact .inl (.inr (.inr (.inl h)))
  ·exact .inl (.inr (.inr (.inr (.inl h))))
  ·exact .inl (.inr (.inr (.inr (.inr (.inl h)))))
  ·have e:gT=k:=by simpa [Value.ownBlock] using h
   subst e;rcases HA4.out with h2 | h2
   ·exact .inl (.inr (.inr (.inr (.inr (.inr h2)))))
   ·exact .inr (by have:=HX3.out.size;omega)
 rw [←hy0];clear hy0 hne5 L5' HB4 HU4 HT4 HX3 HA4 HB3 HT3;obtain ⟨vT2,hvT2⟩:∃vT2,vT2=Value.slice (some ⟨gT,0,none⟩) (tr.length+1) cap3:=⟨_,rfl⟩;rw [←hvT2] at LV0 FN0;clear hvT2;have HOLD:Hid (vG=vG):=rfl;obtain ⟨FT,hFT⟩:∃FT,FT=sFoot b vK vG (.slice AT tr.length capT) ba bu:=⟨_,rfl⟩;rw [←hFT] at UP0 FN0;have HFT:=Lib.hid hFT;have GL0:Hid (gs.length≤1000000+0):=by show _≤_;have:=hg0.out;omega
 clear HOLD hFT;rcases HFF.out with rfl | rfl
 ·refine wp_loop_rounds 4 ?_;rw [rounds_succ];go_wp2_with fail
  obtain ⟨A0,cap0,g0,off0,cp0,w0,hv0,r0,L0,hb0,u0,hat0⟩:=gate_step LV0.out ((a3,a4,a5),(a0,a1,a2),(a6,a7,a8)) (by have:=hg0.out;(try simp only [List.length_append,List.length_cons,List.length_nil]);omega);obtain ⟨len0,hlen0⟩:∃len0,len0=(gs).length:=⟨_,rfl⟩;rw [←hlen0] at hv0 r0 L0;have HLEN0:=Lib.hid hlen0;subst hv0;have HAPP:(Builtin.append_ #[180,180] 180 #[.slice A0 len0 cap0,.slice (some ⟨y0.heap.size,0,none⟩) 1 1]).run Tryz.prog (y0.drew.alloc (.cells #[.int .i64 a3,.int .i64 a4,.int .i64 a5,.int .i64 a0,.int .i64 a1,.int .i64 a2,.int .i64 a6,.int .i64 a7,.int .i64 a8] 184))=.ok (.slice (some ⟨g0,off0,none⟩) (len0+1) cp0) w0:=r0;have L0':=Lib.hid L0;have HB0:=Lib.hid hb0;have HU0:=Lib.hid u0;have HA0:=Lib.hid hat0;have hd1:Upd noBlk y0 (y0.drew.alloc (.cells #[.int .i64 a3,.int .i64 a4,.int .i64 a5,.int .i64 a0,.int .i64 a1,.int .i64 a2,.int .i64 a6,.int .i64 a7,.int .i64 a8] 184)):=(Upd.refl _ y0).drew.alloc _;have HAB:Hid ((y0.drew.alloc (.cells #[.int .i64 a3,.int .i64 a4,.int .i64 a5,.int .i64 a0,.int .i64 a1,.int .i64 a2,.int .i64 a6,.int .i64 a7,.int .i64 a8] 184)).heap[b]?=some (.cells #[vK,.map (some ba),.map (some bu),.slice A0 len0 cap0,vT2] 182 (0,0))∧(y0.drew.alloc (.cells #[.int .i64 a3,.int .i64 a4,.int .i64 a5,.int .i64 a0,.int .i64 a1,.int .i64 a2,.int .i64 a6,.int .i64 a7,.int .i64 a8] 184)).heap[w.heap.size]?=some (.cells #[.int .i64 a0,.int .i64 a1,.int .i64 a2,.int .i64 a3,.int .i64 a4,.int .i64 a5,.int .i64 a6,.int .i64 a7,.int .i64 a8] 169 (0,0))):=⟨hd1.heap LV0.out.blk id,hd1.heap TT0.out id⟩;have HTG0:Hid (w0.heap[w.heap.size]?=some (.cells #[.int .i64 a0,.int .i64 a1,.int .i64 a2,.int .i64 a3,.int .i64 a4,.int .i64 a5,.int .i64 a6,.int .i64 a7,.int .i64 a8] 169 (0,0))):=u0.heap TT0.out (fun e=>by obtain ⟨_,cur,hc⟩:=LV0.out.comp.gates.blk e;exact ne_obj hc TT0.out (by have tg:kGate.T=184:=rfl;rw [tg];simp) rfl);have HLB:Hid (y0.heap[b]?=some (.cells #[vK,.map (some ba),.map (some bu),.slice A0 len0 cap0,vT2] 182 (0,0))):=LV0.out.blk;clear r0 L0 hb0 u0 hat0 hd1 hlen0;refine wp_region_tree 22 (OT.sures [0,1,5,10,14,6,11,15,7,12,16,8,17,9,18,13,19,2,3,4] (.run 20 (.run 21 .nil))) (fun w'=>w'.heap[b]?=some (.cells #[vK,.map (some ba),.map (some bu),.slice A0 len0 cap0,vT2] 182 (0,0))∧w'.heap[w.heap.size]?=some (.cells #[.int .i64 a0,.int .i64 a1,.int .i64 a2,.int .i64 a3,.int .i64 a4,.int .i64 a5,.int .i64 a6,.int .i64 a7,.int .i64 a8] 169 (0,0))) (by kernel_rfl) (by kernel_rfl) (fun c a d v w h=>by cases d<;>exact h) ⟨HLB.out,TT0.out⟩ ?_
  simp only [OT.sures]
  iterate 20 (apply wpT_sure rfl rfl;focus (intro w' hw';obtain ⟨⟨k0,k1,k2,k3,k4⟩,_⟩:=cells5 hw'.1;obtain ⟨g0,g1,g2,g3,g4,g5,g6,g7,g8⟩:=cells9 hw'.2;go_simp;rfl))
  refine wpT_run _ (fun _ h=>h) rfl (fun K' hK=>?_);go_simp
  refine hK _ _ ⟨HAB.out,?_⟩;clear hK K';refine wpT_run _ (fun _ h=>h) rfl (fun K' hK=>?_);rw [if_pos (by rfl)];refine wp_append_run _ _ _ rfl rfl rfl HAPP ?_;refine hK _ _ ⟨⟨HB0.out,HTG0.out⟩,?_⟩;clear hK K' HAPP HAB HLB;refine wpT_nil ?_;obtain ⟨⟨k0,k1,k2,k3,k4⟩,⟨f0,f1,f2,f3,f4⟩⟩:=cells5 HB0.out;go_wp2_with fail
  clear k0 k1 k2 k3 k4 f0 f1 f2 f3 f4;obtain ⟨y1,hy1⟩:∃y1,y1=w0.setCell ⟨b,3,none⟩ (.slice (some ⟨g0,off0,none⟩) (len0+1) cp0):=⟨_,rfl⟩;have hne5:w.heap.size≠b:=by have:=HBU.out.2;omega
  have LV1:Hid (SLive y1 b ⟨K,tr++[((a0,a1,a2),(a3,a4,a5),(a6,a7,a8))],(gs++[((a3,a4,a5),(a0,a1,a2),(a6,a7,a8))])⟩ vK (.slice (some ⟨g0,off0,none⟩) (len0+1) cp0) vT2 ba bu):=by show SLive _ _ _ _ _ _ _ _;rw [hy1];exact L0'.out
  have TT1:Hid (y1.heap[w.heap.size]?=some (.cells #[.int .i64 a0,.int .i64 a1,.int .i64 a2,.int .i64 a3,.int .i64 a4,.int .i64 a5,.int .i64 a6,.int .i64 a7,.int .i64 a8] 169 (0,0))):=by show _=_;rw [hy1,heap_setCell_other _ _ _ _ hne5];exact HTG0.out
  have FN1:Hid (∀k,sFoot b vK (.slice (some ⟨g0,off0,none⟩) (len0+1) cp0) vT2 ba bu k→FT k∨w.heap.size≤k):=fun k hk=>by
   rcases hk with h | h | h | h | h | h
   ·exact FN0.out k (.inl h)
   ·exact FN0.out k (.inr (.inl h))
   ·exact FN0.out k (.inr (.inr (.inl h)))
   ·exact FN0.out k (.inr (.inr (.inr (.inl h))))
   ·have e:g0=k:=by simpa [Value.ownBlock] using h
    subst e;rcases HA0.out with h2 | h2
    ·exact FN0.out _ (.inr (.inr (.inr (.inr (.inl h2)))))
    ·exact .inr (by have:=UP0.out.size;omega)
   ·exact FN0.out k (.inr (.inr (.inr (.inr (.inr h)))))
  have UP1:Hid (Upd FT w y1):=by
   show Upd _ _ _;rw [hy1];refine (UP0.out.then HU0.out (fun k hk e=>?_)).setCell (p:=⟨b,3,none⟩) (fun _=>by rw [HFT.out];exact .inl rfl) _;exact (FN0.out k (.inr (.inr (.inr (.inr (.inl e)))))).resolve_right (by omega)
  rw [←hy1];clear hy1 hne5 L0' HB0 HU0 HTG0 HA0 LV0 TT0 FN0 UP0 HLEN0;obtain ⟨vG1,hvG1⟩:∃vG1,vG1=Value.slice (some ⟨g0,off0,none⟩) (len0+1) cp0:=⟨_,rfl⟩;rw [←hvG1] at LV1 FN1;clear hvG1;rw [rounds_succ];go_wp2_with fail
  obtain ⟨A1,cap1,g1,off1,cp1,w1,hv1,r1,L1,hb1,u1,hat1⟩:=gate_step LV1.out ((a6,a7,a8),(a3,a4,a5),(a0,a1,a2)) (by have:=hg0.out;(try simp only [List.length_append,List.length_cons,List.length_nil]);omega);obtain ⟨len1,hlen1⟩:∃len1,len1=(gs++[((a3,a4,a5),(a0,a1,a2),(a6,a7,a8))]).length:=⟨_,rfl⟩;rw [←hlen1] at hv1 r1 L1;have HLEN1:=Lib.hid hlen1;subst hv1;have HAPP:(Builtin.append_ #[180,180] 180 #[.slice A1 len1 cap1,.slice (some ⟨y1.heap.size,0,none⟩) 1 1]).run Tryz.prog (y1.drew.alloc (.cells #[.int .i64 a6,.int .i64 a7,.int .i64 a8,.int .i64 a3,.int .i64 a4,.int .i64 a5,.int .i64 a0,.int .i64 a1,.int .i64 a2] 184))=.ok (.slice (some ⟨g1,off1,none⟩) (len1+1) cp1) w1:=r1;have L1':=Lib.hid L1;have HB1:=Lib.hid hb1;have HU1:=Lib.hid u1;have HA1:=Lib.hid hat1;have hd1:Upd noBlk y1 (y1.drew.alloc (.cells #[.int .i64 a6,.int .i64 a7,.int .i64 a8,.int .i64 a3,.int .i64 a4,.int .i64 a5,.int .i64 a0,.int .i64 a1,.int .i64 a2] 184)):=(Upd.refl _ y1).drew.alloc _;have HAB:Hid ((y1.drew.alloc (.cells #[.int .i64 a6,.int .i64 a7,.int .i64 a8,.int .i64 a3,.int .i64 a4,.int .i64 a5,.int .i64 a0,.int .i64 a1,.int .i64 a2] 184)).heap[b]?=some (.cells #[vK,.map (some ba),.map (some bu),.slice A1 len1 cap1,vT2] 182 (0,0))∧(y1.drew.alloc (.cells #[.int .i64 a6,.int .i64 a7,.int .i64 a8,.int .i64 a3,.int .i64 a4,.int .i64 a5,.int .i64 a0,.int .i64 a1,.int .i64 a2] 184)).heap[w.heap.size]?=some (.cells #[.int .i64 a0,.int .i64 a1,.int .i64 a2,.int .i64 a3,.int .i64 a4,.int .i64 a5,.int .i64 a6,.int .i64 a7,.int .i64 a8] 169 (0,0))):=⟨hd1.heap LV1.out.blk id,hd1.heap TT1.out id⟩;have HTG1:Hid (w1.heap[w.heap.size]?=some (.cells #[.int .i64 a0,.int .i64 a1,.int .i64 a2,.int .i64 a3,.int .i64 a4,.int .i64 a5,.int .i64 a6,.int .i64 a7,.int .i64 a8] 169 (0,0))):=u1.heap TT1.out (fun e=>by obtain ⟨_,cur,hc⟩:=LV1.out.comp.gates.blk e;exact ne_obj hc TT1.out (by have tg:kGate.T=184:=rfl;rw [tg];simp) rfl);have HLB:Hid (y1.heap[b]?=some (.cells #[vK,.map (some ba),.map (some bu),.slice A1 len1 cap1,vT2] 182 (0,0))):=LV1.out.blk;clear r1 L1 hb1 u1 hat1 hd1 hlen1;refine wp_region_tree 22 (OT.sures [0,1,5,10,14,6,11,15,7,12,16,8,17,9,18,13,19,2,3,4] (.run 20 (.run 21 .nil))) (fun w'=>w'.heap[b]?=some (.cells #[vK,.map (some ba),.map (some bu),.slice A1 len1 cap1,vT2] 182 (0,0))∧w'.heap[w.heap.size]?=some (.cells #[.int .i64 a0,.int .i64 a1,.int .i64 a2,.int .i64 a3,.int .i64 a4,.int .i64 a5,.int .i64 a6,.int .i64 a7,.int .i64 a8] 169 (0,0))) (by kernel_rfl) (by kernel_rfl) (fun c a d v w h=>by cases d<;>exact h) ⟨HLB.out,TT1.out⟩ ?_
  simp only [OT.sures]
  iterate 20 (apply wpT_sure rfl rfl;focus (intro w' hw';obtain ⟨⟨k0,k1,k2,k3,k4⟩,_⟩:=cells5 hw'.1;obtain ⟨g0,g1,g2,g3,g4,g5,g6,g7,g8⟩:=cells9 hw'.2;go_simp;rfl))
  refine wpT_run _ (fun _ h=>h) rfl (fun K' hK=>?_);go_simp
  refine hK _ _ ⟨HAB.out,?_⟩;clear hK K';refine wpT_run _ (fun _ h=>h) rfl (fun K' hK=>?_);rw [if_pos (by rfl)];refine wp_append_run _ _ _ rfl rfl rfl HAPP ?_;refine hK _ _ ⟨⟨HB1.out,HTG1.out⟩,?_⟩;clear hK K' HAPP HAB HLB;refine wpT_nil ?_;obtain ⟨⟨k0,k1,k2,k3,k4⟩,⟨f0,f1,f2,f3,f4⟩⟩:=cells5 HB1.out;go_wp2_with fail
  clear k0 k1 k2 k3 k4 f0 f1 f2 f3 f4;obtain ⟨y2,hy2⟩:∃y2,y2=w1.setCell ⟨b,3,none⟩ (.slice (some ⟨g1,off1,none⟩) (len1+1) cp1):=⟨_,rfl⟩;have hne5:w.heap.size≠b:=by have:=HBU.out.2;omega
  have LV2:Hid (SLive y2 b ⟨K,tr++[((a0,a1,a2),(a3,a4,a5),(a6,a7,a8))],(gs++[((a3,a4,a5),(a0,a1,a2),(a6,a7,a8))]++[((a6,a7,a8),(a3,a4,a5),(a0,a1,a2))])⟩ vK (.slice (some ⟨g1,off1,none⟩) (len1+1) cp1) vT2 ba bu):=by show SLive _ _ _ _ _ _ _ _;rw [hy2];exact L1'.out
  have TT2:Hid (y2.heap[w.heap.size]?=some (.cells #[.int .i64 a0,.int .i64 a1,.int .i64 a2,.int .i64 a3,.int .i64 a4,.int .i64 a5,.int .i64 a6,.int .i64 a7,.int .i64 a8] 169 (0,0))):=by show _=_;rw [hy2,heap_setCell_other _ _ _ _ hne5];exact HTG1.out
  have FN2:Hid (∀k,sFoot b vK (.slice (some ⟨g1,off1,none⟩) (len1+1) cp1) vT2 ba bu k→FT k∨w.heap.size≤k):=fun k hk=>by
   rcases hk with h | h | h | h | h | h
   ·exact FN1.out k (.inl h)
   ·exact FN1.out k (.inr (.inl h))
   ·exact FN1.out k (.inr (.inr (.inl h)))
   ·exact FN1.out k (.inr (.inr (.inr (.inl h))))
   ·have e:g1=k:=by simpa [Value.ownBlock] using h
    subst e;rcases HA1.out with h2 | h2
    ·exact FN1.out _ (.inr (.inr (.inr (.inr (.inl h2)))))
    ·exact .inr (by have:=UP1.out.size;omega)
   ·exact FN1.out k (.inr (.inr (.inr (.inr (.inr h)))))
  have UP2:Hid (Upd FT w y2):=by
   show Upd _ _ _;rw [hy2];refine (UP1.out.then HU1.out (fun k hk e=>?_)).setCell (p:=⟨b,3,none⟩) (fun _=>by rw [HFT.out];exact .inl rfl) _;exact (FN1.out k (.inr (.inr (.inr (.inr (.inl e)))))).resolve_right (by omega)
  rw [←hy2];clear hy2 hne5 L1' HB1 HU1 HTG1 HA1 LV1 TT1 FN1 UP1 HLEN1;obtain ⟨vG2,hvG2⟩:∃vG2,vG2=Value.slice (some ⟨g1,off1,none⟩) (len1+1) cp1:=⟨_,rfl⟩;rw [←hvG2] at LV2 FN2;clear hvG2;rw [rounds_succ];go_wp2_with fail
  obtain ⟨A2,cap2,g2,off2,cp2,w2,hv2,r2,L2,hb2,u2,hat2⟩:=gate_step LV2.out ((a0,a1,a2),(a6,a7,a8),(a3,a4,a5)) (by have:=hg0.out;(try simp only [List.length_append,List.length_cons,List.length_nil]);omega);obtain ⟨len2,hlen2⟩:∃len2,len2=(gs++[((a3,a4,a5),(a0,a1,a2),(a6,a7,a8))]++[((a6,a7,a8),(a3,a4,a5),(a0,a1,a2))]).length:=⟨_,rfl⟩;rw [←hlen2] at hv2 r2 L2;have HLEN2:=Lib.hid hlen2;subst hv2;have HAPP:(Builtin.append_ #[180,180] 180 #[.slice A2 len2 cap2,.slice (some ⟨y2.heap.size,0,none⟩) 1 1]).run Tryz.prog (y2.drew.alloc (.cells #[.int .i64 a0,.int .i64 a1,.int .i64 a2,.int .i64 a6,.int .i64 a7,.int .i64 a8,.int .i64 a3,.int .i64 a4,.int .i64 a5] 184))=.ok (.slice (some ⟨g2,off2,none⟩) (len2+1) cp2) w2:=r2;have L2':=Lib.hid L2;have HB2:=Lib.hid hb2;have HU2:=Lib.hid u2;have HA2:=Lib.hid hat2;have hd1:Upd noBlk y2 (y2.drew.alloc (.cells #[.int .i64 a0,.int .i64 a1,.int .i64 a2,.int .i64 a6,.int .i64 a7,.int .i64 a8,.int .i64 a3,.int .i64 a4,.int .i64 a5] 184)):=(Upd.refl _ y2).drew.alloc _;have HAB:Hid ((y2.drew.alloc (.cells #[.int .i64 a0,.int .i64 a1,.int .i64 a2,.int .i64 a6,.int .i64 a7,.int .i64 a8,.int .i64 a3,.int .i64 a4,.int .i64 a5] 184)).heap[b]?=some (.cells #[vK,.map (some ba),.map (some bu),.slice A2 len2 cap2,vT2] 182 (0,0))∧(y2.drew.alloc (.cells #[.int .i64 a0,.int .i64 a1,.int .i64 a2,.int .i64 a6,.int .i64 a7,.int .i64 a8,.int .i64 a3,.int .i64 a4,.int .i64 a5] 184)).heap[w.heap.size]?=some (.cells #[.int .i64 a0,.int .i64 a1,.int .i64 a2,.int .i64 a3,.int .i64 a4,.int .i64 a5,.int .i64 a6,.int .i64 a7,.int .i64 a8] 169 (0,0))):=⟨hd1.heap LV2.out.blk id,hd1.heap TT2.out id⟩;have HTG2:Hid (w2.heap[w.heap.size]?=some (.cells #[.int .i64 a0,.int .i64 a1,.int .i64 a2,.int .i64 a3,.int .i64 a4,.int .i64 a5,.int .i64 a6,.int .i64 a7,.int .i64 a8] 169 (0,0))):=u2.heap TT2.out (fun e=>by obtain ⟨_,cur,hc⟩:=LV2.out.comp.gates.blk e;exact ne_obj hc TT2.out (by have tg:kGate.T=184:=rfl;rw [tg];simp) rfl);have HLB:Hid (y2.heap[b]?=some (.cells #[vK,.map (some ba),.map (some bu),.slice A2 len2 cap2,vT2] 182 (0,0))):=LV2.out.blk;clear r2 L2 hb2 u2 hat2 hd1 hlen2;refine wp_region_tree 22 (OT.sures [0,1,5,10,14,6,11,15,7,12,16,8,17,9,18,13,19,2,3,4] (.run 20 (.run 21 .nil))) (fun w'=>w'.heap[b]?=some (.cells #[vK,.map (some ba),.map (some bu),.slice A2 len2 cap2,vT2] 182 (0,0))∧w'.heap[w.heap.size]?=some (.cells #[.int .i64 a0,.int .i64 a1,.int .i64 a2,.int .i64 a3,.int .i64 a4,.int .i64 a5,.int .i64 a6,.int .i64 a7,.int .i64 a8] 169 (0,0))) (by kernel_rfl) (by kernel_rfl) (fun c a d v w h=>by cases d<;>exact h) ⟨HLB.out,TT2.out⟩ ?_
  simp only [OT.sures]
  iterate 20 (apply wpT_sure rfl rfl;focus (intro w' hw';obtain ⟨⟨k0,k1,k2,k3,k4⟩,_⟩:=cells5 hw'.1;obtain ⟨g0,g1,g2,g3,g4,g5,g6,g7,g8⟩:=cells9 hw'.2;go_simp;rfl))
  refine wpT_run _ (fun _ h=>h) rfl (fun K' hK=>?_);go_simp
  refine hK _ _ ⟨HAB.out,?_⟩;clear hK K';refine wpT_run _ (fun _ h=>h) rfl (fun K' hK=>?_);rw [if_pos (by rfl)];refine wp_append_run _ _ _ rfl rfl rfl HAPP ?_;refine hK _ _ ⟨⟨HB2.out,HTG2.out⟩,?_⟩;clear hK K' HAPP HAB HLB;refine wpT_nil ?_;obtain ⟨⟨k0,k1,k2,k3,k4⟩,⟨f0,f1,f2,f3,f4⟩⟩:=cells5 HB2.out;go_wp2_with fail
  clear k0 k1 k2 k3 k4 f0 f1 f2 f3 f4;obtain ⟨y3,hy3⟩:∃y3,y3=w2.setCell ⟨b,3,none⟩ (.slice (some ⟨g2,off2,none⟩) (len2+1) cp2):=⟨_,rfl⟩;have hne5:w.heap.size≠b:=by have:=HBU.out.2;omega
  have LV3:Hid (SLive y3 b ⟨K,tr++[((a0,a1,a2),(a3,a4,a5),(a6,a7,a8))],(gs++[((a3,a4,a5),(a0,a1,a2),(a6,a7,a8))]++[((a6,a7,a8),(a3,a4,a5),(a0,a1,a2))]++[((a0,a1,a2),(a6,a7,a8),(a3,a4,a5))])⟩ vK (.slice (some ⟨g2,off2,none⟩) (len2+1) cp2) vT2 ba bu):=by show SLive _ _ _ _ _ _ _ _;rw [hy3];exact L2'.out
  have TT3:Hid (y3.heap[w.heap.size]?=some (.cells #[.int .i64 a0,.int .i64 a1,.int .i64 a2,.int .i64 a3,.int .i64 a4,.int .i64 a5,.int .i64 a6,.int .i64 a7,.int .i64 a8] 169 (0,0))):=by show _=_;rw [hy3,heap_setCell_other _ _ _ _ hne5];exact HTG2.out
  have FN3:Hid (∀k,sFoot b vK (.slice (some ⟨g2,off2,none⟩) (len2+1) cp2) vT2 ba bu k→FT k∨w.heap.size≤k):=fun k hk=>by
   rcases hk with h | h | h | h | h | h
   ·exact FN2.out k (.inl h)
   ·exact FN2.out k (.inr (.inl h))
   ·exact FN2.out k (.inr (.inr (.inl h)))
   ·exact FN2.out k (.inr (.inr (.inr (.inl h))))
   ·have e:g2=k:=by simpa [Value.ownBlock] using h
    subst e;rcases HA2.out with h2 | h2
    ·exact FN2.out _ (.inr (.inr (.inr (.inr (.inl h2)))))
    ·exact .inr (by have:=UP2.out.size;omega)
   ·exact FN2.out k (.inr (.inr (.inr (.inr (.inr h)))))
  have UP3:Hid (Upd FT w y3):=by
   show Upd _ _ _;rw [hy3];refine (UP2.out.then HU2.out (fun k hk e=>?_)).setCell (p:=⟨b,3,none⟩) (fun _=>by rw [HFT.out];exact .inl rfl) _;exact (FN2.out k (.inr (.inr (.inr (.inr (.inl e)))))).resolve_right (by omega)
  rw [←hy3];clear hy3 hne5 L2' HB2 HU2 HTG2 HA2 LV2 TT2 FN2 UP2 HLEN2;obtain ⟨vG3,hvG3⟩:∃vG3,vG3=Value.slice (some ⟨g2,off2,none⟩) (len2+1) cp2:=⟨_,rfl⟩;rw [←hvG3] at LV3 FN3;clear hvG3;rw [rounds_succ];go_wp2_with fail
  go_ret
  have hvis:Wk.visit ⟨K,tr,gs⟩ ((a0,a1,a2),(a3,a4,a5),(a6,a7,a8)) 0=⟨K,tr++[((a0,a1,a2),(a3,a4,a5),(a6,a7,a8))],(gs++[((a3,a4,a5),(a0,a1,a2),(a6,a7,a8))]++[((a6,a7,a8),(a3,a4,a5),(a0,a1,a2))]++[((a0,a1,a2),(a6,a7,a8),(a3,a4,a5))])⟩:=by simp [Wk.visit,gatesT]
  refine ⟨by rw [HFR.out];rfl,by rw [←HFT.out];exact UP3.out,fun _=>⟨_,⟨_,_,_,_,_,by rw [hvis];exact LV3.out,rfl⟩,fun k hk=>by rw [←HFT.out];exact FN3.out k hk,by rw [←HFT.out];exact UP3.out⟩⟩
 ·refine wp_loop_rounds 4 ?_;rw [rounds_succ];go_wp2_with fail
  obtain ⟨A0,cap0,g0,off0,cp0,w0,hv0,r0,L0,hb0,u0,hat0⟩:=gate_step LV0.out ((a6,a7,a8),(a3,a4,a5),(a0,a1,a2)) (by have:=hg0.out;(try simp only [List.length_append,List.length_cons,List.length_nil]);omega);obtain ⟨len0,hlen0⟩:∃len0,len0=(gs).length:=⟨_,rfl⟩;rw [←hlen0] at hv0 r0 L0;have HLEN0:=Lib.hid hlen0;subst hv0;have HAPP:(Builtin.append_ #[180,180] 180 #[.slice A0 len0 cap0,.slice (some ⟨y0.heap.size,0,none⟩) 1 1]).run Tryz.prog (y0.drew.alloc (.cells #[.int .i64 a6,.int .i64 a7,.int .i64 a8,.int .i64 a3,.int .i64 a4,.int .i64 a5,.int .i64 a0,.int .i64 a1,.int .i64 a2] 184))=.ok (.slice (some ⟨g0,off0,none⟩) (len0+1) cp0) w0:=r0;have L0':=Lib.hid L0;have HB0:=Lib.hid hb0;have HU0:=Lib.hid u0;have HA0:=Lib.hid hat0;have hd1:Upd noBlk y0 (y0.drew.alloc (.cells #[.int .i64 a6,.int .i64 a7,.int .i64 a8,.int .i64 a3,.int .i64 a4,.int .i64 a5,.int .i64 a0,.int .i64 a1,.int .i64 a2] 184)):=(Upd.refl _ y0).drew.alloc _;have HAB:Hid ((y0.drew.alloc (.cells #[.int .i64 a6,.int .i64 a7,.int .i64 a8,.int .i64 a3,.int .i64 a4,.int .i64 a5,.int .i64 a0,.int .i64 a1,.int .i64 a2] 184)).heap[b]?=some (.cells #[vK,.map (some ba),.map (some bu),.slice A0 len0 cap0,vT2] 182 (0,0))∧(y0.drew.alloc (.cells #[.int .i64 a6,.int .i64 a7,.int .i64 a8,.int .i64 a3,.int .i64 a4,.int .i64 a5,.int .i64 a0,.int .i64 a1,.int .i64 a2] 184)).heap[w.heap.size]?=some (.cells #[.int .i64 a0,.int .i64 a1,.int .i64 a2,.int .i64 a3,.int .i64 a4,.int .i64 a5,.int .i64 a6,.int .i64 a7,.int .i64 a8] 169 (0,0))):=⟨hd1.heap LV0.out.blk id,hd1.heap TT0.out id⟩;have HTG0:Hid (w0.heap[w.heap.size]?=some (.cells #[.int .i64 a0,.int .i64 a1,.int .i64 a2,.int .i64 a3,.int .i64 a4,.int .i64 a5,.int .i64 a6,.int .i64 a7,.int .i64 a8] 169 (0,0))):=u0.heap TT0.out (fun e=>by obtain ⟨_,cur,hc⟩:=LV0.out.comp.gates.blk e;exact ne_obj hc TT0.out (by have tg:kGate.T=184:=rfl;rw [tg];simp) rfl);have HLB:Hid (y0.heap[b]?=some (.cells #[vK,.map (some ba),.map (some bu),.slice A0 len0 cap0,vT2] 182 (0,0))):=LV0.out.blk;clear r0 L0 hb0 u0 hat0 hd1 hlen0;refine wp_region_tree 22 (OT.sures [0,1,5,10,14,6,11,15,7,12,16,8,17,9,18,13,19,2,3,4] (.run 20 (.run 21 .nil))) (fun w'=>w'.heap[b]?=some (.cells #[vK,.map (some ba),.map (some bu),.slice A0 len0 cap0,vT2] 182 (0,0))∧w'.heap[w.heap.size]?=some (.cells #[.int .i64 a0,.int .i64 a1,.int .i64 a2,.int .i64 a3,.int .i64 a4,.int .i64 a5,.int .i64 a6,.int .i64 a7,.int .i64 a8] 169 (0,0))) (by kernel_rfl) (by kernel_rfl) (fun c a d v w h=>by cases d<;>exact h) ⟨HLB.out,TT0.out⟩ ?_
  simp only [OT.sures]
  iterate 20 (apply wpT_sure rfl rfl;focus (intro w' hw';obtain ⟨⟨k0,k1,k2,k3,k4⟩,_⟩:=cells5 hw'.1;obtain ⟨g0,g1,g2,g3,g4,g5,g6,g7,g8⟩:=cells9 hw'.2;go_simp;rfl))
  refine wpT_run _ (fun _ h=>h) rfl (fun K' hK=>?_);go_simp
  refine hK _ _ ⟨HAB.out,?_⟩;clear hK K';refine wpT_run _ (fun _ h=>h) rfl (fun K' hK=>?_);rw [if_pos (by rfl)];refine wp_append_run _ _ _ rfl rfl rfl HAPP ?_;refine hK _ _ ⟨⟨HB0.out,HTG0.out⟩,?_⟩;clear hK K' HAPP HAB HLB;refine wpT_nil ?_;obtain ⟨⟨k0,k1,k2,k3,k4⟩,⟨f0,f1,f2,f3,f4⟩⟩:=cells5 HB0.out;go_wp2_with fail
  clear k0 k1 k2 k3 k4 f0 f1 f2 f3 f4;obtain ⟨y1,hy1⟩:∃y1,y1=w0.setCell ⟨b,3,none⟩ (.slice (some ⟨g0,off0,none⟩) (len0+1) cp0):=⟨_,rfl⟩;have hne5:w.heap.size≠b:=by have:=HBU.out.2;omega
  have LV1:Hid (SLive y1 b ⟨K,tr++[((a0,a1,a2),(a3,a4,a5),(a6,a7,a8))],(gs++[((a6,a7,a8),(a3,a4,a5),(a0,a1,a2))])⟩ vK (.slice (some ⟨g0,off0,none⟩) (len0+1) cp0) vT2 ba bu):=by show SLive _ _ _ _ _ _ _ _;rw [hy1];exact L0'.out
  have TT1:Hid (y1.heap[w.heap.size]?=some (.cells #[.int .i64 a0,.int .i64 a1,.int .i64 a2,.int .i64 a3,.int .i64 a4,.int .i64 a5,.int .i64 a6,.int .i64 a7,.int .i64 a8] 169 (0,0))):=by show _=_;rw [hy1,heap_setCell_other _ _ _ _ hne5];exact HTG0.out
  have FN1:Hid (∀k,sFoot b vK (.slice (some ⟨g0,off0,none⟩) (len0+1) cp0) vT2 ba bu k→FT k∨w.heap.size≤k):=fun k hk=>by
   rcases hk with h | h | h | h | h | h
   ·exact FN0.out k (.inl h)
   ·exact FN0.out k (.inr (.inl h))
   ·exact FN0.out k (.inr (.inr (.inl h)))
   ·exact FN0.out k (.inr (.inr (.inr (.inl h))))
   ·have e:g0=k:=by simpa [Value.ownBlock] using h
    subst e;rcases HA0.out with h2 | h2
    ·exact FN0.out _ (.inr (.inr (.inr (.inr (.inl h2)))))
    ·exact .inr (by have:=UP0.out.size;omega)
   ·exact FN0.out k (.inr (.inr (.inr (.inr (.inr h)))))
  have UP1:Hid (Upd FT w y1):=by
   show Upd _ _ _;rw [hy1];refine (UP0.out.then HU0.out (fun k hk e=>?_)).setCell (p:=⟨b,3,none⟩) (fun _=>by rw [HFT.out];exact .inl rfl) _;exact (FN0.out k (.inr (.inr (.inr (.inr (.inl e)))))).resolve_right (by omega)
  rw [←hy1];clear hy1 hne5 L0' HB0 HU0 HTG0 HA0 LV0 TT0 FN0 UP0 HLEN0;obtain ⟨vG1,hvG1⟩:∃vG1,vG1=Value.slice (some ⟨g0,off0,none⟩) (len0+1) cp0:=⟨_,rfl⟩;rw [←hvG1] at LV1 FN1;clear hvG1;rw [rounds_succ];go_wp2_with fail
  obtain ⟨A1,cap1,g1,off1,cp1,w1,hv1,r1,L1,hb1,u1,hat1⟩:=gate_step LV1.out ((a0,a1,a2),(a6,a7,a8),(a3,a4,a5)) (by have:=hg0.out;(try simp only [List.length_append,List.length_cons,List.length_nil]);omega);obtain ⟨len1,hlen1⟩:∃len1,len1=(gs++[((a6,a7,a8),(a3,a4,a5),(a0,a1,a2))]).length:=⟨_,rfl⟩;rw [←hlen1] at hv1 r1 L1;have HLEN1:=Lib.hid hlen1;subst hv1;have HAPP:(Builtin.append_ #[180,180] 180 #[.slice A1 len1 cap1,.slice (some ⟨y1.heap.size,0,none⟩) 1 1]).run Tryz.prog (y1.drew.alloc (.cells #[.int .i64 a0,.int .i64 a1,.int .i64 a2,.int .i64 a6,.int .i64 a7,.int .i64 a8,.int .i64 a3,.int .i64 a4,.int .i64 a5] 184))=.ok (.slice (some ⟨g1,off1,none⟩) (len1+1) cp1) w1:=r1;have L1':=Lib.hid L1;have HB1:=Lib.hid hb1;have HU1:=Lib.hid u1;have HA1:=Lib.hid hat1;have hd1:Upd noBlk y1 (y1.drew.alloc (.cells #[.int .i64 a0,.int .i64 a1,.int .i64 a2,.int .i64 a6,.int .i64 a7,.int .i64 a8,.int .i64 a3,.int .i64 a4,.int .i64 a5] 184)):=(Upd.refl _ y1).drew.alloc _;have HAB:Hid ((y1.drew.alloc (.cells #[.int .i64 a0,.int .i64 a1,.int .i64 a2,.int .i64 a6,.int .i64 a7,.int .i64 a8,.int .i64 a3,.int .i64 a4,.int .i64 a5] 184)).heap[b]?=some (.cells #[vK,.map (some ba),.map (some bu),.slice A1 len1 cap1,vT2] 182 (0,0))∧(y1.drew.alloc (.cells #[.int .i64 a0,.int .i64 a1,.int .i64 a2,.int .i64 a6,.int .i64 a7,.int .i64 a8,.int .i64 a3,.int .i64 a4,.int .i64 a5] 184)).heap[w.heap.size]?=some (.cells #[.int .i64 a0,.int .i64 a1,.int .i64 a2,.int .i64 a3,.int .i64 a4,.int .i64 a5,.int .i64 a6,.int .i64 a7,.int .i64 a8] 169 (0,0))):=⟨hd1.heap LV1.out.blk id,hd1.heap TT1.out id⟩;have HTG1:Hid (w1.heap[w.heap.size]?=some (.cells #[.int .i64 a0,.int .i64 a1,.int .i64 a2,.int .i64 a3,.int .i64 a4,.int .i64 a5,.int .i64 a6,.int .i64 a7,.int .i64 a8] 169 (0,0))):=u1.heap TT1.out (fun e=>by obtain ⟨_,cur,hc⟩:=LV1.out.comp.gates.blk e;exact ne_obj hc TT1.out (by have tg:kGate.T=184:=rfl;rw [tg];simp) rfl);have HLB:Hid (y1.heap[b]?=some (.cells #[vK,.map (some ba),.map (some bu),.slice A1 len1 cap1,vT2] 182 (0,0))):=LV1.out.blk;clear r1 L1 hb1 u1 hat1 hd1 hlen1;refine wp_region_tree 22 (OT.sures [0,1,5,10,14,6,11,15,7,12,16,8,17,9,18,13,19,2,3,4] (.run 20 (.run 21 .nil))) (fun w'=>w'.heap[b]?=some (.cells #[vK,.map (some ba),.map (some bu),.slice A1 len1 cap1,vT2] 182 (0,0))∧w'.heap[w.heap.size]?=some (.cells #[.int .i64 a0,.int .i64 a1,.int .i64 a2,.int .i64 a3,.int .i64 a4,.int .i64 a5,.int .i64 a6,.int .i64 a7,.int .i64 a8] 169 (0,0))) (by kernel_rfl) (by kernel_rfl) (fun c a d v w h=>by cases d<;>exact h) ⟨HLB.out,TT1.out⟩ ?_
  simp only [OT.sures]
  iterate 20 (apply wpT_sure rfl rfl;focus (intro w' hw';obtain ⟨⟨k0,k1,k2,k3,k4⟩,_⟩:=cells5 hw'.1;obtain ⟨g0,g1,g2,g3,g4,g5,g6,g7,g8⟩:=cells9 hw'.2;go_simp;rfl))
  refine wpT_run _ (fun _ h=>h) rfl (fun K' hK=>?_);go_simp
  refine hK _ _ ⟨HAB.out,?_⟩;clear hK K';refine wpT_run _ (fun _ h=>h) rfl (fun K' hK=>?_);rw [if_pos (by rfl)];refine wp_append_run _ _ _ rfl rfl rfl HAPP ?_;refine hK _ _ ⟨⟨HB1.out,HTG1.out⟩,?_⟩;clear hK K' HAPP HAB HLB;refine wpT_nil ?_;obtain ⟨⟨k0,k1,k2,k3,k4⟩,⟨f0,f1,f2,f3,f4⟩⟩:=cells5 HB1.out;go_wp2_with fail
  clear k0 k1 k2 k3 k4 f0 f1 f2 f3 f4;obtain ⟨y2,hy2⟩:∃y2,y2=w1.setCell ⟨b,3,none⟩ (.slice (some ⟨g1,off1,none⟩) (len1+1) cp1):=⟨_,rfl⟩;have hne5:w.heap.size≠b:=by have:=HBU.out.2;omega
  have LV2:Hid (SLive y2 b ⟨K,tr++[((a0,a1,a2),(a3,a4,a5),(a6,a7,a8))],(gs++[((a6,a7,a8),(a3,a4,a5),(a0,a1,a2))]++[((a0,a1,a2),(a6,a7,a8),(a3,a4,a5))])⟩ vK (.slice (some ⟨g1,off1,none⟩) (len1+1) cp1) vT2 ba bu):=by show SLive _ _ _ _ _ _ _ _;rw [hy2];exact L1'.out
  have TT2:Hid (y2.heap[w.heap.size]?=some (.cells #[.int .i64 a0,.int .i64 a1,.int .i64 a2,.int .i64 a3,.int .i64 a4,.int .i64 a5,.int .i64 a6,.int .i64 a7,.int .i64 a8] 169 (0,0))):=by show _=_;rw [hy2,heap_setCell_other _ _ _ _ hne5];exact HTG1.out
  have FN2:Hid (∀k,sFoot b vK (.slice (some ⟨g1,off1,none⟩) (len1+1) cp1) vT2 ba bu k→FT k∨w.heap.size≤k):=fun k hk=>by
   rcases hk with h | h | h | h | h | h
   ·exact FN1.out k (.inl h)
   ·exact FN1.out k (.inr (.inl h))
   ·exact FN1.out k (.inr (.inr (.inl h)))
   ·exact FN1.out k (.inr (.inr (.inr (.inl h))))
   ·have e:g1=k:=by simpa [Value.ownBlock] using h
    subst e;rcases HA1.out with h2 | h2
    ·exact FN1.out _ (.inr (.inr (.inr (.inr (.inl h2)))))
    ·exact .inr (by have:=UP1.out.size;omega)
   ·exact FN1.out k (.inr (.inr (.inr (.inr (.inr h)))))
  have UP2:Hid (Upd FT w y2):=by
   show Upd _ _ _;rw [hy2];refine (UP1.out.then HU1.out (fun k hk e=>?_)).setCell (p:=⟨b,3,none⟩) (fun _=>by rw [HFT.out];exact .inl rfl) _;exact (FN1.out k (.inr (.inr (.inr (.inr (.inl e)))))).resolve_right (by omega)
  rw [←hy2];clear hy2 hne5 L1' HB1 HU1 HTG1 HA1 LV1 TT1 FN1 UP1 HLEN1;obtain ⟨vG2,hvG2⟩:∃vG2,vG2=Value.slice (some ⟨g1,off1,none⟩) (len1+1) cp1:=⟨_,rfl⟩;rw [←hvG2] at LV2 FN2;clear hvG2;rw [rounds_succ];go_wp2_with fail
  go_ret
  have hvis:Wk.visit ⟨K,tr,gs⟩ ((a0,a1,a2),(a3,a4,a5),(a6,a7,a8)) 1=⟨K,tr++[((a0,a1,a2),(a3,a4,a5),(a6,a7,a8))],(gs++[((a6,a7,a8),(a3,a4,a5),(a0,a1,a2))]++[((a0,a1,a2),(a6,a7,a8),(a3,a4,a5))])⟩:=by simp [Wk.visit,gatesT]
  refine ⟨by rw [HFR.out];rfl,by rw [←HFT.out];exact UP2.out,fun _=>⟨_,⟨_,_,_,_,_,by rw [hvis];exact LV2.out,rfl⟩,fun k hk=>by rw [←HFT.out];exact FN2.out k hk,by rw [←HFT.out];exact UP2.out⟩⟩
end Go.Proofs.YtmgklblglpplcaaGreatDoor
