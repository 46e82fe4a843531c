/- Parts: Walks of the packets' program: Cluster. No condition. -/
import Derived.Test.YtcikldoaidmnhaaGreatDoorRSpoi1
import Derived.Test.YtcikldoaidmnhaaGreatDoorRSpoi3
import Derived.Test.YtcikldoaidmnhaaGreatDoorRSpoi4
import Derived.Test.YtcikldoaidmnhaaGreatDoorRSpoi5
import Derived.Test.YtcikldoaidmnhaaGreatDoorRSpoi6
import Derived.Test.YtcikldoaidmnhaaGreatDoorRSpoi7
import Derived.Test.YtcikldoaidmnhaaGreatDoorRSpoi8
import Derived.Test.YtcikldoaidmnhaaGreatDoorRSpoi9
import Derived.Test.YtcikldoaidmnhaaGreatDoorRSpoi10
import Derived.Test.YtcikldoaidmnhaaGreatDoorRSpoi11
import Derived.Test.YtcikldoaidmnhaaGreatDoorRSpoi12
import Derived.Test.YtcikldoaidmnhaaGreatDoorRSpoi14
import Derived.Test.YtcikldoaidmnhaaGreatDoorRSpoi15
import Derived.Test.YtcikldoaidmnhaaGreatDoorRSpoi17
import Derived.Test.YtcikldoaidmnhaaGreatDoorRSpoi18
import Derived.Test.YtcikldoaidmnhaaGreatDoorRSpoi19
import Derived.Test.YtcikldoaidmnhaaGreatDoorRSpoi42
import Derived.WalkKit
import Derived.WalkSpells
import Derived.WalkLawsBesides
import Derived.Lib.Hide
import Derived.BigQuiet
import Derived.Deep.DeepFit
import Derived.Deep.DeepCutAuto
import Derived.Deep.AppendLies
import Derived.Deep.QuietTactic
import Derived.Maps.OwnOps
import Derived.Maps.OwnSet
import Derived.Maps.RangeWalk
import Derived.WideKeyEntry
import Derived.Deep.MidRow
import Derived.Lib.Bits
import Derived.Test.YtcikldoaidmnhaaGreatDoorRows
import Derived.Deep.RegionHeld3
import Derived.StillTail
import Derived.Laws.EntriesVeiled
import Derived.Handy
import Derived.DeepKeys4
import Derived.ArgAppend
import Derived.Deep.Upon
import Derived.Deep.CutBlock
import Derived.Test.YtcikldoaidmnhaaGreatDoorShelf2
import Derived.Test.YtcikldoaidmnhaaGreatDoorShelf
import Derived.Laws.BitsAllLaws
import Derived.Lib.Zigzag
import Derived.Deep.LoopGhost
namespace Go.Proofs.YtcikldoaidmnhaaGreatDoor
open Go Go.RowKit Pk Pc
set_option maxRecDepth 100000
theorem canon_fine {l:List Tri} (h:packable l=true):Fine (canon l)∧(canon l).length≤128:=by
 have hc:packable (canon l)=true:=by rw [packable_canon];exact h
 have:=(fine_of_packable hc).1;exact ⟨this,this.len⟩
theorem gate_some {c:List Tri} {W:Wk} (hc:Fine c) (h:Inv c W) {g:Gate} {r:List Gate} (hg:openG W.tris W.gates=g :: r) {p:Pt} (hp:third c g.1 g.2.1=some p):inP p∧inT (g.1,g.2.1,p)∧freeT false W.tris (g.1,g.2.1,p):=by
 obtain ⟨t,k1,k2⟩:=third_some hp;have hnone:=openG_head hg;have hu:(g.1,g.2.1)∉edgesL W.tris:=fun hm=>by
  have:=third_isSome W.tris g.1 g.2.1;rw [hnone,decide_eq_true hm] at this;cases this
 have hi:=k2.inT (hc.ins t k1);exact ⟨hi.2.2,hi,(h.free hc.nod k1 k2 (e:=(g.1,g.2.1)) (by simp [edgesT]) hu false).1⟩
theorem gate_in {c:List Tri} {W:Wk} (h:Inv c W) {g:Gate} {r:List Gate} (hg:openG W.tris W.gates=g :: r):inG g:=h.gates g (openG_mem (by rw [hg];simp))
theorem seed_some {c:List Tri} {W:Wk} (hc:Fine c) (h:Inv c W) (hl:W.tris.length<c.length):∃t,seedT c W.tris=some t∧t∈c∧inT t∧freeT false W.tris t∧(t.1,t.2.1)∉edgesL W.tris:=by
 obtain ⟨t,e,k1,k2⟩:=h.seed hc.nod hl;exact ⟨t,e,k1,hc.ins t k1,(h.free hc.nod k1 (RotE.refl t) (e:=(t.1,t.2.1)) (by simp [edgesT]) k2 false).1,k2⟩
theorem step_acc {c:List Tri} {W W':Wk} {b bits:Pk.Bits} {f:Nat} (hc:Fine c) (h:Inv c W) (hl:W.tris.length<c.length) (hs:stepW c W=some (b,W')) (he:bits++walkB c (f+1) W=bitsC c) (hf:W.left c≤f+1) (hk:W.known.length+3*(f+1)≤1536) :
  Inv c W'∧(bits++b)++walkB c f W'=bitsC c∧W'.left c≤f∧W'.known.length+3*f≤1536:=by
 obtain ⟨b2,w2,e1,e2,e3,_⟩:=step_lock false hc h hl (by omega);rw [hs] at e1;cases e1;refine ⟨e2,?_,?_,by omega⟩
 ·rw [walkB,if_neg (by omega),hs] at he;simp only at he;rw [List.append_assoc];exact he
 ·have:=step_left hl hs;omega
theorem left_pos {c:List Tri} {W:Wk} (hl:W.tris.length<c.length):0<W.left c:=by unfold Wk.left;omega
theorem seedT_at {c tris:List Tri} {i:Nat} (hi:i<c.length) (h1:∀t,t∈c.take i→(t.1,t.2.1)∈edgesL tris) (h2:(c[i].1,c[i].2.1)∉edgesL tris):seedT c tris=some c[i]:=by
 unfold seedT;have e:c=c.take i++c[i] :: c.drop (i+1):=by rw [←List.drop_eq_getElem_cons hi,List.take_append_drop]
 have hn:∀t,t∈c.take i→¬(third tris t.1 t.2.1).isNone=true:=fun t ht=>by
  have h3:=third_isSome tris t.1 t.2.1;rw [decide_eq_true (h1 t ht)] at h3;cases h4:third tris t.1 t.2.1 with
  | none=>rw [h4] at h3;cases h3
  | some r=>simp
 have hy:(third tris c[i].1 c[i].2.1).isNone=true:=by
  have h3:=third_isSome tris c[i].1 c[i].2.1;rw [decide_eq_false h2] at h3;cases h4:third tris c[i].1 c[i].2.1 with
  | none=>rfl
  | some r=>rw [h4] at h3;cases h3
 have hf:(c.take i++c[i] :: c.drop (i+1)).find? (fun t=>(third tris t.1 t.2.1).isNone)=some c[i]:=by
  rw [List.find?_append,List.find?_eq_none.2 hn,Option.none_or];exact List.find?_cons_of_pos (p:=fun t:Tri=>(third tris t.1 t.2.1).isNone) hy
 rw [←e] at hf;exact hf
def lenOfV2:Value→Nat | .slice _ n _=>n | _=>0
set_option maxHeartbeats 8000000 in
theorem Cluster_any (v:Value) (l:List Tri) (hn:l.length≤100000) (hok:∀t,t∈l→okT t) (w:World) (h:kTri.Rd w v l) :
  Calls Tryz.prog 16 #[v] w fun en w'=>en=.returned (.string (str (clusterN l)))∧Upd noBlk w w':=by
 have HPK:=Lib.hid (packable_any v l hn hok w h);have HCN:Hid (∀W,Upd noBlk w W→Calls Tryz.prog 43 #[v] W fun en w'=>∃v',en=.returned v'∧kTri.Rd w' v' (canon l)∧Upd noBlk W w'):=fun W hW=>mCanon_any v l (by omega) W (h.keep hW);obtain ⟨A,cap,rfl,hcap,hx⟩:=h;have hmm:=@run_makeMap Tryz.prog;clear hx hok;go_enter Tryz.func16,Tryz.ntmps16
 go_wp2_with fail
 refine HPK.out.mono ?_;rintro e w1 ⟨rfl,u1⟩;have U1:=Lib.hid u1;clear u1 HPK;rcases hp:packable l with _ | _
 ·have HR:Hid (clusterN l=[]):=by show _=_;unfold clusterN;rw [hp];rfl
  go_wp2_with fail
  go_ret
  exact ⟨by rw [HR.out];rfl,U1.out⟩
 ·have HR:Hid (clusterN l=packC (canon l)):=by show _=_;unfold clusterN;rw [hp];rfl
  obtain ⟨hfine,hc128⟩:=canon_fine hp;have HFI:=Lib.hid hfine;have HC128:=Lib.hid hc128;have hCC:=HCN.out w1 U1.out;have HCC:=Lib.hid hCC;generalize canon l=c at *;have hcl:(c.length:Int)≤128:=by omega
  clear hp hfine hc128 hCC HCN;go_wp2_with fail
  refine HCC.out.mono ?_;rintro e w2 ⟨vc,rfl,hrd,u2⟩;obtain ⟨Ac,capc,rfl,hcapc,hxc⟩:=hrd;have HX:=Lib.hid hxc;have U2:=Lib.hid (U1.out.trans u2);clear u2 HCC hxc;have HM0:Hid (kitThird.At (w2.alloc (.map #[] 0)) w2.heap.size 0 (putAll (pairsL (c.take 0)))):=MapKit.At.made kitThird w2;have HU0:Hid (Upd noBlk w2 (w2.alloc (.map #[] 0))):=(Upd.refl _ w2).alloc _;obtain ⟨bm,hbm⟩:∃bm,bm=w2.heap.size:=⟨_,rfl⟩;have HBM:Hid (w2.heap.size≤bm):=by show _≤_;omega
  rw [←hbm] at HM0;go_wp2_with fail
  rw [←hbm];clear hbm;go_loopw [24] (fun i wr=>∃k:Nat,i=.int .i64 k∧k≤c.length∧kitThird.At wr bm (3*k) (putAll (pairsL (c.take k)))∧Upd noBlk w2 wr) (fun i _=>c.length-(intOf i).toNat)
  case atStart=>exact ⟨0,rfl,Nat.zero_le _,HM0.out,HU0.out⟩
  case round=>
   obtain ⟨k,rfl,hk,hm,hu⟩:=hrel;have HM:=Lib.hid hm;have HU:=Lib.hid hu;clear hm hu hmm HM0 HU0;by_cases hlt:k<c.length
   ·have hlt':(k:Int)<(c.length:Int):=by omega
    have h128:=HC128.out;obtain ⟨b,off,rfl,f1⟩:=HX.out (by omega);obtain ⟨g0,g1,g2,g3,g4,g5,g6,g7,g8⟩:=triAt9 ((f1 k hlt).keep HU.out);have hk9:kTri.k=9:=rfl;rw [hk9] at g0 g1 g2 g3 g4 g5 g6 g7 g8;have htk:pairsL (c.take (k+1))=pairsL (c.take k++[c[k]]):=by rw [List.take_succ_eq_append_getElem hlt]
    rw [pairsL_snoc] at htk;have HTK:=Lib.hid htk;have HKT:=Lib.hid (okT_of (HFI.out.ins c[k] (List.getElem_mem hlt)));clear f1 hk9 htk;generalize c[k]=tk at *;obtain ⟨⟨a0,a1,a2⟩,⟨a3,a4,a5⟩,⟨a6,a7,a8⟩⟩:=tk;simp only at g0 g1 g2 g3 g4 g5 g6 g7 g8 HTK;obtain ⟨E,hE⟩:∃E,E=pairsL (c.take k):=⟨_,rfl⟩;rw [←hE] at HM HTK;clear hE;have q1:(IntKind.i64.wrap 1).tmod 3=1:=by decide
    have q2:(IntKind.i64.wrap 2).tmod 3=2:=by decide
    have q3:(IntKind.i64.wrap 3).tmod 3=0:=by decide
    have q4:(IntKind.i64.wrap 4).tmod 3=1:=by decide
    have ha:=(Upd.refl noBlk wr).alloc (.cells #[.int .i64 a0,.int .i64 a1,.int .i64 a2,.int .i64 a3,.int .i64 a4,.int .i64 a5,.int .i64 a6,.int .i64 a7,.int .i64 a8] 45);have HT0:=Lib.hid (heap_alloc_new wr (.cells #[.int .i64 a0,.int .i64 a1,.int .i64 a2,.int .i64 a3,.int .i64 a4,.int .i64 a5,.int .i64 a6,.int .i64 a7,.int .i64 a8] 45));have HM0:=Lib.hid (HM.out.keep ha);have HU0:=Lib.hid (HU.out.trans ha);have HTB:Hid (bm<wr.heap.size):=by obtain ⟨es,cl,hh⟩:=HM.out.blk;exact lt_of_heap hh
    clear ha;go_wp2_with fail
    obtain ⟨x0,hx0⟩:∃x0,x0=wr.alloc (.cells #[.int .i64 a0,.int .i64 a1,.int .i64 a2,.int .i64 a3,.int .i64 a4,.int .i64 a5,.int .i64 a6,.int .i64 a7,.int .i64 a8] 45):=⟨_,rfl⟩;rw [←hx0] at HT0 HM0 HU0;rw [←hx0];clear hx0 HM HU g0 g1 g2 g3 g4 g5 g6 g7 g8;refine wp_loop_rounds 4 ?_;rw [rounds_succ];go_wp2_with fail
    refine wp_region_tree 15 (OT.sures [0,1,4,10,2,5,11,3,6,12,7,13,8,14,9] .nil) (fun w'=>Gr x0 w') (by kernel_rfl) (by kernel_rfl) (fun c a d v w h=>by cases d<;>exact h) ((Gr.refl x0).drew) ?_
    simp only [OT.sures]
    iterate 15 (apply wpT_sure rfl rfl;focus (intro w' hw';obtain ⟨g0,g1,g2,g3,g4,g5,g6,g7,g8⟩:=cells9 (hw'.heap HT0.out id);go_simp;rfl))
    refine wpT_nil ?_;have KE0:Hid (okE ((a0,a1,a2),(a3,a4,a5))):=by have:=HKT.out;exact ⟨this.1,this.2.1⟩
    obtain ⟨x1,hr0,hm0,hu0⟩:=(HM0.out.keep (Upd.refl noBlk x0).drew).put (by unfold maxLen;omega) (a:=((a0,a1,a2),(a3,a4,a5))) KE0.out (v:=(a6,a7,a8)) trivial;rw [putAll_snoc] at hm0;have HM1:=Lib.hid hm0;have hu0':Upd (fun k=>k=bm) x0 x1:=(Upd.refl _ x0).drew.trans hu0;have HT1:=Lib.hid (hu0'.heap HT0.out (fun e=>by have:=HTB.out;omega));have HU1:=Lib.hid (HU0.out.then hu0' (fun i hi e=>by have e':i=bm:=e;have:=HBM.out;omega));have HR:(Instr.mapUpdate 87 (.map (some bm)) (.agg #[.int .i64 a0,.int .i64 a1,.int .i64 a2,.int .i64 a3,.int .i64 a4,.int .i64 a5]) (.agg #[.int .i64 a6,.int .i64 a7,.int .i64 a8])).run Tryz.prog x0.drew=.ok () x1:=hr0;clear hr0 hm0 hu0 hu0' KE0;go_wp2_with fail
    clear HR HT0 HM0 HU0;rw [rounds_succ];go_wp2_with fail
    refine wp_region_tree 15 (OT.sures [0,1,4,10,2,5,11,3,6,12,7,13,8,14,9] .nil) (fun w'=>Gr x1 w') (by kernel_rfl) (by kernel_rfl) (fun c a d v w h=>by cases d<;>exact h) ((Gr.refl x1).drew) ?_
    simp only [OT.sures]
    iterate 15 (apply wpT_sure rfl rfl;focus (intro w' hw';obtain ⟨g0,g1,g2,g3,g4,g5,g6,g7,g8⟩:=cells9 (hw'.heap HT1.out id);go_simp;rfl))
    refine wpT_nil ?_;have KE1:Hid (okE ((a3,a4,a5),(a6,a7,a8))):=by have:=HKT.out;exact ⟨this.2.1,this.2.2⟩
    obtain ⟨x2,hr1,hm1,hu1⟩:=(HM1.out.keep (Upd.refl noBlk x1).drew).put (by unfold maxLen;omega) (a:=((a3,a4,a5),(a6,a7,a8))) KE1.out (v:=(a0,a1,a2)) trivial;rw [putAll_snoc] at hm1;have HM2:=Lib.hid hm1;have hu1':Upd (fun k=>k=bm) x1 x2:=(Upd.refl _ x1).drew.trans hu1;have HT2:=Lib.hid (hu1'.heap HT1.out (fun e=>by have:=HTB.out;omega));have HU2:=Lib.hid (HU1.out.then hu1' (fun i hi e=>by have e':i=bm:=e;have:=HBM.out;omega));have HR:(Instr.mapUpdate 87 (.map (some bm)) (.agg #[.int .i64 a3,.int .i64 a4,.int .i64 a5,.int .i64 a6,.int .i64 a7,.int .i64 a8]) (.agg #[.int .i64 a0,.int .i64 a1,.int .i64 a2])).run Tryz.prog x1.drew=.ok () x2:=hr1;clear hr1 hm1 hu1 hu1' KE1;go_wp2_with fail
    clear HR HT1 HM1 HU1;rw [rounds_succ];go_wp2_with fail
    refine wp_region_tree 15 (OT.sures [0,1,4,10,2,5,11,3,6,12,7,13,8,14,9] .nil) (fun w'=>Gr x2 w') (by kernel_rfl) (by kernel_rfl) (fun c a d v w h=>by cases d<;>exact h) ((Gr.refl x2).drew) ?_
    simp only [OT.sures]
    iterate 15 (apply wpT_sure rfl rfl;focus (intro w' hw';obtain ⟨g0,g1,g2,g3,g4,g5,g6,g7,g8⟩:=cells9 (hw'.heap HT2.out id);go_simp;rfl))
    refine wpT_nil ?_;have KE2:Hid (okE ((a6,a7,a8),(a0,a1,a2))):=by have:=HKT.out;exact ⟨this.2.2,this.1⟩
    obtain ⟨x3,hr2,hm2,hu2⟩:=(HM2.out.keep (Upd.refl noBlk x2).drew).put (by unfold maxLen;omega) (a:=((a6,a7,a8),(a0,a1,a2))) KE2.out (v:=(a3,a4,a5)) trivial;rw [putAll_snoc] at hm2;have HM3:=Lib.hid hm2;have hu2':Upd (fun k=>k=bm) x2 x3:=(Upd.refl _ x2).drew.trans hu2;have HT3:=Lib.hid (hu2'.heap HT2.out (fun e=>by have:=HTB.out;omega));have HU3:=Lib.hid (HU2.out.then hu2' (fun i hi e=>by have e':i=bm:=e;have:=HBM.out;omega));have HR:(Instr.mapUpdate 87 (.map (some bm)) (.agg #[.int .i64 a6,.int .i64 a7,.int .i64 a8,.int .i64 a0,.int .i64 a1,.int .i64 a2]) (.agg #[.int .i64 a3,.int .i64 a4,.int .i64 a5])).run Tryz.prog x2.drew=.ok () x3:=hr2;clear hr2 hm2 hu2 hu2' KE2;go_wp2_with fail
    clear HR HT2 HM2 HU2;rw [rounds_succ];go_wp2_with fail
    refine ⟨⟨k+1,by go_num,hlt,?_,HU3.out⟩,by simp [intOf];omega⟩;rw [HTK.out];exact HM3.out
   ·obtain rfl:k=c.length:=by omega
    have hm2:=HM.out;rw [List.take_length] at hm2;have HMC:=Lib.hid hm2;have HPA:=Lib.hid (putAll_pairs HFI.out.nod);clear hm2 HM;have hxw0:∃bc offc,0<c.length→Ac=some ⟨bc,offc,none⟩∧bc<w2.heap.size∧∀j (hj:j<c.length),kTri.At w2 bc (offc+j*9) c[j]:=by
     by_cases h0:0<c.length
     ·obtain ⟨b,off,e,f⟩:=HX.out h0;refine ⟨b,off,fun _=>⟨e,?_,f⟩⟩;have:=f 0 h0 0 (.int .i64 c[0].1.1) rfl;exact World.block_lt_of_cell? w2 _ this
     ·exact ⟨0,0,fun h=>absurd h h0⟩
    obtain ⟨bc,offc,hxw⟩:=hxw0;have HXW:=Lib.hid hxw;have HNS:=Lib.hid (newState_any wr);have HCAPC:=Lib.hid hcapc;clear hxw HX hcapc;go_wp2_with fail
    refine HNS.out.mono ?_;rintro e w3 ⟨rfl,hs3,u3⟩;have HS3:=Lib.hid hs3;have U3:=Lib.hid u3;have HNW:=Lib.hid (NewWriter_any w3);clear hs3 u3 HNS;go_wp2_with fail
    refine HNW.out.mono ?_;rintro e w4 ⟨rfl,hw4⟩;have hcw:CW noBlk wr w4 (wr.heap.size+2) Wk.init w3.heap.size []:=by
     rw [←hw4];refine ⟨⟨_,_,HS3.out.upd ((Upd.refl noBlk w3).alloc _) (fun _ _=>id),NewWriter_rep w3,fun k hk hf=>?_,fun k hk=>.inr ?_⟩,U3.out.alloc _⟩
     ·have:=HS3.out.lt k hk;have hf':k=w3.heap.size:=hf;omega
     ·rcases hk with (h | h | h) | h
      ·omega
      ·omega
      ·omega
      ·have h':k=w3.heap.size:=h;have:=U3.out.size;omega
    clear hw4 HNW;have HCW0:=Lib.hid hcw;obtain ⟨D1,d1,d2,d3,d4⟩:=hcw.enter;obtain ⟨b,hb⟩:∃b,b=wr.heap.size+2:=⟨_,rfl⟩;obtain ⟨bw,hbw⟩:∃bw,bw=w3.heap.size:=⟨_,rfl⟩;rw [←hb,←hbw] at d2;have hx5:Upd noBlk w4 (w4.alloc (.cells #[.pointer (some ⟨b,0,none⟩),.pointer (some ⟨bw,0,none⟩)] 95)):=(Upd.refl _ w4).alloc _;have HC5:=Lib.hid (d2 _ hx5);have HKB:=Lib.hid (heap_alloc_new w4 (.cells #[.pointer (some ⟨b,0,none⟩),.pointer (some ⟨bw,0,none⟩)] 95));obtain ⟨kb,hkb⟩:∃kb,kb=w4.heap.size:=⟨_,rfl⟩;rw [←hkb] at HKB;have HDK:Hid (¬D1 kb):=fun h=>by have:=d1 _ h;omega
    have HDM:Hid (¬D1 bm):=fun h=>by
     rcases d4 _ h with h | h
     ·exact h
     ·obtain ⟨es,cl,hh⟩:=HMC.out.blk;have:=lt_of_heap hh;omega
    have HDC:Hid (0<c.length→¬D1 bc):=fun h0 h=>by
     obtain ⟨_,h2,_⟩:=HXW.out h0;rcases d4 _ h with h | h
     ·exact h
     ·have:=HU.out.size;omega
    have HDN:Hid (∀k,D1 k→w.heap.size≤k):=fun k hk=>by
     rcases d4 k hk with h | h
     ·exact h.elim
     ·have:=U2.out.size;have:=HU.out.size;omega
    obtain ⟨x5,hx5e⟩:∃x5,x5=w4.alloc (.cells #[.pointer (some ⟨b,0,none⟩),.pointer (some ⟨bw,0,none⟩)] 95):=⟨_,rfl⟩;have hup5:Upd noBlk wr x5:=by rw [hx5e];exact hcw.up.trans hx5
    have HM5:=Lib.hid (HMC.out.keep hup5);have HX5:Hid (0<c.length→Ac=some ⟨bc,offc,none⟩∧∀j (hj:j<c.length),kTri.At x5 bc (offc+j*9) c[j]):=fun h0=>by
     obtain ⟨h1,_,h3⟩:=HXW.out h0;exact ⟨h1,fun j hj=>((h3 j hj).keep HU.out).keep hup5⟩
    have U5:=Lib.hid (U2.out.trans (HU.out.trans hup5));rw [←hx5e] at HC5 HKB;clear hcw d1 d2 d3 d4 hx5 hup5 HCW0 HXW HMC HU HS3 U3;go_upto_region 15 with fail
    rw [←hb,←hbw,←hkb,←hx5e];clear hb hbw hkb hx5e;obtain ⟨b0,b1⟩:=cells2 HKB.out;have HNUM:=Lib.hid (HC5.out.number 64 c.length (by have:=HC128.out;omega) (by simp));have hwn:IntKind.u64.wrap (c.length:Int)=(c.length:Int):=by have:=IntKind.wrap_u64 (c.length:Int);omega
    go_wp2_with fail
    refine HNUM.out.mono ?_;rintro e w6 ⟨rfl,hc6⟩;rw [List.nil_append] at hc6;have HC6:=Lib.hid hc6;clear hc6 HNUM b0 b1 HC5;go_wp2_with fail
    have hleft0:Wk.init.left c=4*c.length:=by unfold Wk.left Wk.init;simp
    have hbits0:numBits 64 c.length++walkB c (4*c.length) Wk.init=bitsC c:=by unfold bitsC;rw [hleft0]
    have hnb0:=numBits_length 64 (n:=c.length) (by have:=HC128.out;omega);have HST:Hid (Wk.init.left c≤4*c.length∧numBits 64 c.length++walkB c (4*c.length) Wk.init=bitsC c∧(numBits 64 c.length).length+1300*(4*c.length)≤700000∧4*c.length≤512):=⟨by omega,hbits0,by have:=HC128.out;omega,by have:=HC128.out;omega⟩;clear hleft0 hbits0 hnb0;go_loopg [9] (4*c.length) (fun f sv wz=>∃(W:Wk) (bits:Pk.Bits) (i:Nat) (A':Option Addr) (cap':Nat),sv=.slice A' (c.length-i) cap'∧c.length-i≤cap'∧i≤c.length∧(i<c.length→A'=some ⟨bc,offc+i*9,none⟩)∧(∀t,t∈c.take i→(t.1,t.2.1)∈edgesL W.tris)∧CW D1 x5 wz b W bw bits∧Inv c W∧bits++walkB c f W=bitsC c∧W.left c≤f∧f≤512∧W.known.length+3*f≤1536∧bits.length+1300*f≤700000)
    case atStart=>
     obtain ⟨s1,s2,s3,s4⟩:=HST.out;exact ⟨Wk.init,numBits 64 c.length,0,Ac,capc,rfl,HCAPC.out,Nat.zero_le _,fun h0=>by rw [(HX5.out h0).1];simp,fun t ht=>(by cases ht),HC6.out,Inv.init c,s2,s1,s4,by show 0+_≤_;omega,s3⟩
    case round=>
     obtain ⟨⟨K,tr,gs⟩,bits,i,A',cap',rfl,r1,r2,r3,r4,r5,r6,r7,r8,r9,r10,r11⟩:=hrel;simp only at *;have HCAP:=Lib.hid r1;have HI:=Lib.hid r2;have HA:=Lib.hid r3;have HUS:=Lib.hid r4;have HC:=Lib.hid r5;have HINV:=Lib.hid r6;have HBT:=Lib.hid r7;have HLF:=Lib.hid r8;have HF5:=Lib.hid r9;have HKN:=Lib.hid r10;have HBL:=Lib.hid r11;have HKB2:=Lib.hid (r5.keepObj HKB.out HDK.out);obtain ⟨G,F,⟨vK,vG,vT,ba,bu,hsl,hG⟩,hW,hGF,hGD⟩:=r5.ex;obtain ⟨AT,capT,hvT,_⟩:=hsl.comp.tris.form;subst hvT;have HBK:=Lib.hid hsl.blk;clear r1 r2 r3 r4 r5 r6 r7 r8 r9 r10 r11 hsl hG hW hGF hGD HC6 HST;obtain ⟨b0,b1⟩:=cells2 HKB2.out;obtain ⟨⟨k0,k1,k2,k3,k4⟩,_⟩:=cells5 HBK.out;by_cases hlt3:tr.length<c.length
     ·have hlt':(tr.length:Int)<(c.length:Int):=by omega
      have HLT:=Lib.hid hlt3;obtain ⟨f,hf⟩:∃f,gk=f+1:=⟨gk-1,by have:=left_pos (W:=⟨K,tr,gs⟩) hlt3;have:=HLF.out;omega⟩;subst hf;have HNX:=Lib.hid (HC.out.next (fun g hg=>okT_of (HINV.out.gates g hg)) (by have h1:=HLF.out;have h2:=HF5.out;unfold Wk.left at h1;show gs.length≤_;simp only at h1;omega));simp only at HNX;clear hlt3;go_wp2_with fail
      refine HNX.out.mono ?_;rintro e w7 ⟨rfl,hc7⟩;have HC7:=Lib.hid hc7;have HKB7:=Lib.hid (hc7.keepObj HKB.out HDK.out);clear hc7 HNX b0 b1 k0 k1 k2 k3 k4 HBK HKB2;rcases hog:openG tr gs with _ | ⟨⟨⟨a0,a1,a2⟩,⟨a3,a4,a5⟩,⟨a6,a7,a8⟩⟩,r⟩
      ·have hnv:nextV tr gs=((0,0,0),(0,0,0),(0,0,0))∧nextB tr gs=false∧restG tr gs=[]:=by unfold nextV nextB restG;rw [hog];exact ⟨rfl,rfl,rfl⟩
       obtain ⟨n1,n2,n3⟩:=hnv;rw [n1,n2];rw [n3] at HC7;have HOG:=Lib.hid hog;clear n1 n2 n3 hog;unfold gateV triC;have hA7:Upd noBlk w7 (w7.alloc (.cells #[.int .i64 0,.int .i64 0,.int .i64 0,.int .i64 0,.int .i64 0,.int .i64 0,.int .i64 0,.int .i64 0,.int .i64 0] 105)):=(Upd.refl _ w7).alloc _;have HC8:=Lib.hid (HC7.out.upd hA7);have HKB8:=Lib.hid (hA7.heap HKB7.out id);obtain ⟨w8,hw8⟩:∃w8,w8=w7.alloc (.cells #[.int .i64 0,.int .i64 0,.int .i64 0,.int .i64 0,.int .i64 0,.int .i64 0,.int .i64 0,.int .i64 0,.int .i64 0] 105):=⟨_,rfl⟩;rw [←hw8] at HC8 HKB8;go_upto_region 19 with fail
       rw [←hw8];clear hw8 hA7 HC7 HKB7;go_wp2_with fail
       obtain ⟨t0,hst,ht0,hti,hfr,hun⟩:=seed_some HFI.out HINV.out HLT.out;have HST:=Lib.hid hst;have HT0:=Lib.hid ht0;have HUN:=Lib.hid hun;have h0c:0<c.length:=by have:=HLT.out;omega
       obtain ⟨hAc,hrows⟩:=HX5.out h0c;have HROW:Hid (∀j (hj:j<c.length),kTri.At w8 bc (offc+j*9) c[j]):=fun j hj jj vv hv=>HC8.out.up.cell (hrows j hj jj vv hv) (HDC.out h0c);obtain ⟨G8,F8,⟨vK8,vG8,vT8,ba8,bu8,hsl8,_⟩,_⟩:=HC8.out.ex;have HSL:=Lib.hid hsl8;clear hst ht0 hti hfr hun hAc hrows hsl8;go_loopw [9] (fun sv wz=>∃(i:Nat) (A':Option Addr) (cap':Nat),sv=.slice A' (c.length-i) cap'∧c.length-i≤cap'∧i≤c.length∧(i<c.length→A'=some ⟨bc,offc+i*9,none⟩)∧(∀t,t∈c.take i→(t.1,t.2.1)∈edgesL tr)∧Upd noBlk w8 wz) (fun sv _=>lenOfV2 sv)
       case atStart=>exact ⟨i,A',cap',rfl,HCAP.out,HI.out,HA.out,HUS.out,Upd.refl _ _⟩
       case round=>
        obtain ⟨i2,A2,cap2,rfl,e1,e2,e3,e4,e5⟩:=hrel;have hlt2:i2<c.length:=by
         rcases Nat.lt_or_ge i2 c.length with h | h
         ·exact h
         ·have:i2=c.length:=by omega
          subst this;rw [List.take_length] at e4;exact absurd (e4 t0 HT0.out) HUN.out
        obtain rfl:=e3 hlt2;have HCP:=Lib.hid e1;have HU4:=Lib.hid e4;have HU5:=Lib.hid e5;have hrw:=(HROW.out i2 hlt2).keep e5;have HCI:Hid (∀h0:(c[i2].1,c[i2].2.1)∉edgesL tr,seedT c tr=some c[i2]):=fun h0=>seedT_at hlt2 e4 h0;have HTK:Hid (∀h0:(c[i2].1,c[i2].2.1)∈edgesL tr,∀t,t∈c.take (i2+1)→(t.1,t.2.1)∈edgesL tr):=fun h0 t ht=>by
         rw [List.take_succ_eq_append_getElem hlt2] at ht;rcases List.mem_append.1 ht with ht | ht
         ·exact e4 t ht
         ·rw [List.mem_singleton] at ht;rw [ht];exact h0
        have HOT:=Lib.hid (HFI.out.ins c[i2] (List.getElem_mem hlt2));have HRW:=Lib.hid hrw;obtain ⟨n,hn2⟩:∃n,c.length-i2=n+1:=⟨c.length-i2-1,by omega⟩;have HN2:Hid (c.length-i2=n+1∧i2<c.length):=⟨hn2,hlt2⟩;rw [hn2] at HCP;rw [hn2];have hn0:(0:Int)<(n:Int)+1:=by omega
        generalize c[i2]=ct at *;obtain ⟨⟨a0,a1,a2⟩,⟨a3,a4,a5⟩,⟨a6,a7,a8⟩⟩:=ct;have HKBZ:=Lib.hid (e5.heap HKB8.out id);have HBZ:Hid (wr.heap[b]?=some (.cells #[vK8,.map (some ba8),.map (some bu8),vG8,vT8] 103 (0,0))):=e5.heap HSL.out.blk id;have HUZ:=Lib.hid (HSL.out.comp.used.keep e5);clear e1 e2 e3 e4 e5 hrw hlt2 hn2;have HOE:Hid (okE ((a0,a1,a2),(a3,a4,a5))):=⟨(okT_of HOT.out).1,(okT_of HOT.out).2.1⟩;simp only at HUZ;go_wp2_with fail
        refine wp_region_tree 14 (OT.sures [0,5,9,1,6,10,7,11,8,12,13,2,3,4] .nil) (fun w'=>Gr wr w') (by kernel_rfl) (by kernel_rfl) (fun c a d v w h=>by cases d<;>exact h) ((Gr.refl wr).drew) ?_
        simp only [OT.sures]
        iterate 14 (apply wpT_sure rfl rfl;focus (intro w' hw';obtain ⟨b0,b1⟩:=cells2 (hw'.heap HKBZ.out id);obtain ⟨⟨k0,k1,k2,k3,k4⟩,_⟩:=cells5 (hw'.heap HBZ.out id);obtain ⟨g0,g1,g2,g3,g4,g5,g6,g7,g8⟩:=triAt9 (HRW.out.keep hw'.up);go_simp;rfl))
        refine wpT_nil ?_;have hlk:=(HUZ.out.keep (Upd.refl noBlk wr).drew).lookR (a:=((a0,a1,a2),(a3,a4,a5))) HOE.out;by_cases hm:((a0,a1,a2),(a3,a4,a5))∈edgesL tr
        ·have hv:(setF (edgesL tr) ((a0,a1,a2),(a3,a4,a5))).getD kitUsed.zero=true:=by unfold setF;rw [if_pos hm];rfl
         rw [hv] at hlk;have HK1:(Instr.lookup 100 (.map (some bu8)) (.agg #[.int .i64 a0,.int .i64 a1,.int .i64 a2,.int .i64 a3,.int .i64 a4,.int .i64 a5]) false).run Tryz.prog wr.drew=.ok (.bool true) wr.drew:=hlk;have HNX2:=Lib.hid (HTK.out hm);clear hlk hv hm;by_cases hc1:cap2=1
         ·subst hc1;have HN0:Hid (n=0):=by have:=HCP.out;show n=0;omega
          go_wp2_with fail
          refine ⟨⟨i2+1,_,_,by rw [show c.length-(i2+1)=n by have:=HN2.out;omega],by have:=HN2.out;have:=HN0.out;omega,by have:=HN2.out;omega,fun h=>by have:=HN2.out;have:=HN0.out;omega,HNX2.out,HU5.out.drew⟩,by simp [lenOfV2]⟩
         ·have hadd:(⟨bc,offc+i2*9,none⟩:Addr).add 9=⟨bc,offc+i2*9+9,none⟩:=Addr.add_mid _ _ _;go_wp2_with fail
          refine ⟨⟨i2+1,_,_,by rw [show c.length-(i2+1)=n by have:=HN2.out;omega],by have:=HN2.out;have:=HCP.out;omega,by have:=HN2.out;omega,fun h=>?_,HNX2.out,HU5.out.drew⟩,by simp [lenOfV2]⟩;congr 2
          (try rw [Nat.add_mul];omega)
        ·have hv:(setF (edgesL tr) ((a0,a1,a2),(a3,a4,a5))).getD kitUsed.zero=false:=by unfold setF;rw [if_neg hm];rfl
         rw [hv] at hlk;have HK1:(Instr.lookup 100 (.map (some bu8)) (.agg #[.int .i64 a0,.int .i64 a1,.int .i64 a2,.int .i64 a3,.int .i64 a4,.int .i64 a5]) false).run Tryz.prog wr.drew=.ok (.bool false) wr.drew:=hlk;have HSD:=Lib.hid (HCI.out hm);have hstep:stepW c ⟨K,tr,gs⟩=some (seedBs ((a0,a1,a2),(a3,a4,a5),(a6,a7,a8)) K 3,Wk.visit ⟨seedK ((a0,a1,a2),(a3,a4,a5),(a6,a7,a8)) K 3,tr,[]⟩ ((a0,a1,a2),(a3,a4,a5),(a6,a7,a8)) 0):=by
          unfold stepW;simp only;rw [HOG.out];simp only;rw [HSD.out];simp [seedBs,seedK,cornAt]
         have hacc:=step_acc HFI.out HINV.out HLT.out hstep HBT.out HLF.out HKN.out;have HACC:=Lib.hid hacc;obtain ⟨t1,q1,q2,q3,q4,q5⟩:=seed_some HFI.out HINV.out HLT.out;rw [HSD.out] at q1;cases q1;have HFR:=Lib.hid q4;have hkin:=HINV.out.known;have hup9:Upd noBlk w8 wr.drew:=HU5.out.drew;have HC9:=Lib.hid (HC8.out.upd hup9);have HKB9:=Lib.hid (hup9.heap HKB8.out id);have HRW9:=Lib.hid (HRW.out.keep (Upd.refl noBlk wr).drew);have hbl9:=seedBs_len HOT.out hkin (by have:=HKN.out;show K.length≤_;omega) 3 (by omega);have HBL9:Hid ((seedBs ((a0,a1,a2),(a3,a4,a5),(a6,a7,a8)) K 3).length≤1200):=hbl9;have HSEED:Hid (∀W,Upd noBlk wr.drew W→Calls Tryz.prog 48 #[.agg #[.pointer (some ⟨b,0,none⟩),.pointer (some ⟨bw,0,none⟩)],triV ((a0,a1,a2),(a3,a4,a5),(a6,a7,a8))] W fun en w'=>en=.returned (.tuple #[])∧CW D1 x5 w' b (Wk.visit ⟨seedK ((a0,a1,a2),(a3,a4,a5),(a6,a7,a8)) K 3,tr,[]⟩ ((a0,a1,a2),(a3,a4,a5),(a6,a7,a8)) 0) bw (bits++seedBs ((a0,a1,a2),(a3,a4,a5),(a6,a7,a8)) K 3)):=fun W hW=>
          seed_any (HC9.out.upd hW) ((a0,a1,a2),(a3,a4,a5),(a6,a7,a8)) HOT.out hkin (by have:=HKN.out;show K.length≤_;omega) HFR.out (by have:=HLT.out;have:=HC128.out;show tr.length≤_;omega) (by show ([]:List Gate).length≤_;simp) (by have:=HBL.out;omega)
         clear hlk hv hm hstep hacc q2 q3 q4 q5 hkin hup9 hbl9;unfold triV triC at HSEED;go_wp2_with fail
         clear HK1;obtain ⟨v0,hv0⟩:∃v0,v0=wr.drew:=⟨_,rfl⟩;rw [←hv0] at HKB9 HRW9 HSEED;rw [←hv0];clear hv0;refine wp_region_tree 4 (OT.sures [0,1,2,3] .nil) (fun w'=>Gr v0 w') (by kernel_rfl) (by kernel_rfl) (fun c a d v w h=>by cases d<;>exact h) ((Gr.refl v0).drew) ?_
         simp only [OT.sures]
         iterate 4 (apply wpT_sure rfl rfl;focus (intro w' hw';obtain ⟨b0,b1⟩:=cells2 (hw'.heap HKB9.out id);obtain ⟨g0,g1,g2,g3,g4,g5,g6,g7,g8⟩:=triAt9 (HRW9.out.keep hw'.up);go_simp;rfl))
         refine wpT_nil ?_;have HSE:=Lib.hid (HSEED.out v0.drew (Upd.refl noBlk v0).drew);go_wp2_with fail
         refine HSE.out.mono ?_;rintro e w9 ⟨rfl,hc9⟩;have HC10:=Lib.hid hc9;clear hc9 HSE HSEED;go_wp2_with fail
         go_roundg f
         case measure=>omega
         case rel=>
          obtain ⟨q1,q2,q3,q4⟩:=HACC.out;have hn:=HN2.out;refine ⟨_,_,i2,_,cap2,by rw [hn.1],by have:=HCP.out;omega,by omega,fun _=>rfl,fun t ht=>?_,HC10.out,q1,q2,q3,by have:=HF5.out;omega,q4,by have:=HBL9.out;have:=HBL.out;rw [List.length_append];omega⟩;show (t.1,t.2.1)∈edgesL (tr++[_]);rw [edgesL_app];exact List.mem_append_left _ (HU4.out t ht)
      ·have hnv:nextV tr gs=((a0,a1,a2),(a3,a4,a5),(a6,a7,a8))∧nextB tr gs=true∧restG tr gs=r:=by unfold nextV nextB restG;rw [hog];exact ⟨rfl,rfl,rfl⟩
       obtain ⟨n1,n2,n3⟩:=hnv;rw [n1,n2];rw [n3] at HC7;have HOG:Hid (openG tr gs=((a0,a1,a2),(a3,a4,a5),(a6,a7,a8)) :: r):=hog;have HRL:Hid (r.length≤1000):=by
        have h1:=openG_len tr gs;rw [hog] at h1;have h2:=HLF.out;have h3:=HF5.out;unfold Wk.left at h2;simp only [List.length_cons] at h1 h2;show r.length≤_;omega
       have HGIN:Hid (inG ((a0,a1,a2),(a3,a4,a5),(a6,a7,a8))):=gate_in HINV.out hog;clear n1 n2 n3 hog;unfold gateV triC;obtain ⟨D2,d1,d2,d3,d4⟩:=HC7.out.enter;have hA7:Upd noBlk w7 (w7.alloc (.cells #[.int .i64 a0,.int .i64 a1,.int .i64 a2,.int .i64 a3,.int .i64 a4,.int .i64 a5,.int .i64 a6,.int .i64 a7,.int .i64 a8] 105)):=(Upd.refl _ w7).alloc _;have HC8:=Lib.hid (HC7.out.upd hA7);have HKB8:=Lib.hid (hA7.heap HKB7.out id);have HG8:=Lib.hid (heap_alloc_new w7 (.cells #[.int .i64 a0,.int .i64 a1,.int .i64 a2,.int .i64 a3,.int .i64 a4,.int .i64 a5,.int .i64 a6,.int .i64 a7,.int .i64 a8] 105));obtain ⟨w8,hw8⟩:∃w8,w8=w7.alloc (.cells #[.int .i64 a0,.int .i64 a1,.int .i64 a2,.int .i64 a3,.int .i64 a4,.int .i64 a5,.int .i64 a6,.int .i64 a7,.int .i64 a8] 105):=⟨_,rfl⟩;obtain ⟨bg,hbg⟩:∃bg,bg=w7.heap.size:=⟨_,rfl⟩;rw [←hw8] at HC8 HKB8 HG8 hA7;rw [←hbg] at HG8;have HD2G:Hid (¬D2 bg):=fun h=>by have:=d1 _ h;omega
       have HD2K:Hid (¬D2 kb):=fun h=>by
        rcases d4 _ h with h | h
        ·exact HDK.out h
        ·have:=lt_of_heap HKB.out;omega
       have HSZ8:Hid (w7.heap.size≤w8.heap.size):=hA7.size;have HDD:=Lib.hid d1;have HE2:=Lib.hid d2;have HE3:=Lib.hid d3;have HUA7:=Lib.hid hA7;have HM8:=Lib.hid (HM5.out.other HC8.out.up HDM.out);have HOK8:Hid (okE ((a0,a1,a2),(a3,a4,a5))):=⟨okP_of HGIN.out.1,okP_of HGIN.out.2.1⟩;have hlk:=HM8.out.lookOkR (a:=((a0,a1,a2),(a3,a4,a5))) HOK8.out;rw [HPA.out] at hlk;simp only at hlk;go_upto_region 19 with fail
       rw [←hw8,←hbg];clear hw8 hbg hA7 d1 d2 d3 d4 HC7 HKB7;obtain ⟨g0,g1,g2,g3,g4,g5,g6,g7,g8⟩:=cells9 HG8.out;obtain ⟨b0,b1⟩:=cells2 HKB8.out;rcases h3:third c (a0,a1,a2) (a3,a4,a5) with _ | ⟨r0,r1,r2⟩
       ·rw [h3] at hlk;have HK1:(Instr.lookup 87 (.map (some bm)) (.agg #[.int .i64 a0,.int .i64 a1,.int .i64 a2,.int .i64 a3,.int .i64 a4,.int .i64 a5]) true).run Tryz.prog w8=.ok (.tuple #[.agg #[.int .i64 0,.int .i64 0,.int .i64 0],.bool false]) w8:=hlk;have hstep:stepW c ⟨K,tr,gs⟩=some ([(1,false)],⟨K,tr,r⟩):=by
         unfold stepW;simp only;rw [HOG.out];simp only;rw [h3]
        have hacc:=step_acc HFI.out HINV.out HLT.out hstep HBT.out HLF.out HKN.out;have HACC:=Lib.hid hacc;have hA9:Upd noBlk w8 (w8.alloc (.cells #[.int .i64 0,.int .i64 0,.int .i64 0] 43)):=(Upd.refl _ w8).alloc _;have HBIT:=Lib.hid ((HC8.out.upd hA9).bit 1 false (by have:=HBL.out;omega));have HKB9:=Lib.hid (hA9.heap HKB8.out id);obtain ⟨b0',b1'⟩:=cells2 HKB9.out;clear hlk hstep hacc h3 hA9;go_wp2_with fail
        refine HBIT.out.mono ?_;rintro e w10 ⟨rfl,hc10⟩;have HC10:=Lib.hid hc10;clear hc10 HBIT HK1;go_wp2_with fail
        go_roundg f
        case measure=>omega
        case rel=>
         obtain ⟨q1,q2,q3,q4⟩:=HACC.out;exact ⟨_,_,i,A',cap',rfl,HCAP.out,HI.out,HA.out,HUS.out,HC10.out,q1,q2,q3,by have:=HF5.out;omega,q4,by have:=HBL.out;simp only [List.length_append,List.length_cons,List.length_nil];omega⟩
       ·rw [h3] at hlk;have HK1:(Instr.lookup 87 (.map (some bm)) (.agg #[.int .i64 a0,.int .i64 a1,.int .i64 a2,.int .i64 a3,.int .i64 a4,.int .i64 a5]) true).run Tryz.prog w8=.ok (.tuple #[.agg #[.int .i64 r0,.int .i64 r1,.int .i64 r2],.bool true]) w8:=hlk;obtain ⟨hpin,htin,hfree⟩:=gate_some (W:=⟨K,tr,gs⟩) HFI.out HINV.out HOG.out h3;have HPIN:=Lib.hid hpin;have HTIN:Hid (inT ((a0,a1,a2),(a3,a4,a5),(r0,r1,r2))):=htin;have HFREE:Hid (freeT false tr ((a0,a1,a2),(a3,a4,a5),(r0,r1,r2))):=hfree;have hstep:stepW c ⟨K,tr,gs⟩=some ((1,true) :: cornerB K (r0,r1,r2) (expG ((a0,a1,a2),(a3,a4,a5),(a6,a7,a8))) 2 128 448,Wk.visit ⟨meetK K (r0,r1,r2),tr,r⟩ ((a0,a1,a2),(a3,a4,a5),(r0,r1,r2)) 1):=by
         unfold stepW;simp only;rw [HOG.out];simp only;rw [h3]
        have hacc:=step_acc HFI.out HINV.out HLT.out hstep HBT.out HLF.out HKN.out;have HACC:=Lib.hid hacc;have HKL:Hid (K.length≤1536):=by have:=HKN.out;show _≤_;omega
        have HNR:=Lib.hid (near_exp HGIN.out);have HCL:Hid ((cornerB K (r0,r1,r2) (expG ((a0,a1,a2),(a3,a4,a5),(a6,a7,a8))) 2 128 448).length≤400):=corner_len hpin HNR.out (by have:=HKL.out;omega);have hA9:Upd noBlk w8 (w8.alloc (.cells #[.int .i64 r0,.int .i64 r1,.int .i64 r2] 43)):=(Upd.refl _ w8).alloc _;have HU79:=Lib.hid (HUA7.out.trans hA9);have HC9:=Lib.hid (HE2.out _ HU79.out);have HKB9:=Lib.hid (hA9.heap HKB8.out id);have HG9:=Lib.hid (hA9.heap HG8.out id);have HP9:=Lib.hid (heap_alloc_new w8 (.cells #[.int .i64 r0,.int .i64 r1,.int .i64 r2] 43));obtain ⟨w9,hw9⟩:∃w9,w9=w8.alloc (.cells #[.int .i64 r0,.int .i64 r1,.int .i64 r2] 43):=⟨_,rfl⟩;obtain ⟨bp,hbp⟩:∃bp,bp=w8.heap.size:=⟨_,rfl⟩;rw [←hw9] at HU79 HC9 HKB9 HG9 HP9;rw [←hbp] at HP9;have HD2P:Hid (¬D2 bp):=fun h=>by have:=HDD.out _ h;have:=HSZ8.out;omega
        go_upto_region 24 with fail
        rw [←hw9,←hbp];clear hlk hstep hacc h3 hA9 hpin htin hfree hw9 hbp HK1 g0 g1 g2 g3 g4 g5 g6 g7 g8 b0 b1;obtain ⟨b0,b1⟩:=cells2 HKB9.out;have HBIT:=Lib.hid (HC9.out.bit 1 true (by have:=HBL.out;omega));go_wp2_with fail
        refine HBIT.out.mono ?_;rintro e w10 ⟨rfl,hc10⟩;have HKB10:=Lib.hid (hc10.keepObj HKB9.out HD2K.out);have HP10:=Lib.hid (hc10.keepObj HP9.out HD2P.out);have HMEET:=Lib.hid (hc10.meet (r0,r1,r2) (okP_of HPIN.out) (by have:=HKL.out;show K.length≤_;omega));unfold ptV at HMEET;simp only at HMEET;clear hc10 HBIT b0 b1;obtain ⟨b0,b1⟩:=cells2 HKB10.out;obtain ⟨p0,p1,p2⟩:=cells3 HP10.out;go_wp2_with fail
        refine HMEET.out.mono ?_;rintro e w11 ⟨rfl,hc11⟩;have HC11:=Lib.hid hc11;have HKB11:=Lib.hid (hc11.keepObj HKB9.out HD2K.out);clear hc11 HMEET b0 b1 p0 p1 p2;obtain ⟨b0,b1⟩:=cells2 HKB11.out;by_cases hm:(r0,r1,r2)∈K
        ·have hd:decide ((r0,r1,r2)∈K)=true:=decide_eq_true hm;have HCX:Hid (cornerB K (r0,r1,r2) (expG ((a0,a1,a2),(a3,a4,a5),(a6,a7,a8))) 2 128 448=(2,true) :: numBits 128 (meetN K (r0,r1,r2))):=by
          show _=_;unfold cornerB meetN;rw [if_pos hm,if_pos hm]
         have HML:Hid (meetN K (r0,r1,r2)≤100000):=by show _≤_;unfold meetN;have:=HKL.out;split<;>omega
         generalize meetN K (r0,r1,r2)=mn at *;have HBX:Hid (bits++((1,true) :: cornerB K (r0,r1,r2) (expG ((a0,a1,a2),(a3,a4,a5),(a6,a7,a8))) 2 128 448)=bits++[(1,true)]++[(2,true)]++numBits 128 mn):=by
          show _=_;rw [HCX.out];simp
         have hwn2:IntKind.u64.wrap (mn:Int)=(mn:Int):=by have:=HML.out;have:=IntKind.wrap_u64 (mn:Int);omega
         rw [hd];have HB2:=Lib.hid (HC11.out.bit 2 true (by have:=HBL.out;rw [List.length_append];simp only [List.length_cons,List.length_nil];omega));clear hm hd;go_wp2_with fail
         refine HB2.out.mono ?_;rintro e w12 ⟨rfl,hc12⟩;have HKB12:=Lib.hid (hc12.keepObj HKB9.out HD2K.out);have HNUM2:=Lib.hid (hc12.number 128 mn (by have:=HML.out;omega) (by have:=HBL.out;rw [List.length_append,List.length_append];simp only [List.length_cons,List.length_nil];omega));clear hc12 HB2 b0 b1;obtain ⟨b0,b1⟩:=cells2 HKB12.out;go_wp2_with fail
         refine HNUM2.out.mono ?_;rintro e w13 ⟨rfl,hc13⟩;clear HNUM2 b0 b1;have HKB14:=Lib.hid (hc13.keepObj HKB9.out HD2K.out);have HG14:=Lib.hid (hc13.keepObj HG9.out HD2G.out);have HP14:=Lib.hid (hc13.keepObj HP9.out HD2P.out);have HVIS:=Lib.hid (hc13.visit ((a0,a1,a2),(a3,a4,a5),(r0,r1,r2)) 1 (.inr rfl) (okT_of HTIN.out) HFREE.out (by have:=HLT.out;have:=HC128.out;show tr.length≤_;omega) (by have:=HRL.out;show r.length≤_;omega));unfold triV triC at HVIS;clear hc13;obtain ⟨b0,b1⟩:=cells2 HKB14.out;obtain ⟨g0,g1,g2,g3,g4,g5,g6,g7,g8⟩:=cells9 HG14.out;obtain ⟨p0,p1,p2⟩:=cells3 HP14.out;go_wp2_with fail
         refine HVIS.out.mono ?_;rintro e w14 ⟨rfl,hc14⟩;have HC14:=Lib.hid (HE3.out _ _ _ _ HU79.out hc14);clear hc14 HVIS b0 b1 g0 g1 g2 g3 g4 g5 g6 g7 g8 p0 p1 p2;go_wp2_with fail
         go_roundg f
         case measure=>omega
         case rel=>
          obtain ⟨q1,q2,q3,q4⟩:=HACC.out;refine ⟨_,_,i,A',cap',rfl,HCAP.out,HI.out,HA.out,fun t ht=>?_,HC14.out,q1,by rw [HBX.out] at q2;exact q2,q3,by have:=HF5.out;omega,q4,by have hcl:=HCL.out;have hbl:=HBL.out;rw [HCX.out] at hcl;simp only [List.length_append,List.length_cons,List.length_nil] at hcl ⊢;omega⟩;show (t.1,t.2.1)∈edgesL (tr++[_]);rw [edgesL_app];exact List.mem_append_left _ (HUS.out t ht)
        ·have hd:decide ((r0,r1,r2)∈K)=false:=decide_eq_false hm;have HCX:Hid (cornerB K (r0,r1,r2) (expG ((a0,a1,a2),(a3,a4,a5),(a6,a7,a8))) 2 128 448=(2,false) :: placeB 448 (r0,r1,r2) (expG ((a0,a1,a2),(a3,a4,a5),(a6,a7,a8)))):=by
          show _=_;unfold cornerB;rw [if_neg hm]
         have HBX:Hid (bits++((1,true) :: cornerB K (r0,r1,r2) (expG ((a0,a1,a2),(a3,a4,a5),(a6,a7,a8))) 2 128 448)=bits++[(1,true)]++[(2,false)]++placeB 448 (r0,r1,r2) (expG ((a0,a1,a2),(a3,a4,a5),(a6,a7,a8)))):=by
          show _=_;rw [HCX.out];simp
         rw [hd];have HB2:=Lib.hid (HC11.out.bit 2 false (by have:=HBL.out;rw [List.length_append];simp only [List.length_cons,List.length_nil];omega));clear hm hd;go_wp2_with fail
         refine HB2.out.mono ?_;rintro e w12 ⟨rfl,hc12⟩;have HC12:=Lib.hid hc12;have HKB12:=Lib.hid (hc12.keepObj HKB9.out HD2K.out);have HG12:=Lib.hid (hc12.keepObj HG9.out HD2G.out);have HP12:=Lib.hid (hc12.keepObj HP9.out HD2P.out);obtain ⟨f1,f2,f3⟩:=far_of HPIN.out HNR.out;have HPL:Hid (∀W,Upd noBlk w12 W→Calls Tryz.prog 51 #[.pointer (some ⟨bw,0,none⟩),.int .i64 448,.agg #[.int .i64 r0,.int .i64 r1,.int .i64 r2],ptV (expG ((a0,a1,a2),(a3,a4,a5),(a6,a7,a8)))] W fun en w'=>en=.returned (.tuple #[])∧CW D2 w9 w' b ⟨meetK K (r0,r1,r2),tr,r⟩ bw (bits++[(1,true)]++[(2,false)]++placeB 448 (r0,r1,r2) (expG ((a0,a1,a2),(a3,a4,a5),(a6,a7,a8))))):=fun W hW=>
          (HC12.out.upd hW).place 448 ⟨by omega,by omega⟩ (r0,r1,r2) (expG ((a0,a1,a2),(a3,a4,a5),(a6,a7,a8))) f1 f2 f3 (by have:=HBL.out;rw [List.length_append,List.length_append];simp only [List.length_cons,List.length_nil];omega)
         have hex:=expected_any ((a0,a1,a2),(a3,a4,a5),(a6,a7,a8)) HGIN.out w12.drew;have HEX:=Lib.hid hex;unfold gateV triC at HEX;clear hc12 HB2 b0 b1 f1 f2 f3 hex;go_wp2_with fail
         refine wp_region_tree 5 (OT.sures [0,2,3,1] (.run 4 .nil)) (fun w'=>Upd noBlk w12 w') (by kernel_rfl) (by kernel_rfl) (fun c a d v w h=>by cases d<;>exact h) ((Upd.refl noBlk w12).drew) ?_
         simp only [OT.sures]
         iterate 4 (apply wpT_sure rfl rfl;focus (intro w' hw';obtain ⟨b0,b1⟩:=cells2 (hw'.heap HKB12.out id);obtain ⟨g0,g1,g2,g3,g4,g5,g6,g7,g8⟩:=cells9 (hw'.heap HG12.out id);obtain ⟨p0,p1,p2⟩:=cells3 (hw'.heap HP12.out id);go_simp;rfl))
         refine wpT_run (fun w'=>Upd noBlk w12 w') (fun _ h=>h) rfl (fun K' hK=>?_);go_simp
         refine HEX.out.mono ?_;rintro e wx ⟨rfl,ux⟩;have hux:Upd noBlk w12 wx:=(Upd.refl noBlk w12).drew.trans ux;refine hK _ _ ⟨hux,?_⟩;have HPLX:=Lib.hid (HPL.out wx hux);clear hK K' ux hux HEX;refine wpT_nil ?_;go_wp2_with fail
         refine HPLX.out.mono ?_;rintro e w13 ⟨rfl,hc13⟩;clear HPLX;have HKB14:=Lib.hid (hc13.keepObj HKB9.out HD2K.out);have HG14:=Lib.hid (hc13.keepObj HG9.out HD2G.out);have HP14:=Lib.hid (hc13.keepObj HP9.out HD2P.out);have HVIS:=Lib.hid (hc13.visit ((a0,a1,a2),(a3,a4,a5),(r0,r1,r2)) 1 (.inr rfl) (okT_of HTIN.out) HFREE.out (by have:=HLT.out;have:=HC128.out;show tr.length≤_;omega) (by have:=HRL.out;show r.length≤_;omega));unfold triV triC at HVIS;clear hc13;obtain ⟨b0,b1⟩:=cells2 HKB14.out;obtain ⟨g0,g1,g2,g3,g4,g5,g6,g7,g8⟩:=cells9 HG14.out;obtain ⟨p0,p1,p2⟩:=cells3 HP14.out;go_wp2_with fail
         refine HVIS.out.mono ?_;rintro e w14 ⟨rfl,hc14⟩;have HC14:=Lib.hid (HE3.out _ _ _ _ HU79.out hc14);clear hc14 HVIS b0 b1 g0 g1 g2 g3 g4 g5 g6 g7 g8 p0 p1 p2;go_wp2_with fail
         go_roundg f
         case measure=>omega
         case rel=>
          obtain ⟨q1,q2,q3,q4⟩:=HACC.out;refine ⟨_,_,i,A',cap',rfl,HCAP.out,HI.out,HA.out,fun t ht=>?_,HC14.out,q1,by rw [HBX.out] at q2;exact q2,q3,by have:=HF5.out;omega,q4,by have hcl:=HCL.out;have hbl:=HBL.out;rw [HCX.out] at hcl;simp only [List.length_append,List.length_cons,List.length_nil] at hcl ⊢;omega⟩;show (t.1,t.2.1)∈edgesL (tr++[_]);rw [edgesL_app];exact List.mem_append_left _ (HUS.out t ht)
     ·have hlt':¬(tr.length:Int)<(c.length:Int):=by omega
      have HBE:Hid (bits=bitsC c):=by
       have h1:=HBT.out;have h2:walkB c gk ⟨K,tr,gs⟩=[]:=by
        cases gk with
        | zero=>rfl
        | succ n=>rw [walkB,if_pos (by show c.length≤tr.length;omega)]
       rw [h2,List.append_nil] at h1;exact h1
      clear hlt3;go_wp2_with fail
      have HFN:Hid (∀W,Upd noBlk wr W→Calls Tryz.prog 54 #[.pointer (some ⟨bw,0,none⟩)] W fun en w'=>en=.returned (.string (str (encode bits)))∧Upd noBlk W w'):=fun W hW=>(HC.out.upd hW).finish (by have:=HBL.out;omega);have hsum:str [1]++str (encode bits)=str (clusterN l):=by
       rw [HR.out,HBE.out];unfold packC str;apply ByteArray.ext;simp
      have HSUM:=Lib.hid hsum;have HSZ:Hid (¬9223372036854775807<(str [1]).size+(str (encode bits)).size):=by
       show ¬_;have:=encode_length bits;have:=HBL.out;rw [str_size,str_size];simp only [List.length_cons,List.length_nil];omega
      have hUr:Upd noBlk w wr:=U5.out.then HC.out.up (fun k hk hd=>absurd (HDN.out k hd) (by omega));have HUR:=Lib.hid hUr;have hcv:∀(bl:Nat) (W:World),W.heap[bl]?=some (.cells #[.int .u8 1] 5 (0,0))→(convert 41 9 (.slice (some ⟨bl,0,none⟩) 1 1)).run Tryz.prog W=.ok (.string (str [1])) W:=fun bl W hb=>by
       have ho:W.ownsRow 0 5 1 (.slice (some ⟨bl,0,none⟩) 1 1) 1 ([1].map byteV):=⟨rfl,.inr ⟨bl,1,_,rfl,Nat.zero_le _,hb,Nat.le_refl _,by unfold maxLen;omega,rfl,rfl⟩⟩;exact conv_own (P:=Tryz.prog) (src:=41) (e:=5) (dst:=9) (l:=[1]) Tryz.underlying41 Tryz.underlying5 Tryz.underlying9 ho
      have HCV:=Lib.hid hcv;clear hsum hUr hcv HFI;refine wp_region_tree 6 (OT.sures [2,3] (.fork 0 (.sure 1 (.run 4 (.sure 5 .nil))) 4 (.run 0 (.sure 1 (.sure 5 .nil))))) (fun w'=>Upd noBlk wr w') (by kernel_rfl) (by kernel_rfl) (fun c a d v w h=>by cases d<;>exact h) ((Upd.refl noBlk wr).drew) ?_
      simp only [OT.sures]
      iterate 2 (apply wpT_sure rfl rfl;focus (intro w' hw';obtain ⟨b0,b1⟩:=cells2 (hw'.heap HKB2.out id);go_simp;rfl))
      refine wpT_fork (fun w'=>Upd noBlk wr w'∧w'.heap[wr.heap.size]?=some (.cells #[.int .u8 1] 5 (0,0))) (fun w'=>Upd noBlk wr w') (fun _ h=>h.1) (fun _ h=>h) rfl rfl (fun K' hK=>?_) (fun K' hK=>?_)
      ·go_simp
       have hal:Upd noBlk wr (wr.alloc (.cells #[.int .u8 1] 5)).drew:=((Upd.refl noBlk wr).alloc _).drew;have hbl:(wr.alloc (.cells #[.int .u8 1] 5)).drew.heap[wr.heap.size]?=some (.cells #[.int .u8 1] 5 (0,0)):=heap_alloc_new wr _;refine hK _ _ ⟨⟨hal,hbl⟩,?_⟩;clear hK K'
       (apply wpT_sure rfl rfl;focus (intro w' hw';have hc:=HCV.out wr.heap.size w' hw'.2;go_simp;rfl))
       refine wpT_run (fun w'=>Upd noBlk wr w'∧w'.heap[wr.heap.size]?=some (.cells #[.int .u8 1] 5 (0,0))) (fun _ h=>h) rfl (fun K' hK=>?_);go_simp
       refine (HFN.out _ hal).mono ?_;rintro e wz ⟨rfl,uz⟩;have UZ:=Lib.hid (HUR.out.trans (hal.trans uz));refine hK _ _ ⟨⟨hal.trans uz,uz.heap hbl id⟩,?_⟩;clear hK K' hal hbl uz
       (apply wpT_sure rfl rfl;focus (intro w' hw';have hz:=HSZ.out;go_simp;rfl))
       refine wpT_nil ?_;go_wp2_with fail
       go_ret
       exact ⟨by rw [←HSUM.out];rfl,UZ.out⟩
      ·go_simp
       have hdr:Upd noBlk wr wr.drew:=(Upd.refl noBlk wr).drew;refine (HFN.out _ hdr).mono ?_;rintro e wz ⟨rfl,uz⟩;have UZ:=Lib.hid (HUR.out.trans (hdr.trans uz));refine hK _ _ ⟨hdr.trans uz,?_⟩;have UZ2:=Lib.hid (hdr.trans uz);clear hK K' hdr uz;refine wpT_run (fun w'=>Upd noBlk wr w'∧w'.heap[wz.heap.size]?=some (.cells #[.int .u8 1] 5 (0,0))) (fun _ h=>h.1) rfl (fun K' hK=>?_);go_simp
       refine hK _ _ ⟨⟨UZ2.out.alloc _,heap_alloc_new wz _⟩,?_⟩;clear hK K'
       (apply wpT_sure rfl rfl;focus (intro w' hw';have hc:=HCV.out wz.heap.size w' hw'.2;go_simp;rfl))
       (apply wpT_sure rfl rfl;focus (intro w' hw';have hz:=HSZ.out;go_simp;rfl))
       refine wpT_nil ?_;go_wp2_with fail
       go_ret
       exact ⟨by rw [←HSUM.out];rfl,UZ.out.alloc _⟩
end Go.Proofs.YtcikldoaidmnhaaGreatDoor
