/- Parts: Walks of the packets' program: a cluster is read. No condition. -/
import Derived.Test.YtcikldoaidmnhaaGreatDoorRSpoi1
import Derived.Test.YtcikldoaidmnhaaGreatDoorRSpoi3
import Derived.Test.YtcikldoaidmnhaaGreatDoorRSpoi5
import Derived.Test.YtcikldoaidmnhaaGreatDoorRSpoi6
import Derived.Test.YtcikldoaidmnhaaGreatDoorRSpoi7
import Derived.Test.YtcikldoaidmnhaaGreatDoorRSpoi9
import Derived.Test.YtcikldoaidmnhaaGreatDoorRSpoi11
import Derived.Test.YtcikldoaidmnhaaGreatDoorRSpoi12
import Derived.Test.YtcikldoaidmnhaaGreatDoorRSpoi13
import Derived.Test.YtcikldoaidmnhaaGreatDoorRSpoi14
import Derived.Test.YtcikldoaidmnhaaGreatDoorRSpoi15
import Derived.Test.YtcikldoaidmnhaaGreatDoorRSpoi17
import Derived.Test.YtcikldoaidmnhaaGreatDoorRSpoi18
import Derived.Test.YtcikldoaidmnhaaGreatDoorRSpoi19
import Derived.Test.YtcikldoaidmnhaaGreatDoorRSpoi21
import Derived.Test.YtcikldoaidmnhaaGreatDoorRSpoi24
import Derived.WalkKit
import Derived.WalkSpells
import Derived.WalkLawsBesides
import Derived.Lib.Hide
import Derived.BigQuiet
import Derived.Deep.DeepFit
import Derived.Deep.DeepCutAuto
import Derived.Deep.AppendLies
import Derived.Deep.QuietTactic
import Derived.Maps.OwnOps
import Derived.Maps.OwnSet
import Derived.Maps.RangeWalk
import Derived.WideKeyEntry
import Derived.Deep.MidRow
import Derived.Lib.Bits
import Derived.Test.YtcikldoaidmnhaaGreatDoorRows
import Derived.Deep.RegionHeld3
import Derived.StillTail
import Derived.Laws.EntriesVeiled
import Derived.Handy
import Derived.DeepKeys4
import Derived.ArgAppend
import Derived.Deep.Upon
import Derived.Deep.CutBlock
import Derived.Test.YtcikldoaidmnhaaGreatDoorShelf2
import Derived.Test.YtcikldoaidmnhaaGreatDoorShelf
import Derived.Laws.BitsAllLaws
import Derived.Lib.Zigzag
namespace Go.Proofs.YtcikldoaidmnhaaGreatDoor
open Go Go.RowKit Pk Pc
set_option maxRecDepth 100000
theorem stepM_seed {d:D} {K:List Pt} {tr:List Tri} {gs:List Gate} (h:openG tr gs=[]):stepM false d ⟨K,tr,gs⟩=match cornerM false d K (lastK K) 0 192 256 with
  | none=>none
  | some (p,k1,d1)=>match cornerM false d1 k1 (lastK k1) 0 192 256 with
   | none=>none
   | some (q,k2,d2)=>match cornerM false d2 k2 (lastK k2) 0 192 256 with
    | none=>none
    | some (r,k3,d3)=>visitM false ⟨k3,tr,[]⟩ (p,q,r) 0 d3:=by
 unfold stepM;simp only;rw [h];rfl
theorem stepM_gate {d:D} {K:List Pt} {tr:List Tri} {gs r:List Gate} {g:Gate} (h:openG tr gs=g :: r):stepM false d ⟨K,tr,gs⟩=if d.one 1 then match cornerM false (d.bit 1) K (expG g) 2 128 448 with
   | none=>none
   | some (p,k,d')=>visitM false ⟨k,tr,r⟩ (g.1,g.2.1,p) 1 d'
  else some (d.bit 1,⟨K,tr,r⟩):=by
 unfold stepM;simp only;rw [h];rfl
theorem potM_pos {many:Nat} {w:Wk} (h:w.tris.length<many):0<potM many w:=by unfold potM;omega
noncomputable def manyM (d:D):Option (List Tri):=match numM d 64 129 with
 | none=>none
 | some (m,d')=>runM false m (4*m) d' Wk.init
set_option maxHeartbeats 8000000 in
theorem ocluster_any {Z N:Nat→Prop} {w0 wq:World} {b:Nat} {br:Nat} {d:D} (h:CR Z N w0 wq b Wk.init br d) :
  Calls Tryz.prog 116 #[openerV b br] wq fun en w'=>orFail (manyM d) (fun a en w'=>∃v',en=.returned v'∧kTri.Rd w' v' (canon a)∧Upd (fun k=>Z k∨N k) w0 w') (Upd (fun k=>Z k∨N k) w0) en w':=by
 obtain ⟨Z1,e1,e2,e3,e4,_⟩:=h.enter noBlk (fun _ h=>h.elim);obtain ⟨w1,hw1⟩:∃w1,w1=wq.alloc (.cells #[.pointer (some ⟨b,0,none⟩),.pointer (some ⟨br,0,none⟩)] 183):=⟨_,rfl⟩;have hu1:Upd noBlk wq w1:=by rw [hw1];exact (Upd.refl _ wq).alloc _
 have HC1:=Lib.hid (e2 w1 hu1);have HKB:Hid (w1.heap[wq.heap.size]?=some (.cells #[.pointer (some ⟨b,0,none⟩),.pointer (some ⟨br,0,none⟩)] 183 (0,0))):=by show _=_;rw [hw1];exact heap_alloc_new wq _
 have hs1:w1.heap.size=wq.heap.size+1:=by rw [hw1];simp only [World.size_alloc]
 have HDK:Hid (¬Z1 wq.heap.size∧wq.heap.size<w1.heap.size):=⟨fun h=>by have:=e1 _ h;omega,by omega⟩;have HE4:Hid (∀w',Upd (fun k=>Z1 k∨noBlk k) w1 w'→Upd (fun k=>Z k∨N k) w0 w'):=fun w'=>e4 w1 w' hu1;obtain ⟨tgt,htgt⟩:∃t,t=manyM d:=⟨_,rfl⟩;rw [←htgt];have HT:=Lib.hid htgt;clear h e1 e2 e3 e4 hu1 hs1 htgt;have HF:=fun W=>Lib.hid (fail_any W);unfold openerV;go_enter Tryz.func116,Tryz.ntmps116
 go_upto_region 1 with fail
 rw [←hw1];clear hw1;generalize wq.heap.size=kb at *;obtain ⟨b0,b1⟩:=cells2 HKB.out;have HNUM:=Lib.hid (onumber_any HC1.out 64 129 (by decide) (by decide));go_wp2_with fail
 refine HNUM.out.mono ?_;intro e w2 hp;rcases hm:numM d 64 129 with _ | ⟨many,d0⟩
 ·rw [hm] at hp;obtain ⟨rfl,hu⟩:=hp;have HTN:Hid (tgt=none):=by show _=_;rw [HT.out];unfold manyM;rw [hm]
  have HU:=Lib.hid (HE4.out _ hu);clear hu HNUM b0 b1 HC1 HF;unfold panicW;go_wp2_with fail
  refine ⟨rfl,?_⟩;rw [HTN.out];exact ⟨rfl,HU.out⟩
 rw [hm] at hp;obtain ⟨rfl,hc2⟩:=hp;have HC2:=Lib.hid hc2;have HMB:Hid (many≤128):=by show _≤_;have:=numM_lt hm;omega
 have hmb:(many:Int)≤128:=by have:=numM_lt hm;omega
 have HTR:Hid (runM false many (4*many) d0 Wk.init=tgt):=by show _=_;rw [HT.out];unfold manyM;rw [hm]
 clear hc2 hm HNUM b0 b1 HC1 HT;go_wp2_with fail
 go_loopg [] (4*many) (fun f wz=>∃(S:Wk) (d1:D),CR Z1 noBlk w1 wz b S br d1∧OInv S∧S.tris.length≤many∧runM false many f d1 S=tgt∧potM many S≤f)
 case atStart=>exact ⟨Wk.init,d0,HC2.out,OInv.init,Nat.zero_le _,HTR.out,by show 4*(many-0)+0≤_;omega⟩
 case round=>
  obtain ⟨⟨K,tr,gs⟩,d1,r1,r2,r3,r4,r5⟩:=hrel;simp only at *;have HC:=Lib.hid r1;have HI:=Lib.hid r2;have HTL:Hid (tr.length≤many):=r3;have HRUN:=Lib.hid r4;have HPOT:=Lib.hid r5;have HKB2:=Lib.hid (r1.keepObj HKB.out HDK.out.1 id);obtain ⟨G,F,⟨vK,vG,vT,ba,bu,hsl,hG⟩,hW,hGF,hGD⟩:=r1.ex;obtain ⟨AT,capT,hvT,_⟩:=hsl.comp.tris.form;subst hvT;have HBK:=Lib.hid hsl.blk;have HTO:=Lib.hid hsl.comp.tris.rd;have htl:(tr.length:Int)≤128:=by have:=HMB.out;omega
  clear r1 r2 r3 r4 r5 hsl hG hW hGF hGD HC2 HTR;obtain ⟨b0,b1⟩:=cells2 HKB2.out;obtain ⟨⟨k0,k1,k2,k3,k4⟩,_⟩:=cells5 HBK.out;by_cases hlt:tr.length<many
  ·have hlt':(tr.length:Int)<(many:Int):=by omega
   have HLT:=Lib.hid hlt;obtain ⟨f,hf⟩:∃f,gk=f+1:=⟨gk-1,by have:=potM_pos (w:=⟨K,tr,gs⟩) hlt;have:=HPOT.out;omega⟩;subst hf;have hrs:=HRUN.out;rw [runM_step (by show ¬many≤tr.length;omega)] at hrs;have HRS:=Lib.hid hrs;have HGL:Hid (gs.length≤3*tr.length):=HI.out.glen;have HKL:Hid (K.length≤3*tr.length):=HI.out.klen;have HNX:=Lib.hid (HC.out.next (fun g hg=>okT_of (HI.out.gates g hg)) (by have:=HGL.out;have:=HMB.out;show gs.length≤_;omega));simp only at HNX;clear hlt hrs HRUN;go_wp2_with fail
   refine HNX.out.mono ?_;rintro e w7 ⟨rfl,hc7⟩;have HC7:=Lib.hid hc7;have HKB7:=Lib.hid (hc7.keepObj HKB.out HDK.out.1 id);clear hc7 HNX b0 b1 k0 k1 k2 k3 k4 HBK HKB2 HC;rcases hog:openG tr gs with _ | ⟨⟨⟨a0,a1,a2⟩,⟨a3,a4,a5⟩,⟨a6,a7,a8⟩⟩,r⟩
   ·have hnv:nextV tr gs=((0,0,0),(0,0,0),(0,0,0))∧nextB tr gs=false∧restG tr gs=[]:=by unfold nextV nextB restG;rw [hog];exact ⟨rfl,rfl,rfl⟩
    obtain ⟨n1,n2,n3⟩:=hnv;rw [n1,n2];rw [n3] at HC7;have HSM:=Lib.hid (stepM_seed (d:=d1) (K:=K) hog);clear n1 n2 n3 hog;unfold gateV triC;obtain ⟨Z2,q1,q2,q3,q4,q5⟩:=HC7.out.enter (fun k=>k=w7.heap.size+1) (fun k hk=>by omega);obtain ⟨w9,hw9⟩:∃w9,w9=(w7.alloc (.cells #[.int .i64 0,.int .i64 0,.int .i64 0,.int .i64 0,.int .i64 0,.int .i64 0,.int .i64 0,.int .i64 0,.int .i64 0] 105)).alloc (.cells #[.int .i64 0,.int .i64 0,.int .i64 0,.int .i64 0,.int .i64 0,.int .i64 0,.int .i64 0,.int .i64 0,.int .i64 0] 45):=⟨_,rfl⟩;have hu9:Upd noBlk w7 w9:=by rw [hw9];exact ((Upd.refl _ w7).alloc _).alloc _
    have hs9:w9.heap.size=w7.heap.size+2:=by rw [hw9];simp only [World.size_alloc]
    have HKB9:=Lib.hid (hu9.heap HKB7.out id);have HT9:Hid (w9.heap[w7.heap.size+1]?=some (.cells #[.int .i64 0,.int .i64 0,.int .i64 0,.int .i64 0,.int .i64 0,.int .i64 0,.int .i64 0,.int .i64 0,.int .i64 0] 45 (0,0))):=by
     show _=_;rw [hw9];have:=heap_alloc_new (w7.alloc (.cells #[.int .i64 0,.int .i64 0,.int .i64 0,.int .i64 0,.int .i64 0,.int .i64 0,.int .i64 0,.int .i64 0,.int .i64 0] 105)) (.cells #[.int .i64 0,.int .i64 0,.int .i64 0,.int .i64 0,.int .i64 0,.int .i64 0,.int .i64 0,.int .i64 0,.int .i64 0] 45);simp only [World.size_alloc] at this;exact this
    have HC9:=Lib.hid (q2 w9 hu9);have HE3:Hid (∀w' S' d',CR Z2 _ w9 w' b S' br d'→CR Z1 noBlk w1 w' b S' br d'):=fun w' S' d'=>q3 w9 w' S' d' hu9;have HE5:Hid (∀w',Upd _ w9 w'→Upd (fun k=>Z1 k∨noBlk k) w1 w'):=fun w'=>q4 w9 w' hu9;have HN9:Hid (∀k,k=kb∨k=w7.heap.size+1→¬Z2 k∧k<w9.heap.size):=fun k hk=>by
     rcases hk with rfl | rfl
     ·refine ⟨fun h=>(q5 _ h).elim HDK.out.1 (fun h=>by have:=HDK.out.2;omega),?_⟩;have:=lt_of_heap HKB7.out;omega
     ·exact ⟨fun h=>by have:=q1 _ h;omega,by omega⟩
    have HKT:Hid (¬kb=w7.heap.size+1):=fun e=>by have:=lt_of_heap HKB7.out;omega
    go_upto_region 6 with fail
    rw [←hw9];clear hw9 hu9 hs9 q1 q2 q3 q4 q5 HC7 HKB7;generalize w7.heap.size+1=tb at *;have HK0:Hid ((∀p,p∈K→inP p)∧K.length≤3*tr.length):=⟨HI.out.known,HKL.out⟩;go_wp2_with fail
    refine wp_loop_rounds 4 ?_;rw [rounds_succ];obtain ⟨Z3,r1,r2,r3,r4,r5⟩:=HC9.out.drew.enter noBlk (fun _ h=>h.elim);have HC3:=Lib.hid (r2 w9.drew (Upd.refl _ _));have HZ3:Hid (∀k,k=kb∨k=tb→¬(Z3 k∨noBlk k)):=fun k hk h=>h.elim (fun h=>(r5 _ h).elim (HN9.out k hk).1 (fun h=>by have:=(HN9.out k hk).2;omega)) id;have HR3:Hid (∀w' S' d',CR Z3 noBlk w9.drew w' b S' br d'→CR Z2 _ w9 w' b S' br d'):=fun w' S' d'=>r3 _ w' S' d' (Upd.refl _ _);have HR4:Hid (∀w',Upd (fun k=>Z3 k∨noBlk k) w9.drew w'→Upd _ w9 w'):=fun w'=>r4 _ w' (Upd.refl _ _);have HKD:Hid (w9.drew.heap[kb]?=some (.cells #[.pointer (some ⟨b,0,none⟩),.pointer (some ⟨br,0,none⟩)] 183 (0,0))):=HKB9.out;have HTD:Hid (w9.drew.heap[tb]?=some (.cells #[.int .i64 0,.int .i64 0,.int .i64 0,.int .i64 0,.int .i64 0,.int .i64 0,.int .i64 0,.int .i64 0,.int .i64 0] 45 (0,0))):=HT9.out;clear r1 r2 r3 r4 r5 HC9;go_wp2_with fail
    refine wp_region_tree 6 (OT.sures [0,1,2,3] (.run 4 (.run 5 .nil))) (fun w'=>Upd (fun k=>Z3 k∨noBlk k) w9.drew w') (by kernel_rfl) (by kernel_rfl) (fun c a d v w h=>by cases d<;>exact h) (Upd.refl _ w9.drew) ?_
    simp only [OT.sures]
    iterate 4 (apply wpT_sure rfl rfl;focus (intro w' hw';obtain ⟨b0,b1⟩:=cells2 (hw'.heap HKD.out (HZ3.out _ (.inl rfl)));go_simp;rfl))
    refine wpT_run (fun w'=>Upd (fun k=>Z3 k∨noBlk k) w9.drew w') (fun _ h=>h) rfl (fun K' hK=>?_);go_simp
    refine (HC3.out.last (by have:=HK0.out.2;have:=HTL.out;have:=HMB.out;show K.length≤_;omega)).mono ?_;rintro e v1 ⟨rfl,u1⟩;have HC4:=Lib.hid (HC3.out.upd u1);refine hK _ _ ⟨u1.mono (fun _ _ h=>h.elim),?_⟩;clear hK K' u1 HC3;refine wpT_run (fun w'=>Upd (fun k=>Z3 k∨noBlk k) w9.drew w') (fun _ h=>h) rfl (fun K' hK=>?_);go_simp
    refine (ocorner_any HC4.out 0 192 256 ⟨by decide,by decide⟩ (lastK K) (near_of_in (lastK_in HK0.out.1)) (by have:=HK0.out.2;have:=HTL.out;have:=HMB.out;show K.length≤_;omega)).mono ?_;intro e v2 hp;simp only at hp;rcases hm:cornerM false d1 K (lastK K) 0 192 256 with _ | ⟨P,k1,e1⟩
    ·rw [hm] at hp;obtain ⟨rfl,hu⟩:=hp;have hsm:=HSM.out;rw [hm] at hsm;have hrs:=HRS.out;rw [hsm] at hrs;refine ⟨rfl,?_⟩;rw [←hrs];exact ⟨rfl,HE4.out _ (HE5.out _ (HR4.out _ hu))⟩
    rw [hm] at hp;obtain ⟨rfl,hc5⟩:=hp;have hci:=cornerM_in hm HK0.out.1;have HPI0:=Lib.hid hci.1;have hsm:=HSM.out;rw [hm] at hsm;have HSM:=Lib.hid hsm;have HK0:Hid ((∀p,p∈k1→inP p)∧k1.length≤3*tr.length+1):=⟨hci.2.1,by have:=hci.2.2;have:=HK0.out.2;omega⟩;have HC5:=Lib.hid (HR3.out _ _ _ hc5);have HK5:=Lib.hid (hc5.up.heap HKD.out (HZ3.out _ (.inl rfl)));have HT5:=Lib.hid (hc5.up.heap HTD.out (HZ3.out _ (.inr rfl)));refine hK _ _ ⟨hc5.up,?_⟩;clear hK K' hm hci hsm hc5 HC4 HZ3 HR3 HR4 HKD HTD HKB9 HT9;obtain ⟨p0,p1,p2⟩:=P;simp only at HSM HPI0;unfold ptV;simp only;obtain ⟨_,⟨f0,f1,f2,f3,f4,f5,f6,f7,f8⟩⟩:=cellsF9 HT5.out;refine wpT_nil ?_;clear Z3;go_upto_region 10 with fail
    have HKB9:Hid ((((v2.setCell ⟨tb,0,none⟩ (.int .i64 p0)).setCell ⟨tb,1,none⟩ (.int .i64 p1)).setCell ⟨tb,2,none⟩ (.int .i64 p2)).heap[kb]?=some (.cells #[.pointer (some ⟨b,0,none⟩),.pointer (some ⟨br,0,none⟩)] 183 (0,0))):=((((Upd.refl (fun k=>k=tb) v2).setCell (p:=⟨tb,0,none⟩) (fun _=>rfl) (.int .i64 p0)).setCell (p:=⟨tb,1,none⟩) (fun _=>rfl) (.int .i64 p1)).setCell (p:=⟨tb,2,none⟩) (fun _=>rfl) (.int .i64 p2)).heap HK5.out HKT.out;have HT9:Hid ((((v2.setCell ⟨tb,0,none⟩ (.int .i64 p0)).setCell ⟨tb,1,none⟩ (.int .i64 p1)).setCell ⟨tb,2,none⟩ (.int .i64 p2)).heap[tb]?=some (.cells #[.int .i64 p0,.int .i64 p1,.int .i64 p2,.int .i64 0,.int .i64 0,.int .i64 0,.int .i64 0,.int .i64 0,.int .i64 0] 45 (0,0))):=heap_setCell_eq (i:=2) (.int .i64 p2) (heap_setCell_eq (i:=1) (.int .i64 p1) (heap_setCell_eq (i:=0) (.int .i64 p0) HT5.out));have HC9:=Lib.hid (HC5.out.own (fun k hk=>HN9.out k (.inr hk)) ((((Upd.refl (fun k=>k=tb) v2).setCell (p:=⟨tb,0,none⟩) (fun _=>rfl) (.int .i64 p0)).setCell (p:=⟨tb,1,none⟩) (fun _=>rfl) (.int .i64 p1)).setCell (p:=⟨tb,2,none⟩) (fun _=>rfl) (.int .i64 p2)));clear HC5 HK5 HT5 f0 f1 f2 f3 f4 f5 f6 f7 f8;generalize ((v2.setCell ⟨tb,0,none⟩ (.int .i64 p0)).setCell ⟨tb,1,none⟩ (.int .i64 p1)).setCell ⟨tb,2,none⟩ (.int .i64 p2)=y1 at *;go_wp2_with fail
    rw [rounds_succ];obtain ⟨Z3,r1,r2,r3,r4,r5⟩:=HC9.out.drew.enter noBlk (fun _ h=>h.elim);have HC3:=Lib.hid (r2 y1.drew (Upd.refl _ _));have HZ3:Hid (∀k,k=kb∨k=tb→¬(Z3 k∨noBlk k)):=fun k hk h=>h.elim (fun h=>(r5 _ h).elim (HN9.out k hk).1 (fun h=>by have:=(HN9.out k hk).2;omega)) id;have HR3:Hid (∀w' S' d',CR Z3 noBlk y1.drew w' b S' br d'→CR Z2 _ w9 w' b S' br d'):=fun w' S' d'=>r3 _ w' S' d' (Upd.refl _ _);have HR4:Hid (∀w',Upd (fun k=>Z3 k∨noBlk k) y1.drew w'→Upd _ w9 w'):=fun w'=>r4 _ w' (Upd.refl _ _);have HKD:Hid (y1.drew.heap[kb]?=some (.cells #[.pointer (some ⟨b,0,none⟩),.pointer (some ⟨br,0,none⟩)] 183 (0,0))):=HKB9.out;have HTD:Hid (y1.drew.heap[tb]?=some (.cells #[.int .i64 p0,.int .i64 p1,.int .i64 p2,.int .i64 0,.int .i64 0,.int .i64 0,.int .i64 0,.int .i64 0,.int .i64 0] 45 (0,0))):=HT9.out;clear r1 r2 r3 r4 r5 HC9;go_wp2_with fail
    refine wp_region_tree 6 (OT.sures [0,1,2,3] (.run 4 (.run 5 .nil))) (fun w'=>Upd (fun k=>Z3 k∨noBlk k) y1.drew w') (by kernel_rfl) (by kernel_rfl) (fun c a d v w h=>by cases d<;>exact h) (Upd.refl _ y1.drew) ?_
    simp only [OT.sures]
    iterate 4 (apply wpT_sure rfl rfl;focus (intro w' hw';obtain ⟨b0,b1⟩:=cells2 (hw'.heap HKD.out (HZ3.out _ (.inl rfl)));go_simp;rfl))
    refine wpT_run (fun w'=>Upd (fun k=>Z3 k∨noBlk k) y1.drew w') (fun _ h=>h) rfl (fun K' hK=>?_);go_simp
    refine (HC3.out.last (by have:=HK0.out.2;have:=HTL.out;have:=HMB.out;show k1.length≤_;omega)).mono ?_;rintro e v1 ⟨rfl,u1⟩;have HC4:=Lib.hid (HC3.out.upd u1);refine hK _ _ ⟨u1.mono (fun _ _ h=>h.elim),?_⟩;clear hK K' u1 HC3;refine wpT_run (fun w'=>Upd (fun k=>Z3 k∨noBlk k) y1.drew w') (fun _ h=>h) rfl (fun K' hK=>?_);go_simp
    refine (ocorner_any HC4.out 0 192 256 ⟨by decide,by decide⟩ (lastK k1) (near_of_in (lastK_in HK0.out.1)) (by have:=HK0.out.2;have:=HTL.out;have:=HMB.out;show k1.length≤_;omega)).mono ?_;intro e v2 hp;simp only at hp;rcases hm:cornerM false e1 k1 (lastK k1) 0 192 256 with _ | ⟨P,k2,e2⟩
    ·rw [hm] at hp;obtain ⟨rfl,hu⟩:=hp;have hsm:=HSM.out;rw [hm] at hsm;have hrs:=HRS.out;rw [hsm] at hrs;refine ⟨rfl,?_⟩;rw [←hrs];exact ⟨rfl,HE4.out _ (HE5.out _ (HR4.out _ hu))⟩
    rw [hm] at hp;obtain ⟨rfl,hc5⟩:=hp;have hci:=cornerM_in hm HK0.out.1;have HPI1:=Lib.hid hci.1;have hsm:=HSM.out;rw [hm] at hsm;have HSM:=Lib.hid hsm;have HK0:Hid ((∀p,p∈k2→inP p)∧k2.length≤3*tr.length+2):=⟨hci.2.1,by have:=hci.2.2;have:=HK0.out.2;omega⟩;have HC5:=Lib.hid (HR3.out _ _ _ hc5);have HK5:=Lib.hid (hc5.up.heap HKD.out (HZ3.out _ (.inl rfl)));have HT5:=Lib.hid (hc5.up.heap HTD.out (HZ3.out _ (.inr rfl)));refine hK _ _ ⟨hc5.up,?_⟩;clear hK K' hm hci hsm hc5 HC4 HZ3 HR3 HR4 HKD HTD HKB9 HT9;obtain ⟨q0,q1,q2⟩:=P;simp only at HSM HPI1;unfold ptV;simp only;obtain ⟨_,⟨f0,f1,f2,f3,f4,f5,f6,f7,f8⟩⟩:=cellsF9 HT5.out;refine wpT_nil ?_;clear Z3;go_upto_region 10 with fail
    have HKB9:Hid ((((v2.setCell ⟨tb,3,none⟩ (.int .i64 q0)).setCell ⟨tb,4,none⟩ (.int .i64 q1)).setCell ⟨tb,5,none⟩ (.int .i64 q2)).heap[kb]?=some (.cells #[.pointer (some ⟨b,0,none⟩),.pointer (some ⟨br,0,none⟩)] 183 (0,0))):=((((Upd.refl (fun k=>k=tb) v2).setCell (p:=⟨tb,3,none⟩) (fun _=>rfl) (.int .i64 q0)).setCell (p:=⟨tb,4,none⟩) (fun _=>rfl) (.int .i64 q1)).setCell (p:=⟨tb,5,none⟩) (fun _=>rfl) (.int .i64 q2)).heap HK5.out HKT.out;have HT9:Hid ((((v2.setCell ⟨tb,3,none⟩ (.int .i64 q0)).setCell ⟨tb,4,none⟩ (.int .i64 q1)).setCell ⟨tb,5,none⟩ (.int .i64 q2)).heap[tb]?=some (.cells #[.int .i64 p0,.int .i64 p1,.int .i64 p2,.int .i64 q0,.int .i64 q1,.int .i64 q2,.int .i64 0,.int .i64 0,.int .i64 0] 45 (0,0))):=heap_setCell_eq (i:=5) (.int .i64 q2) (heap_setCell_eq (i:=4) (.int .i64 q1) (heap_setCell_eq (i:=3) (.int .i64 q0) HT5.out));have HC9:=Lib.hid (HC5.out.own (fun k hk=>HN9.out k (.inr hk)) ((((Upd.refl (fun k=>k=tb) v2).setCell (p:=⟨tb,3,none⟩) (fun _=>rfl) (.int .i64 q0)).setCell (p:=⟨tb,4,none⟩) (fun _=>rfl) (.int .i64 q1)).setCell (p:=⟨tb,5,none⟩) (fun _=>rfl) (.int .i64 q2)));clear HC5 HK5 HT5 f0 f1 f2 f3 f4 f5 f6 f7 f8;generalize ((v2.setCell ⟨tb,3,none⟩ (.int .i64 q0)).setCell ⟨tb,4,none⟩ (.int .i64 q1)).setCell ⟨tb,5,none⟩ (.int .i64 q2)=y2 at *;go_wp2_with fail
    rw [rounds_succ];obtain ⟨Z3,r1,r2,r3,r4,r5⟩:=HC9.out.drew.enter noBlk (fun _ h=>h.elim);have HC3:=Lib.hid (r2 y2.drew (Upd.refl _ _));have HZ3:Hid (∀k,k=kb∨k=tb→¬(Z3 k∨noBlk k)):=fun k hk h=>h.elim (fun h=>(r5 _ h).elim (HN9.out k hk).1 (fun h=>by have:=(HN9.out k hk).2;omega)) id;have HR3:Hid (∀w' S' d',CR Z3 noBlk y2.drew w' b S' br d'→CR Z2 _ w9 w' b S' br d'):=fun w' S' d'=>r3 _ w' S' d' (Upd.refl _ _);have HR4:Hid (∀w',Upd (fun k=>Z3 k∨noBlk k) y2.drew w'→Upd _ w9 w'):=fun w'=>r4 _ w' (Upd.refl _ _);have HKD:Hid (y2.drew.heap[kb]?=some (.cells #[.pointer (some ⟨b,0,none⟩),.pointer (some ⟨br,0,none⟩)] 183 (0,0))):=HKB9.out;have HTD:Hid (y2.drew.heap[tb]?=some (.cells #[.int .i64 p0,.int .i64 p1,.int .i64 p2,.int .i64 q0,.int .i64 q1,.int .i64 q2,.int .i64 0,.int .i64 0,.int .i64 0] 45 (0,0))):=HT9.out;clear r1 r2 r3 r4 r5 HC9;go_wp2_with fail
    refine wp_region_tree 6 (OT.sures [0,1,2,3] (.run 4 (.run 5 .nil))) (fun w'=>Upd (fun k=>Z3 k∨noBlk k) y2.drew w') (by kernel_rfl) (by kernel_rfl) (fun c a d v w h=>by cases d<;>exact h) (Upd.refl _ y2.drew) ?_
    simp only [OT.sures]
    iterate 4 (apply wpT_sure rfl rfl;focus (intro w' hw';obtain ⟨b0,b1⟩:=cells2 (hw'.heap HKD.out (HZ3.out _ (.inl rfl)));go_simp;rfl))
    refine wpT_run (fun w'=>Upd (fun k=>Z3 k∨noBlk k) y2.drew w') (fun _ h=>h) rfl (fun K' hK=>?_);go_simp
    refine (HC3.out.last (by have:=HK0.out.2;have:=HTL.out;have:=HMB.out;show k2.length≤_;omega)).mono ?_;rintro e v1 ⟨rfl,u1⟩;have HC4:=Lib.hid (HC3.out.upd u1);refine hK _ _ ⟨u1.mono (fun _ _ h=>h.elim),?_⟩;clear hK K' u1 HC3;refine wpT_run (fun w'=>Upd (fun k=>Z3 k∨noBlk k) y2.drew w') (fun _ h=>h) rfl (fun K' hK=>?_);go_simp
    refine (ocorner_any HC4.out 0 192 256 ⟨by decide,by decide⟩ (lastK k2) (near_of_in (lastK_in HK0.out.1)) (by have:=HK0.out.2;have:=HTL.out;have:=HMB.out;show k2.length≤_;omega)).mono ?_;intro e v2 hp;simp only at hp;rcases hm:cornerM false e2 k2 (lastK k2) 0 192 256 with _ | ⟨P,k3,e3⟩
    ·rw [hm] at hp;obtain ⟨rfl,hu⟩:=hp;have hsm:=HSM.out;rw [hm] at hsm;have hrs:=HRS.out;rw [hsm] at hrs;refine ⟨rfl,?_⟩;rw [←hrs];exact ⟨rfl,HE4.out _ (HE5.out _ (HR4.out _ hu))⟩
    rw [hm] at hp;obtain ⟨rfl,hc5⟩:=hp;have hci:=cornerM_in hm HK0.out.1;have HPI2:=Lib.hid hci.1;have hsm:=HSM.out;rw [hm] at hsm;have HSM:=Lib.hid hsm;have HK0:Hid ((∀p,p∈k3→inP p)∧k3.length≤3*tr.length+3):=⟨hci.2.1,by have:=hci.2.2;have:=HK0.out.2;omega⟩;have HC5:=Lib.hid (HR3.out _ _ _ hc5);have HK5:=Lib.hid (hc5.up.heap HKD.out (HZ3.out _ (.inl rfl)));have HT5:=Lib.hid (hc5.up.heap HTD.out (HZ3.out _ (.inr rfl)));refine hK _ _ ⟨hc5.up,?_⟩;clear hK K' hm hci hsm hc5 HC4 HZ3 HR3 HR4 HKD HTD HKB9 HT9;obtain ⟨s0,s1,s2⟩:=P;simp only at HSM HPI2;unfold ptV;simp only;obtain ⟨_,⟨f0,f1,f2,f3,f4,f5,f6,f7,f8⟩⟩:=cellsF9 HT5.out;refine wpT_nil ?_;clear Z3;go_upto_region 10 with fail
    have HKB9:Hid ((((v2.setCell ⟨tb,6,none⟩ (.int .i64 s0)).setCell ⟨tb,7,none⟩ (.int .i64 s1)).setCell ⟨tb,8,none⟩ (.int .i64 s2)).heap[kb]?=some (.cells #[.pointer (some ⟨b,0,none⟩),.pointer (some ⟨br,0,none⟩)] 183 (0,0))):=((((Upd.refl (fun k=>k=tb) v2).setCell (p:=⟨tb,6,none⟩) (fun _=>rfl) (.int .i64 s0)).setCell (p:=⟨tb,7,none⟩) (fun _=>rfl) (.int .i64 s1)).setCell (p:=⟨tb,8,none⟩) (fun _=>rfl) (.int .i64 s2)).heap HK5.out HKT.out;have HT9:Hid ((((v2.setCell ⟨tb,6,none⟩ (.int .i64 s0)).setCell ⟨tb,7,none⟩ (.int .i64 s1)).setCell ⟨tb,8,none⟩ (.int .i64 s2)).heap[tb]?=some (.cells #[.int .i64 p0,.int .i64 p1,.int .i64 p2,.int .i64 q0,.int .i64 q1,.int .i64 q2,.int .i64 s0,.int .i64 s1,.int .i64 s2] 45 (0,0))):=heap_setCell_eq (i:=8) (.int .i64 s2) (heap_setCell_eq (i:=7) (.int .i64 s1) (heap_setCell_eq (i:=6) (.int .i64 s0) HT5.out));have HC9:=Lib.hid (HC5.out.own (fun k hk=>HN9.out k (.inr hk)) ((((Upd.refl (fun k=>k=tb) v2).setCell (p:=⟨tb,6,none⟩) (fun _=>rfl) (.int .i64 s0)).setCell (p:=⟨tb,7,none⟩) (fun _=>rfl) (.int .i64 s1)).setCell (p:=⟨tb,8,none⟩) (fun _=>rfl) (.int .i64 s2)));clear HC5 HK5 HT5 f0 f1 f2 f3 f4 f5 f6 f7 f8;generalize ((v2.setCell ⟨tb,6,none⟩ (.int .i64 s0)).setCell ⟨tb,7,none⟩ (.int .i64 s1)).setCell ⟨tb,8,none⟩ (.int .i64 s2)=y3 at *;go_wp2_with fail
    rw [rounds_succ];obtain ⟨g0,g1,g2,g3,g4,g5,g6,g7,g8⟩:=cells9 HT9.out;obtain ⟨b0,b1⟩:=cells2 HKB9.out;have HTI:Hid (inT ((p0,p1,p2),(q0,q1,q2),(s0,s1,s2))):=⟨HPI0.out,HPI1.out,HPI2.out⟩;have HVI:=Lib.hid (HC9.out.visit ((p0,p1,p2),(q0,q1,q2),(s0,s1,s2)) 0 (.inl rfl) (okT_of HTI.out) (by have:=HTL.out;have:=HMB.out;show tr.length≤_;omega) (by simp));unfold triV triC at HVI;simp only at HVI;go_wp2_with fail
    refine HVI.out.mono ?_;rintro e w8 ⟨rfl,hu8,hc8⟩;clear b0 b1 g0 g1 g2 g3 g4 g5 g6 g7 g8 HVI HC9 HT9 HKB9;have HU8:=Lib.hid (HE4.out _ (HE5.out _ hu8));by_cases hfr:freeT false tr ((p0,p1,p2),(q0,q1,q2),(s0,s1,s2))
    ·rw [decide_eq_true hfr];have HC8:=Lib.hid (HE3.out _ _ _ (hc8 hfr));have hvm:visitM false ⟨k3,tr,[]⟩ ((p0,p1,p2),(q0,q1,q2),(s0,s1,s2)) 0 e3=some (e3,(⟨k3,tr,[]⟩:Wk).visit ((p0,p1,p2),(q0,q1,q2),(s0,s1,s2)) 0):=if_pos hfr;have hsm:=HSM.out;rw [hvm] at hsm;have hrs:=HRS.out;rw [hsm] at hrs;have HRF:=Lib.hid hrs;clear hfr hu8 hc8 hvm hsm hrs HF HSM HRS HU8;go_wp2_with fail
     go_roundg f
     case measure=>omega
     case rel=>
      have h1:=HTL.out;have h2:=HLT.out;have h3:=HK0.out.2;have hlt2:tr.length<many:=HLT.out;have hp:=potM_visit (many:=many) (w:=⟨k3,tr,[]⟩) (t:=((p0,p1,p2),(q0,q1,q2),(s0,s1,s2))) (first:=0) (n:=0) hlt2 (by simp);have hpo:=HPOT.out;unfold potM at hpo;simp only at hpo hp;refine ⟨_,_,HC8.out,OInv.visit HTI.out HK0.out.1 (fun g hg=>(by cases hg)) HI.out.tris (by show k3.length≤3*(tr.length+1);omega) (by show ([]:List Gate).length+3≤3*(tr.length+1);simp;omega),?_,HRF.out,by omega⟩;show (tr++[_]).length≤many;rw [List.length_append];simp only [List.length_cons,List.length_nil];omega
    ·rw [decide_eq_false hfr];have hvm:visitM false ⟨k3,tr,[]⟩ ((p0,p1,p2),(q0,q1,q2),(s0,s1,s2)) 0 e3=none:=if_neg hfr;have hsm:=HSM.out;rw [hvm] at hsm;have hrs:=HRS.out;rw [hsm] at hrs;have HTN:Hid (tgt=none):=hrs.symm;clear hfr hu8 hc8 hvm hsm hrs HSM HRS;go_wp2_with fail
     refine (HF _).out.mono ?_;rintro e w10 ⟨rfl,rfl⟩;unfold panicW;go_wp2_with fail
     refine ⟨rfl,?_⟩;rw [HTN.out];exact ⟨rfl,HU8.out⟩
   ·have hnv:nextV tr gs=((a0,a1,a2),(a3,a4,a5),(a6,a7,a8))∧nextB tr gs=true∧restG tr gs=r:=by unfold nextV nextB restG;rw [hog];exact ⟨rfl,rfl,rfl⟩
    obtain ⟨n1,n2,n3⟩:=hnv;rw [n1,n2];rw [n3] at HC7;have HSM:=Lib.hid (stepM_gate (d:=d1) (K:=K) hog);have HGI:Hid (inG ((a0,a1,a2),(a3,a4,a5),(a6,a7,a8))):=HI.out.gates _ (openG_mem (by rw [hog];exact List.mem_cons_self));have HRI:Hid (∀g,g∈r→inP g.1∧inP g.2.1∧inP g.2.2):=fun g hg=>HI.out.gates g (openG_mem (by rw [hog];exact List.mem_cons_of_mem _ hg));have HRL:Hid (r.length+1≤gs.length):=by have h1:=openG_len tr gs;rw [hog] at h1;exact h1
    clear n1 n2 n3 hog;unfold gateV triC;obtain ⟨Z2,q1,q2,q3,q4,q5⟩:=HC7.out.enter noBlk (fun _ h=>h.elim);obtain ⟨w8,hw8⟩:∃w8,w8=w7.alloc (.cells #[.int .i64 a0,.int .i64 a1,.int .i64 a2,.int .i64 a3,.int .i64 a4,.int .i64 a5,.int .i64 a6,.int .i64 a7,.int .i64 a8] 105):=⟨_,rfl⟩;have hu8:Upd noBlk w7 w8:=by rw [hw8];exact (Upd.refl _ w7).alloc _
    have hs8:w8.heap.size=w7.heap.size+1:=by rw [hw8];simp only [World.size_alloc]
    have HKB8:=Lib.hid (hu8.heap HKB7.out id);have HG8:Hid (w8.heap[w7.heap.size]?=some (.cells #[.int .i64 a0,.int .i64 a1,.int .i64 a2,.int .i64 a3,.int .i64 a4,.int .i64 a5,.int .i64 a6,.int .i64 a7,.int .i64 a8] 105 (0,0))):=by show _=_;rw [hw8];exact heap_alloc_new w7 _
    have HC8:=Lib.hid (q2 w8 hu8);have HE3:Hid (∀w' S' d',CR Z2 noBlk w8 w' b S' br d'→CR Z1 noBlk w1 w' b S' br d'):=fun w' S' d'=>q3 w8 w' S' d' hu8;have HE5:Hid (∀w',Upd (fun k=>Z2 k∨noBlk k) w8 w'→Upd (fun k=>Z1 k∨noBlk k) w1 w'):=fun w'=>q4 w8 w' hu8;have HN8:Hid (∀k,k=kb∨k=w7.heap.size→¬Z2 k∧k<w8.heap.size):=fun k hk=>by
     rcases hk with rfl | rfl
     ·refine ⟨fun h=>(q5 _ h).elim HDK.out.1 (fun h=>by have:=HDK.out.2;omega),?_⟩;have:=lt_of_heap HKB7.out;omega
     ·exact ⟨fun h=>by have:=q1 _ h;omega,by omega⟩
    go_upto_region 4 with fail
    rw [←hw8];clear hw8 hu8 hs8 q1 q2 q3 q4 q5 HC7 HKB7;generalize w7.heap.size=gb at *;obtain ⟨b0,b1⟩:=cells2 HKB8.out;have HBIT:=Lib.hid (HC8.out.bit 1);go_wp2_with fail
    refine HBIT.out.mono ?_;rintro e w9 ⟨rfl,hc9⟩;have HC9:=Lib.hid hc9;have HKB9:=Lib.hid (hc9.keepObj HKB8.out (HN8.out _ (.inl rfl)).1 id);have HG9:=Lib.hid (hc9.keepObj HG8.out (HN8.out _ (.inr rfl)).1 id);clear hc9 HBIT b0 b1 HC8;rcases hb1:d1.one 1 with _ | _
    ·have hsm:=HSM.out;rw [if_neg (by rw [hb1];decide)] at hsm;have hrs:=HRS.out;rw [hsm] at hrs;have HRF:=Lib.hid hrs;have HC8:=Lib.hid (HE3.out _ _ _ HC9.out);clear hsm hrs HF HSM HRS HC9 hb1;go_wp2_with fail
     go_roundg f
     case measure=>omega
     case rel=>
      have h1:=HTL.out;have h2:=HRL.out;have h3:=HGL.out;have hpo:=HPOT.out;unfold potM at hpo;simp only at hpo;refine ⟨_,_,HC8.out,⟨HI.out.known,HRI.out,HI.out.tris,HKL.out,by show r.length≤3*tr.length;omega⟩,h1,HRF.out,?_⟩;show 4*(many-tr.length)+r.length≤f;omega
    ·have hsm:=HSM.out;rw [if_pos hb1] at hsm;have HSM:=Lib.hid hsm;clear hsm hb1;generalize d1.bit 1=d2 at *;have HNE:=Lib.hid (near_exp HGI.out);have HEX:=fun W=>Lib.hid (expected_any ((a0,a1,a2),(a3,a4,a5),(a6,a7,a8)) HGI.out W);have HKM:Hid (K.length≤90000):=by show _≤_;have:=HKL.out;have:=HTL.out;have:=HMB.out;omega
     unfold gateV triC at HEX;simp only at HEX;go_upto_region 13 with fail
     go_cut [8] (fun c wc=>∃(p:Pt) (k1:List Pt) (e1:D) (pb:Nat),c=.pointer (some ⟨pb,0,none⟩)∧cornerM false d2 K (expG ((a0,a1,a2),(a3,a4,a5),(a6,a7,a8))) 2 128 448=some (p,k1,e1)∧CR Z2 noBlk w8 wc b ⟨k1,tr,r⟩ br e1∧wc.heap[pb]?=some (.cells #[.int .i64 p.1,.int .i64 p.2.1,.int .i64 p.2.2] 43 (0,0)))
     case first=>
      have HKD:Hid (w9.drew.heap[kb]?=some (.cells #[.pointer (some ⟨b,0,none⟩),.pointer (some ⟨br,0,none⟩)] 183 (0,0))):=HKB9.out;have HGD:Hid (w9.drew.heap[gb]?=some (.cells #[.int .i64 a0,.int .i64 a1,.int .i64 a2,.int .i64 a3,.int .i64 a4,.int .i64 a5,.int .i64 a6,.int .i64 a7,.int .i64 a8] 105 (0,0))):=HG9.out;have HCD:=Lib.hid HC9.out.drew;clear HKB9 HG9;refine wp_region_tree 5 (OT.sures [0,1] (.fork 2 (.fork 3 (.run 4 .nil) 4 (.run 3 .nil)) 4 (.run 2 (.run 3 .nil)))) (fun w'=>w'.heap[kb]?=some (.cells #[.pointer (some ⟨b,0,none⟩),.pointer (some ⟨br,0,none⟩)] 183 (0,0))∧w'.heap[gb]?=some (.cells #[.int .i64 a0,.int .i64 a1,.int .i64 a2,.int .i64 a3,.int .i64 a4,.int .i64 a5,.int .i64 a6,.int .i64 a7,.int .i64 a8] 105 (0,0))) (by kernel_rfl) (by kernel_rfl) (fun c a d v w h=>by cases d<;>exact h) ⟨HKD.out,HGD.out⟩ ?_
      simp only [OT.sures]
      iterate 2 (apply wpT_sure rfl rfl;focus (intro w' hw';obtain ⟨b0,b1⟩:=cells2 hw'.1;obtain ⟨g0,g1,g2,g3,g4,g5,g6,g7,g8⟩:=cells9 hw'.2;go_simp;rfl))
      refine wpT_fork _ _ (fun _ h=>h) (fun _ h=>h) rfl rfl (fun K' hK=>?_) (fun K' hK=>?_)
      ·go_simp
       refine (HEX _).out.mono ?_;rintro e v1 ⟨rfl,u1⟩;have HCV:=Lib.hid (HCD.out.upd u1);refine hK _ _ ⟨⟨u1.heap HKD.out id,u1.heap HGD.out id⟩,?_⟩;clear hK K' u1;refine wpT_fork _ _ (fun _ h=>h) (fun _ h=>h) rfl rfl (fun K' hK=>?_) (fun K' hK=>?_)
       ·go_simp
        refine (ocorner_any HCV.out 2 128 448 ⟨by decide,by decide⟩ (expG ((a0,a1,a2),(a3,a4,a5),(a6,a7,a8))) HNE.out HKM.out).mono ?_;intro e v2 hp;simp only at hp;rcases hcm:cornerM false d2 K (expG ((a0,a1,a2),(a3,a4,a5),(a6,a7,a8))) 2 128 448 with _ | ⟨p,k1,e1⟩
        ·rw [hcm] at hp;obtain ⟨rfl,hu⟩:=hp;have hsm:=HSM.out;rw [hcm] at hsm;have hrs:=HRS.out;rw [hsm] at hrs;refine ⟨rfl,?_⟩;rw [←hrs];exact ⟨rfl,HE4.out _ (HE5.out _ hu)⟩
        rw [hcm] at hp;obtain ⟨rfl,hc2⟩:=hp;have HC2:=Lib.hid hc2;refine hK _ _ ⟨⟨hc2.keepObj HKB8.out (HN8.out _ (.inl rfl)).1 id,hc2.keepObj HG8.out (HN8.out _ (.inr rfl)).1 id⟩,?_⟩;clear hK K' hc2 HCV HCD;obtain ⟨p0,p1,p2⟩:=p;have HCM:=Lib.hid hcm;clear hcm;refine wpT_run _ (fun _ h=>h) rfl (fun K' hK=>?_);go_simp
        have HP:=Lib.hid (heap_alloc_new v2 (.cells #[.int .i64 0,.int .i64 0,.int .i64 0] 43));have HC3:=Lib.hid (fun wz=>HC2.out.allocSet (w2:=wz) (.cells #[.int .i64 0,.int .i64 0,.int .i64 0] 43));have ha:Upd noBlk v2 (v2.alloc (.cells #[.int .i64 0,.int .i64 0,.int .i64 0] 43)):=(Upd.refl _ v2).alloc _;refine hK _ _ ⟨⟨ha.heap (HC2.out.keepObj HKB8.out (HN8.out _ (.inl rfl)).1 id) id,ha.heap (HC2.out.keepObj HG8.out (HN8.out _ (.inr rfl)).1 id) id⟩,?_⟩;clear hK K' ha;generalize v2.alloc (.cells #[.int .i64 0,.int .i64 0,.int .i64 0] 43)=va at *;generalize v2.heap.size=pb at *;unfold ptV;simp only;refine wpT_nil ?_;obtain ⟨_,⟨f0,f1,f2⟩⟩:=cellsF3 HP.out;go_wp2_with fail
        go_meet
        exact ⟨(p0,p1,p2),k1,e1,pb,rfl,HCM.out,HC3.out _ ((((Upd.refl (fun k=>k=pb) va).setCell (p:=⟨pb,0,none⟩) (fun _=>rfl) _).setCell (p:=⟨pb,1,none⟩) (fun _=>rfl) _).setCell (p:=⟨pb,2,none⟩) (fun _=>rfl) _),set3 HP.out⟩
       ·go_simp
        obtain ⟨Z4,q1,q2,q3,q4,_⟩:=HCV.out.enter (fun k=>k=v1.heap.size) (fun k hk=>by omega);have ha:Upd noBlk v1 (v1.alloc (.cells #[.int .i64 0,.int .i64 0,.int .i64 0] 43)):=(Upd.refl _ v1).alloc _;have HP:Hid (((v1.alloc (.cells #[.int .i64 0,.int .i64 0,.int .i64 0] 43))).heap[v1.heap.size]?=some (.cells #[.int .i64 0,.int .i64 0,.int .i64 0] 43 (0,0))):=heap_alloc_new v1 (.cells #[.int .i64 0,.int .i64 0,.int .i64 0] 43);have HZP:Hid (¬Z4 v1.heap.size):=fun h=>by have:=q1 _ h;omega
        have HSP:Hid (v1.heap.size<(v1.alloc (.cells #[.int .i64 0,.int .i64 0,.int .i64 0] 43)).heap.size):=by show _<_;simp only [World.size_alloc];exact Nat.lt_succ_self _
        have HCA:=Lib.hid ((q2 _ ha).base noBlk);have HQ3:Hid (∀w' S' d',CR Z4 (fun k=>k=v1.heap.size) (v1.alloc (.cells #[.int .i64 0,.int .i64 0,.int .i64 0] 43)) w' b S' br d'→CR Z2 noBlk w8 w' b S' br d'):=fun w' S' d'=>q3 _ w' S' d' ha;have HQ4:Hid (∀w',Upd (fun k=>Z4 k∨k=v1.heap.size) (v1.alloc (.cells #[.int .i64 0,.int .i64 0,.int .i64 0] 43)) w'→Upd (fun k=>Z2 k∨noBlk k) w8 w'):=fun w'=>q4 _ w' ha;refine hK _ _ ⟨⟨ha.heap (HCV.out.keepObj HKB8.out (HN8.out _ (.inl rfl)).1 id) id,ha.heap (HCV.out.keepObj HG8.out (HN8.out _ (.inr rfl)).1 id) id⟩,?_⟩;clear hK K' ha q1 q2 q3 q4;generalize v1.alloc (.cells #[.int .i64 0,.int .i64 0,.int .i64 0] 43)=va at *;generalize v1.heap.size=pb at *;refine wpT_run _ (fun _ h=>h) rfl (fun K' hK=>?_);go_simp
        refine (ocorner_any HCA.out 2 128 448 ⟨by decide,by decide⟩ (expG ((a0,a1,a2),(a3,a4,a5),(a6,a7,a8))) HNE.out HKM.out).mono ?_;intro e v2 hp;simp only at hp;rcases hcm:cornerM false d2 K (expG ((a0,a1,a2),(a3,a4,a5),(a6,a7,a8))) 2 128 448 with _ | ⟨p,k1,e1⟩
        ·rw [hcm] at hp;obtain ⟨rfl,hu⟩:=hp;have hsm:=HSM.out;rw [hcm] at hsm;have hrs:=HRS.out;rw [hsm] at hrs;refine ⟨rfl,?_⟩;rw [←hrs];exact ⟨rfl,HE4.out _ (HE5.out _ (HQ4.out _ (hu.mono (fun k _ h=>h.elim .inl (fun h=>h.elim)))))⟩
        rw [hcm] at hp;obtain ⟨rfl,hc2⟩:=hp;have HC2:=Lib.hid hc2;have HPZ:=HP;have HP:=Lib.hid (hc2.keepObj HPZ.out HZP.out id);have HC3:=Lib.hid (fun wz hz=>HQ3.out wz _ _ ((hc2.setN HSP.out HZP.out hz).monoN (fun k h=>h.elim (fun h=>h.elim) id)));have hcv:=HC3.out _ (Upd.refl _ _);refine hK _ _ ⟨⟨hcv.keepObj HKB8.out (HN8.out _ (.inl rfl)).1 id,hcv.keepObj HG8.out (HN8.out _ (.inr rfl)).1 id⟩,?_⟩;clear hK K' hc2 hcv HC2 HPZ;obtain ⟨p0,p1,p2⟩:=p;have HCM:=Lib.hid hcm;clear hcm;unfold ptV;simp only;refine wpT_nil ?_;obtain ⟨_,⟨f0,f1,f2⟩⟩:=cellsF3 HP.out;go_wp2_with fail
        go_meet
        exact ⟨(p0,p1,p2),k1,e1,pb,rfl,HCM.out,HC3.out _ ((((Upd.refl (fun k=>k=pb) v2).setCell (p:=⟨pb,0,none⟩) (fun _=>rfl) _).setCell (p:=⟨pb,1,none⟩) (fun _=>rfl) _).setCell (p:=⟨pb,2,none⟩) (fun _=>rfl) _),set3 HP.out⟩
      ·go_simp
       obtain ⟨Z4,q1,q2,q3,q4,_⟩:=HC9.out.enter (fun k=>k=w9.heap.size) (fun k hk=>by omega);have ha:Upd noBlk w9 (w9.alloc (.cells #[.int .i64 0,.int .i64 0,.int .i64 0] 43)).drew:=((Upd.refl _ w9).alloc _).drew;have HP:Hid (((w9.alloc (.cells #[.int .i64 0,.int .i64 0,.int .i64 0] 43)).drew).heap[w9.heap.size]?=some (.cells #[.int .i64 0,.int .i64 0,.int .i64 0] 43 (0,0))):=heap_alloc_new w9 (.cells #[.int .i64 0,.int .i64 0,.int .i64 0] 43);have HZP:Hid (¬Z4 w9.heap.size):=fun h=>by have:=q1 _ h;omega
       have HSP:Hid (w9.heap.size<(w9.alloc (.cells #[.int .i64 0,.int .i64 0,.int .i64 0] 43)).drew.heap.size):=by show _<_;simp only [World.size_drew,World.size_alloc];exact Nat.lt_succ_self _
       have HCA:=Lib.hid ((q2 _ ha).base noBlk);have HQ3:Hid (∀w' S' d',CR Z4 (fun k=>k=w9.heap.size) (w9.alloc (.cells #[.int .i64 0,.int .i64 0,.int .i64 0] 43)).drew w' b S' br d'→CR Z2 noBlk w8 w' b S' br d'):=fun w' S' d'=>q3 _ w' S' d' ha;have HQ4:Hid (∀w',Upd (fun k=>Z4 k∨k=w9.heap.size) (w9.alloc (.cells #[.int .i64 0,.int .i64 0,.int .i64 0] 43)).drew w'→Upd (fun k=>Z2 k∨noBlk k) w8 w'):=fun w'=>q4 _ w' ha;refine hK _ _ ⟨⟨ha.heap (HC9.out.keepObj HKB8.out (HN8.out _ (.inl rfl)).1 id) id,ha.heap (HC9.out.keepObj HG8.out (HN8.out _ (.inr rfl)).1 id) id⟩,?_⟩;clear hK K' ha q1 q2 q3 q4;clear HC9 HCD;generalize (w9.alloc (.cells #[.int .i64 0,.int .i64 0,.int .i64 0] 43)).drew=va at *;generalize w9.heap.size=pb at *;refine wpT_run _ (fun _ h=>h) rfl (fun K' hK=>?_);go_simp
       refine (HEX _).out.mono ?_;rintro e v1 ⟨rfl,u1⟩;have HCB:=Lib.hid (HCA.out.upd u1);have hcv:=HQ3.out _ _ _ (HCB.out.monoN (fun _ h=>h.elim));refine hK _ _ ⟨⟨hcv.keepObj HKB8.out (HN8.out _ (.inl rfl)).1 id,hcv.keepObj HG8.out (HN8.out _ (.inr rfl)).1 id⟩,?_⟩;clear hK K' u1 hcv;refine wpT_run _ (fun _ h=>h) rfl (fun K' hK=>?_);go_simp
       refine (ocorner_any HCB.out 2 128 448 ⟨by decide,by decide⟩ (expG ((a0,a1,a2),(a3,a4,a5),(a6,a7,a8))) HNE.out HKM.out).mono ?_;intro e v2 hp;simp only at hp;rcases hcm:cornerM false d2 K (expG ((a0,a1,a2),(a3,a4,a5),(a6,a7,a8))) 2 128 448 with _ | ⟨p,k1,e1⟩
       ·rw [hcm] at hp;obtain ⟨rfl,hu⟩:=hp;have hsm:=HSM.out;rw [hcm] at hsm;have hrs:=HRS.out;rw [hsm] at hrs;refine ⟨rfl,?_⟩;rw [←hrs];exact ⟨rfl,HE4.out _ (HE5.out _ (HQ4.out _ (hu.mono (fun k _ h=>h.elim .inl (fun h=>h.elim)))))⟩
       rw [hcm] at hp;obtain ⟨rfl,hc2⟩:=hp;have HC2:=Lib.hid hc2;have HPZ:=HP;have HP:=Lib.hid (hc2.keepObj HPZ.out HZP.out id);have HC3:=Lib.hid (fun wz hz=>HQ3.out wz _ _ ((hc2.setN HSP.out HZP.out hz).monoN (fun k h=>h.elim (fun h=>h.elim) id)));have hcv:=HC3.out _ (Upd.refl _ _);refine hK _ _ ⟨⟨hcv.keepObj HKB8.out (HN8.out _ (.inl rfl)).1 id,hcv.keepObj HG8.out (HN8.out _ (.inr rfl)).1 id⟩,?_⟩;clear hK K' hc2 hcv HC2 HPZ;obtain ⟨p0,p1,p2⟩:=p;have HCM:=Lib.hid hcm;clear hcm;unfold ptV;simp only;refine wpT_nil ?_;obtain ⟨_,⟨f0,f1,f2⟩⟩:=cellsF3 HP.out;go_wp2_with fail
       go_meet
       exact ⟨(p0,p1,p2),k1,e1,pb,rfl,HCM.out,HC3.out _ ((((Upd.refl (fun k=>k=pb) v2).setCell (p:=⟨pb,0,none⟩) (fun _=>rfl) _).setCell (p:=⟨pb,1,none⟩) (fun _=>rfl) _).setCell (p:=⟨pb,2,none⟩) (fun _=>rfl) _),set3 HP.out⟩
     case rest=>
      obtain ⟨p,k1,e1,pb,rfl,hcm,hc,hpb⟩:=hcut;have hci:=cornerM_in hcm HI.out.known;have HPI:=Lib.hid hci.1;have HK1:Hid ((∀p,p∈k1→inP p)∧k1.length≤K.length+1):=hci.2;have hsm:=HSM.out;rw [hcm] at hsm;have HSM:=Lib.hid hsm;have HKBC:=Lib.hid (hc.keepObj HKB8.out (HN8.out _ (.inl rfl)).1 id);have HGC:=Lib.hid (hc.keepObj HG8.out (HN8.out _ (.inr rfl)).1 id);have HPB:=Lib.hid hpb;obtain ⟨p0,p1,p2⟩:=p;simp only at HSM HPI HPB;have HTI:Hid (inT ((a0,a1,a2),(a3,a4,a5),(p0,p1,p2))):=⟨HGI.out.1,HGI.out.2.1,HPI.out⟩;have HVI:=Lib.hid (hc.visit ((a0,a1,a2),(a3,a4,a5),(p0,p1,p2)) 1 (.inr rfl) (okT_of HTI.out) (by have:=HTL.out;have:=HMB.out;show tr.length≤_;omega) (by have:=HRL.out;have:=HGL.out;have:=HTL.out;have:=HMB.out;show r.length≤_;omega));unfold triV triC at HVI;simp only at HVI;clear hci hsm hcm hc hpb HC9 HKB9 HG9;obtain ⟨b0,b1⟩:=cells2 HKBC.out;obtain ⟨g0,g1,g2,g3,g4,g5,g6,g7,g8⟩:=cells9 HGC.out;obtain ⟨p0',p1',p2'⟩:=cells3 HPB.out;go_wp2_with fail
      refine HVI.out.mono ?_;rintro e w10 ⟨rfl,hu10,hc10⟩;clear b0 b1 g0 g1 g2 g3 g4 g5 g6 g7 g8 p0' p1' p2' HVI HKBC HGC HPB;have HU10:=Lib.hid (HE4.out _ (HE5.out _ hu10));by_cases hfr:freeT false tr ((a0,a1,a2),(a3,a4,a5),(p0,p1,p2))
      ·rw [decide_eq_true hfr];have HC10:=Lib.hid (HE3.out _ _ _ (hc10 hfr));have hvm:visitM false ⟨k1,tr,r⟩ ((a0,a1,a2),(a3,a4,a5),(p0,p1,p2)) 1 e1=some (e1,(⟨k1,tr,r⟩:Wk).visit ((a0,a1,a2),(a3,a4,a5),(p0,p1,p2)) 1):=if_pos hfr;have hsm:=HSM.out;rw [hvm] at hsm;have hrs:=HRS.out;rw [hsm] at hrs;have HRF:=Lib.hid hrs;clear hfr hu10 hc10 hvm hsm hrs HF HSM HRS HU10;go_wp2_with fail
       go_roundg f
       case measure=>omega
       case rel=>
        have h1:=HTL.out;have h2:=HRL.out;have h3:=HK1.out.2;have h4:=HKL.out;have h5:=HGL.out;have hlt2:tr.length<many:=HLT.out;have hp:=potM_visit (many:=many) (w:=⟨k1,tr,r⟩) (t:=((a0,a1,a2),(a3,a4,a5),(p0,p1,p2))) (first:=1) (n:=gs.length) hlt2 (by show r.length+2<_;omega);have hpo:=HPOT.out;unfold potM at hpo;simp only at hpo hp;refine ⟨_,_,HC10.out,OInv.visit HTI.out HK1.out.1 HRI.out HI.out.tris (by show k1.length≤3*(tr.length+1);omega) (by show r.length+2≤3*(tr.length+1);omega),?_,HRF.out,by omega⟩;show (tr++[_]).length≤many;rw [List.length_append];simp only [List.length_cons,List.length_nil];omega
      ·rw [decide_eq_false hfr];have hvm:visitM false ⟨k1,tr,r⟩ ((a0,a1,a2),(a3,a4,a5),(p0,p1,p2)) 1 e1=none:=if_neg hfr;have hsm:=HSM.out;rw [hvm] at hsm;have hrs:=HRS.out;rw [hsm] at hrs;have HTN:Hid (tgt=none):=hrs.symm;clear hfr hu10 hc10 hvm hsm hrs HSM HRS;go_wp2_with fail
       refine (HF _).out.mono ?_;rintro e w11 ⟨rfl,rfl⟩;unfold panicW;go_wp2_with fail
       refine ⟨rfl,?_⟩;rw [HTN.out];exact ⟨rfl,HU10.out⟩
  ·obtain rfl:tr.length=many:=by have:=HTL.out;omega
   have HTS:Hid (tgt=some tr):=by show _=_;rw [←HRUN.out];exact runM_done (Nat.le_refl _)
   have HCAN:=Lib.hid (mCanon_any _ tr (by have:=HMB.out;omega) _ HTO.out);have HUP:=Lib.hid (HE4.out _ HC.out.up);clear HC HI HTO HRUN HPOT;go_wp2_with fail
   refine HCAN.out.mono ?_;rintro e w5 ⟨v',rfl,hrd,hu⟩;have HRD:=Lib.hid hrd;have HU:=Lib.hid (HUP.out.trans (hu.mono (fun _ _ h=>h.elim)));clear hrd hu HCAN b0 b1 k0 k1 k2 k3 k4 HBK HKB2;go_wp2_with fail
   go_ret
   rw [HTS.out];exact ⟨_,rfl,HRD.out,HU.out⟩
end Go.Proofs.YtcikldoaidmnhaaGreatDoor
