/- Parts: Walks of the packets' program: a corner is read. No condition. -/
import Derived.Test.YtcikldoaidmnhaaGreatDoorRSpoi1
import Derived.Test.YtcikldoaidmnhaaGreatDoorRSpoi3
import Derived.Test.YtcikldoaidmnhaaGreatDoorRSpoi5
import Derived.Test.YtcikldoaidmnhaaGreatDoorRSpoi6
import Derived.Test.YtcikldoaidmnhaaGreatDoorRSpoi7
import Derived.Test.YtcikldoaidmnhaaGreatDoorRSpoi9
import Derived.Test.YtcikldoaidmnhaaGreatDoorRSpoi11
import Derived.Test.YtcikldoaidmnhaaGreatDoorRSpoi12
import Derived.Test.YtcikldoaidmnhaaGreatDoorRSpoi13
import Derived.Test.YtcikldoaidmnhaaGreatDoorRSpoi14
import Derived.Test.YtcikldoaidmnhaaGreatDoorRSpoi17
import Derived.Test.YtcikldoaidmnhaaGreatDoorRSpoi18
import Derived.Test.YtcikldoaidmnhaaGreatDoorRSpoi19
import Derived.Test.YtcikldoaidmnhaaGreatDoorRSpoi21
import Derived.WalkKit
import Derived.WalkSpells
import Derived.WalkLawsBesides
import Derived.Lib.Hide
import Derived.BigQuiet
import Derived.Deep.DeepFit
import Derived.Deep.DeepCutAuto
import Derived.Deep.AppendLies
import Derived.Deep.QuietTactic
import Derived.Maps.OwnOps
import Derived.Maps.OwnSet
import Derived.Maps.RangeWalk
import Derived.WideKeyEntry
import Derived.Deep.MidRow
import Derived.Lib.Bits
import Derived.Test.YtcikldoaidmnhaaGreatDoorRows
import Derived.Deep.RegionHeld3
import Derived.StillTail
import Derived.Laws.EntriesVeiled
import Derived.Handy
import Derived.DeepKeys4
import Derived.ArgAppend
import Derived.Deep.Upon
import Derived.Deep.CutBlock
import Derived.Test.YtcikldoaidmnhaaGreatDoorShelf2
import Derived.Test.YtcikldoaidmnhaaGreatDoorShelf
import Derived.Laws.BitsAllLaws
import Derived.Lib.Zigzag
namespace Go.Proofs.YtcikldoaidmnhaaGreatDoor
open Go Go.RowKit Pk Pc
set_option maxRecDepth 100000
theorem cornerM_true {d:D} {known:List Pt} {near:Pt} {bit number place:Int} (h:d.one bit=true):cornerM false d known near bit number place=match numM (d.bit bit) number known.length with
  | none=>none
  | some (n,d')=>some (getK known n,known,d'):=by
 unfold cornerM numM;rw [if_pos h];by_cases h2:((d.bit bit).number number).ok=true∧((d.bit bit).number number).n<known.length
 ·rw [if_pos h2,if_pos ⟨h2.1,by omega⟩]
 ·rw [if_neg h2,if_neg (fun k=>h2 ⟨k.1,by omega⟩)]
theorem cornerM_false {d:D} {known:List Pt} {near:Pt} {bit number place:Int} (h:d.one bit=false):cornerM false d known near bit number place=match placeM (d.bit bit) place near with
  | none=>none
  | some (p,d')=>some (p,meetK known p,d'):=by
 unfold cornerM;rw [if_neg (by rw [h];decide)];rcases placeM (d.bit bit) place near with _ | ⟨p,d'⟩
 ·rfl
 ·simp
set_option maxHeartbeats 4000000 in
theorem ocorner_any {Z N:Nat→Prop} {w0 wr:World} {b:Nat} {S:Wk} {br:Nat} {d:D} (h:CR Z N w0 wr b S br d) (cb cn cp:Int) (hc:0≤cp∧cp≤1000) (near:Pt) (hn:nearP near) (hkl:S.known.length≤90000) :
  Calls Tryz.prog 150 #[openerV b br,.int .i64 cb,.int .i64 cn,.int .i64 cp,ptV near] wr fun en w'=>orFail (cornerM false d S.known near cb cn cp) (fun a en w'=>en=.returned (ptV a.1)∧CR Z N w0 w' b ⟨a.2.1,S.tris,S.gates⟩ br a.2.2) (Upd (fun k=>Z k∨N k) w0) en w':=by
 obtain ⟨Z1,e1,e2,e3,e4,_⟩:=h.enter (fun k=>k=wr.heap.size+1+1) (fun k hk=>by omega);obtain ⟨n0,n1,n2⟩:=near;have HN:Hid (nearP (n0,n1,n2)):=hn;have HKL:Hid (S.known.length≤90000):=hkl;have HCP:Hid (0≤cp∧cp≤1000):=hc;obtain ⟨w1,hw1⟩:∃w1,w1=((wr.alloc (.cells #[.pointer (some ⟨b,0,none⟩),.pointer (some ⟨br,0,none⟩)] 183)).alloc (.cells #[.int .i64 n0,.int .i64 n1,.int .i64 n2] 43)).alloc (.cells #[.int .i64 0,.int .i64 0,.int .i64 0] 43):=⟨_,rfl⟩;have hu1:Upd noBlk wr w1:=by rw [hw1];exact (((Upd.refl _ wr).alloc _).alloc _).alloc _
 have hs1:w1.heap.size=wr.heap.size+3:=by rw [hw1];simp only [World.size_alloc]
 have HO:Hid (w1.heap[wr.heap.size]?=some (.cells #[.pointer (some ⟨b,0,none⟩),.pointer (some ⟨br,0,none⟩)] 183 (0,0))):=by
  show _=_;rw [hw1];exact (((Upd.refl noBlk _).alloc _).alloc _).heap (heap_alloc_new wr _) id
 have HQ:Hid (w1.heap[wr.heap.size+1]?=some (.cells #[.int .i64 n0,.int .i64 n1,.int .i64 n2] 43 (0,0))):=by
  show _=_;rw [hw1];refine ((Upd.refl noBlk _).alloc _).heap ?_ id;have:=heap_alloc_new (wr.alloc (.cells #[.pointer (some ⟨b,0,none⟩),.pointer (some ⟨br,0,none⟩)] 183)) (.cells #[.int .i64 n0,.int .i64 n1,.int .i64 n2] 43);simp only [World.size_alloc] at this;exact this
 have HR:Hid (w1.heap[wr.heap.size+1+1]?=some (.cells #[.int .i64 0,.int .i64 0,.int .i64 0] 43 (0,0))):=by
  show _=_;rw [hw1];have:=heap_alloc_new ((wr.alloc (.cells #[.pointer (some ⟨b,0,none⟩),.pointer (some ⟨br,0,none⟩)] 183)).alloc (.cells #[.int .i64 n0,.int .i64 n1,.int .i64 n2] 43)) (.cells #[.int .i64 0,.int .i64 0,.int .i64 0] 43);simp only [World.size_alloc] at this;exact this
 have HNZ:Hid (∀k,k=wr.heap.size∨k=wr.heap.size+1∨k=wr.heap.size+1+1→¬Z1 k∧k<w1.heap.size):=fun k hk=>⟨fun h=>by have:=e1 _ h;omega,by omega⟩;have HC:=Lib.hid (e2 w1 hu1);have HE3:Hid (∀w' S' d',CR Z1 _ w1 w' b S' br d'→CR Z N w0 w' b S' br d'):=fun w' S' d'=>e3 w1 w' S' d' hu1;have HE4:Hid (∀w',Upd _ w1 w'→Upd (fun k=>Z k∨N k) w0 w'):=fun w'=>e4 w1 w' hu1;obtain ⟨tgt,htgt⟩:∃t,t=cornerM false d S.known (n0,n1,n2) cb cn cp:=⟨_,rfl⟩;rw [←htgt];have HT:=Lib.hid htgt;clear htgt e1 e2 e3 e4 h hn hc hu1 hs1 hkl;unfold openerV ptV;go_enter Tryz.func150,Tryz.ntmps150
 go_upto_region 1 with fail
 rw [←hw1];clear hw1;generalize wr.heap.size=bo at *;have HF:=fun W=>Lib.hid (fail_any W);obtain ⟨k0,k1⟩:=cells2 HO.out;obtain ⟨Z2,l1,_,l3,l4⟩:=HC.out.lift;have HM:=Lib.hid (l1.bit cb);have HL3:=Lib.hid l3;clear l1 l3 l4;go_wp2_with fail
 refine HM.out.mono ?_;rintro e w2 ⟨rfl,hc2⟩;obtain ⟨hc3,hk3⟩:=HL3.out _ _ _ hc2;have HC2:=Lib.hid hc3;have HO2:=Lib.hid (hk3 _ _ HO.out (HNZ.out _ (.inl rfl)).1 (HNZ.out _ (.inl rfl)).2);have HQ2:=Lib.hid (hk3 _ _ HQ.out (HNZ.out _ (.inr (.inl rfl))).1 (HNZ.out _ (.inr (.inl rfl))).2);have HR2:=Lib.hid (hk3 _ _ HR.out (HNZ.out _ (.inr (.inr rfl))).1 (HNZ.out _ (.inr (.inr rfl))).2);clear HM HL3 hc2 hc3 hk3 k0 k1 HC HO HQ HR;rcases h1:d.one cb with _ | _
 ·have HT2:Hid (tgt=match placeM (d.bit cb) cp (n0,n1,n2) with | none=>none | some (p,d')=>some (p,meetK S.known p,d')):=by show _=_;rw [HT.out,cornerM_false h1]
  clear HT;generalize d.bit cb=d1 at *;obtain ⟨k0,k1⟩:=cells2 HO2.out;obtain ⟨⟨g0,g1,g2⟩,_⟩:=cellsF3 HQ2.out;obtain ⟨Z3,l1,_,l3,l4⟩:=HC2.out.lift;have HM:=Lib.hid (oplace_any l1 cp HCP.out (n0,n1,n2) HN.out);have HL3:=Lib.hid l3;have HL4:=Lib.hid l4;clear l1 l3 l4;go_wp2_with fail
  refine HM.out.mono ?_;intro e w3 hp;rcases hm:placeM d1 cp (n0,n1,n2) with _ | ⟨p,d2⟩
  ·rw [hm] at hp;obtain ⟨rfl,hu⟩:=hp;have HU:=Lib.hid (HE4.out _ (HL4.out _ hu));have HTN:Hid (tgt=none):=by
    have hx:=HT2.out;rw [hm] at hx;exact hx
   clear hu k0 k1 g0 g1 g2 HM HC2 HO2 HQ2 HR2 HL3 HL4;unfold panicW;go_wp2_with fail
   refine ⟨rfl,?_⟩;rw [HTN.out];exact ⟨rfl,HU.out⟩
  rw [hm] at hp;obtain ⟨rfl,hc3⟩:=hp;have HTS:Hid (tgt=some (p,meetK S.known p,d2)):=by
   have hx:=HT2.out;rw [hm] at hx;exact hx
  have HPI:=Lib.hid (okP_of (placeM_in hm));obtain ⟨hc4,hk4⟩:=HL3.out _ _ _ hc3;have HC3:=Lib.hid hc4;have HO3:=Lib.hid (hk4 _ _ HO2.out (HNZ.out _ (.inl rfl)).1 (HNZ.out _ (.inl rfl)).2);have HR3:=Lib.hid (hk4 _ _ HR2.out (HNZ.out _ (.inr (.inr rfl))).1 (HNZ.out _ (.inr (.inr rfl))).2);clear hc3 hc4 hk4 hm HM HL3 HL4 HC2 HO2 HQ2 HR2 k0 k1 g0 g1 g2 HT2;obtain ⟨p0,p1,p2⟩:=p;simp only;unfold ptV;go_upto_region 4 with fail
  obtain ⟨wp,hwp⟩:∃wp,wp=w3.alloc (.cells #[.int .i64 p0,.int .i64 p1,.int .i64 p2] 43):=⟨_,rfl⟩;have hup:Upd noBlk w3 wp:=by rw [hwp];exact (Upd.refl _ w3).alloc _
  have HP:Hid (wp.heap[w3.heap.size]?=some (.cells #[.int .i64 p0,.int .i64 p1,.int .i64 p2] 43 (0,0))):=by show _=_;rw [hwp];exact heap_alloc_new w3 _
  obtain ⟨Z4,q1,q2,q3,_,q5⟩:=HC3.out.enter noBlk (fun _ h=>h.elim);have HM:=Lib.hid ((q2 wp hup).meet (p0,p1,p2) HPI.out (by have:=HKL.out;omega));have HQ3:=Lib.hid (fun w' S' d'=>q3 wp w' S' d' hup);have HZ4:Hid (¬(Z4 w3.heap.size∨noBlk w3.heap.size)):=fun h=>h.elim (fun h=>by have:=q1 _ h;omega) id;have HZ5:Hid (¬(Z4 (bo+1+1)∨noBlk (bo+1+1))):=fun h=>h.elim (fun h=>(q5 _ h).elim (HNZ.out _ (.inr (.inr rfl))).1 (fun h=>by have:=(HNZ.out _ (.inr (.inr rfl))).2;omega)) id;have HR4:=Lib.hid (hup.heap HR3.out id);have HO4:=Lib.hid (hup.heap HO3.out id);rw [←hwp];clear q1 q2 q3 q5 hup hwp HR3 HO3 HC3;generalize w3.heap.size=pb at *;obtain ⟨k0,k1⟩:=cells2 HO4.out;obtain ⟨⟨g0,g1,g2⟩,_⟩:=cellsF3 HP.out;go_wp2_with fail
  refine HM.out.mono ?_;rintro e w4 ⟨rfl,hc4⟩;have HC4:=Lib.hid (HQ3.out _ _ _ hc4);have HP5:=Lib.hid (hc4.up.heap HP.out HZ4.out);have HR5:=Lib.hid (hc4.up.heap HR4.out HZ5.out);clear k0 k1 g0 g1 g2 HM HQ3 HP HR4 HO4 hc4;obtain ⟨⟨g0,g1,g2⟩,_⟩:=cellsF3 HP5.out;obtain ⟨_,⟨f0,f1,f2⟩⟩:=cellsF3 HR5.out;go_wp2_with fail
  have HZ2:=set3 (y0:=.int .i64 p0) (y1:=.int .i64 p1) (y2:=.int .i64 p2) HR5.out
  (try simp only [Exit.inBlock,Exit.then])
  refine bodyPost_ret (results_cell_row rfl _ _ (bo+1+1) 43 _ (0,0) _ rfl HZ2 Tryz.underlying43 rfl (by kernel_rfl)) rfl ?_;rw [HTS.out];exact ⟨rfl,HE3.out _ _ _ (HC4.out.own (fun k hk=>HNZ.out k (.inr (.inr hk))) ((((Upd.refl (fun k=>k=bo+1+1) w4).setCell (p:=⟨bo+1+1,0,none⟩) (fun _=>rfl) _).setCell (p:=⟨bo+1+1,1,none⟩) (fun _=>rfl) _).setCell (p:=⟨bo+1+1,2,none⟩) (fun _=>rfl) _))⟩
 ·have HT2:Hid (tgt=match numM (d.bit cb) cn S.known.length with | none=>none | some (n,d')=>some (getK S.known n,S.known,d')):=by show _=_;rw [HT.out,cornerM_true h1]
  clear HT;generalize d.bit cb=d1 at *;obtain ⟨⟨G,F,q1,q2,q3,q4⟩,q5⟩:=HC2.out.drew;have HRR:=Lib.hid q2;have HQ3:=Lib.hid q3;have HQ4:=Lib.hid q4;have HQ5:=Lib.hid q5;have HQ1:=Lib.hid q1;have HFO:Hid (¬F bo):=fun h=>(q4 _ (.inr h)).elim (HNZ.out _ (.inl rfl)).1 (fun h=>by have:=(HNZ.out _ (.inl rfl)).2;omega);have HFR:Hid (¬F (bo+1+1)):=fun h=>(q4 _ (.inr h)).elim (HNZ.out _ (.inr (.inr rfl))).1 (fun h=>by have:=(HNZ.out _ (.inr (.inr rfl))).2;omega);obtain ⟨vK,vG,vT,ba,bu,hs,hG⟩:=q1;have HFS:Hid (∀k,sFoot b vK vG vT ba bu k→¬F k):=fun k hk=>q3 k (hG ▸ hk);obtain ⟨A,cap,rfl,hcap⟩:=hs.comp.known.form;have HS:=Lib.hid hs;have HLL:Hid ((S.known.length:Int)≤90000):=by show _≤_;have:=HKL.out;omega
  have HOD:Hid (w2.drew.heap[bo]?=some (.cells #[.pointer (some ⟨b,0,none⟩),.pointer (some ⟨br,0,none⟩)] 183 (0,0))):=HO2.out;have HRD:Hid (w2.drew.heap[bo+1+1]?=some (.cells #[.int .i64 0,.int .i64 0,.int .i64 0] 43 (0,0))):=HR2.out;have HLW:Hid (IntKind.i64.wrap ((S.known.length:Int)-1)=(S.known.length:Int)-1):=wrapN (by omega) (by have:=HLL.out;omega);clear q2 q3 q4 q5 hs hG hcap HC2 HO2 HR2;go_upto_region 2 with fail
  refine wp_region_tree 22 (OT.sures [0,5,12,13,14,1,6,15,2,7,16,3,8,17,4,9,18,10,19,11] (.run 20 (OT.sures [21] .nil))) (fun w'=>Upd F w2.drew w') (by kernel_rfl) (by kernel_rfl) (fun c a d v w h=>by cases d<;>exact h) (Upd.refl F w2.drew) ?_
  simp only [OT.sures]
  iterate 20 (apply wpT_sure rfl rfl;focus (intro w' hw';obtain ⟨k0,k1⟩:=cells2 (hw'.heap HOD.out HFO.out);obtain ⟨⟨s0,s1,s2,s3,s4⟩,_⟩:=cells5 (hw'.heap HS.out.blk (HFS.out b (.inl rfl)));have hlw:=HLW.out;have hll:=HLL.out;go_simp;rfl))
  refine wpT_run (fun w'=>Upd F w2.drew w') (fun _ h=>h) rfl (fun K' hK=>?_);go_simp
  refine (onumber_R b (RG.self HRR.out) cn S.known.length (by omega) (by have:=HLL.out;omega)).mono ?_;intro e w3 hp;rcases hm:numM d1 cn S.known.length with _ | ⟨n,d2⟩
  ·rw [hm] at hp;obtain ⟨rfl,hu⟩:=hp;have HTN:Hid (tgt=none):=by
    have hx:=HT2.out;rw [hm] at hx;exact hx
   refine ⟨rfl,?_⟩;rw [HTN.out];exact ⟨rfl,HE4.out _ (HQ5.out.then hu (fun i hi hf=>.inl ((HQ4.out i (.inr hf)).resolve_right (by omega))))⟩
  rw [hm] at hp;obtain ⟨rfl,F',hr⟩:=hp;have HTS:Hid (tgt=some (getK S.known n,S.known,d2)):=by
   have hx:=HT2.out;rw [hm] at hx;exact hx
  have hnl:n<S.known.length:=by have:=numM_lt hm;omega
  have HC3:Hid (CR Z1 (fun k=>k=bo+1+1) w1 w3 b S br d2):=CR.stepR HQ1.out HQ3.out HQ4.out HQ5.out hr;have HRE:=Lib.hid (hr.up.heap HRD.out HFR.out);have hown:=HS.out.comp.known.other hr.up (fun g hg=>HFS.out g (.inr (.inr (.inr (.inl hg)))));obtain ⟨A',cap',e,_,hrd⟩:=hown.rd;cases e;obtain ⟨b',off,rfl,hr2⟩:=hrd (by omega);obtain ⟨m,hmm⟩:∃m,m=S.known.length-1-n:=⟨_,rfl⟩;have hml:m<S.known.length:=by omega
  have hat:=hr2 m hml;have hk3:kPt.k=3:=rfl;rw [hk3] at hat;obtain ⟨a0,a1,a2⟩:=ptAt3 hat;have HGK:Hid (getK S.known n=S.known[m]):=by
   show _=_;unfold getK;rw [←hmm,List.getD_eq_getElem?_getD,List.getElem?_eq_getElem hml];rfl
  have hws:IntKind.i64.wrap ((S.known.length:Int)-1-(n:Int))=(m:Int):=by rw [wrapN (by omega) (by have:=HLL.out;omega)];omega
  have hml':(m:Int)<(S.known.length:Int):=by omega
  refine hK _ _ ⟨hr.up,?_⟩;clear hK K' hm hnl hrd hr2 hat hk3 hmm hown hr HS HRR HQ1 HQ3 HQ4 HQ5 HFO HFS HOD HRD HLW;generalize S.known[m]=p at *;clear hml;obtain ⟨p0,p1,p2⟩:=p;simp only at a0 a1 a2
  (apply wpT_sure rfl rfl;focus (intro w' hw';go_simp;rfl))
  refine wpT_nil ?_;obtain ⟨_,⟨f0,f1,f2⟩⟩:=cellsF3 HRE.out;go_wp2_with fail
  have HZ2:=set3 (y0:=.int .i64 p0) (y1:=.int .i64 p1) (y2:=.int .i64 p2) HRE.out
  (try simp only [Exit.inBlock,Exit.then])
  refine bodyPost_ret (results_cell_row rfl _ _ (bo+1+1) 43 _ (0,0) _ rfl HZ2 Tryz.underlying43 rfl (by kernel_rfl)) rfl ?_;rw [HTS.out];exact ⟨by rw [HGK.out],HE3.out _ _ _ (HC3.out.own (fun k hk=>HNZ.out k (.inr (.inr hk))) ((((Upd.refl (fun k=>k=bo+1+1) w3).setCell (p:=⟨bo+1+1,0,none⟩) (fun _=>rfl) _).setCell (p:=⟨bo+1+1,1,none⟩) (fun _=>rfl) _).setCell (p:=⟨bo+1+1,2,none⟩) (fun _=>rfl) _))⟩
end Go.Proofs.YtcikldoaidmnhaaGreatDoor
