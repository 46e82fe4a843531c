/- Parts: Walks of the packets' program: a cluster's packet is opened, as it comes. No condition. -/
import Derived.Test.YtcikldoaidmnhaaGreatDoorRSpoi1
import Derived.Test.YtcikldoaidmnhaaGreatDoorRSpoi3
import Derived.Test.YtcikldoaidmnhaaGreatDoorRSpoi4
import Derived.Test.YtcikldoaidmnhaaGreatDoorRSpoi5
import Derived.Test.YtcikldoaidmnhaaGreatDoorRSpoi6
import Derived.Test.YtcikldoaidmnhaaGreatDoorRSpoi7
import Derived.Test.YtcikldoaidmnhaaGreatDoorRSpoi9
import Derived.Test.YtcikldoaidmnhaaGreatDoorRSpoi11
import Derived.Test.YtcikldoaidmnhaaGreatDoorRSpoi12
import Derived.Test.YtcikldoaidmnhaaGreatDoorRSpoi14
import Derived.Test.YtcikldoaidmnhaaGreatDoorRSpoi17
import Derived.Test.YtcikldoaidmnhaaGreatDoorRSpoi18
import Derived.Test.YtcikldoaidmnhaaGreatDoorRSpoi19
import Derived.Test.YtcikldoaidmnhaaGreatDoorRSpoi27
import Derived.WalkKit
import Derived.WalkSpells
import Derived.WalkLawsBesides
import Derived.Lib.Hide
import Derived.BigQuiet
import Derived.Deep.DeepFit
import Derived.Deep.DeepCutAuto
import Derived.Deep.AppendLies
import Derived.Deep.QuietTactic
import Derived.Maps.OwnOps
import Derived.Maps.OwnSet
import Derived.Maps.RangeWalk
import Derived.WideKeyEntry
import Derived.Deep.MidRow
import Derived.Lib.Bits
import Derived.Test.YtcikldoaidmnhaaGreatDoorRows
import Derived.Deep.RegionHeld3
import Derived.StillTail
import Derived.Laws.EntriesVeiled
import Derived.Handy
import Derived.DeepKeys4
import Derived.ArgAppend
import Derived.Deep.Upon
import Derived.Deep.CutBlock
import Derived.Test.YtcikldoaidmnhaaGreatDoorShelf2
import Derived.Test.YtcikldoaidmnhaaGreatDoorShelf
import Derived.Laws.BitsAllLaws
import Derived.Lib.Zigzag
import Derived.Recover
namespace Go.Proofs.YtcikldoaidmnhaaGreatDoor
open Go Go.RowKit Pk Pc
set_option maxRecDepth 100000
theorem upd_newE {w w1 w2:World} {k:Nat} (h:Upd noBlk w w1) (h2:Upd (fun i=>i=k) w1 w2) (hk:w.heap.size≤k):Upd noBlk w w2:=h.then h2 (fun i hi e=>by have e':i=k:=e;omega)
set_option maxHeartbeats 2000000 in
theorem openCluster_bad (l:List Nat) (hl:∀d,d∈l→d<256) (hb:∀code,l≠1 :: code) (w:World) :
  Calls Tryz.prog 67 #[.string (str l)] w fun en w'=>∃v,en=.returned (.tuple #[v,.int .i64 13])∧Upd noBlk w w':=by
 have HF:=fun W=>Lib.hid (fail_any W);cases l with
 | nil=>
  have he:(str ([]:List Nat)).toList.isEmpty=true:=by rw [str_toList];rfl
  go_enter_defers Tryz.func67,Tryz.ntmps67
  go_wp2_with fail
  refine (HF _).out.mono ?_;rintro e w2 ⟨rfl,rfl⟩;unfold panicW;go_wp2_with fail
  refine door_bad (heap_alloc_new w (.cells #[.int .i64 0] 33)) (fun W hW hu=>?_);exact ⟨_,results_tmp_cell rfl _ rfl (load_err hW),⟨_,rfl,upd_newE ((Upd.refl noBlk w).alloc _) hu (Nat.le_refl _)⟩⟩
 | cons a code=>
  have he:(str (a :: code)).toList.isEmpty=false:=by rw [str_toList];rfl
  have hz:0<(str (a :: code)).size:=by rw [str_size];simp
  have hne:¬a=1:=fun e=>hb code (by rw [e]);have h0:=str_get (l:=a :: code) (i:=0) (by simp) hl hz;go_enter_defers Tryz.func67,Tryz.ntmps67
  go_wp2_with fail
  refine (HF _).out.mono ?_;rintro e w2 ⟨rfl,rfl⟩;unfold panicW;go_wp2_with fail
  refine door_bad (heap_alloc_new w (.cells #[.int .i64 0] 33)) (fun W hW hu=>?_);exact ⟨_,results_tmp_cell rfl _ rfl (load_err hW),⟨_,rfl,upd_newE ((Upd.refl noBlk w).alloc _) hu (Nat.le_refl _)⟩⟩
theorem set2 {w:World} {b:Nat} {x0 x1 y0 y1:Value} {t:TypeId} (h:w.heap[b]?=some (.cells #[x0,x1] t (0,0))):((w.setCell ⟨b,0,none⟩ y0).setCell ⟨b,1,none⟩ y1).heap[b]?=some (.cells #[y0,y1] t (0,0)):=heap_setCell_eq (i:=1) y1 (heap_setCell_eq (i:=0) y0 h)
theorem cellsF2 {w:World} {b:Nat} {x0 x1:Value} {t:TypeId} (h:w.heap[b]?=some (.cells #[x0,x1] t (0,0))):(w.cell? ⟨b,0,none⟩=some x0∧w.cell? ⟨b,1,none⟩=some x1)∧(w.frozen? ⟨b,0,none⟩=false∧w.frozen? ⟨b,1,none⟩=false):=by simp [World.cell?,World.frozen?,h]
theorem many_open (code:List Nat):manyM (D.ofCode code)=openM false (1 :: code):=by
 unfold manyM numM;show _=if ((D.ofCode code).number 64).ok=true∧((D.ofCode code).number 64).n<129 then _ else _;by_cases h:((D.ofCode code).number 64).ok=true∧((D.ofCode code).number 64).n<129
 ·rw [if_pos h,if_pos ⟨h.1,by have:=h.2;omega⟩]
 ·rw [if_neg h,if_neg (fun k=>h ⟨k.1,by have:=k.2;omega⟩)]
theorem CR.make {w1 wl wz:World} {b br ob:Nat} {d:D} {G0:Nat→Prop} (hS:SRep wl b Wk.init G0) (hR:RRep wl br d (·=br)) (hG:∀k,G0 k→w1.heap.size≤k∧k≠ob∧k≠br) (hb:w1.heap.size≤br∧br≠ob) (ho:w1.heap.size≤ob) (hu:Upd noBlk w1 wl) (hz:Upd (fun k=>k=ob) wl wz):CR noBlk noBlk w1 wz b Wk.init br d:=
 ⟨⟨G0,(·=br),hS.upd hz (fun k hk e=>(hG k hk).2.1 e),hR.upd hz (fun k hk e=>hb.2 (by rw [←show k=br from hk];exact e)),fun k hk e=>(hG k hk).2.2 e,fun k hk=>.inr (by
  rcases hk with h | h
  ·exact (hG k h).1
  ·have h':k=br:=h;rw [h'];exact hb.1)⟩,(hu.mono (fun _ _ h=>h.elim)).then hz (fun i hi e=>by have e':i=ob:=e;omega)⟩
theorem upd_same {w:World} {b:Nat} {x:Value} {T:TypeId} (h:w.heap[b]?=some (.cells #[x] T (0,0))):Upd noBlk w (w.setCell ⟨b,0,none⟩ x):=by
 obtain ⟨h1,h2,h3,h4,h5⟩:=(Upd.refl (fun k=>k=b) w).setCell (p:=⟨b,0,none⟩) (fun _=>rfl) x;refine ⟨h1,h2,h3,h4,fun i hi _=>?_⟩;by_cases e:i=b
 ·subst e;rw [heap_setCell_eq (i:=0) x h,h];rfl
 ·exact h5 i hi e
def openQ (o:Option (List Tri)) (w:World) (en:Ending) (w':World):Prop:=Upd noBlk w w'∧∃v,match o with
 | some l=>en=.returned (.tuple #[v,.int .i64 0])∧kTri.Rd w' v (canon l)
 | none=>en=.returned (.tuple #[v,.int .i64 13])
set_option maxHeartbeats 4000000 in
theorem openCluster_one (code:List Nat) (hl:∀d,d∈code→d<256) (w:World) :
  Calls Tryz.prog 67 #[.string (str (1 :: code))] w fun en w'=>openQ (openM false (1 :: code)) w en w':=by
 obtain ⟨tgt,htgt⟩:∃t,t=openM false (1 :: code):=⟨_,rfl⟩;rw [←htgt];rw [←many_open] at htgt;have HT:=Lib.hid htgt;have he:(str (1 :: code)).toList.isEmpty=false:=by rw [str_toList];rfl
 have hz:0<(str (1 :: code)).size:=by rw [str_size];simp
 have h0:=str_get (l:=1 :: code) (i:=0) (by simp) (fun d hd=>(List.mem_cons.1 hd).elim (fun e=>by rw [e];decide) (hl d)) hz;have HSL:Hid ((str (1 :: code)).extract 1 (str (1 :: code)).size=str code):=by show _=_;rw [str_extract,str_size];simp
 have HL:=Lib.hid hl;have HE:=Lib.hid (heap_alloc_new w (.cells #[.int .i64 0] 33));have HU0:Hid (Upd noBlk w (w.alloc (.cells #[.int .i64 0] 33))):=(Upd.refl _ w).alloc _;clear hl htgt;go_enter_defers Tryz.func67,Tryz.ntmps67
 obtain ⟨w1,hw1⟩:∃w1,w1=w.alloc (.cells #[.int .i64 0] 33):=⟨_,rfl⟩;go_upto_region 4 with fail
 rw [←hw1] at HE HU0;rw [←hw1];clear hw1;obtain ⟨eb,heb⟩:∃eb,eb=w.heap.size:=⟨_,rfl⟩;have HEB:Hid (w.heap.size≤eb):=by show _≤_;omega
 rw [←heb] at HE;rw [←heb];clear heb;have HZ1:Hid ((1:Int)≤(((str (1 :: code)).size:Nat):Int)):=by show _≤_;omega
 clear h0 he;have HLTC:Hid (∀x,x∈code→x<256):=HL.out;go_cut [4] from 13 to 17 (fun c wc=>∃(ob b br:Nat),c=.pointer (some ⟨ob,0,none⟩)∧wc.heap[ob]?=some (.cells #[.pointer (some ⟨b,0,none⟩),.pointer (some ⟨br,0,none⟩)] 183 (0,0))∧CR noBlk noBlk w1 wc b Wk.init br (D.ofCode code))
 case first=>
  refine wp_region_noPanic ?_;refine wp_region_tree 6 (OT.sures [1,2] (.fork 0 (.fork 3 (.sure 4 (.run 5 .nil)) 5 (.run 3 (.sure 4 .nil))) 5 (.run 0 (.run 3 (.sure 4 .nil))))) (fun _=>True) (by kernel_rfl) (by kernel_rfl) (fun c a d v w h=>h.elim) trivial ?_;simp only [OT.sures]
  (apply wpT_sure rfl rfl;focus (intro w' hw';go_simp;rfl))
  (apply wpT_sure rfl rfl;focus (intro w' hw';have hsl:=HSL.out;have h1:=HZ1.out;go_simp;rfl))
  refine wpT_fork _ _ (fun _ h=>h) (fun _ h=>h) rfl rfl (fun K' hK=>?_) (fun K' hK=>?_)
  ·go_simp
   refine (newState_any _).mono ?_;rintro e s1 ⟨rfl,hs1,u1⟩;have HS1:=Lib.hid hs1;have U1:=Lib.hid u1;refine hK _ _ ⟨trivial,?_⟩;clear hK K' hs1 u1;have hz1:w1.heap.size≤s1.heap.size:=U1.out.size;refine wpT_fork _ _ (fun _ h=>h) (fun _ h=>h) rfl rfl (fun K' hK=>?_) (fun K' hK=>?_)
   ·go_simp
    have HRR:=Lib.hid (NewReader_rep (code:=code) HLTC.out s1);refine (NewReader_any code s1).mono ?_;rintro e s2 ⟨rfl,hs2⟩;have HZ2:Hid (s2.heap.size=s1.heap.size+1):=by show _=_;rw [←hs2];exact World.size_alloc _ _
    have U2:Hid (Upd noBlk s1 s2):=by show Upd _ _ _;rw [←hs2];exact (Upd.refl _ s1).alloc _
    rw [hs2] at HRR;clear hs2;refine hK _ _ ⟨trivial,?_⟩;clear hK K'
    (apply wpT_sure rfl rfl;focus (intro w' hw';go_simp;rfl))
    refine wpT_run _ (fun _ h=>h) rfl (fun K' hK=>?_);go_simp
    refine hK _ _ ⟨trivial,?_⟩;clear hK K';have hk:∀k,(k=w1.heap.size∨k=w1.heap.size+1∨k=w1.heap.size+2)→w1.heap.size≤k∧k<s1.heap.size:=fun k hk=>⟨by omega,HS1.out.lt k hk⟩;refine wpT_nil ?_;have h4:=cellsF2 (heap_alloc_new s2 (.cells #[.pointer none,.pointer none] 183));obtain ⟨_,⟨f0,f1⟩⟩:=h4;go_wp2_with fail
    refine NoPanic.normal ?_;go_wp2_with fail
    go_meet
    refine ⟨s2.heap.size,(w1.heap.size+2),s1.heap.size,rfl,heap_alloc_new s2 _,CR.make (wl:=s2) (ob:=s2.heap.size) (HS1.out.upd U2.out (fun _ _=>id)) HRR.out ?_ ?_ ?_ (((Upd.refl noBlk w1).drew.trans U1.out).trans U2.out) ((Upd.refl _ s2).alloc _)⟩
    ·intro k h;have h1:=hk k h;have:=HZ2.out;omega
    ·have:=HZ2.out;omega
    ·have:=HZ2.out;omega
   ·go_simp
    have HOB:=Lib.hid (heap_alloc_new s1 (.cells #[.pointer none,.pointer none] 183));have HZA:Hid ((s1.alloc (.cells #[.pointer none,.pointer none] 183)).heap.size=s1.heap.size+1):=World.size_alloc _ _;have hk:∀k,(k=w1.heap.size∨k=w1.heap.size+1∨k=w1.heap.size+2)→w1.heap.size≤k∧k<s1.heap.size:=fun k hk=>⟨by omega,HS1.out.lt k hk⟩;have HSA:=Lib.hid (HS1.out.upd ((Upd.refl noBlk s1).alloc (.cells #[.pointer none,.pointer none] 183)) (fun _ _=>id));have HUA:=Lib.hid (((Upd.refl noBlk w1).drew.trans U1.out).alloc (.cells #[.pointer none,.pointer none] 183));refine hK _ _ ⟨trivial,?_⟩;clear hK K';generalize s1.alloc (.cells #[.pointer none,.pointer none] 183)=sa at *;refine wpT_run _ (fun _ h=>h) rfl (fun K' hK=>?_);go_simp
    have HRR:=Lib.hid (NewReader_rep (code:=code) HLTC.out sa);refine (NewReader_any code sa).mono ?_;rintro e s2 ⟨rfl,hs2⟩;have HZ2:Hid (s2.heap.size=sa.heap.size+1):=by show _=_;rw [←hs2];exact World.size_alloc _ _
    have U2:Hid (Upd noBlk sa s2):=by show Upd _ _ _;rw [←hs2];exact (Upd.refl _ sa).alloc _
    rw [hs2] at HRR;clear hs2;refine hK _ _ ⟨trivial,?_⟩;clear hK K'
    (apply wpT_sure rfl rfl;focus (intro w' hw';go_simp;rfl))
    refine wpT_nil ?_;have h4:=cellsF2 (U2.out.heap HOB.out id);obtain ⟨_,⟨f0,f1⟩⟩:=h4;go_wp2_with fail
    refine NoPanic.normal ?_;go_wp2_with fail
    go_meet
    refine ⟨s1.heap.size,(w1.heap.size+2),sa.heap.size,rfl,set2 (U2.out.heap HOB.out id),CR.make (wl:=s2) (ob:=s1.heap.size) (HSA.out.upd U2.out (fun _ _=>id)) HRR.out ?_ ?_ ?_ (HUA.out.trans U2.out) (((Upd.refl (fun k=>k=s1.heap.size) s2).setCell (p:=⟨s1.heap.size,0,none⟩) (fun _=>rfl) _).setCell (p:=⟨s1.heap.size,1,none⟩) (fun _=>rfl) _)⟩
    ·intro k h;have h1:=hk k h;have:=HZ2.out;have:=HZA.out;omega
    ·have:=HZ2.out;have:=HZA.out;omega
    ·have:=HZ2.out;have:=HZA.out;omega
  ·go_simp
   have HOB:=Lib.hid (heap_alloc_new w1 (.cells #[.pointer none,.pointer none] 183));have HZA:Hid (((w1.alloc (.cells #[.pointer none,.pointer none] 183)).drew).heap.size=w1.heap.size+1):=World.size_alloc _ _;have HUA:=Lib.hid ((Upd.refl noBlk w1).alloc (.cells #[.pointer none,.pointer none] 183)).drew;have HOB2:Hid (((w1.alloc (.cells #[.pointer none,.pointer none] 183)).drew).heap[w1.heap.size]?=some (.cells #[.pointer none,.pointer none] 183 (0,0))):=HOB.out;clear HOB;refine hK _ _ ⟨trivial,?_⟩;clear hK K';generalize (w1.alloc (.cells #[.pointer none,.pointer none] 183)).drew=sa at *;refine wpT_run _ (fun _ h=>h) rfl (fun K' hK=>?_);go_simp
   refine (newState_any _).mono ?_;rintro e s1 ⟨rfl,hs1,u1⟩;have HS1:=Lib.hid hs1;have U1:=Lib.hid u1;refine hK _ _ ⟨trivial,?_⟩;clear hK K' hs1 u1;have hk:∀k,(k=sa.heap.size∨k=sa.heap.size+1∨k=sa.heap.size+2)→sa.heap.size≤k∧k<s1.heap.size:=fun k hk=>⟨by omega,HS1.out.lt k hk⟩;have hz1:sa.heap.size≤s1.heap.size:=U1.out.size;refine wpT_run _ (fun _ h=>h) rfl (fun K' hK=>?_);go_simp
   have HRR:=Lib.hid (NewReader_rep (code:=code) HLTC.out s1);refine (NewReader_any code s1).mono ?_;rintro e s2 ⟨rfl,hs2⟩;have HZ2:Hid (s2.heap.size=s1.heap.size+1):=by show _=_;rw [←hs2];exact World.size_alloc _ _
   have U2:Hid (Upd noBlk s1 s2):=by show Upd _ _ _;rw [←hs2];exact (Upd.refl _ s1).alloc _
   rw [hs2] at HRR;clear hs2;refine hK _ _ ⟨trivial,?_⟩;clear hK K'
   (apply wpT_sure rfl rfl;focus (intro w' hw';go_simp;rfl))
   refine wpT_nil ?_;have h4:=cellsF2 (U2.out.heap (U1.out.heap HOB2.out id) id);obtain ⟨_,⟨f0,f1⟩⟩:=h4;go_wp2_with fail
   refine NoPanic.normal ?_;go_wp2_with fail
   go_meet
   refine ⟨w1.heap.size,(sa.heap.size+2),s1.heap.size,rfl,set2 (U2.out.heap (U1.out.heap HOB2.out id) id),CR.make (wl:=s2) (ob:=w1.heap.size) (HS1.out.upd U2.out (fun _ _=>id)) HRR.out ?_ ?_ ?_ ((HUA.out.trans U1.out).trans U2.out) (((Upd.refl (fun k=>k=w1.heap.size) s2).setCell (p:=⟨w1.heap.size,0,none⟩) (fun _=>rfl) _).setCell (p:=⟨w1.heap.size,1,none⟩) (fun _=>rfl) _)⟩
   ·intro k h;have h1:=hk k h;have:=HZ2.out;have:=HZA.out;omega
   ·have:=HZ2.out;have:=HZA.out;omega
   ·have:=HZ2.out;have:=HZA.out;omega
 case rest=>
  obtain ⟨ob,b,br,rfl,ho,hc⟩:=hcut;have HO:=Lib.hid ho;have HC:=Lib.hid hc;have HEC:=Lib.hid (hc.keepObj HE.out id id);have HOC:=Lib.hid (ocluster_any hc);clear ho hc;obtain ⟨b0,b1⟩:=cells2 HO.out;go_wp2_with fail
  refine HOC.out.mono ?_;intro e w5 hp;rcases hm:manyM (D.ofCode code) with _ | l
  ·rw [hm] at hp;obtain ⟨rfl,hu⟩:=hp;have HTN:Hid (tgt=none):=by show _=_;rw [HT.out,hm]
   have HU5:=Lib.hid (hu.mono (G:=noBlk) (fun _ _ h=>h.elim id id));clear hu b0 b1 HOC hm;unfold panicW;go_wp2_with fail
   refine door_bad (HU5.out.heap HE.out id) (fun W hW hu=>?_);refine ⟨_,results_tmp_cell rfl _ rfl (load_err hW),?_⟩;rw [HTN.out];exact ⟨upd_newE (HU0.out.trans HU5.out) hu HEB.out,_,rfl⟩
  ·rw [hm] at hp;obtain ⟨v',rfl,hrd,hu⟩:=hp;have HTS:Hid (tgt=some l):=by show _=_;rw [HT.out,hm]
   have HU5:=Lib.hid (hu.mono (G:=noBlk) (fun _ _ h=>h.elim id id));have HRD:=Lib.hid hrd;have HE5:=Lib.hid (HU5.out.heap HE.out id);clear hu hrd b0 b1 HOC hm;obtain ⟨e0,f0⟩:=cellF1 HE5.out;go_wp2_with fail
   have HUS:=upd_same HE5.out;refine door_good ?_;refine ⟨_,results_tmp_cell rfl _ rfl (load_err (HUS.heap HE5.out id)),?_⟩;rw [HTS.out];exact ⟨(HU0.out.trans HU5.out).trans HUS,_,rfl,HRD.out.keep HUS⟩
end Go.Proofs.YtcikldoaidmnhaaGreatDoor
