/- Parts: Walks of the packets' program: a move is read. No condition. -/
import Derived.Test.YtcikldoaidmnhaaGreatDoorRSpoi1
import Derived.Test.YtcikldoaidmnhaaGreatDoorRSpoi2
import Derived.Test.YtcikldoaidmnhaaGreatDoorRSpoi3
import Derived.Test.YtcikldoaidmnhaaGreatDoorRSpoi4
import Derived.Test.YtcikldoaidmnhaaGreatDoorRSpoi5
import Derived.Test.YtcikldoaidmnhaaGreatDoorRSpoi6
import Derived.Test.YtcikldoaidmnhaaGreatDoorRSpoi7
import Derived.Test.YtcikldoaidmnhaaGreatDoorRSpoi18
import Derived.Test.YtcikldoaidmnhaaGreatDoorRSpoi20
import Derived.Test.YtcikldoaidmnhaaGreatDoorRSpoi25
import Derived.WalkKit
import Derived.WalkSpells
import Derived.WalkLawsBesides
import Derived.Lib.Hide
import Derived.BigQuiet
import Derived.Deep.DeepFit
import Derived.Deep.DeepCutAuto
import Derived.Deep.AppendLies
import Derived.Deep.QuietTactic
import Derived.Maps.OwnOps
import Derived.Maps.OwnSet
import Derived.Maps.RangeWalk
import Derived.WideKeyEntry
import Derived.Deep.MidRow
import Derived.Lib.Bits
import Derived.Test.YtcikldoaidmnhaaGreatDoorRows
import Derived.Deep.RegionHeld3
import Derived.StillTail
import Derived.Laws.EntriesVeiled
import Derived.Handy
import Derived.DeepKeys4
import Derived.ArgAppend
import Derived.Deep.Upon
import Derived.Deep.CutBlock
import Derived.Test.YtcikldoaidmnhaaGreatDoorShelf2
import Derived.Test.YtcikldoaidmnhaaGreatDoorShelf
import Derived.Laws.BitsAllLaws
import Derived.Lib.Zigzag
import Derived.Recover
import Derived.Laws.BytesArg
import Derived.Deep.WholeRow
import Derived.Laws.IdiomStrings
namespace Go.Proofs.YtcikldoaidmnhaaGreatDoor
open Go Go.RowKit Pk Pc
set_option maxRecDepth 100000
theorem cellsF6 {w:World} {b:Nat} {x0 x1 x2 x3 x4 x5:Value} {t:TypeId} (h:w.heap[b]?=some (.cells #[x0,x1,x2,x3,x4,x5] t (0,0))):(w.cell? ⟨b,0,none⟩=some x0∧w.cell? ⟨b,1,none⟩=some x1∧w.cell? ⟨b,2,none⟩=some x2∧w.cell? ⟨b,3,none⟩=some x3∧w.cell? ⟨b,4,none⟩=some x4∧w.cell? ⟨b,5,none⟩=some x5)∧(w.frozen? ⟨b,0,none⟩=false∧w.frozen? ⟨b,1,none⟩=false∧w.frozen? ⟨b,2,none⟩=false∧w.frozen? ⟨b,3,none⟩=false∧w.frozen? ⟨b,4,none⟩=false∧w.frozen? ⟨b,5,none⟩=false):=by simp [World.cell?,World.frozen?,h]
theorem listR_step {α:Type} (one:Bytes→Option (α × Bytes)) (k:Nat) (s:Bytes):listR one (k+1) s=match one s with
  | none=>none
  | some (x,r)=>match listR one k r with
   | none=>none
   | some (l,r2)=>some (x :: l,r2):=rfl
def mvOf (l:List Nat):Mv:=((((l.getD 0 0:Nat):Int),((l.getD 1 0:Nat):Int),((l.getD 2 0:Nat):Int)),(((l.getD 3 0:Nat):Int),((l.getD 4 0:Nat):Int),((l.getD 5 0:Nat):Int)))
set_option maxHeartbeats 2000000 in
theorem kMoveR_any (b:Nat) (s:Bytes) (w:World) (h:RdS w b s) :
  Calls Tryz.prog 135 #[.pointer (some ⟨b,0,none⟩)] w fun en w'=>readQ mvV (moveR s) b w en w':=by
 have HNR:=fun s W hW=>Lib.hid (kNum_any b s W hW);obtain ⟨tgt,htgt⟩:∃t,t=moveR s:=⟨_,rfl⟩;rw [←htgt];unfold moveR at htgt;have HT:=Lib.hid htgt;have HBB:Hid (b<w.heap.size):=lt_of_heap h;obtain ⟨w1,hw1⟩:∃w1,w1=(w.alloc (.cells #[.int .i64 0,.int .i64 0,.int .i64 0,.int .i64 0,.int .i64 0,.int .i64 0] 79)).alloc (.cells #[.int .i64 0,.int .i64 0,.int .i64 0,.int .i64 0,.int .i64 0,.int .i64 0] 142):=⟨_,rfl⟩;have HU0:Hid (Upd noBlk w w1):=by show Upd _ _ _;rw [hw1];exact ((Upd.refl _ w).alloc _).alloc _
 have HM:Hid (w1.heap[w.heap.size]?=some (.cells #[.int .i64 0,.int .i64 0,.int .i64 0,.int .i64 0,.int .i64 0,.int .i64 0] 79 (0,0))):=by show _=_;rw [hw1];exact ((Upd.refl noBlk _).alloc _).heap (heap_alloc_new w _) id
 have HA:Hid (w1.heap[w.heap.size+1]?=some (.cells #[.int .i64 0,.int .i64 0,.int .i64 0,.int .i64 0,.int .i64 0,.int .i64 0] 142 (0,0))):=by
  show _=_;rw [hw1];have:=heap_alloc_new (w.alloc (.cells #[.int .i64 0,.int .i64 0,.int .i64 0,.int .i64 0,.int .i64 0,.int .i64 0] 79)) (.cells #[.int .i64 0,.int .i64 0,.int .i64 0,.int .i64 0,.int .i64 0,.int .i64 0] 142);simp only [World.size_alloc] at this;exact this
 have HR:=Lib.hid (HU0.out.heap h id);obtain ⟨rb,hrb⟩:∃rb,rb=w.heap.size:=⟨_,rfl⟩;have HRBS:Hid (w.heap.size≤rb):=by show _≤_;omega
 rw [←hrb] at HM HA HBB;have HU:Hid (Upd (fun k=>k=b) w w1):=HU0.out.mono (fun _ _ h=>h.elim);clear htgt h HU0;go_enter Tryz.func135,Tryz.ntmps135
 go_upto_region 2 with fail
 rw [←hw1,←hrb];clear hw1 hrb;go_wp2_with fail
 refine wp_loop_rounds 7 ?_;rw [rounds_succ];have HC:=HNR s w1 HR.out;obtain ⟨_,⟨f0,f1,f2,f3,f4,f5⟩⟩:=cellsF6 HA.out;go_wp2_with fail
 refine HC.out.mono ?_;intro e v0 hp;have ht:=HT.out;rw [listR_step] at ht;rcases hm:readNum s with _ | ⟨m0,r0⟩
 ·rw [hm] at hp ht;obtain ⟨rfl,hu⟩:=hp;have HTN:Hid (tgt=none):=ht;have HU2:=Lib.hid (HU.out.trans hu);clear HC HT ht hm hu HM HA HR HU f0 f1 f2 f3 f4 f5 HNR;unfold panicW;go_wp2_with fail
  refine ⟨rfl,?_⟩;rw [HTN.out];exact ⟨rfl,HU2.out⟩
 rw [hm] at hp ht;obtain ⟨rfl,hr2,hu2⟩:=hp;have HT:=Lib.hid ht;have HM1:=Lib.hid (hu2.heap HM.out (by have:=HBB.out;omega));have HA1:=Lib.hid (hu2.heap HA.out (by have:=HBB.out;omega));have HU1:=Lib.hid (HU.out.trans hu2);have HR1:=Lib.hid hr2;clear f0 f1 f2 f3 f4 f5 HC ht hm hr2 hu2 HM HA HR HU;obtain ⟨_,⟨f0,f1,f2,f3,f4,f5⟩⟩:=cellsF6 HA1.out;obtain ⟨n0,hn0⟩:∃n,n=(m0:Int):=⟨_,rfl⟩;have HN0:=Lib.hid hn0;rw [←hn0];clear hn0;go_upto_region 6 with fail
 have HA:Hid ((v0.setCell ⟨rb+1,0,none⟩ (.int .i64 n0)).heap[rb+1]?=some (.cells #[.int .i64 n0,.int .i64 0,.int .i64 0,.int .i64 0,.int .i64 0,.int .i64 0] 142 (0,0))):=heap_setCell_eq (i:=0) (.int .i64 n0) HA1.out;have hset:=(Upd.refl (fun k=>k=rb+1) v0).setCell (p:=⟨rb+1,0,none⟩) (fun _=>rfl) (.int .i64 n0);have HM:Hid ((v0.setCell ⟨rb+1,0,none⟩ (.int .i64 n0)).heap[rb]?=some (.cells #[.int .i64 0,.int .i64 0,.int .i64 0,.int .i64 0,.int .i64 0,.int .i64 0] 79 (0,0))):=hset.heap HM1.out (by omega);have HR:Hid (RdS (v0.setCell ⟨rb+1,0,none⟩ (.int .i64 n0)) b r0):=hset.heap HR1.out (by have:=HBB.out;omega);have HU:=Lib.hid (HU1.out.then hset (fun i hi e=>by have e':i=rb+1:=e;have:=HRBS.out;omega));clear HA1 HM1 HR1 HU1 hset f0 f1 f2 f3 f4 f5;generalize v0.setCell ⟨rb+1,0,none⟩ (.int .i64 n0)=y1 at *;go_wp2_with fail
 rw [rounds_succ];have HC:=HNR r0 y1 HR.out;obtain ⟨_,⟨f0,f1,f2,f3,f4,f5⟩⟩:=cellsF6 HA.out;go_wp2_with fail
 refine HC.out.mono ?_;intro e v1 hp;have ht:=HT.out;rw [listR_step] at ht;rcases hm:readNum r0 with _ | ⟨m1,r1⟩
 ·rw [hm] at hp ht;obtain ⟨rfl,hu⟩:=hp;have HTN:Hid (tgt=none):=ht;have HU2:=Lib.hid (HU.out.trans hu);clear HC HT ht hm hu HM HA HR HU f0 f1 f2 f3 f4 f5 HNR;unfold panicW;go_wp2_with fail
  refine ⟨rfl,?_⟩;rw [HTN.out];exact ⟨rfl,HU2.out⟩
 rw [hm] at hp ht;obtain ⟨rfl,hr2,hu2⟩:=hp;have HT:=Lib.hid ht;have HM1:=Lib.hid (hu2.heap HM.out (by have:=HBB.out;omega));have HA1:=Lib.hid (hu2.heap HA.out (by have:=HBB.out;omega));have HU1:=Lib.hid (HU.out.trans hu2);have HR1:=Lib.hid hr2;clear f0 f1 f2 f3 f4 f5 HC ht hm hr2 hu2 HM HA HR HU;obtain ⟨_,⟨f0,f1,f2,f3,f4,f5⟩⟩:=cellsF6 HA1.out;obtain ⟨n1,hn1⟩:∃n,n=(m1:Int):=⟨_,rfl⟩;have HN1:=Lib.hid hn1;rw [←hn1];clear hn1;go_upto_region 6 with fail
 have HA:Hid ((v1.setCell ⟨rb+1,1,none⟩ (.int .i64 n1)).heap[rb+1]?=some (.cells #[.int .i64 n0,.int .i64 n1,.int .i64 0,.int .i64 0,.int .i64 0,.int .i64 0] 142 (0,0))):=heap_setCell_eq (i:=1) (.int .i64 n1) HA1.out;have hset:=(Upd.refl (fun k=>k=rb+1) v1).setCell (p:=⟨rb+1,1,none⟩) (fun _=>rfl) (.int .i64 n1);have HM:Hid ((v1.setCell ⟨rb+1,1,none⟩ (.int .i64 n1)).heap[rb]?=some (.cells #[.int .i64 0,.int .i64 0,.int .i64 0,.int .i64 0,.int .i64 0,.int .i64 0] 79 (0,0))):=hset.heap HM1.out (by omega);have HR:Hid (RdS (v1.setCell ⟨rb+1,1,none⟩ (.int .i64 n1)) b r1):=hset.heap HR1.out (by have:=HBB.out;omega);have HU:=Lib.hid (HU1.out.then hset (fun i hi e=>by have e':i=rb+1:=e;have:=HRBS.out;omega));clear HA1 HM1 HR1 HU1 hset f0 f1 f2 f3 f4 f5;generalize v1.setCell ⟨rb+1,1,none⟩ (.int .i64 n1)=y2 at *;go_wp2_with fail
 rw [rounds_succ];have HC:=HNR r1 y2 HR.out;obtain ⟨_,⟨f0,f1,f2,f3,f4,f5⟩⟩:=cellsF6 HA.out;go_wp2_with fail
 refine HC.out.mono ?_;intro e v2 hp;have ht:=HT.out;rw [listR_step] at ht;rcases hm:readNum r1 with _ | ⟨m2,r2⟩
 ·rw [hm] at hp ht;obtain ⟨rfl,hu⟩:=hp;have HTN:Hid (tgt=none):=ht;have HU2:=Lib.hid (HU.out.trans hu);clear HC HT ht hm hu HM HA HR HU f0 f1 f2 f3 f4 f5 HNR;unfold panicW;go_wp2_with fail
  refine ⟨rfl,?_⟩;rw [HTN.out];exact ⟨rfl,HU2.out⟩
 rw [hm] at hp ht;obtain ⟨rfl,hr2,hu2⟩:=hp;have HT:=Lib.hid ht;have HM1:=Lib.hid (hu2.heap HM.out (by have:=HBB.out;omega));have HA1:=Lib.hid (hu2.heap HA.out (by have:=HBB.out;omega));have HU1:=Lib.hid (HU.out.trans hu2);have HR1:=Lib.hid hr2;clear f0 f1 f2 f3 f4 f5 HC ht hm hr2 hu2 HM HA HR HU;obtain ⟨_,⟨f0,f1,f2,f3,f4,f5⟩⟩:=cellsF6 HA1.out;obtain ⟨n2,hn2⟩:∃n,n=(m2:Int):=⟨_,rfl⟩;have HN2:=Lib.hid hn2;rw [←hn2];clear hn2;go_upto_region 6 with fail
 have HA:Hid ((v2.setCell ⟨rb+1,2,none⟩ (.int .i64 n2)).heap[rb+1]?=some (.cells #[.int .i64 n0,.int .i64 n1,.int .i64 n2,.int .i64 0,.int .i64 0,.int .i64 0] 142 (0,0))):=heap_setCell_eq (i:=2) (.int .i64 n2) HA1.out;have hset:=(Upd.refl (fun k=>k=rb+1) v2).setCell (p:=⟨rb+1,2,none⟩) (fun _=>rfl) (.int .i64 n2);have HM:Hid ((v2.setCell ⟨rb+1,2,none⟩ (.int .i64 n2)).heap[rb]?=some (.cells #[.int .i64 0,.int .i64 0,.int .i64 0,.int .i64 0,.int .i64 0,.int .i64 0] 79 (0,0))):=hset.heap HM1.out (by omega);have HR:Hid (RdS (v2.setCell ⟨rb+1,2,none⟩ (.int .i64 n2)) b r2):=hset.heap HR1.out (by have:=HBB.out;omega);have HU:=Lib.hid (HU1.out.then hset (fun i hi e=>by have e':i=rb+1:=e;have:=HRBS.out;omega));clear HA1 HM1 HR1 HU1 hset f0 f1 f2 f3 f4 f5;generalize v2.setCell ⟨rb+1,2,none⟩ (.int .i64 n2)=y3 at *;go_wp2_with fail
 rw [rounds_succ];have HC:=HNR r2 y3 HR.out;obtain ⟨_,⟨f0,f1,f2,f3,f4,f5⟩⟩:=cellsF6 HA.out;go_wp2_with fail
 refine HC.out.mono ?_;intro e v3 hp;have ht:=HT.out;rw [listR_step] at ht;rcases hm:readNum r2 with _ | ⟨m3,r3⟩
 ·rw [hm] at hp ht;obtain ⟨rfl,hu⟩:=hp;have HTN:Hid (tgt=none):=ht;have HU2:=Lib.hid (HU.out.trans hu);clear HC HT ht hm hu HM HA HR HU f0 f1 f2 f3 f4 f5 HNR;unfold panicW;go_wp2_with fail
  refine ⟨rfl,?_⟩;rw [HTN.out];exact ⟨rfl,HU2.out⟩
 rw [hm] at hp ht;obtain ⟨rfl,hr2,hu2⟩:=hp;have HT:=Lib.hid ht;have HM1:=Lib.hid (hu2.heap HM.out (by have:=HBB.out;omega));have HA1:=Lib.hid (hu2.heap HA.out (by have:=HBB.out;omega));have HU1:=Lib.hid (HU.out.trans hu2);have HR1:=Lib.hid hr2;clear f0 f1 f2 f3 f4 f5 HC ht hm hr2 hu2 HM HA HR HU;obtain ⟨_,⟨f0,f1,f2,f3,f4,f5⟩⟩:=cellsF6 HA1.out;obtain ⟨n3,hn3⟩:∃n,n=(m3:Int):=⟨_,rfl⟩;have HN3:=Lib.hid hn3;rw [←hn3];clear hn3;go_upto_region 6 with fail
 have HA:Hid ((v3.setCell ⟨rb+1,3,none⟩ (.int .i64 n3)).heap[rb+1]?=some (.cells #[.int .i64 n0,.int .i64 n1,.int .i64 n2,.int .i64 n3,.int .i64 0,.int .i64 0] 142 (0,0))):=heap_setCell_eq (i:=3) (.int .i64 n3) HA1.out;have hset:=(Upd.refl (fun k=>k=rb+1) v3).setCell (p:=⟨rb+1,3,none⟩) (fun _=>rfl) (.int .i64 n3);have HM:Hid ((v3.setCell ⟨rb+1,3,none⟩ (.int .i64 n3)).heap[rb]?=some (.cells #[.int .i64 0,.int .i64 0,.int .i64 0,.int .i64 0,.int .i64 0,.int .i64 0] 79 (0,0))):=hset.heap HM1.out (by omega);have HR:Hid (RdS (v3.setCell ⟨rb+1,3,none⟩ (.int .i64 n3)) b r3):=hset.heap HR1.out (by have:=HBB.out;omega);have HU:=Lib.hid (HU1.out.then hset (fun i hi e=>by have e':i=rb+1:=e;have:=HRBS.out;omega));clear HA1 HM1 HR1 HU1 hset f0 f1 f2 f3 f4 f5;generalize v3.setCell ⟨rb+1,3,none⟩ (.int .i64 n3)=y4 at *;go_wp2_with fail
 rw [rounds_succ];have HC:=HNR r3 y4 HR.out;obtain ⟨_,⟨f0,f1,f2,f3,f4,f5⟩⟩:=cellsF6 HA.out;go_wp2_with fail
 refine HC.out.mono ?_;intro e v4 hp;have ht:=HT.out;rw [listR_step] at ht;rcases hm:readNum r3 with _ | ⟨m4,r4⟩
 ·rw [hm] at hp ht;obtain ⟨rfl,hu⟩:=hp;have HTN:Hid (tgt=none):=ht;have HU2:=Lib.hid (HU.out.trans hu);clear HC HT ht hm hu HM HA HR HU f0 f1 f2 f3 f4 f5 HNR;unfold panicW;go_wp2_with fail
  refine ⟨rfl,?_⟩;rw [HTN.out];exact ⟨rfl,HU2.out⟩
 rw [hm] at hp ht;obtain ⟨rfl,hr2,hu2⟩:=hp;have HT:=Lib.hid ht;have HM1:=Lib.hid (hu2.heap HM.out (by have:=HBB.out;omega));have HA1:=Lib.hid (hu2.heap HA.out (by have:=HBB.out;omega));have HU1:=Lib.hid (HU.out.trans hu2);have HR1:=Lib.hid hr2;clear f0 f1 f2 f3 f4 f5 HC ht hm hr2 hu2 HM HA HR HU;obtain ⟨_,⟨f0,f1,f2,f3,f4,f5⟩⟩:=cellsF6 HA1.out;obtain ⟨n4,hn4⟩:∃n,n=(m4:Int):=⟨_,rfl⟩;have HN4:=Lib.hid hn4;rw [←hn4];clear hn4;go_upto_region 6 with fail
 have HA:Hid ((v4.setCell ⟨rb+1,4,none⟩ (.int .i64 n4)).heap[rb+1]?=some (.cells #[.int .i64 n0,.int .i64 n1,.int .i64 n2,.int .i64 n3,.int .i64 n4,.int .i64 0] 142 (0,0))):=heap_setCell_eq (i:=4) (.int .i64 n4) HA1.out;have hset:=(Upd.refl (fun k=>k=rb+1) v4).setCell (p:=⟨rb+1,4,none⟩) (fun _=>rfl) (.int .i64 n4);have HM:Hid ((v4.setCell ⟨rb+1,4,none⟩ (.int .i64 n4)).heap[rb]?=some (.cells #[.int .i64 0,.int .i64 0,.int .i64 0,.int .i64 0,.int .i64 0,.int .i64 0] 79 (0,0))):=hset.heap HM1.out (by omega);have HR:Hid (RdS (v4.setCell ⟨rb+1,4,none⟩ (.int .i64 n4)) b r4):=hset.heap HR1.out (by have:=HBB.out;omega);have HU:=Lib.hid (HU1.out.then hset (fun i hi e=>by have e':i=rb+1:=e;have:=HRBS.out;omega));clear HA1 HM1 HR1 HU1 hset f0 f1 f2 f3 f4 f5;generalize v4.setCell ⟨rb+1,4,none⟩ (.int .i64 n4)=y5 at *;go_wp2_with fail
 rw [rounds_succ];have HC:=HNR r4 y5 HR.out;obtain ⟨_,⟨f0,f1,f2,f3,f4,f5⟩⟩:=cellsF6 HA.out;go_wp2_with fail
 refine HC.out.mono ?_;intro e v5 hp;have ht:=HT.out;rw [listR_step] at ht;rcases hm:readNum r4 with _ | ⟨m5,r5⟩
 ·rw [hm] at hp ht;obtain ⟨rfl,hu⟩:=hp;have HTN:Hid (tgt=none):=ht;have HU2:=Lib.hid (HU.out.trans hu);clear HC HT ht hm hu HM HA HR HU f0 f1 f2 f3 f4 f5 HNR;unfold panicW;go_wp2_with fail
  refine ⟨rfl,?_⟩;rw [HTN.out];exact ⟨rfl,HU2.out⟩
 rw [hm] at hp ht;obtain ⟨rfl,hr2,hu2⟩:=hp;have HT:=Lib.hid ht;have HM1:=Lib.hid (hu2.heap HM.out (by have:=HBB.out;omega));have HA1:=Lib.hid (hu2.heap HA.out (by have:=HBB.out;omega));have HU1:=Lib.hid (HU.out.trans hu2);have HR1:=Lib.hid hr2;clear f0 f1 f2 f3 f4 f5 HC ht hm hr2 hu2 HM HA HR HU;obtain ⟨_,⟨f0,f1,f2,f3,f4,f5⟩⟩:=cellsF6 HA1.out;obtain ⟨n5,hn5⟩:∃n,n=(m5:Int):=⟨_,rfl⟩;have HN5:=Lib.hid hn5;rw [←hn5];clear hn5;go_upto_region 6 with fail
 have HA:Hid ((v5.setCell ⟨rb+1,5,none⟩ (.int .i64 n5)).heap[rb+1]?=some (.cells #[.int .i64 n0,.int .i64 n1,.int .i64 n2,.int .i64 n3,.int .i64 n4,.int .i64 n5] 142 (0,0))):=heap_setCell_eq (i:=5) (.int .i64 n5) HA1.out;have hset:=(Upd.refl (fun k=>k=rb+1) v5).setCell (p:=⟨rb+1,5,none⟩) (fun _=>rfl) (.int .i64 n5);have HM:Hid ((v5.setCell ⟨rb+1,5,none⟩ (.int .i64 n5)).heap[rb]?=some (.cells #[.int .i64 0,.int .i64 0,.int .i64 0,.int .i64 0,.int .i64 0,.int .i64 0] 79 (0,0))):=hset.heap HM1.out (by omega);have HR:Hid (RdS (v5.setCell ⟨rb+1,5,none⟩ (.int .i64 n5)) b r5):=hset.heap HR1.out (by have:=HBB.out;omega);have HU:=Lib.hid (HU1.out.then hset (fun i hi e=>by have e':i=rb+1:=e;have:=HRBS.out;omega));clear HA1 HM1 HR1 HU1 hset f0 f1 f2 f3 f4 f5;generalize v5.setCell ⟨rb+1,5,none⟩ (.int .i64 n5)=y6 at *;go_wp2_with fail
 rw [rounds_succ];have HTS:Hid (tgt=some (mvOf [m0,m1,m2,m3,m4,m5],r5)):=HT.out;obtain ⟨⟨a0,a1,a2,a3,a4,a5⟩,_⟩:=cellsF6 HA.out;obtain ⟨_,⟨f0,f1,f2,f3,f4,f5⟩⟩:=cellsF6 HM.out;go_wp2_with fail
 have HX:=heap_setCell_eq (i:=5) (.int .i64 n5) (heap_setCell_eq (i:=4) (.int .i64 n4) (heap_setCell_eq (i:=3) (.int .i64 n3) (heap_setCell_eq (i:=2) (.int .i64 n2) (heap_setCell_eq (i:=1) (.int .i64 n1) (heap_setCell_eq (i:=0) (.int .i64 n0) HM.out)))));have hset:=((((((Upd.refl (fun k=>k=rb) y6).setCell (p:=⟨rb,0,none⟩) (fun _=>rfl) (.int .i64 n0)).setCell (p:=⟨rb,1,none⟩) (fun _=>rfl) (.int .i64 n1)).setCell (p:=⟨rb,2,none⟩) (fun _=>rfl) (.int .i64 n2)).setCell (p:=⟨rb,3,none⟩) (fun _=>rfl) (.int .i64 n3)).setCell (p:=⟨rb,4,none⟩) (fun _=>rfl) (.int .i64 n4)).setCell (p:=⟨rb,5,none⟩) (fun _=>rfl) (.int .i64 n5)
 (try simp only [Exit.inBlock,Exit.then])
 refine bodyPost_ret (results_cell_row rfl _ _ rb 79 _ (0,0) _ rfl HX Tryz.underlying79 rfl (by kernel_rfl)) rfl ?_;unfold readQ;rw [HTS.out];refine ⟨?_,hset.heap HR.out (by have:=HBB.out;omega),HU.out.then hset (fun i hi e=>by have e':i=rb:=e;have:=HRBS.out;omega)⟩;rw [HN0.out,HN1.out,HN2.out,HN3.out,HN4.out,HN5.out];rfl
end Go.Proofs.YtcikldoaidmnhaaGreatDoor
