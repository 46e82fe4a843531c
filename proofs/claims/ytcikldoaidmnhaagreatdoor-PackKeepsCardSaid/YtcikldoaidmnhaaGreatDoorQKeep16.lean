/- Parts: Walks of the packets' program: a move is read. No condition. Walks of the packets' program: lists of elements are read. No condition. -/
import Derived.Test.YtcikldoaidmnhaaGreatDoorQKeep15
namespace Go.Proofs.YtcikldoaidmnhaaGreatDoor
open Go Go.RowKit Pk Pc
set_option maxRecDepth 100000
theorem cellsF6 {w:World} {b:Nat} {x0 x1 x2 x3 x4 x5:Value} {t:TypeId} (h:w.heap[b]?=some (.cells #[x0,x1,x2,x3,x4,x5] t (0,0))):(w.cell? ⟨b,0,none⟩=some x0∧w.cell? ⟨b,1,none⟩=some x1∧w.cell? ⟨b,2,none⟩=some x2∧w.cell? ⟨b,3,none⟩=some x3∧w.cell? ⟨b,4,none⟩=some x4∧w.cell? ⟨b,5,none⟩=some x5)∧(w.frozen? ⟨b,0,none⟩=false∧w.frozen? ⟨b,1,none⟩=false∧w.frozen? ⟨b,2,none⟩=false∧w.frozen? ⟨b,3,none⟩=false∧w.frozen? ⟨b,4,none⟩=false∧w.frozen? ⟨b,5,none⟩=false):=by simp [World.cell?,World.frozen?,h]
theorem listR_step {α:Type} (one:Bytes→Option (α × Bytes)) (k:Nat) (s:Bytes):listR one (k+1) s=match one s with
  | none=>none
  | some (x,r)=>match listR one k r with
   | none=>none
   | some (l,r2)=>some (x :: l,r2):=rfl
def mvOf (l:List Nat):Mv:=((((l.getD 0 0:Nat):Int),((l.getD 1 0:Nat):Int),((l.getD 2 0:Nat):Int)),(((l.getD 3 0:Nat):Int),((l.getD 4 0:Nat):Int),((l.getD 5 0:Nat):Int)))
set_option maxHeartbeats 2000000 in
theorem kMoveR_any (b:Nat) (s:Bytes) (w:World) (h:RdS w b s) :
  Calls Tryz.prog 135 #[.pointer (some ⟨b,0,none⟩)] w fun en w'=>readQ mvV (moveR s) b w en w':=by
 have HNR:=fun s W hW=>Lib.hid (kNum_any b s W hW);obtain ⟨tgt,htgt⟩:∃t,t=moveR s:=⟨_,rfl⟩;rw [←htgt];unfold moveR at htgt;have HT:=Lib.hid htgt;have HBB:Hid (b<w.heap.size):=lt_of_heap h;obtain ⟨w1,hw1⟩:∃w1,w1=(w.alloc (.cells #[.int .i64 0,.int .i64 0,.int .i64 0,.int .i64 0,.int .i64 0,.int .i64 0] 79)).alloc (.cells #[.int .i64 0,.int .i64 0,.int .i64 0,.int .i64 0,.int .i64 0,.int .i64 0] 142):=⟨_,rfl⟩;have HU0:Hid (Upd noBlk w w1):=by show Upd _ _ _;rw [hw1];exact ((Upd.refl _ w).alloc _).alloc _
 have HM:Hid (w1.heap[w.heap.size]?=some (.cells #[.int .i64 0,.int .i64 0,.int .i64 0,.int .i64 0,.int .i64 0,.int .i64 0] 79 (0,0))):=by show _=_;rw [hw1];exact ((Upd.refl noBlk _).alloc _).heap (heap_alloc_new w _) id
 have HA:Hid (w1.heap[w.heap.size+1]?=some (.cells #[.int .i64 0,.int .i64 0,.int .i64 0,.int .i64 0,.int .i64 0,.int .i64 0] 142 (0,0))):=by
  show _=_;rw [hw1];have:=heap_alloc_new (w.alloc (.cells #[.int .i64 0,.int .i64 0,.int .i64 0,.int .i64 0,.int .i64 0,.int .i64 0] 79)) (.cells #[.int .i64 0,.int .i64 0,.int .i64 0,.int .i64 0,.int .i64 0,.int .i64 0] 142);simp only [World.size_alloc] at this;exact this
 have HR:=Lib.hid (HU0.out.heap h id);obtain ⟨rb,hrb⟩:∃rb,rb=w.heap.size:=⟨_,rfl⟩;have HRBS:Hid (w.heap.size≤rb):=by show _≤_;omega
 rw [←hrb] at HM HA HBB;have HU:Hid (Upd (fun k=>k=b) w w1):=HU0.out.mono (fun _ _ h=>h.elim);clear htgt h HU0;go_enter Tryz.func135,Tryz.ntmps135
 go_upto_region 2 with fail
 rw [←hw1,←hrb];clear hw1 hrb;go_wp2_with fail
 refine wp_loop_rounds 7 ?_;rw [rounds_succ];have HC:=HNR s w1 HR.out;obtain ⟨_,⟨f0,f1,f2,f3,f4,f5⟩⟩:=cellsF6 HA.out;go_wp2_with fail
 refine HC.out.mono ?_;intro e v0 hp;have ht:=HT.out;rw [listR_step] at ht;rcases hm:readNum s with _ | ⟨m0,r0⟩
 ·rw [hm] at hp ht;obtain ⟨rfl,hu⟩:=hp;have HTN:Hid (tgt=none):=ht;have HU2:=Lib.hid (HU.out.trans hu);clear HC HT ht hm hu HM HA HR HU f0 f1 f2 f3 f4 f5 HNR;unfold panicW;go_wp2_with fail
  refine ⟨rfl,?_⟩;rw [HTN.out];exact ⟨rfl,HU2.out⟩
 rw [hm] at hp ht;obtain ⟨rfl,hr2,hu2⟩:=hp;have HT:=Lib.hid ht;have HM1:=Lib.hid (hu2.heap HM.out (by have:=HBB.out;omega));have HA1:=Lib.hid (hu2.heap HA.out (by have:=HBB.out;omega));have HU1:=Lib.hid (HU.out.trans hu2);have HR1:=Lib.hid hr2;clear f0 f1 f2 f3 f4 f5 HC ht hm hr2 hu2 HM HA HR HU;obtain ⟨_,⟨f0,f1,f2,f3,f4,f5⟩⟩:=cellsF6 HA1.out;obtain ⟨n0,hn0⟩:∃n,n=(m0:Int):=⟨_,rfl⟩;have HN0:=Lib.hid hn0;rw [←hn0];clear hn0;go_upto_region 6 with fail
 have HA:Hid ((v0.setCell ⟨rb+1,0,none⟩ (.int .i64 n0)).heap[rb+1]?=some (.cells #[.int .i64 n0,.int .i64 0,.int .i64 0,.int .i64 0,.int .i64 0,.int .i64 0] 142 (0,0))):=heap_setCell_eq (i:=0) (.int .i64 n0) HA1.out;have hset:=(Upd.refl (fun k=>k=rb+1) v0).setCell (p:=⟨rb+1,0,none⟩) (fun _=>rfl) (.int .i64 n0);have HM:Hid ((v0.setCell ⟨rb+1,0,none⟩ (.int .i64 n0)).heap[rb]?=some (.cells #[.int .i64 0,.int .i64 0,.int .i64 0,.int .i64 0,.int .i64 0,.int .i64 0] 79 (0,0))):=hset.heap HM1.out (by omega);have HR:Hid (RdS (v0.setCell ⟨rb+1,0,none⟩ (.int .i64 n0)) b r0):=hset.heap HR1.out (by have:=HBB.out;omega);have HU:=Lib.hid (HU1.out.then hset (fun i hi e=>by have e':i=rb+1:=e;have:=HRBS.out;omega));clear HA1 HM1 HR1 HU1 hset f0 f1 f2 f3 f4 f5;generalize v0.setCell ⟨rb+1,0,none⟩ (.int .i64 n0)=y1 at *;go_wp2_with fail
 rw [rounds_succ];have HC:=HNR r0 y1 HR.out;obtain ⟨_,⟨f0,f1,f2,f3,f4,f5⟩⟩:=cellsF6 HA.out;go_wp2_with fail
 refine HC.out.mono ?_;intro e v1 hp;have ht:=HT.out;rw [listR_step] at ht;rcases hm:readNum r0 with _ | ⟨m1,r1⟩
 ·rw [hm] at hp ht;obtain ⟨rfl,hu⟩:=hp;have HTN:Hid (tgt=none):=ht;have HU2:=Lib.hid (HU.out.trans hu);clear HC HT ht hm hu HM HA HR HU f0 f1 f2 f3 f4 f5 HNR;unfold panicW;go_wp2_with fail
  refine ⟨rfl,?_⟩;rw [HTN.out];exact ⟨rfl,HU2.out⟩
 rw [hm] at hp ht;obtain ⟨rfl,hr2,hu2⟩:=hp;have HT:=Lib.hid ht;have HM1:=Lib.hid (hu2.heap HM.out (by have:=HBB.out;omega));have HA1:=Lib.hid (hu2.heap HA.out (by have:=HBB.out;omega));have HU1:=Lib.hid (HU.out.trans hu2);have HR1:=Lib.hid hr2;clear f0 f1 f2 f3 f4 f5 HC ht hm hr2 hu2 HM HA HR HU;obtain ⟨_,⟨f0,f1,f2,f3,f4,f5⟩⟩:=cellsF6 HA1.out;obtain ⟨n1,hn1⟩:∃n,n=(m1:Int):=⟨_,rfl⟩;have HN1:=Lib.hid hn1;rw [←hn1];clear hn1;go_upto_region 6 with fail
 have HA:Hid ((v1.setCell ⟨rb+1,1,none⟩ (.int .i64 n1)).heap[rb+1]?=some (.cells #[.int .i64 n0,.int .i64 n1,.int .i64 0,.int .i64 0,.int .i64 0,.int .i64 0] 142 (0,0))):=heap_setCell_eq (i:=1) (.int .i64 n1) HA1.out;have hset:=(Upd.refl (fun k=>k=rb+1) v1).setCell (p:=⟨rb+1,1,none⟩) (fun _=>rfl) (.int .i64 n1);have HM:Hid ((v1.setCell ⟨rb+1,1,none⟩ (.int .i64 n1)).heap[rb]?=some (.cells #[.int .i64 0,.int .i64 0,.int .i64 0,.int .i64 0,.int .i64 0,.int .i64 0] 79 (0,0))):=hset.heap HM1.out (by omega);have HR:Hid (RdS (v1.setCell ⟨rb+1,1,none⟩ (.int .i64 n1)) b r1):=hset.heap HR1.out (by have:=HBB.out;omega);have HU:=Lib.hid (HU1.out.then hset (fun i hi e=>by have e':i=rb+1:=e;have:=HRBS.out;omega));clear HA1 HM1 HR1 HU1 hset f0 f1 f2 f3 f4 f5;generalize v1.setCell ⟨rb+1,1,none⟩ (.int .i64 n1)=y2 at *;go_wp2_with fail
 rw [rounds_succ];have HC:=HNR r1 y2 HR.out;obtain ⟨_,⟨f0,f1,f2,f3,f4,f5⟩⟩:=cellsF6 HA.out;go_wp2_with fail
 refine HC.out.mono ?_;intro e v2 hp;have ht:=HT.out;rw [listR_step] at ht;rcases hm:readNum r1 with _ | ⟨m2,r2⟩
 ·rw [hm] at hp ht;obtain ⟨rfl,hu⟩:=hp;have HTN:Hid (tgt=none):=ht;have HU2:=Lib.hid (HU.out.trans hu);clear HC HT ht hm hu HM HA HR HU f0 f1 f2 f3 f4 f5 HNR;unfold panicW;go_wp2_with fail
  refine ⟨rfl,?_⟩;rw [HTN.out];exact ⟨rfl,HU2.out⟩
 rw [hm] at hp ht;obtain ⟨rfl,hr2,hu2⟩:=hp;have HT:=Lib.hid ht;have HM1:=Lib.hid (hu2.heap HM.out (by have:=HBB.out;omega));have HA1:=Lib.hid (hu2.heap HA.out (by have:=HBB.out;omega));have HU1:=Lib.hid (HU.out.trans hu2);have HR1:=Lib.hid hr2;clear f0 f1 f2 f3 f4 f5 HC ht hm hr2 hu2 HM HA HR HU;obtain ⟨_,⟨f0,f1,f2,f3,f4,f5⟩⟩:=cellsF6 HA1.out;obtain ⟨n2,hn2⟩:∃n,n=(m2:Int):=⟨_,rfl⟩;have HN2:=Lib.hid hn2;rw [←hn2];clear hn2;go_upto_region 6 with fail
 have HA:Hid ((v2.setCell ⟨rb+1,2,none⟩ (.int .i64 n2)).heap[rb+1]?=some (.cells #[.int .i64 n0,.int .i64 n1,.int .i64 n2,.int .i64 0,.int .i64 0,.int .i64 0] 142 (0,0))):=heap_setCell_eq (i:=2) (.int .i64 n2) HA1.out;have hset:=(Upd.refl (fun k=>k=rb+1) v2).setCell (p:=⟨rb+1,2,none⟩) (fun _=>rfl) (.int .i64 n2);have HM:Hid ((v2.setCell ⟨rb+1,2,none⟩ (.int .i64 n2)).heap[rb]?=some (.cells #[.int .i64 0,.int .i64 0,.int .i64 0,.int .i64 0,.int .i64 0,.int .i64 0] 79 (0,0))):=hset.heap HM1.out (by omega);have HR:Hid (RdS (v2.setCell ⟨rb+1,2,none⟩ (.int .i64 n2)) b r2):=hset.heap HR1.out (by have:=HBB.out;omega);have HU:=Lib.hid (HU1.out.then hset (fun i hi e=>by have e':i=rb+1:=e;have:=HRBS.out;omega));clear HA1 HM1 HR1 HU1 hset f0 f1 f2 f3 f4 f5;generalize v2.setCell ⟨rb+1,2,none⟩ (.int .i64 n2)=y3 at *;go_wp2_with fail
 rw [rounds_succ];have HC:=HNR r2 y3 HR.out;obtain ⟨_,⟨f0,f1,f2,f3,f4,f5⟩⟩:=cellsF6 HA.out;go_wp2_with fail
 refine HC.out.mono ?_;intro e v3 hp;have ht:=HT.out;rw [listR_step] at ht;rcases hm:readNum r2 with _ | ⟨m3,r3⟩
 ·rw [hm] at hp ht;obtain ⟨rfl,hu⟩:=hp;have HTN:Hid (tgt=none):=ht;have HU2:=Lib.hid (HU.out.trans hu);clear HC HT ht hm hu HM HA HR HU f0 f1 f2 f3 f4 f5 HNR;unfold panicW;go_wp2_with fail
  refine ⟨rfl,?_⟩;rw [HTN.out];exact ⟨rfl,HU2.out⟩
 rw [hm] at hp ht;obtain ⟨rfl,hr2,hu2⟩:=hp;have HT:=Lib.hid ht;have HM1:=Lib.hid (hu2.heap HM.out (by have:=HBB.out;omega));have HA1:=Lib.hid (hu2.heap HA.out (by have:=HBB.out;omega));have HU1:=Lib.hid (HU.out.trans hu2);have HR1:=Lib.hid hr2;clear f0 f1 f2 f3 f4 f5 HC ht hm hr2 hu2 HM HA HR HU;obtain ⟨_,⟨f0,f1,f2,f3,f4,f5⟩⟩:=cellsF6 HA1.out;obtain ⟨n3,hn3⟩:∃n,n=(m3:Int):=⟨_,rfl⟩;have HN3:=Lib.hid hn3;rw [←hn3];clear hn3;go_upto_region 6 with fail
 have HA:Hid ((v3.setCell ⟨rb+1,3,none⟩ (.int .i64 n3)).heap[rb+1]?=some (.cells #[.int .i64 n0,.int .i64 n1,.int .i64 n2,.int .i64 n3,.int .i64 0,.int .i64 0] 142 (0,0))):=heap_setCell_eq (i:=3) (.int .i64 n3) HA1.out;have hset:=(Upd.refl (fun k=>k=rb+1) v3).setCell (p:=⟨rb+1,3,none⟩) (fun _=>rfl) (.int .i64 n3);have HM:Hid ((v3.setCell ⟨rb+1,3,none⟩ (.int .i64 n3)).heap[rb]?=some (.cells #[.int .i64 0,.int .i64 0,.int .i64 0,.int .i64 0,.int .i64 0,.int .i64 0] 79 (0,0))):=hset.heap HM1.out (by omega);have HR:Hid (RdS (v3.setCell ⟨rb+1,3,none⟩ (.int .i64 n3)) b r3):=hset.heap HR1.out (by have:=HBB.out;omega);have HU:=Lib.hid (HU1.out.then hset (fun i hi e=>by have e':i=rb+1:=e;have:=HRBS.out;omega));clear HA1 HM1 HR1 HU1 hset f0 f1 f2 f3 f4 f5;generalize v3.setCell ⟨rb+1,3,none⟩ (.int .i64 n3)=y4 at *;go_wp2_with fail
 rw [rounds_succ];have HC:=HNR r3 y4 HR.out;obtain ⟨_,⟨f0,f1,f2,f3,f4,f5⟩⟩:=cellsF6 HA.out;go_wp2_with fail
 refine HC.out.mono ?_;intro e v4 hp;have ht:=HT.out;rw [listR_step] at ht;rcases hm:readNum r3 with _ | ⟨m4,r4⟩
 ·rw [hm] at hp ht;obtain ⟨rfl,hu⟩:=hp;have HTN:Hid (tgt=none):=ht;have HU2:=Lib.hid (HU.out.trans hu);clear HC HT ht hm hu HM HA HR HU f0 f1 f2 f3 f4 f5 HNR;unfold panicW;go_wp2_with fail
  refine ⟨rfl,?_⟩;rw [HTN.out];exact ⟨rfl,HU2.out⟩
 rw [hm] at hp ht;obtain ⟨rfl,hr2,hu2⟩:=hp;have HT:=Lib.hid ht;have HM1:=Lib.hid (hu2.heap HM.out (by have:=HBB.out;omega));have HA1:=Lib.hid (hu2.heap HA.out (by have:=HBB.out;omega));have HU1:=Lib.hid (HU.out.trans hu2);have HR1:=Lib.hid hr2;clear f0 f1 f2 f3 f4 f5 HC ht hm hr2 hu2 HM HA HR HU;obtain ⟨_,⟨f0,f1,f2,f3,f4,f5⟩⟩:=cellsF6 HA1.out;obtain ⟨n4,hn4⟩:∃n,n=(m4:Int):=⟨_,rfl⟩;have HN4:=Lib.hid hn4;rw [←hn4];clear hn4;go_upto_region 6 with fail
 have HA:Hid ((v4.setCell ⟨rb+1,4,none⟩ (.int .i64 n4)).heap[rb+1]?=some (.cells #[.int .i64 n0,.int .i64 n1,.int .i64 n2,.int .i64 n3,.int .i64 n4,.int .i64 0] 142 (0,0))):=heap_setCell_eq (i:=4) (.int .i64 n4) HA1.out;have hset:=(Upd.refl (fun k=>k=rb+1) v4).setCell (p:=⟨rb+1,4,none⟩) (fun _=>rfl) (.int .i64 n4);have HM:Hid ((v4.setCell ⟨rb+1,4,none⟩ (.int .i64 n4)).heap[rb]?=some (.cells #[.int .i64 0,.int .i64 0,.int .i64 0,.int .i64 0,.int .i64 0,.int .i64 0] 79 (0,0))):=hset.heap HM1.out (by omega);have HR:Hid (RdS (v4.setCell ⟨rb+1,4,none⟩ (.int .i64 n4)) b r4):=hset.heap HR1.out (by have:=HBB.out;omega);have HU:=Lib.hid (HU1.out.then hset (fun i hi e=>by have e':i=rb+1:=e;have:=HRBS.out;omega));clear HA1 HM1 HR1 HU1 hset f0 f1 f2 f3 f4 f5;generalize v4.setCell ⟨rb+1,4,none⟩ (.int .i64 n4)=y5 at *;go_wp2_with fail
 rw [rounds_succ];have HC:=HNR r4 y5 HR.out;obtain ⟨_,⟨f0,f1,f2,f3,f4,f5⟩⟩:=cellsF6 HA.out;go_wp2_with fail
 refine HC.out.mono ?_;intro e v5 hp;have ht:=HT.out;rw [listR_step] at ht;rcases hm:readNum r4 with _ | ⟨m5,r5⟩
 ·rw [hm] at hp ht;obtain ⟨rfl,hu⟩:=hp;have HTN:Hid (tgt=none):=ht;have HU2:=Lib.hid (HU.out.trans hu);clear HC HT ht hm hu HM HA HR HU f0 f1 f2 f3 f4 f5 HNR;unfold panicW;go_wp2_with fail
  refine ⟨rfl,?_⟩;rw [HTN.out];exact ⟨rfl,HU2.out⟩
 rw [hm] at hp ht;obtain ⟨rfl,hr2,hu2⟩:=hp;have HT:=Lib.hid ht;have HM1:=Lib.hid (hu2.heap HM.out (by have:=HBB.out;omega));have HA1:=Lib.hid (hu2.heap HA.out (by have:=HBB.out;omega));have HU1:=Lib.hid (HU.out.trans hu2);have HR1:=Lib.hid hr2;clear f0 f1 f2 f3 f4 f5 HC ht hm hr2 hu2 HM HA HR HU;obtain ⟨_,⟨f0,f1,f2,f3,f4,f5⟩⟩:=cellsF6 HA1.out;obtain ⟨n5,hn5⟩:∃n,n=(m5:Int):=⟨_,rfl⟩;have HN5:=Lib.hid hn5;rw [←hn5];clear hn5;go_upto_region 6 with fail
 have HA:Hid ((v5.setCell ⟨rb+1,5,none⟩ (.int .i64 n5)).heap[rb+1]?=some (.cells #[.int .i64 n0,.int .i64 n1,.int .i64 n2,.int .i64 n3,.int .i64 n4,.int .i64 n5] 142 (0,0))):=heap_setCell_eq (i:=5) (.int .i64 n5) HA1.out;have hset:=(Upd.refl (fun k=>k=rb+1) v5).setCell (p:=⟨rb+1,5,none⟩) (fun _=>rfl) (.int .i64 n5);have HM:Hid ((v5.setCell ⟨rb+1,5,none⟩ (.int .i64 n5)).heap[rb]?=some (.cells #[.int .i64 0,.int .i64 0,.int .i64 0,.int .i64 0,.int .i64 0,.int .i64 0] 79 (0,0))):=hset.heap HM1.out (by omega);have HR:Hid (RdS (v5.setCell ⟨rb+1,5,none⟩ (.int .i64 n5)) b r5):=hset.heap HR1.out (by have:=HBB.out;omega);have HU:=Lib.hid (HU1.out.then hset (fun i hi e=>by have e':i=rb+1:=e;have:=HRBS.out;omega));clear HA1 HM1 HR1 HU1 hset f0 f1 f2 f3 f4 f5;generalize v5.setCell ⟨rb+1,5,none⟩ (.int .i64 n5)=y6 at *;go_wp2_with fail
 rw [rounds_succ];have HTS:Hid (tgt=some (mvOf [m0,m1,m2,m3,m4,m5],r5)):=HT.out;obtain ⟨⟨a0,a1,a2,a3,a4,a5⟩,_⟩:=cellsF6 HA.out;obtain ⟨_,⟨f0,f1,f2,f3,f4,f5⟩⟩:=cellsF6 HM.out;go_wp2_with fail
 have HX:=heap_setCell_eq (i:=5) (.int .i64 n5) (heap_setCell_eq (i:=4) (.int .i64 n4) (heap_setCell_eq (i:=3) (.int .i64 n3) (heap_setCell_eq (i:=2) (.int .i64 n2) (heap_setCell_eq (i:=1) (.int .i64 n1) (heap_setCell_eq (i:=0) (.int .i64 n0) HM.out)))));have hset:=((((((Upd.refl (fun k=>k=rb) y6).setCell (p:=⟨rb,0,none⟩) (fun _=>rfl) (.int .i64 n0)).setCell (p:=⟨rb,1,none⟩) (fun _=>rfl) (.int .i64 n1)).setCell (p:=⟨rb,2,none⟩) (fun _=>rfl) (.int .i64 n2)).setCell (p:=⟨rb,3,none⟩) (fun _=>rfl) (.int .i64 n3)).setCell (p:=⟨rb,4,none⟩) (fun _=>rfl) (.int .i64 n4)).setCell (p:=⟨rb,5,none⟩) (fun _=>rfl) (.int .i64 n5)
 (try simp only [Exit.inBlock,Exit.then])
 refine bodyPost_ret (results_cell_row rfl _ _ rb 79 _ (0,0) _ rfl HX Tryz.underlying79 rfl (by kernel_rfl)) rfl ?_;unfold readQ;rw [HTS.out];refine ⟨?_,hset.heap HR.out (by have:=HBB.out;omega),HU.out.then hset (fun i hi e=>by have e':i=rb:=e;have:=HRBS.out;omega)⟩;rw [HN0.out,HN1.out,HN2.out,HN3.out,HN4.out,HN5.out];rfl
end Go.Proofs.YtcikldoaidmnhaaGreatDoor
namespace Go.Proofs.YtcikldoaidmnhaaGreatDoor
open Go Go.RowKit Pk Pc
set_option maxRecDepth 100000
theorem run_build1 {P:Program} {S T:TypeId} {k:Nat} {Z:Array Value} {W:World} (hu:P.underlying S=some (.slice T)) (hs:(sizeOf T).run P W=.ok k W) (hz:(zeroValue T).run P W=.ok (.agg Z) W) (hk:0<k) (hk2:k≤1000) (c:List Value) (hc:c.length=k) :
  (Instr.buildSlice S 1 #[(0,.agg c.toArray)]).run P W=.ok (.slice (some ⟨W.heap.size,0,none⟩) 1 1) (W.alloc (.cells c.toArray T)):=by
 have hf:=fold_set0 c ((Array.range (1*k)).map (fun x=>Z[x % Z.size]!)) (by simp;omega);have hd:((Array.range (1*k)).map (fun x=>Z[x % Z.size]!)).toList.drop c.length=[]:=List.drop_of_length_le (by simp;omega);rw [hd,List.append_nil] at hf;have hsz:((Array.range (1*k)).map (fun x=>Z[x % Z.size]!)).size=k:=by simp
 generalize hq:(Array.range (1*k)).map (fun x=>Z[x % Z.size]!)=Q at *;have hk3:¬k=0:=by omega
 have hk4:¬16777216<k:=by omega
 simp [Instr.buildSlice,run_underlying hu,hs,hz,go_sem,Instr.fill,Value.cells,hk3,hk4];have hcond:¬(¬c.length=k∨k<c.length):=by omega
 rw [Nat.one_mul] at hq;rw [hq,if_neg hcond,hf];rfl
theorem exec_build1 {P:Program} {S T:TypeId} {k:Nat} {Z:Array Value} (W:World) {ev:Operand→Value} {o:Oper} (x:Operand) (c:List Value) (hu:P.underlying S=some (.slice T)) (hs:(sizeOf T).run P W=.ok k W) (hz:(zeroValue T).run P W=.ok (.agg Z) W) (hk:0<k) (hk2:k≤1000) (hc:c.length=k) (ho:o.op=.buildSlice S 1 #[(0,x)]) (hx:ev x=.agg c.toArray) :
  (execOp ev o).run P W=.ok (.value (.slice (some ⟨W.heap.size,0,none⟩) 1 1)) (W.alloc (.cells c.toArray T)):=by
 have h:=run_build1 hu hs hz hk hk2 c hc;unfold execOp;rw [ho];simp only [List.map_toArray,List.map_cons,List.map_nil,hx];rw [Sem.run_bind,h];rfl
def listGo {α:Type} (one:Bytes→Option (α × Bytes)) (k:Nat) (acc:List α) (s:Bytes):Option (List α × Bytes):=match listR one k s with
 | none=>none
 | some (l,r)=>some (acc++l,r)
theorem listGo_zero {α:Type} (one:Bytes→Option (α × Bytes)) (acc:List α) (s:Bytes):listGo one 0 acc s=some (acc,s):=by unfold listGo;rw [show listR one 0 s=some ([],s) from rfl];simp
theorem listGo_nil {α:Type} (one:Bytes→Option (α × Bytes)) (k:Nat) (s:Bytes):listGo one k [] s=listR one k s:=by
 unfold listGo;rcases listR one k s with _ | ⟨l,r⟩
 ·rfl
 ·rfl
theorem listGo_succ {α:Type} (one:Bytes→Option (α × Bytes)) (k:Nat) (acc:List α) (s:Bytes):listGo one (k+1) acc s=match one s with
  | none=>none
  | some (x,r)=>listGo one k (acc++[x]) r:=by
 unfold listGo;rw [listR_step];rcases one s with _ | ⟨x,r⟩
 ·rfl
 ·simp only;rcases listR one k r with _ | ⟨l,r2⟩
  ·rfl
  ·simp
def listQ {α β:Type} (K:Kd Tryz.prog β) (conv:α→β) (o:Option (List α × Bytes)) (b:Nat) (w:World) (en:Ending) (w':World):Prop:=
 orFail o (fun a en w'=>∃v,en=.returned v∧K.Own w.heap.size w' v (a.1.map conv)∧RdS w' b a.2∧Upd (fun k=>k=b) w w') (Upd (fun k=>k=b) w) en w'
set_option maxHeartbeats 2000000 in
theorem listPart_any (b:Nat) (s:Bytes) (w:World) (h:RdS w b s) :
  Calls Tryz.prog 124 #[.pointer (some ⟨b,0,none⟩),.func (.func 125) #[.pointer (some ⟨b,0,none⟩)] #[]] w fun en w'=>listQ kPart (fun p:Part=>(h32 p.1,h32 p.2)) (manyR partR s) b w en w':=by
 have HNR:=Lib.hid (kNum_any b s w h);have HONE:=fun s W hW=>Lib.hid (kPartR_any b s W hW);have HF:=fun W=>Lib.hid (fail_any W);have HBB:Hid (b<w.heap.size):=lt_of_heap h;obtain ⟨tgt,htgt⟩:∃t,t=manyR partR s:=⟨_,rfl⟩;rw [←htgt];have HT:=Lib.hid htgt;clear htgt h;go_enter Tryz.func124,Tryz.ntmps124
 go_wp2_with fail
 refine HNR.out.mono ?_;intro e w1 hp;rcases hm:readNum s with _ | ⟨n,r⟩
 ·rw [hm] at hp;obtain ⟨rfl,hu⟩:=hp;have HTN:Hid (tgt=none):=by show _=_;rw [HT.out];unfold manyR;rw [hm]
  have HU:=Lib.hid hu;clear HT HNR hm hu HONE;unfold panicW;go_wp2_with fail
  refine ⟨rfl,?_⟩;rw [HTN.out];exact ⟨rfl,HU.out⟩
 rw [hm] at hp;obtain ⟨rfl,hr,hu⟩:=hp;have HTM:Hid (tgt=if 65536<n then none else listR partR n r):=by show _=_;rw [HT.out];unfold manyR;rw [hm]
 have HR:=Lib.hid hr;have HU:=Lib.hid hu;clear HT HNR hm hr hu;by_cases hn:65536<n
 ·have HTN:Hid (tgt=none):=by show _=_;rw [HTM.out];exact if_pos hn
  have hn':(65536:Int)<(n:Int):=by omega
  clear HTM HONE;go_wp2_with fail
  refine (HF _).out.mono ?_;rintro e w3 ⟨rfl,rfl⟩;unfold panicW;go_wp2_with fail
  refine ⟨rfl,?_⟩;rw [HTN.out];exact ⟨rfl,HU.out⟩
 have HT2:Hid (listGo partR n [] r=tgt):=by show _=_;rw [HTM.out,if_neg hn];exact listGo_nil _ _ _
 have hn':¬(65536:Int)<(n:Int):=by omega
 have HNL:Hid (n≤65536):=by show _≤_;omega
 clear HTM hn HF;go_wp2_with fail
 clear hn';go_loopw [6,13] (fun sv i wr=>∃(k:Nat) (acc:List Part) (s':Bytes),i=.int .i64 k∧k≤n∧acc.length=k∧kPart.Own w.heap.size wr sv (acc.map (fun p:Part=>(h32 p.1,h32 p.2)))∧RdS wr b s'∧listGo partR (n-k) acc s'=tgt∧Upd (fun k=>k=b) w wr) (fun _ i _=>n-(intOf i).toNat)
 case atStart=>exact ⟨0,[],r,rfl,Nat.zero_le _,rfl,Kd.Own.nil _ _ _,HR.out,HT2.out,HU.out⟩
 case round=>
  obtain ⟨k,acc,s',rfl,hk,ha,ho,hr,ht,hu⟩:=hrel;have HO:=Lib.hid ho;have HR2:=Lib.hid hr;have HT3:=Lib.hid ht;have HU2:=Lib.hid hu;have HAL:Hid (acc.length=k):=ha;clear ho hr ht hu ha HR HT2 HU;by_cases hlt:k<n
  ·have hlt':(k:Int)<(n:Int):=by omega
   have HK:Hid (k<n):=hlt;have H1:=HONE s' wr HR2.out;obtain ⟨j,hj⟩:∃j,n-k=j+1:=⟨n-k-1,by omega⟩;have ht:=HT3.out;rw [hj,listGo_succ] at ht;have HJ:Hid (n-k=j+1):=hj;clear hlt hj HT3;go_wp2_with fail
   refine H1.out.mono ?_;intro e w2 hp;unfold readQ at hp;rcases hm:partR s' with _ | ⟨x,r2⟩
   ·rw [hm] at hp ht;obtain ⟨rfl,hu⟩:=hp;have HTN:Hid (tgt=none):=ht.symm;have HU3:=Lib.hid (HU2.out.trans hu);clear ht hm hu H1 HONE HO;unfold panicW;go_wp2_with fail
    refine ⟨rfl,?_⟩;rw [HTN.out];exact ⟨rfl,HU3.out⟩
   rw [hm] at hp ht;obtain ⟨rfl,hr2,hu2⟩:=hp;simp only at ht;have HT4:=Lib.hid ht;have HR3:=Lib.hid hr2;have HU3:=Lib.hid (HU2.out.trans hu2);have hown:=HO.out.other hu2 (fun g hg e=>by have h1:=(HO.out.blk hg).1;have:=HBB.out;have e':g=b:=e;omega);obtain ⟨g,cap2,w4,hrun,ho4,hu4,_⟩:=hown.app1 (Nat.le_trans HU3.out.size (Nat.le_refl _)) (h32 x.1,h32 x.2) (by rw [List.length_map];have:=HAL.out;have:=HNL.out;have:=HK.out;omega);rw [List.length_map,HAL.out] at hrun ho4;have hrun2:(Builtin.append_ #[47,47] 47 #[u6,.slice (some ⟨w2.heap.size,0,none⟩) 1 1]).run Tryz.prog (w2.alloc (.cells (partC (h32 x.1,h32 x.2)).toArray 83))=.ok (.slice (some ⟨g,0,none⟩) (k+1) cap2) w4:=hrun;have HRUN:=Lib.hid hrun2;have HO4:=Lib.hid ho4;have HR4:Hid (RdS w4 b r2):=hu4.heap hr2 (fun e=>by have h1:=(HO.out.blk e).1;have:=HBB.out;omega);have HU4:=Lib.hid (HU3.out.then hu4 (fun i hi e=>by have h1:=(HO.out.blk e).1;omega));have HSZ:Hid ((sizeOf 83).run Tryz.prog w2=.ok 64 w2):=by show _=_;kernel_rfl
   have HZ:Hid ((zeroValue 83).run Tryz.prog w2=.ok (.agg (Array.replicate 64 (.int .u8 0))) w2):=by show _=_;kernel_rfl
   have HLN:Hid ((partC (h32 x.1,h32 x.2)).length=64):=partC_len _;clear hr2 hu2 hown hrun hrun2 ho4 hu4 ht hm H1 HONE HO;unfold partV;go_wp2_with (first | (refine wpList_val rfl (.slice (some ⟨w2.heap.size,0,none⟩) 1 1) (w2.alloc (.cells (partC (h32 x.1,h32 x.2)).toArray 83)) (exec_build1 w2 _ (partC (h32 x.1,h32 x.2)) Tryz.underlying47 HSZ.out HZ.out (by decide) (by decide) HLN.out rfl rfl) ?_) | (at_builtin;refine wpList_append_run rfl _ _ _ rfl rfl rfl HRUN.out ?_))
   refine ⟨⟨k+1,acc++[x],r2,by push_cast;rfl,by have:=HK.out;omega,by rw [List.length_append,HAL.out];rfl,?_,HR4.out,?_,HU4.out⟩,?_⟩
   ·rw [List.map_append];exact HO4.out
   ·have e:n-(k+1)=j:=by have:=HJ.out;omega
    rw [e];exact HT4.out
   ·simp only [intOf];have:=HK.out;omega
  ·obtain rfl:k=n:=by omega
   have ht:=HT3.out;rw [Nat.sub_self,listGo_zero] at ht;have HTS:=Lib.hid ht;clear ht HT3;go_wp2_with fail
   go_ret
   rw [←HTS.out];exact ⟨_,rfl,HO.out,HR2.out,HU2.out⟩
set_option maxHeartbeats 2000000 in
theorem listHash_any (b:Nat) (s:Bytes) (w:World) (h:RdS w b s) :
  Calls Tryz.prog 132 #[.pointer (some ⟨b,0,none⟩),.func (.func 133) #[.pointer (some ⟨b,0,none⟩)] #[]] w fun en w'=>listQ kHash h32 (manyR (takeR 32) s) b w en w':=by
 have HNR:=Lib.hid (kNum_any b s w h);have HONE:=fun s W hW=>Lib.hid (kHashR_any b s W hW);have HF:=fun W=>Lib.hid (fail_any W);have HBB:Hid (b<w.heap.size):=lt_of_heap h;obtain ⟨tgt,htgt⟩:∃t,t=manyR (takeR 32) s:=⟨_,rfl⟩;rw [←htgt];have HT:=Lib.hid htgt;clear htgt h;go_enter Tryz.func132,Tryz.ntmps132
 go_wp2_with fail
 refine HNR.out.mono ?_;intro e w1 hp;rcases hm:readNum s with _ | ⟨n,r⟩
 ·rw [hm] at hp;obtain ⟨rfl,hu⟩:=hp;have HTN:Hid (tgt=none):=by show _=_;rw [HT.out];unfold manyR;rw [hm]
  have HU:=Lib.hid hu;clear HT HNR hm hu HONE;unfold panicW;go_wp2_with fail
  refine ⟨rfl,?_⟩;rw [HTN.out];exact ⟨rfl,HU.out⟩
 rw [hm] at hp;obtain ⟨rfl,hr,hu⟩:=hp;have HTM:Hid (tgt=if 65536<n then none else listR (takeR 32) n r):=by show _=_;rw [HT.out];unfold manyR;rw [hm]
 have HR:=Lib.hid hr;have HU:=Lib.hid hu;clear HT HNR hm hr hu;by_cases hn:65536<n
 ·have HTN:Hid (tgt=none):=by show _=_;rw [HTM.out];exact if_pos hn
  have hn':(65536:Int)<(n:Int):=by omega
  clear HTM HONE;go_wp2_with fail
  refine (HF _).out.mono ?_;rintro e w3 ⟨rfl,rfl⟩;unfold panicW;go_wp2_with fail
  refine ⟨rfl,?_⟩;rw [HTN.out];exact ⟨rfl,HU.out⟩
 have HT2:Hid (listGo (takeR 32) n [] r=tgt):=by show _=_;rw [HTM.out,if_neg hn];exact listGo_nil _ _ _
 have hn':¬(65536:Int)<(n:Int):=by omega
 have HNL:Hid (n≤65536):=by show _≤_;omega
 clear HTM hn HF;go_wp2_with fail
 clear hn';go_loopw [6,13] (fun sv i wr=>∃(k:Nat) (acc:List Bytes) (s':Bytes),i=.int .i64 k∧k≤n∧acc.length=k∧kHash.Own w.heap.size wr sv (acc.map h32)∧RdS wr b s'∧listGo (takeR 32) (n-k) acc s'=tgt∧Upd (fun k=>k=b) w wr) (fun _ i _=>n-(intOf i).toNat)
 case atStart=>exact ⟨0,[],r,rfl,Nat.zero_le _,rfl,Kd.Own.nil _ _ _,HR.out,HT2.out,HU.out⟩
 case round=>
  obtain ⟨k,acc,s',rfl,hk,ha,ho,hr,ht,hu⟩:=hrel;have HO:=Lib.hid ho;have HR2:=Lib.hid hr;have HT3:=Lib.hid ht;have HU2:=Lib.hid hu;have HAL:Hid (acc.length=k):=ha;clear ho hr ht hu ha HR HT2 HU;by_cases hlt:k<n
  ·have hlt':(k:Int)<(n:Int):=by omega
   have HK:Hid (k<n):=hlt;have H1:=HONE s' wr HR2.out;obtain ⟨j,hj⟩:∃j,n-k=j+1:=⟨n-k-1,by omega⟩;have ht:=HT3.out;rw [hj,listGo_succ] at ht;have HJ:Hid (n-k=j+1):=hj;clear hlt hj HT3;go_wp2_with fail
   refine H1.out.mono ?_;intro e w2 hp;unfold readQ at hp;rcases hm:(takeR 32) s' with _ | ⟨x,r2⟩
   ·rw [hm] at hp ht;obtain ⟨rfl,hu⟩:=hp;have HTN:Hid (tgt=none):=ht.symm;have HU3:=Lib.hid (HU2.out.trans hu);clear ht hm hu H1 HONE HO;unfold panicW;go_wp2_with fail
    refine ⟨rfl,?_⟩;rw [HTN.out];exact ⟨rfl,HU3.out⟩
   rw [hm] at hp ht;obtain ⟨rfl,hr2,hu2⟩:=hp;simp only at ht;have HT4:=Lib.hid ht;have HR3:=Lib.hid hr2;have HU3:=Lib.hid (HU2.out.trans hu2);have hown:=HO.out.other hu2 (fun g hg e=>by have h1:=(HO.out.blk hg).1;have:=HBB.out;have e':g=b:=e;omega);obtain ⟨g,cap2,w4,hrun,ho4,hu4,_⟩:=hown.app1 (Nat.le_trans HU3.out.size (Nat.le_refl _)) (h32 x) (by rw [List.length_map];have:=HAL.out;have:=HNL.out;have:=HK.out;omega);rw [List.length_map,HAL.out] at hrun ho4;have hrun2:(Builtin.append_ #[63,63] 63 #[u6,.slice (some ⟨w2.heap.size,0,none⟩) 1 1]).run Tryz.prog (w2.alloc (.cells (hashC (h32 x)).toArray 81))=.ok (.slice (some ⟨g,0,none⟩) (k+1) cap2) w4:=hrun;have HRUN:=Lib.hid hrun2;have HO4:=Lib.hid ho4;have HR4:Hid (RdS w4 b r2):=hu4.heap hr2 (fun e=>by have h1:=(HO.out.blk e).1;have:=HBB.out;omega);have HU4:=Lib.hid (HU3.out.then hu4 (fun i hi e=>by have h1:=(HO.out.blk e).1;omega));have HSZ:Hid ((sizeOf 81).run Tryz.prog w2=.ok 32 w2):=by show _=_;kernel_rfl
   have HZ:Hid ((zeroValue 81).run Tryz.prog w2=.ok (.agg (Array.replicate 32 (.int .u8 0))) w2):=by show _=_;kernel_rfl
   have HLN:Hid ((hashC (h32 x)).length=32):=hashC_len _;clear hr2 hu2 hown hrun hrun2 ho4 hu4 ht hm H1 HONE HO;simp only;go_wp2_with (first | (refine wpList_val rfl (.slice (some ⟨w2.heap.size,0,none⟩) 1 1) (w2.alloc (.cells (hashC (h32 x)).toArray 81)) (exec_build1 w2 _ (hashC (h32 x)) Tryz.underlying63 HSZ.out HZ.out (by decide) (by decide) HLN.out rfl rfl) ?_) | (at_builtin;refine wpList_append_run rfl _ _ _ rfl rfl rfl HRUN.out ?_))
   refine ⟨⟨k+1,acc++[x],r2,by push_cast;rfl,by have:=HK.out;omega,by rw [List.length_append,HAL.out];rfl,?_,HR4.out,?_,HU4.out⟩,?_⟩
   ·rw [List.map_append];exact HO4.out
   ·have e:n-(k+1)=j:=by have:=HJ.out;omega
    rw [e];exact HT4.out
   ·simp only [intOf];have:=HK.out;omega
  ·obtain rfl:k=n:=by omega
   have ht:=HT3.out;rw [Nat.sub_self,listGo_zero] at ht;have HTS:=Lib.hid ht;clear ht HT3;go_wp2_with fail
   go_ret
   rw [←HTS.out];exact ⟨_,rfl,HO.out,HR2.out,HU2.out⟩
set_option maxHeartbeats 2000000 in
theorem listMove_any (b:Nat) (s:Bytes) (w:World) (h:RdS w b s) :
  Calls Tryz.prog 134 #[.pointer (some ⟨b,0,none⟩),.func (.func 135) #[.pointer (some ⟨b,0,none⟩)] #[]] w fun en w'=>listQ kMove id (manyR moveR s) b w en w':=by
 have HNR:=Lib.hid (kNum_any b s w h);have HONE:=fun s W hW=>Lib.hid (kMoveR_any b s W hW);have HF:=fun W=>Lib.hid (fail_any W);have HBB:Hid (b<w.heap.size):=lt_of_heap h;obtain ⟨tgt,htgt⟩:∃t,t=manyR moveR s:=⟨_,rfl⟩;rw [←htgt];have HT:=Lib.hid htgt;clear htgt h;go_enter Tryz.func134,Tryz.ntmps134
 go_wp2_with fail
 refine HNR.out.mono ?_;intro e w1 hp;rcases hm:readNum s with _ | ⟨n,r⟩
 ·rw [hm] at hp;obtain ⟨rfl,hu⟩:=hp;have HTN:Hid (tgt=none):=by show _=_;rw [HT.out];unfold manyR;rw [hm]
  have HU:=Lib.hid hu;clear HT HNR hm hu HONE;unfold panicW;go_wp2_with fail
  refine ⟨rfl,?_⟩;rw [HTN.out];exact ⟨rfl,HU.out⟩
 rw [hm] at hp;obtain ⟨rfl,hr,hu⟩:=hp;have HTM:Hid (tgt=if 65536<n then none else listR moveR n r):=by show _=_;rw [HT.out];unfold manyR;rw [hm]
 have HR:=Lib.hid hr;have HU:=Lib.hid hu;clear HT HNR hm hr hu;by_cases hn:65536<n
 ·have HTN:Hid (tgt=none):=by show _=_;rw [HTM.out];exact if_pos hn
  have hn':(65536:Int)<(n:Int):=by omega
  clear HTM HONE;go_wp2_with fail
  refine (HF _).out.mono ?_;rintro e w3 ⟨rfl,rfl⟩;unfold panicW;go_wp2_with fail
  refine ⟨rfl,?_⟩;rw [HTN.out];exact ⟨rfl,HU.out⟩
 have HT2:Hid (listGo moveR n [] r=tgt):=by show _=_;rw [HTM.out,if_neg hn];exact listGo_nil _ _ _
 have hn':¬(65536:Int)<(n:Int):=by omega
 have HNL:Hid (n≤65536):=by show _≤_;omega
 clear HTM hn HF;go_wp2_with fail
 clear hn';go_loopw [6,13] (fun sv i wr=>∃(k:Nat) (acc:List Mv) (s':Bytes),i=.int .i64 k∧k≤n∧acc.length=k∧kMove.Own w.heap.size wr sv (acc.map id)∧RdS wr b s'∧listGo moveR (n-k) acc s'=tgt∧Upd (fun k=>k=b) w wr) (fun _ i _=>n-(intOf i).toNat)
 case atStart=>exact ⟨0,[],r,rfl,Nat.zero_le _,rfl,Kd.Own.nil _ _ _,HR.out,HT2.out,HU.out⟩
 case round=>
  obtain ⟨k,acc,s',rfl,hk,ha,ho,hr,ht,hu⟩:=hrel;have HO:=Lib.hid ho;have HR2:=Lib.hid hr;have HT3:=Lib.hid ht;have HU2:=Lib.hid hu;have HAL:Hid (acc.length=k):=ha;clear ho hr ht hu ha HR HT2 HU;by_cases hlt:k<n
  ·have hlt':(k:Int)<(n:Int):=by omega
   have HK:Hid (k<n):=hlt;have H1:=HONE s' wr HR2.out;obtain ⟨j,hj⟩:∃j,n-k=j+1:=⟨n-k-1,by omega⟩;have ht:=HT3.out;rw [hj,listGo_succ] at ht;have HJ:Hid (n-k=j+1):=hj;clear hlt hj HT3;go_wp2_with fail
   refine H1.out.mono ?_;intro e w2 hp;unfold readQ at hp;rcases hm:moveR s' with _ | ⟨x,r2⟩
   ·rw [hm] at hp ht;obtain ⟨rfl,hu⟩:=hp;have HTN:Hid (tgt=none):=ht.symm;have HU3:=Lib.hid (HU2.out.trans hu);clear ht hm hu H1 HONE HO;unfold panicW;go_wp2_with fail
    refine ⟨rfl,?_⟩;rw [HTN.out];exact ⟨rfl,HU3.out⟩
   rw [hm] at hp ht;obtain ⟨rfl,hr2,hu2⟩:=hp;simp only at ht;have HT4:=Lib.hid ht;have HR3:=Lib.hid hr2;have HU3:=Lib.hid (HU2.out.trans hu2);have hown:=HO.out.other hu2 (fun g hg e=>by have h1:=(HO.out.blk hg).1;have:=HBB.out;have e':g=b:=e;omega);obtain ⟨g,cap2,w4,hrun,ho4,hu4,_⟩:=hown.app1 (Nat.le_trans HU3.out.size (Nat.le_refl _)) (id x) (by rw [List.length_map];have:=HAL.out;have:=HNL.out;have:=HK.out;omega);rw [List.length_map,HAL.out] at hrun ho4;have hrun2:(Builtin.append_ #[64,64] 64 #[u6,.slice (some ⟨w2.heap.size,0,none⟩) 1 1]).run Tryz.prog (w2.alloc (.cells (mvC x).toArray 79))=.ok (.slice (some ⟨g,0,none⟩) (k+1) cap2) w4:=hrun;have HRUN:=Lib.hid hrun2;have HO4:=Lib.hid ho4;have HR4:Hid (RdS w4 b r2):=hu4.heap hr2 (fun e=>by have h1:=(HO.out.blk e).1;have:=HBB.out;omega);have HU4:=Lib.hid (HU3.out.then hu4 (fun i hi e=>by have h1:=(HO.out.blk e).1;omega));have HSZ:Hid ((sizeOf 79).run Tryz.prog w2=.ok 6 w2):=by show _=_;kernel_rfl
   have HZ:Hid ((zeroValue 79).run Tryz.prog w2=.ok (.agg (Array.replicate 6 (.int .i64 0))) w2):=by show _=_;kernel_rfl
   have HLN:Hid ((mvC x).length=6):=rfl;clear hr2 hu2 hown hrun hrun2 ho4 hu4 ht hm H1 HONE HO;unfold mvV;go_wp2_with (first | (refine wpList_val rfl (.slice (some ⟨w2.heap.size,0,none⟩) 1 1) (w2.alloc (.cells (mvC x).toArray 79)) (exec_build1 w2 _ (mvC x) Tryz.underlying64 HSZ.out HZ.out (by decide) (by decide) HLN.out rfl rfl) ?_) | (at_builtin;refine wpList_append_run rfl _ _ _ rfl rfl rfl HRUN.out ?_))
   refine ⟨⟨k+1,acc++[x],r2,by push_cast;rfl,by have:=HK.out;omega,by rw [List.length_append,HAL.out];rfl,?_,HR4.out,?_,HU4.out⟩,?_⟩
   ·rw [List.map_append];exact HO4.out
   ·have e:n-(k+1)=j:=by have:=HJ.out;omega
    rw [e];exact HT4.out
   ·simp only [intOf];have:=HK.out;omega
  ·obtain rfl:k=n:=by omega
   have ht:=HT3.out;rw [Nat.sub_self,listGo_zero] at ht;have HTS:=Lib.hid ht;clear ht HT3;go_wp2_with fail
   go_ret
   rw [←HTS.out];exact ⟨_,rfl,HO.out,HR2.out,HU2.out⟩
end Go.Proofs.YtcikldoaidmnhaaGreatDoor
