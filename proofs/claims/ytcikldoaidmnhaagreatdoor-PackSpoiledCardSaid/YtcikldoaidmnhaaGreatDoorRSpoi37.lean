/- Parts: Walks of the packets' program: OpenGroup. No condition. Walks of the packets' program: group packets are opened, as they come. No condition. -/
import Derived.Test.YtcikldoaidmnhaaGreatDoorRSpoi1
import Derived.Test.YtcikldoaidmnhaaGreatDoorRSpoi2
import Derived.Test.YtcikldoaidmnhaaGreatDoorRSpoi3
import Derived.Test.YtcikldoaidmnhaaGreatDoorRSpoi4
import Derived.Test.YtcikldoaidmnhaaGreatDoorRSpoi5
import Derived.Test.YtcikldoaidmnhaaGreatDoorRSpoi6
import Derived.Test.YtcikldoaidmnhaaGreatDoorRSpoi7
import Derived.Test.YtcikldoaidmnhaaGreatDoorRSpoi11
import Derived.Test.YtcikldoaidmnhaaGreatDoorRSpoi12
import Derived.Test.YtcikldoaidmnhaaGreatDoorRSpoi14
import Derived.Test.YtcikldoaidmnhaaGreatDoorRSpoi17
import Derived.Test.YtcikldoaidmnhaaGreatDoorRSpoi18
import Derived.Test.YtcikldoaidmnhaaGreatDoorRSpoi19
import Derived.Test.YtcikldoaidmnhaaGreatDoorRSpoi20
import Derived.Test.YtcikldoaidmnhaaGreatDoorRSpoi21
import Derived.Test.YtcikldoaidmnhaaGreatDoorRSpoi25
import Derived.Test.YtcikldoaidmnhaaGreatDoorRSpoi26
import Derived.Test.YtcikldoaidmnhaaGreatDoorRSpoi28
import Derived.Test.YtcikldoaidmnhaaGreatDoorRSpoi31
import Derived.Test.YtcikldoaidmnhaaGreatDoorRSpoi32
import Derived.Test.YtcikldoaidmnhaaGreatDoorRSpoi36
import Derived.WalkKit
import Derived.WalkSpells
import Derived.WalkLawsBesides
import Derived.Lib.Hide
import Derived.BigQuiet
import Derived.Deep.DeepFit
import Derived.Deep.DeepCutAuto
import Derived.Deep.AppendLies
import Derived.Deep.QuietTactic
import Derived.Maps.OwnOps
import Derived.Maps.OwnSet
import Derived.Maps.RangeWalk
import Derived.WideKeyEntry
import Derived.Deep.MidRow
import Derived.Lib.Bits
import Derived.Test.YtcikldoaidmnhaaGreatDoorRows
import Derived.Deep.RegionHeld3
import Derived.StillTail
import Derived.Laws.EntriesVeiled
import Derived.Handy
import Derived.DeepKeys4
import Derived.ArgAppend
import Derived.Deep.Upon
import Derived.Deep.CutBlock
import Derived.Test.YtcikldoaidmnhaaGreatDoorShelf2
import Derived.Test.YtcikldoaidmnhaaGreatDoorShelf
import Derived.Laws.BitsAllLaws
import Derived.Lib.Zigzag
import Derived.Recover
import Derived.Laws.BytesArg
import Derived.Deep.WholeRow
import Derived.Laws.IdiomStrings
namespace Go.Proofs.YtcikldoaidmnhaaGreatDoor
open Go Go.RowKit Pk Pc
set_option maxRecDepth 100000
def groupO (s:Bytes):Option Grp:=match kindM 2 s with
 | none=>none
 | some r=>match grpF r with
  | none=>none
  | some (g,size)=>match takeR (size / 2) g.mag with
   | none=>none
   | some (m,_)=>some (withMag g m)
def grpC (g:Grp) (vi vo vm:Value):Array Value:=#[.int .i64 g.level,vi,vo,vm,.int .i64 g.err,.int .i64 g.total,.bool g.neg,.string (bs g.mag)]
structure GrpAt (n:Nat) (w:World) (g:Grp) (vi vo vm:Value):Prop where
 ins:kPart.Own n w vi (g.ins.map p32)
 outs:kHash.Own n w vo (g.outs.map h32)
 moves:kMove.Own n w vm (g.moves.map id)
def groupQ (o:Option Grp) (w:World) (en:Ending) (w':World):Prop:=Upd noBlk w w'∧match o with
 | some g=>∃vi vo vm,en=.returned (.tuple #[.agg (grpC g vi vo vm),.int .i64 0])∧GrpAt w.heap.size w' g vi vo vm
 | none=>∃c:List Value,en=.returned (.tuple #[.agg c.toArray,.int .i64 13])∧c.length=8∧∀v,v∈c→v.oneCell'=true
theorem load_group {w:World} {xb:Nat} {c0 c1 c2 c3 c4 c5 c6 c7:Value} (h:w.heap[xb]?=some (.cells #[c0,c1,c2,c3,c4,c5,c6,c7] 68 (0,0))):(loadVar 68 ⟨xb,0,none⟩).run Tryz.prog w=.ok (.agg #[c0,c1,c2,c3,c4,c5,c6,c7]) w:=
 run_loadVar_row w xb 68 68 #[c0,c1,c2,c3,c4,c5,c6,c7] (0,0) _ h Tryz.underlying68 rfl (by kernel_rfl)
theorem cellsF8 {w:World} {b:Nat} {x0 x1 x2 x3 x4 x5 x6 x7:Value} {t:TypeId} (h:w.heap[b]?=some (.cells #[x0,x1,x2,x3,x4,x5,x6,x7] t (0,0))):(w.cell? ⟨b,0,none⟩=some x0∧w.cell? ⟨b,1,none⟩=some x1∧w.cell? ⟨b,2,none⟩=some x2∧w.cell? ⟨b,3,none⟩=some x3∧w.cell? ⟨b,4,none⟩=some x4∧w.cell? ⟨b,5,none⟩=some x5∧w.cell? ⟨b,6,none⟩=some x6∧w.cell? ⟨b,7,none⟩=some x7)∧(w.frozen? ⟨b,0,none⟩=false∧w.frozen? ⟨b,1,none⟩=false∧w.frozen? ⟨b,2,none⟩=false∧w.frozen? ⟨b,3,none⟩=false∧w.frozen? ⟨b,4,none⟩=false∧w.frozen? ⟨b,5,none⟩=false∧w.frozen? ⟨b,6,none⟩=false∧w.frozen? ⟨b,7,none⟩=false):=by simp [World.cell?,World.frozen?,h]
theorem Kd.Own.fresh {α:Type} {K:Kd Tryz.prog α} {base b:Nat} {w w':World} {v:Value} {l:List α} (h:K.Own base w v l) (hu:Upd (fun k=>k=b) w w') (hb:b<base):K.Own base w' v l:=h.other hu (fun g hg e=>by have h1:=(h.blk hg).1;have e':g=b:=e;omega)
theorem upd_back {w w':World} {b:Nat} (h:Upd (fun k=>k=b) w w') (hb:w'.heap[b]?=w.heap[b]?):Upd noBlk w w':=by
 obtain ⟨h1,h2,h3,h4,h5⟩:=h;refine ⟨h1,h2,h3,h4,fun i hi _=>?_⟩;by_cases e:i=b
 ·rw [e];exact hb
 ·exact h5 i hi e
set_option maxHeartbeats 2000000 in
theorem same8 {w:World} {xb:Nat} {c0 c1 c2 c3 c4 c5 c6 c7:Value} {t:TypeId} (h:w.heap[xb]?=some (.cells #[c0,c1,c2,c3,c4,c5,c6,c7] t (0,0))) :
  ((((((((w.setCell ⟨xb,0,none⟩ c0).setCell ⟨xb,1,none⟩ c1).setCell ⟨xb,2,none⟩ c2).setCell ⟨xb,3,none⟩ c3).setCell ⟨xb,4,none⟩ c4).setCell ⟨xb,5,none⟩ c5).setCell ⟨xb,6,none⟩ c6).setCell ⟨xb,7,none⟩ c7).heap[xb]?=some (.cells #[c0,c1,c2,c3,c4,c5,c6,c7] t (0,0)) ∧
  Upd noBlk w ((((((((w.setCell ⟨xb,0,none⟩ c0).setCell ⟨xb,1,none⟩ c1).setCell ⟨xb,2,none⟩ c2).setCell ⟨xb,3,none⟩ c3).setCell ⟨xb,4,none⟩ c4).setCell ⟨xb,5,none⟩ c5).setCell ⟨xb,6,none⟩ c6).setCell ⟨xb,7,none⟩ c7):=by
 have hh:((((((((w.setCell ⟨xb,0,none⟩ c0).setCell ⟨xb,1,none⟩ c1).setCell ⟨xb,2,none⟩ c2).setCell ⟨xb,3,none⟩ c3).setCell ⟨xb,4,none⟩ c4).setCell ⟨xb,5,none⟩ c5).setCell ⟨xb,6,none⟩ c6).setCell ⟨xb,7,none⟩ c7).heap[xb]?=some (.cells #[c0,c1,c2,c3,c4,c5,c6,c7] t (0,0)):=
by
  have h0:(w.setCell ⟨xb,0,none⟩ c0).heap[xb]?=some (.cells #[c0,c1,c2,c3,c4,c5,c6,c7] t (0,0)):=heap_setCell_eq (i:=0) c0 h;have h1:((w.setCell ⟨xb,0,none⟩ c0).setCell ⟨xb,1,none⟩ c1).heap[xb]?=some (.cells #[c0,c1,c2,c3,c4,c5,c6,c7] t (0,0)):=heap_setCell_eq (i:=1) c1 h0;have h2:(((w.setCell ⟨xb,0,none⟩ c0).setCell ⟨xb,1,none⟩ c1).setCell ⟨xb,2,none⟩ c2).heap[xb]?=some (.cells #[c0,c1,c2,c3,c4,c5,c6,c7] t (0,0)):=heap_setCell_eq (i:=2) c2 h1;have h3:((((w.setCell ⟨xb,0,none⟩ c0).setCell ⟨xb,1,none⟩ c1).setCell ⟨xb,2,none⟩ c2).setCell ⟨xb,3,none⟩ c3).heap[xb]?=some (.cells #[c0,c1,c2,c3,c4,c5,c6,c7] t (0,0)):=heap_setCell_eq (i:=3) c3 h2;have h4:(((((w.setCell ⟨xb,0,none⟩ c0).setCell ⟨xb,1,none⟩ c1).setCell ⟨xb,2,none⟩ c2).setCell ⟨xb,3,none⟩ c3).setCell ⟨xb,4,none⟩ c4).heap[xb]?=some (.cells #[c0,c1,c2,c3,c4,c5,c6,c7] t (0,0)):=heap_setCell_eq (i:=4) c4 h3;have h5:((((((w.setCell ⟨xb,0,none⟩ c0).setCell ⟨xb,1,none⟩ c1).setCell ⟨xb,2,none⟩ c2).setCell ⟨xb,3,none⟩ c3).setCell ⟨xb,4,none⟩ c4).setCell ⟨xb,5,none⟩ c5).heap[xb]?=some (.cells #[c0,c1,c2,c3,c4,c5,c6,c7] t (0,0)):=heap_setCell_eq (i:=5) c5 h4;have h6:(((((((w.setCell ⟨xb,0,none⟩ c0).setCell ⟨xb,1,none⟩ c1).setCell ⟨xb,2,none⟩ c2).setCell ⟨xb,3,none⟩ c3).setCell ⟨xb,4,none⟩ c4).setCell ⟨xb,5,none⟩ c5).setCell ⟨xb,6,none⟩ c6).heap[xb]?=some (.cells #[c0,c1,c2,c3,c4,c5,c6,c7] t (0,0)):=heap_setCell_eq (i:=6) c6 h5;have h7:((((((((w.setCell ⟨xb,0,none⟩ c0).setCell ⟨xb,1,none⟩ c1).setCell ⟨xb,2,none⟩ c2).setCell ⟨xb,3,none⟩ c3).setCell ⟨xb,4,none⟩ c4).setCell ⟨xb,5,none⟩ c5).setCell ⟨xb,6,none⟩ c6).setCell ⟨xb,7,none⟩ c7).heap[xb]?=some (.cells #[c0,c1,c2,c3,c4,c5,c6,c7] t (0,0)):=heap_setCell_eq (i:=7) c7 h6;exact h7
 refine ⟨hh,upd_back (b:=xb) ((((((((((Upd.refl (fun k=>k=xb) w).setCell (p:=⟨xb,0,none⟩) (fun _=>rfl) c0).setCell (p:=⟨xb,1,none⟩) (fun _=>rfl) c1).setCell (p:=⟨xb,2,none⟩) (fun _=>rfl) c2).setCell (p:=⟨xb,3,none⟩) (fun _=>rfl) c3).setCell (p:=⟨xb,4,none⟩) (fun _=>rfl) c4).setCell (p:=⟨xb,5,none⟩) (fun _=>rfl) c5).setCell (p:=⟨xb,6,none⟩) (fun _=>rfl) c6).setCell (p:=⟨xb,7,none⟩) (fun _=>rfl) c7)) (by rw [hh,h])⟩
set_option maxHeartbeats 4000000 in
theorem openGroup_any (s:Bytes) (w:World) :
  Calls Tryz.prog 85 #[.string (bs s)] w fun en w'=>groupQ (groupO s) w en w':=by
 have hmf:∀(fn:Fn) (first cap:Array Value) (w:World),(Instr.makeFunc fn first cap).run Tryz.prog w=.ok (.func fn first cap) w:=fun _ _ _ _=>rfl;obtain ⟨tgt,htgt⟩:∃t,t=groupO s:=⟨_,rfl⟩;rw [←htgt];unfold groupO at htgt;have HT:=Lib.hid htgt;obtain ⟨w1,hw1⟩:∃w1,w1=((w.alloc (.cells #[.int .i64 0,.slice none 0 0,.slice none 0 0,.slice none 0 0,.int .i64 0,.int .i64 0,.bool false,.string ⟨#[]⟩] 68)).alloc (.cells #[.int .i64 0] 33)).alloc (.cells #[.string (bs s)] 193):=⟨_,rfl⟩;have HU0:Hid (Upd noBlk w w1):=by show Upd _ _ _;rw [hw1];exact (((Upd.refl _ w).alloc _).alloc _).alloc _
 have HX:Hid (w1.heap[w.heap.size]?=some (.cells #[.int .i64 0,.slice none 0 0,.slice none 0 0,.slice none 0 0,.int .i64 0,.int .i64 0,.bool false,.string ⟨#[]⟩] 68 (0,0))):=by show _=_;rw [hw1];exact (((Upd.refl noBlk _).alloc _).alloc _).heap (heap_alloc_new w _) id
 have HE:Hid (w1.heap[w.heap.size+1]?=some (.cells #[.int .i64 0] 33 (0,0))):=by
  show _=_;rw [hw1];refine ((Upd.refl noBlk _).alloc _).heap ?_ id;have:=heap_alloc_new (w.alloc (.cells #[.int .i64 0,.slice none 0 0,.slice none 0 0,.slice none 0 0,.int .i64 0,.int .i64 0,.bool false,.string ⟨#[]⟩] 68)) (.cells #[.int .i64 0] 33);simp only [World.size_alloc] at this;exact this
 have HR:Hid (RdS w1 (w.heap.size+1+1) s):=by
  show RdS _ _ _;rw [hw1];have:=heap_alloc_new ((w.alloc (.cells #[.int .i64 0,.slice none 0 0,.slice none 0 0,.slice none 0 0,.int .i64 0,.int .i64 0,.bool false,.string ⟨#[]⟩] 68)).alloc (.cells #[.int .i64 0] 33)) (.cells #[.string (bs s)] 193);simp only [World.size_alloc] at this;exact this
 have HSZ:Hid (w1.heap.size=w.heap.size+3):=by show _=_;rw [hw1];simp only [World.size_alloc]
 clear htgt;go_enter_defers Tryz.func85,Tryz.ntmps85
 go_upto_region 3 with fail
 rw [←hw1];clear hw1;obtain ⟨xb,hxb⟩:∃xb,xb=w.heap.size:=⟨_,rfl⟩;have HXB:Hid (w.heap.size≤xb):=by show _≤_;omega
 have HXS:Hid (xb=w.heap.size):=hxb;rw [←hxb] at HX HE HR HSZ;rw [←hxb];clear hxb;have HU:=HU0;have HC:=Lib.hid (kKind_any (xb+1+1) 2 s w1 HR.out);go_wp2_with fail
 refine HC.out.mono ?_;intro e v0 hp;have ht:=HT.out;rcases hm:kindM 2 s with _ | s0
 ·rw [hm] at hp ht;obtain ⟨rfl,hu⟩:=hp;have HTN:Hid (tgt=none):=ht;have HX2:=Lib.hid (hu.heap HX.out (by omega));have HE2:=Lib.hid (hu.heap HE.out (by omega));have HU2:=Lib.hid (HU.out.then hu (fun i hi e=>by have e':i=xb+1+1:=e;have:=HXB.out;omega));clear HT HC hm hu ht HX HE HU HR;unfold panicW;go_wp2_with fail
  refine door_bad HE2.out (fun W hW hu=>?_);refine ⟨_,results_cell_cell rfl _ rfl rfl (load_group (hu.heap HX2.out (by omega))) (load_err hW),?_⟩;rw [HTN.out];refine ⟨upd_newE HU2.out hu (by have:=HXB.out;omega),(#[.int .i64 0,.slice none 0 0,.slice none 0 0,.slice none 0 0,.int .i64 0,.int .i64 0,.bool false,.string ⟨#[]⟩]:Array Value).toList,rfl,rfl,fun v hv=>?_⟩;simp at hv;rcases hv with rfl | rfl | rfl | rfl | rfl | rfl | rfl | rfl<;>rfl
 rw [hm] at hp ht;obtain ⟨rfl,hr,hu⟩:=hp;simp only at ht;unfold grpF at ht;have HT:=Lib.hid ht;have HX1:=Lib.hid (hu.heap HX.out (by omega));have HE1:=Lib.hid (hu.heap HE.out (by omega));have HU1:=Lib.hid (HU.out.then hu (fun i hi e=>by have e':i=xb+1+1:=e;have:=HXB.out;omega));have HR1:=Lib.hid hr;have HZ1:Hid (xb+3≤v0.heap.size):=by show _≤_;have:=hu.size;have:=HSZ.out;omega
 clear hu hr ht hm HC HX HE HU HR HSZ HU0;have HX:=HX1;have HE:=HE1;have HU:=HU1;have HR:=HR1;have HSZ:=HZ1;clear HX1 HE1 HU1 HR1 HZ1;have HC:=Lib.hid (kNum_any (xb+1+1) s0 v0 HR.out);obtain ⟨_,⟨f0,f1,f2,f3,f4,f5,f6,f7⟩⟩:=cellsF8 HX.out;go_wp2_with fail
 refine HC.out.mono ?_;intro e u0 hp;have ht:=HT.out;rcases hm:readNum s0 with _ | ⟨lv,s1⟩
 ·rw [hm] at hp ht;obtain ⟨rfl,hu⟩:=hp;clear f0 f1 f2 f3 f4 f5 f6 f7;have HTN:Hid (tgt=none):=ht;have HX2:=Lib.hid (hu.heap HX.out (by omega));have HE2:=Lib.hid (hu.heap HE.out (by omega));have HU2:=Lib.hid (HU.out.then hu (fun i hi e=>by have e':i=xb+1+1:=e;have:=HXB.out;omega));clear HT HC hm hu ht HX HE HU HR;unfold panicW;go_wp2_with fail
  refine door_bad HE2.out (fun W hW hu=>?_);refine ⟨_,results_cell_cell rfl _ rfl rfl (load_group (hu.heap HX2.out (by omega))) (load_err hW),?_⟩;rw [HTN.out];refine ⟨upd_newE HU2.out hu (by have:=HXB.out;omega),(#[.int .i64 0,.slice none 0 0,.slice none 0 0,.slice none 0 0,.int .i64 0,.int .i64 0,.bool false,.string ⟨#[]⟩]:Array Value).toList,rfl,rfl,fun v hv=>?_⟩;simp at hv;rcases hv with rfl | rfl | rfl | rfl | rfl | rfl | rfl | rfl<;>rfl
 rw [hm] at hp ht;obtain ⟨rfl,hr,hu⟩:=hp;simp only at ht;have HT:=Lib.hid ht;have HX1:=Lib.hid (hu.heap HX.out (by omega));have HE1:=Lib.hid (hu.heap HE.out (by omega));have HU1:=Lib.hid (HU.out.then hu (fun i hi e=>by have e':i=xb+1+1:=e;have:=HXB.out;omega));have HR1:=Lib.hid hr;have HZ1:Hid (xb+3≤u0.heap.size):=by show _≤_;have:=hu.size;have:=HSZ.out;omega
 obtain ⟨z0,hz⟩:∃z,z=(lv:Int):=⟨_,rfl⟩;have HN0:=Lib.hid hz;rw [←hz];clear hz;clear hu hr ht hm HC HX HE HU HR HSZ f0 f1 f2 f3 f4 f5 f6 f7;obtain ⟨_,⟨f0,f1,f2,f3,f4,f5,f6,f7⟩⟩:=cellsF8 HX1.out;go_upto_region 5 with fail
 have hset:=(Upd.refl (fun k=>k=xb) u0).setCell (p:=⟨xb,0,none⟩) (fun _=>rfl) (.int .i64 z0);have HX:Hid ((u0.setCell ⟨xb,0,none⟩ (.int .i64 z0)).heap[xb]?=some (.cells #[.int .i64 z0,.slice none 0 0,.slice none 0 0,.slice none 0 0,.int .i64 0,.int .i64 0,.bool false,.string ⟨#[]⟩] 68 (0,0))):=heap_setCell_eq (i:=0) (.int .i64 z0) HX1.out;have HE:=Lib.hid (hset.heap HE1.out (by omega));have HU:=Lib.hid (upd_newE HU1.out hset HXB.out);have HR:Hid (RdS (u0.setCell ⟨xb,0,none⟩ (.int .i64 z0)) (xb+1+1) s1):=hset.heap HR1.out (by omega);have HSZ:Hid (xb+3≤(u0.setCell ⟨xb,0,none⟩ (.int .i64 z0)).heap.size):=by show _≤_;have:=hset.size;have:=HZ1.out;omega
 clear hset HX1 HE1 HU1 HR1 HZ1 f0 f1 f2 f3 f4 f5 f6 f7;generalize u0.setCell ⟨xb,0,none⟩ (.int .i64 z0)=v1 at *;have HC:=Lib.hid (listPart_any (xb+1+1) s1 v1 HR.out);obtain ⟨_,⟨f0,f1,f2,f3,f4,f5,f6,f7⟩⟩:=cellsF8 HX.out;go_wp2_with fail
 refine HC.out.mono ?_;intro e u1 hp;have ht:=HT.out;unfold listQ at hp;rcases hm:manyR partR s1 with _ | ⟨ins,s2⟩
 ·rw [hm] at hp ht;obtain ⟨rfl,hu⟩:=hp;clear f0 f1 f2 f3 f4 f5 f6 f7;have HTN:Hid (tgt=none):=ht;have HX2:=Lib.hid (hu.heap HX.out (by omega));have HE2:=Lib.hid (hu.heap HE.out (by omega));have HU2:=Lib.hid (HU.out.then hu (fun i hi e=>by have e':i=xb+1+1:=e;have:=HXB.out;omega));clear HT HC hm hu ht HX HE HU HR;unfold panicW;go_wp2_with fail
  refine door_bad HE2.out (fun W hW hu=>?_);refine ⟨_,results_cell_cell rfl _ rfl rfl (load_group (hu.heap HX2.out (by omega))) (load_err hW),?_⟩;rw [HTN.out];refine ⟨upd_newE HU2.out hu (by have:=HXB.out;omega),(#[.int .i64 z0,.slice none 0 0,.slice none 0 0,.slice none 0 0,.int .i64 0,.int .i64 0,.bool false,.string ⟨#[]⟩]:Array Value).toList,rfl,rfl,fun v hv=>?_⟩;simp at hv;rcases hv with rfl | rfl | rfl | rfl | rfl | rfl | rfl | rfl<;>rfl
 rw [hm] at hp ht;obtain ⟨v,rfl,hown,hr,hu⟩:=hp;obtain ⟨A1,cap1,hv,_⟩:=hown.form;rw [List.length_map] at hv;subst hv;have HO1:=Lib.hid (hown.mono (base':=xb+3) HSZ.out);clear hown;simp only at ht;have HT:=Lib.hid ht;have HX1:=Lib.hid (hu.heap HX.out (by omega));have HE1:=Lib.hid (hu.heap HE.out (by omega));have HU1:=Lib.hid (HU.out.then hu (fun i hi e=>by have e':i=xb+1+1:=e;have:=HXB.out;omega));have HR1:=Lib.hid hr;have HZ1:Hid (xb+3≤u1.heap.size):=by show _≤_;have:=hu.size;have:=HSZ.out;omega
 clear hu hr ht hm HC HX HE HU HR HSZ f0 f1 f2 f3 f4 f5 f6 f7;obtain ⟨_,⟨f0,f1,f2,f3,f4,f5,f6,f7⟩⟩:=cellsF8 HX1.out;go_upto_region 6 with fail
 have hset:=(Upd.refl (fun k=>k=xb) u1).setCell (p:=⟨xb,1,none⟩) (fun _=>rfl) (.slice A1 ins.length cap1);have HX:Hid ((u1.setCell ⟨xb,1,none⟩ (.slice A1 ins.length cap1)).heap[xb]?=some (.cells #[.int .i64 z0,.slice A1 ins.length cap1,.slice none 0 0,.slice none 0 0,.int .i64 0,.int .i64 0,.bool false,.string ⟨#[]⟩] 68 (0,0))):=heap_setCell_eq (i:=1) (.slice A1 ins.length cap1) HX1.out;have HE:=Lib.hid (hset.heap HE1.out (by omega));have HU:=Lib.hid (upd_newE HU1.out hset HXB.out);have HR:Hid (RdS (u1.setCell ⟨xb,1,none⟩ (.slice A1 ins.length cap1)) (xb+1+1) s2):=hset.heap HR1.out (by omega);have HSZ:Hid (xb+3≤(u1.setCell ⟨xb,1,none⟩ (.slice A1 ins.length cap1)).heap.size):=by show _≤_;have:=hset.size;have:=HZ1.out;omega
 have HO1:=Lib.hid (HO1.out.fresh hset (by omega));clear hset HX1 HE1 HU1 HR1 HZ1 f0 f1 f2 f3 f4 f5 f6 f7;generalize u1.setCell ⟨xb,1,none⟩ (.slice A1 ins.length cap1)=v2 at *;have HC:=Lib.hid (listHash_any (xb+1+1) s2 v2 HR.out);obtain ⟨_,⟨f0,f1,f2,f3,f4,f5,f6,f7⟩⟩:=cellsF8 HX.out;go_wp2_with fail
 refine HC.out.mono ?_;intro e u2 hp;have ht:=HT.out;unfold listQ at hp;rcases hm:manyR (takeR 32) s2 with _ | ⟨outs,s3⟩
 ·rw [hm] at hp ht;obtain ⟨rfl,hu⟩:=hp;clear f0 f1 f2 f3 f4 f5 f6 f7;have HTN:Hid (tgt=none):=ht;have HX2:=Lib.hid (hu.heap HX.out (by omega));have HE2:=Lib.hid (hu.heap HE.out (by omega));have HU2:=Lib.hid (HU.out.then hu (fun i hi e=>by have e':i=xb+1+1:=e;have:=HXB.out;omega));clear HT HC hm hu ht HX HE HU HR;unfold panicW;go_wp2_with fail
  refine door_bad HE2.out (fun W hW hu=>?_);refine ⟨_,results_cell_cell rfl _ rfl rfl (load_group (hu.heap HX2.out (by omega))) (load_err hW),?_⟩;rw [HTN.out];refine ⟨upd_newE HU2.out hu (by have:=HXB.out;omega),(#[.int .i64 z0,.slice A1 ins.length cap1,.slice none 0 0,.slice none 0 0,.int .i64 0,.int .i64 0,.bool false,.string ⟨#[]⟩]:Array Value).toList,rfl,rfl,fun v hv=>?_⟩;simp at hv;rcases hv with rfl | rfl | rfl | rfl | rfl | rfl | rfl | rfl<;>rfl
 rw [hm] at hp ht;obtain ⟨v,rfl,hown,hr,hu⟩:=hp;obtain ⟨A2,cap2,hv,_⟩:=hown.form;rw [List.length_map] at hv;subst hv;have HO2:=Lib.hid (hown.mono (base':=xb+3) HSZ.out);clear hown;simp only at ht;have HT:=Lib.hid ht;have HX1:=Lib.hid (hu.heap HX.out (by omega));have HE1:=Lib.hid (hu.heap HE.out (by omega));have HU1:=Lib.hid (HU.out.then hu (fun i hi e=>by have e':i=xb+1+1:=e;have:=HXB.out;omega));have HR1:=Lib.hid hr;have HZ1:Hid (xb+3≤u2.heap.size):=by show _≤_;have:=hu.size;have:=HSZ.out;omega
 have HO1:=Lib.hid (HO1.out.fresh hu (by omega));clear hu hr ht hm HC HX HE HU HR HSZ f0 f1 f2 f3 f4 f5 f6 f7;obtain ⟨_,⟨f0,f1,f2,f3,f4,f5,f6,f7⟩⟩:=cellsF8 HX1.out;go_upto_region 7 with fail
 have hset:=(Upd.refl (fun k=>k=xb) u2).setCell (p:=⟨xb,2,none⟩) (fun _=>rfl) (.slice A2 outs.length cap2);have HX:Hid ((u2.setCell ⟨xb,2,none⟩ (.slice A2 outs.length cap2)).heap[xb]?=some (.cells #[.int .i64 z0,.slice A1 ins.length cap1,.slice A2 outs.length cap2,.slice none 0 0,.int .i64 0,.int .i64 0,.bool false,.string ⟨#[]⟩] 68 (0,0))):=heap_setCell_eq (i:=2) (.slice A2 outs.length cap2) HX1.out;have HE:=Lib.hid (hset.heap HE1.out (by omega));have HU:=Lib.hid (upd_newE HU1.out hset HXB.out);have HR:Hid (RdS (u2.setCell ⟨xb,2,none⟩ (.slice A2 outs.length cap2)) (xb+1+1) s3):=hset.heap HR1.out (by omega);have HSZ:Hid (xb+3≤(u2.setCell ⟨xb,2,none⟩ (.slice A2 outs.length cap2)).heap.size):=by show _≤_;have:=hset.size;have:=HZ1.out;omega
 have HO1:=Lib.hid (HO1.out.fresh hset (by omega));have HO2:=Lib.hid (HO2.out.fresh hset (by omega));clear hset HX1 HE1 HU1 HR1 HZ1 f0 f1 f2 f3 f4 f5 f6 f7;generalize u2.setCell ⟨xb,2,none⟩ (.slice A2 outs.length cap2)=v3 at *;have HC:=Lib.hid (listMove_any (xb+1+1) s3 v3 HR.out);obtain ⟨_,⟨f0,f1,f2,f3,f4,f5,f6,f7⟩⟩:=cellsF8 HX.out;go_wp2_with fail
 refine HC.out.mono ?_;intro e u3 hp;have ht:=HT.out;unfold listQ at hp;rcases hm:manyR moveR s3 with _ | ⟨moves,s4⟩
 ·rw [hm] at hp ht;obtain ⟨rfl,hu⟩:=hp;clear f0 f1 f2 f3 f4 f5 f6 f7;have HTN:Hid (tgt=none):=ht;have HX2:=Lib.hid (hu.heap HX.out (by omega));have HE2:=Lib.hid (hu.heap HE.out (by omega));have HU2:=Lib.hid (HU.out.then hu (fun i hi e=>by have e':i=xb+1+1:=e;have:=HXB.out;omega));clear HT HC hm hu ht HX HE HU HR;unfold panicW;go_wp2_with fail
  refine door_bad HE2.out (fun W hW hu=>?_);refine ⟨_,results_cell_cell rfl _ rfl rfl (load_group (hu.heap HX2.out (by omega))) (load_err hW),?_⟩;rw [HTN.out];refine ⟨upd_newE HU2.out hu (by have:=HXB.out;omega),(#[.int .i64 z0,.slice A1 ins.length cap1,.slice A2 outs.length cap2,.slice none 0 0,.int .i64 0,.int .i64 0,.bool false,.string ⟨#[]⟩]:Array Value).toList,rfl,rfl,fun v hv=>?_⟩;simp at hv;rcases hv with rfl | rfl | rfl | rfl | rfl | rfl | rfl | rfl<;>rfl
 rw [hm] at hp ht;obtain ⟨v,rfl,hown,hr,hu⟩:=hp;obtain ⟨A3,cap3,hv,_⟩:=hown.form;rw [List.length_map] at hv;subst hv;have HO3:=Lib.hid (hown.mono (base':=xb+3) HSZ.out);clear hown;simp only at ht;have HT:=Lib.hid ht;have HX1:=Lib.hid (hu.heap HX.out (by omega));have HE1:=Lib.hid (hu.heap HE.out (by omega));have HU1:=Lib.hid (HU.out.then hu (fun i hi e=>by have e':i=xb+1+1:=e;have:=HXB.out;omega));have HR1:=Lib.hid hr;have HZ1:Hid (xb+3≤u3.heap.size):=by show _≤_;have:=hu.size;have:=HSZ.out;omega
 have HO1:=Lib.hid (HO1.out.fresh hu (by omega));have HO2:=Lib.hid (HO2.out.fresh hu (by omega));clear hu hr ht hm HC HX HE HU HR HSZ f0 f1 f2 f3 f4 f5 f6 f7;obtain ⟨_,⟨f0,f1,f2,f3,f4,f5,f6,f7⟩⟩:=cellsF8 HX1.out;go_upto_region 8 with fail
 have hset:=(Upd.refl (fun k=>k=xb) u3).setCell (p:=⟨xb,3,none⟩) (fun _=>rfl) (.slice A3 moves.length cap3);have HX:Hid ((u3.setCell ⟨xb,3,none⟩ (.slice A3 moves.length cap3)).heap[xb]?=some (.cells #[.int .i64 z0,.slice A1 ins.length cap1,.slice A2 outs.length cap2,.slice A3 moves.length cap3,.int .i64 0,.int .i64 0,.bool false,.string ⟨#[]⟩] 68 (0,0))):=heap_setCell_eq (i:=3) (.slice A3 moves.length cap3) HX1.out;have HE:=Lib.hid (hset.heap HE1.out (by omega));have HU:=Lib.hid (upd_newE HU1.out hset HXB.out);have HR:Hid (RdS (u3.setCell ⟨xb,3,none⟩ (.slice A3 moves.length cap3)) (xb+1+1) s4):=hset.heap HR1.out (by omega);have HSZ:Hid (xb+3≤(u3.setCell ⟨xb,3,none⟩ (.slice A3 moves.length cap3)).heap.size):=by show _≤_;have:=hset.size;have:=HZ1.out;omega
 have HO1:=Lib.hid (HO1.out.fresh hset (by omega));have HO2:=Lib.hid (HO2.out.fresh hset (by omega));have HO3:=Lib.hid (HO3.out.fresh hset (by omega));clear hset HX1 HE1 HU1 HR1 HZ1 f0 f1 f2 f3 f4 f5 f6 f7;generalize u3.setCell ⟨xb,3,none⟩ (.slice A3 moves.length cap3)=v4 at *;have HC:=Lib.hid (kNum_any (xb+1+1) s4 v4 HR.out);obtain ⟨_,⟨f0,f1,f2,f3,f4,f5,f6,f7⟩⟩:=cellsF8 HX.out;go_wp2_with fail
 refine HC.out.mono ?_;intro e u4 hp;have ht:=HT.out;rcases hm:readNum s4 with _ | ⟨er,s5⟩
 ·rw [hm] at hp ht;obtain ⟨rfl,hu⟩:=hp;clear f0 f1 f2 f3 f4 f5 f6 f7;have HTN:Hid (tgt=none):=ht;have HX2:=Lib.hid (hu.heap HX.out (by omega));have HE2:=Lib.hid (hu.heap HE.out (by omega));have HU2:=Lib.hid (HU.out.then hu (fun i hi e=>by have e':i=xb+1+1:=e;have:=HXB.out;omega));clear HT HC hm hu ht HX HE HU HR;unfold panicW;go_wp2_with fail
  refine door_bad HE2.out (fun W hW hu=>?_);refine ⟨_,results_cell_cell rfl _ rfl rfl (load_group (hu.heap HX2.out (by omega))) (load_err hW),?_⟩;rw [HTN.out];refine ⟨upd_newE HU2.out hu (by have:=HXB.out;omega),(#[.int .i64 z0,.slice A1 ins.length cap1,.slice A2 outs.length cap2,.slice A3 moves.length cap3,.int .i64 0,.int .i64 0,.bool false,.string ⟨#[]⟩]:Array Value).toList,rfl,rfl,fun v hv=>?_⟩;simp at hv;rcases hv with rfl | rfl | rfl | rfl | rfl | rfl | rfl | rfl<;>rfl
 rw [hm] at hp ht;obtain ⟨rfl,hr,hu⟩:=hp;simp only at ht;have HT:=Lib.hid ht;have HX1:=Lib.hid (hu.heap HX.out (by omega));have HE1:=Lib.hid (hu.heap HE.out (by omega));have HU1:=Lib.hid (HU.out.then hu (fun i hi e=>by have e':i=xb+1+1:=e;have:=HXB.out;omega));have HR1:=Lib.hid hr;have HZ1:Hid (xb+3≤u4.heap.size):=by show _≤_;have:=hu.size;have:=HSZ.out;omega
 have HO1:=Lib.hid (HO1.out.fresh hu (by omega));have HO2:=Lib.hid (HO2.out.fresh hu (by omega));have HO3:=Lib.hid (HO3.out.fresh hu (by omega));obtain ⟨z4,hz⟩:∃z,z=(er:Int):=⟨_,rfl⟩;have HN4:=Lib.hid hz;rw [←hz];clear hz;clear hu hr ht hm HC HX HE HU HR HSZ f0 f1 f2 f3 f4 f5 f6 f7;obtain ⟨_,⟨f0,f1,f2,f3,f4,f5,f6,f7⟩⟩:=cellsF8 HX1.out;go_upto_region 9 with fail
 have hset:=(Upd.refl (fun k=>k=xb) u4).setCell (p:=⟨xb,4,none⟩) (fun _=>rfl) (.int .i64 z4);have HX:Hid ((u4.setCell ⟨xb,4,none⟩ (.int .i64 z4)).heap[xb]?=some (.cells #[.int .i64 z0,.slice A1 ins.length cap1,.slice A2 outs.length cap2,.slice A3 moves.length cap3,.int .i64 z4,.int .i64 0,.bool false,.string ⟨#[]⟩] 68 (0,0))):=heap_setCell_eq (i:=4) (.int .i64 z4) HX1.out;have HE:=Lib.hid (hset.heap HE1.out (by omega));have HU:=Lib.hid (upd_newE HU1.out hset HXB.out);have HR:Hid (RdS (u4.setCell ⟨xb,4,none⟩ (.int .i64 z4)) (xb+1+1) s5):=hset.heap HR1.out (by omega);have HSZ:Hid (xb+3≤(u4.setCell ⟨xb,4,none⟩ (.int .i64 z4)).heap.size):=by show _≤_;have:=hset.size;have:=HZ1.out;omega
 have HO1:=Lib.hid (HO1.out.fresh hset (by omega));have HO2:=Lib.hid (HO2.out.fresh hset (by omega));have HO3:=Lib.hid (HO3.out.fresh hset (by omega));clear hset HX1 HE1 HU1 HR1 HZ1 f0 f1 f2 f3 f4 f5 f6 f7;generalize u4.setCell ⟨xb,4,none⟩ (.int .i64 z4)=v5 at *;have HC:=Lib.hid (kNum_any (xb+1+1) s5 v5 HR.out);obtain ⟨_,⟨f0,f1,f2,f3,f4,f5,f6,f7⟩⟩:=cellsF8 HX.out;go_wp2_with fail
 refine HC.out.mono ?_;intro e u5 hp;have ht:=HT.out;rcases hm:readNum s5 with _ | ⟨tot,s6⟩
 ·rw [hm] at hp ht;obtain ⟨rfl,hu⟩:=hp;clear f0 f1 f2 f3 f4 f5 f6 f7;have HTN:Hid (tgt=none):=ht;have HX2:=Lib.hid (hu.heap HX.out (by omega));have HE2:=Lib.hid (hu.heap HE.out (by omega));have HU2:=Lib.hid (HU.out.then hu (fun i hi e=>by have e':i=xb+1+1:=e;have:=HXB.out;omega));clear HT HC hm hu ht HX HE HU HR;unfold panicW;go_wp2_with fail
  refine door_bad HE2.out (fun W hW hu=>?_);refine ⟨_,results_cell_cell rfl _ rfl rfl (load_group (hu.heap HX2.out (by omega))) (load_err hW),?_⟩;rw [HTN.out];refine ⟨upd_newE HU2.out hu (by have:=HXB.out;omega),(#[.int .i64 z0,.slice A1 ins.length cap1,.slice A2 outs.length cap2,.slice A3 moves.length cap3,.int .i64 z4,.int .i64 0,.bool false,.string ⟨#[]⟩]:Array Value).toList,rfl,rfl,fun v hv=>?_⟩;simp at hv;rcases hv with rfl | rfl | rfl | rfl | rfl | rfl | rfl | rfl<;>rfl
 rw [hm] at hp ht;obtain ⟨rfl,hr,hu⟩:=hp;simp only at ht;have HT:=Lib.hid ht;have HX1:=Lib.hid (hu.heap HX.out (by omega));have HE1:=Lib.hid (hu.heap HE.out (by omega));have HU1:=Lib.hid (HU.out.then hu (fun i hi e=>by have e':i=xb+1+1:=e;have:=HXB.out;omega));have HR1:=Lib.hid hr;have HZ1:Hid (xb+3≤u5.heap.size):=by show _≤_;have:=hu.size;have:=HSZ.out;omega
 have HO1:=Lib.hid (HO1.out.fresh hu (by omega));have HO2:=Lib.hid (HO2.out.fresh hu (by omega));have HO3:=Lib.hid (HO3.out.fresh hu (by omega));obtain ⟨z5,hz⟩:∃z,z=(tot:Int):=⟨_,rfl⟩;have HN5:=Lib.hid hz;rw [←hz];clear hz;clear hu hr ht hm HC HX HE HU HR HSZ f0 f1 f2 f3 f4 f5 f6 f7;obtain ⟨_,⟨f0,f1,f2,f3,f4,f5,f6,f7⟩⟩:=cellsF8 HX1.out;go_upto_region 10 with fail
 have hset:=(Upd.refl (fun k=>k=xb) u5).setCell (p:=⟨xb,5,none⟩) (fun _=>rfl) (.int .i64 z5);have HX:Hid ((u5.setCell ⟨xb,5,none⟩ (.int .i64 z5)).heap[xb]?=some (.cells #[.int .i64 z0,.slice A1 ins.length cap1,.slice A2 outs.length cap2,.slice A3 moves.length cap3,.int .i64 z4,.int .i64 z5,.bool false,.string ⟨#[]⟩] 68 (0,0))):=heap_setCell_eq (i:=5) (.int .i64 z5) HX1.out;have HE:=Lib.hid (hset.heap HE1.out (by omega));have HU:=Lib.hid (upd_newE HU1.out hset HXB.out);have HR:Hid (RdS (u5.setCell ⟨xb,5,none⟩ (.int .i64 z5)) (xb+1+1) s6):=hset.heap HR1.out (by omega);have HSZ:Hid (xb+3≤(u5.setCell ⟨xb,5,none⟩ (.int .i64 z5)).heap.size):=by show _≤_;have:=hset.size;have:=HZ1.out;omega
 have HO1:=Lib.hid (HO1.out.fresh hset (by omega));have HO2:=Lib.hid (HO2.out.fresh hset (by omega));have HO3:=Lib.hid (HO3.out.fresh hset (by omega));clear hset HX1 HE1 HU1 HR1 HZ1 f0 f1 f2 f3 f4 f5 f6 f7;generalize u5.setCell ⟨xb,5,none⟩ (.int .i64 z5)=v6 at *;have HC:=Lib.hid (kNum_any (xb+1+1) s6 v6 HR.out);go_wp2_with fail
 refine HC.out.mono ?_;intro e v7 hp;have ht:=HT.out;rcases hm:readNum s6 with _ | ⟨size,s7⟩
 ·rw [hm] at hp ht;obtain ⟨rfl,hu⟩:=hp;have HTN:Hid (tgt=none):=ht;have HX2:=Lib.hid (hu.heap HX.out (by omega));have HE2:=Lib.hid (hu.heap HE.out (by omega));have HU2:=Lib.hid (HU.out.then hu (fun i hi e=>by have e':i=xb+1+1:=e;have:=HXB.out;omega));clear HT HC hm hu ht HX HE HU HR;unfold panicW;go_wp2_with fail
  refine door_bad HE2.out (fun W hW hu=>?_);refine ⟨_,results_cell_cell rfl _ rfl rfl (load_group (hu.heap HX2.out (by omega))) (load_err hW),?_⟩;rw [HTN.out];refine ⟨upd_newE HU2.out hu (by have:=HXB.out;omega),(#[.int .i64 z0,.slice A1 ins.length cap1,.slice A2 outs.length cap2,.slice A3 moves.length cap3,.int .i64 z4,.int .i64 z5,.bool false,.string ⟨#[]⟩]:Array Value).toList,rfl,rfl,fun v hv=>?_⟩;simp at hv;rcases hv with rfl | rfl | rfl | rfl | rfl | rfl | rfl | rfl<;>rfl
 rw [hm] at hp ht;obtain ⟨rfl,hr,hu⟩:=hp;simp only at ht;have HT:=Lib.hid ht;have HX1:=Lib.hid (hu.heap HX.out (by omega));have HE1:=Lib.hid (hu.heap HE.out (by omega));have HU1:=Lib.hid (HU.out.then hu (fun i hi e=>by have e':i=xb+1+1:=e;have:=HXB.out;omega));have HR1:=Lib.hid hr;have HSB:Hid (size<9223372036854775808):=readNum_bound hm;have HO1:=Lib.hid (HO1.out.fresh hu (by omega));have HO2:=Lib.hid (HO2.out.fresh hu (by omega));have HO3:=Lib.hid (HO3.out.fresh hu (by omega));clear hu hr ht hm HC HX HE HU HR HSZ;have HX:=HX1;have HE:=HE1;have HU:=HU1;have HR:=HR1;clear HX1 HE1 HU1 HR1;obtain ⟨qz,hqz⟩:∃q,q=size / 2:=⟨_,rfl⟩;have hneg:=i64_and1 size;have hwq:wrap64 ((size:Int) / 2)=(qz:Int):=by unfold wrap64;have:=HSB.out;omega
 have ht:=HT.out
 (try simp only at ht)
 rw [←hqz] at ht;have HT:=Lib.hid ht;have HQZ:Hid (qz=size / 2):=hqz;clear hqz ht;have HC:=Lib.hid (kTake_any (xb+1+1) qz s7 v7 HR.out);go_wp2_with fail
 refine HC.out.mono ?_;intro e v8 hp;have ht:=HT.out;rcases hm:takeR qz s7 with _ | ⟨m,s8⟩
 ·rw [hm] at hp ht;obtain ⟨rfl,hv8⟩:=hp;subst hv8;have hu:Upd (fun k=>k=xb+1+1) v7 v7:=Upd.refl _ _;have HTN:Hid (tgt=none):=ht;have HX2:=Lib.hid (hu.heap HX.out (by omega));have HE2:=Lib.hid (hu.heap HE.out (by omega));have HU2:=Lib.hid (HU.out.then hu (fun i hi e=>by have e':i=xb+1+1:=e;have:=HXB.out;omega));clear HT HC hm hu ht HX HE HU HR;unfold panicW;go_wp2_with fail
  refine door_bad HE2.out (fun W hW hu=>?_);refine ⟨_,results_cell_cell rfl _ rfl rfl (load_group (hu.heap HX2.out (by omega))) (load_err hW),?_⟩;rw [HTN.out];refine ⟨upd_newE HU2.out hu (by have:=HXB.out;omega),(#[.int .i64 z0,.slice A1 ins.length cap1,.slice A2 outs.length cap2,.slice A3 moves.length cap3,.int .i64 z4,.int .i64 z5,.bool false,.string ⟨#[]⟩]:Array Value).toList,rfl,rfl,fun v hv=>?_⟩;simp at hv;rcases hv with rfl | rfl | rfl | rfl | rfl | rfl | rfl | rfl<;>rfl
 rw [hm] at hp ht;obtain ⟨rfl,hr,hu⟩:=hp;have HTS:Hid (tgt=some (withMag ⟨lv,ins,outs,moves,er,tot,decide (size % 2=1),s7⟩ m)):=ht;have HX1:=Lib.hid (hu.heap HX.out (by omega));have HE1:=Lib.hid (hu.heap HE.out (by omega));have HU1:=Lib.hid (HU.out.then hu (fun i hi e=>by have e':i=xb+1+1:=e;have:=HXB.out;omega));have HO1:=Lib.hid (HO1.out.fresh hu (by omega));have HO2:=Lib.hid (HO2.out.fresh hu (by omega));have HO3:=Lib.hid (HO3.out.fresh hu (by omega));clear hu hr ht hm HC HX HE HU HR HT;obtain ⟨ng,hng⟩:∃x:Bool,x=((size:Int) % 2 == 1):=⟨_,rfl⟩;have HNG:Hid (ng=decide (size % 2=1)):=by
  show _=_;rw [hng,Bool.eq_iff_iff,beq_iff_eq,decide_eq_true_iff];omega
 rw [←hng];clear hng;obtain ⟨_,⟨f0,f1,f2,f3,f4,f5,f6,f7⟩⟩:=cellsF8 HX1.out;go_upto_region 12 with fail
 have hset:=((Upd.refl (fun k=>k=xb) v8).setCell (p:=⟨xb,6,none⟩) (fun _=>rfl) (.bool ng)).setCell (p:=⟨xb,7,none⟩) (fun _=>rfl) (.string (bs m));have HX:Hid (((v8.setCell ⟨xb,6,none⟩ (.bool ng)).setCell ⟨xb,7,none⟩ (.string (bs m))).heap[xb]?=some (.cells #[.int .i64 z0,.slice A1 ins.length cap1,.slice A2 outs.length cap2,.slice A3 moves.length cap3,.int .i64 z4,.int .i64 z5,.bool ng,.string (bs m)] 68 (0,0))):=heap_setCell_eq (i:=7) (.string (bs m)) (heap_setCell_eq (i:=6) (.bool ng) HX1.out);have HE:=Lib.hid (hset.heap HE1.out (by omega));have HU:=Lib.hid (upd_newE HU1.out hset HXB.out);have HO1:=Lib.hid (HO1.out.fresh hset (by omega));have HO2:=Lib.hid (HO2.out.fresh hset (by omega));have HO3:=Lib.hid (HO3.out.fresh hset (by omega));clear hset HX1 HE1 HU1 f0 f1 f2 f3 f4 f5 f6 f7;generalize (v8.setCell ⟨xb,6,none⟩ (.bool ng)).setCell ⟨xb,7,none⟩ (.string (bs m))=y at *;obtain ⟨⟨g0,g1,g2,g3,g4,g5,g6,g7⟩,⟨f0,f1,f2,f3,f4,f5,f6,f7⟩⟩:=cellsF8 HX.out;obtain ⟨hsx,hsu⟩:=same8 HX.out;have HSX:=Lib.hid hsx;have HSU:=Lib.hid hsu;have HE5:=Lib.hid (hsu.heap HE.out id);obtain ⟨he0,hfe⟩:=cellF1 HE5.out;clear hsx hsu;go_wp2_with fail
 have HUS2:=upd_same HE5.out;refine door_good ?_;refine ⟨_,results_cell_cell rfl _ rfl rfl (load_group (HUS2.heap HSX.out id)) (load_err (HUS2.heap HE5.out id)),?_⟩;rw [HTS.out];have hxs:=HXS.out;refine ⟨(HU.out.trans HSU.out).trans HUS2,_,_,_,?_,⟨((HO1.out.upd HSU.out).upd HUS2).mono (by omega),((HO2.out.upd HSU.out).upd HUS2).mono (by omega),((HO3.out.upd HSU.out).upd HUS2).mono (by omega)⟩⟩;rw [HN0.out,HN4.out,HN5.out,HNG.out];rfl
end Go.Proofs.YtcikldoaidmnhaaGreatDoor
namespace Go.Proofs.YtcikldoaidmnhaaGreatDoor
open Go Go.RowKit Pk Pc
set_option maxRecDepth 100000
theorem listR_len {α:Type} {one:Bytes→Option (α × Bytes)} (h:∀s x r,one s=some (x,r)→r.length≤s.length):∀(k:Nat) (s:Bytes) (l:List α) (r:Bytes),listR one k s=some (l,r)→r.length≤s.length
 | 0,s,l,r,e=>by cases e;exact Nat.le_refl _
 | k+1,s,l,r,e=>by
  rw [listR_step] at e;rcases hm:one s with _ | ⟨x,r1⟩
  ·rw [hm] at e;cases e
  ·rw [hm] at e;simp only at e;rcases hm2:listR one k r1 with _ | ⟨l2,r2⟩
   ·rw [hm2] at e;cases e
   ·rw [hm2] at e;cases e;exact Nat.le_trans (listR_len h k _ _ _ hm2) (h _ _ _ hm)
theorem manyR_len {α:Type} {one:Bytes→Option (α × Bytes)} (h:∀s x r,one s=some (x,r)→r.length≤s.length) {s:Bytes} {l:List α} {r:Bytes} (e:manyR one s=some (l,r)):r.length≤s.length:=by
 unfold manyR at e;rcases hm:readNum s with _ | ⟨n,r1⟩
 ·rw [hm] at e;cases e
 ·rw [hm] at e;simp only at e;split at e
  ·cases e
  ·exact Nat.le_trans (listR_len h _ _ _ _ e) (Nat.le_of_lt (readNum_len hm))
theorem moveR_len (s:Bytes) (x:Mv) (r:Bytes) (h:moveR s=some (x,r)):r.length≤s.length:=by
 unfold moveR at h;split at h
 ·rename_i hm
  cases h;exact listR_len (fun s x r h=>Nat.le_of_lt (readNum_len h)) _ _ _ _ hm
 ·cases h
theorem grpF_len {s:Bytes} {g:Grp} {size:Nat} (h:grpF s=some (g,size)):g.mag.length≤s.length:=by
 unfold grpF at h;split at h
 ·cases h
 ·rename_i h1
  split at h
  ·cases h
  ·rename_i h2
   split at h
   ·cases h
   ·rename_i h3
    split at h
    ·cases h
    ·rename_i h4
     split at h
     ·cases h
     ·rename_i h5
      split at h
      ·cases h
      ·rename_i h6
       split at h
       ·cases h
       ·rename_i sz s7 h7
        obtain ⟨rfl,rfl⟩:=Prod.mk.inj (Option.some.inj h);have a1:=readNum_len h1;have a2:=manyR_len (fun s x r h=>Nat.le_of_lt (partR_good h).2) h2;have a3:=manyR_len (fun s x r h=>by have:=(takeR_len h).2;omega) h3;have a4:=manyR_len moveR_len h4;have a5:=readNum_len h5;have a6:=readNum_len h6;have a7:=readNum_len h7;show s7.length≤s.length;omega
def gvOf (g:Grp):GV:=⟨g.level,g.ins.map p32,g.outs.map h32,g.moves,g.err,g.total,g.neg,g.mag⟩
theorem gvOf_g {g:Grp} (h:goodG g):(gvOf g).g=g:=by
 obtain ⟨lv,ins,outs,moves,er,tot,neg,mag⟩:=g;unfold gvOf GV.g;simp only;rw [plain_map h.1];have e:(outs.map h32).map (·.1)=outs:=by
  rw [List.map_map];have:outs.map ((fun x:H32=>x.1) ∘ h32)=outs.map id:=List.map_congr_left (fun p hp=>h32_len (h.2 p hp));rw [this,List.map_id]
 rw [e]
theorem groupO_good {s:Bytes} {g:Grp} (h:groupO s=some g):goodG g∧(g.level≤9223372036854775807∧g.err≤9223372036854775807∧g.total≤9223372036854775807)∧g.mag.length≤s.length:=by
 unfold groupO at h;rcases hk:kindM 2 s with _ | r
 ·rw [hk] at h;cases h
 ·rw [hk] at h;simp only at h;have hr:r.length≤s.length:=by
   unfold kindM at hk;split at hk
   ·cases hk
   ·split at hk
    ·cases hk;simp
    ·cases hk
  rcases hf:grpF r with _ | ⟨g',size⟩
  ·rw [hf] at h;cases h
  ·rw [hf] at h;simp only at h;rcases ht:takeR (size / 2) g'.mag with _ | ⟨m,r2⟩
   ·rw [ht] at h;cases h
   ·rw [ht] at h;cases h;obtain ⟨h1,h2,_⟩:=grpF_good hf;have h3:=grpF_len hf;have h4:=takeR_len ht;refine ⟨h1,h2,?_⟩;show m.length≤_;omega
theorem grpR_of (s:Bytes):grpR s=match groupO s with
  | none=>none
  | some g=>if rightG g=true∧groupB g=s then some g else none:=by
 unfold grpR groupO kindM;cases s with
 | nil=>rfl
 | cons c r=>
  have hc:c.toNat=2↔c=2:=⟨fun h=>UInt8.toNat_inj.1 (by rw [h];rfl),fun h=>by rw [h];rfl⟩;by_cases h:c=2
  ·subst h;simp only [ne_eq,not_true_eq_false,if_false];rw [if_pos (by decide)];simp only;rcases grpF r with _ | ⟨g,size⟩
   ·rfl
   ·simp only;by_cases hm:g.mag.length<size / 2
    ·rw [if_pos hm,takeR_short hm]
    ·rw [if_neg hm,takeR_good hm]
  ·have h2:¬c.toNat=2:=fun e=>h (hc.1 e);simp only [ne_eq,h,not_false_eq_true,if_true,if_neg h2]
set_option maxHeartbeats 2000000 in
theorem set8 {w:World} {xb:Nat} {c0 c1 c2 c3 c4 c5 c6 c7 y0 y1 y2 y3 y4 y5 y6 y7:Value} {t:TypeId} (h:w.heap[xb]?=some (.cells #[c0,c1,c2,c3,c4,c5,c6,c7] t (0,0))) :
  ((((((((w.setCell ⟨xb,0,none⟩ y0).setCell ⟨xb,1,none⟩ y1).setCell ⟨xb,2,none⟩ y2).setCell ⟨xb,3,none⟩ y3).setCell ⟨xb,4,none⟩ y4).setCell ⟨xb,5,none⟩ y5).setCell ⟨xb,6,none⟩ y6).setCell ⟨xb,7,none⟩ y7).heap[xb]?=some (.cells #[y0,y1,y2,y3,y4,y5,y6,y7] t (0,0))∧Upd (fun k=>k=xb) w ((((((((w.setCell ⟨xb,0,none⟩ y0).setCell ⟨xb,1,none⟩ y1).setCell ⟨xb,2,none⟩ y2).setCell ⟨xb,3,none⟩ y3).setCell ⟨xb,4,none⟩ y4).setCell ⟨xb,5,none⟩ y5).setCell ⟨xb,6,none⟩ y6).setCell ⟨xb,7,none⟩ y7):=by
 have h0:(w.setCell ⟨xb,0,none⟩ y0).heap[xb]?=some (.cells #[y0,c1,c2,c3,c4,c5,c6,c7] t (0,0)):=heap_setCell_eq (i:=0) y0 h;have h1:((w.setCell ⟨xb,0,none⟩ y0).setCell ⟨xb,1,none⟩ y1).heap[xb]?=some (.cells #[y0,y1,c2,c3,c4,c5,c6,c7] t (0,0)):=heap_setCell_eq (i:=1) y1 h0;have h2:(((w.setCell ⟨xb,0,none⟩ y0).setCell ⟨xb,1,none⟩ y1).setCell ⟨xb,2,none⟩ y2).heap[xb]?=some (.cells #[y0,y1,y2,c3,c4,c5,c6,c7] t (0,0)):=heap_setCell_eq (i:=2) y2 h1;have h3:((((w.setCell ⟨xb,0,none⟩ y0).setCell ⟨xb,1,none⟩ y1).setCell ⟨xb,2,none⟩ y2).setCell ⟨xb,3,none⟩ y3).heap[xb]?=some (.cells #[y0,y1,y2,y3,c4,c5,c6,c7] t (0,0)):=heap_setCell_eq (i:=3) y3 h2;have h4:(((((w.setCell ⟨xb,0,none⟩ y0).setCell ⟨xb,1,none⟩ y1).setCell ⟨xb,2,none⟩ y2).setCell ⟨xb,3,none⟩ y3).setCell ⟨xb,4,none⟩ y4).heap[xb]?=some (.cells #[y0,y1,y2,y3,y4,c5,c6,c7] t (0,0)):=heap_setCell_eq (i:=4) y4 h3;have h5:((((((w.setCell ⟨xb,0,none⟩ y0).setCell ⟨xb,1,none⟩ y1).setCell ⟨xb,2,none⟩ y2).setCell ⟨xb,3,none⟩ y3).setCell ⟨xb,4,none⟩ y4).setCell ⟨xb,5,none⟩ y5).heap[xb]?=some (.cells #[y0,y1,y2,y3,y4,y5,c6,c7] t (0,0)):=heap_setCell_eq (i:=5) y5 h4;have h6:(((((((w.setCell ⟨xb,0,none⟩ y0).setCell ⟨xb,1,none⟩ y1).setCell ⟨xb,2,none⟩ y2).setCell ⟨xb,3,none⟩ y3).setCell ⟨xb,4,none⟩ y4).setCell ⟨xb,5,none⟩ y5).setCell ⟨xb,6,none⟩ y6).heap[xb]?=some (.cells #[y0,y1,y2,y3,y4,y5,y6,c7] t (0,0)):=heap_setCell_eq (i:=6) y6 h5;have h7:((((((((w.setCell ⟨xb,0,none⟩ y0).setCell ⟨xb,1,none⟩ y1).setCell ⟨xb,2,none⟩ y2).setCell ⟨xb,3,none⟩ y3).setCell ⟨xb,4,none⟩ y4).setCell ⟨xb,5,none⟩ y5).setCell ⟨xb,6,none⟩ y6).setCell ⟨xb,7,none⟩ y7).heap[xb]?=some (.cells #[y0,y1,y2,y3,y4,y5,y6,y7] t (0,0)):=heap_setCell_eq (i:=7) y7 h6;exact ⟨h7,(((((((((Upd.refl (fun k=>k=xb) w).setCell (p:=⟨xb,0,none⟩) (fun _=>rfl) y0).setCell (p:=⟨xb,1,none⟩) (fun _=>rfl) y1).setCell (p:=⟨xb,2,none⟩) (fun _=>rfl) y2).setCell (p:=⟨xb,3,none⟩) (fun _=>rfl) y3).setCell (p:=⟨xb,4,none⟩) (fun _=>rfl) y4).setCell (p:=⟨xb,5,none⟩) (fun _=>rfl) y5).setCell (p:=⟨xb,6,none⟩) (fun _=>rfl) y6).setCell (p:=⟨xb,7,none⟩) (fun _=>rfl) y7)⟩
def groupP (o:Option Grp) (w:World) (en:Ending) (w':World):Prop:=Upd noBlk w w'∧match o with
 | some g=>∃vi vo vm,en=.returned (.tuple #[.agg (grpC g vi vo vm),.int .i64 0])∧GrpAt w.heap.size w' g vi vo vm
 | none=>en=.returned (.tuple #[.agg #[.int .i64 0,.slice none 0 0,.slice none 0 0,.slice none 0 0,.int .i64 0,.int .i64 0,.bool false,.string ⟨#[]⟩],.int .i64 13])
set_option maxHeartbeats 4000000 in
theorem OpenGroup_any (s:Bytes) (hs:s.length≤1152921504606846976) (w:World) :
  Calls Tryz.prog 35 #[.string (bs s)] w fun en w'=>groupP (grpR s) w en w':=by
 have HOP:=fun W=>Lib.hid (openGroup_any s W);obtain ⟨tgt,htgt⟩:∃t,t=grpR s:=⟨_,rfl⟩;rw [←htgt];have HT:=Lib.hid htgt;have HSL:Hid (s.length≤1152921504606846976):=hs;clear htgt hs;have HX:Hid ((w.alloc (.cells #[.int .i64 0,.slice none 0 0,.slice none 0 0,.slice none 0 0,.int .i64 0,.int .i64 0,.bool false,.string ⟨#[]⟩] 68)).heap[w.heap.size]?=some (.cells #[.int .i64 0,.slice none 0 0,.slice none 0 0,.slice none 0 0,.int .i64 0,.int .i64 0,.bool false,.string ⟨#[]⟩] 68 (0,0))):=heap_alloc_new w _;have HU0:Hid (Upd noBlk w (w.alloc (.cells #[.int .i64 0,.slice none 0 0,.slice none 0 0,.slice none 0 0,.int .i64 0,.int .i64 0,.bool false,.string ⟨#[]⟩] 68))):=(Upd.refl _ w).alloc _;go_enter Tryz.func35,Tryz.ntmps35
 go_upto_region 1 with fail
 obtain ⟨xb,hxb⟩:∃xb,xb=w.heap.size:=⟨_,rfl⟩;have HXB:Hid (w.heap.size≤xb):=by show _≤_;omega
 rw [←hxb] at HX;rw [←hxb];clear hxb;generalize w.alloc (.cells #[.int .i64 0,.slice none 0 0,.slice none 0 0,.slice none 0 0,.int .i64 0,.int .i64 0,.bool false,.string ⟨#[]⟩] 68)=w1 at *;have HOP1:=HOP w1;clear HOP;go_wp2_with fail
 refine HOP1.out.mono ?_;rintro e w2 ⟨hu,hv⟩;have HU2:=Lib.hid (HU0.out.trans hu);have HX2:=Lib.hid (hu.heap HX.out id);rcases hm:groupO s with _ | g
 ·rw [hm] at hv;obtain ⟨c,rfl,hc8,hc1⟩:=hv;have HTN:Hid (tgt=none):=by show _=_;rw [HT.out,grpR_of,hm]
  obtain ⟨W,hst,_,hw⟩:=store_row (P:=Tryz.prog) (heap_alloc_new w2 (.cells #[.int .i64 0,.slice none 0 0,.slice none 0 0,.slice none 0 0,.int .i64 0,.int .i64 0,.bool false,.string ⟨#[]⟩] 68)) (vs:=c) (by rw [hc8];rfl) hc1;have HWX:=Lib.hid (hw.heap (((Upd.refl noBlk w2).alloc (.cells #[.int .i64 0,.slice none 0 0,.slice none 0 0,.slice none 0 0,.int .i64 0,.int .i64 0,.bool false,.string ⟨#[]⟩] 68)).heap HX2.out id) (by have:=lt_of_heap HX2.out;omega));have HWU:=Lib.hid (upd_newE (HU2.out.alloc (.cells #[.int .i64 0,.slice none 0 0,.slice none 0 0,.slice none 0 0,.int .i64 0,.int .i64 0,.bool false,.string ⟨#[]⟩] 68)) hw (Nat.le_trans HU2.out.size (Nat.le_refl _)));clear HT HOP1 hu hm HX HU0 hw HX2 HU2 hc1;obtain ⟨_,⟨f0,f1,f2,f3,f4,f5,f6,f7⟩⟩:=cellsF8 HWX.out;go_wp2_with fail
  obtain ⟨hsx,hsu⟩:=same8 HWX.out
  (try simp only [Exit.inBlock,Exit.then])
  refine bodyPost_ret (results_cell_tmp1 rfl _ rfl (load_group hsx)) rfl ?_;rw [HTN.out];exact ⟨HWU.out.trans hsu,rfl⟩
 ·rw [hm] at hv;obtain ⟨vi,vo,vm,rfl,hat⟩:=hv;have HTS:Hid (tgt=if rightG g=true∧groupB g=s then some g else none):=by show _=_;rw [HT.out,grpR_of,hm]
  obtain ⟨hgood,hnum,hmag⟩:=groupO_good hm;obtain ⟨Ai,capi,hvi,_⟩:=hat.ins.form;obtain ⟨Ao,capo,hvo,_⟩:=hat.outs.form;obtain ⟨Am,capm,hvm,_⟩:=hat.moves.form;rw [List.length_map] at hvi hvo hvm;subst hvi hvo hvm;have hA:Upd noBlk w2 (w2.alloc (.cells #[.int .i64 g.level,.slice Ai g.ins.length capi,.slice Ao g.outs.length capo,.slice Am g.moves.length capm,.int .i64 g.err,.int .i64 g.total,.bool g.neg,.string (bs g.mag)] 68)):=(Upd.refl _ w2).alloc _;have HOI:=Lib.hid (hat.ins.upd hA);have HOO:=Lib.hid (hat.outs.upd hA);have hom:=hat.moves.upd hA;rw [List.map_id] at hom;have HOM:=Lib.hid hom;have HXA:=Lib.hid (hA.heap HX2.out id);have HTA:Hid ((w2.alloc (.cells #[.int .i64 g.level,.slice Ai g.ins.length capi,.slice Ao g.outs.length capo,.slice Am g.moves.length capm,.int .i64 g.err,.int .i64 g.total,.bool g.neg,.string (bs g.mag)] 68)).heap[w2.heap.size]?=some (.cells #[.int .i64 g.level,.slice Ai g.ins.length capi,.slice Ao g.outs.length capo,.slice Am g.moves.length capm,.int .i64 g.err,.int .i64 g.total,.bool g.neg,.string (bs g.mag)] 68 (0,0))):=heap_alloc_new w2 _;have HUA:=Lib.hid (HU2.out.trans hA);have HS1:Hid (xb<w1.heap.size):=lt_of_heap HX.out;have hok:(gvOf g).Ok:=⟨by have:=hnum.1;show g.level<_;omega,by have:=hnum.2.1;show g.err<_;omega,by have:=hnum.2.2;show g.total<_;omega,by have:=HSL.out;show g.mag.length≤_;omega⟩;have hsn:s≠[]:=by rintro rfl;cases hm
  have hgr:=Group_any (gvOf g) hok (.slice Ai g.ins.length capi) (.slice Ao g.outs.length capo) (.slice Am g.moves.length capm) _ HOI.out.rd HOO.out.rd HOM.out.rd;rw [gvOf_g hgood] at hgr;have HGR:Hid (Calls Tryz.prog 32 #[.agg #[.int .i64 g.level,.slice Ai g.ins.length capi,.slice Ao g.outs.length capo,.slice Am g.moves.length capm,.int .i64 g.err,.int .i64 g.total,.bool g.neg,.string (bs g.mag)]] (w2.alloc (.cells #[.int .i64 g.level,.slice Ai g.ins.length capi,.slice Ao g.outs.length capo,.slice Am g.moves.length capm,.int .i64 g.err,.int .i64 g.total,.bool g.neg,.string (bs g.mag)] 68)) fun en w'=>strR (if rightG g=true then groupB g else []) (w2.alloc (.cells #[.int .i64 g.level,.slice Ai g.ins.length capi,.slice Ao g.outs.length capo,.slice Am g.moves.length capm,.int .i64 g.err,.int .i64 g.total,.bool g.neg,.string (bs g.mag)] 68)) en w'):=hgr;clear HT HOP1 hu hm hA HX HU0 HX2 HU2 hat hgr hok hnum hmag hgood hom;unfold grpC;go_upto_region 2 with fail
  generalize w2.heap.size=tb at *;generalize w2.alloc (.cells #[.int .i64 g.level,.slice Ai g.ins.length capi,.slice Ao g.outs.length capo,.slice Am g.moves.length capm,.int .i64 g.err,.int .i64 g.total,.bool g.neg,.string (bs g.mag)] 68)=w3 at *;obtain ⟨_,⟨f0,f1,f2,f3,f4,f5,f6,f7⟩⟩:=cellsF8 HXA.out;obtain ⟨⟨g0,g1,g2,g3,g4,g5,g6,g7⟩,_⟩:=cellsF8 HTA.out;by_cases hc:rightG g=true∧groupB g=s
  ·have HTN:Hid (tgt=some g):=by show _=_;rw [HTS.out];exact if_pos hc
   obtain ⟨hc1,hc2⟩:=hc;rw [if_pos hc1,hc2] at HGR;clear HTS hc1 hc2;go_wp2_with fail
   refine HGR.out.mono ?_;rintro e w4 ⟨rfl,u4⟩;have HX4:=Lib.hid (u4.heap HXA.out id);have HT4:=Lib.hid (u4.heap HTA.out id);have HOI4:=Lib.hid (HOI.out.upd u4);have HOO4:=Lib.hid (HOO.out.upd u4);have HOM4:=Lib.hid (HOM.out.upd u4);have HU4:=Lib.hid (HUA.out.trans u4);clear u4 f0 f1 f2 f3 f4 f5 f6 f7 g0 g1 g2 g3 g4 g5 g6 g7 HGR;obtain ⟨_,⟨f0,f1,f2,f3,f4,f5,f6,f7⟩⟩:=cellsF8 HX4.out;obtain ⟨⟨g0,g1,g2,g3,g4,g5,g6,g7⟩,_⟩:=cellsF8 HT4.out;go_wp2_with fail
   obtain ⟨hz,hset⟩:=set8 (y0:=.int .i64 g.level) (y1:=.slice Ai g.ins.length capi) (y2:=.slice Ao g.outs.length capo) (y3:=.slice Am g.moves.length capm) (y4:=.int .i64 g.err) (y5:=.int .i64 g.total) (y6:=.bool g.neg) (y7:=.string (bs g.mag)) HX4.out
   (try simp only [Exit.inBlock,Exit.then])
   refine bodyPost_ret (results_cell_tmp1 rfl _ rfl (load_group hz)) rfl ?_;rw [HTN.out];have hs1:=HS1.out;have hxb:=HXB.out;refine ⟨upd_newE HU4.out hset hxb,_,_,_,rfl,⟨(HOI4.out.fresh hset hs1).mono (by omega),(HOO4.out.fresh hset hs1).mono (by omega),?_⟩⟩;rw [List.map_id];exact (HOM4.out.fresh hset hs1).mono (by omega)
  ·have HTN:Hid (tgt=none):=by show _=_;rw [HTS.out];exact if_neg hc
   have hne:((bs (if rightG g=true then groupB g else [])).toList == (bs s).toList)=false:=by
    rw [beq_eq_false_iff_ne,bs_toList,bs_toList];by_cases h1:rightG g=true
    ·rw [if_pos h1];exact fun e=>hc ⟨h1,e⟩
    ·rw [if_neg h1];exact fun e=>hsn e.symm
   clear HTS hc;generalize (if rightG g=true then groupB g else [])=z at *;go_wp2_with fail
   refine HGR.out.mono ?_;rintro e w4 ⟨rfl,u4⟩;have HX4:=Lib.hid (u4.heap HXA.out id);have HU4:=Lib.hid (HUA.out.trans u4);clear u4 f0 f1 f2 f3 f4 f5 f6 f7 g0 g1 g2 g3 g4 g5 g6 g7 HGR;obtain ⟨_,⟨f0,f1,f2,f3,f4,f5,f6,f7⟩⟩:=cellsF8 HX4.out;go_wp2_with fail
   obtain ⟨hsx,hsu⟩:=same8 HX4.out
   (try simp only [Exit.inBlock,Exit.then])
   refine bodyPost_ret (results_cell_tmp1 rfl _ rfl (load_group hsx)) rfl ?_;rw [HTN.out];exact ⟨HU4.out.trans hsu,rfl⟩
end Go.Proofs.YtcikldoaidmnhaaGreatDoor
