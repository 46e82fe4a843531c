/- Parts: Walks of the store: Open; the small version. No condition. -/
import Derived.Test.YtmgklblglpplcaaGreatDoorRPubl1
import Derived.Test.YtmgklblglpplcaaGreatDoorRPubl2
import Derived.Test.YtmgklblglpplcaaGreatDoorRPubl3
import Derived.Test.YtmgklblglpplcaaGreatDoorRPubl4
import Derived.Test.YtmgklblglpplcaaGreatDoorRPubl5
import Derived.Test.YtmgklblglpplcaaGreatDoorRPubl6
import Derived.Test.YtmgklblglpplcaaGreatDoorRPubl9
import Derived.Test.YtmgklblglpplcaaGreatDoorRPubl10
import Derived.Test.YtmgklblglpplcaaGreatDoorRPubl11
import Derived.Test.YtmgklblglpplcaaGreatDoorRPubl12
import Derived.Test.YtmgklblglpplcaaGreatDoorRPubl14
import Derived.Test.YtmgklblglpplcaaGreatDoorRPubl19
import Derived.Test.YtmgklblglpplcaaGreatDoorRPubl20
import Derived.Test.YtmgklblglpplcaaGreatDoorRPubl21
import Derived.Test.YtmgklblglpplcaaGreatDoorRPubl25
import Derived.Test.YtmgklblglpplcaaGreatDoorRPubl26
import Derived.Test.YtmgklblglpplcaaGreatDoorRPubl35
import Derived.Test.YtmgklblglpplcaaGreatDoorRPubl37
import Derived.Test.YtmgklblglpplcaaGreatDoorRPubl38
import Derived.Test.YtmgklblglpplcaaGreatDoorRPubl41
import Derived.Test.YtmgklblglpplcaaGreatDoorRPubl42
import Derived.Test.YtmgklblglpplcaaGreatDoorRPubl43
import Derived.WalkKit
import Derived.WalkSpells
import Derived.WalkLawsBesides
import Derived.Lib.Hide
import Derived.BigQuiet
import Derived.Deep.DeepFit
import Derived.Deep.DeepCutAuto
import Derived.Deep.AppendLies
import Derived.Deep.QuietTactic
import Derived.Test.YtmgklblglpplcaaGreatDoorRows
import Derived.Deep.RegionHeld3
import Derived.StillTail
import Derived.Lib.AppendStr
import Derived.Lib.AppendZeros
import Derived.Deep.MidRow
import Derived.ArgAppend
import Derived.Deep.Upon
import Derived.Maps.OwnOps
import Derived.Maps.OwnSet
import Derived.Maps.RangeWalk
import Derived.WideKeyEntry
import Derived.Lib.Bits
import Derived.Laws.EntriesVeiled
import Derived.Handy
import Derived.DeepKeys4
import Derived.Deep.CutBlock
import Derived.Test.YtmgklblglpplcaaGreatDoorShelf2
import Derived.Laws.BitsAllLaws
import Derived.Laws.BytesArg
import Derived.Test.YtmgklblglpplcaaGreatDoorShelf
import Derived.Lib.Zigzag
import Derived.Recover
import Derived.Deep.WholeRow
import Derived.Laws.IdiomStrings
import Derived.Laws.MakeOwn
import Derived.Laws.CopyOwn
import Derived.IntWalk
import Derived.RangeFuncNested
import Derived.RangeFuncBound
import Derived.RangeFuncCalls
import Derived.RangeFuncLeaves
import Derived.RangeFuncFrom
import Derived.LoopIn
import Derived.LoopNIn
import Derived.OwnWalkIn
import Derived.TacticsInMore
import Derived.Stop.BytesEq
import Derived.Defers
import Derived.Lib.SliceRun
import Derived.WalkMore
import Derived.RegionIn
import Derived.Deep.AppendSrc
namespace Go.Proofs.YtmgklblglpplcaaGreatDoor
open Go Go.RowKit Pk
set_option maxRecDepth 100000
attribute [local go_sem] Oper.semAt_some
theorem frames_any (s:Bytes) (w:World):Calls Tryz.prog 17 #[.string (bs s)] w fun e w'=>e=.returned (.func (.func 29) #[] #[.pointer (some ⟨w.heap.size,0,none⟩)])∧w'=w.alloc (.cells #[.string (bs s)] 9):=by
 have hmf:∀(fn:Fn) (first cap:Array Value) (w:World),(Instr.makeFunc fn first cap).run Tryz.prog w=.ok (.func fn first cap) w:=fun _ _ _ _=>rfl;go_enter Tryz.func17,Tryz.ntmps17
 go_wp2
 go_ret
 exact ⟨rfl,rfl⟩
theorem frames1_seq (n0 N:Nat) (w:World) (hN:w.heap[N]?=some (.cells #[.string (bs [])] 9 (0,0))) (Kp:World→World→Prop) :
  SeqStopsK Fence.wide n0 Tryz.prog 29 #[.pointer (some ⟨N,0,none⟩)] (fun x:Empty=>x.elim) Kp (fun xs=>xs=[]) (fun _=>False) 0 w:=by
 intro l J Jx W hW hJ hJx hY h0;have HN:W.heap[N]?=some (.cells #[.string (bs [])] 9 (0,0)):=(hW.block N (lt_of_heap hN)).trans hN;have H0:=Lib.hid h0;have c0:W.cell? ⟨N,0,none⟩=some (.string (bs [])):=by simp [World.cell?,HN]
 clear hJ hY h0 hN hW hJx HN;refine callsIn_of_wp Tryz.func29 rfl trivial ?_ rfl;simp only [Tryz.ntmps29,List.size_toArray,List.length_cons,List.length_nil,Nat.reduceAdd,Nat.reduceSub,Array.replicate_succ,Array.replicate_zero,List.push_toArray,List.append_toArray,List.nil_append,List.cons_append];gi_wp2_with fail
 gi_loopw [3] (fun t wr=>t=.string (bs [])∧wr=W) (fun _ _=>0)
 case atStart=>exact ⟨rfl,rfl⟩
 case round=>
  obtain ⟨rfl,rfl⟩:=hrel;gi_wp2_with fail
  go_end0
  exact ⟨⟨_,rfl⟩,.inl ⟨[],rfl,H0.out⟩⟩
theorem dsync_nil (w:World):Calls Tryz.prog 16 #[.pointer none] w fun e w'=>e=.returned (.int .i64 1)∧w'=w:=by
 go_enter Tryz.func16,Tryz.ntmps16
 go_wp2_with fail
 go_ret
 exact ⟨rfl,rfl⟩
theorem dsync_off {D:Nat} {nv sv lv:Value} {ca:Int} (w:World) (h:w.heap[D]?=some (dskB nv sv lv ca 1 0)):Calls Tryz.prog 16 #[.pointer (some ⟨D,0,none⟩)] w fun e w'=>e=.returned (.int .i64 50)∧w'=w:=by
 have H:=Lib.hid (dcall_off w h);go_enter Tryz.func16,Tryz.ntmps16
 go_wp2_with fail
 refine H.out.mono ?_;rintro e w1 ⟨rfl,rfl⟩;go_wp2_with fail
 go_ret
 exact ⟨rfl,rfl⟩
theorem open_bad (dv:Value) (k:Int) (hk:k≠0) (w:World) (hd:∃p,dv=.pointer p) (H:∀W,Upd noBlk w W→Calls Tryz.prog 16 #[dv] W fun e w'=>e=.returned (.int .i64 k)∧w'=W) :
  Calls Tryz.prog 5 #[dv] w fun e w'=>e=.returned (.tuple #[.pointer none,.int .i64 k])∧Upd noBlk w w':=by
 obtain ⟨p,rfl⟩:=hd;obtain ⟨w1,hw1⟩:∃w1,w1=(w.alloc (.cells #[.pointer none] 24)).alloc (.cells #[.int .i64 0] 25):=⟨_,rfl⟩;have U1:Hid (Upd noBlk w w1):=by show Upd _ _ _;rw [hw1];exact ((Upd.refl _ w).alloc _).alloc _
 obtain ⟨N,hN⟩:∃N,N=w.heap.size:=⟨_,rfl⟩;have b0:w1.heap[N]?=some (.cells #[.pointer none] 24 (0,0)):=by rw [hw1,hN];exact heap_alloc_keep _ (heap_alloc_new w _)
 have b1:w1.heap[N+1]?=some (.cells #[.int .i64 0] 25 (0,0)):=by
  have h:=heap_alloc_new (w.alloc (.cells #[.pointer none] 24)) (.cells #[.int .i64 0] 25);rw [hw1,hN];simpa using h
 have HS:=Lib.hid (H w1 U1.out);have B0:=Lib.hid b0;have B1:=Lib.hid b1;clear H b0 b1;refine callsIn_wide.1 (callsIn_of_wp_marks (n:=5) Tryz.func5 rfl trivial ?_ rfl);simp only [Tryz.ntmps5,List.size_toArray,List.length_cons,List.length_nil,Nat.reduceAdd,Nat.reduceSub,Array.replicate_succ,Array.replicate_zero,List.push_toArray,List.append_toArray,List.nil_append,List.cons_append];gi_wp2_with fail
 rw [←hw1,←hN];clear hw1;have HNW:=Lib.hid hN;clear hN;refine ⟨trivial,(callsIn_wide.2 HS.out).mono ?_⟩;rintro e w2 ⟨rfl,rfl⟩;obtain ⟨c0,f0⟩:w2.cell? ⟨N,0,none⟩=some (.pointer none)∧w2.frozen? ⟨N,0,none⟩=false:=by simp [World.cell?,World.frozen?,B0.out]
 obtain ⟨c1,f1⟩:w2.cell? ⟨N+1,0,none⟩=some (.int .i64 0)∧w2.frozen? ⟨N+1,0,none⟩=false:=by simp [World.cell?,World.frozen?,B1.out]
 gi_wp2_with fail
 (try simp only [Exit.inBlock,Exit.then])
 have e0:=heap_setCell_eq (i:=0) (.pointer none) B0.out;have e1:=heap_setCell_eq (i:=0) (.int .i64 k) (heap_setCell_ne (g:=N) (i:=0) (.pointer none) B1.out (by omega));have e2:=heap_setCell_ne (g:=N+1) (i:=0) (.int .i64 k) e0 (by omega);have k0:((w2.setCell ⟨N,0,none⟩ (.pointer none)).setCell ⟨N+1,0,none⟩ (.int .i64 k)).cell? ⟨N,0,none⟩=some (.pointer none):=by simp [World.cell?,e2]
 have k1:((w2.setCell ⟨N,0,none⟩ (.pointer none)).setCell ⟨N+1,0,none⟩ (.int .i64 k)).cell? ⟨N+1,0,none⟩=some (.int .i64 k):=by simp [World.cell?,e1]
 refine ⟨.tuple #[.pointer none,.int .i64 k],by simp [results,Tryz.f5,go_sem,k0,k1],rfl,?_⟩;exact ((U1.out.setCell (p:=⟨N,0,none⟩) (fun h=>by have h9:=HNW.out;simp at h;omega) _).setCell (p:=⟨N+1,0,none⟩) (fun h=>by have h9:=HNW.out;simp at h;omega) _)
theorem dQ_not {B k:Nat} {cs:Array Value} {T:TypeId} {fr:Nat × Nat} (h:T≠5∧T≠144∧T≠60):¬dQ B k (.cells cs T fr):=fun e=>by
 have:=tyQ_cells.1 e.2;simp at this;obtain ⟨h1,h2,h3⟩:=h;rcases this with e | e | e
 ·exact h1 e
 ·exact h2 e
 ·exact h3 e
theorem StoreAt.keepO {Q:Nat→Obj→Prop} {B S D M n en:Nat} {os:List (H32 × Bytes)} {rs:List H32} {l:Bytes} {w w':World} (h:StoreAt B S D M w en os rs l n) (hu:UpdO Q w w') (h1:∀cs T,T=33∨T=63∨T=36→∀k,¬Q k (.cells cs T (0,0))) (h2:∀k es c,¬Q k (.map es c)) (h3:∀k o,dQ B k o→¬Q k o):StoreAt B S D M w' en os rs l n:=by
 obtain ⟨ov,rv,m,f,k1,k2,k3,k4,k5,k6,k7,k8⟩:=h;obtain ⟨es,c,hc⟩:=k5.blk;exact ⟨ov,rv,m,f,hu.keep k1 (h1 _ _ (.inl rfl) _),k2.keepO hu (fun g cs=>h1 cs _ (.inr (.inl rfl)) g),k3,k4.keepO hu (fun g cs=>h1 cs _ (.inr (.inr rfl)) g),k5.heap (fun o ho=>hu.keep ho (fun hq=>by
  rw [hc] at ho;cases ho;exact h2 _ _ _ hq)),k6,k7,k8.1.keepO hu h3,k8.2⟩
def oQ (_:Nat) (o:Obj):Prop:=tyQ [24,25] o∨∃x,o=.deferred x
theorem oQ_cells {k:Nat} {cs:Array Value} {T:TypeId} {fr:Nat × Nat} (h:T≠24∧T≠25):¬oQ k (.cells cs T fr):=fun e=>by
 rcases e with e | ⟨x,e⟩
 ·have:=tyQ_cells.1 e;simp at this;rcases this with e | e
  ·exact h.1 e
  ·exact h.2 e
 ·cases e
set_option maxHeartbeats 4000000 in
theorem open_good {B D n:Nat} (hn:n≤1000) (w:World) (hD:DiskAt B D w [] n) :
  Calls Tryz.prog 5 #[.pointer (some ⟨D,0,none⟩)] w fun e w'=>∃S M,e=.returned (.tuple #[.pointer (some ⟨S,0,none⟩),.int .i64 0])∧StoreAt B S D M w' 0 [] [] [] (n+1)∧UpdO (dQ B) w w':=by
 have hz:∀W,(zeroValue 33).run Tryz.prog W=.ok (.agg #[.pointer none,.int .i64 0,.map none,.slice none 0 0,.slice none 0 0,.bool false]) W:=fun W=>by kernel_rfl
 have hmm:=@run_makeMap Tryz.prog;obtain ⟨w1,hw1⟩:∃w1,w1=(w.alloc (.cells #[.pointer none] 24)).alloc (.cells #[.int .i64 0] 25):=⟨_,rfl⟩;have U1:Hid (Upd noBlk w w1):=by show Upd _ _ _;rw [hw1];exact ((Upd.refl _ w).alloc _).alloc _
 obtain ⟨N,hN⟩:∃N,N=w.heap.size:=⟨_,rfl⟩;have b0:w1.heap[N]?=some (.cells #[.pointer none] 24 (0,0)):=by rw [hw1,hN];exact heap_alloc_keep _ (heap_alloc_new w _)
 have b1:w1.heap[N+1]?=some (.cells #[.int .i64 0] 25 (0,0)):=by
  have h:=heap_alloc_new (w.alloc (.cells #[.pointer none] 24)) (.cells #[.int .i64 0] 25);rw [hw1,hN];simpa using h
 have HS:=Lib.hid (dsync_any (by simp) (by omega) w1 (hD.keep U1.out));have B0:=Lib.hid b0;have B1:=Lib.hid b1;have HNN:=Lib.hid hn;clear b0 b1 hD hn;refine callsIn_wide.1 (callsIn_of_wp_marks (n:=5) Tryz.func5 rfl trivial ?_ rfl);simp only [Tryz.ntmps5,List.size_toArray,List.length_cons,List.length_nil,Nat.reduceAdd,Nat.reduceSub,Array.replicate_succ,Array.replicate_zero,List.push_toArray,List.append_toArray,List.nil_append,List.cons_append];gi_wp2_with fail
 rw [←hw1,←hN];clear hw1;have HNW:=Lib.hid hN;clear hN;refine ⟨trivial,(callsIn_wide.2 HS.out).mono ?_⟩;rintro e w2 ⟨rfl,d2,u2⟩;have D2:=Lib.hid d2;have U2:Hid (UpdO (dQ B) w w2):=(UpdO.same U1.out).trans u2;have B02:=Lib.hid (u2.keep B0.out (dQ_not (by decide)));have B12:=Lib.hid (u2.keep B1.out (dQ_not (by decide)));clear d2 u2 HS B0 B1;obtain ⟨M,hM⟩:∃M,M=w2.heap.size:=⟨_,rfl⟩;have HBM:Hid (B≤M+1∧B≤M):=by
  have h9:B≤w2.heap.size:=by
   obtain ⟨_,_,_,_,_,_,k1,_,_,_,_,_,k6⟩:=D2.out;have:=lt_of_heap k1;omega
  show _∧_;omega
 obtain ⟨wa,hwa⟩:∃wa,wa=w2.alloc (.map #[] 0):=⟨_,rfl⟩;have sa:wa.heap.size=M+1:=by rw [hwa,World.size_alloc,hM]
 obtain ⟨wb,hwb⟩:∃wb,wb=wa.alloc (strB D 0 M (.slice none 0 0) (.slice none 0 0) false):=⟨_,rfl⟩;have sb:wb.heap.size=M+1+1:=by rw [hwb,World.size_alloc,sa]
 obtain ⟨wc,hwc⟩:∃wc,wc=wb.alloc (.cells #[.pointer (some ⟨M+1,0,none⟩)] 24):=⟨_,rfl⟩;have ua:Upd noBlk w2 wa:=by rw [hwa];exact (Upd.refl _ _).alloc _
 have ub:Upd noBlk wa wb:=by rw [hwb];exact (Upd.refl _ _).alloc _
 have uc:Upd noBlk wb wc:=by rw [hwc];exact (Upd.refl _ _).alloc _
 have hs:wc.heap[M+1]?=some (strB D (0:Nat) M (.slice none 0 0) (.slice none 0 0) false):=by
  have h:=heap_alloc_new wa (strB D 0 M (.slice none 0 0) (.slice none 0 0) false);rw [sa,←hwb] at h;exact uc.heap h id
 have hp:wc.heap[M+1+1]?=some (.cells #[.pointer (some ⟨M+1,0,none⟩)] 24 (0,0)):=by
  have h:=heap_alloc_new wb (.cells #[.pointer (some ⟨M+1,0,none⟩)] 24);rw [sb,←hwc] at h;exact h
 have hm:kitHS.At wc M 0 (fun _=>none):=by
  have h:=MapKit.At.made kitHS w2;rw [←hM,←hwa] at h;exact (h.keep ub).keep uc
 have u3:Upd noBlk w2 wc:=(ua.trans ub).trans uc;have STc:Hid (StoreAt B (M+1) D M wc 0 [] [] [] (n+1)):=⟨_,_,0,_,hs,Kd.Own.nil _ _ _,fun _=>rfl,Kd.Own.nil _ _ _,hm,Nat.zero_le _,fun _=>rfl,D2.out.keep u3,HBM.out⟩;have HP:=Lib.hid hp;have B0c:=Lib.hid (u3.heap B02.out id);have B1c:=Lib.hid (u3.heap B12.out id);have Uc:Hid (UpdO (dQ B) w wc):=U2.out.trans (UpdO.same u3);have Dc:=Lib.hid (D2.out.keep u3);clear hs hp hm u3 ua ub uc sa sb D2 U2 B02 B12;gi_wp2_with fail
 unfold strB at hwb;rw [←hM,←hwa,←hwb,←hwc];clear hM hwa hwb hwc hmm hz;refine ⟨trivial,(callsIn_wide.2 (dsize_any wc Dc.out)).mono ?_⟩;rintro e w3 ⟨rfl,rfl⟩;have HRD:=Lib.hid (dread_any (l:=[]) (by simp) w3 Dc.out);simp only [List.length_nil] at HRD;gi_wp2_with fail
 refine ⟨trivial,(callsIn_wide.2 HRD.out).mono ?_⟩;rintro e w4 ⟨rfl,u4⟩;have U4:=Lib.hid u4;clear u4 HRD;gi_wp2_with fail
 refine ⟨trivial,(callsIn_wide.2 (frames_any [] w4)).mono ?_⟩;rintro e w5 ⟨rfl,hw5⟩;obtain ⟨NF,hNF⟩:∃NF,NF=w4.heap.size:=⟨_,rfl⟩;have hb5:w5.heap[NF]?=some (.cells #[.string (bs [])] 9 (0,0)):=by rw [hw5,hNF];exact heap_alloc_new w4 _
 have u5:Upd noBlk w3 w5:=U4.out.trans (by rw [hw5];exact (Upd.refl _ w4).alloc _);have U5:=Lib.hid u5;have HB5:=Lib.hid hb5;rw [←hNF];clear hw5 hNF u5 hb5;gi_wp2_with fail
 refine wpIn_rangeFunc_ownH (α:=Empty) (F:=Fence.wide) (n:=5) rfl (by omega) (gf:=29) (lb:=#[.pointer (some ⟨NF,0,none⟩)]) rfl trivial (enters_of Tryz.func29 (by kernel_rfl) rfl)
  (frames1_seq 4 NF w5 HB5.out (fun _ _=>True)) (fun _ _=>trivial) (fun _ _ _ _ _ _ _ _=>trivial) (Below.refl _ _) (fun x=>x.elim)
  (fun _ W=>Upd noBlk w5 W) (fun _ _ _=>False) (fun s A B row h hg hr=>grown_updD h (Nat.le_refl _) hg hr) (fun _ _ _ _ _ h _ _=>h) (Upd.refl _ _)
  (fun x _ _=>x.elim) (fun x=>x.elim) (fun _ _ x=>x.elim) (fun _ _ x=>x.elim) ?hdone ?hstop
 case hdone=>
  intro D' xs W hD hS hI hk;have hu:Upd noBlk w3 W:=U5.out.trans hI;have BP:=Lib.hid (hu.heap HP.out id);have BA:=Lib.hid (hu.heap B0c.out id);have BB:=Lib.hid (hu.heap B1c.out id);have STW:=Lib.hid (STc.out.keep hu);have UW:Hid (UpdO (dQ B) w W):=Uc.out.trans (UpdO.same hu);have HK:=Lib.hid hk;have HND:Hid (N+1<D'):=by have h9:=lt_of_heap (U5.out.heap B1c.out id);show _<_;omega
  obtain ⟨c0,f0⟩:W.cell? ⟨N,0,none⟩=some (.pointer none)∧W.frozen? ⟨N,0,none⟩=false:=by simp [World.cell?,World.frozen?,BA.out]
  obtain ⟨c1,f1⟩:W.cell? ⟨N+1,0,none⟩=some (.int .i64 0)∧W.frozen? ⟨N+1,0,none⟩=false:=by simp [World.cell?,World.frozen?,BB.out]
  have c5:W.cell? ⟨M+1+1,0,none⟩=some (.pointer (some ⟨M+1,0,none⟩)):=by simp [World.cell?,BP.out]
  clear hD hS hI hk hu;gi_wp2_with fail
  obtain ⟨V,hV⟩:∃V,V=W.setCell ⟨N,0,none⟩ (.pointer (some ⟨M+1,0,none⟩)):=⟨_,rfl⟩;obtain ⟨Z,hZ⟩:∃Z,Z=V.setCell ⟨N+1,0,none⟩ (.int .i64 0):=⟨_,rfl⟩;have v0:V.heap[N]?=some (.cells #[.pointer (some ⟨M+1,0,none⟩)] 24 (0,0)):=by rw [hV];exact (heap_setCell_eq (i:=0) _ BA.out).trans rfl
  have v1:V.heap[N+1]?=some (.cells #[.int .i64 0] 25 (0,0)):=by rw [hV];exact heap_setCell_ne _ BB.out (by omega)
  have v2:V.heap[D']?=some (.deferred (some [])):=by rw [hV];exact heap_setCell_ne _ HK.out (by have:=HND.out;omega)
  have z0:Z.heap[N]?=some (.cells #[.pointer (some ⟨M+1,0,none⟩)] 24 (0,0)):=by rw [hZ];exact heap_setCell_ne _ v0 (by omega)
  have z1:Z.heap[N+1]?=some (.cells #[.int .i64 0] 25 (0,0)):=by rw [hZ];exact (heap_setCell_eq (i:=0) _ v1).trans rfl
  have z2:Z.heap[D']?=some (.deferred (some [])):=by rw [hZ];exact heap_setCell_ne _ v2 (by have:=HND.out;omega)
  have o1:UpdO oQ W V:=by rw [hV];exact (UpdO.refl _ W).setCell BA.out (.inl (tyQ_cells.2 (by simp))) _
  have o2:UpdO oQ V Z:=by rw [hZ];exact (UpdO.refl _ V).setCell v1 (.inl (tyQ_cells.2 (by simp))) _
  have o3:UpdO oQ Z (Z.putObj D' (.deferred none)):=UpdO.blk (upd_putObj0 Z D' _) z2 (.inr ⟨_,rfl⟩);have hall:Upd (fun k=>k=N∨k=N+1∨k=D') W (Z.putObj D' (.deferred none)):=by
   have a1:Upd (fun k=>k=N∨k=N+1∨k=D') W V:=by rw [hV];exact (Upd.refl _ W).setCell (p:=⟨N,0,none⟩) (fun _=>.inl rfl) _
   have a2:Upd (fun k=>k=N∨k=N+1∨k=D') V Z:=by rw [hZ];exact (Upd.refl _ V).setCell (p:=⟨N+1,0,none⟩) (fun _=>.inr (.inl rfl)) _
   exact (a1.trans a2).trans ((upd_putObj0 Z D' _).mono (fun k _ e=>.inr (.inr e)))
  have p0:(Z.putObj D' (.deferred none)).heap[N]?=some (.cells #[.pointer (some ⟨M+1,0,none⟩)] 24 (0,0)):=by rw [World.putObj_heap_other (by have:=HND.out;omega)];exact z0
  have p1:(Z.putObj D' (.deferred none)).heap[N+1]?=some (.cells #[.int .i64 0] 25 (0,0)):=by rw [World.putObj_heap_other (by have:=HND.out;omega)];exact z1
  have k0:(Z.putObj D' (.deferred none)).cell? ⟨N,0,none⟩=some (.pointer (some ⟨M+1,0,none⟩)):=by simp [World.cell?,p0]
  have k1:(Z.putObj D' (.deferred none)).cell? ⟨N+1,0,none⟩=some (.int .i64 0):=by simp [World.cell?,p1]
  rw [←hV,←hZ];refine ⟨by simp,.inl ⟨_,_,rfl,run_takeDeferred z2,?_⟩⟩;refine ⟨.tuple #[.pointer (some ⟨M+1,0,none⟩),.int .i64 0],by simp [results,Tryz.f5,go_sem,k0,k1],M+1,M,rfl,?_,?_⟩
  ·refine STW.out.keepO ((o1.trans o2).trans o3) (fun cs T hT _=>oQ_cells ?_) (fun _ es c h=>?_) (fun _ o hd h=>?_)
   ·rcases hT with rfl | rfl | rfl<;>decide
   ·rcases h with ⟨_,_,_,e,_⟩ | ⟨_,e⟩<;>cases e
   ·obtain ⟨_,cs,T,fr,rfl,hT⟩:=hd;simp at hT;refine oQ_cells ?_ h;rcases hT with rfl | rfl | rfl<;>decide
  ·have hu:Upd (obF (dQ B) w) w W:=UW.out;exact hu.then hall (fun i hi e=>by
    have h1:=HNW.out;have h2:=HND.out;rcases e with e | e | e<;>omega)
 case hstop=>exact fun _ _ _ _ _ _ h _=>h.elim
end Go.Proofs.YtmgklblglpplcaaGreatDoor
