/- Parts: Walks of the packets' program: a cluster's packet is opened, as it comes. No condition. Walks of the packets' program: an abandoned reading is caught. No condition. Walks of the program's mesh: check, CheckOpen. No condition. Walks of the program's mesh: directed. No condition. -/
import Derived.Test.YtcikldoaidmnhaaGreatDoorQFace8
import Derived.Test.YtcikldoaidmnhaaGreatDoorQFace9
import Derived.Test.YtcikldoaidmnhaaGreatDoorQFace15
import Derived.Test.YtcikldoaidmnhaaGreatDoorQFace17
import Derived.Recover
import Derived.Deep.RegionHeld3
namespace Go.Proofs.YtcikldoaidmnhaaGreatDoor
open Go Go.RowKit Pk Pc
set_option maxRecDepth 100000
theorem cellF1 {w:World} {b:Nat} {x:Value} {t:TypeId} (h:w.heap[b]?=some (.cells #[x] t (0,0))):w.cell? ⟨b,0,none⟩=some x∧w.frozen? ⟨b,0,none⟩=false:=by simp [World.cell?,World.frozen?,h]
set_option maxHeartbeats 1000000 in
theorem caught_panic (b:Nat) (x:Value) (T:TypeId) (w:World) (hb:w.heap[b]?=some (.cells #[x] T (0,0))) :
  CallsD Tryz.prog 113 #[.pointer (some ⟨b,0,none⟩)] (.panicking [{ v:=wrongV,recovered:=false }]) w fun e u' w'=>
   e=.returned (.tuple #[])∧u'=.panicking [{ v:=wrongV,recovered:=true }]∧w'=(w.alloc (.cells #[] 224)).setCell ⟨b,0,none⟩ (.int .i64 13):=by
 obtain ⟨hc,hz⟩:=cellF1 (((Upd.refl noBlk w).alloc (.cells #[] 224)).heap hb id);unfold wrongV;refine callsD_of_wpS Tryz.func113 rfl fun c₀ cs hu=>?_;simp only [Tryz.ntmps113,List.size_toArray,List.length_cons,List.length_nil,Nat.reduceAdd,Nat.reduceSub,Array.replicate_succ,
  Array.replicate_zero,List.push_toArray,List.append_toArray,List.nil_append,List.cons_append]
 apply wpS_seq;apply wpS_region;generalize hQ:Exit.thenS (Code.wpS _ _ _) _=Q;simp only [List.size_toArray,List.length_cons,List.length_nil,Nat.reduceAdd,List.range,List.range.loop];rw [wpOpsS];go_simp
 have hr:recoverD (c₀ :: cs)=some (.iface 224 (.agg #[]),{ c₀ with mode:=.panicking [{ v:=.iface 224 (.agg #[]),recovered:=true }] } :: cs):=by simp only [recoverD,hu]
 rw [hr];simp only;rw [wpOpsS];go_simp
 rw [wpOpsS,←hQ];refine wpS_of_wp ?_;clear hQ Q hr;have hta:∀W:World,(Instr.typeAssert (.iface 224 (.agg #[])) 20 224 true).run Tryz.prog W=.ok (.tuple #[.agg #[],.bool true]) W:=fun _=>by kernel_rfl
 go_wp2_with fail
 exact ⟨rfl,_,rfl,_,results_none rfl _ _ _,rfl,rfl,rfl⟩
set_option maxHeartbeats 1000000 in
theorem caught_idle (p:Addr) (w:World) :
  CallsD Tryz.prog 113 #[.pointer (some p)] .returning w fun e u' w'=>e=.returned (.tuple #[])∧u'=.returning∧w'=w:=by
 refine callsD_of_wpS Tryz.func113 rfl fun c₀ cs hu=>?_;simp only [Tryz.ntmps113,List.size_toArray,List.length_cons,List.length_nil,Nat.reduceAdd,Nat.reduceSub,Array.replicate_succ,
  Array.replicate_zero,List.push_toArray,List.append_toArray,List.nil_append,List.cons_append]
 apply wpS_seq;apply wpS_region;generalize hQ:Exit.thenS (Code.wpS _ _ _) _=Q;simp only [List.size_toArray,List.length_cons,List.length_nil,Nat.reduceAdd,List.range,List.range.loop];rw [wpOpsS];go_simp
 have hr:recoverD (c₀ :: cs)=none:=by simp only [recoverD,hu]
 rw [hr];simp only;rw [wpOpsS];go_simp
 rw [wpOpsS,←hQ];refine wpS_of_wp ?_;clear hQ Q hr;go_wp2_with fail
 refine ⟨rfl,.returning,?_,_,results_none rfl _ _ _,rfl,rfl,rfl⟩;cases c₀;simp only at hu;rw [hu]
theorem load_err {w:World} {eb:Nat} {x:Value} {T:TypeId} (h:w.heap[eb]?=some (.cells #[x] T (0,0))):(loadVar 33 ⟨eb,0,none⟩).run Tryz.prog w=.ok x w:=by
 obtain ⟨hc,_⟩:=cellF1 h;simp [loadVar,go_sem,hc]
theorem results_tmp_cell {fn:Func} {t p:Tmp} {ty:TypeId} (h:fn.results=#[.tmp t,.cell p ty]) (tmps:Array Value) {P:Program} {w:World} {a:Addr} {x:Value} (hp:tmps.getD p undef=.pointer (some a)) (hl:(loadVar ty a).run P w=.ok x w) :
  (results fn tmps).run P w=.ok (.tuple #[tmps.getD t undef,x]) w:=by
 have hp':tmps[p]?.getD undef=.pointer (some a):=by simpa using hp
 simp only [results,h];simp [Result.andThen,asAddr,hp',hl]
theorem results_cell_cell {fn:Func} {t p:Tmp} {ty ty2:TypeId} (h:fn.results=#[.cell t ty2,.cell p ty]) (tmps:Array Value) {P:Program} {w:World} {a a2:Addr} {x x2:Value} (ht:tmps.getD t undef=.pointer (some a2)) (hp:tmps.getD p undef=.pointer (some a)) (hl2:(loadVar ty2 a2).run P w=.ok x2 w) (hl:(loadVar ty a).run P w=.ok x w) :
  (results fn tmps).run P w=.ok (.tuple #[x2,x]) w:=by
 have hp':tmps[p]?.getD undef=.pointer (some a):=by simpa using hp
 have ht':tmps[t]?.getD undef=.pointer (some a2):=by simpa using ht
 simp only [results,h];simp [Sem.run_bind,Result.andThen,asAddr,hp',ht',hl,hl2]
theorem door_bad {fn:Func} {tmps:Array Value} {R:Ending→World→Prop} {eb:Nat} {x:Value} {T:TypeId} {w:World} (hb:w.heap[eb]?=some (.cells #[x] T (0,0)))
  (h:∀W,W.heap[eb]?=some (.cells #[.int .i64 13] T (0,0))→Upd (fun k=>k=eb) w W→∃v,(results fn tmps).run Tryz.prog W=.ok v W∧R (.returned v) W) :
  bodyPostD Tryz.prog fn R (.panic [{ v:=wrongV,recovered:=false }]) { tmps:=tmps,defers:=[{ target:=.fn (.func 113) #[],args:=#[.pointer (some ⟨eb,0,none⟩)] }] } w:=by
 refine leaves_cons (f:=113) (args:=#[.pointer (some ⟨eb,0,none⟩)]) (by simp) (by simp [go_sem]) ?_;refine (caught_panic _ _ _ _ hb).mono ?_;rintro e u' w'' ⟨rfl,rfl,rfl⟩;have hu:Upd (fun k=>k=eb) w (w.alloc (.cells #[] 224)):=(Upd.refl _ w).alloc _;refine h _ (heap_setCell_eq (i:=0) (.int .i64 13) (((Upd.refl noBlk w).alloc _).heap hb id)) (hu.setCell (p:=⟨eb,0,none⟩) (fun _=>rfl) _)
theorem door_good {fn:Func} {tmps:Array Value} {R:Ending→World→Prop} {eb:Nat} {w:World} (h:∃v,(results fn tmps).run Tryz.prog w=.ok v w∧R (.returned v) w) :
  bodyPostD Tryz.prog fn R .ret { tmps:=tmps,defers:=[{ target:=.fn (.func 113) #[],args:=#[.pointer (some ⟨eb,0,none⟩)] }] } w:=by
 refine leaves_cons (f:=113) (args:=#[.pointer (some ⟨eb,0,none⟩)]) (by simp) (by simp [go_sem]) ?_;refine (caught_idle _ _).mono ?_;rintro e u' w'' ⟨rfl,rfl,rfl⟩;exact h
end Go.Proofs.YtcikldoaidmnhaaGreatDoor
namespace Go.Proofs.YtcikldoaidmnhaaGreatDoor
open Go Go.RowKit Pk Pc
set_option maxRecDepth 100000
theorem upd_newE {w w1 w2:World} {k:Nat} (h:Upd noBlk w w1) (h2:Upd (fun i=>i=k) w1 w2) (hk:w.heap.size≤k):Upd noBlk w w2:=h.then h2 (fun i hi e=>by have e':i=k:=e;omega)
set_option maxHeartbeats 2000000 in
theorem openCluster_bad (l:List Nat) (hl:∀d,d∈l→d<256) (hb:∀code,l≠1 :: code) (w:World) :
  Calls Tryz.prog 67 #[.string (str l)] w fun en w'=>∃v,en=.returned (.tuple #[v,.int .i64 13])∧Upd noBlk w w':=by
 have HF:=fun W=>Lib.hid (fail_any W);cases l with
 | nil=>
  have he:(str ([]:List Nat)).toList.isEmpty=true:=by rw [str_toList];rfl
  go_enter_defers Tryz.func67,Tryz.ntmps67
  go_wp2_with fail
  refine (HF _).out.mono ?_;rintro e w2 ⟨rfl,rfl⟩;unfold panicW;go_wp2_with fail
  refine door_bad (heap_alloc_new w (.cells #[.int .i64 0] 33)) (fun W hW hu=>?_);exact ⟨_,results_tmp_cell rfl _ rfl (load_err hW),⟨_,rfl,upd_newE ((Upd.refl noBlk w).alloc _) hu (Nat.le_refl _)⟩⟩
 | cons a code=>
  have he:(str (a :: code)).toList.isEmpty=false:=by rw [str_toList];rfl
  have hz:0<(str (a :: code)).size:=by rw [str_size];simp
  have hne:¬a=1:=fun e=>hb code (by rw [e]);have h0:=str_get (l:=a :: code) (i:=0) (by simp) hl hz;go_enter_defers Tryz.func67,Tryz.ntmps67
  go_wp2_with fail
  refine (HF _).out.mono ?_;rintro e w2 ⟨rfl,rfl⟩;unfold panicW;go_wp2_with fail
  refine door_bad (heap_alloc_new w (.cells #[.int .i64 0] 33)) (fun W hW hu=>?_);exact ⟨_,results_tmp_cell rfl _ rfl (load_err hW),⟨_,rfl,upd_newE ((Upd.refl noBlk w).alloc _) hu (Nat.le_refl _)⟩⟩
theorem set2 {w:World} {b:Nat} {x0 x1 y0 y1:Value} {t:TypeId} (h:w.heap[b]?=some (.cells #[x0,x1] t (0,0))):((w.setCell ⟨b,0,none⟩ y0).setCell ⟨b,1,none⟩ y1).heap[b]?=some (.cells #[y0,y1] t (0,0)):=heap_setCell_eq (i:=1) y1 (heap_setCell_eq (i:=0) y0 h)
theorem cellsF2 {w:World} {b:Nat} {x0 x1:Value} {t:TypeId} (h:w.heap[b]?=some (.cells #[x0,x1] t (0,0))):(w.cell? ⟨b,0,none⟩=some x0∧w.cell? ⟨b,1,none⟩=some x1)∧(w.frozen? ⟨b,0,none⟩=false∧w.frozen? ⟨b,1,none⟩=false):=by simp [World.cell?,World.frozen?,h]
theorem many_open (code:List Nat):manyM (D.ofCode code)=openM false (1 :: code):=by
 unfold manyM numM;show _=if ((D.ofCode code).number 64).ok=true∧((D.ofCode code).number 64).n<129 then _ else _;by_cases h:((D.ofCode code).number 64).ok=true∧((D.ofCode code).number 64).n<129
 ·rw [if_pos h,if_pos ⟨h.1,by have:=h.2;omega⟩]
 ·rw [if_neg h,if_neg (fun k=>h ⟨k.1,by have:=k.2;omega⟩)]
theorem CR.make {w1 wl wz:World} {b br ob:Nat} {d:D} {G0:Nat→Prop} (hS:SRep wl b Wk.init G0) (hR:RRep wl br d (·=br)) (hG:∀k,G0 k→w1.heap.size≤k∧k≠ob∧k≠br) (hb:w1.heap.size≤br∧br≠ob) (ho:w1.heap.size≤ob) (hu:Upd noBlk w1 wl) (hz:Upd (fun k=>k=ob) wl wz):CR noBlk noBlk w1 wz b Wk.init br d:=
 ⟨⟨G0,(·=br),hS.upd hz (fun k hk e=>(hG k hk).2.1 e),hR.upd hz (fun k hk e=>hb.2 (by rw [←show k=br from hk];exact e)),fun k hk e=>(hG k hk).2.2 e,fun k hk=>.inr (by
  rcases hk with h | h
  ·exact (hG k h).1
  ·have h':k=br:=h;rw [h'];exact hb.1)⟩,(hu.mono (fun _ _ h=>h.elim)).then hz (fun i hi e=>by have e':i=ob:=e;omega)⟩
theorem upd_same {w:World} {b:Nat} {x:Value} {T:TypeId} (h:w.heap[b]?=some (.cells #[x] T (0,0))):Upd noBlk w (w.setCell ⟨b,0,none⟩ x):=by
 obtain ⟨h1,h2,h3,h4,h5⟩:=(Upd.refl (fun k=>k=b) w).setCell (p:=⟨b,0,none⟩) (fun _=>rfl) x;refine ⟨h1,h2,h3,h4,fun i hi _=>?_⟩;by_cases e:i=b
 ·subst e;rw [heap_setCell_eq (i:=0) x h,h];rfl
 ·exact h5 i hi e
def openQ (o:Option (List Tri)) (w:World) (en:Ending) (w':World):Prop:=Upd noBlk w w'∧∃v,match o with
 | some l=>en=.returned (.tuple #[v,.int .i64 0])∧kTri.Rd w' v (canon l)
 | none=>en=.returned (.tuple #[v,.int .i64 13])
set_option maxHeartbeats 4000000 in
theorem openCluster_one (code:List Nat) (hl:∀d,d∈code→d<256) (w:World) :
  Calls Tryz.prog 67 #[.string (str (1 :: code))] w fun en w'=>openQ (openM false (1 :: code)) w en w':=by
 obtain ⟨tgt,htgt⟩:∃t,t=openM false (1 :: code):=⟨_,rfl⟩;rw [←htgt];rw [←many_open] at htgt;have HT:=Lib.hid htgt;have he:(str (1 :: code)).toList.isEmpty=false:=by rw [str_toList];rfl
 have hz:0<(str (1 :: code)).size:=by rw [str_size];simp
 have h0:=str_get (l:=1 :: code) (i:=0) (by simp) (fun d hd=>(List.mem_cons.1 hd).elim (fun e=>by rw [e];decide) (hl d)) hz;have HSL:Hid ((str (1 :: code)).extract 1 (str (1 :: code)).size=str code):=by show _=_;rw [str_extract,str_size];simp
 have HL:=Lib.hid hl;have HE:=Lib.hid (heap_alloc_new w (.cells #[.int .i64 0] 33));have HU0:Hid (Upd noBlk w (w.alloc (.cells #[.int .i64 0] 33))):=(Upd.refl _ w).alloc _;clear hl htgt;go_enter_defers Tryz.func67,Tryz.ntmps67
 obtain ⟨w1,hw1⟩:∃w1,w1=w.alloc (.cells #[.int .i64 0] 33):=⟨_,rfl⟩;go_upto_region 4 with fail
 rw [←hw1] at HE HU0;rw [←hw1];clear hw1;obtain ⟨eb,heb⟩:∃eb,eb=w.heap.size:=⟨_,rfl⟩;have HEB:Hid (w.heap.size≤eb):=by show _≤_;omega
 rw [←heb] at HE;rw [←heb];clear heb;have HZ1:Hid ((1:Int)≤(((str (1 :: code)).size:Nat):Int)):=by show _≤_;omega
 clear h0 he;have HLTC:Hid (∀x,x∈code→x<256):=HL.out;go_cut [4] from 13 to 17 (fun c wc=>∃(ob b br:Nat),c=.pointer (some ⟨ob,0,none⟩)∧wc.heap[ob]?=some (.cells #[.pointer (some ⟨b,0,none⟩),.pointer (some ⟨br,0,none⟩)] 183 (0,0))∧CR noBlk noBlk w1 wc b Wk.init br (D.ofCode code))
 case first=>
  refine wp_region_noPanic ?_;refine wp_region_tree 6 (OT.sures [1,2] (.fork 0 (.fork 3 (.sure 4 (.run 5 .nil)) 5 (.run 3 (.sure 4 .nil))) 5 (.run 0 (.run 3 (.sure 4 .nil))))) (fun _=>True) (by kernel_rfl) (by kernel_rfl) (fun c a d v w h=>h.elim) trivial ?_;simp only [OT.sures]
  (apply wpT_sure rfl rfl;focus (intro w' hw';go_simp;rfl))
  (apply wpT_sure rfl rfl;focus (intro w' hw';have hsl:=HSL.out;have h1:=HZ1.out;go_simp;rfl))
  refine wpT_fork _ _ (fun _ h=>h) (fun _ h=>h) rfl rfl (fun K' hK=>?_) (fun K' hK=>?_)
  ·go_simp
   refine (newState_any _).mono ?_;rintro e s1 ⟨rfl,hs1,u1⟩;have HS1:=Lib.hid hs1;have U1:=Lib.hid u1;refine hK _ _ ⟨trivial,?_⟩;clear hK K' hs1 u1;have hz1:w1.heap.size≤s1.heap.size:=U1.out.size;refine wpT_fork _ _ (fun _ h=>h) (fun _ h=>h) rfl rfl (fun K' hK=>?_) (fun K' hK=>?_)
   ·go_simp
    have HRR:=Lib.hid (NewReader_rep (code:=code) HLTC.out s1);refine (NewReader_any code s1).mono ?_;rintro e s2 ⟨rfl,hs2⟩;have HZ2:Hid (s2.heap.size=s1.heap.size+1):=by show _=_;rw [←hs2];exact World.size_alloc _ _
    have U2:Hid (Upd noBlk s1 s2):=by show Upd _ _ _;rw [←hs2];exact (Upd.refl _ s1).alloc _
    rw [hs2] at HRR;clear hs2;refine hK _ _ ⟨trivial,?_⟩;clear hK K'
    (apply wpT_sure rfl rfl;focus (intro w' hw';go_simp;rfl))
    refine wpT_run _ (fun _ h=>h) rfl (fun K' hK=>?_);go_simp
    refine hK _ _ ⟨trivial,?_⟩;clear hK K';have hk:∀k,(k=w1.heap.size∨k=w1.heap.size+1∨k=w1.heap.size+2)→w1.heap.size≤k∧k<s1.heap.size:=fun k hk=>⟨by omega,HS1.out.lt k hk⟩;refine wpT_nil ?_;have h4:=cellsF2 (heap_alloc_new s2 (.cells #[.pointer none,.pointer none] 183));obtain ⟨_,⟨f0,f1⟩⟩:=h4;go_wp2_with fail
    refine NoPanic.normal ?_;go_wp2_with fail
    go_meet
    refine ⟨s2.heap.size,(w1.heap.size+2),s1.heap.size,rfl,heap_alloc_new s2 _,CR.make (wl:=s2) (ob:=s2.heap.size) (HS1.out.upd U2.out (fun _ _=>id)) HRR.out ?_ ?_ ?_ (((Upd.refl noBlk w1).drew.trans U1.out).trans U2.out) ((Upd.refl _ s2).alloc _)⟩
    ·intro k h;have h1:=hk k h;have:=HZ2.out;omega
    ·have:=HZ2.out;omega
    ·have:=HZ2.out;omega
   ·go_simp
    have HOB:=Lib.hid (heap_alloc_new s1 (.cells #[.pointer none,.pointer none] 183));have HZA:Hid ((s1.alloc (.cells #[.pointer none,.pointer none] 183)).heap.size=s1.heap.size+1):=World.size_alloc _ _;have hk:∀k,(k=w1.heap.size∨k=w1.heap.size+1∨k=w1.heap.size+2)→w1.heap.size≤k∧k<s1.heap.size:=fun k hk=>⟨by omega,HS1.out.lt k hk⟩;have HSA:=Lib.hid (HS1.out.upd ((Upd.refl noBlk s1).alloc (.cells #[.pointer none,.pointer none] 183)) (fun _ _=>id));have HUA:=Lib.hid (((Upd.refl noBlk w1).drew.trans U1.out).alloc (.cells #[.pointer none,.pointer none] 183));refine hK _ _ ⟨trivial,?_⟩;clear hK K';generalize s1.alloc (.cells #[.pointer none,.pointer none] 183)=sa at *;refine wpT_run _ (fun _ h=>h) rfl (fun K' hK=>?_);go_simp
    have HRR:=Lib.hid (NewReader_rep (code:=code) HLTC.out sa);refine (NewReader_any code sa).mono ?_;rintro e s2 ⟨rfl,hs2⟩;have HZ2:Hid (s2.heap.size=sa.heap.size+1):=by show _=_;rw [←hs2];exact World.size_alloc _ _
    have U2:Hid (Upd noBlk sa s2):=by show Upd _ _ _;rw [←hs2];exact (Upd.refl _ sa).alloc _
    rw [hs2] at HRR;clear hs2;refine hK _ _ ⟨trivial,?_⟩;clear hK K'
    (apply wpT_sure rfl rfl;focus (intro w' hw';go_simp;rfl))
    refine wpT_nil ?_;have h4:=cellsF2 (U2.out.heap HOB.out id);obtain ⟨_,⟨f0,f1⟩⟩:=h4;go_wp2_with fail
    refine NoPanic.normal ?_;go_wp2_with fail
    go_meet
    refine ⟨s1.heap.size,(w1.heap.size+2),sa.heap.size,rfl,set2 (U2.out.heap HOB.out id),CR.make (wl:=s2) (ob:=s1.heap.size) (HSA.out.upd U2.out (fun _ _=>id)) HRR.out ?_ ?_ ?_ (HUA.out.trans U2.out) (((Upd.refl (fun k=>k=s1.heap.size) s2).setCell (p:=⟨s1.heap.size,0,none⟩) (fun _=>rfl) _).setCell (p:=⟨s1.heap.size,1,none⟩) (fun _=>rfl) _)⟩
    ·intro k h;have h1:=hk k h;have:=HZ2.out;have:=HZA.out;omega
    ·have:=HZ2.out;have:=HZA.out;omega
    ·have:=HZ2.out;have:=HZA.out;omega
  ·go_simp
   have HOB:=Lib.hid (heap_alloc_new w1 (.cells #[.pointer none,.pointer none] 183));have HZA:Hid (((w1.alloc (.cells #[.pointer none,.pointer none] 183)).drew).heap.size=w1.heap.size+1):=World.size_alloc _ _;have HUA:=Lib.hid ((Upd.refl noBlk w1).alloc (.cells #[.pointer none,.pointer none] 183)).drew;have HOB2:Hid (((w1.alloc (.cells #[.pointer none,.pointer none] 183)).drew).heap[w1.heap.size]?=some (.cells #[.pointer none,.pointer none] 183 (0,0))):=HOB.out;clear HOB;refine hK _ _ ⟨trivial,?_⟩;clear hK K';generalize (w1.alloc (.cells #[.pointer none,.pointer none] 183)).drew=sa at *;refine wpT_run _ (fun _ h=>h) rfl (fun K' hK=>?_);go_simp
   refine (newState_any _).mono ?_;rintro e s1 ⟨rfl,hs1,u1⟩;have HS1:=Lib.hid hs1;have U1:=Lib.hid u1;refine hK _ _ ⟨trivial,?_⟩;clear hK K' hs1 u1;have hk:∀k,(k=sa.heap.size∨k=sa.heap.size+1∨k=sa.heap.size+2)→sa.heap.size≤k∧k<s1.heap.size:=fun k hk=>⟨by omega,HS1.out.lt k hk⟩;have hz1:sa.heap.size≤s1.heap.size:=U1.out.size;refine wpT_run _ (fun _ h=>h) rfl (fun K' hK=>?_);go_simp
   have HRR:=Lib.hid (NewReader_rep (code:=code) HLTC.out s1);refine (NewReader_any code s1).mono ?_;rintro e s2 ⟨rfl,hs2⟩;have HZ2:Hid (s2.heap.size=s1.heap.size+1):=by show _=_;rw [←hs2];exact World.size_alloc _ _
   have U2:Hid (Upd noBlk s1 s2):=by show Upd _ _ _;rw [←hs2];exact (Upd.refl _ s1).alloc _
   rw [hs2] at HRR;clear hs2;refine hK _ _ ⟨trivial,?_⟩;clear hK K'
   (apply wpT_sure rfl rfl;focus (intro w' hw';go_simp;rfl))
   refine wpT_nil ?_;have h4:=cellsF2 (U2.out.heap (U1.out.heap HOB2.out id) id);obtain ⟨_,⟨f0,f1⟩⟩:=h4;go_wp2_with fail
   refine NoPanic.normal ?_;go_wp2_with fail
   go_meet
   refine ⟨w1.heap.size,(sa.heap.size+2),s1.heap.size,rfl,set2 (U2.out.heap (U1.out.heap HOB2.out id) id),CR.make (wl:=s2) (ob:=w1.heap.size) (HS1.out.upd U2.out (fun _ _=>id)) HRR.out ?_ ?_ ?_ ((HUA.out.trans U1.out).trans U2.out) (((Upd.refl (fun k=>k=w1.heap.size) s2).setCell (p:=⟨w1.heap.size,0,none⟩) (fun _=>rfl) _).setCell (p:=⟨w1.heap.size,1,none⟩) (fun _=>rfl) _)⟩
   ·intro k h;have h1:=hk k h;have:=HZ2.out;have:=HZA.out;omega
   ·have:=HZ2.out;have:=HZA.out;omega
   ·have:=HZ2.out;have:=HZA.out;omega
 case rest=>
  obtain ⟨ob,b,br,rfl,ho,hc⟩:=hcut;have HO:=Lib.hid ho;have HC:=Lib.hid hc;have HEC:=Lib.hid (hc.keepObj HE.out id id);have HOC:=Lib.hid (ocluster_any hc);clear ho hc;obtain ⟨b0,b1⟩:=cells2 HO.out;go_wp2_with fail
  refine HOC.out.mono ?_;intro e w5 hp;rcases hm:manyM (D.ofCode code) with _ | l
  ·rw [hm] at hp;obtain ⟨rfl,hu⟩:=hp;have HTN:Hid (tgt=none):=by show _=_;rw [HT.out,hm]
   have HU5:=Lib.hid (hu.mono (G:=noBlk) (fun _ _ h=>h.elim id id));clear hu b0 b1 HOC hm;unfold panicW;go_wp2_with fail
   refine door_bad (HU5.out.heap HE.out id) (fun W hW hu=>?_);refine ⟨_,results_tmp_cell rfl _ rfl (load_err hW),?_⟩;rw [HTN.out];exact ⟨upd_newE (HU0.out.trans HU5.out) hu HEB.out,_,rfl⟩
  ·rw [hm] at hp;obtain ⟨v',rfl,hrd,hu⟩:=hp;have HTS:Hid (tgt=some l):=by show _=_;rw [HT.out,hm]
   have HU5:=Lib.hid (hu.mono (G:=noBlk) (fun _ _ h=>h.elim id id));have HRD:=Lib.hid hrd;have HE5:=Lib.hid (HU5.out.heap HE.out id);clear hu hrd b0 b1 HOC hm;obtain ⟨e0,f0⟩:=cellF1 HE5.out;go_wp2_with fail
   have HUS:=upd_same HE5.out;refine door_good ?_;refine ⟨_,results_tmp_cell rfl _ rfl (load_err (HUS.heap HE5.out id)),?_⟩;rw [HTS.out];exact ⟨(HU0.out.trans HU5.out).trans HUS,_,rfl,HRD.out.keep HUS⟩
end Go.Proofs.YtcikldoaidmnhaaGreatDoor
namespace Go.Proofs.YtcikldoaidmnhaaGreatDoor
open Go Go.RowKit Pk
set_option maxRecDepth 100000
theorem edgesL_snoc (l:List Tri) (t:Tri):edgesL (l++[t])=edgesL l++edgesT t:=by unfold edgesL;rw [List.flatMap_append];simp
theorem nodup_snoc (E:List Ed) (e:Ed):decide (E++[e]).Nodup=(decide E.Nodup&&!decide (e∈E)):=by
 rw [Bool.eq_iff_iff,decide_eq_true_eq,Bool.and_eq_true,decide_eq_true_eq,Bool.not_eq_true',decide_eq_false_iff_not,List.nodup_append];constructor
 ·rintro ⟨h1,_,h3⟩;exact ⟨h1,fun h=>h3 e h e (by simp) rfl⟩
 ·rintro ⟨h1,h2⟩;exact ⟨h1,by simp,fun a ha b hb hab=>by simp at hb;subst hb;subst hab;exact h2 ha⟩
set_option maxHeartbeats 4000000 in
theorem mDirected_any (v:Value) (l:List Tri) (hn:l.length≤100000) (hok:∀t,t∈l→okT t) (w:World) (h:kTri.Rd w v l) :
  Calls Tryz.prog 158 #[v] w fun en w'=>en=.returned (.tuple #[.map (some w.heap.size),.bool (decide (edgesL l).Nodup)])∧kitSet.At w' w.heap.size (3*l.length) (setF (edgesL l))∧Upd noBlk w w':=by
 have hr:=fun t W=>Lib.hid (mEdges_any t W);have ha:=fun n E e he hn W h=>Lib.hid (mAdd_any w.heap.size n E e he hn W h);obtain ⟨A,cap,rfl,hcap,hx⟩:=h;have HX:=Lib.hid hx;have HOK:=Lib.hid hok;have hn':(l.length:Int)≤100000:=by omega
 have hmm:=@run_makeMap Tryz.prog;have HM0:Hid (kitSet.At (w.alloc (.map #[] 0)) w.heap.size 0 (setF (edgesL (l.take 0)))):=MapKit.At.made kitSet w;have HU0:Hid (Upd noBlk w (w.alloc (.map #[] 0))):=(Upd.refl _ _).alloc _;clear hx hok;go_enter Tryz.func158,Tryz.ntmps158
 go_wp2_with fail
 go_loopw [5,13] (fun fv i wr=>∃k:Nat,i=.int .i64 k∧k≤l.length∧fv=.bool (decide (edgesL (l.take k)).Nodup)∧kitSet.At wr w.heap.size (3*k) (setF (edgesL (l.take k)))∧Upd noBlk w wr) (fun _ i _=>l.length-(intOf i).toNat)
 case atStart=>exact ⟨0,rfl,Nat.zero_le _,rfl,HM0.out,HU0.out⟩
 case round=>
  obtain ⟨k,rfl,hk,rfl,hm,hu⟩:=hrel;have HM:=Lib.hid hm;have HU:=Lib.hid hu;clear hm hu hmm;by_cases hlt:k<l.length
  ·have hlt':(k:Int)<(l.length:Int):=by omega
   obtain ⟨b,off,rfl,f1⟩:=HX.out (by omega);obtain ⟨g0,g1,g2,g3,g4,g5,g6,g7,g8⟩:=triAt9 ((f1 k hlt).keep HU.out);have hk9:kTri.k=9:=rfl;rw [hk9] at g0 g1 g2 g3 g4 g5 g6 g7 g8;have HT:Hid (edgesL (l.take (k+1))=edgesL (l.take k)++edgesT l[k]):=by show _=_;rw [List.take_succ_eq_append_getElem hlt,edgesL_snoc]
   have HKT:=Lib.hid (HOK.out l[k] (List.getElem_mem hlt));clear f1 hk9;have hrt:=hr l[k];generalize l[k]=tk at *;obtain ⟨⟨a0,a1,a2⟩,⟨a3,a4,a5⟩,⟨a6,a7,a8⟩⟩:=tk;simp only at g0 g1 g2 g3 g4 g5 g6 g7 g8;obtain ⟨E,hE⟩:∃E,E=edgesL (l.take k):=⟨_,rfl⟩;rw [←hE] at HM HT;rw [←hE];have hET:edgesT ((a0,a1,a2),(a3,a4,a5),a6,a7,a8)=[((a0,a1,a2),(a3,a4,a5)),((a3,a4,a5),(a6,a7,a8)),((a6,a7,a8),(a0,a1,a2))]:=rfl;rw [hET] at HT;clear hE hET;have ix0:∀W:World,(Instr.index 259 (.agg (edges3C ((a0,a1,a2),(a3,a4,a5),a6,a7,a8))) (.int .i64 0)).run Tryz.prog W=.ok (edV ((a0,a1,a2),(a3,a4,a5))) W:=fun W=>by kernel_rfl
   have ix1:∀W:World,(Instr.index 259 (.agg (edges3C ((a0,a1,a2),(a3,a4,a5),a6,a7,a8))) (.int .i64 1)).run Tryz.prog W=.ok (edV ((a3,a4,a5),(a6,a7,a8))) W:=fun W=>by kernel_rfl
   have ix2:∀W:World,(Instr.index 259 (.agg (edges3C ((a0,a1,a2),(a3,a4,a5),a6,a7,a8))) (.int .i64 2)).run Tryz.prog W=.ok (edV ((a6,a7,a8),(a0,a1,a2))) W:=fun W=>by kernel_rfl
   unfold edV at ix0 ix1 ix2;go_wp2_with fail
   refine (hrt _).out.mono ?_;rintro e w2 ⟨rfl,u2⟩;have V2:=Lib.hid (((Upd.refl noBlk wr).alloc (.cells #[.int .i64 a0,.int .i64 a1,.int .i64 a2,.int .i64 a3,.int .i64 a4,.int .i64 a5,.int .i64 a6,.int .i64 a7,.int .i64 a8] 45)).trans u2.up);have U2:=Lib.hid (HU.out.trans V2.out);have M2:Hid (kitSet.At w2 w.heap.size (3*k+0) (setF (E++([((a0,a1,a2),(a3,a4,a5)),((a3,a4,a5),(a6,a7,a8)),((a6,a7,a8),(a0,a1,a2))]:List Ed).take 0))):=by
    have:=HM.out.keep V2.out;rw [List.take_zero,List.append_nil];exact this
   clear u2;go_wp2_with fail
   go_loopw [5,19] (fun fv i wi=>∃j:Nat,i=.int .i64 j∧j≤3∧fv=.bool (decide (E++([((a0,a1,a2),(a3,a4,a5)),((a3,a4,a5),(a6,a7,a8)),((a6,a7,a8),(a0,a1,a2))]:List Ed).take j).Nodup)∧kitSet.At wi w.heap.size (3*k+j) (setF (E++([((a0,a1,a2),(a3,a4,a5)),((a3,a4,a5),(a6,a7,a8)),((a6,a7,a8),(a0,a1,a2))]:List Ed).take j))∧Upd noBlk w wi) (fun _ i _=>3-(intOf i).toNat)
   case atStart=>exact ⟨0,rfl,Nat.zero_le _,by rw [List.take_zero,List.append_nil],M2.out,U2.out⟩
   case round=>
    obtain ⟨j,rfl,hj,hfv,hmj,huj⟩:=hrel;clear M2 U2 V2;by_cases hj3:j<3
    ·rcases (by omega:j=0∨j=1∨j=2) with rfl | rfl | rfl
     ·have HO3:Hid (okE ((a0,a1,a2),(a3,a4,a5))):=by have:=HKT.out;exact ⟨this.1,this.2.1⟩
      have HMJ:Hid (kitSet.At wr w.heap.size (3*k+0) (setF (E++[]))):=hmj;have HA:Hid (∀W,Upd noBlk wr W→Calls Tryz.prog 179 #[.map (some w.heap.size),edV ((a0,a1,a2),(a3,a4,a5))] W fun en w'=>en=.returned (.bool (!decide (((a0,a1,a2),(a3,a4,a5))∈E++[])))∧kitSet.At w' w.heap.size (3*k+0+1) (setF (E++[]++[((a0,a1,a2),(a3,a4,a5))]))∧Upd (fun j=>j=w.heap.size) W w'):=fun W hW=>(ha (3*k+0) (E++[]) ((a0,a1,a2),(a3,a4,a5)) HO3.out (by omega) W (HMJ.out.keep hW)).out;have HND:=Lib.hid (nodup_snoc (E++[]) ((a0,a1,a2),(a3,a4,a5)));have happ:E++[]++[((a0,a1,a2),(a3,a4,a5))]=E++[((a0,a1,a2),(a3,a4,a5))]:=by simp
      rw [happ] at HA HND;have HUJ:=Lib.hid huj;clear hmj huj happ hrt HM;obtain ⟨F,hF⟩:∃F,F=decide (E++[]:List Ed).Nodup:=⟨_,rfl⟩;rw [←hF] at HND;obtain rfl:u5=.bool F:=by rw [hF];exact hfv
      clear hF hfv;unfold edV at HA;have ixj:=ix0;clear ix0 ix1 ix2;go_wp2_with fail
      refine (HA.out _ ((Upd.refl noBlk wr).alloc _)).mono ?_;rintro e w5 ⟨rfl,m5,v5⟩;have M5:=Lib.hid m5;have U5:=Lib.hid ((HUJ.out.alloc (.cells #[.int .i64 a0,.int .i64 a1,.int .i64 a2,.int .i64 a3,.int .i64 a4,.int .i64 a5] 258)).then v5 (fun i hi e=>by have e':i=w.heap.size:=e;omega));clear m5 v5 HA;rcases hd:decide (((a0,a1,a2),(a3,a4,a5))∈E++[]) with _ | _
      ·rw [hd] at HND;go_wp2_with fail
       refine ⟨⟨1,rfl,by omega,?_,M5.out,U5.out⟩,by simp [intOf]⟩;show _=Value.bool (decide (E++[((a0,a1,a2),(a3,a4,a5))]:List Ed).Nodup);rw [HND.out];simp
      ·rw [hd] at HND;go_wp2_with fail
       refine ⟨⟨1,rfl,by omega,?_,M5.out,U5.out⟩,by simp [intOf]⟩;show _=Value.bool (decide (E++[((a0,a1,a2),(a3,a4,a5))]:List Ed).Nodup);rw [HND.out];simp
     ·have HO3:Hid (okE ((a3,a4,a5),(a6,a7,a8))):=by have:=HKT.out;exact ⟨this.2.1,this.2.2⟩
      have HMJ:Hid (kitSet.At wr w.heap.size (3*k+1) (setF (E++[((a0,a1,a2),(a3,a4,a5))]))):=hmj;have HA:Hid (∀W,Upd noBlk wr W→Calls Tryz.prog 179 #[.map (some w.heap.size),edV ((a3,a4,a5),(a6,a7,a8))] W fun en w'=>en=.returned (.bool (!decide (((a3,a4,a5),(a6,a7,a8))∈E++[((a0,a1,a2),(a3,a4,a5))])))∧kitSet.At w' w.heap.size (3*k+1+1) (setF (E++[((a0,a1,a2),(a3,a4,a5))]++[((a3,a4,a5),(a6,a7,a8))]))∧Upd (fun j=>j=w.heap.size) W w'):=fun W hW=>(ha (3*k+1) (E++[((a0,a1,a2),(a3,a4,a5))]) ((a3,a4,a5),(a6,a7,a8)) HO3.out (by omega) W (HMJ.out.keep hW)).out;have HND:=Lib.hid (nodup_snoc (E++[((a0,a1,a2),(a3,a4,a5))]) ((a3,a4,a5),(a6,a7,a8)));have happ:E++[((a0,a1,a2),(a3,a4,a5))]++[((a3,a4,a5),(a6,a7,a8))]=E++[((a0,a1,a2),(a3,a4,a5)),((a3,a4,a5),(a6,a7,a8))]:=by simp
      rw [happ] at HA HND;have HUJ:=Lib.hid huj;clear hmj huj happ hrt HM;obtain ⟨F,hF⟩:∃F,F=decide (E++[((a0,a1,a2),(a3,a4,a5))]:List Ed).Nodup:=⟨_,rfl⟩;rw [←hF] at HND;obtain rfl:u5=.bool F:=by rw [hF];exact hfv
      clear hF hfv;unfold edV at HA;have ixj:=ix1;clear ix0 ix1 ix2;go_wp2_with fail
      refine (HA.out _ ((Upd.refl noBlk wr).alloc _)).mono ?_;rintro e w5 ⟨rfl,m5,v5⟩;have M5:=Lib.hid m5;have U5:=Lib.hid ((HUJ.out.alloc (.cells #[.int .i64 a3,.int .i64 a4,.int .i64 a5,.int .i64 a6,.int .i64 a7,.int .i64 a8] 258)).then v5 (fun i hi e=>by have e':i=w.heap.size:=e;omega));clear m5 v5 HA;rcases hd:decide (((a3,a4,a5),(a6,a7,a8))∈E++[((a0,a1,a2),(a3,a4,a5))]) with _ | _
      ·rw [hd] at HND;go_wp2_with fail
       refine ⟨⟨2,rfl,by omega,?_,M5.out,U5.out⟩,by simp [intOf]⟩;show _=Value.bool (decide (E++[((a0,a1,a2),(a3,a4,a5)),((a3,a4,a5),(a6,a7,a8))]:List Ed).Nodup);rw [HND.out];simp
      ·rw [hd] at HND;go_wp2_with fail
       refine ⟨⟨2,rfl,by omega,?_,M5.out,U5.out⟩,by simp [intOf]⟩;show _=Value.bool (decide (E++[((a0,a1,a2),(a3,a4,a5)),((a3,a4,a5),(a6,a7,a8))]:List Ed).Nodup);rw [HND.out];simp
     ·have HO3:Hid (okE ((a6,a7,a8),(a0,a1,a2))):=by have:=HKT.out;exact ⟨this.2.2,this.1⟩
      have HMJ:Hid (kitSet.At wr w.heap.size (3*k+2) (setF (E++[((a0,a1,a2),(a3,a4,a5)),((a3,a4,a5),(a6,a7,a8))]))):=hmj;have HA:Hid (∀W,Upd noBlk wr W→Calls Tryz.prog 179 #[.map (some w.heap.size),edV ((a6,a7,a8),(a0,a1,a2))] W fun en w'=>en=.returned (.bool (!decide (((a6,a7,a8),(a0,a1,a2))∈E++[((a0,a1,a2),(a3,a4,a5)),((a3,a4,a5),(a6,a7,a8))])))∧kitSet.At w' w.heap.size (3*k+2+1) (setF (E++[((a0,a1,a2),(a3,a4,a5)),((a3,a4,a5),(a6,a7,a8))]++[((a6,a7,a8),(a0,a1,a2))]))∧Upd (fun j=>j=w.heap.size) W w'):=fun W hW=>(ha (3*k+2) (E++[((a0,a1,a2),(a3,a4,a5)),((a3,a4,a5),(a6,a7,a8))]) ((a6,a7,a8),(a0,a1,a2)) HO3.out (by omega) W (HMJ.out.keep hW)).out;have HND:=Lib.hid (nodup_snoc (E++[((a0,a1,a2),(a3,a4,a5)),((a3,a4,a5),(a6,a7,a8))]) ((a6,a7,a8),(a0,a1,a2)));have happ:E++[((a0,a1,a2),(a3,a4,a5)),((a3,a4,a5),(a6,a7,a8))]++[((a6,a7,a8),(a0,a1,a2))]=E++[((a0,a1,a2),(a3,a4,a5)),((a3,a4,a5),(a6,a7,a8)),((a6,a7,a8),(a0,a1,a2))]:=by simp
      rw [happ] at HA HND;have HUJ:=Lib.hid huj;clear hmj huj happ hrt HM;obtain ⟨F,hF⟩:∃F,F=decide (E++[((a0,a1,a2),(a3,a4,a5)),((a3,a4,a5),(a6,a7,a8))]:List Ed).Nodup:=⟨_,rfl⟩;rw [←hF] at HND;obtain rfl:u5=.bool F:=by rw [hF];exact hfv
      clear hF hfv;unfold edV at HA;have ixj:=ix2;clear ix0 ix1 ix2;go_wp2_with fail
      refine (HA.out _ ((Upd.refl noBlk wr).alloc _)).mono ?_;rintro e w5 ⟨rfl,m5,v5⟩;have M5:=Lib.hid m5;have U5:=Lib.hid ((HUJ.out.alloc (.cells #[.int .i64 a6,.int .i64 a7,.int .i64 a8,.int .i64 a0,.int .i64 a1,.int .i64 a2] 258)).then v5 (fun i hi e=>by have e':i=w.heap.size:=e;omega));clear m5 v5 HA;rcases hd:decide (((a6,a7,a8),(a0,a1,a2))∈E++[((a0,a1,a2),(a3,a4,a5)),((a3,a4,a5),(a6,a7,a8))]) with _ | _
      ·rw [hd] at HND;go_wp2_with fail
       refine ⟨⟨3,rfl,by omega,?_,M5.out,U5.out⟩,by simp [intOf]⟩;show _=Value.bool (decide (E++[((a0,a1,a2),(a3,a4,a5)),((a3,a4,a5),(a6,a7,a8)),((a6,a7,a8),(a0,a1,a2))]:List Ed).Nodup);rw [HND.out];simp
      ·rw [hd] at HND;go_wp2_with fail
       refine ⟨⟨3,rfl,by omega,?_,M5.out,U5.out⟩,by simp [intOf]⟩;show _=Value.bool (decide (E++[((a0,a1,a2),(a3,a4,a5)),((a3,a4,a5),(a6,a7,a8)),((a6,a7,a8),(a0,a1,a2))]:List Ed).Nodup);rw [HND.out];simp
    ·obtain rfl:j=3:=by omega
     have HMJ:Hid (kitSet.At wr w.heap.size (3*(k+1)) (setF (edgesL (l.take (k+1))))):=by rw [HT.out];exact hmj
     have HUJ:=Lib.hid huj;obtain ⟨F,hF⟩:∃F,F=decide (edgesL (l.take (k+1))).Nodup:=⟨_,rfl⟩;obtain rfl:u5=.bool F:=by rw [hF,HT.out];exact hfv
     have HFF:=Lib.hid hF;clear hmj huj hfv hF;go_wp2_with fail
     refine ⟨⟨k+1,by go_num,hlt,by rw [HFF.out],HMJ.out,HUJ.out⟩,by simp [intOf];omega⟩
  ·obtain rfl:k=l.length:=by omega
   have HM2:=HM.out;rw [List.take_length] at HM2;have HM3:=Lib.hid HM2;clear HM2;go_wp2_with fail
   go_ret2
   refine ⟨?_,HM3.out,HU.out⟩;rw [List.take_length];rfl
end Go.Proofs.YtcikldoaidmnhaaGreatDoor
namespace Go.Proofs.YtcikldoaidmnhaaGreatDoor
open Go Go.RowKit Pk
set_option maxRecDepth 100000
set_option maxHeartbeats 4000000 in
theorem mCheck_any (v:Value) (l:List Tri) (hn:l.length≤100000) (hok:∀t,t∈l→okT t) (w:World) (h:kTri.Rd w v l) :
  Calls Tryz.prog 137 #[v,.bool true] w fun en w'=>en=.returned (.int .i64 (checkO l))∧Upd noBlk w w':=by
 have HD:=fun W hW=>Lib.hid (mDirected_any v l hn hok W (h.keep hW));have HPN:=fun hnd W hW=>Lib.hid (mPinched_any v l hn hok hnd W (h.keep hW));obtain ⟨A,cap,rfl,hcap,hx⟩:=h;have HX:=Lib.hid hx;have HOK:=Lib.hid hok;have hn':(l.length:Int)≤100000:=by omega
 have HDD:Hid (∀W,Upd noBlk w W→Calls Tryz.prog 158 #[.slice A l.length cap] W fun en w'=>en=.returned (.tuple #[.map (some W.heap.size),.bool (decide (edgesL l).Nodup)])∧kitSet.At w' W.heap.size (3*l.length) (setF (edgesL l))∧Upd noBlk W w'):=fun W hW=>(HD W hW).out;have HPP:Hid ((edgesL l).Nodup→∀W,Upd noBlk w W→Calls Tryz.prog 160 #[.slice A l.length cap] W fun en w'=>en=.returned (.bool (pinched l))∧Upd noBlk W w'):=fun hnd W hW=>(HPN hnd W hW).out;clear hx hok HD HPN;go_enter Tryz.func137,Tryz.ntmps137
 go_wp2_with fail
 go_loopw [11] (fun i wr=>∃k:Nat,i=.int .i64 k∧k≤l.length∧(∀t,t∈l.take k→flatT t=false)∧Upd noBlk w wr) (fun i _=>l.length-(intOf i).toNat)
 case atStart=>exact ⟨0,rfl,Nat.zero_le _,fun t ht=>(by cases ht),Upd.refl _ _⟩
 case round=>
  obtain ⟨k,rfl,hk,hf,hu⟩:=hrel;have HF:=Lib.hid hf;have HU:=Lib.hid hu;clear hf hu;by_cases hlt:k<l.length
  ·have hlt':(k:Int)<(l.length:Int):=by omega
   obtain ⟨b,off,rfl,f1⟩:=HX.out (by omega);obtain ⟨g0,g1,g2,g3,g4,g5,g6,g7,g8⟩:=triAt9 ((f1 k hlt).keep HU.out);have hk9:kTri.k=9:=rfl;rw [hk9] at g0 g1 g2 g3 g4 g5 g6 g7 g8;have HFN:Hid (flatT l[k]=false→∀t,t∈l.take (k+1)→flatT t=false):=fun h0 t ht=>by
    rw [List.take_succ_eq_append_getElem hlt] at ht;rcases List.mem_append.1 ht with ht | ht
    ·exact HF.out t ht
    ·rw [List.mem_singleton] at ht;rw [ht];exact h0
   have HFT:Hid (flatT l[k]=true→checkO l=20):=fun h0=>by
    unfold checkO;rw [if_pos (List.any_eq_true.2 ⟨l[k],List.getElem_mem hlt,h0⟩)]
   clear f1 hk9;generalize l[k]=tk at *;obtain ⟨⟨a0,a1,a2⟩,⟨a3,a4,a5⟩,⟨a6,a7,a8⟩⟩:=tk;simp only at g0 g1 g2 g3 g4 g5 g6 g7 g8;have HFN':Hid (¬((a0=a3∧a1=a4∧a2=a5)∨(a3=a6∧a4=a7∧a5=a8)∨(a6=a0∧a7=a1∧a8=a2))→∀t,t∈l.take (k+1)→flatT t=false):=fun h=>HFN.out (by unfold flatT;rw [decide_eq_false_iff_not];simpa only [Prod.mk.injEq] using h);have HFT':Hid ((a0=a3∧a1=a4∧a2=a5)∨(a3=a6∧a4=a7∧a5=a8)∨(a6=a0∧a7=a1∧a8=a2)→checkO l=20):=fun h=>HFT.out (by unfold flatT;rw [decide_eq_true_eq];simpa only [Prod.mk.injEq] using h);clear HFN HFT;go_wp2_with fail
   all_goals first
    | (go_ret;refine ⟨?_,HU.out.alloc _⟩;rw [HFT'.out (by omega)];rfl)
    | (refine ⟨⟨k+1,by go_num,hlt,HFN'.out (by omega),HU.out.alloc _⟩,by simp [intOf];omega⟩)
  ·obtain rfl:k=l.length:=by omega
   have hfl:¬l.any flatT=true:=by
    rw [List.any_eq_true];rintro ⟨t,h1,h2⟩;have:=HF.out t (by rw [List.take_length];exact h1);rw [h2] at this;cases this
   have HC0:Hid (¬(edgesL l).Nodup→checkO l=21):=fun h=>by unfold checkO;rw [if_neg hfl,if_pos h]
   have HC1:Hid ((edgesL l).Nodup→checkO l=if pinched l then 23 else 0):=fun h=>by unfold checkO;rw [if_neg hfl,if_neg (not_not_intro h)]
   have hd:=HDD.out wr HU.out;have HDC:=Lib.hid hd;clear hfl hd;by_cases hnd:(edgesL l).Nodup
   ·rw [decide_eq_true hnd] at HDC;go_wp2_with fail
    refine HDC.out.mono ?_;rintro e w2 ⟨rfl,_,u2⟩;have U2:=Lib.hid (HU.out.trans u2);have HP2:=Lib.hid (HPP.out hnd w2 U2.out);have HC2:=Lib.hid (HC1.out hnd);clear u2 hnd HDC;go_wp2_with fail
    refine HP2.out.mono ?_;rintro e w3 ⟨rfl,u3⟩;have U3:=Lib.hid (U2.out.trans u3);clear u3 HP2;rcases hp:pinched l with _ | _
    ·rw [hp] at HC2;go_wp2_with fail
     go_ret
     exact ⟨by rw [HC2.out];rfl,U3.out⟩
    ·rw [hp] at HC2;go_wp2_with fail
     go_ret
     exact ⟨by rw [HC2.out];rfl,U3.out⟩
   ·rw [decide_eq_false hnd] at HDC;have HC2:=Lib.hid (HC0.out hnd);clear hnd;go_wp2_with fail
    refine HDC.out.mono ?_;rintro e w2 ⟨rfl,_,u2⟩;have U2:=Lib.hid (HU.out.trans u2);clear u2 HDC;go_wp2_with fail
    go_ret
    exact ⟨by rw [HC2.out];rfl,U2.out⟩
theorem mCheckOpen_any (v:Value) (l:List Tri) (hn:l.length≤100000) (hok:∀t,t∈l→okT t) (w:World) (h:kTri.Rd w v l) :
  Calls Tryz.prog 92 #[v] w fun en w'=>en=.returned (.int .i64 (checkO l))∧Upd noBlk w w':=by
 have HC:=Lib.hid (mCheck_any v l hn hok w h);go_enter Tryz.func92,Tryz.ntmps92
 go_wp2_with fail
 refine HC.out.mono ?_;rintro e w2 ⟨rfl,u2⟩;have U2:=Lib.hid u2;clear u2 HC h hok;go_wp2_with fail
 go_ret
 exact ⟨rfl,U2.out⟩
end Go.Proofs.YtcikldoaidmnhaaGreatDoor
