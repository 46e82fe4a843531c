/- Parts: Walks of the packets' program: a cluster's packet is opened, as it comes. No condition. Walks of the packets' program: root packets are opened. No condition. Walks of the reference of packets: hashes that numbers determine. No condition. Walks of the reference of packets: parts that numbers determine. No condition. Walks of the reference of packets: parts, and the packet of a root. No condition. -/
import Derived.Test.YtcikldoaidmnhaaGreatDoorQKeep6
import Derived.Test.YtcikldoaidmnhaaGreatDoorQKeep10
import Derived.Test.YtcikldoaidmnhaaGreatDoorQKeep15
import Derived.Test.YtcikldoaidmnhaaGreatDoorQKeep16
import Derived.Test.YtcikldoaidmnhaaGreatDoorQKeep18
import Derived.Deep.RegionHeld3
namespace Go.Proofs.YtcikldoaidmnhaaGreatDoor
open Go Go.RowKit Pk Pc
set_option maxRecDepth 100000
theorem upd_newE {w w1 w2:World} {k:Nat} (h:Upd noBlk w w1) (h2:Upd (fun i=>i=k) w1 w2) (hk:w.heap.size≤k):Upd noBlk w w2:=h.then h2 (fun i hi e=>by have e':i=k:=e;omega)
set_option maxHeartbeats 2000000 in
theorem openCluster_bad (l:List Nat) (hl:∀d,d∈l→d<256) (hb:∀code,l≠1 :: code) (w:World) :
  Calls Tryz.prog 67 #[.string (str l)] w fun en w'=>∃v,en=.returned (.tuple #[v,.int .i64 13])∧Upd noBlk w w':=by
 have HF:=fun W=>Lib.hid (fail_any W);cases l with
 | nil=>
  have he:(str ([]:List Nat)).toList.isEmpty=true:=by rw [str_toList];rfl
  go_enter_defers Tryz.func67,Tryz.ntmps67
  go_wp2_with fail
  refine (HF _).out.mono ?_;rintro e w2 ⟨rfl,rfl⟩;unfold panicW;go_wp2_with fail
  refine door_bad (heap_alloc_new w (.cells #[.int .i64 0] 33)) (fun W hW hu=>?_);exact ⟨_,results_tmp_cell rfl _ rfl (load_err hW),⟨_,rfl,upd_newE ((Upd.refl noBlk w).alloc _) hu (Nat.le_refl _)⟩⟩
 | cons a code=>
  have he:(str (a :: code)).toList.isEmpty=false:=by rw [str_toList];rfl
  have hz:0<(str (a :: code)).size:=by rw [str_size];simp
  have hne:¬a=1:=fun e=>hb code (by rw [e]);have h0:=str_get (l:=a :: code) (i:=0) (by simp) hl hz;go_enter_defers Tryz.func67,Tryz.ntmps67
  go_wp2_with fail
  refine (HF _).out.mono ?_;rintro e w2 ⟨rfl,rfl⟩;unfold panicW;go_wp2_with fail
  refine door_bad (heap_alloc_new w (.cells #[.int .i64 0] 33)) (fun W hW hu=>?_);exact ⟨_,results_tmp_cell rfl _ rfl (load_err hW),⟨_,rfl,upd_newE ((Upd.refl noBlk w).alloc _) hu (Nat.le_refl _)⟩⟩
theorem set2 {w:World} {b:Nat} {x0 x1 y0 y1:Value} {t:TypeId} (h:w.heap[b]?=some (.cells #[x0,x1] t (0,0))):((w.setCell ⟨b,0,none⟩ y0).setCell ⟨b,1,none⟩ y1).heap[b]?=some (.cells #[y0,y1] t (0,0)):=heap_setCell_eq (i:=1) y1 (heap_setCell_eq (i:=0) y0 h)
theorem cellsF2 {w:World} {b:Nat} {x0 x1:Value} {t:TypeId} (h:w.heap[b]?=some (.cells #[x0,x1] t (0,0))):(w.cell? ⟨b,0,none⟩=some x0∧w.cell? ⟨b,1,none⟩=some x1)∧(w.frozen? ⟨b,0,none⟩=false∧w.frozen? ⟨b,1,none⟩=false):=by simp [World.cell?,World.frozen?,h]
theorem many_open (code:List Nat):manyM (D.ofCode code)=openM false (1 :: code):=by
 unfold manyM numM;show _=if ((D.ofCode code).number 64).ok=true∧((D.ofCode code).number 64).n<129 then _ else _;by_cases h:((D.ofCode code).number 64).ok=true∧((D.ofCode code).number 64).n<129
 ·rw [if_pos h,if_pos ⟨h.1,by have:=h.2;omega⟩]
 ·rw [if_neg h,if_neg (fun k=>h ⟨k.1,by have:=k.2;omega⟩)]
theorem CR.make {w1 wl wz:World} {b br ob:Nat} {d:D} {G0:Nat→Prop} (hS:SRep wl b Wk.init G0) (hR:RRep wl br d (·=br)) (hG:∀k,G0 k→w1.heap.size≤k∧k≠ob∧k≠br) (hb:w1.heap.size≤br∧br≠ob) (ho:w1.heap.size≤ob) (hu:Upd noBlk w1 wl) (hz:Upd (fun k=>k=ob) wl wz):CR noBlk noBlk w1 wz b Wk.init br d:=
 ⟨⟨G0,(·=br),hS.upd hz (fun k hk e=>(hG k hk).2.1 e),hR.upd hz (fun k hk e=>hb.2 (by rw [←show k=br from hk];exact e)),fun k hk e=>(hG k hk).2.2 e,fun k hk=>.inr (by
  rcases hk with h | h
  ·exact (hG k h).1
  ·have h':k=br:=h;rw [h'];exact hb.1)⟩,(hu.mono (fun _ _ h=>h.elim)).then hz (fun i hi e=>by have e':i=ob:=e;omega)⟩
theorem upd_same {w:World} {b:Nat} {x:Value} {T:TypeId} (h:w.heap[b]?=some (.cells #[x] T (0,0))):Upd noBlk w (w.setCell ⟨b,0,none⟩ x):=by
 obtain ⟨h1,h2,h3,h4,h5⟩:=(Upd.refl (fun k=>k=b) w).setCell (p:=⟨b,0,none⟩) (fun _=>rfl) x;refine ⟨h1,h2,h3,h4,fun i hi _=>?_⟩;by_cases e:i=b
 ·subst e;rw [heap_setCell_eq (i:=0) x h,h];rfl
 ·exact h5 i hi e
def openQ (o:Option (List Tri)) (w:World) (en:Ending) (w':World):Prop:=Upd noBlk w w'∧∃v,match o with
 | some l=>en=.returned (.tuple #[v,.int .i64 0])∧kTri.Rd w' v (canon l)
 | none=>en=.returned (.tuple #[v,.int .i64 13])
set_option maxHeartbeats 4000000 in
theorem openCluster_one (code:List Nat) (hl:∀d,d∈code→d<256) (w:World) :
  Calls Tryz.prog 67 #[.string (str (1 :: code))] w fun en w'=>openQ (openM false (1 :: code)) w en w':=by
 obtain ⟨tgt,htgt⟩:∃t,t=openM false (1 :: code):=⟨_,rfl⟩;rw [←htgt];rw [←many_open] at htgt;have HT:=Lib.hid htgt;have he:(str (1 :: code)).toList.isEmpty=false:=by rw [str_toList];rfl
 have hz:0<(str (1 :: code)).size:=by rw [str_size];simp
 have h0:=str_get (l:=1 :: code) (i:=0) (by simp) (fun d hd=>(List.mem_cons.1 hd).elim (fun e=>by rw [e];decide) (hl d)) hz;have HSL:Hid ((str (1 :: code)).extract 1 (str (1 :: code)).size=str code):=by show _=_;rw [str_extract,str_size];simp
 have HL:=Lib.hid hl;have HE:=Lib.hid (heap_alloc_new w (.cells #[.int .i64 0] 33));have HU0:Hid (Upd noBlk w (w.alloc (.cells #[.int .i64 0] 33))):=(Upd.refl _ w).alloc _;clear hl htgt;go_enter_defers Tryz.func67,Tryz.ntmps67
 obtain ⟨w1,hw1⟩:∃w1,w1=w.alloc (.cells #[.int .i64 0] 33):=⟨_,rfl⟩;go_upto_region 4 with fail
 rw [←hw1] at HE HU0;rw [←hw1];clear hw1;obtain ⟨eb,heb⟩:∃eb,eb=w.heap.size:=⟨_,rfl⟩;have HEB:Hid (w.heap.size≤eb):=by show _≤_;omega
 rw [←heb] at HE;rw [←heb];clear heb;have HZ1:Hid ((1:Int)≤(((str (1 :: code)).size:Nat):Int)):=by show _≤_;omega
 clear h0 he;have HLTC:Hid (∀x,x∈code→x<256):=HL.out;go_cut [4] from 13 to 17 (fun c wc=>∃(ob b br:Nat),c=.pointer (some ⟨ob,0,none⟩)∧wc.heap[ob]?=some (.cells #[.pointer (some ⟨b,0,none⟩),.pointer (some ⟨br,0,none⟩)] 183 (0,0))∧CR noBlk noBlk w1 wc b Wk.init br (D.ofCode code))
 case first=>
  refine wp_region_noPanic ?_;refine wp_region_tree 6 (OT.sures [1,2] (.fork 0 (.fork 3 (.sure 4 (.run 5 .nil)) 5 (.run 3 (.sure 4 .nil))) 5 (.run 0 (.run 3 (.sure 4 .nil))))) (fun _=>True) (by kernel_rfl) (by kernel_rfl) (fun c a d v w h=>h.elim) trivial ?_;simp only [OT.sures]
  (apply wpT_sure rfl rfl;focus (intro w' hw';go_simp;rfl))
  (apply wpT_sure rfl rfl;focus (intro w' hw';have hsl:=HSL.out;have h1:=HZ1.out;go_simp;rfl))
  refine wpT_fork _ _ (fun _ h=>h) (fun _ h=>h) rfl rfl (fun K' hK=>?_) (fun K' hK=>?_)
  ·go_simp
   refine (newState_any _).mono ?_;rintro e s1 ⟨rfl,hs1,u1⟩;have HS1:=Lib.hid hs1;have U1:=Lib.hid u1;refine hK _ _ ⟨trivial,?_⟩;clear hK K' hs1 u1;have hz1:w1.heap.size≤s1.heap.size:=U1.out.size;refine wpT_fork _ _ (fun _ h=>h) (fun _ h=>h) rfl rfl (fun K' hK=>?_) (fun K' hK=>?_)
   ·go_simp
    have HRR:=Lib.hid (NewReader_rep (code:=code) HLTC.out s1);refine (NewReader_any code s1).mono ?_;rintro e s2 ⟨rfl,hs2⟩;have HZ2:Hid (s2.heap.size=s1.heap.size+1):=by show _=_;rw [←hs2];exact World.size_alloc _ _
    have U2:Hid (Upd noBlk s1 s2):=by show Upd _ _ _;rw [←hs2];exact (Upd.refl _ s1).alloc _
    rw [hs2] at HRR;clear hs2;refine hK _ _ ⟨trivial,?_⟩;clear hK K'
    (apply wpT_sure rfl rfl;focus (intro w' hw';go_simp;rfl))
    refine wpT_run _ (fun _ h=>h) rfl (fun K' hK=>?_);go_simp
    refine hK _ _ ⟨trivial,?_⟩;clear hK K';have hk:∀k,(k=w1.heap.size∨k=w1.heap.size+1∨k=w1.heap.size+2)→w1.heap.size≤k∧k<s1.heap.size:=fun k hk=>⟨by omega,HS1.out.lt k hk⟩;refine wpT_nil ?_;have h4:=cellsF2 (heap_alloc_new s2 (.cells #[.pointer none,.pointer none] 183));obtain ⟨_,⟨f0,f1⟩⟩:=h4;go_wp2_with fail
    refine NoPanic.normal ?_;go_wp2_with fail
    go_meet
    refine ⟨s2.heap.size,(w1.heap.size+2),s1.heap.size,rfl,heap_alloc_new s2 _,CR.make (wl:=s2) (ob:=s2.heap.size) (HS1.out.upd U2.out (fun _ _=>id)) HRR.out ?_ ?_ ?_ (((Upd.refl noBlk w1).drew.trans U1.out).trans U2.out) ((Upd.refl _ s2).alloc _)⟩
    ·intro k h;have h1:=hk k h;have:=HZ2.out;omega
    ·have:=HZ2.out;omega
    ·have:=HZ2.out;omega
   ·go_simp
    have HOB:=Lib.hid (heap_alloc_new s1 (.cells #[.pointer none,.pointer none] 183));have HZA:Hid ((s1.alloc (.cells #[.pointer none,.pointer none] 183)).heap.size=s1.heap.size+1):=World.size_alloc _ _;have hk:∀k,(k=w1.heap.size∨k=w1.heap.size+1∨k=w1.heap.size+2)→w1.heap.size≤k∧k<s1.heap.size:=fun k hk=>⟨by omega,HS1.out.lt k hk⟩;have HSA:=Lib.hid (HS1.out.upd ((Upd.refl noBlk s1).alloc (.cells #[.pointer none,.pointer none] 183)) (fun _ _=>id));have HUA:=Lib.hid (((Upd.refl noBlk w1).drew.trans U1.out).alloc (.cells #[.pointer none,.pointer none] 183));refine hK _ _ ⟨trivial,?_⟩;clear hK K';generalize s1.alloc (.cells #[.pointer none,.pointer none] 183)=sa at *;refine wpT_run _ (fun _ h=>h) rfl (fun K' hK=>?_);go_simp
    have HRR:=Lib.hid (NewReader_rep (code:=code) HLTC.out sa);refine (NewReader_any code sa).mono ?_;rintro e s2 ⟨rfl,hs2⟩;have HZ2:Hid (s2.heap.size=sa.heap.size+1):=by show _=_;rw [←hs2];exact World.size_alloc _ _
    have U2:Hid (Upd noBlk sa s2):=by show Upd _ _ _;rw [←hs2];exact (Upd.refl _ sa).alloc _
    rw [hs2] at HRR;clear hs2;refine hK _ _ ⟨trivial,?_⟩;clear hK K'
    (apply wpT_sure rfl rfl;focus (intro w' hw';go_simp;rfl))
    refine wpT_nil ?_;have h4:=cellsF2 (U2.out.heap HOB.out id);obtain ⟨_,⟨f0,f1⟩⟩:=h4;go_wp2_with fail
    refine NoPanic.normal ?_;go_wp2_with fail
    go_meet
    refine ⟨s1.heap.size,(w1.heap.size+2),sa.heap.size,rfl,set2 (U2.out.heap HOB.out id),CR.make (wl:=s2) (ob:=s1.heap.size) (HSA.out.upd U2.out (fun _ _=>id)) HRR.out ?_ ?_ ?_ (HUA.out.trans U2.out) (((Upd.refl (fun k=>k=s1.heap.size) s2).setCell (p:=⟨s1.heap.size,0,none⟩) (fun _=>rfl) _).setCell (p:=⟨s1.heap.size,1,none⟩) (fun _=>rfl) _)⟩
    ·intro k h;have h1:=hk k h;have:=HZ2.out;have:=HZA.out;omega
    ·have:=HZ2.out;have:=HZA.out;omega
    ·have:=HZ2.out;have:=HZA.out;omega
  ·go_simp
   have HOB:=Lib.hid (heap_alloc_new w1 (.cells #[.pointer none,.pointer none] 183));have HZA:Hid (((w1.alloc (.cells #[.pointer none,.pointer none] 183)).drew).heap.size=w1.heap.size+1):=World.size_alloc _ _;have HUA:=Lib.hid ((Upd.refl noBlk w1).alloc (.cells #[.pointer none,.pointer none] 183)).drew;have HOB2:Hid (((w1.alloc (.cells #[.pointer none,.pointer none] 183)).drew).heap[w1.heap.size]?=some (.cells #[.pointer none,.pointer none] 183 (0,0))):=HOB.out;clear HOB;refine hK _ _ ⟨trivial,?_⟩;clear hK K';generalize (w1.alloc (.cells #[.pointer none,.pointer none] 183)).drew=sa at *;refine wpT_run _ (fun _ h=>h) rfl (fun K' hK=>?_);go_simp
   refine (newState_any _).mono ?_;rintro e s1 ⟨rfl,hs1,u1⟩;have HS1:=Lib.hid hs1;have U1:=Lib.hid u1;refine hK _ _ ⟨trivial,?_⟩;clear hK K' hs1 u1;have hk:∀k,(k=sa.heap.size∨k=sa.heap.size+1∨k=sa.heap.size+2)→sa.heap.size≤k∧k<s1.heap.size:=fun k hk=>⟨by omega,HS1.out.lt k hk⟩;have hz1:sa.heap.size≤s1.heap.size:=U1.out.size;refine wpT_run _ (fun _ h=>h) rfl (fun K' hK=>?_);go_simp
   have HRR:=Lib.hid (NewReader_rep (code:=code) HLTC.out s1);refine (NewReader_any code s1).mono ?_;rintro e s2 ⟨rfl,hs2⟩;have HZ2:Hid (s2.heap.size=s1.heap.size+1):=by show _=_;rw [←hs2];exact World.size_alloc _ _
   have U2:Hid (Upd noBlk s1 s2):=by show Upd _ _ _;rw [←hs2];exact (Upd.refl _ s1).alloc _
   rw [hs2] at HRR;clear hs2;refine hK _ _ ⟨trivial,?_⟩;clear hK K'
   (apply wpT_sure rfl rfl;focus (intro w' hw';go_simp;rfl))
   refine wpT_nil ?_;have h4:=cellsF2 (U2.out.heap (U1.out.heap HOB2.out id) id);obtain ⟨_,⟨f0,f1⟩⟩:=h4;go_wp2_with fail
   refine NoPanic.normal ?_;go_wp2_with fail
   go_meet
   refine ⟨w1.heap.size,(sa.heap.size+2),s1.heap.size,rfl,set2 (U2.out.heap (U1.out.heap HOB2.out id) id),CR.make (wl:=s2) (ob:=w1.heap.size) (HS1.out.upd U2.out (fun _ _=>id)) HRR.out ?_ ?_ ?_ ((HUA.out.trans U1.out).trans U2.out) (((Upd.refl (fun k=>k=w1.heap.size) s2).setCell (p:=⟨w1.heap.size,0,none⟩) (fun _=>rfl) _).setCell (p:=⟨w1.heap.size,1,none⟩) (fun _=>rfl) _)⟩
   ·intro k h;have h1:=hk k h;have:=HZ2.out;have:=HZA.out;omega
   ·have:=HZ2.out;have:=HZA.out;omega
   ·have:=HZ2.out;have:=HZA.out;omega
 case rest=>
  obtain ⟨ob,b,br,rfl,ho,hc⟩:=hcut;have HO:=Lib.hid ho;have HC:=Lib.hid hc;have HEC:=Lib.hid (hc.keepObj HE.out id id);have HOC:=Lib.hid (ocluster_any hc);clear ho hc;obtain ⟨b0,b1⟩:=cells2 HO.out;go_wp2_with fail
  refine HOC.out.mono ?_;intro e w5 hp;rcases hm:manyM (D.ofCode code) with _ | l
  ·rw [hm] at hp;obtain ⟨rfl,hu⟩:=hp;have HTN:Hid (tgt=none):=by show _=_;rw [HT.out,hm]
   have HU5:=Lib.hid (hu.mono (G:=noBlk) (fun _ _ h=>h.elim id id));clear hu b0 b1 HOC hm;unfold panicW;go_wp2_with fail
   refine door_bad (HU5.out.heap HE.out id) (fun W hW hu=>?_);refine ⟨_,results_tmp_cell rfl _ rfl (load_err hW),?_⟩;rw [HTN.out];exact ⟨upd_newE (HU0.out.trans HU5.out) hu HEB.out,_,rfl⟩
  ·rw [hm] at hp;obtain ⟨v',rfl,hrd,hu⟩:=hp;have HTS:Hid (tgt=some l):=by show _=_;rw [HT.out,hm]
   have HU5:=Lib.hid (hu.mono (G:=noBlk) (fun _ _ h=>h.elim id id));have HRD:=Lib.hid hrd;have HE5:=Lib.hid (HU5.out.heap HE.out id);clear hu hrd b0 b1 HOC hm;obtain ⟨e0,f0⟩:=cellF1 HE5.out;go_wp2_with fail
   have HUS:=upd_same HE5.out;refine door_good ?_;refine ⟨_,results_tmp_cell rfl _ rfl (load_err (HUS.heap HE5.out id)),?_⟩;rw [HTS.out];exact ⟨(HU0.out.trans HU5.out).trans HUS,_,rfl,HRD.out.keep HUS⟩
end Go.Proofs.YtcikldoaidmnhaaGreatDoor
namespace Go.Proofs.YtcikldoaidmnhaaGreatDoor
open Go Go.RowKit Pk Pc
set_option maxRecDepth 100000
def p32 (p:Part):P32:=(h32 p.1,h32 p.2)
def rootO (s:Bytes):Option (List Part × Bytes):=match kindM 3 s with
 | none=>none
 | some r=>manyR partR r
def rootQ (o:Option (List Part)) (w:World) (en:Ending) (w':World):Prop:=Upd noBlk w w'∧match o with
 | some l=>∃v,en=.returned (.tuple #[.agg #[v],.int .i64 0])∧kPart.Own w.heap.size w' v (l.map p32)
 | none=>en=.returned (.tuple #[.agg #[.slice none 0 0],.int .i64 13])
theorem load_root {w:World} {xb:Nat} {v:Value} (h:w.heap[xb]?=some (.cells #[v] 50 (0,0))):(loadVar 50 ⟨xb,0,none⟩).run Tryz.prog w=.ok (.agg #[v]) w:=
 run_loadVar_row w xb 50 50 #[v] (0,0) _ h Tryz.underlying50 rfl (by kernel_rfl)
set_option maxHeartbeats 2000000 in
theorem openRoot_any (s:Bytes) (w:World) :
  Calls Tryz.prog 74 #[.string (bs s)] w fun en w'=>rootQ ((rootO s).map (·.1)) w en w':=by
 have hmf:∀(fn:Fn) (first cap:Array Value) (w:World),(Instr.makeFunc fn first cap).run Tryz.prog w=.ok (.func fn first cap) w:=fun _ _ _ _=>rfl;obtain ⟨tgt,htgt⟩:∃t,t=(rootO s).map (·.1):=⟨_,rfl⟩;rw [←htgt];have HT:=Lib.hid htgt;obtain ⟨w1,hw1⟩:∃w1,w1=((w.alloc (.cells #[.slice none 0 0] 50)).alloc (.cells #[.int .i64 0] 33)).alloc (.cells #[.string (bs s)] 193):=⟨_,rfl⟩;have HU0:Hid (Upd noBlk w w1):=by show Upd _ _ _;rw [hw1];exact (((Upd.refl _ w).alloc _).alloc _).alloc _
 have HX:Hid (w1.heap[w.heap.size]?=some (.cells #[.slice none 0 0] 50 (0,0))):=by show _=_;rw [hw1];exact (((Upd.refl noBlk _).alloc _).alloc _).heap (heap_alloc_new w _) id
 have HE:Hid (w1.heap[w.heap.size+1]?=some (.cells #[.int .i64 0] 33 (0,0))):=by
  show _=_;rw [hw1];refine ((Upd.refl noBlk _).alloc _).heap ?_ id;have:=heap_alloc_new (w.alloc (.cells #[.slice none 0 0] 50)) (.cells #[.int .i64 0] 33);simp only [World.size_alloc] at this;exact this
 have HR:Hid (RdS w1 (w.heap.size+1+1) s):=by
  show RdS _ _ _;rw [hw1];have:=heap_alloc_new ((w.alloc (.cells #[.slice none 0 0] 50)).alloc (.cells #[.int .i64 0] 33)) (.cells #[.string (bs s)] 193);simp only [World.size_alloc] at this;exact this
 have HSZ:Hid (w1.heap.size=w.heap.size+3):=by show _=_;rw [hw1];simp only [World.size_alloc]
 clear htgt;go_enter_defers Tryz.func74,Tryz.ntmps74
 go_upto_region 3 with fail
 rw [←hw1];clear hw1;obtain ⟨xb,hxb⟩:∃xb,xb=w.heap.size:=⟨_,rfl⟩;have HXB:Hid (w.heap.size≤xb):=by show _≤_;omega
 rw [←hxb] at HX HE HR HSZ;rw [←hxb];clear hxb;have HK:=Lib.hid (kKind_any (xb+1+1) 3 s w1 HR.out);go_wp2_with fail
 refine HK.out.mono ?_;intro e w2 hp;rcases hm:kindM 3 s with _ | r
 ·rw [hm] at hp;obtain ⟨rfl,hu⟩:=hp;have HTN:Hid (tgt=none):=by show _=_;rw [HT.out];unfold rootO;rw [hm];rfl
  have HX2:=Lib.hid (hu.heap HX.out (by omega));have HE2:=Lib.hid (hu.heap HE.out (by omega));have HU2:=Lib.hid (HU0.out.then hu (fun i hi e=>by have e':i=xb+1+1:=e;have:=HXB.out;omega));clear HT HK hm hu;unfold panicW;go_wp2_with fail
  refine door_bad HE2.out (fun W hW hu=>?_);refine ⟨_,results_cell_cell rfl _ rfl rfl (load_root (hu.heap HX2.out (by omega))) (load_err hW),?_⟩;rw [HTN.out];exact ⟨upd_newE HU2.out hu (by have:=HXB.out;omega),rfl⟩
 rw [hm] at hp;obtain ⟨rfl,hr,hu⟩:=hp;have HTM:Hid (tgt=(manyR partR r).map (·.1)):=by show _=_;rw [HT.out];unfold rootO;rw [hm]
 have HX2:=Lib.hid (hu.heap HX.out (by omega));have HE2:=Lib.hid (hu.heap HE.out (by omega));have HU2:=Lib.hid (HU0.out.then hu (fun i hi e=>by have e':i=xb+1+1:=e;have:=HXB.out;omega));have HS2:Hid (xb+3≤w2.heap.size):=by show _≤_;have:=hu.size;have:=HSZ.out;omega
 have HL:=Lib.hid (listPart_any (xb+1+1) r w2 hr);clear HT HK hm hr hu HX HE HU0 HR HSZ;obtain ⟨_,hfx⟩:=cellF1 HX2.out;go_wp2_with fail
 refine HL.out.mono ?_;intro e w3 hp;unfold listQ at hp;rcases hm:manyR partR r with _ | ⟨l,r2⟩
 ·rw [hm] at hp;obtain ⟨rfl,hu⟩:=hp;have HTN:Hid (tgt=none):=by show _=_;rw [HTM.out,hm];rfl
  have HX3:=Lib.hid (hu.heap HX2.out (by omega));have HE3:=Lib.hid (hu.heap HE2.out (by omega));have HU3:=Lib.hid (HU2.out.then hu (fun i hi e=>by have e':i=xb+1+1:=e;have:=HXB.out;omega));clear HL hm hu HTM;unfold panicW;go_wp2_with fail
  refine door_bad HE3.out (fun W hW hu=>?_);refine ⟨_,results_cell_cell rfl _ rfl rfl (load_root (hu.heap HX3.out (by omega))) (load_err hW),?_⟩;rw [HTN.out];exact ⟨upd_newE HU3.out hu (by have:=HXB.out;omega),rfl⟩
 rw [hm] at hp;obtain ⟨v,rfl,hown,_,hu⟩:=hp;obtain ⟨A,cap,hv,_⟩:=hown.form;rw [List.length_map] at hv;subst hv;have HTS:Hid (tgt=some l):=by show _=_;rw [HTM.out,hm];rfl
 have HX3:=Lib.hid (hu.heap HX2.out (by omega));have HE3:=Lib.hid (hu.heap HE2.out (by omega));have HU3:=Lib.hid (HU2.out.then hu (fun i hi e=>by have e':i=xb+1+1:=e;have:=HXB.out;omega));have HOW:=Lib.hid hown;clear hm hu hown HTM HL hfx;obtain ⟨_,hfx⟩:=cellF1 HX3.out;go_upto_region 5 with fail
 have HX4:Hid ((w3.setCell ⟨xb,0,none⟩ (.slice A l.length cap)).heap[xb]?=some (.cells #[.slice A l.length cap] 50 (0,0))):=heap_setCell_eq (i:=0) (.slice A l.length cap) HX3.out;have hset:=(Upd.refl (fun k=>k=xb) w3).setCell (p:=⟨xb,0,none⟩) (fun _=>rfl) (.slice A l.length cap);have HE4:=Lib.hid (hset.heap HE3.out (by omega));have HU4:=Lib.hid (upd_newE HU3.out hset HXB.out);have HO4:=Lib.hid (HOW.out.other hset (fun g hg e=>by have h1:=(HOW.out.blk hg).1;have:=HS2.out;have e':g=xb:=e;omega));clear hset hfx HX3 HE3 HU3 HOW;generalize w3.setCell ⟨xb,0,none⟩ (.slice A l.length cap)=w4 at *;obtain ⟨hx0,hfx⟩:=cellF1 HX4.out;have HUS:=Lib.hid (upd_same HX4.out);obtain ⟨he0,hfe⟩:=cellF1 (HUS.out.heap HE4.out id);have HX5:=Lib.hid (HUS.out.heap HX4.out id);have HE5:=Lib.hid (HUS.out.heap HE4.out id);go_wp2_with fail
 have HUS2:=upd_same HE5.out;refine door_good ?_;refine ⟨_,results_cell_cell rfl _ rfl rfl (load_root (HUS2.heap HX5.out id)) (load_err (HUS2.heap HE5.out id)),?_⟩;rw [HTS.out];exact ⟨(HU4.out.trans HUS.out).trans HUS2,_,rfl,((HO4.out.upd HUS.out).upd HUS2).mono (by have:=HS2.out;have:=HXB.out;omega)⟩
theorem rootR_of (s:Bytes):rootR s=match (rootO s).map (·.1) with
  | none=>none
  | some l=>if rootB l=s then some l else none:=by
 unfold rootR rootO kindM;cases s with
 | nil=>rfl
 | cons c r=>
  have hc:c.toNat=3↔c=3:=⟨fun h=>UInt8.toNat_inj.1 (by rw [h];rfl),fun h=>by rw [h];rfl⟩;by_cases h:c=3
  ·simp only [h,ne_eq,not_true_eq_false,if_false];show _=match ((match (if (3:UInt8).toNat=3 then some r else none) with | none=>none | some r=>manyR partR r):Option _).map (·.1) with | none=>none | some l=>_
   rw [if_pos (by decide)];simp only;rcases manyR partR r with _ | ⟨l,r2⟩
   ·rfl
   ·rfl
  ·have h2:¬c.toNat=3:=fun e=>h (hc.1 e);simp only [ne_eq,h,not_false_eq_true,if_true,if_neg h2];rfl
theorem results_cell_tmp1 {fn:Func} {t p:Tmp} {ty2:TypeId} (h:fn.results=#[.cell t ty2,.tmp p]) (tmps:Array Value) {P:Program} {w:World} {a2:Addr} {x2:Value} (ht:tmps.getD t undef=.pointer (some a2)) (hl2:(loadVar ty2 a2).run P w=.ok x2 w) :
  (results fn tmps).run P w=.ok (.tuple #[x2,tmps.getD p undef]) w:=by
 have ht':tmps[t]?.getD undef=.pointer (some a2):=by simpa using ht
 simp only [results,h];simp [Result.andThen,asAddr,ht',hl2]
theorem bs_toList (l:Bytes):(bs l).toList=l:=ByteArray.toList_mk _
theorem plain_p32 {p:Part} (h:goodPart p):plainP (p32 p)=p:=by
 obtain ⟨a,b⟩:=p;unfold plainP p32;rw [h32_len h.1,h32_len h.2]
theorem plain_map {l:List Part} (h:∀p,p∈l→goodPart p):(l.map p32).map plainP=l:=by
 rw [List.map_map];have:l.map (plainP ∘ p32)=l.map id:=List.map_congr_left (fun p hp=>plain_p32 (h p hp));rw [this,List.map_id]
set_option maxHeartbeats 2000000 in
theorem OpenRoot_any (s:Bytes) (w:World) :
  Calls Tryz.prog 26 #[.string (bs s)] w fun en w'=>rootQ (rootR s) w en w':=by
 have HOP:=fun W=>Lib.hid (openRoot_any s W);obtain ⟨tgt,htgt⟩:∃t,t=rootR s:=⟨_,rfl⟩;rw [←htgt];have HT:=Lib.hid htgt;clear htgt;have HX:Hid ((w.alloc (.cells #[.slice none 0 0] 50)).heap[w.heap.size]?=some (.cells #[.slice none 0 0] 50 (0,0))):=heap_alloc_new w _;have HU0:Hid (Upd noBlk w (w.alloc (.cells #[.slice none 0 0] 50))):=(Upd.refl _ w).alloc _;go_enter Tryz.func26,Tryz.ntmps26
 go_upto_region 1 with fail
 obtain ⟨xb,hxb⟩:∃xb,xb=w.heap.size:=⟨_,rfl⟩;have HXB:Hid (w.heap.size≤xb):=by show _≤_;omega
 rw [←hxb] at HX;rw [←hxb];clear hxb;generalize w.alloc (.cells #[.slice none 0 0] 50)=w1 at *;have HOP1:=HOP w1;clear HOP;go_wp2_with fail
 refine HOP1.out.mono ?_;rintro e w2 ⟨hu,hv⟩;have HU2:=Lib.hid (HU0.out.trans hu);have HX2:=Lib.hid (hu.heap HX.out id);rcases hm:rootO s with _ | ⟨l,r2⟩
 ·rw [hm] at hv;simp only [Option.map_none] at hv;subst hv;have HTN:Hid (tgt=none):=by show _=_;rw [HT.out,rootR_of,hm];rfl
  have HXA:=Lib.hid (((Upd.refl noBlk w2).alloc (.cells #[.slice none 0 0] 50)).heap HX2.out id);have HUA:=Lib.hid (HU2.out.alloc (.cells #[.slice none 0 0] 50));clear HT HOP1 hu hm HX HU0;obtain ⟨_,hfx⟩:=cellF1 HXA.out;go_wp2_with fail
  have HZ:=heap_setCell_eq (i:=0) (.slice none 0 0) HXA.out
  (try simp only [Exit.inBlock,Exit.then])
  refine bodyPost_ret (results_cell_tmp1 rfl _ rfl (load_root HZ)) rfl ?_;rw [HTN.out];exact ⟨upd_newE HUA.out ((Upd.refl (fun k=>k=xb) _).setCell (p:=⟨xb,0,none⟩) (fun _=>rfl) _) HXB.out,rfl⟩
 ·rw [hm] at hv;simp only [Option.map_some] at hv;obtain ⟨v,rfl,hown⟩:=hv;have HTS:Hid (tgt=if rootB l=s then some l else none):=by show _=_;rw [HT.out,rootR_of,hm];rfl
  have HLG:Hid ((∀p,p∈l→goodPart p)∧l.length≤65536):=by
   show _∧_;unfold rootO at hm;rcases hk:kindM 3 s with _ | r
   ·rw [hk] at hm;cases hm
   ·rw [hk] at hm;exact manyR_all (good:=goodPart) (fun s x r h=>(partR_good h).1) hm
  obtain ⟨A,cap,hv,_⟩:=hown.form;rw [List.length_map] at hv;subst hv;have hA:Upd noBlk w2 (w2.alloc (.cells #[.slice A l.length cap] 50)):=(Upd.refl _ w2).alloc _;have HOW:=Lib.hid (hown.upd hA);have HS1:Hid (xb<w1.heap.size):=lt_of_heap HX.out;have HXA:=Lib.hid (hA.heap HX2.out id);have HTA:Hid ((w2.alloc (.cells #[.slice A l.length cap] 50)).heap[w2.heap.size]?=some (.cells #[.slice A l.length cap] 50 (0,0))):=heap_alloc_new w2 _;have HUA:=Lib.hid (HU2.out.trans hA);have HX2X:=HX2;clear HT HOP1 hu hm hA HX HU0 hown HX2 HU2;go_upto_region 2 with fail
  have HNE:Hid (¬xb=w2.heap.size):=fun e=>by have:=lt_of_heap HX2X.out;omega
  clear HX2X;generalize w2.heap.size=tb at *;generalize w2.alloc (.cells #[.slice A l.length cap] 50)=w3 at *;have hro:=Root_any (.slice A l.length cap) (l.map p32) w3 HOW.out.rd;rw [if_neg (by rw [List.length_map];have:=HLG.out.2;omega),plain_map HLG.out.1] at hro;have HRO:=Lib.hid hro;clear hro;obtain ⟨_,hfx⟩:=cellF1 HXA.out;obtain ⟨ht0,_⟩:=cellF1 HTA.out;by_cases hc:rootB l=s
  ·have HTN:Hid (tgt=some l):=by show _=_;rw [HTS.out];exact if_pos hc
   rw [hc] at HRO;clear HTS hc;go_wp2_with fail
   refine HRO.out.mono ?_;rintro e w4 ⟨rfl,u4⟩;have HX4:=Lib.hid (u4.heap HXA.out id);have HT4:=Lib.hid (u4.heap HTA.out id);have HO4:=Lib.hid (HOW.out.upd u4);have HU4:=Lib.hid (HUA.out.trans u4);clear u4 hfx ht0 HRO;obtain ⟨_,hfx⟩:=cellF1 HX4.out;obtain ⟨ht0,_⟩:=cellF1 HT4.out;go_wp2_with fail
   have HZ:=heap_setCell_eq (i:=0) (.slice A l.length cap) HX4.out;have hset:=(Upd.refl (fun k=>k=xb) w4).setCell (p:=⟨xb,0,none⟩) (fun _=>rfl) (.slice A l.length cap)
   (try simp only [Exit.inBlock,Exit.then])
   refine bodyPost_ret (results_cell_tmp1 rfl _ rfl (load_root HZ)) rfl ?_;rw [HTN.out];refine ⟨upd_newE HU4.out hset HXB.out,_,rfl,(HO4.out.other hset (fun g hg e=>by have h1:=(HO4.out.blk hg).1;have:=HS1.out;have e':g=xb:=e;omega)).mono ?_⟩;have:=HS1.out;have:=HXB.out;omega
  ·have HTN:Hid (tgt=none):=by show _=_;rw [HTS.out];exact if_neg hc
   have hne:((bs (rootB l)).toList == (bs s).toList)=false:=by
    rw [beq_eq_false_iff_ne,bs_toList,bs_toList];exact hc
   clear HTS hc;go_wp2_with fail
   refine HRO.out.mono ?_;rintro e w4 ⟨rfl,u4⟩;have HX4:=Lib.hid (u4.heap HXA.out id);have HU4:=Lib.hid (HUA.out.trans u4);clear u4 hfx ht0 HRO;obtain ⟨_,hfx⟩:=cellF1 HX4.out;go_wp2_with fail
   have HZ:=heap_setCell_eq (i:=0) (.slice none 0 0) HX4.out
   (try simp only [Exit.inBlock,Exit.then])
   refine bodyPost_ret (results_cell_tmp1 rfl _ rfl (load_root HZ)) rfl ?_;rw [HTN.out];exact ⟨upd_newE HU4.out ((Upd.refl (fun k=>k=xb) _).setCell (p:=⟨xb,0,none⟩) (fun _=>rfl) _) HXB.out,rfl⟩
end Go.Proofs.YtcikldoaidmnhaaGreatDoor
namespace Go.Proofs.YtcikldoaidmnhaaGreatDoor
open Go Go.RowKit Pk
set_option maxRecDepth 100000
def hashB (n:Int) (k:Nat):Int:=wrap64 (n+(wrap64 ((k:Int)*n)).tmod 7) % 256
def hashTo (n:Int) (k:Nat):Array Value:=((List.range 32).map (fun j=>Value.int .u8 (if j<k then hashB n j else 0))).toArray
theorem hashTo_get (n:Int) (k j:Nat) (h:j<32):(hashTo n k)[j]?=some (.int .u8 (if j<k then hashB n j else 0)):=by
 simp [hashTo,h]
theorem hashTo_succ (n:Int) (k:Nat):(hashTo n k).setIfInBounds k (.int .u8 (hashB n k))=hashTo n (k+1):=by
 apply Array.ext_getElem?;intro j;rw [Array.getElem?_setIfInBounds];by_cases h:j<32
 ·rw [hashTo_get n k j h,hashTo_get n (k+1) j h];by_cases e:k=j
  ·subst e;rw [if_pos rfl,if_pos (by simpa [hashTo] using h),if_pos (by omega)]
  ·rw [if_neg e];by_cases h2:j<k
   ·rw [if_pos h2,if_pos (by omega)]
   ·rw [if_neg h2,if_neg (by omega)]
 ·have h1:∀q,(hashTo n q)[j]?=none:=fun q=>by simp [hashTo];omega
  rw [h1,h1];by_cases e:k=j
  ·subst e;rw [if_pos rfl,if_neg (by simpa [hashTo] using h)]
  ·rw [if_neg e]
set_option maxHeartbeats 1000000 in
theorem jhash_any (n:Int) (w:World):Calls Tryz.prog 72 #[.int .i64 n] w fun en w'=>en=.returned (.agg (hashTo n 32))∧Upd noBlk w w':=by
 go_enter Tryz.func72,Tryz.ntmps72
 have hrep:(Array.replicate 32 (Value.int .u8 0))=#[.int .u8 0,.int .u8 0,.int .u8 0,.int .u8 0,.int .u8 0,.int .u8 0,.int .u8 0,.int .u8 0,.int .u8 0,.int .u8 0,.int .u8 0,.int .u8 0,.int .u8 0,.int .u8 0,.int .u8 0,.int .u8 0,.int .u8 0,.int .u8 0,.int .u8 0,.int .u8 0,.int .u8 0,.int .u8 0,.int .u8 0,.int .u8 0,.int .u8 0,.int .u8 0,.int .u8 0,.int .u8 0,.int .u8 0,.int .u8 0,.int .u8 0,.int .u8 0]:=rfl;have b0:Hid (((w.alloc (.cells (Array.replicate 32 (.int .u8 0)) 81)).alloc (.cells (Array.replicate 32 (.int .u8 0)) 81)).heap[w.heap.size]?=some (.cells (Array.replicate 32 (.int .u8 0)) 81 (0,0))):=((Upd.refl noBlk _).alloc _).heap (heap_alloc_new w _) id;have b1:Hid (((w.alloc (.cells (Array.replicate 32 (.int .u8 0)) 81)).alloc (.cells (Array.replicate 32 (.int .u8 0)) 81)).heap[w.heap.size+1]?=some (.cells (hashTo n 0) 81 (0,0))):=by
  have h:=heap_alloc_new (w.alloc (.cells (Array.replicate 32 (.int .u8 0)) 81)) (.cells (Array.replicate 32 (.int .u8 0)) 81);rw [show (w.alloc (.cells (Array.replicate 32 (.int .u8 0)) 81)).heap.size=w.heap.size+1 from Array.size_push ..] at h;exact h
 have HU0:Hid (Upd noBlk w ((w.alloc (.cells (Array.replicate 32 (.int .u8 0)) 81)).alloc (.cells (Array.replicate 32 (.int .u8 0)) 81))):=((Upd.refl noBlk w).alloc _).alloc _;rw [hrep] at b0 b1 HU0;go_wp2_with fail
 generalize (w.alloc _).alloc _=w1 at *;obtain ⟨N,hN⟩:∃N,N=w.heap.size:=⟨_,rfl⟩;rw [←hN] at b0 b1 ⊢;have HWN:Hid (w.heap.size≤N):=by show _≤_;omega
 clear hN;go_loopw [4] (fun i wr=>∃k:Nat,i=.int .i64 k∧k≤32∧wr.heap[N+1]?=some (.cells (hashTo n k) 81 (0,0))∧Upd (fun b=>b=N+1) w1 wr) (fun i _=>32-(intOf i).toNat)
 case atStart=>exact ⟨0,rfl,by omega,b1.out,Upd.refl _ _⟩
 case round=>
  obtain ⟨k,rfl,hk,hb,hu⟩:=hrel;have HB:=Lib.hid hb;have HU:=Lib.hid hu;clear hb hu;by_cases hlt:k<32
  ·have hlt':(k:Int)<32:=by omega
   have hc:wr.cell? ⟨N+1,k,none⟩=some (.int .u8 0):=by
    rw [cell_of_row _ _ k _ 81 (0,0) HB.out,hashTo_get n k k hlt,if_neg (by omega)]
   have hf:wr.frozen? ⟨N+1,k,none⟩=false:=by simp [World.frozen?,HB.out]
   go_wp2_with fail
   have hs:=heap_setCell_eq (i:=k) (.int .u8 (hashB n k)) HB.out;rw [hashTo_succ] at hs;exact ⟨⟨k+1,by push_cast;rfl,hlt,hs,HU.out.setCell (p:=⟨N+1,k,none⟩) (fun _=>rfl) _⟩,by simp only [intOf];omega⟩
  ·obtain rfl:k=32:=by omega
   have HB0:=Lib.hid (HU.out.heap b0.out (by omega));have hl32:(hashTo n 32).size=32:=by simp [hashTo]
   have h1:∀v∈(hashTo n 32).toList,v.oneCell'=true:=by
    intro v hv;simp [hashTo] at hv;obtain ⟨j,_,rfl⟩:=hv;rfl
   obtain ⟨X,hst,hx1,hx2⟩:=store_row (P:=Tryz.prog) HB0.out (vs:=(hashTo n 32).toList) (by simp [hashTo]) h1;have HRA:Hid (wr.rangeAt (N+1) 0 (hashTo n 32).toList):=fun j v hv=>by
    rw [Nat.zero_add,cell_of_row _ _ j _ 81 (0,0) HB.out];simpa using hv
   have HI:Hid ((Tryz.prog.info? 81).map (·.size)=some (hashTo n 32).toList.length):=by show _=_;rw [show (hashTo n 32).toList.length=32 by simp [hashTo]];kernel_rfl
   have hlen:(hashTo n 32).toList.length=32:=by simp [hashTo]
   go_wp2_with (first | (refine wpList_load_mid rfl _ _ rfl (N+1) 0 rfl (hashTo n 32).toList _ HRA.out Tryz.underlying81 rfl HI.out ?_))
   (try simp only [Exit.inBlock,Exit.then])
   refine bodyPost_ret (results_cell_row rfl _ _ N 81 _ (0,0) _ rfl hx1 Tryz.underlying81 rfl (by have:=HI.out;simpa using this)) rfl ?_;refine ⟨rfl,?_⟩;have h1:=upd_newE HU0.out (HU.out) (by have:=HWN.out;omega);exact upd_newE h1 hx2 HWN.out
def hashV (n:Int):H32:=⟨(List.range 32).map (fun k=>UInt8.ofNat (hashB n k).toNat),by simp⟩
theorem hashTo_V (n:Int):hashTo n 32=(hashC (hashV n)).toArray:=by
 unfold hashTo hashC hashV byV;congr 1
 rw [List.map_map];apply List.map_congr_left;intro j hj;have hj:=List.mem_range.1 hj;rw [if_pos hj];simp only [Function.comp_apply];congr 1
 have h1:0≤hashB n j:=Int.emod_nonneg _ (by decide);have h2:hashB n j<256:=Int.emod_lt_of_pos _ (by decide);rw [u8_small (by omega)];omega
theorem jhash_V (n:Int) (w:World):Calls Tryz.prog 72 #[.int .i64 n] w fun en w'=>en=.returned (.agg (hashC (hashV n)).toArray)∧Upd noBlk w w':=by
 rw [←hashTo_V];exact jhash_any n w
end Go.Proofs.YtcikldoaidmnhaaGreatDoor
namespace Go.Proofs.YtcikldoaidmnhaaGreatDoor
open Go Go.RowKit Pk
set_option maxRecDepth 100000
theorem exec_load_mid {P:Program} {op:Oper} {e:Operand→Value} {w:World} (ty:TypeId) (x:Operand) (ho:op.op=.load ty x) (b o:Nat) (hx:e x=.pointer (some ⟨b,o,none⟩)) (cs:List Value) (d:TypeDesc) (hc:w.rangeAt b o cs) (hu:P.underlying ty=some d) (hd:d.isRow=true) (hi:(P.info? ty).map (·.size)=some cs.length):(execOp e op).run P w=.ok (.value (.agg cs.toArray)) w:=by
 unfold execOp;simp only [ho,hx,Instr.loadAt,Instr.sureAddr,Sem.run_bind,Sem.run_pure,Result.andThen_ok,run_loadVar_mid w b o ty cs d hc hu hd hi]
theorem size_hash (h:H32):(Tryz.prog.info? 81).map (·.size)=some (byV h.1).length:=by rw [byV_len,h.2];kernel_rfl
end Go.Proofs.YtcikldoaidmnhaaGreatDoor
namespace Go.Proofs.YtcikldoaidmnhaaGreatDoor
open Go Go.RowKit Pk
set_option maxRecDepth 100000
def partOf (n:Int):P32:=(hashV n,hashV (IntKind.i64.wrap (n.tdiv 256)))
set_option maxHeartbeats 2000000 in
theorem jParts_any (v:Value) (l:List Int) (w:World) (hlen:l.length≤9223372036854775807) (h:kInt.Rd w v l):Calls Tryz.prog 24 #[v] w fun en w'=>∃v,en=.returned v∧kPart.Own w.heap.size w' v ((l.take 10).map partOf)∧Upd noBlk w w':=by
 obtain ⟨A,cap,rfl,hcap,hx⟩:=h;have HX:=Lib.hid hx;have hl':(l.length:Int)≤9223372036854775807:=by omega
 have HJ:=fun n W=>Lib.hid (jhash_V n W);clear hx hlen;go_enter Tryz.func24,Tryz.ntmps24
 go_wp2_with fail
 go_loopw [3,4] (fun o i wr=>∃k:Nat,i=.int .i64 k∧k≤l.length∧k≤10∧kPart.Own w.heap.size wr o ((l.take k).map partOf)∧Upd noBlk w wr) (fun _ i _=>l.length-(intOf i).toNat)
 case atStart=>exact ⟨0,rfl,Nat.zero_le _,by omega,Kd.Own.nil _ _ _,Upd.refl _ _⟩
 case round=>
  obtain ⟨k,rfl,hk,hk10,ho,hu⟩:=hrel;have HO:=Lib.hid ho;have HU:=Lib.hid hu;clear ho hu;by_cases hlt:k<l.length
  ·have hlt':(k:Int)<(l.length:Int):=by omega
   by_cases hlt10:k<10
   ·have hlt10':(k:Int)<10:=by omega
    obtain ⟨b,off,rfl,f1⟩:=HX.out (by omega);have hat:=f1 k hlt;have hk1:kInt.k=1:=rfl;rw [hk1,Nat.mul_one] at hat;have HAT:Hid (∀W,Upd noBlk w W→W.cell? ⟨b,off+k,none⟩=some (.int .i64 l[k])):=fun W hW=>by
     have h0:=hW.cell (hat 0 _ rfl) id;exact h0
    have HTK:Hid ((l.take (k+1)).map partOf=(l.take k).map partOf++[partOf l[k]]):=by
     show _=_;rw [List.take_succ_eq_append_getElem hlt,List.map_append];rfl
    have HLN:Hid (((l.take k).map partOf).length=k):=by show _=_;rw [List.length_map,List.length_take];omega
    clear f1 hat hk1 HX;generalize l[k]=n at *;have HB1:=HJ n;have HB2:=HJ (IntKind.i64.wrap (n.tdiv 256));clear HJ;go_wp2_with fail
    refine wp_region_tree 15 (OT.sures [0,1,2,6,7,3,8,4,9,10] (.run 5 (.run 11 (OT.sures [12] (.run 13 (.run 14 .nil)))))) (fun w'=>Upd noBlk w w') (by kernel_rfl) (by kernel_rfl) (fun c a d v w h=>by cases d<;>exact h) (HU.out.drew) ?_
    simp only [OT.sures]
    iterate 10 (apply wpT_sure rfl rfl;focus (intro w' hw';have c1:=HAT.out w' hw';go_simp;rfl))
    refine wpT_run (fun w'=>Upd noBlk w w') (fun _ h=>h) rfl (fun K' hK=>?_);go_simp
    refine (HB1 _).out.mono ?_;rintro e wz ⟨rfl,uz⟩;have UZ:=Lib.hid ((Upd.refl noBlk wr).drew.trans uz);refine hK _ _ ⟨HU.out.trans UZ.out,?_⟩;clear hK K' uz HB1;refine wpT_run (fun w'=>Upd noBlk w w') (fun _ h=>h) rfl (fun K' hK=>?_);go_simp
    refine (HB2 _).out.mono ?_;rintro e wy ⟨rfl,uy⟩;have UY:=Lib.hid (UZ.out.trans uy);refine hK _ _ ⟨HU.out.trans UY.out,?_⟩;clear hK K' uy HB2 UZ;apply wpT_sure rfl rfl
    focus (intro w' hw';exact exec_build_part (hashV n) (hashV (IntKind.i64.wrap (n.tdiv 256))) w' (.tmp 20) (.tmp 26) rfl (by go_simp) (by go_simp))
    refine wpT_run (fun w'=>Upd noBlk w w') (fun _ h=>h) rfl (fun K' hK=>?_);refine if_wanted (by go_simp) ?_;have HSZ:Hid ((sizeOf 83).run Tryz.prog wy=.ok 64 wy):=by show _=_;kernel_rfl
    have HZ:Hid ((zeroValue 83).run Tryz.prog wy=.ok (.agg (Array.replicate 64 (.int .u8 0))) wy):=by show _=_;kernel_rfl
    refine wp_val _ _ (exec_build1 wy (.tmp 27) (partC (partOf n)) Tryz.underlying47 HSZ.out HZ.out (by decide) (by decide) (partC_len _) rfl (by go_simp;rfl)) ?_;refine hK _ _ ⟨(HU.out.trans UY.out).alloc _,?_⟩;clear hK K' HSZ HZ;have HUW:=Lib.hid (HU.out.trans UY.out);have HOW:=Lib.hid (HO.out.upd UY.out);obtain ⟨g,cap3,w3,r3,o3,v3,_⟩:=HOW.out.app1 HUW.out.size (partOf n) (by rw [HLN.out];omega);rw [HLN.out] at r3 o3;rw [←HTK.out] at o3;have R3:=Lib.hid r3;have O3:=Lib.hid o3;have HU3:=Lib.hid (HUW.out.then v3 (fun i hi e=>absurd hi (by have:=(HOW.out.blk e).1;omega)));clear r3 o3 v3 HUW;refine wpT_run (fun w'=>Upd noBlk w w') (fun _ h=>h) rfl (fun K' hK=>?_);refine if_wanted (by go_simp) ?_;refine wp_append_run (.tmp 15) (.tmp 28) _ rfl (by go_simp) (by go_simp) R3.out ?_;refine hK _ _ ⟨HU3.out,?_⟩;clear hK K';refine wpT_nil ?_;go_wp2_with fail
    exact ⟨⟨k+1,by push_cast;rfl,hlt,hlt10,O3.out,HU3.out⟩,by simp only [intOf];omega⟩
   ·obtain rfl:k=10:=by omega
    go_wp2_with fail
    go_ret
    exact ⟨_,rfl,HO.out,HU.out⟩
  ·obtain rfl:k=l.length:=by omega
   have HTK:Hid (l.take 10=l.take l.length):=by
    show _=_;rw [List.take_length,List.take_of_length_le hk10]
   go_wp2_with fail
   go_ret
   exact ⟨_,rfl,by rw [HTK.out];exact HO.out,HU.out⟩
end Go.Proofs.YtcikldoaidmnhaaGreatDoor
