/- Parts: Walks of the coder: the reader's Number. Walks of the coder: the writer's Number. Walks of the packets' program: a corner is met. No condition. Walks of the packets' program: a place is written. No condition. Walks of the packets' program: expected, zigzag, places written. No condition. Walks of the packets' program: the state's last corner, new states, expected, zigzag. No condition. -/
import Derived.Test.YtcikldoaidmnhaaGreatDoorRSpoi1
import Derived.Test.YtcikldoaidmnhaaGreatDoorRSpoi3
import Derived.Test.YtcikldoaidmnhaaGreatDoorRSpoi4
import Derived.Test.YtcikldoaidmnhaaGreatDoorRSpoi5
import Derived.Test.YtcikldoaidmnhaaGreatDoorRSpoi6
import Derived.Test.YtcikldoaidmnhaaGreatDoorRSpoi7
import Derived.Test.YtcikldoaidmnhaaGreatDoorRSpoi8
import Derived.Test.YtcikldoaidmnhaaGreatDoorRSpoi9
import Derived.Test.YtcikldoaidmnhaaGreatDoorRSpoi10
import Derived.Test.YtcikldoaidmnhaaGreatDoorRSpoi11
import Derived.Test.YtcikldoaidmnhaaGreatDoorRSpoi12
import Derived.Test.YtcikldoaidmnhaaGreatDoorRSpoi13
import Derived.Test.YtcikldoaidmnhaaGreatDoorRSpoi14
import Derived.Test.YtcikldoaidmnhaaGreatDoorRSpoi15
import Derived.WalkKit
import Derived.WalkSpells
import Derived.WalkLawsBesides
import Derived.Lib.Hide
import Derived.BigQuiet
import Derived.Deep.DeepFit
import Derived.Deep.DeepCutAuto
import Derived.Deep.AppendLies
import Derived.Deep.QuietTactic
import Derived.Maps.OwnOps
import Derived.Maps.OwnSet
import Derived.Maps.RangeWalk
import Derived.WideKeyEntry
import Derived.Deep.MidRow
import Derived.Lib.Bits
import Derived.Test.YtcikldoaidmnhaaGreatDoorRows
import Derived.Deep.RegionHeld3
import Derived.StillTail
import Derived.Laws.EntriesVeiled
import Derived.Handy
import Derived.DeepKeys4
import Derived.ArgAppend
import Derived.Deep.Upon
import Derived.Deep.CutBlock
import Derived.Test.YtcikldoaidmnhaaGreatDoorShelf2
import Derived.Test.YtcikldoaidmnhaaGreatDoorShelf
import Derived.Laws.BitsAllLaws
import Derived.Lib.Zigzag
namespace Go.Proofs.YtcikldoaidmnhaaGreatDoor
open Go Go.RowKit Pk
set_option maxRecDepth 100000
theorem set3 {w:World} {b:Nat} {x0 x1 x2 y0 y1 y2:Value} {t:TypeId} (h:w.heap[b]?=some (.cells #[x0,x1,x2] t (0,0))):((((w.setCell ⟨b,0,none⟩ y0).setCell ⟨b,1,none⟩ y1).setCell ⟨b,2,none⟩ y2).heap[b]?=some (.cells #[y0,y1,y2] t (0,0))):=
 post3 (Q:=fun wz=>wz.heap[b]?=some (.cells #[y0,y1,y2] t (0,0))) h (fun _ h _=>h)
theorem upd3 {w0 w:World} (h:Upd noBlk w0 w) {b:Nat} (hb:w0.heap.size≤b) (y0 y1 y2:Value):Upd noBlk w0 (((w.setCell ⟨b,0,none⟩ y0).setCell ⟨b,1,none⟩ y1).setCell ⟨b,2,none⟩ y2):=
 ((h.setCell (p:=⟨b,0,none⟩) (fun h=>absurd h (Nat.not_lt.2 hb)) _).setCell (p:=⟨b,1,none⟩) (fun h=>absurd h (Nat.not_lt.2 hb)) _).setCell (p:=⟨b,2,none⟩) (fun h=>absurd h (Nat.not_lt.2 hb)) _
theorem wrapN {n:Int} (h0:-9223372036854775808≤n) (h1:n≤9223372036854775807):IntKind.i64.wrap n=n:=by
 have:=IntKind.wrap_i64 n;omega
set_option maxHeartbeats 1000000 in
theorem last_any (b:Nat) (S:Wk) (G:Nat→Prop) (hl:S.known.length≤1000000) (w:World) (h:SRep w b S G):Calls Tryz.prog 98 #[.pointer (some ⟨b,0,none⟩)] w fun en w'=>en=.returned (ptV (lastK S.known))∧Upd noBlk w w':=by
 obtain ⟨vK,vG,vT,ba,bu,h,rfl⟩:=h;obtain ⟨A,cap,rfl,hcap⟩:=h.comp.known.form;have hl':(S.known.length:Int)≤1000000:=by omega
 have HR:=h.comp.known.rd;obtain ⟨A',cap',e,_,hrd⟩:=HR;cases e;have hu:=(Upd.refl noBlk w).alloc (.cells #[.int .i64 0,.int .i64 0,.int .i64 0] 43);have HU:=Lib.hid hu;have HRD:Hid (0<S.known.length→∃b off,A=some ⟨b,off,none⟩∧∀j (hj:j<S.known.length),kPt.At (w.alloc (.cells #[.int .i64 0,.int .i64 0,.int .i64 0] 43)) b (off+j*kPt.k) S.known[j]):=fun h0=>by
  obtain ⟨b',off,e,k⟩:=hrd h0;exact ⟨b',off,e,fun j hj=>(k j hj).keep hu⟩
 have HB:=Lib.hid (hu.heap h.blk id);have HZ:=Lib.hid (heap_alloc_new w (.cells #[.int .i64 0,.int .i64 0,.int .i64 0] 43));obtain ⟨K,hK⟩:∃K,K=S.known:=⟨_,rfl⟩;rw [←hK] at HRD HB hl' hcap;rw [←hK];clear h hu hrd hl hK;go_enter Tryz.func98,Tryz.ntmps98
 obtain ⟨wx,hwx⟩:∃wx,wx=w.alloc (.cells #[.int .i64 0,.int .i64 0,.int .i64 0] 43):=⟨_,rfl⟩;rw [←hwx] at HU HB HZ HRD;go_upto_region 1 with fail
 rw [←hwx];clear hwx;obtain ⟨⟨k0,k1,k2,k3,k4⟩,_⟩:=cells5 HB.out;obtain ⟨⟨z0,z1,z2⟩,⟨f0,f1,f2⟩⟩:=cellsF3 HZ.out;rcases Nat.eq_zero_or_pos K.length with h0 | h0
 ·have hnil:K=[]:=List.eq_nil_of_length_eq_zero h0;subst hnil;go_wp2_with fail
  have HZ2:=set3 (y0:=.int .i64 0) (y1:=.int .i64 0) (y2:=.int .i64 0) HZ.out;have HU2:=upd3 HU.out (Nat.le_refl _) (.int .i64 0) (.int .i64 0) (.int .i64 0)
  (try simp only [Exit.inBlock,Exit.then])
  refine bodyPost_ret (results_cell_row rfl _ _ w.heap.size 43 _ (0,0) _ rfl HZ2 Tryz.underlying43 rfl (by kernel_rfl)) rfl ?_;exact ⟨rfl,HU2⟩
 ·have h0':(0:Int)<(K.length:Int):=by omega
  have h1':¬(K.length:Int)=0:=by omega
  obtain ⟨b',off,rfl,hrd⟩:=HRD.out h0;have hk3:kPt.k=3:=rfl;have hat:=hrd (K.length-1) (by omega);rw [hk3] at hat;have HAT:=Lib.hid hat;obtain ⟨m,hm⟩:∃m,K.length=m+1:=⟨K.length-1,by omega⟩;have HLK:Hid (lastK K=K[K.length-1]):=by
   show _=_;unfold lastK;rw [List.getLast?_eq_getElem?,List.getElem?_eq_getElem (by omega)];rfl
  generalize K[K.length-1]=p at *;obtain ⟨p0,p1,p2⟩:=p;rw [hm] at HAT HB k0;have hm':(m:Int)≤1000000:=by omega
  have hwm:IntKind.i64.wrap (m:Int)=(m:Int):=wrapN (by omega) (by omega);have hlm:(m:Int)<(m:Int)+1:=by omega
  have HM:=Lib.hid hm;clear hrd hat hk3 HRD h0 hm hcap hl' h0' h1';rw [show m+1-1=m from rfl] at HAT;go_wp2_with fail
  refine wp_region_tree 12 (OT.sures [0,4,1,5,2,3,6,7,8,9,10,11] .nil) (fun w'=>Gr wx w') (by kernel_rfl) (by kernel_rfl) (fun c a d v w h=>by cases d<;>exact h) ((Gr.refl wx).drew) ?_
  simp only [OT.sures]
  iterate 12 (apply wpT_sure rfl rfl;focus (intro w' hw';obtain ⟨⟨k0,k1,k2,k3,k4⟩,_⟩:=cells5 (hw'.heap HB.out id);obtain ⟨a0,a1,a2⟩:=ptAt3 (HAT.out.keep hw'.up);go_simp;rfl))
  refine wpT_nil ?_;go_wp2_with fail
  have HZ2:=set3 (y0:=.int .i64 p0) (y1:=.int .i64 p1) (y2:=.int .i64 p2) HZ.out;have HU2:=upd3 HU.out (Nat.le_refl _) (.int .i64 p0) (.int .i64 p1) (.int .i64 p2)
  (try simp only [Exit.inBlock,Exit.then])
  refine bodyPost_ret (results_cell_row rfl _ _ w.heap.size 43 _ (0,0) _ rfl (by exact HZ2) Tryz.underlying43 rfl (by kernel_rfl)) rfl ?_;exact ⟨by rw [HLK.out];rfl,HU2.drew⟩
theorem newState_any (w:World):Calls Tryz.prog 44 #[] w fun en w'=>en=.returned (.pointer (some ⟨w.heap.size+2,0,none⟩))∧SRep w' (w.heap.size+2) Wk.init (fun k=>k=w.heap.size∨k=w.heap.size+1∨k=w.heap.size+2)∧Upd noBlk w w':=by
 have hmm:=@run_makeMap Tryz.prog;go_enter Tryz.func44,Tryz.ntmps44
 go_wp2_with fail
 go_ret
 have h0:=(((Upd.refl noBlk w).alloc (.map #[] 0)).alloc (.map #[] 0)).alloc (.cells #[.slice none 0 0,.map (some w.heap.size),.map (some (w.heap.size+1)),.slice none 0 0,.slice none 0 0] 103);have ha:kitAt.At (w.alloc (.map #[] 0)) w.heap.size 0 (atF []):=MapKit.At.made kitAt w;have hb:kitUsed.At ((w.alloc (.map #[] 0)).alloc (.map #[] 0)) (w.heap.size+1) 0 (setF []):=by
  have:=MapKit.At.made kitUsed (w.alloc (.map #[] 0));rw [World.size_alloc] at this;exact this
 have hc:=heap_alloc_new ((w.alloc (.map #[] 0)).alloc (.map #[] 0)) (.cells #[.slice none 0 0,.map (some w.heap.size),.map (some (w.heap.size+1)),.slice none 0 0,.slice none 0 0] 103);rw [World.size_alloc,World.size_alloc] at hc;refine ⟨rfl,⟨.slice none 0 0,.slice none 0 0,.slice none 0 0,w.heap.size,w.heap.size+1,⟨hc,?_⟩,?_⟩,h0⟩
 ·exact ⟨ha.keep (((Upd.refl noBlk _).alloc _).alloc _),hb.keep ((Upd.refl noBlk _).alloc _),Kd.Own.nil _ _ _,Kd.Que.nil _ _ _,Kd.Own.nil _ _ _,by omega⟩
 ·funext k
  simp only [sFoot,Value.ownBlock,reduceCtorEq,or_false,eq_iff_iff];constructor
  ·rintro (h | h | h)
   ·exact .inr (.inl h)
   ·exact .inr (.inr h)
   ·exact .inl h
  ·rintro (h | h | h)
   ·exact .inr (.inr h)
   ·exact .inl h
   ·exact .inr (.inl h)
end Go.Proofs.YtcikldoaidmnhaaGreatDoor
namespace Go.Proofs.YtcikldoaidmnhaaGreatDoor
open Go Go.RowKit Pk
set_option maxRecDepth 100000
def meetN (known:List Pt) (p:Pt):Nat:=if p∈known then known.length-1-known.idxOf p else 0
set_option maxHeartbeats 2000000 in
theorem meet_any (b:Nat) (S:Wk) (G:Nat→Prop) (p:Pt) (hp:okP p) (hl:S.known.length≤100000) (w:World) (h:SRep w b S G) :
  Calls Tryz.prog 50 #[.pointer (some ⟨b,0,none⟩),ptV p] w fun en w'=>en=.returned (.tuple #[.int .i64 (meetN S.known p),.bool (decide (p∈S.known))])∧SPost G w w' b ⟨meetK S.known p,S.tris,S.gates⟩:=by
 obtain ⟨vK,vG,vT,ba,bu,h,rfl⟩:=h;have HL:=Lib.hid h;have HN:=Lib.hid h.ne;obtain ⟨p0,p1,p2⟩:=p;obtain ⟨A,cap,rfl,hcap⟩:=h.comp.known.form;have hu:=(Upd.refl noBlk w).alloc (.cells #[.int .i64 p0,.int .i64 p1,.int .i64 p2] 43);have HU:=Lib.hid hu;have HB:=Lib.hid (hu.heap h.blk id);have HZ:=Lib.hid (heap_alloc_new w (.cells #[.int .i64 p0,.int .i64 p1,.int .i64 p2] 43));have HA:=Lib.hid (h.comp.at_.keep hu);have HP:=Lib.hid hp;have HPB:Hid (∀k,sFoot b (.slice A S.known.length cap) vG vT ba bu k→k≠w.heap.size):=fun k hk e=>by have:=h.lt k hk;omega
 obtain ⟨tr,htr⟩:∃tr,tr=S.tris:=⟨_,rfl⟩;obtain ⟨K,hK⟩:∃K,K=S.known:=⟨_,rfl⟩;obtain ⟨gs,hgs⟩:∃gs,gs=S.gates:=⟨_,rfl⟩;obtain rfl:S=⟨K,tr,gs⟩:=by rw [htr,hK,hgs]
 simp only at *;clear htr hK hgs;have hl':(K.length:Int)≤100000:=by omega
 have hl0:Hid (K.length≤100000):=hl;have HCAP:=Lib.hid hcap;clear h hu hp hl hcap;unfold ptV;go_enter Tryz.func50,Tryz.ntmps50
 obtain ⟨wx,hwx⟩:∃wx,wx=w.alloc (.cells #[.int .i64 p0,.int .i64 p1,.int .i64 p2] 43):=⟨_,rfl⟩;rw [←hwx] at HU HB HZ HA;go_upto_region 1 with fail
 rw [←hwx];clear hwx;have hlk:=HA.out.lookOkR (a:=(p0,p1,p2)) HP.out;by_cases hm:(p0,p1,p2)∈K
 ·have hv:atF K (p0,p1,p2)=some ((K.idxOf (p0,p1,p2):Nat):Int):=by unfold atF;rw [if_pos hm]
  have hid:=List.idxOf_lt_length_iff.2 hm;have HR:Hid (meetN K (p0,p1,p2)=K.length-1-K.idxOf (p0,p1,p2)):=by show _=_;unfold meetN;rw [if_pos hm]
  have HD:Hid (decide ((p0,p1,p2)∈K)=true):=decide_eq_true hm;have HM:Hid (meetK K (p0,p1,p2)=K):=by show _=_;unfold meetK;rw [if_pos hm]
  obtain ⟨j,hj⟩:∃j,j=K.idxOf (p0,p1,p2):=⟨_,rfl⟩;rw [←hj] at hv hid HR;have hid':(j:Int)<(K.length:Int):=by omega
  have HJ:Hid (j<K.length):=hid;have HK:Hid (∀w',Gr wx w'→(Instr.lookup 99 (.map (some ba)) (.agg #[.int .i64 p0,.int .i64 p1,.int .i64 p2]) true).run Tryz.prog w'=.ok (.tuple #[.int .i64 (j:Int),.bool true]) w'):=fun w' hw'=>by
   have:=(HA.out.keep hw'.up).lookOkR (a:=(p0,p1,p2)) HP.out;rw [hv] at this;exact this
  clear hm hv hid hlk hj;refine wp_region_tree 10 (OT.sures [0,1,2,3,4,5,6,7,8,9] .nil) (fun w'=>Gr wx w') (by kernel_rfl) (by kernel_rfl) (fun c a d v w h=>by cases d<;>exact h) ((Gr.refl wx).drew) ?_
  simp only [OT.sures]
  iterate 10 (apply wpT_sure rfl rfl;focus (intro w' hw';have hk:=HK.out w' hw';obtain ⟨⟨k0,k1,k2,k3,k4⟩,_⟩:=cells5 (hw'.heap HB.out id);obtain ⟨a0,a1,a2⟩:=cells3 (hw'.heap HZ.out id);go_simp;rfl))
  refine wpT_nil ?_;obtain ⟨⟨k0,k1,k2,k3,k4⟩,_⟩:=cells5 HB.out;go_wp2_with fail
  go_ret2
  refine ⟨?_,?_⟩
  ·show Ending.returned (Value.tuple #[.int .i64 ((K.length:Int)-1-(j:Int)),.bool true])=_;rw [HD.out,HR.out];have e:((K.length-1-j:Nat):Int)=(K.length:Int)-1-(j:Int):=by have:=HJ.out;omega
   rw [e]
  ·rw [HM.out];have hU:=HU.out.drew;exact ⟨_,⟨_,_,_,_,_,HL.out.upd hU (fun _ _=>id),rfl⟩,fun k hk=>.inl hk,hU.mono (fun _ _ h=>h.elim)⟩
 ·have hv:atF K (p0,p1,p2)=none:=by unfold atF;rw [if_neg hm]
  have HR:Hid (meetN K (p0,p1,p2)=0):=by show _=_;unfold meetN;rw [if_neg hm]
  have HD:Hid (decide ((p0,p1,p2)∈K)=false):=decide_eq_false hm;have HM:Hid (meetK K (p0,p1,p2)=K++[(p0,p1,p2)]):=by show _=_;unfold meetK;rw [if_neg hm]
  have HNW:=Lib.hid (atF_new hm);have HK:Hid (∀w',Gr wx w'→(Instr.lookup 99 (.map (some ba)) (.agg #[.int .i64 p0,.int .i64 p1,.int .i64 p2]) true).run Tryz.prog w'=.ok (.tuple #[.int .i64 0,.bool false]) w'):=fun w' hw'=>by
   have:=(HA.out.keep hw'.up).lookOkR (a:=(p0,p1,p2)) HP.out;rw [hv] at this;exact this
  clear hm hv hlk;refine wp_region_tree 10 (OT.sures [0,1,2,3,4,5,6,7,8,9] .nil) (fun w'=>Gr wx w') (by kernel_rfl) (by kernel_rfl) (fun c a d v w h=>by cases d<;>exact h) ((Gr.refl wx).drew) ?_
  simp only [OT.sures]
  iterate 10 (apply wpT_sure rfl rfl;focus (intro w' hw';have hk:=HK.out w' hw';obtain ⟨⟨k0,k1,k2,k3,k4⟩,_⟩:=cells5 (hw'.heap HB.out id);obtain ⟨a0,a1,a2⟩:=cells3 (hw'.heap HZ.out id);go_simp;rfl))
  refine wpT_nil ?_;clear HK;obtain ⟨x1,hx1⟩:∃x1,x1=wx.drew:=⟨_,rfl⟩;have hU1:Upd noBlk wx x1:=by rw [hx1];exact (Upd.refl _ wx).drew
  have HU1:=Lib.hid (HU.out.trans hU1);have HB1:=Lib.hid (hU1.heap HB.out id);have HZ1:=Lib.hid (hU1.heap HZ.out id);have HA1:=Lib.hid (HA.out.keep hU1);rw [←hx1];clear hx1 hU1 HU HB HZ HA;go_wp2_with fail
  refine wp_region_tree 10 (OT.sures [0,1,2,3,4,5,6,7,8,9] .nil) (fun w'=>Gr x1 w') (by kernel_rfl) (by kernel_rfl) (fun c a d v w h=>by cases d<;>exact h) ((Gr.refl x1).drew) ?_
  simp only [OT.sures]
  iterate 10 (apply wpT_sure rfl rfl;focus (intro w' hw';obtain ⟨⟨k0,k1,k2,k3,k4⟩,_⟩:=cells5 (hw'.heap HB1.out id);obtain ⟨a0,a1,a2⟩:=cells3 (hw'.heap HZ1.out id);go_simp;rfl))
  refine wpT_nil ?_;obtain ⟨y,hr,hy,hu⟩:=(HA1.out.keep (Upd.refl noBlk x1).drew).put (by have:=hl0.out;unfold maxLen;omega) (a:=(p0,p1,p2)) HP.out (v:=(K.length:Int)) trivial;rw [HNW.out] at hy;have HY:=Lib.hid hy;have hu1:Upd (fun k=>k=ba) x1 y:=(Upd.refl _ x1).drew.trans hu;have HN':=HN.out;have HUY:=Lib.hid (HU1.out.mono (G:=sFoot b (.slice A K.length cap) vG vT ba bu) (fun _ _ h=>h.elim));have HBY:=Lib.hid (hu1.heap HB1.out (fun e=>HN'.nba e.symm));have HZY:=Lib.hid (hu1.heap HZ1.out (fun e=>HPB.out ba (.inr (.inl rfl)) e.symm));have HWY:Hid (Upd (fun k=>k=ba) w y):=(HU1.out.mono (fun _ _ h=>h.elim)).trans hu1;have HRU:(Instr.mapUpdate 99 (.map (some ba)) (.agg #[.int .i64 p0,.int .i64 p1,.int .i64 p2]) (.int .i64 (K.length:Int))).run Tryz.prog x1.drew=.ok () y:=hr;clear hr hy hu hu1 HN';go_wp2_with fail
  clear HRU HB1 HZ1 HA1 HU1;have HN':=HN.out;have hL:=HL.out;have hd1:Upd noBlk y y.drew:=(Upd.refl _ y).drew;have hown:kPt.Own 0 y.drew (.slice A K.length cap) K:=(hL.comp.known.other HWY.out (fun g hg e=>HN'.ka (by rw [hg,e]))).upd hd1;obtain ⟨g,cap3,w3,r3,o3,u3,a3⟩:=hown.app1 (Nat.zero_le _) (p0,p1,p2) (by have:=hl0.out;omega);have HG:Hid ((Value.slice A K.length cap).ownBlock=some g∨y.heap.size<g):=a3;have HU3:=Lib.hid (hd1.mono (G:=fun k=>(Value.slice A K.length cap).ownBlock=some k) (fun _ _ h=>h.elim) |>.trans u3);have HB3:=Lib.hid (HU3.out.heap HBY.out HN'.k);have HC3:Hid (SComp w3 ⟨K++[(p0,p1,p2)],tr,gs⟩ (.slice (some ⟨g,0,none⟩) (K.length+1) cap3) vG vT ba bu):=by
   refine ⟨?_,?_,o3,?_,?_,hL.comp.ab⟩
   ·have:=HY.out.other HU3.out HN'.ka;simpa using this
   ·exact (hL.comp.used.other HWY.out (fun e=>hL.comp.ab e.symm)).other HU3.out HN'.ku
   ·exact (hL.comp.gates.other HWY.out (fun i hi e=>HN'.ga (by rw [hi,e]))).other HU3.out (fun i hi e=>HN'.kg i e hi)
   ·exact (hL.comp.tris.other HWY.out (fun i hi e=>HN'.ta (by rw [hi,e]))).other HU3.out (fun i hi e=>HN'.kt i e hi)
  have HAPP:(Builtin.append_ #[98,98] 98 #[.slice A K.length cap,.slice (some ⟨y.heap.size,0,none⟩) 1 1]).run Tryz.prog (y.drew.alloc (.cells #[.int .i64 p0,.int .i64 p1,.int .i64 p2] 43))=.ok (.slice (some ⟨g,0,none⟩) (K.length+1) cap3) w3:=r3;have HAB:Hid ((y.drew.alloc (.cells #[.int .i64 p0,.int .i64 p1,.int .i64 p2] 43)).heap[b]?=some (.cells #[.slice A K.length cap,.map (some ba),.map (some bu),vG,vT] 103 (0,0))∧(y.drew.alloc (.cells #[.int .i64 p0,.int .i64 p1,.int .i64 p2] 43)).heap[w.heap.size]?=some (.cells #[.int .i64 p0,.int .i64 p1,.int .i64 p2] 43 (0,0))):=⟨(hd1.alloc _).heap HBY.out id,(hd1.alloc _).heap HZY.out id⟩;have HZ3:=Lib.hid (HU3.out.heap HZY.out (fun e=>HPB.out _ (.inr (.inr (.inr (.inl e)))) rfl));clear hown r3 o3 u3 a3 hL HN' hd1;refine wp_region_tree 8 (OT.sures [0,1,5,2,3,4] (.run 6 (.run 7 .nil))) (fun w'=>w'.heap[b]?=some (.cells #[.slice A K.length cap,.map (some ba),.map (some bu),vG,vT] 103 (0,0))∧w'.heap[w.heap.size]?=some (.cells #[.int .i64 p0,.int .i64 p1,.int .i64 p2] 43 (0,0))) (by kernel_rfl) (by kernel_rfl) (fun c a d v w h=>by cases d<;>exact h) ⟨HBY.out,HZY.out⟩ ?_
  simp only [OT.sures]
  iterate 6 (apply wpT_sure rfl rfl;focus (intro w' hw';obtain ⟨⟨k0,k1,k2,k3,k4⟩,_⟩:=cells5 hw'.1;obtain ⟨a0,a1,a2⟩:=cells3 hw'.2;go_simp;rfl))
  refine wpT_run _ (fun _ h=>h) rfl (fun K' hK=>?_);go_simp
  refine hK _ _ ⟨HAB.out,?_⟩;clear hK K';refine wpT_run _ (fun _ h=>h) rfl (fun K' hK=>?_);rw [if_pos (by rfl)];refine wp_append_run _ _ _ rfl rfl rfl HAPP ?_;refine hK _ _ ⟨⟨HB3.out,HZ3.out⟩,?_⟩;clear hK K' HAPP;refine wpT_nil ?_;obtain ⟨⟨k0,k1,k2,k3,k4⟩,⟨f0,f1,f2,f3,f4⟩⟩:=cells5 HB3.out;go_wp2_with fail
  go_ret2
  refine ⟨?_,?_⟩
  ·rw [HD.out,HR.out];rfl
  ·rw [HM.out];have hlive:=SLive.put HB3.out HC3.out 0 (.slice (some ⟨g,0,none⟩) (K.length+1) cap3) rfl;refine ⟨_,⟨_,_,_,_,_,hlive,rfl⟩,fun k hk=>?_,?_⟩
   ·rcases hk with h | h | h | h | h | h
    ·exact .inl (.inl h)
    ·exact .inl (.inr (.inl h))
    ·exact .inl (.inr (.inr (.inl h)))
    ·have e:g=k:=by simpa [Value.ownBlock] using h
     subst e;rcases HG.out with h2 | h2
     ·exact .inl (.inr (.inr (.inr (.inl h2))))
     ·exact .inr (by have:=HWY.out.size;omega)
    ·exact .inl (.inr (.inr (.inr (.inr (.inl h)))))
    ·exact .inl (.inr (.inr (.inr (.inr (.inr h)))))
   ·exact ((HWY.out.mono (G:=sFoot b (.slice A K.length cap) vG vT ba bu) (fun k _ e=>.inr (.inl e))).trans (HU3.out.mono (fun k _ e=>.inr (.inr (.inr (.inl e)))))).setCell (p:=⟨b,0,none⟩) (fun _=>.inl rfl) _
end Go.Proofs.YtcikldoaidmnhaaGreatDoor
namespace Go.Proofs.YtcikldoaidmnhaaGreatDoor
open Go Go.RowKit Pc
set_option maxRecDepth 100000
structure WG (F0:Nat→Prop) (w wr:World) (b:Nat) (e:E) (F:Nat→Prop):Prop where
 rep:WRep wr b e F
 new:∀k,F k→F0 k∨w.heap.size≤k
 up:Upd F0 w wr
theorem WG.self {w:World} {b:Nat} {e:E} {F:Nat→Prop} (h:WRep w b e F):WG F w w b e F:=⟨h,fun _ hk=>.inl hk,Upd.refl _ _⟩
theorem upd_foot {F0 F:Nat→Prop} {w w1 w2:World} (h:Upd F0 w w1) (k:Upd F w1 w2) (hF:∀k,F k→F0 k∨w.heap.size≤k):Upd F0 w w2:=
 h.then k (fun i hi hf=>(hF i hf).elim id (fun x=>absurd hi (by omega)))
theorem WG.upd {F0:Nat→Prop} {w wr w2:World} {b:Nat} {e:E} {F:Nat→Prop} (h:WG F0 w wr b e F) (hu:Upd noBlk wr w2):WG F0 w w2 b e F:=
 ⟨h.rep.upd hu (fun _ _=>id),h.new,h.up.trans (hu.mono (fun _ _ x=>x.elim))⟩
theorem WG.bit {F0:Nat→Prop} {w wr:World} {b:Nat} {e:E} {F:Nat→Prop} (h:WG F0 w wr b e F) (c:Int) (one:Bool) (hlen:e.done.length+1≤1000000) :
  Calls Tryz.prog 49 #[.pointer (some ⟨b,0,none⟩),.int .i64 c,.bool one] wr fun en w'=>en=.returned (.tuple #[])∧∃F',WG F0 w w' b (e.bit c one) F':=by
 refine (WBit_any b c one e F wr h.rep hlen).mono ?_;rintro en w2 ⟨rfl,F',q1,q2,q3⟩;exact ⟨rfl,F',q1,fun j hj=>(q3 j hj).elim (h.new j) (fun x=>.inr (Nat.le_trans h.up.size x)),upd_foot h.up q2 h.new⟩
set_option maxHeartbeats 1000000 in
theorem all_W {F0:Nat→Prop} {w0 w:World} {b:Nat} {e:E} {F:Nat→Prop} (h:WG F0 w0 w b e F) (g:Nat) (c:Int) (one:Bool) (hc:w.cell? ⟨g,0,none⟩=some (.bool one)) (hlen:e.done.length+1≤1000000) :
  Calls Tryz.prog 97 #[.pointer (some ⟨b,0,none⟩),.int .i64 c,.slice (some ⟨g,0,none⟩) 1 1] w fun en w'=>en=.returned (.tuple #[])∧∃F',WG F0 w0 w' b (e.bit c one) F':=by
 have H:=Lib.hid h;have HL:=Lib.hid hlen;clear h hlen;go_enter Tryz.func97,Tryz.ntmps97
 go_wp2_with fail
 refine wp_loop_rounds 2 ?_;rw [rounds_succ];go_wp2_with (go_at_call 49;refine (H.out.bit c one HL.out).mono ?_;rintro e w2 ⟨rfl,F',q⟩;have Q:=Lib.hid q;clear q)
 rw [rounds_succ];go_wp2
 go_end0
 exact ⟨rfl,F',Q.out⟩
theorem bitLen_eq {n:Nat} (h:n<2 ^ 64):Lib.bitLen n=blen n:=by
 have aux:∀f x,x<2 ^ f→Lib.bitLenAux f x=blen x:=by
  intro f;induction f with
  | zero=>
   intro x hx;have:x=0:=by omega
   subst this;rfl
  | succ f ih=>
   intro x hx;unfold Lib.bitLenAux;split
   ·rename_i h0;subst h0;rfl
   ·have h1:=ih (x / 2) (by rw [Nat.pow_succ] at hx;omega);have h2:=blen_pos (n:=x) (by omega);omega
 exact aux 64 n h
theorem bit_val {n j:Nat} (hn:n<2 ^ 64):(bits .and .u64 ((n:Int) / 2 ^ j) 1 == 1)=decide (n / 2 ^ j % 2=1):=by
 have e:(n:Int) / 2 ^ j=((n / 2 ^ j:Nat):Int):=by push_cast;rfl
 have hq:n / 2 ^ j≤n:=Nat.div_le_self _ _;have h1:=u64_and_nat (n / 2 ^ j) 1 (by omega) (by omega);rw [e,show (1:Int)=((1:Nat):Int) from rfl,h1,nat_mask1,Bool.eq_iff_iff];simp;omega
set_option maxHeartbeats 1000000 in
theorem WNumber_any {F0:Nat→Prop} {w0 w:World} {b:Nat} {e:E} {F:Nat→Prop} (h:WG F0 w0 w b e F) (c:Int) (n:Nat) (hn:n<2 ^ 64) (hlen:e.done.length+200≤1000000) :
  Calls Tryz.prog 46 #[.pointer (some ⟨b,0,none⟩),.int .i64 c,.int .u64 n] w fun en w'=>en=.returned (.tuple #[])∧∃F',WG F0 w0 w' b (encFrom e (numBits c n)) F':=by
 have H:=Lib.hid h;have HL:=Lib.hid hlen;have HN:=Lib.hid hn;have hB:=bitLen_eq hn;have hk:=blen_le hn;have hnn:0≤(n:Int):=by omega
 clear h hlen hn;go_enter Tryz.func46,Tryz.ntmps46
 go_wp2_with (go_at_call 96;refine (Tryz.bits_Len64 _ _ hnn (by have:=HN.out;omega)).mono ?_;rw [Int.toNat_natCast,hB];rintro e w2 ⟨rfl,rfl⟩)
 have H':=Lib.hid (H.out);clear H hB;go_loopw [7,12] (fun _ i wr=>∃k:Nat,i=.int .i64 k∧k≤blen n∧∃e' F',WG F0 w0 wr b e' F'∧e'.done.length≤e.done.length+k∧encFrom e' (obits c k (blen n-k)++vbits c n (blen n-1))=encFrom e (numBits c n)) (fun _ i _=>64-(intOf i).toNat)
 case atStart=>exact ⟨0,rfl,Nat.zero_le _,e,F,H'.out,Nat.le_refl _,rfl⟩
 case round=>
  obtain ⟨k,rfl,hkn,e',F',h1,h2,h3⟩:=hrel;have H1:=Lib.hid h1;have H2:=Lib.hid h2;have H3:=Lib.hid h3;clear h1 h2 h3 H';have hkb:(k:Int)≤64:=by omega
  have HS:Hid (e'.done.length+2≤1000000):=by show _≤_;have:=H2.out;have:=HL.out;omega
  by_cases hlt:k<blen n
  ·have HX:Hid (encFrom (e'.bit (nctx c k) true) (obits c (k+1) (blen n-(k+1))++vbits c n (blen n-1))=encFrom e (numBits c n)):=by
    show _=_;rw [←H3.out,show blen n-k=(blen n-(k+1))+1 by omega];rfl
   go_wp2_with (go_at_call 97;refine (all_W (H1.out.upd ((Upd.refl noBlk wr).alloc _)) _ _ true (World.cell?_alloc_new wr _ _ 0) (by have:=HS.out;omega)).mono ?_;rintro en w3 ⟨rfl,F3,q⟩;have Q:Hid (WG F0 w0 w3 b (e'.bit (nctx c k) true) F3):=q;clear q)
   go_roundw
   case rel=>exact ⟨k+1,by go_num,hlt,_,F3,Q.out,by have:=E.bit_done_length e' (nctx c k) true;have:=H2.out;omega,HX.out⟩
   case measure=>simp [intOf];omega
  ·have hkk:k=blen n:=by omega
   have HX:Hid (encFrom (e'.bit (nctx c (blen n)) false) (vbits c n (blen n-1))=encFrom e (numBits c n)):=by
    show _=_;rw [←H3.out,hkk,Nat.sub_self];rfl
   have HT:Hid (e'.done.length≤e.done.length+64):=by show _≤_;have:=H2.out;omega
   clear hkk H2 H3;go_wp2_with (go_at_call 97;refine (all_W (H1.out.upd ((Upd.refl noBlk wr).alloc _)) _ _ false (World.cell?_alloc_new wr _ _ 0) (by have:=HS.out;omega)).mono ?_;rintro en w3 ⟨rfl,F3,q⟩;have Q:Hid (WG F0 w0 w3 b (e'.bit (nctx c (blen n)) false) F3):=q;clear q)
   go_loopw [8] (fun i wr=>∃(z:Int) (m:Nat),i=.int .i64 z∧(z=(m:Int)-1∨(z=-2∧m=0))∧m≤63∧∃e' F',WG F0 w0 wr b e' F'∧e'.done.length+m≤e.done.length+130∧encFrom e' (vbits c n m)=encFrom e (numBits c n)) (fun i _=>(intOf i+1).toNat)
   case atStart=>exact ⟨_,blen n-1,rfl,by omega,by omega,_,F3,Q.out,by have:=E.bit_done_length e' (nctx c (blen n)) false;have:=HT.out;omega,HX.out⟩
   case round=>
    obtain ⟨z,m,rfl,hz,hm,e2,F2,h1,h2,h3⟩:=hrel;have R1:=Lib.hid h1;have R2:=Lib.hid h2;have R3:=Lib.hid h3;clear h1 h2 h3 H1 Q HX HS HT;rcases m with _ | j
    ·have hz0:z<0:=by omega
     have R4:Hid (encFrom e2 []=encFrom e (numBits c n)):=R3.out;clear hz;go_wp2_with fail
     go_end0
     exact ⟨rfl,F2,by rw [←R4.out];exact R1.out⟩
    ·obtain rfl:z=(j:Int):=by omega
     have hj:(j:Int)≤63:=by omega
     have HX:Hid (encFrom (e2.bit (vctx c j) (decide (n / 2 ^ j % 2=1))) (vbits c n j)=encFrom e (numBits c n)):=R3.out;clear hz;have BV:Hid ((bits .and .u64 ((n:Int) / 2 ^ j) 1 == 1)=decide (n / 2 ^ j % 2=1)):=bit_val HN.out;have HS:Hid (e2.done.length+1≤1000000):=by show _≤_;have:=R2.out;have:=HL.out;omega
     go_wp2_with (go_at_call 97;refine (all_W (R1.out.upd ((Upd.refl noBlk wr).alloc _)) _ _ _ (World.cell?_alloc_new wr _ _ 0) HS.out).mono ?_;rintro en w4 ⟨rfl,F4,q⟩;have Q:Hid (WG F0 w0 w4 b (e2.bit (vctx c j) (decide (n / 2 ^ j % 2=1))) F4):=(by rw [←BV.out];exact q);clear q)
     go_roundw
     case rel=>exact ⟨_,j,by go_num,by omega,by omega,_,F4,Q.out,by have:=E.bit_done_length e2 (vctx c j) (decide (n / 2 ^ j % 2=1));have:=R2.out;omega,HX.out⟩
     case measure=>simp [intOf]<;>omega
end Go.Proofs.YtcikldoaidmnhaaGreatDoor
namespace Go.Proofs.YtcikldoaidmnhaaGreatDoor
open Go Go.RowKit Pk
set_option maxRecDepth 100000
def inG (g:Gate):Prop:=inP g.1∧inP g.2.1∧inP g.2.2
theorem wrapC {a b c:Int} (ha:0≤a∧a≤2097151) (hb:0≤b∧b≤2097151) (hc:0≤c∧c≤2097151):IntKind.i64.wrap (a+b)=a+b∧IntKind.i64.wrap (a+b-c)=a+b-c:=⟨wrapN (by omega) (by omega),wrapN (by omega) (by omega)⟩
set_option maxHeartbeats 1000000 in
theorem expected_any (g:Gate) (hg:inG g) (w:World):Calls Tryz.prog 52 #[gateV g] w fun en w'=>en=.returned (ptV (expG g))∧Upd noBlk w w':=by
 obtain ⟨⟨a0,a1,a2⟩,⟨a3,a4,a5⟩,⟨a6,a7,a8⟩⟩:=g;obtain ⟨⟨h0,h1,h2,h3,h4,h5⟩,⟨h6,h7,h8,h9,h10,h11⟩,⟨h12,h13,h14,h15,h16,h17⟩⟩:=hg;simp only at h0 h1 h2 h3 h4 h5 h6 h7 h8 h9 h10 h11 h12 h13 h14 h15 h16 h17;obtain ⟨x1,x2⟩:=wrapC ⟨h0,h1⟩ ⟨h6,h7⟩ ⟨h12,h13⟩;obtain ⟨x3,x4⟩:=wrapC ⟨h2,h3⟩ ⟨h8,h9⟩ ⟨h14,h15⟩;obtain ⟨x5,x6⟩:=wrapC ⟨h4,h5⟩ ⟨h10,h11⟩ ⟨h16,h17⟩;clear h0 h1 h2 h3 h4 h5 h6 h7 h8 h9 h10 h11 h12 h13 h14 h15 h16 h17;unfold gateV triC;go_enter Tryz.func52,Tryz.ntmps52
 go_wp2_with fail
 (try simp only [Exit.inBlock,Exit.then])
 have hz:((w.alloc (.cells #[.int .i64 a0,.int .i64 a1,.int .i64 a2,.int .i64 a3,.int .i64 a4,.int .i64 a5,.int .i64 a6,.int .i64 a7,.int .i64 a8] 105)).alloc (.cells #[.int .i64 (a0+a3-a6),.int .i64 (a1+a4-a7),.int .i64 (a2+a5-a8)] 43)).heap[w.heap.size+1]?=some (.cells #[.int .i64 (a0+a3-a6),.int .i64 (a1+a4-a7),.int .i64 (a2+a5-a8)] 43 (0,0)):=by
  have:=heap_alloc_new (w.alloc (.cells #[.int .i64 a0,.int .i64 a1,.int .i64 a2,.int .i64 a3,.int .i64 a4,.int .i64 a5,.int .i64 a6,.int .i64 a7,.int .i64 a8] 105)) (.cells #[.int .i64 (a0+a3-a6),.int .i64 (a1+a4-a7),.int .i64 (a2+a5-a8)] 43);rw [World.size_alloc] at this;exact this
 refine bodyPost_ret (results_cell_row rfl _ _ (w.heap.size+1) 43 _ (0,0) _ rfl hz Tryz.underlying43 rfl (by kernel_rfl)) rfl ?_;exact ⟨rfl,((Upd.refl _ w).alloc _).alloc _⟩
theorem zig_bits {n:Int} (h0:-4611686018427387904≤n) (h1:n≤4611686018427387903):bits BinOp.xor IntKind.u64 (IntKind.u64.wrap (IntKind.u64.wrap n*2)) (IntKind.u64.wrap (n / 9223372036854775808))=((zig n:Nat):Int):=by
 have w1:=IntKind.wrap_u64 n;have w2:=IntKind.wrap_u64 (IntKind.u64.wrap n*2);have w3:=IntKind.wrap_u64 (n / 9223372036854775808);unfold zig;by_cases hn:n<0
 ·have e1:IntKind.u64.wrap (IntKind.u64.wrap n*2)=(((2*n+18446744073709551616).toNat:Nat):Int):=by omega
  have e2:IntKind.u64.wrap (n / 9223372036854775808)=((18446744073709551615:Nat):Int):=by omega
  rw [e1,e2,u64_xor_nat _ _ (by omega) (by omega),Nat.xor_comm,if_pos hn];have:=Lib.xor_ones64 (2*n+18446744073709551616).toNat (by omega);have e3:(2 ^ 64-1:Nat)=18446744073709551615:=by decide
  rw [e3] at this;rw [this];congr 1
  omega
 ·have e1:IntKind.u64.wrap (IntKind.u64.wrap n*2)=(((2*n).toNat:Nat):Int):=by omega
  have e2:IntKind.u64.wrap (n / 9223372036854775808)=((0:Nat):Int):=by omega
  rw [e1,e2,u64_xor_nat _ _ (by omega) (by omega),Nat.xor_zero,if_neg hn]
theorem zigzag_any (n:Int) (h0:-4611686018427387904≤n) (h1:n≤4611686018427387903) (w:World):Calls Tryz.prog 105 #[.int .i64 n] w fun en w'=>en=.returned (.int .u64 ((zig n:Nat):Int))∧w=w':=by
 have HZ:=Lib.hid (zig_bits h0 h1);clear h0 h1;go_enter Tryz.func105,Tryz.ntmps105
 go_wp2_with fail
 go_ret
 exact ⟨by rw [←HZ.out];rfl,rfl⟩
end Go.Proofs.YtcikldoaidmnhaaGreatDoor
namespace Go.Proofs.YtcikldoaidmnhaaGreatDoor
open Go Go.RowKit Pk Pc
set_option maxRecDepth 100000
theorem encFrom_app (e:E) (a b:List (Int × Bool)):encFrom e (a++b)=encFrom (encFrom e a) b:=by simp [encFrom,List.foldl_append]
def WB (F0:Nat→Prop) (w wr:World) (b:Nat) (l:Pk.Bits) (F:Nat→Prop):Prop:=WG F0 w wr b (encFrom E.init l) F
theorem done_len {l:Pk.Bits} (h:l.length≤900000):(encFrom E.init l).done.length+200≤1000000:=by
 have:=encFrom_done_length E.init l;have h4:E.init.done.length=0:=rfl;omega
theorem WB.bit {F0:Nat→Prop} {w wr:World} {b:Nat} {l:Pk.Bits} {F:Nat→Prop} (h:WB F0 w wr b l F) (c:Int) (one:Bool) (hl:l.length≤900000) :
  Calls Tryz.prog 49 #[.pointer (some ⟨b,0,none⟩),.int .i64 c,.bool one] wr fun en w'=>en=.returned (.tuple #[])∧∃F',WB F0 w w' b (l++[(c,one)]) F':=by
 refine (WG.bit h c one (by have:=done_len hl;omega)).mono ?_;rintro e w' ⟨rfl,F',h'⟩;exact ⟨rfl,F',by unfold WB;rw [encFrom_snoc];exact h'⟩
theorem WB.number {F0:Nat→Prop} {w wr:World} {b:Nat} {l:Pk.Bits} {F:Nat→Prop} (h:WB F0 w wr b l F) (c:Int) (n:Nat) (hn:n<2 ^ 64) (hl:l.length≤900000) :
  Calls Tryz.prog 46 #[.pointer (some ⟨b,0,none⟩),.int .i64 c,.int .u64 n] wr fun en w'=>en=.returned (.tuple #[])∧∃F',WB F0 w w' b (l++numBits c n) F':=by
 refine (WNumber_any h c n hn (done_len hl)).mono ?_;rintro e w' ⟨rfl,F',h'⟩;exact ⟨rfl,F',by unfold WB;rw [encFrom_app];exact h'⟩
theorem WB.upd {F0:Nat→Prop} {w wr w2:World} {b:Nat} {l:Pk.Bits} {F:Nat→Prop} (h:WB F0 w wr b l F) (hu:Upd noBlk wr w2):WB F0 w w2 b l F:=WG.upd h hu
def farC (a b:Int):Prop:=-100000000≤a-b∧a-b≤100000000∧-100000000≤a∧a≤100000000∧-100000000≤b∧b≤100000000
set_option maxHeartbeats 2000000 in
theorem writePlace_any {F0:Nat→Prop} {w w0:World} {b:Nat} {l:Pk.Bits} {F:Nat→Prop} (h:WB F0 w w0 b l F) (c:Int) (hc:0≤c∧c≤1000) (p near:Pt) (h1:farC p.1 near.1) (h2:farC p.2.1 near.2.1) (h3:farC p.2.2 near.2.2) (hl:l.length≤800000) :
  Calls Tryz.prog 51 #[.pointer (some ⟨b,0,none⟩),.int .i64 c,ptV p,ptV near] w0 fun en w'=>en=.returned (.tuple #[])∧∃F',WB F0 w w' b (l++placeB c p near) F':=by
 obtain ⟨p0,p1,p2⟩:=p;obtain ⟨n0,n1,n2⟩:=near;unfold farC at h1 h2 h3;simp only at h1 h2 h3;have hz:=fun n h0 h1 W=>Lib.hid (zigzag_any n h0 h1 W);have z0:=fun W=>hz (p0-n0) (by omega) (by omega) W;have z1:=fun W=>hz (p1-n1) (by omega) (by omega) W;have z2:=fun W=>hz (p2-n2) (by omega) (by omega) W;have d0:IntKind.i64.wrap (p0-n0)=p0-n0:=wrapN (by omega) (by omega);have d1:IntKind.i64.wrap (p1-n1)=p1-n1:=wrapN (by omega) (by omega);have d2:IntKind.i64.wrap (p2-n2)=p2-n2:=wrapN (by omega) (by omega);have c1:IntKind.i64.wrap (c+64)=c+64:=wrapN (by omega) (by omega);have c2:IntKind.i64.wrap (c+128)=c+128:=wrapN (by omega) (by omega);have v0:wrap64 c=c:=by unfold wrap64;omega
 have v1:wrap64 (c+64)=c+64:=by unfold wrap64;omega
 have v2:wrap64 (c+128)=c+128:=by unfold wrap64;omega
 have hs:∀x n:Int,-100000000≤x-n∧x-n≤100000000→zig (x-n)<2 ^ 64:=fun x n k=>by unfold zig;split<;>omega
 have s0:=Lib.hid (hs p0 n0 ⟨by omega,by omega⟩);have s1:=Lib.hid (hs p1 n1 ⟨by omega,by omega⟩);have s2:=Lib.hid (hs p2 n2 ⟨by omega,by omega⟩);have HP:Hid (placeB c (p0,p1,p2) (n0,n1,n2)=numBits c (zig (p0-n0))++numBits (c+64) (zig (p1-n1))++numBits (c+128) (zig (p2-n2))):=by
  show _=_;unfold placeB;rfl
 have HL:Hid (l.length≤800000):=hl;have H0:=Lib.hid (h.upd (((Upd.refl noBlk w0).alloc (.cells #[.int .i64 p0,.int .i64 p1,.int .i64 p2] 43)).alloc (.cells #[.int .i64 n0,.int .i64 n1,.int .i64 n2] 43)));have B0:Hid ((numBits c (zig (p0-n0))).length≤128):=numBits_length c s0.out;have B1:Hid ((numBits (c+64) (zig (p1-n1))).length≤128):=numBits_length _ s1.out;have ix0:∀(x y z:Int) (W:World),(Instr.index 24 (.agg #[.int .i64 x,.int .i64 y,.int .i64 z]) (.int .i64 0)).run Tryz.prog W=.ok (.int .i64 x) W:=fun _ _ _ _=>by kernel_rfl
 have ix1:∀(x y z:Int) (W:World),(Instr.index 24 (.agg #[.int .i64 x,.int .i64 y,.int .i64 z]) (.int .i64 1)).run Tryz.prog W=.ok (.int .i64 y) W:=fun _ _ _ _=>by kernel_rfl
 have ix2:∀(x y z:Int) (W:World),(Instr.index 24 (.agg #[.int .i64 x,.int .i64 y,.int .i64 z]) (.int .i64 2)).run Tryz.prog W=.ok (.int .i64 z) W:=fun _ _ _ _=>by kernel_rfl
 clear hz hs h1 h2 h3 h hl hc;generalize zig (p0-n0)=m0 at *;generalize zig (p1-n1)=m1 at *;generalize zig (p2-n2)=m2 at *;unfold ptV;go_enter Tryz.func51,Tryz.ntmps51
 go_wp2_with fail
 refine wp_loop_rounds 4 ?_;rw [rounds_succ];go_wp2_with fail
 refine (z0 _).out.mono ?_;rintro e w1 ⟨rfl,rfl⟩;have C0:=Lib.hid (WB.number H0.out c m0 s0.out (by have:=HL.out;omega));go_wp2_with fail
 refine C0.out.mono ?_;rintro e w2 ⟨rfl,F1,H1'⟩;have H1:=Lib.hid H1';clear C0 H1';go_wp2_with fail
 rw [rounds_succ];go_wp2_with fail
 refine (z1 _).out.mono ?_;rintro e w1 ⟨rfl,rfl⟩;have C1:=Lib.hid (WB.number H1.out (c+64) m1 s1.out (by have:=HL.out;have:=B0.out;rw [List.length_append];omega));go_wp2_with fail
 refine C1.out.mono ?_;rintro e w3 ⟨rfl,F2,H2'⟩;have H2:=Lib.hid H2';clear C1 H2';go_wp2_with fail
 rw [rounds_succ];go_wp2_with fail
 refine (z2 _).out.mono ?_;rintro e w1 ⟨rfl,rfl⟩;have C2:=Lib.hid (WB.number H2.out (c+128) m2 s2.out (by have:=HL.out;have:=B0.out;have:=B1.out;rw [List.length_append,List.length_append];omega));go_wp2_with fail
 refine C2.out.mono ?_;rintro e w4 ⟨rfl,F3,H3'⟩;have H3:=Lib.hid H3';clear C2 H3';go_wp2_with fail
 rw [rounds_succ];go_wp2_with fail
 go_end0
 refine ⟨rfl,F3,?_⟩;rw [HP.out,←List.append_assoc,←List.append_assoc];exact H3.out
end Go.Proofs.YtcikldoaidmnhaaGreatDoor
namespace Go.Proofs.YtcikldoaidmnhaaGreatDoor
open Go Go.RowKit Pc
set_option maxRecDepth 100000
structure RG (F0:Nat→Prop) (w wr:World) (r:Nat) (d:D) (F:Nat→Prop):Prop where
 rep:RRep wr r d F
 new:∀k,F k→F0 k∨w.heap.size≤k
 up:Upd F0 w wr
theorem RG.self {w:World} {r:Nat} {d:D} {F:Nat→Prop} (h:RRep w r d F):RG F w w r d F:=⟨h,fun _ hk=>.inl hk,Upd.refl _ _⟩
theorem RG.bit {F0:Nat→Prop} {w wr:World} {r:Nat} {d:D} {F:Nat→Prop} (h:RG F0 w wr r d F) (c:Int) :
  Calls Tryz.prog 151 #[.pointer (some ⟨r,0,none⟩),.int .i64 c] wr fun en w'=>en=.returned (.bool (d.one c))∧∃F',RG F0 w w' r (d.bit c) F':=by
 refine (RBit_any r c d F wr h.rep).mono ?_;rintro e w2 ⟨rfl,F',q1,q2,q3⟩;exact ⟨rfl,F',q1,fun j hj=>(q3 j hj).elim (h.new j) (fun x=>.inr (Nat.le_trans h.up.size x)),upd_foot h.up q2 h.new⟩
theorem ones_step {c:Int} {k:Nat} (hk:k≤64) (d:D):D.ones c (65-k) d=if d.one (nctx c k) then D.ones c (64-k) (d.bit (nctx c k)) else (k,d.bit (nctx c k)):=by
 rw [show 65-k=(64-k)+1 by omega,D.ones,show 64-(64-k)=k by omega]
def numV (x:NumR):Value:=.tuple #[.int .u64 (x.n:Int),.bool x.ok]
theorem number_many {c:Int} {d d':D} (h:(65,d')=D.ones c 65 d):d.number c=⟨0,false,d'⟩:=by unfold D.number;rw [←h];simp
theorem number_none {c:Int} {d d':D} (h:(0,d')=D.ones c 65 d):d.number c=⟨0,true,d'⟩:=by unfold D.number;rw [←h];simp
theorem number_some {c:Int} {d d':D} {k:Nat} (h:(k,d')=D.ones c 65 d) (h0:0<k) (h1:k≤64):d.number c=⟨(D.val c (k-1) 1 d').1,true,(D.val c (k-1) 1 d').2⟩:=by
 unfold D.number;rw [←h];simp only;rw [if_neg (by omega),if_neg (by omega)]
theorem or_one {x:Nat} (hx:x<9223372036854775808):bits .or .u64 ((x:Int)*2) 1=(((2*x+1:Nat)):Int):=by
 have h:=u64_or_nat (2*x) 1 (by omega) (by omega);rw [show (x:Int)*2=((2*x:Nat):Int) by omega,show (1:Int)=((1:Nat):Int) from rfl,h];rw [nat_join 1 _ _ (by omega) (by omega)]
theorem val_bd {x m:Nat} (hm:m+1≤63) (h:x<2 ^ (64-(m+1))):x<9223372036854775808∧2*x+1<2 ^ (64-m):=by
 have e:2 ^ (64-m)=2 ^ (64-(m+1))*2:=by rw [←Nat.pow_succ];congr 1;omega
 have h1:2 ^ (64-(m+1))≤2 ^ 63:=Nat.pow_le_pow_right (by omega) (by omega);constructor
 ·omega
 ·omega
set_option maxHeartbeats 1000000 in
theorem RNumber_any {F0:Nat→Prop} {w0 w:World} {r:Nat} {d:D} {F:Nat→Prop} (h:RG F0 w0 w r d F) (c:Int) :
  Calls Tryz.prog 174 #[.pointer (some ⟨r,0,none⟩),.int .i64 c] w fun en w'=>en=.returned (numV (d.number c))∧∃F',RG F0 w0 w' r (d.number c).d F':=by
 have H:=Lib.hid h;clear h;go_enter Tryz.func174,Tryz.ntmps174
 go_wp2_with fail
 go_loopw [6] (fun i wr=>∃k:Nat,i=.int .i64 k∧k≤64∧∃d' F',RG F0 w0 wr r d' F'∧D.ones c (65-k) d'=D.ones c 65 d) (fun i _=>65-(intOf i).toNat)
 case atStart=>exact ⟨0,rfl,Nat.zero_le _,d,F,H.out,rfl⟩
 case round=>
  obtain ⟨k,rfl,hk,d',F',h1,h2⟩:=hrel;have H1:=Lib.hid h1;have H2:Hid ((if d'.one (nctx c k) then D.ones c (64-k) (d'.bit (nctx c k)) else (k,d'.bit (nctx c k)))=D.ones c 65 d):=by show _=_;rw [←ones_step hk];exact h2
  have hkb:(k:Int)≤64:=by omega
  clear h1 h2;by_cases ho:d'.one (nctx c k)=true
  ·have HO:=Lib.hid ho;have hcall:Calls Tryz.prog 151 #[.pointer (some ⟨r,0,none⟩),.int .i64 (nctx c k)] wr fun en w'=>en=.returned (.bool true)∧∃F',RG F0 w0 w' r (d'.bit (nctx c k)) F':=by
    have:=H1.out.bit (nctx c k);rwa [ho] at this
   have HC:=Lib.hid hcall;clear ho hcall;by_cases hlt:k<64
   ·have HX:Hid (D.ones c (65-(k+1)) (d'.bit (nctx c k))=D.ones c 65 d):=by
     show _=_;rw [←H2.out,HO.out,if_pos rfl,show 65-(k+1)=64-k by omega]
    have hlt':(k:Int)<64:=by omega
    go_wp2_with (go_at_call 151;refine HC.out.mono ?_;rintro en w3 ⟨rfl,F3,q⟩;have Q:=Lib.hid q;clear q)
    go_roundw
    case rel=>exact ⟨k+1,by go_num,hlt,_,F3,Q.out,HX.out⟩
    case measure=>simp [intOf];omega
   ·obtain rfl:k=64:=by omega
    have HX:Hid (d.number c=⟨0,false,d'.bit (nctx c 64)⟩):=number_many (by rw [←H2.out,HO.out,if_pos rfl];rfl);go_wp2_with (go_at_call 151;refine HC.out.mono ?_;rintro en w3 ⟨rfl,F3,q⟩;have Q:=Lib.hid q;clear q)
    go_ret2
    exact ⟨by rw [HX.out];rfl,F3,by rw [HX.out];exact Q.out⟩
  ·have ho':d'.one (nctx c k)=false:=by simpa using ho
   have HE:Hid ((k,d'.bit (nctx c k))=D.ones c 65 d):=by show _=_;rw [←H2.out,ho',if_neg (by simp)]
   have hcall:Calls Tryz.prog 151 #[.pointer (some ⟨r,0,none⟩),.int .i64 (nctx c k)] wr fun en w'=>en=.returned (.bool false)∧∃F',RG F0 w0 w' r (d'.bit (nctx c k)) F':=by
    have:=H1.out.bit (nctx c k);rwa [ho'] at this
   have HC:=Lib.hid hcall;clear ho ho' hcall H2;rcases Nat.eq_zero_or_pos k with hk0 | hk0
   ·subst hk0;have HX:Hid (d.number c=⟨0,true,d'.bit (nctx c 0)⟩):=number_none HE.out;go_wp2_with (go_at_call 151;refine HC.out.mono ?_;rintro en w3 ⟨rfl,F3,q⟩;have Q:=Lib.hid q;clear q)
    go_ret2
    exact ⟨by rw [HX.out];rfl,F3,by rw [HX.out];exact Q.out⟩
   ·have HX:Hid (d.number c=⟨(D.val c (k-1) 1 (d'.bit (nctx c k))).1,true,(D.val c (k-1) 1 (d'.bit (nctx c k))).2⟩):=number_some HE.out hk0 hk;have hne:((k:Int) == 0)=false:=by rw [beq_eq_false_iff_ne];omega
    go_wp2_with (go_at_call 151;refine HC.out.mono ?_;rintro en w3 ⟨rfl,F3,q⟩;have Q:=Lib.hid q;clear q)
    clear hne HC HE;generalize d'.bit (nctx c k)=d1 at *;go_loopw [7,8] (fun x i wr=>∃(v m:Nat),x=.int .u64 v∧i=.int .i64 ((m:Int)-1)∧m≤63∧v<2 ^ (64-m)∧∃d2 F2,RG F0 w0 wr r d2 F2∧D.val c m v d2=D.val c (k-1) 1 d1) (fun _ i _=>(intOf i+1).toNat)
    case atStart=>exact ⟨1,k-1,rfl,by go_num,by omega,Nat.one_lt_two_pow (by omega),_,F3,Q.out,rfl⟩
    case round=>
     obtain ⟨v,m,rfl,rfl,hm,hv,d2,F2,h1,h2⟩:=hrel;have R1:=Lib.hid h1;have R2:=Lib.hid h2;clear h1 h2 H1 Q;rcases m with _ | j
     ·have h0:decide (((0:Nat):Int)-1 ≥ 0)=false:=by decide
      have HV:Hid ((v,d2)=D.val c (k-1) 1 d1):=R2.out;clear hv;go_wp2_with fail
      go_ret2
      exact ⟨by rw [HX.out,←HV.out];rfl,F2,by rw [HX.out,←HV.out];exact R1.out⟩
     ·have e1:(((j+1:Nat):Int)-1)=(j:Int):=by omega
      rw [e1];have hj:(j:Int)≤62:=by omega
      obtain ⟨v1,v2⟩:=val_bd hm hv;have hvb:(v:Int)<9223372036854775808:=by omega
      have hor:=or_one v1;have V2:=Lib.hid v2;have R3:Hid (D.val c j (2*v+if d2.one (vctx c j) then 1 else 0) (d2.bit (vctx c j))=D.val c (k-1) 1 d1):=R2.out;clear hv e1 v1 v2 R2;by_cases ho:d2.one (vctx c j)=true
      ·have hcall:Calls Tryz.prog 151 #[.pointer (some ⟨r,0,none⟩),.int .i64 (vctx c j)] wr fun en w'=>en=.returned (.bool true)∧∃F',RG F0 w0 w' r (d2.bit (vctx c j)) F':=by
        have:=R1.out.bit (vctx c j);rwa [ho] at this
       have HC:=Lib.hid hcall;have R4:Hid (D.val c j (2*v+1) (d2.bit (vctx c j))=D.val c (k-1) 1 d1):=by show _=_;rw [←R3.out,ho];rfl
       clear ho hcall;go_wp2_with (go_at_call 151;refine HC.out.mono ?_;rintro en w4 ⟨rfl,F4,q⟩;have Q4:=Lib.hid q;clear q)
       go_roundw
       case rel=>exact ⟨2*v+1,j,rfl,by go_num,by omega,V2.out,_,F4,Q4.out,R4.out⟩
       case measure=>simp [intOf]<;>omega
      ·have ho':d2.one (vctx c j)=false:=by simpa using ho
       have hcall:Calls Tryz.prog 151 #[.pointer (some ⟨r,0,none⟩),.int .i64 (vctx c j)] wr fun en w'=>en=.returned (.bool false)∧∃F',RG F0 w0 w' r (d2.bit (vctx c j)) F':=by
        have:=R1.out.bit (vctx c j);rwa [ho'] at this
       have HC:=Lib.hid hcall;have R4:Hid (D.val c j (2*v) (d2.bit (vctx c j))=D.val c (k-1) 1 d1):=by show _=_;rw [←R3.out,ho'];rfl
       clear ho ho' hcall hor;go_wp2_with (go_at_call 151;refine HC.out.mono ?_;rintro en w4 ⟨rfl,F4,q⟩;have Q4:=Lib.hid q;clear q)
       go_roundw
       case rel=>exact ⟨2*v,j,by go_num,by go_num,by omega,by have:=V2.out;omega,_,F4,Q4.out,R4.out⟩
       case measure=>simp [intOf]<;>omega
end Go.Proofs.YtcikldoaidmnhaaGreatDoor
