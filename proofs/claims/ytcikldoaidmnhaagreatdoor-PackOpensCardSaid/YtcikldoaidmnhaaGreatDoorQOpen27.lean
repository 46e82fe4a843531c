/- Parts: A reader of the coder and one of the reference side by side. Walks of the reference's coder: Finish. Walks of the reference's coder: the length of a number, a writer of bits. No condition. Walks of the reference's coder: the reader's Number. Walks of the reference's coder: the writer's Bit. Walks of the reference's coder: the writer's Number. -/
import Derived.Test.YtcikldoaidmnhaaGreatDoorQOpen1
import Derived.Test.YtcikldoaidmnhaaGreatDoorQOpen2
import Derived.Test.YtcikldoaidmnhaaGreatDoorQOpen14
import Derived.Test.YtcikldoaidmnhaaGreatDoorQOpen26
import Derived.Deep.CutBlock
namespace Go.Proofs.YtcikldoaidmnhaaGreatDoor
open Go Go.RowKit Pc
set_option maxRecDepth 100000
structure RWW (w:World) (b:Nat) (e:E) (arr:Array Value) (dv:Value):Prop where
 wf:e.Wf
 blk:w.heap[b]?=some (.cells arr 173 (0,0))
 mod:MArr arr e.m
 o:arr[4097]?=some dv
 r:arr[4098]?=some (.int .i64 (e.low:Nat))
 own:w.ownsRow 0 3 1 dv e.done.length (e.done.map intV)
 ne:dv.ownBlock≠some b
def rwFoot (b:Nat) (dv:Value):Nat→Prop:=fun k=>k=b∨inRow dv k
def RWRep (w:World) (b:Nat) (e:E) (F:Nat→Prop):Prop:=∃arr dv,RWW w b e arr dv∧F=rwFoot b dv
theorem RWW.keep {w w':World} {b:Nat} {e:E} {arr:Array Value} {dv:Value} (h:RWW w b e arr dv) (hk:∀k,rwFoot b dv k→w'.heap[k]?=w.heap[k]?):RWW w' b e arr dv:=
 ⟨h.wf,(hk b (.inl rfl)).trans h.blk,h.mod,h.o,h.r,ownsRow_keep h.own (fun k hb=>hk k (.inr hb)),h.ne⟩
theorem RWRep.keep {w w':World} {b:Nat} {e:E} {F:Nat→Prop} (h:RWRep w b e F) (hk:∀k,F k→w'.heap[k]?=w.heap[k]?):RWRep w' b e F:=by
 obtain ⟨arr,dv,h,rfl⟩:=h;exact ⟨arr,dv,h.keep hk,rfl⟩
theorem RWW.lt {w:World} {b:Nat} {e:E} {arr:Array Value} {dv:Value} (h:RWW w b e arr dv):∀k,rwFoot b dv k→k<w.heap.size:=by
 rintro k (rfl | hk)
 ·exact lt_of_heap h.blk
 ·exact (h.own.lt k hk).2
theorem RWRep.lt {w:World} {b:Nat} {e:E} {F:Nat→Prop} (h:RWRep w b e F):∀k,F k→k<w.heap.size:=by
 obtain ⟨arr,dv,h,rfl⟩:=h;exact h.lt
theorem RWRep.upd {w w':World} {b:Nat} {e:E} {F G:Nat→Prop} (h:RWRep w b e F) (hu:Upd G w w') (hd:∀k,F k→¬G k):RWRep w' b e F:=
 h.keep fun k hk=>hu.block k (h.lt k hk) (hd k hk)
theorem RWRep.wf {w:World} {b:Nat} {e:E} {F:Nat→Prop} (h:RWRep w b e F):e.Wf:=by
 obtain ⟨arr,dv,h,rfl⟩:=h;exact h.wf
structure RWStep (w w':World) (b:Nat) (e':E) (F:Nat→Prop) (arr:Array Value) (dv:Value):Prop where
 rep:RWW w' b e' arr dv
 up:Upd F w w'
 foot:∀k,rwFoot b dv k→F k∨w.heap.size≤k
theorem RWStep.then {w w1 w2:World} {b:Nat} {e1 e2:E} {F:Nat→Prop} {arr arr2:Array Value} {dv dv2:Value} (h:RWStep w w1 b e1 F arr dv) (h2:RWW w2 b e2 arr2 dv2) (hu:Upd (rwFoot b dv) w1 w2)
  (hf:dv2.ownBlock=dv.ownBlock∨∃g,dv2.ownBlock=some g∧w1.heap.size≤g):RWStep w w2 b e2 F arr2 dv2:=by
 refine ⟨h2,h.up.then hu (fun i hi hw=>(h.foot i hw).elim id (fun x=>absurd hi (by omega))),?_⟩;have hs:=h.up.size;rintro k (rfl | hk)
 ·exact h.foot k (.inl rfl)
 ·rcases hf with h3 | ⟨g,h3,h4⟩
  ·exact h.foot k (.inr (by unfold inRow at *;rw [←h3];exact hk))
  ·right;have:k=g:=by unfold inRow at hk;rw [h3] at hk;simpa using hk.symm
   omega
theorem RWW.cells {w:World} {b:Nat} {e:E} {arr:Array Value} {dv:Value} (h:RWW w b e arr dv):w.cell? ⟨b,4097,none⟩=some dv∧w.cell? ⟨b,4098,none⟩=some (.int .i64 (e.low:Nat))∧(∀i,w.frozen? ⟨b,i,none⟩=false)∧4098<arr.size:=
 ⟨by rw [cell_of_row w b _ _ _ _ h.blk];exact h.o,by rw [cell_of_row w b _ _ _ _ h.blk];exact h.r,fun i=>frozen_of_row w b i _ _ h.blk,(Array.getElem?_eq_some_iff.1 h.r).1⟩
theorem RWW.setRest {w:World} {b:Nat} {e:E} {arr:Array Value} {dv:Value} (h:RWW w b e arr dv) {low:Nat} (hl:low<4294967296) :
  RWW (w.setCell ⟨b,4098,none⟩ (.int .i64 (low:Nat))) b ⟨e.m,e.done,low⟩ (arr.setIfInBounds 4098 (.int .i64 (low:Nat))) dv:=by
 have hs:=h.cells.2.2.2;exact ⟨⟨h.wf.m,hl,h.wf.done⟩,heap_setCell_eq _ h.blk,h.mod.setFar (by omega) _,by rw [Array.getElem?_setIfInBounds_ne (by omega)];exact h.o,by rw [Array.getElem?_setIfInBounds_self_of_lt hs],
  ownsRow_setCell_other h.own h.ne _,h.ne⟩
theorem RWW.setOut {w w1:World} {b:Nat} {e:E} {arr:Array Value} {dv dv':Value} (h:RWW w b e arr dv) {done:List Nat} (hd:∀d,d∈done→d<256) (hb:w1.heap[b]?=w.heap[b]?)
  (ho:w1.ownsRow 0 3 1 dv' done.length (done.map intV)) (hn:dv'.ownBlock≠some b) :
  RWW (w1.setCell ⟨b,4097,none⟩ dv') b ⟨e.m,done,e.low⟩ (arr.setIfInBounds 4097 dv') dv':=by
 have hs:=h.cells.2.2.2;exact ⟨⟨h.wf.m,h.wf.low,hd⟩,heap_setCell_eq _ (hb.trans h.blk),h.mod.setFar (by omega) _,by rw [Array.getElem?_setIfInBounds_self_of_lt (by omega)],
  by rw [Array.getElem?_setIfInBounds_ne (by omega)];exact h.r,ownsRow_setCell_other ho hn _,hn⟩
theorem RWW.drewN {w:World} {b:Nat} {e:E} {arr:Array Value} {dv:Value} (h:RWW w b e arr dv) (n:Nat):RWW (w.drewN n) b e arr dv:=h.keep fun _ _=>rfl
theorem RWW.setRest2 {w:World} {b:Nat} {e:E} {arr:Array Value} {dv:Value} (h:RWW w b e arr dv) {low:Nat} (hl:low<4294967296) (v:Value) :
  RWW ((w.setCell ⟨b,4098,none⟩ v).setCell ⟨b,4098,none⟩ (.int .i64 (low:Nat))) b ⟨e.m,e.done,low⟩ (arr.setIfInBounds 4098 (.int .i64 (low:Nat))) dv:=by
 have hs:=h.cells.2.2.2;refine ⟨⟨h.wf.m,hl,h.wf.done⟩,?_,h.mod.setFar (by omega) _,by rw [Array.getElem?_setIfInBounds_ne (by omega)];exact h.o,by rw [Array.getElem?_setIfInBounds_self_of_lt hs],
  ownsRow_setCell_other (ownsRow_setCell_other h.own h.ne _) h.ne _,h.ne⟩
 have:=heap_setCell_eq (i:=4098) (.int .i64 (low:Nat)) (heap_setCell_eq (i:=4098) v h.blk);rwa [Array.setIfInBounds_setIfInBounds] at this
theorem RWW.upd {w w':World} {b:Nat} {e:E} {arr:Array Value} {dv:Value} {G:Nat→Prop} (h:RWW w b e arr dv) (hu:Upd G w w') (hd:∀k,rwFoot b dv k→¬G k):RWW w' b e arr dv:=
 h.keep fun k hk=>hu.block k (h.lt k hk) (hd k hk)
theorem own_slice {w:World} {base:Nat} {t:TypeId} {sz n:Nat} {v:Value} {xs:List Value} (h:w.ownsRow base t sz v n xs):∃a m c,v=.slice a m c:=by
 rcases h.2 with ⟨rfl,_⟩ | ⟨g,cap,cur,rfl,_⟩
 ·exact ⟨_,_,_,rfl⟩
 ·exact ⟨_,_,_,rfl⟩
theorem own_base {w:World} {base:Nat} {t:TypeId} {sz n:Nat} {v:Value} {xs:List Value} (h:w.ownsRow base t sz v n xs):w.ownsRow 0 t sz v n xs:=
 ⟨h.1,h.2.imp id (fun ⟨g,cap,cur,a1,_,a3⟩=>⟨g,cap,cur,a1,Nat.zero_le _,a3⟩)⟩
set_option maxHeartbeats 2000000 in
theorem rWBit_any (b:Nat) (c:Int) (one:Bool) (e:E) (F:Nat→Prop) (w:World) (h:RWRep w b e F) (hlen:e.done.length+1≤1000000) :
  Calls Tryz.prog 59 #[.pointer (some ⟨b,0,none⟩),.int .i64 c,.bool one] w fun en w'=>en=.returned (.tuple #[]) ∧
   ∃F',RWRep w' b (e.bit c one) F'∧Upd F w w'∧∀k,F' k→F k∨w.heap.size≤k:=by
 obtain ⟨arr,dv,h,rfl⟩:=h;have he:=h.wf;have HL:=Lib.hid hlen;have HH:=Lib.hid h;obtain ⟨c1,c2,cf,cs⟩:=h.cells;have f1:=cf 4097;have f2:=cf 4098;clear cf cs hlen;go_enter Tryz.func59,Tryz.ntmps59
 go_upto_if 8 with fail
 go_cut [] (fun wc=>∃arr1 dv1,RWStep w wc b ⟨e.m,e.done1 (ctx c) one,e.low1 (ctx c) one⟩ (rwFoot b dv) arr1 dv1)
 case first=>
  cases one
  ·go_wp2_with fail
   go_meet
   exact ⟨arr,dv,HH.out,Upd.refl _ _,fun k hk=>.inl hk⟩
  ·have hsp:((e.m.split (ctx c):Nat):Int)<4294967296:=by
    have:=M.split_bd he.m (ctx_lt c);have:=he.m.hi;omega
   have hlw:(e.low:Int)<4294967296:=by have:=he.low;omega
   go_wp2_with fail
   refine wp_region_ord 13 [(0,true),(1,true),(2,true),(3,true),(4,true),(5,true),(6,true),(7,true),(8,true),(9,false),(10,true),(11,true),(12,true)] (fun w'=>∃n,w'=w.drewN n) (by kernel_rfl) (by kernel_rfl) (fun c a d v w h=>by cases d<;>exact h) ⟨1,rfl⟩ ?_
   (apply wpG_sure rfl rfl;focus (intro w' hw';obtain ⟨n,rfl⟩:=hw';go_simp;rfl))
   (apply wpG_sure rfl rfl;focus (intro w' hw';obtain ⟨n,rfl⟩:=hw';go_simp;rfl))
   (apply wpG_sure rfl rfl;focus (intro w' hw';obtain ⟨n,rfl⟩:=hw';go_simp;rfl))
   (apply wpG_sure rfl rfl;focus (intro w' hw';obtain ⟨n,rfl⟩:=hw';go_simp;rfl))
   (apply wpG_sure rfl rfl;focus (intro w' hw';obtain ⟨n,rfl⟩:=hw';go_simp;rfl))
   (apply wpG_sure rfl rfl;focus (intro w' hw';obtain ⟨n,rfl⟩:=hw';go_simp;rfl))
   (apply wpG_sure rfl rfl;focus (intro w' hw';obtain ⟨n,rfl⟩:=hw';go_simp;rfl))
   (apply wpG_sure rfl rfl;focus (intro w' hw';obtain ⟨n,rfl⟩:=hw';go_simp;rfl))
   (apply wpG_sure rfl rfl;focus (intro w' hw';obtain ⟨n,rfl⟩:=hw';go_simp;rfl))
   (refine wpG_do rfl (fun K hK=>?_);go_simp;refine (rsplit_any _ _ _ he.m w.drew _ _ HH.out.blk HH.out.mod).mono ?_;rintro en w1 ⟨rfl,n,rfl⟩;refine hK _ _ ⟨⟨1+n,by rw [←World.drewN_drewN];rfl⟩,?_⟩;clear hK K)
   (apply wpG_sure rfl rfl;focus (intro w' hw';obtain ⟨n2,rfl⟩:=hw';go_simp;rfl))
   (apply wpG_sure rfl rfl;focus (intro w' hw';obtain ⟨n2,rfl⟩:=hw';go_simp;rfl))
   (apply wpG_sure rfl rfl;focus (intro w' hw';obtain ⟨n2,rfl⟩:=hw';go_simp;rfl))
   refine wpG_nil ?_;by_cases hov:4294967296≤(e.low:Int)+((e.m.split (ctx c):Nat):Int)
   ·have hq:(e.low:Int)+((e.m.split (ctx c):Nat):Int)-4294967296=((e.low1 (ctx c) true:Nat):Int):=by unfold E.low1;simp only [if_true];omega
    have hdn:Hid (e.done1 (ctx c) true=Pc.carry e.done):=by show _=_;unfold E.done1;rw [if_pos (by simp;omega)]
    have h1:=Lib.hid ((HH.out.drewN (1+n)).setRest2 (E.low1_lt he (ctx c) true) (.int .i64 ((e.low:Int)+((e.m.split (ctx c):Nat):Int))));go_wp2_with fail
    refine (carried_any 0 dv e.done he.done (by have:=HL.out;omega) _ h1.out.own).mono ?_;rintro en w3 ⟨v',rfl,q1,q2⟩;obtain ⟨va,vn,vc,rfl⟩:=own_slice q1;have hb3:=q2.block b (lt_of_heap h1.out.blk) id;have hnv:(Value.slice va vn vc).ownBlock≠some b:=by
     intro x;have:=(q1.lt b x).1;have:=lt_of_heap h1.out.blk;omega
    have k1:w3.cell? ⟨b,4097,none⟩=some dv:=q2.cell h1.out.cells.1 id;have kf:=(World.frozen?_of_block (a:=⟨b,4097,none⟩) hb3).trans (h1.out.cells.2.2.1 4097);have h3:=Lib.hid (h1.out.setOut (done:=Pc.carry e.done) (carry_lt he.done) hb3 (by rw [carry_length];exact own_base q1) hnv);have hst:Hid (RWStep w w3 b ⟨e.m,e.done,e.low1 (ctx c) true⟩ (rwFoot b dv) (arr.setIfInBounds 4098 (.int .i64 (e.low1 (ctx c) true:Nat))) dv):=
     ⟨h1.out.upd q2 (fun _ _=>id),(((Upd.ofDrewN w (1+n)).setCell (fun _=>.inl rfl) _).setCell (fun _=>.inl rfl) _).trans (q2.mono fun _ _ x=>x.elim),fun k hk=>.inl hk⟩
    clear hb3;have hfoot:Hid (∀k,rwFoot b (Value.slice va vn vc) k→rwFoot b dv k∨w.heap.size≤k):=by
     rintro k (rfl | hk)
     ·exact .inl (.inl rfl)
     ·have:=(q1.lt k hk).1;right;simpa using this
    go_wp2_with fail
    go_meet
    rw [hdn.out];exact ⟨_,_,h3.out,hst.out.up.setCell (fun _=>.inl rfl) _,hfoot.out⟩
   ·have hq:(e.low:Int)+((e.m.split (ctx c):Nat):Int)=((e.low1 (ctx c) true:Nat):Int):=by unfold E.low1;simp only [if_true];omega
    have hlt:((e.low1 (ctx c) true:Nat):Int)<4294967296:=by rw [←hq];omega
    have hdn:Hid (e.done1 (ctx c) true=e.done):=by show _=_;unfold E.done1;rw [if_neg (by simp;omega)]
    have h1:=Lib.hid ((HH.out.drewN (1+n)).setRest (E.low1_lt he (ctx c) true));have u1:Hid (Upd (rwFoot b dv) w ((w.drewN (1+n)).setCell ⟨b,4098,none⟩ (.int .i64 (e.low1 (ctx c) true:Nat)))):=(Upd.ofDrewN w (1+n)).setCell (fun _=>.inl rfl) _;have HQ:=Lib.hid hq;clear hq hlt;go_wp2_with fail
    go_meet
    rw [HQ.out,hdn.out];exact ⟨_,_,h1.out,u1.out,fun k hk=>.inl hk⟩
 case rest=>
  obtain ⟨arr1,dv1,hs⟩:=hcut;have HS:=Lib.hid hs;have hw1:=E.low1_lt he (ctx c) one;clear hs h c1 c2 f1 f2;go_wp2_with fail
  refine (rtake_any c one b e.m he.m wc arr1 _ HS.out.rep.blk HS.out.rep.mod).mono ?_;rintro en w2 ⟨rfl,q1,q2⟩;have Q:Hid (RWStep w w2 b ⟨e.m.step (ctx c) one,e.done1 (ctx c) one,e.low1 (ctx c) one⟩ (rwFoot b dv) ((arr1.setIfInBounds (ctx c) (.int .i64 (((e.m.newp (ctx c) one:Nat):Int)-1024))).setIfInBounds 4096 (.int .i64 (4294967295-(((e.m.step (ctx c) one).size:Nat):Int)))) dv1):=by
   have hcx:=ctx_lt c;have hr:=HS.out.rep;refine HS.out.then ⟨⟨M.step_wf he.m hcx one,hr.wf.low,hr.wf.done⟩,q1,hr.mod.step _ hcx _,?_,?_,?_,hr.ne⟩ (q2.mono fun k _ hk=>.inl hk) (.inl rfl)
   ·rw [Array.getElem?_setIfInBounds_ne (by omega),Array.getElem?_setIfInBounds_ne (by omega)];exact hr.o
   ·rw [Array.getElem?_setIfInBounds_ne (by omega),Array.getElem?_setIfInBounds_ne (by omega)];exact hr.r
   ·exact ownsRow_keep hr.own (fun k hk=>q2.block k (hr.own.lt k hk).2 (fun x=>hr.ne (by rw [hk,x])))
  clear q1 q2;cases hsh:e.m.shifts (ctx c) one
  ·have hb:Hid (e.bit c one=⟨e.m.step (ctx c) one,e.done1 (ctx c) one,e.low1 (ctx c) one⟩):=by show _=_;unfold E.bit;simp [hsh]
   have sn:shiftN false=0:=rfl;clear hsh;go_wp2_with fail
   refine wp_loop_once ?_;go_wp2
   go_end0
   exact ⟨rfl,_,⟨_,_,by rw [hb.out];exact Q.out.rep,rfl⟩,Q.out.up,Q.out.foot⟩
  ·have hb:Hid (e.bit c one=⟨e.m.step (ctx c) one,e.done1 (ctx c) one++[e.low1 (ctx c) one / 16777216],e.low1 (ctx c) one % 16777216*256⟩):=by show _=_;unfold E.bit;simp [hsh]
   have sn:shiftN true=1:=rfl;clear hsh;go_wp2_with fail
   go_loopw [7] (fun i wr=>(i=.int .i64 0∧∃arr2 dv2,RWStep w wr b ⟨e.m.step (ctx c) one,e.done1 (ctx c) one,e.low1 (ctx c) one⟩ (rwFoot b dv) arr2 dv2)∨(i=.int .i64 1∧∃arr2 dv2,RWStep w wr b (e.bit c one) (rwFoot b dv) arr2 dv2)) (fun i _=>1-(intOf i).toNat)
   case atStart=>exact .inl ⟨rfl,_,_,Q.out⟩
   case round=>
    rcases hrel with ⟨rfl,arr2,dv2,g⟩ | ⟨rfl,arr2,dv2,g⟩
    ·have G:=Lib.hid g;obtain ⟨c1,c2,cf,cs⟩:=g.rep.cells;have f1:=cf 4097;have f2:=cf 4098;have hlow:((e.low1 (ctx c) one:Nat):Int)<4294967296:=by omega
     have e8':((e.low1 (ctx c) one:Nat):Int) / 16777216=((e.low1 (ctx c) one / 16777216:Nat):Int):=by omega
     have e9':((e.low1 (ctx c) one:Nat):Int) % 16777216*256=((e.low1 (ctx c) one % 16777216*256:Nat):Int):=by omega
     have e8:=Lib.hid e8';have e9:=Lib.hid e9';clear e8' e9';have hdl:Hid ((e.done1 (ctx c) one).length=e.done.length):=E.done1_length _ _ _;have m1:Hid ((e.done1 (ctx c) one).length+1≤maxLen):=by show _≤_;rw [hdl.out];have:=HL.out;unfold maxLen;omega
     have b1:Hid (((e.done1 (ctx c) one).length+1)*8≤140737488355328):=by show _≤_;rw [hdl.out];have:=HL.out;omega
     obtain ⟨i0,hi0,hz0,hz1,hz2⟩:=info_parts info_int;have nb:=g.rep.ne;have lb:=lt_of_heap g.rep.blk;have HW:=Lib.hid hw1;clear g cf cs hw1;go_wp2_with fail
     refine wp_region_ord 14 [(0,true),(1,true),(2,true),(3,true),(4,true),(5,true),(6,true),(7,true),(8,true),(9,true),(10,false),(11,false),(12,true),(13,true)]
      (fun w'=>w'.cell? ⟨b,4097,none⟩=some dv2∧w'.cell? ⟨b,4098,none⟩=some (.int .i64 (e.low1 (ctx c) one:Nat))) (by kernel_rfl) (by kernel_rfl)
      (fun c a d v w h=>by cases d<;>exact h) ⟨c1,c2⟩ ?_
     (apply wpG_sure rfl rfl;focus (intro w' hw';obtain ⟨g1,g2⟩:=hw';go_simp;rfl))
     (apply wpG_sure rfl rfl;focus (intro w' hw';obtain ⟨g1,g2⟩:=hw';go_simp;rfl))
     (apply wpG_sure rfl rfl;focus (intro w' hw';obtain ⟨g1,g2⟩:=hw';go_simp;rfl))
     (apply wpG_sure rfl rfl;focus (intro w' hw';obtain ⟨g1,g2⟩:=hw';go_simp;rfl))
     (apply wpG_sure rfl rfl;focus (intro w' hw';obtain ⟨g1,g2⟩:=hw';go_simp;rfl))
     (apply wpG_sure rfl rfl;focus (intro w' hw';obtain ⟨g1,g2⟩:=hw';go_simp;rfl))
     (apply wpG_sure rfl rfl;focus (intro w' hw';obtain ⟨g1,g2⟩:=hw';go_simp;rfl))
     (apply wpG_sure rfl rfl;focus (intro w' hw';obtain ⟨g1,g2⟩:=hw';go_simp;rfl))
     (apply wpG_sure rfl rfl;focus (intro w' hw';obtain ⟨g1,g2⟩:=hw';go_simp;rfl))
     (apply wpG_sure rfl rfl;focus (intro w' hw';obtain ⟨g1,g2⟩:=hw';go_simp;rfl))
     (refine wpG_do rfl (fun K hK=>?_);go_simp;refine hK _ _ ⟨⟨cell_alloc_keep _ c1,cell_alloc_keep _ c2⟩,?_⟩;clear hK K)
     refine wpG_do rfl (fun K hK=>?_);refine step_append_lies _ rfl (.tmp 58) (.tmp 64) 23 rfl 0 3 i0 _ 1 8 Tryz.underlying23 hi0 hz0 hz1 hz2 rfl (by omega) dv2 _ _ rfl ((G.out.rep.own.alloc _).drew)
      ⟨wr.heap.size,0,none⟩ 1 1 [.int .i64 (((e.low1 (ctx c) one:Nat):Int) / 16777216)] rfl rfl (World.news_of_block (cs:=#[.int .i64 (((e.low1 (ctx c) one:Nat):Int) / 16777216)]) (t:=3) (fr:=(0,0)) (heap_alloc_new wr _)) (by simp [Value.oneCell'])
      (by omega) m1.out b1.out (by simp) (wr.heap.size+1) (by simp) ?_
     intro gg cap w3 hown1 hgrow hat hlt;have k1:=grown_cell hgrow c1 nb;have k2:=grown_cell hgrow c2 nb;have kf1:=grown_free hgrow (a:=⟨b,4097,none⟩) lb f1 nb;have kf2:=grown_free hgrow (a:=⟨b,4098,none⟩) lb f2 nb;have ng:gg≠b:=by
      rcases hat with h | h
      ·intro x;subst x;exact nb h
      ·omega
     have O1:Hid (w3.ownsRow 0 3 1 (.slice (some ⟨gg,0,none⟩) ((e.done1 (ctx c) one).length+1) cap) (e.done1 (ctx c) one++[e.low1 (ctx c) one / 16777216]).length ((e.done1 (ctx c) one++[e.low1 (ctx c) one / 16777216]).map intV)):=by
      show World.ownsRow _ _ _ _ _ _ _;rw [List.length_append,List.map_append,List.map_singleton];unfold intV at hown1 ⊢;rw [←e8.out];exact hown1
     have hup:Upd (rwFoot b dv2) wr w3:=upd_grown_new hgrow (fun k hk _=>.inr hk);have hd8:∀d,d∈e.done1 (ctx c) one++[e.low1 (ctx c) one / 16777216]→d<256:=by
      intro d hd;have:=HW.out;rcases List.mem_append.1 hd with h | h
      ·exact E.done1_lt he _ _ d h
      ·simp at h;omega
     have r1:=G.out.rep.setOut (w1:=w3) (done:=e.done1 (ctx c) one++[e.low1 (ctx c) one / 16777216]) hd8 ((grown_heap hgrow G.out.rep.blk nb).trans G.out.rep.blk.symm) O1.out (by simpa [Value.ownBlock] using ng);have r2:=r1.setRest (low:=e.low1 (ctx c) one % 16777216*256) (by omega);have FIN:Hid (∃arr3 dv3,RWStep w ((w3.setCell ⟨b,4097,none⟩ (.slice (some ⟨gg,0,none⟩) ((e.done1 (ctx c) one).length+1) cap)).setCell ⟨b,4098,none⟩ (.int .i64 (((e.low1 (ctx c) one:Nat):Int) % 16777216*256))) b (e.bit c one) (rwFoot b dv) arr3 dv3):=by
      have r3:=G.out.then r2 ((hup.setCell (fun _=>.inl rfl) _).setCell (fun _=>.inl rfl) _) (by
       rcases hat with h | h
       ·exact .inl (by rw [h];rfl)
       ·exact .inr ⟨gg,rfl,by omega⟩)
      show ∃arr3 dv3,RWStep _ _ _ _ _ arr3 dv3;rw [hb.out,e9.out];exact ⟨_,_,r3⟩
     refine hK _ _ ⟨⟨k1,k2⟩,?_⟩;clear hK K hown1 hgrow hat hup r1 r2 hd8 hlt c1 c2 f1 f2 he
     (apply wpG_sure rfl rfl;focus (intro w' hw';obtain ⟨g1,g2⟩:=hw';go_simp;rfl))
     (apply wpG_sure rfl rfl;focus (intro w' hw';obtain ⟨g1,g2⟩:=hw';go_simp;rfl))
     refine wpG_nil ?_;go_wp2
     go_roundw
     case rel=>exact .inr ⟨rfl,FIN.out⟩
     case measure=>simp [intOf]
    ·go_wp2
     go_end0
     exact ⟨rfl,_,⟨_,_,g.rep,rfl⟩,g.up,g.foot⟩
end Go.Proofs.YtcikldoaidmnhaaGreatDoor
namespace Go.Proofs.YtcikldoaidmnhaaGreatDoor
open Go Go.RowKit Pc
set_option maxRecDepth 100000
theorem zeroWr:Tryz.zeroCells173=Array.replicate 4097 (.int .i64 0)++#[.slice none 0 0,.int .i64 0]:=by kernel_rfl
theorem zeroWr_mod:MArr Tryz.zeroCells173 M.init:=by
 rw [zeroWr];refine ⟨fun i hi=>?_,?_⟩
 ·rw [Array.getElem?_append_left (by simp;omega),Array.getElem?_replicate,if_pos (by omega)];rfl
 ·rw [Array.getElem?_append_left (by simp),Array.getElem?_replicate,if_pos (by omega)];rfl
theorem rNewWriter_rep (w:World):RWRep (w.alloc (.cells Tryz.zeroCells173 173)) w.heap.size E.init (·=w.heap.size):=by
 refine ⟨_,.slice none 0 0,⟨E.init_wf,heap_alloc_new w _,zeroWr_mod,?_,?_,World.ownsRow_nil _ _ _ _,by simp [Value.ownBlock]⟩,?_⟩
 ·rw [zeroWr,Array.getElem?_append_right (by simp)];simp
 ·rw [zeroWr,Array.getElem?_append_right (by simp)];simp [E.init]
 ·funext k;simp [rwFoot,inRow,Value.ownBlock]
set_option maxHeartbeats 400000 in
theorem rNewWriter_any (w:World):Calls Tryz.prog 55 #[] w fun e w'=>e=.returned (.pointer (some ⟨w.heap.size,0,none⟩))∧w.alloc (.cells Tryz.zeroCells173 173)=w':=by
 go_enter Tryz.func55,Tryz.ntmps55
 go_wp2
 go_ret
 exact ⟨rfl,rfl⟩
structure FinAt (w wr:World) (e:E) (vo:Value) (xs:List Nat) (l:Nat):Prop where
 own:wr.ownsRow w.heap.size 3 1 vo xs.length (xs.map intV)
 len:xs.length=e.done.length
 fin:trim (xs++[l])=e.finish
 bytes:∀d,d∈xs++[l]→d<256
 up:Upd noBlk w wr
theorem own_cap {w:World} {base g n cap:Nat} {t:TypeId} {sz:Nat} {xs:List Value} (h:w.ownsRow base t sz (.slice (some ⟨g,0,none⟩) n cap) n xs):n≤cap:=by
 rcases h.2 with ⟨h1,_⟩ | ⟨g',cap',cur,h1,_,_,h2,_⟩
 ·cases h1
 ·simp only [Value.slice.injEq,true_and] at h1;rw [h1.2];exact h2
def lenOfS:Value→Nat | .slice _ n _=>n | _=>0
theorem trim_take_all {xs:List Nat} {k:Nat} (hk:k<xs.length) (h0:xs[k]=0):trim (xs.take (k+1))=trim (xs.take k):=by
 rw [take_snoc hk,h0,trim_snoc_zero]
theorem trim_take_stop {xs:List Nat} {k:Nat} (hk:k<xs.length) (h0:xs[k]≠0):trim (xs.take (k+1))=xs.take (k+1):=by
 rw [take_snoc hk,trim_snoc_ne _ h0]
set_option maxHeartbeats 2000000 in
theorem rWFinish_any (b:Nat) (e:E) (F:Nat→Prop) (w:World) (h:RWRep w b e F) (hlen:e.done.length+1≤1000000) :
  Calls Tryz.prog 64 #[.pointer (some ⟨b,0,none⟩)] w fun en w'=>en=.returned (.string (str e.finish))∧Upd noBlk w w':=by
 obtain ⟨arr,dv,h,rfl⟩:=h;have he:=h.wf;obtain ⟨c1,c2,cf,cs⟩:=h.cells;obtain ⟨i0,hi0,hz0,hz1,hz2⟩:=info_parts info_int;have hlow:(e.low:Int)<4294967296:=by have:=he.low;omega
 have m1:Hid (0+e.done.length≤maxLen):=by show _≤_;unfold maxLen;omega
 have b1:Hid ((0+e.done.length)*8≤140737488355328):=by show _≤_;omega
 have m2:Hid (e.done.length+1≤maxLen):=by show _≤_;unfold maxLen;omega
 have b2:Hid ((e.done.length+1)*8≤140737488355328):=by show _≤_;omega
 have o0:(w.alloc (.cells #[] 3)).ownsRow w.heap.size 3 1 (.slice (some ⟨w.heap.size,0,none⟩) 0 0) 0 []:=World.ownsRow_lit w #[] 0 (Nat.le_refl _) (by unfold maxLen;omega) (by simp);obtain ⟨v1,w1,r1,o1,g1,hb1⟩:=append_src (w.alloc (.cells #[] 3)) 23 23 3 i0 _ 1 8 Tryz.underlying23 hi0 hz0 hz1 hz2 rfl (by omega) o0 (by simp) (h.own.alloc _) (intV_one _) m1.out b1.out;rw [Nat.zero_add,List.nil_append] at o1;have U1:Hid (Upd noBlk w w1):=by
  refine (((Upd.refl noBlk w).alloc _).then (upd_of_grown g1 (F:=fun k=>some k=some w.heap.size) (fun k hk _=>?_)) (fun i hi h=>?_))
  ·simp only [Value.ownBlock,Option.some.injEq] at hk;rw [hk]
  ·simp only [Option.some.injEq] at h;omega
 have lb:=lt_of_heap h.blk;have R1:=Lib.hid r1;have O1:=Lib.hid o1;have HD:=Lib.hid he.done;have HL:=Lib.hid hlen;have hq:((e.low:Int)+16777216-1) / 16777216=(e.last:Int):=by unfold E.last;omega
 have hlast:Hid (e.last≤256):=by show _≤_;unfold E.last;omega
 clear r1 m1 b1 o0 g1 hb1 o1 cf cs h hlen he;go_enter Tryz.func64,Tryz.ntmps64
 go_upto_if 21 with (at_builtin;refine wpList_append_run rfl _ _ _ rfl rfl rfl R1.out ?_)
 go_cut [3,4] (fun vl vo wc=>∃xs l,vl=.int .i64 (l:Nat)∧FinAt w wc e vo xs l)
 case first=>
  by_cases hl:e.last=256
  ·have ht:((e.last:Int) == 256)=true:=by rw [beq_iff_eq];omega
   have HE:=Lib.hid hl;clear hl;simp only [ht];clear ht hq;go_wp2_with fail
   refine (carried_any _ v1 e.done HD.out (by have:=HL.out;omega) w1 O1.out).mono ?_;rintro en w2 ⟨v2,rfl,q1,q2⟩;have Q:Hid (FinAt w w2 e v2 (carry e.done) 0):=by
    refine ⟨?_,carry_length _,?_,?_,U1.out.trans q2⟩
    ·rw [carry_length];exact ⟨q1.1,q1.2.imp id (fun ⟨g,cap,cur,a1,a2,a3⟩=>⟨g,cap,cur,a1,Nat.le_trans U1.out.size a2,a3⟩)⟩
    ·unfold E.finish;rw [if_pos HE.out]
    ·intro d hd;rcases List.mem_append.1 hd with h | h
     ·exact carry_lt HD.out d h
     ·simp at h;omega
   clear q1 q2;go_wp2_with fail
   go_meet
   exact ⟨_,0,rfl,Q.out⟩
  ·have ht:((e.last:Int) == 256)=false:=by rw [beq_eq_false_iff_ne];omega
   have Q:Hid (FinAt w w1 e v1 e.done e.last):=by
    refine ⟨O1.out,rfl,?_,?_,U1.out⟩
    ·unfold E.finish;rw [if_neg hl]
    ·intro d hd;have:=hlast.out;rcases List.mem_append.1 hd with h | h
     ·exact HD.out d h
     ·simp at h;omega
   clear hl;simp only [ht];clear ht hq;go_wp2_with fail
   go_meet
   exact ⟨_,_,rfl,Q.out⟩
 case rest=>
  obtain ⟨xs,l,rfl,hf⟩:=hcut;obtain ⟨gg,cap,w3,r3,o3,g3,hat,hlt⟩:=append_one wc 23 23 3 i0 _ 1 8 Tryz.underlying23 hi0 hz0 hz1 hz2 rfl (by omega) hf.own hf.up.size [intV l] rfl (intV_one [l]) (by rw [hf.len];exact m2.out) (by rw [hf.len];exact b2.out);have R3:=Lib.hid r3;have hxl:Hid ((xs++[l]).length=xs.length+1):=by show _=_;simp
  have O3:Hid (w3.ownsRow w.heap.size 3 1 (.slice (some ⟨gg,0,none⟩) (xs++[l]).length cap) (xs++[l]).length ((xs++[l]).map intV)):=by
   show World.ownsRow _ _ _ _ _ _ _;rw [hxl.out,List.map_append];exact o3
  have U3:Hid (Upd noBlk w w3):=by
   refine hf.up.then ((upd_of_grown (World.grownBy_alloc wc _ u4.ownBlock) (F:=inRow u4) (fun k hk _=>hk)).trans (upd_of_grown g3 (fun k hk _=>hk))) (fun j hj hj'=>?_);have:=(hf.own.lt j hj').1;omega
  have HF:=Lib.hid hf;clear r3 o3 g3 hat hlt hf;rw [show xs.length+1=(xs++[l]).length from hxl.out.symm] at R3;have hzb:=HF.out.bytes;have hzl:(xs++[l]).length≤1000000:=by rw [hxl.out,HF.out.len];exact HL.out
  have HFI:Hid (trim (xs++[l])=e.finish):=HF.out.fin;clear hxl HF R1 O1 c1 c2 hlow hq hlast lb;generalize xs++[l]=zs at *;have hzl':(zs.length:Int)≤1000000:=by omega
  have HZ:=Lib.hid hzl;have HB:=Lib.hid hzb;clear hzl hzb;go_upto_block 0 with (at_builtin;refine wpList_append_run rfl _ _ _ rfl rfl rfl R3.out ?_)
  go_cut [4] (fun v wc=>∃k:Nat,v=.slice (some ⟨gg,0,none⟩) k cap∧k≤zs.length∧zs.take k=trim zs∧wc=w3)
  case first=>
   go_wp2_with fail
   go_loop [4] (fun v=>∃k:Nat,v=.slice (some ⟨gg,0,none⟩) k cap∧k≤zs.length∧trim (zs.take k)=trim zs) (fun v=>lenOfS v)
   case atStart=>exact ⟨_,rfl,Nat.le_refl _,by rw [List.take_length]⟩
   case round=>
    obtain ⟨k,rfl,hk,ht⟩:=hrel;rcases k with _ | j
    ·have HT:Hid (zs.take 0=trim zs):=by show _=_;rw [←ht];rfl
     clear ht;go_wp2_with fail
     go_meet
     exact ⟨0,rfl,Nat.zero_le _,HT.out,rfl⟩
    ·have hj:j<zs.length:=hk;have hc:w3.cell? ⟨gg,j,none⟩=some (.int .i64 (zs[j]:Nat)):=by rw [O3.out.cellAt j (by omega)];simp [hj,intV]
     have hcap:(j:Int)≤(cap:Int):=by have:=own_cap O3.out;omega
     by_cases h0:zs[j]=0
     ·have e2:(((zs[j]:Nat):Int) == 0)=true:=by rw [beq_iff_eq];omega
      have HT:Hid (trim (zs.take j)=trim zs):=by show _=_;rw [←ht,trim_take_all hj h0]
      clear h0 ht;go_wp2_with fail
      go_round
      case rel=>exact ⟨j,by simp,by omega,HT.out⟩
      case measure=>simp [lenOfS]
     ·have e2:(((zs[j]:Nat):Int) == 0)=false:=by rw [beq_eq_false_iff_ne];omega
      have HT:Hid (zs.take (j+1)=trim zs):=by show _=_;rw [←ht,trim_take_stop hj h0]
      clear h0 ht;go_wp2_with fail
      go_meet
      exact ⟨j+1,rfl,hk,HT.out,rfl⟩
  case rest=>
   obtain ⟨k,rfl,hk,ht,rfl⟩:=hcut;have HT:=Lib.hid ht;clear ht;go_wp2_with fail
   go_loopw [5,6] (fun s i wr=>∃j:Nat,i=.int .i64 (j:Nat)∧j≤k∧s=.string (str ((zs.take k).take j))∧Upd noBlk wc wr) (fun _ i _=>k-(intOf i).toNat)
   case atStart=>exact ⟨0,rfl,Nat.zero_le _,rfl,Upd.refl _ _⟩
   case round=>
    obtain ⟨j,rfl,hj,rfl,hu⟩:=hrel;by_cases hlt:j<k
    ·have hjz:j<zs.length:=by omega
     have hc:wr.cell? ⟨gg,j,none⟩=some (.int .i64 (zs[j]:Nat)):=hu.cell (by rw [O3.out.cellAt j (by omega)];simp [hjz,intV]) id;have hb8:IntKind.u8.wrap ((zs[j]:Nat):Int)=((zs[j]:Nat):Int):=wrap_u8 (by omega) (by have:=HB.out _ (List.getElem_mem hjz);omega);have hcv:=conv_own (P:=Tryz.prog) (src:=41) (e:=5) (dst:=9) (l:=[zs[j]]) Tryz.underlying41 Tryz.underlying5 Tryz.underlying9 (World.ownsRow_lit (base:=0) wr #[byteV zs[j]] 1 (Nat.zero_le _) (by unfold maxLen;omega) (by simp));have hsa:=run_add (P:=Tryz.prog) (a:=(zs.take k).take j) (b:=[zs[j]]) (c:=(zs.take k).take (j+1)) (by simp;omega) (by rw [take_snoc (l:=zs.take k) (by simp;omega)];simp);unfold byteV at hcv;have HU:=Lib.hid hu;clear hu;go_wp2_with fail
     go_roundw
     case rel=>exact ⟨j+1,by go_num,hlt,rfl,HU.out.alloc _⟩
     case measure=>simp [intOf];omega
    ·have hjk:j=k:=by omega
     have HF:Hid (str ((zs.take k).take j)=str e.finish):=by show _=_;rw [hjk,List.take_take,Nat.min_self,HT.out,HFI.out]
     have HU:=Lib.hid (U3.out.trans hu);clear hu hjk;go_wp2_with fail
     go_ret
     exact ⟨by rw [←HF.out];rfl,HU.out⟩
end Go.Proofs.YtcikldoaidmnhaaGreatDoor
namespace Go.Proofs.YtcikldoaidmnhaaGreatDoor
open Go Go.RowKit Pc
set_option maxRecDepth 100000
structure RdAt (w wr:World) (r m:Nat) (d dm:D) (n:Nat) (F:Nat→Prop):Prop where
 rep:RRep wr r d F
 rr:RR wr m dm n
 new:NewF F w
 mnew:w.heap.size≤m
 ne:¬F m
 up:Upd noBlk w wr
theorem RdAt.upd {w wr w2:World} {r m:Nat} {d dm:D} {n:Nat} {F:Nat→Prop} (h:RdAt w wr r m d dm n F) (hu:Upd noBlk wr w2):RdAt w w2 r m d dm n F:=
 ⟨h.rep.upd hu (fun _ _=>id),h.rr.upd hu id,h.new,h.mnew,h.ne,h.up.trans hu⟩
theorem RdAt.drew {w wr:World} {r m:Nat} {d dm:D} {n:Nat} {F:Nat→Prop} (h:RdAt w wr r m d dm n F):RdAt w wr.drew r m d dm n F:=h.upd (Upd.refl noBlk wr).drew
theorem RdAt.make {w wa wc wd:World} {code:List Nat} (hcode:∀x,x∈code→x<256) (h:Upd noBlk w wa) (hc:Upd noBlk (wa.alloc (.cells (rZero code) 227)) wc) (hr:RR wd wc.heap.size (D.ofCode code) 4) (hd:Upd noBlk wc wd) :
  RdAt w wd wa.heap.size wc.heap.size (D.ofCode code) (D.ofCode code) 4 (·=wa.heap.size):=by
 have h1:=h.size;have h2:=hc.size;simp at h2;exact ⟨((NewReader_rep hcode wa).upd hc (fun _ _=>id)).upd hd (fun _ _=>id),hr,fun k hk=>by subst hk;exact h1,by omega,by omega,((h.alloc _).trans hc).trans hd⟩
structure WAt (w wr:World) (b:Nat) (e:E) (F:Nat→Prop):Prop where
 rep:WRep wr b e F
 new:NewF F w
 up:Upd noBlk w wr
theorem WAt.upd {w wr w2:World} {b:Nat} {e:E} {F:Nat→Prop} (h:WAt w wr b e F) (hu:Upd noBlk wr w2):WAt w w2 b e F:=⟨h.rep.upd hu (fun _ _=>id),h.new,h.up.trans hu⟩
theorem WAt.drew {w wr:World} {b:Nat} {e:E} {F:Nat→Prop} (h:WAt w wr b e F):WAt w wr.drew b e F:=h.upd (Upd.refl noBlk wr).drew
theorem WAt.make {w w1:World} (h:Upd noBlk w w1):WAt w (w1.alloc (.cells wZero 159)) w1.heap.size E.init (·=w1.heap.size):=⟨NewWriter_rep w1,fun k hk=>by subst hk;exact h.size,h.alloc _⟩
theorem WAt.bit {w wr:World} {b:Nat} {e:E} {F:Nat→Prop} (h:WAt w wr b e F) (c:Int) (one:Bool) (hlen:e.done.length+1≤1000000) :
  Calls Tryz.prog 49 #[.pointer (some ⟨b,0,none⟩),.int .i64 c,.bool one] wr fun en w'=>en=.returned (.tuple #[])∧∃F',WAt w w' b (e.bit c one) F':=by
 refine (WBit_any b c one e F wr h.rep hlen).mono ?_;rintro en w2 ⟨rfl,F',q1,q2,q3⟩;exact ⟨rfl,F',q1,fun j hj=>(q3 j hj).elim (h.new j) (fun x=>Nat.le_trans h.up.size x),upd_new h.up q2 h.new⟩
theorem WAt.finish {w wr:World} {b:Nat} {e:E} {F:Nat→Prop} (h:WAt w wr b e F) (hlen:e.done.length+1≤1000000) :
  Calls Tryz.prog 54 #[.pointer (some ⟨b,0,none⟩)] wr fun en w'=>en=.returned (.string (str e.finish))∧WAt w w' b e F:=by
 refine (WFinish_any b e F wr h.rep hlen).mono ?_;rintro en w2 ⟨rfl,u⟩;exact ⟨rfl,h.upd u⟩
end Go.Proofs.YtcikldoaidmnhaaGreatDoor
namespace Go.Proofs.YtcikldoaidmnhaaGreatDoor
open Go Go.RowKit Pc
set_option maxRecDepth 100000
structure RWG (F0:Nat→Prop) (w wr:World) (b:Nat) (e:E) (F:Nat→Prop):Prop where
 rep:RWRep wr b e F
 new:∀k,F k→F0 k∨w.heap.size≤k
 up:Upd F0 w wr
theorem RWG.self {w:World} {b:Nat} {e:E} {F:Nat→Prop} (h:RWRep w b e F):RWG F w w b e F:=⟨h,fun _ hk=>.inl hk,Upd.refl _ _⟩
theorem RWG.upd {F0:Nat→Prop} {w wr w2:World} {b:Nat} {e:E} {F:Nat→Prop} (h:RWG F0 w wr b e F) (hu:Upd noBlk wr w2):RWG F0 w w2 b e F:=
 ⟨h.rep.upd hu (fun _ _=>id),h.new,h.up.trans (hu.mono (fun _ _ x=>x.elim))⟩
theorem RWG.bit {F0:Nat→Prop} {w wr:World} {b:Nat} {e:E} {F:Nat→Prop} (h:RWG F0 w wr b e F) (c:Int) (one:Bool) (hlen:e.done.length+1≤1000000) :
  Calls Tryz.prog 59 #[.pointer (some ⟨b,0,none⟩),.int .i64 c,.bool one] wr fun en w'=>en=.returned (.tuple #[])∧∃F',RWG F0 w w' b (e.bit c one) F':=by
 refine (rWBit_any b c one e F wr h.rep hlen).mono ?_;rintro en w2 ⟨rfl,F',q1,q2,q3⟩;exact ⟨rfl,F',q1,fun j hj=>(q3 j hj).elim (h.new j) (fun x=>.inr (Nat.le_trans h.up.size x)),upd_foot h.up q2 h.new⟩
set_option maxHeartbeats 1000000 in
theorem rlength_any (n:Nat) (hn:n<2 ^ 64) (w:World):Calls Tryz.prog 107 #[.int .u64 n] w fun e w'=>e=.returned (.int .i64 (blen n))∧w=w':=by
 have hk:=blen_le hn;have HN:=Lib.hid hn;have hnn:(n:Int)≤18446744073709551615:=by omega
 clear hn;go_enter Tryz.func107,Tryz.ntmps107
 go_wp2_with fail
 go_loop [0,3] (fun x k=>∃y j:Nat,x=.int .u64 y∧k=.int .i64 j∧y≤n∧j+blen y=blen n) (fun x _=>(intOf x).toNat)
 case atStart=>exact ⟨n,0,rfl,rfl,Nat.le_refl _,by omega⟩
 case round=>
  obtain ⟨y,j,rfl,rfl,hy,hj⟩:=hrel;have hjb:(j:Int)≤64:=by omega
  by_cases hlt:0<y
  ·have HJ:Hid (j+1+blen (y / 2)=blen n):=by show _=_;have:=blen_pos hlt;omega
   have hlt':0<(y:Int):=by omega
   have hyn:(y:Int)≤18446744073709551615:=by omega
   clear hj;go_wp2
   go_round
   case rel=>exact ⟨y / 2,j+1,by go_num,by go_num,by omega,HJ.out⟩
   case measure=>simp [intOf];omega
  ·obtain rfl:y=0:=by omega
   have HJ:Hid (j=blen n):=by show _=_;rw [blen_zero] at hj;omega
   have h1:decide (((0:Nat):Int) > 0)=false:=by decide
   clear hj hlt;go_wp2
   go_ret
   exact ⟨by rw [HJ.out];rfl,rfl⟩
end Go.Proofs.YtcikldoaidmnhaaGreatDoor
namespace Go.Proofs.YtcikldoaidmnhaaGreatDoor
open Go Go.RowKit Pc
set_option maxRecDepth 100000
def restBits (c:Int) (n i:Nat):List (Int × Bool):=if i≤blen n then obits c i (blen n-i)++vbits c n (blen n-1) else vbits c n (blen n-1)
theorem rest_one {c:Int} {n i:Nat} (h:i<blen n):restBits c n i=(nctx c i,true) :: restBits c n (i+1):=by
 unfold restBits;rw [if_pos (by omega),if_pos (by omega),show blen n-i=(blen n-(i+1))+1 by omega];rfl
theorem rest_zero (c:Int) (n:Nat):restBits c n (blen n)=(nctx c (blen n),false) :: restBits c n (blen n+1):=by
 unfold restBits;rw [if_pos (Nat.le_refl _),if_neg (by omega),Nat.sub_self];rfl
theorem bit_val2 {n j:Nat}:((n:Int) / 2 ^ j % 2 == 1)=decide (n / 2 ^ j % 2=1):=by
 have e:(n:Int) / 2 ^ j=((n / 2 ^ j:Nat):Int):=by push_cast;rfl
 rw [e,Bool.eq_iff_iff];simp;omega
set_option maxHeartbeats 1000000 in
theorem rWNumber_any {F0:Nat→Prop} {w0 w:World} {b:Nat} {e:E} {F:Nat→Prop} (h:RWG F0 w0 w b e F) (c:Int) (n:Nat) (hn:n<2 ^ 64) (hlen:e.done.length+200≤1000000) :
  Calls Tryz.prog 56 #[.pointer (some ⟨b,0,none⟩),.int .i64 c,.int .u64 n] w fun en w'=>en=.returned (.tuple #[])∧∃F',RWG F0 w0 w' b (encFrom e (numBits c n)) F':=by
 have H:=Lib.hid h;have HL:=Lib.hid hlen;have HN:=Lib.hid hn;have hk:=blen_le hn;clear h hlen hn;go_enter Tryz.func56,Tryz.ntmps56
 go_wp2_with fail
 refine (rlength_any n HN.out w).mono ?_;rintro e0 w2 ⟨rfl,rfl⟩;go_wp2_with fail
 go_loopw [7] (fun i wr=>∃k:Nat,i=.int .i64 k∧k≤blen n+1∧∃e' F',RWG F0 w0 wr b e' F'∧e'.done.length≤e.done.length+k∧encFrom e' (restBits c n k)=encFrom e (numBits c n)) (fun i _=>66-(intOf i).toNat)
 case atStart=>exact ⟨0,rfl,Nat.zero_le _,e,F,H.out,Nat.le_refl _,by unfold restBits;rw [if_pos (Nat.zero_le _)];rfl⟩
 case round=>
  obtain ⟨k,rfl,hkn,e',F',h1,h2,h3⟩:=hrel;have H1:=Lib.hid h1;have H2:=Lib.hid h2;have H3:=Lib.hid h3;clear h1 h2 h3;have hkb:(k:Int)≤65:=by omega
  have HS:Hid (e'.done.length+2≤1000000):=by show _≤_;have:=H2.out;have:=HL.out;omega
  by_cases hlt:k<blen n
  ·have HX:Hid (encFrom (e'.bit (nctx c k) true) (restBits c n (k+1))=encFrom e (numBits c n)):=by
    show _=_;rw [←H3.out,rest_one hlt];rfl
   have hlt':decide (k<blen n)=true:=by simp;omega
   go_wp2_with (go_at_call 59;refine (H1.out.bit _ true (by have:=HS.out;omega)).mono ?_;rintro en w3 ⟨rfl,F3,q⟩;have Q:Hid (RWG F0 w0 w3 b (e'.bit (nctx c k) true) F3):=q;clear q)
   go_roundw
   case rel=>exact ⟨k+1,by go_num,by omega,_,F3,Q.out,by have:=E.bit_done_length e' (nctx c k) true;have:=H2.out;omega,HX.out⟩
   case measure=>simp [intOf];omega
  ·by_cases heq:k=blen n
   ·have HX:Hid (encFrom (e'.bit (nctx c k) false) (restBits c n (k+1))=encFrom e (numBits c n)):=by
     show _=_;rw [←H3.out,heq,rest_zero];rfl
    have hle:(k:Int)≤((blen n:Nat):Int):=by omega
    have hlt':decide (k<blen n)=false:=by simp;omega
    have HQ:=Lib.hid heq;clear heq hlt;go_wp2_with (go_at_call 59;refine (H1.out.bit _ false (by have:=HS.out;omega)).mono ?_;rintro en w3 ⟨rfl,F3,q⟩;have Q:Hid (RWG F0 w0 w3 b (e'.bit (nctx c k) false) F3):=q;clear q)
    go_roundw
    case rel=>exact ⟨k+1,by go_num,by have:=HQ.out;omega,_,F3,Q.out,by have:=E.bit_done_length e' (nctx c k) false;have:=H2.out;omega,HX.out⟩
    case measure=>simp [intOf];omega
   ·have hgt:¬(k:Int)≤((blen n:Nat):Int):=by omega
    have HX:Hid (encFrom e' (vbits c n (blen n-1))=encFrom e (numBits c n)):=by
     show _=_;rw [←H3.out];unfold restBits;rw [if_neg (by omega)]
    have HT:Hid (e'.done.length≤e.done.length+66):=by show _≤_;have:=H2.out;omega
    clear H3 H2 heq hlt;go_wp2_with fail
    go_loopw [8] (fun i wr=>∃(z:Int) (m:Nat),i=.int .i64 z∧(z=(m:Int)-1∨(z=-2∧m=0))∧m≤63∧∃e' F',RWG F0 w0 wr b e' F'∧e'.done.length+m≤e.done.length+130∧encFrom e' (vbits c n m)=encFrom e (numBits c n)) (fun i _=>(intOf i+1).toNat)
    case atStart=>exact ⟨_,blen n-1,rfl,by omega,by omega,_,F',H1.out,by have:=HT.out;omega,HX.out⟩
    case round=>
     obtain ⟨z,m,rfl,hz,hm,e2,F2,h1,h2,h3⟩:=hrel;have R1:=Lib.hid h1;have R2:=Lib.hid h2;have R3:=Lib.hid h3;clear h1 h2 h3 H1 HX HS HT;rcases m with _ | j
     ·have hz0:z<0:=by omega
      have R4:Hid (encFrom e2 []=encFrom e (numBits c n)):=R3.out;clear hz;go_wp2_with fail
      go_end0
      exact ⟨rfl,F2,by rw [←R4.out];exact R1.out⟩
     ·obtain rfl:z=(j:Int):=by omega
      have hj:(j:Int)≤63:=by omega
      have HX:Hid (encFrom (e2.bit (vctx c j) (decide (n / 2 ^ j % 2=1))) (vbits c n j)=encFrom e (numBits c n)):=R3.out;have HS:Hid (e2.done.length+1≤1000000):=by show _≤_;have:=R2.out;have:=HL.out;omega
      have hnb:(n:Int)≤18446744073709551615:=by have:=HN.out;omega
      clear hz;go_wp2_with (go_at_call 59;refine (R1.out.bit _ _ HS.out).mono ?_;rintro en w4 ⟨rfl,F4,q⟩;have Q:Hid (RWG F0 w0 w4 b (e2.bit (vctx c j) (decide (n / 2 ^ j % 2=1))) F4):=(by rw [←bit_val2];exact q);clear q)
      go_roundw
      case rel=>exact ⟨_,j,by go_num,by omega,by omega,_,F4,Q.out,by have:=E.bit_done_length e2 (vctx c j) (decide (n / 2 ^ j % 2=1));have:=R2.out;omega,HX.out⟩
      case measure=>simp [intOf]<;>omega
end Go.Proofs.YtcikldoaidmnhaaGreatDoor
namespace Go.Proofs.YtcikldoaidmnhaaGreatDoor
open Go Go.RowKit Pc
set_option maxRecDepth 100000
set_option maxHeartbeats 1000000 in
theorem rRNumber_any {w:World} {r N:Nat} {d:D} (h:RR w r d N) (hN:N+200≤999999) (c:Int) :
  Calls Tryz.prog 120 #[.pointer (some ⟨r,0,none⟩),.int .i64 c] w fun en w'=>en=.returned (numV (d.number c))∧∃N',N'≤N+130∧RR w' r (d.number c).d N'∧Upd (·=r) w w':=by
 have H:=Lib.hid h;have HN:=Lib.hid hN;clear h hN;go_enter Tryz.func120,Tryz.ntmps120
 go_wp2_with fail
 go_loopw [6] (fun i wr=>∃k:Nat,i=.int .i64 k∧k≤64∧∃d',(RR wr r d' (N+k)∧Upd (·=r) w wr)∧D.ones c (65-k) d'=D.ones c 65 d) (fun i _=>65-(intOf i).toNat)
 case atStart=>exact ⟨0,rfl,Nat.zero_le _,d,⟨H.out,Upd.refl _ _⟩,rfl⟩
 case round=>
  obtain ⟨k,rfl,hk,d',h1,h2⟩:=hrel;have H1:=Lib.hid h1;have H2:Hid ((if d'.one (nctx c k) then D.ones c (64-k) (d'.bit (nctx c k)) else (k,d'.bit (nctx c k)))=D.ones c 65 d):=by show _=_;rw [←ones_step hk];exact h2
  have hkb:(k:Int)≤64:=by omega
  clear h1 h2;by_cases ho:d'.one (nctx c k)=true
  ·have HO:=Lib.hid ho;have hcall:Calls Tryz.prog 121 #[.pointer (some ⟨r,0,none⟩),.int .i64 (nctx c k)] wr fun en w'=>en=.returned (.bool true)∧RR w' r (d'.bit (nctx c k)) (N+k+1)∧Upd (·=r) w w':=by
    have:=rRBit_any r (N+k) (nctx c k) d' (by have:=HN.out;omega) wr H1.out.1;rw [ho] at this;exact this.mono fun e w' ⟨q1,q2,q3⟩=>⟨q1,q2,H1.out.2.trans q3⟩
   have HC:=Lib.hid hcall;clear ho hcall;by_cases hlt:k<64
   ·have HX:Hid (D.ones c (65-(k+1)) (d'.bit (nctx c k))=D.ones c 65 d):=by
     show _=_;rw [←H2.out,HO.out,if_pos rfl,show 65-(k+1)=64-k by omega]
    have hlt':(k:Int)<64:=by omega
    go_wp2_with (go_at_call 121;refine HC.out.mono ?_;rintro en w3 ⟨rfl,q⟩;have Q:=Lib.hid q;clear q)
    go_roundw
    case rel=>exact ⟨k+1,by go_num,hlt,_,Q.out,HX.out⟩
    case measure=>simp [intOf];omega
   ·obtain rfl:k=64:=by omega
    have HX:Hid (d.number c=⟨0,false,d'.bit (nctx c 64)⟩):=number_many (by rw [←H2.out,HO.out,if_pos rfl];rfl);go_wp2_with (go_at_call 121;refine HC.out.mono ?_;rintro en w3 ⟨rfl,q⟩;have Q:=Lib.hid q;clear q)
    go_ret2
    exact ⟨by rw [HX.out];rfl,N+64+1,by omega,by rw [HX.out];exact Q.out.1,Q.out.2⟩
  ·have ho':d'.one (nctx c k)=false:=by simpa using ho
   have HE:Hid ((k,d'.bit (nctx c k))=D.ones c 65 d):=by show _=_;rw [←H2.out,ho',if_neg (by simp)]
   have hcall:Calls Tryz.prog 121 #[.pointer (some ⟨r,0,none⟩),.int .i64 (nctx c k)] wr fun en w'=>en=.returned (.bool false)∧RR w' r (d'.bit (nctx c k)) (N+k+1)∧Upd (·=r) w w':=by
    have:=rRBit_any r (N+k) (nctx c k) d' (by have:=HN.out;omega) wr H1.out.1;rw [ho'] at this;exact this.mono fun e w' ⟨q1,q2,q3⟩=>⟨q1,q2,H1.out.2.trans q3⟩
   have HC:=Lib.hid hcall;clear ho ho' hcall H2;rcases Nat.eq_zero_or_pos k with hk0 | hk0
   ·subst hk0;have HX:Hid (d.number c=⟨0,true,d'.bit (nctx c 0)⟩):=number_none HE.out;go_wp2_with (go_at_call 121;refine HC.out.mono ?_;rintro en w3 ⟨rfl,q⟩;have Q:=Lib.hid q;clear q)
    refine wp_loop_once ?_;go_wp2
    go_ret2
    exact ⟨by rw [HX.out];rfl,N+0+1,by omega,by rw [HX.out];exact Q.out.1,Q.out.2⟩
   ·have HX:Hid (d.number c=⟨(D.val c (k-1) 1 (d'.bit (nctx c k))).1,true,(D.val c (k-1) 1 (d'.bit (nctx c k))).2⟩):=number_some HE.out hk0 hk;have hne:((k:Int) == 0)=false:=by rw [beq_eq_false_iff_ne];omega
    go_wp2_with (go_at_call 121;refine HC.out.mono ?_;rintro en w3 ⟨rfl,q⟩;have Q:=Lib.hid q;clear q)
    clear hne HC HE;generalize d'.bit (nctx c k)=d1 at *;rw [show min (k:Int) 1=1 by omega];go_loopw [8,9] (fun x i wr=>∃(v m:Nat),x=.int .u64 v∧i=.int .i64 ((m:Int)-1)∧m≤63∧v<2 ^ (64-m)∧∃d2 N2,(RR wr r d2 N2∧N2+m≤N+130∧Upd (·=r) w wr)∧D.val c m v d2=D.val c (k-1) 1 d1) (fun _ i _=>(intOf i+1).toNat)
    case atStart=>exact ⟨1,k-1,rfl,by go_num,by omega,Nat.one_lt_two_pow (by omega),_,_,⟨Q.out.1,by omega,Q.out.2⟩,rfl⟩
    case round=>
     obtain ⟨v,m,rfl,rfl,hm,hv,d2,N2,h1,h2⟩:=hrel;have R1:=Lib.hid h1;have R2:=Lib.hid h2;clear h1 h2 H1 Q;rcases m with _ | j
     ·have h0:decide (((0:Nat):Int)-1 ≥ 0)=false:=by decide
      have HV:Hid ((v,d2)=D.val c (k-1) 1 d1):=R2.out;clear hv;go_wp2_with fail
      go_ret2
      exact ⟨by rw [HX.out,←HV.out];rfl,N2,by have:=R1.out.2.1;omega,by rw [HX.out,←HV.out];exact R1.out.1,R1.out.2.2⟩
     ·have e1:(((j+1:Nat):Int)-1)=(j:Int):=by omega
      rw [e1];have hj:(j:Int)≤62:=by omega
      obtain ⟨v1,v2⟩:=val_bd hm hv;have hvb:(v:Int)<9223372036854775808:=by omega
      have hor:=or_one v1;have V2:=Lib.hid v2;have R3:Hid (D.val c j (2*v+if d2.one (vctx c j) then 1 else 0) (d2.bit (vctx c j))=D.val c (k-1) 1 d1):=R2.out;clear hv e1 v1 v2 R2;by_cases ho:d2.one (vctx c j)=true
      ·have hcall:Calls Tryz.prog 121 #[.pointer (some ⟨r,0,none⟩),.int .i64 (vctx c j)] wr fun en w'=>en=.returned (.bool true)∧RR w' r (d2.bit (vctx c j)) (N2+1)∧(N2+1)+j≤N+130∧Upd (·=r) w w':=by
        have:=rRBit_any r N2 (vctx c j) d2 (by have:=HN.out;have:=R1.out.2.1;omega) wr R1.out.1;rw [ho] at this;exact this.mono fun e w' ⟨q1,q2,q3⟩=>⟨q1,q2,by have:=R1.out.2.1;omega,R1.out.2.2.trans q3⟩
       have HC:=Lib.hid hcall;have R4:Hid (D.val c j (2*v+1) (d2.bit (vctx c j))=D.val c (k-1) 1 d1):=by show _=_;rw [←R3.out,ho];rfl
       clear ho hcall;go_wp2_with (go_at_call 121;refine HC.out.mono ?_;rintro en w4 ⟨rfl,q⟩;have Q4:=Lib.hid q;clear q)
       go_roundw
       case rel=>exact ⟨2*v+1,j,by go_num,by go_num,by omega,V2.out,_,_,Q4.out,R4.out⟩
       case measure=>simp [intOf]<;>omega
      ·have ho':d2.one (vctx c j)=false:=by simpa using ho
       have hcall:Calls Tryz.prog 121 #[.pointer (some ⟨r,0,none⟩),.int .i64 (vctx c j)] wr fun en w'=>en=.returned (.bool false)∧RR w' r (d2.bit (vctx c j)) (N2+1)∧(N2+1)+j≤N+130∧Upd (·=r) w w':=by
        have:=rRBit_any r N2 (vctx c j) d2 (by have:=HN.out;have:=R1.out.2.1;omega) wr R1.out.1;rw [ho'] at this;exact this.mono fun e w' ⟨q1,q2,q3⟩=>⟨q1,q2,by have:=R1.out.2.1;omega,R1.out.2.2.trans q3⟩
       have HC:=Lib.hid hcall;have R4:Hid (D.val c j (2*v) (d2.bit (vctx c j))=D.val c (k-1) 1 d1):=by show _=_;rw [←R3.out,ho'];rfl
       clear ho ho' hcall hor;go_wp2_with (go_at_call 121;refine HC.out.mono ?_;rintro en w4 ⟨rfl,q⟩;have Q4:=Lib.hid q;clear q)
       go_roundw
       case rel=>exact ⟨2*v,j,by go_num,by go_num,by omega,by have:=V2.out;omega,_,_,Q4.out,R4.out⟩
       case measure=>simp [intOf]<;>omega
end Go.Proofs.YtcikldoaidmnhaaGreatDoor
