/- Parts: Walks of the packets' program: a place is read. No condition. -/
import Derived.Test.YtcikldoaidmnhaaGreatDoorRSpoi1
import Derived.Test.YtcikldoaidmnhaaGreatDoorRSpoi3
import Derived.Test.YtcikldoaidmnhaaGreatDoorRSpoi4
import Derived.Test.YtcikldoaidmnhaaGreatDoorRSpoi5
import Derived.Test.YtcikldoaidmnhaaGreatDoorRSpoi6
import Derived.Test.YtcikldoaidmnhaaGreatDoorRSpoi7
import Derived.Test.YtcikldoaidmnhaaGreatDoorRSpoi13
import Derived.Test.YtcikldoaidmnhaaGreatDoorRSpoi17
import Derived.Test.YtcikldoaidmnhaaGreatDoorRSpoi18
import Derived.WalkKit
import Derived.WalkSpells
import Derived.WalkLawsBesides
import Derived.Lib.Hide
import Derived.BigQuiet
import Derived.Deep.DeepFit
import Derived.Deep.DeepCutAuto
import Derived.Deep.AppendLies
import Derived.Deep.QuietTactic
import Derived.Maps.OwnOps
import Derived.Maps.OwnSet
import Derived.Maps.RangeWalk
import Derived.WideKeyEntry
import Derived.Deep.MidRow
import Derived.Lib.Bits
import Derived.Test.YtcikldoaidmnhaaGreatDoorRows
import Derived.Deep.RegionHeld3
import Derived.StillTail
import Derived.Laws.EntriesVeiled
import Derived.Handy
import Derived.DeepKeys4
import Derived.ArgAppend
import Derived.Deep.Upon
import Derived.Deep.CutBlock
import Derived.Test.YtcikldoaidmnhaaGreatDoorShelf2
import Derived.Test.YtcikldoaidmnhaaGreatDoorShelf
import Derived.Laws.BitsAllLaws
import Derived.Lib.Zigzag
namespace Go.Proofs.YtcikldoaidmnhaaGreatDoor
open Go Go.RowKit Pk Pc
set_option maxRecDepth 100000
theorem i64_and1 (n:Nat):bits .and .i64 (n:Int) 1=((n % 2:Nat):Int):=by
 have h1:(BitVec.ofInt 64 1).toNat=2 ^ 1-1:=by decide
 have key:(BitVec.ofInt 64 (n:Int) &&& BitVec.ofInt 64 1).toNat=((n:Int) % ((2 ^ 64:Nat):Int)).toNat % 2 ^ 1:=by
  rw [BitVec.toNat_and,BitVec.toNat_ofInt,h1,Nat.and_two_pow_sub_one_eq_mod]
 show IntKind.i64.wrap ((BitVec.ofInt 64 (n:Int) &&& BitVec.ofInt 64 1).toNat:Nat)=_;rw [key,IntKind.wrap_i64];omega
theorem zag_bits {n:Nat} (h:n<16777216):bits .xor .i64 ((n:Int) / 2) (wrap64 (-bits .and .i64 (n:Int) 1))=zag n:=by
 rw [i64_and1];unfold zag;rcases (by omega:n % 2=0∨n % 2=1) with h2 | h2
 ·rw [h2,if_neg (by omega)];have e:wrap64 (-((0:Nat):Int))=0:=by unfold wrap64;omega
  rw [e];show IntKind.i64.wrap ((BitVec.ofInt 64 ((n:Int) / 2) ^^^ BitVec.ofInt 64 0).toNat:Int)=_;have e1:BitVec.ofInt 64 0=0#64:=by decide
  rw [e1,BitVec.xor_zero,BitVec.toNat_ofInt,IntKind.wrap_i64];omega
 ·rw [h2,if_pos rfl];have e:wrap64 (-((1:Nat):Int))=-1:=by unfold wrap64;omega
  have e2:((n:Int) / 2)=((n / 2:Nat):Int):=by omega
  have hc:bits .xor .i64 ((n / 2:Nat):Int) (-1)=bits .xor .i64 (-1) ((n / 2:Nat):Int):=by simp only [bits,BitVec.xor_comm]
  rw [e,e2,hc,Lib.i64_not _ (by omega)]
theorem coord_num (d:D) (c near:Int):coordM d c near=match numM d c 16777216 with
  | none=>none
  | some (n,d')=>if inC (near+zag n) then some (near+zag n,d') else none:=by
 unfold coordM numM;by_cases h:(d.number c).ok=true∧((d.number c).n:Int)<16777216
 ·rw [if_pos h];by_cases h2:inC (near+zag (d.number c).n)
  ·rw [if_pos ⟨h.1,by omega,h2⟩];exact (if_pos h2).symm
  ·rw [if_neg (fun k=>h2 k.2.2)];exact (if_neg h2).symm
 ·rw [if_neg h,if_neg (fun k=>h ⟨k.1,by omega⟩)]
theorem numM_lt {d d':D} {c lim:Int} {n:Nat} (h:numM d c lim=some (n,d')):(n:Int)<lim:=by
 unfold numM at h;split at h
 ·rename_i k;obtain ⟨rfl,rfl⟩:=Prod.mk.inj (Option.some.inj h);exact k.2
 ·cases h
set_option maxHeartbeats 2000000 in
theorem oplace_any {Z N:Nat→Prop} {w0 wr:World} {b:Nat} {S:Wk} {br:Nat} {d:D} (h:CR Z N w0 wr b S br d) (c:Int) (hc:0≤c∧c≤1000) (near:Pt) (hn:nearP near) :
  Calls Tryz.prog 175 #[openerV b br,.int .i64 c,ptV near] wr fun en w'=>orFail (placeM d c near) (fun a en w'=>en=.returned (ptV a.1)∧CR Z N w0 w' b S br a.2) (Upd (fun k=>Z k∨N k) w0) en w':=by
 obtain ⟨Z1,e1,e2,e3,e4,_⟩:=h.enter (fun k=>k=wr.heap.size+1+1∨k=wr.heap.size+1+1+1) (fun k hk=>by omega);obtain ⟨n0,n1,n2⟩:=near;have HN:Hid (nearP (n0,n1,n2)):=hn;obtain ⟨w1,hw1⟩:∃w1,w1=(((wr.alloc (.cells #[.pointer (some ⟨b,0,none⟩),.pointer (some ⟨br,0,none⟩)] 183)).alloc (.cells #[.int .i64 n0,.int .i64 n1,.int .i64 n2] 43)).alloc (.cells #[.int .i64 0,.int .i64 0,.int .i64 0] 43)).alloc (.cells #[.int .i64 0,.int .i64 0,.int .i64 0] 24):=⟨_,rfl⟩;have hu1:Upd noBlk wr w1:=by rw [hw1];exact ((((Upd.refl _ wr).alloc _).alloc _).alloc _).alloc _
 have hs1:w1.heap.size=wr.heap.size+4:=by rw [hw1];simp only [World.size_alloc]
 have HO:Hid (w1.heap[wr.heap.size]?=some (.cells #[.pointer (some ⟨b,0,none⟩),.pointer (some ⟨br,0,none⟩)] 183 (0,0))):=by
  show _=_;rw [hw1];exact ((((Upd.refl noBlk _).alloc _).alloc _).alloc _).heap (heap_alloc_new wr _) id
 have HR:Hid (w1.heap[wr.heap.size+1+1]?=some (.cells #[.int .i64 0,.int .i64 0,.int .i64 0] 43 (0,0))):=by
  show _=_;rw [hw1];refine ((Upd.refl noBlk _).alloc _).heap ?_ id;have:=heap_alloc_new ((wr.alloc (.cells #[.pointer (some ⟨b,0,none⟩),.pointer (some ⟨br,0,none⟩)] 183)).alloc (.cells #[.int .i64 n0,.int .i64 n1,.int .i64 n2] 43)) (.cells #[.int .i64 0,.int .i64 0,.int .i64 0] 43);simp only [World.size_alloc] at this;exact this
 have HA:Hid (w1.heap[wr.heap.size+1+1+1]?=some (.cells #[.int .i64 0,.int .i64 0,.int .i64 0] 24 (0,0))):=by
  show _=_;rw [hw1];have:=heap_alloc_new (((wr.alloc (.cells #[.pointer (some ⟨b,0,none⟩),.pointer (some ⟨br,0,none⟩)] 183)).alloc (.cells #[.int .i64 n0,.int .i64 n1,.int .i64 n2] 43)).alloc (.cells #[.int .i64 0,.int .i64 0,.int .i64 0] 43)) (.cells #[.int .i64 0,.int .i64 0,.int .i64 0] 24);simp only [World.size_alloc] at this;exact this
 obtain ⟨g0,g1,g2⟩:w1.cell? ⟨wr.heap.size+1,0,none⟩=some (.int .i64 n0)∧w1.cell? ⟨wr.heap.size+1,1,none⟩=some (.int .i64 n1)∧w1.cell? ⟨wr.heap.size+1,2,none⟩=some (.int .i64 n2):=by
  have:w1.heap[wr.heap.size+1]?=some (.cells #[.int .i64 n0,.int .i64 n1,.int .i64 n2] 43 (0,0)):=by
   rw [hw1];refine (((Upd.refl noBlk _).alloc _).alloc _).heap ?_ id;have:=heap_alloc_new (wr.alloc (.cells #[.pointer (some ⟨b,0,none⟩),.pointer (some ⟨br,0,none⟩)] 183)) (.cells #[.int .i64 n0,.int .i64 n1,.int .i64 n2] 43);simp only [World.size_alloc] at this;exact this
  simp [World.cell?,this]
 have HOZ:Hid (¬Z1 wr.heap.size):=fun h=>by have:=e1 _ h;omega
 have HNZ:Hid (∀k,(k=wr.heap.size+1+1∨k=wr.heap.size+1+1+1)→¬Z1 k∧k<w1.heap.size):=fun k hk=>⟨fun h=>by have:=e1 _ h;omega,by omega⟩;have HC:=Lib.hid (e2 w1 hu1);have HE3:Hid (∀w' S' d',CR Z1 _ w1 w' b S' br d'→CR Z N w0 w' b S' br d'):=fun w' S' d'=>e3 w1 w' S' d' hu1;have HE4:Hid (∀w',Upd _ w1 w'→Upd (fun k=>Z k∨N k) w0 w'):=fun w'=>e4 w1 w' hu1;obtain ⟨tgt,htgt⟩:∃t,t=placeM d c (n0,n1,n2):=⟨_,rfl⟩;rw [←htgt];unfold placeM at htgt;simp only at htgt;have HT:=Lib.hid htgt;have ix0:∀(x y z:Int) (W:World),(Instr.index 24 (.agg #[.int .i64 x,.int .i64 y,.int .i64 z]) (.int .i64 0)).run Tryz.prog W=.ok (.int .i64 x) W:=fun _ _ _ _=>by kernel_rfl
 have ix1:∀(x y z:Int) (W:World),(Instr.index 24 (.agg #[.int .i64 x,.int .i64 y,.int .i64 z]) (.int .i64 1)).run Tryz.prog W=.ok (.int .i64 y) W:=fun _ _ _ _=>by kernel_rfl
 have ix2:∀(x y z:Int) (W:World),(Instr.index 24 (.agg #[.int .i64 x,.int .i64 y,.int .i64 z]) (.int .i64 2)).run Tryz.prog W=.ok (.int .i64 z) W:=fun _ _ _ _=>by kernel_rfl
 have c1:IntKind.i64.wrap (c+64)=c+64:=wrapN (by omega) (by omega);have c2:IntKind.i64.wrap (c+128)=c+128:=wrapN (by omega) (by omega);have v0:wrap64 c=c:=by unfold wrap64;omega
 have v1:wrap64 (c+64)=c+64:=by unfold wrap64;omega
 have v2:wrap64 (c+128)=c+128:=by unfold wrap64;omega
 clear htgt e1 e2 e3 e4 h hn hc hu1 hs1;unfold openerV ptV;go_enter Tryz.func175,Tryz.ntmps175
 go_upto_region 2 with fail
 rw [←hw1];clear hw1;generalize wr.heap.size=bo at *;go_wp2_with fail
 clear g0 g1 g2;have HF:=fun W=>Lib.hid (fail_any W);refine wp_loop_rounds 4 ?_;rw [rounds_succ];obtain ⟨k0,k1⟩:=cells2 (HC.out.keepObj HO.out HOZ.out (by omega));obtain ⟨Z2,q1,q2,q3,q4,q5⟩:=HC.out.enter noBlk (fun _ h=>h.elim);have HQ2:=Lib.hid q2;have HQ3:=Lib.hid (fun w' S' d'=>q3 _ w' S' d' (Upd.refl _ _));have HQ4:=Lib.hid (fun w'=>q4 _ w' (Upd.refl _ _));have HZ2:Hid (∀k,(k=bo+1+1∨k=bo+1+1+1)→¬(Z2 k∨noBlk k)):=fun k hk h=>h.elim (fun hz=>(q5 k hz).elim (HNZ.out k hk).1 (fun h=>by have:=(HNZ.out k hk).2;omega)) id;have HM:=Lib.hid (onumber_any (HQ2.out _ (Upd.refl _ _)) c 16777216 (by decide) (by decide));clear q1 q2 q3 q4 q5;go_wp2_with fail
 refine HM.out.mono ?_;intro e s0 hp;have HX:=Lib.hid (coord_num d c n0);rcases hm:numM d c 16777216 with _ | ⟨n,d1⟩
 ·rw [hm] at hp;obtain ⟨rfl,hu⟩:=hp;have HU:=Lib.hid (HE4.out _ (HQ4.out _ hu));have HTN:Hid (tgt=none):=by
   have hx:=HX.out;rw [hm] at hx;show _=_;rw [HT.out,hx]
  clear k0 k1 HM HC HF HA HO HN hu;unfold panicW;go_wp2_with fail
  refine ⟨rfl,?_⟩;rw [HTN.out];exact ⟨rfl,HU.out⟩
 rw [hm] at hp;obtain ⟨rfl,hc1⟩:=hp;have hx:=HX.out;rw [hm] at hx;have HX2:Hid (coordM d c n0=if inC (n0+zag n) then some (n0+zag n,d1) else none):=hx;have HA1:=Lib.hid (hc1.up.heap HA.out (HZ2.out _ (.inr rfl)));have HR1:=Lib.hid (hc1.up.heap HR.out (HZ2.out _ (.inl rfl)));have HC1:=Lib.hid (HQ3.out _ _ _ hc1);obtain ⟨x0,hxj⟩:∃x,x=n0+zag n:=⟨_,rfl⟩;have hw:wrap64 (n0+bits BinOp.xor IntKind.i64 ((n:Int) / 2) (wrap64 (-bits BinOp.and IntKind.i64 (n:Int) 1)))=x0:=by
  have hl:n<16777216:=by have:=numM_lt hm;omega
  rw [zag_bits hl,hxj];have hz:-8388608≤zag n∧zag n≤8388607:=by unfold zag;split<;>omega
  have hn:=HN.out;unfold nearP at hn;simp only at hn;unfold wrap64;omega
 rw [←hxj] at HX2;obtain ⟨⟨a0,a1,a2⟩,⟨f0,f1,f2⟩⟩:=cellsF3 HA1.out;clear k0 k1 HM hc1 hx HX hm hxj HC HA HR HQ2 HQ3 HQ4 HZ2;clear Z2;go_upto_region 7 with fail
 have HA:Hid ((s0.setCell ⟨bo+1+1+1,0,none⟩ (.int .i64 x0)).heap[bo+1+1+1]?=some (.cells #[.int .i64 x0,.int .i64 0,.int .i64 0] 24 (0,0))):=heap_setCell_eq (i:=0) (.int .i64 x0) HA1.out;have HR:Hid ((s0.setCell ⟨bo+1+1+1,0,none⟩ (.int .i64 x0)).heap[bo+1+1]?=some (.cells #[.int .i64 0,.int .i64 0,.int .i64 0] 43 (0,0))):=(((Upd.refl (fun k=>k=bo+1+1+1) s0).setCell (p:=⟨bo+1+1+1,0,none⟩) (fun _=>rfl) _).heap HR1.out (by omega));have HC:=Lib.hid (HC1.out.own HNZ.out ((Upd.refl _ s0).setCell (p:=⟨bo+1+1+1,0,none⟩) (fun _=>.inr rfl) (.int .i64 x0)));clear HA1 HR1 HC1 a0 a1 a2 f0 f1 f2 hw;generalize s0.setCell ⟨bo+1+1+1,0,none⟩ (.int .i64 x0)=z0 at *;obtain ⟨⟨a0,a1,a2⟩,_⟩:=cellsF3 HA.out;by_cases hni:¬inC x0
 ·have HTN:Hid (tgt=none):=by
   have hx:=HX2.out;rw [if_neg hni] at hx;show _=_;rw [HT.out,hx]
  have HU:=Lib.hid (HE4.out _ HC.out.up);have hor:x0<0∨2097151<x0:=by unfold inC at hni;omega
  clear HC HA HR HN HX2 hni;rcases hor with h1 | h1
  ·go_wp2_with fail
   refine (HF _).out.mono ?_;rintro e w3 ⟨rfl,rfl⟩;unfold panicW;go_wp2_with fail
   refine ⟨rfl,?_⟩;rw [HTN.out];exact ⟨rfl,HU.out⟩
  ·have h2:¬x0<0:=by omega
   go_wp2_with fail
   refine (HF _).out.mono ?_;rintro e w3 ⟨rfl,rfl⟩;unfold panicW;go_wp2_with fail
   refine ⟨rfl,?_⟩;rw [HTN.out];exact ⟨rfl,HU.out⟩
 have hin:=Classical.not_not.1 hni;clear hni;have hx:=HX2.out;rw [if_pos hin] at hx;have ht:=HT.out;rw [hx] at ht;simp only at ht;have HT:=Lib.hid ht;obtain ⟨h1,h2⟩:¬x0<0∧¬2097151<x0:=by unfold inC at hin;omega
 clear hx ht HX2 hin;go_wp2_with fail
 clear h1 h2 a0 a1 a2;rw [rounds_succ];obtain ⟨k0,k1⟩:=cells2 (HC.out.keepObj HO.out HOZ.out (by omega));obtain ⟨Z2,q1,q2,q3,q4,q5⟩:=HC.out.enter noBlk (fun _ h=>h.elim);have HQ2:=Lib.hid q2;have HQ3:=Lib.hid (fun w' S' d'=>q3 _ w' S' d' (Upd.refl _ _));have HQ4:=Lib.hid (fun w'=>q4 _ w' (Upd.refl _ _));have HZ2:Hid (∀k,(k=bo+1+1∨k=bo+1+1+1)→¬(Z2 k∨noBlk k)):=fun k hk h=>h.elim (fun hz=>(q5 k hz).elim (HNZ.out k hk).1 (fun h=>by have:=(HNZ.out k hk).2;omega)) id;have HM:=Lib.hid (onumber_any (HQ2.out _ (Upd.refl _ _)) (c+64) 16777216 (by decide) (by decide));clear q1 q2 q3 q4 q5;go_wp2_with fail
 refine HM.out.mono ?_;intro e s1 hp;have HX:=Lib.hid (coord_num d1 (c+64) n1);rcases hm:numM d1 (c+64) 16777216 with _ | ⟨n,d2⟩
 ·rw [hm] at hp;obtain ⟨rfl,hu⟩:=hp;have HU:=Lib.hid (HE4.out _ (HQ4.out _ hu));have HTN:Hid (tgt=none):=by
   have hx:=HX.out;rw [hm] at hx;show _=_;rw [HT.out,hx]
  clear k0 k1 HM HC HF HA HO HN hu;unfold panicW;go_wp2_with fail
  refine ⟨rfl,?_⟩;rw [HTN.out];exact ⟨rfl,HU.out⟩
 rw [hm] at hp;obtain ⟨rfl,hc1⟩:=hp;have hx:=HX.out;rw [hm] at hx;have HX2:Hid (coordM d1 (c+64) n1=if inC (n1+zag n) then some (n1+zag n,d2) else none):=hx;have HA1:=Lib.hid (hc1.up.heap HA.out (HZ2.out _ (.inr rfl)));have HR1:=Lib.hid (hc1.up.heap HR.out (HZ2.out _ (.inl rfl)));have HC1:=Lib.hid (HQ3.out _ _ _ hc1);obtain ⟨x1,hxj⟩:∃x,x=n1+zag n:=⟨_,rfl⟩;have hw:wrap64 (n1+bits BinOp.xor IntKind.i64 ((n:Int) / 2) (wrap64 (-bits BinOp.and IntKind.i64 (n:Int) 1)))=x1:=by
  have hl:n<16777216:=by have:=numM_lt hm;omega
  rw [zag_bits hl,hxj];have hz:-8388608≤zag n∧zag n≤8388607:=by unfold zag;split<;>omega
  have hn:=HN.out;unfold nearP at hn;simp only at hn;unfold wrap64;omega
 rw [←hxj] at HX2;obtain ⟨⟨a0,a1,a2⟩,⟨f0,f1,f2⟩⟩:=cellsF3 HA1.out;clear k0 k1 HM hc1 hx HX hm hxj HC HA HR HQ2 HQ3 HQ4 HZ2;clear Z2;go_upto_region 7 with fail
 have HA:Hid ((s1.setCell ⟨bo+1+1+1,1,none⟩ (.int .i64 x1)).heap[bo+1+1+1]?=some (.cells #[.int .i64 x0,.int .i64 x1,.int .i64 0] 24 (0,0))):=heap_setCell_eq (i:=1) (.int .i64 x1) HA1.out;have HR:Hid ((s1.setCell ⟨bo+1+1+1,1,none⟩ (.int .i64 x1)).heap[bo+1+1]?=some (.cells #[.int .i64 0,.int .i64 0,.int .i64 0] 43 (0,0))):=(((Upd.refl (fun k=>k=bo+1+1+1) s1).setCell (p:=⟨bo+1+1+1,1,none⟩) (fun _=>rfl) _).heap HR1.out (by omega));have HC:=Lib.hid (HC1.out.own HNZ.out ((Upd.refl _ s1).setCell (p:=⟨bo+1+1+1,1,none⟩) (fun _=>.inr rfl) (.int .i64 x1)));clear HA1 HR1 HC1 a0 a1 a2 f0 f1 f2 hw;generalize s1.setCell ⟨bo+1+1+1,1,none⟩ (.int .i64 x1)=z1 at *;obtain ⟨⟨a0,a1,a2⟩,_⟩:=cellsF3 HA.out;by_cases hni:¬inC x1
 ·have HTN:Hid (tgt=none):=by
   have hx:=HX2.out;rw [if_neg hni] at hx;show _=_;rw [HT.out,hx]
  have HU:=Lib.hid (HE4.out _ HC.out.up);have hor:x1<0∨2097151<x1:=by unfold inC at hni;omega
  clear HC HA HR HN HX2 hni;rcases hor with h1 | h1
  ·go_wp2_with fail
   refine (HF _).out.mono ?_;rintro e w3 ⟨rfl,rfl⟩;unfold panicW;go_wp2_with fail
   refine ⟨rfl,?_⟩;rw [HTN.out];exact ⟨rfl,HU.out⟩
  ·have h2:¬x1<0:=by omega
   go_wp2_with fail
   refine (HF _).out.mono ?_;rintro e w3 ⟨rfl,rfl⟩;unfold panicW;go_wp2_with fail
   refine ⟨rfl,?_⟩;rw [HTN.out];exact ⟨rfl,HU.out⟩
 have hin:=Classical.not_not.1 hni;clear hni;have hx:=HX2.out;rw [if_pos hin] at hx;have ht:=HT.out;rw [hx] at ht;simp only at ht;have HT:=Lib.hid ht;obtain ⟨h1,h2⟩:¬x1<0∧¬2097151<x1:=by unfold inC at hin;omega
 clear hx ht HX2 hin;go_wp2_with fail
 clear h1 h2 a0 a1 a2;rw [rounds_succ];obtain ⟨k0,k1⟩:=cells2 (HC.out.keepObj HO.out HOZ.out (by omega));obtain ⟨Z2,q1,q2,q3,q4,q5⟩:=HC.out.enter noBlk (fun _ h=>h.elim);have HQ2:=Lib.hid q2;have HQ3:=Lib.hid (fun w' S' d'=>q3 _ w' S' d' (Upd.refl _ _));have HQ4:=Lib.hid (fun w'=>q4 _ w' (Upd.refl _ _));have HZ2:Hid (∀k,(k=bo+1+1∨k=bo+1+1+1)→¬(Z2 k∨noBlk k)):=fun k hk h=>h.elim (fun hz=>(q5 k hz).elim (HNZ.out k hk).1 (fun h=>by have:=(HNZ.out k hk).2;omega)) id;have HM:=Lib.hid (onumber_any (HQ2.out _ (Upd.refl _ _)) (c+128) 16777216 (by decide) (by decide));clear q1 q2 q3 q4 q5;go_wp2_with fail
 refine HM.out.mono ?_;intro e s2 hp;have HX:=Lib.hid (coord_num d2 (c+128) n2);rcases hm:numM d2 (c+128) 16777216 with _ | ⟨n,d3⟩
 ·rw [hm] at hp;obtain ⟨rfl,hu⟩:=hp;have HU:=Lib.hid (HE4.out _ (HQ4.out _ hu));have HTN:Hid (tgt=none):=by
   have hx:=HX.out;rw [hm] at hx;show _=_;rw [HT.out,hx]
  clear k0 k1 HM HC HF HA HO HN hu;unfold panicW;go_wp2_with fail
  refine ⟨rfl,?_⟩;rw [HTN.out];exact ⟨rfl,HU.out⟩
 rw [hm] at hp;obtain ⟨rfl,hc1⟩:=hp;have hx:=HX.out;rw [hm] at hx;have HX2:Hid (coordM d2 (c+128) n2=if inC (n2+zag n) then some (n2+zag n,d3) else none):=hx;have HA1:=Lib.hid (hc1.up.heap HA.out (HZ2.out _ (.inr rfl)));have HR1:=Lib.hid (hc1.up.heap HR.out (HZ2.out _ (.inl rfl)));have HC1:=Lib.hid (HQ3.out _ _ _ hc1);obtain ⟨x2,hxj⟩:∃x,x=n2+zag n:=⟨_,rfl⟩;have hw:wrap64 (n2+bits BinOp.xor IntKind.i64 ((n:Int) / 2) (wrap64 (-bits BinOp.and IntKind.i64 (n:Int) 1)))=x2:=by
  have hl:n<16777216:=by have:=numM_lt hm;omega
  rw [zag_bits hl,hxj];have hz:-8388608≤zag n∧zag n≤8388607:=by unfold zag;split<;>omega
  have hn:=HN.out;unfold nearP at hn;simp only at hn;unfold wrap64;omega
 rw [←hxj] at HX2;obtain ⟨⟨a0,a1,a2⟩,⟨f0,f1,f2⟩⟩:=cellsF3 HA1.out;clear k0 k1 HM hc1 hx HX hm hxj HC HA HR HQ2 HQ3 HQ4 HZ2;clear Z2;go_upto_region 7 with fail
 have HA:Hid ((s2.setCell ⟨bo+1+1+1,2,none⟩ (.int .i64 x2)).heap[bo+1+1+1]?=some (.cells #[.int .i64 x0,.int .i64 x1,.int .i64 x2] 24 (0,0))):=heap_setCell_eq (i:=2) (.int .i64 x2) HA1.out;have HR:Hid ((s2.setCell ⟨bo+1+1+1,2,none⟩ (.int .i64 x2)).heap[bo+1+1]?=some (.cells #[.int .i64 0,.int .i64 0,.int .i64 0] 43 (0,0))):=(((Upd.refl (fun k=>k=bo+1+1+1) s2).setCell (p:=⟨bo+1+1+1,2,none⟩) (fun _=>rfl) _).heap HR1.out (by omega));have HC:=Lib.hid (HC1.out.own HNZ.out ((Upd.refl _ s2).setCell (p:=⟨bo+1+1+1,2,none⟩) (fun _=>.inr rfl) (.int .i64 x2)));clear HA1 HR1 HC1 a0 a1 a2 f0 f1 f2 hw;generalize s2.setCell ⟨bo+1+1+1,2,none⟩ (.int .i64 x2)=z2 at *;obtain ⟨⟨a0,a1,a2⟩,_⟩:=cellsF3 HA.out;by_cases hni:¬inC x2
 ·have HTN:Hid (tgt=none):=by
   have hx:=HX2.out;rw [if_neg hni] at hx;show _=_;rw [HT.out,hx]
  have HU:=Lib.hid (HE4.out _ HC.out.up);have hor:x2<0∨2097151<x2:=by unfold inC at hni;omega
  clear HC HA HR HN HX2 hni;rcases hor with h1 | h1
  ·go_wp2_with fail
   refine (HF _).out.mono ?_;rintro e w3 ⟨rfl,rfl⟩;unfold panicW;go_wp2_with fail
   refine ⟨rfl,?_⟩;rw [HTN.out];exact ⟨rfl,HU.out⟩
  ·have h2:¬x2<0:=by omega
   go_wp2_with fail
   refine (HF _).out.mono ?_;rintro e w3 ⟨rfl,rfl⟩;unfold panicW;go_wp2_with fail
   refine ⟨rfl,?_⟩;rw [HTN.out];exact ⟨rfl,HU.out⟩
 have hin:=Classical.not_not.1 hni;clear hni;have hx:=HX2.out;rw [if_pos hin] at hx;have ht:=HT.out;rw [hx] at ht;simp only at ht;have HT:=Lib.hid ht;obtain ⟨h1,h2⟩:¬x2<0∧¬2097151<x2:=by unfold inC at hin;omega
 clear hx ht HX2 hin;go_wp2_with fail
 clear h1 h2 a0 a1 a2;rw [rounds_succ];obtain ⟨⟨a0,a1,a2⟩,_⟩:=cellsF3 HA.out;obtain ⟨_,⟨f0,f1,f2⟩⟩:=cellsF3 HR.out;go_wp2_with fail
 have HZ2:=set3 (y0:=.int .i64 x0) (y1:=.int .i64 x1) (y2:=.int .i64 x2) HR.out
 (try simp only [Exit.inBlock,Exit.then])
 refine bodyPost_ret (results_cell_row rfl _ _ (bo+1+1) 43 _ (0,0) _ rfl HZ2 Tryz.underlying43 rfl (by kernel_rfl)) rfl ?_;rw [HT.out];exact ⟨rfl,HE3.out _ _ _ (HC.out.own HNZ.out ((((Upd.refl _ z2).setCell (p:=⟨bo+1+1,0,none⟩) (fun _=>.inl rfl) _).setCell (p:=⟨bo+1+1,1,none⟩) (fun _=>.inl rfl) _).setCell (p:=⟨bo+1+1,2,none⟩) (fun _=>.inl rfl) _))⟩
end Go.Proofs.YtcikldoaidmnhaaGreatDoor
