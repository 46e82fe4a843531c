/- Parts: Walks of the reference of packets: numbers modulo others, moves that numbers determine. No condition. Walks of the reference of packets: parts are read. No condition. Walks of the reference of packets: root packets are opened. No condition. -/
import Derived.Test.YtcikldoaidmnhaaGreatDoorRSpoi1
import Derived.Test.YtcikldoaidmnhaaGreatDoorRSpoi2
import Derived.Test.YtcikldoaidmnhaaGreatDoorRSpoi3
import Derived.Test.YtcikldoaidmnhaaGreatDoorRSpoi4
import Derived.Test.YtcikldoaidmnhaaGreatDoorRSpoi5
import Derived.Test.YtcikldoaidmnhaaGreatDoorRSpoi6
import Derived.Test.YtcikldoaidmnhaaGreatDoorRSpoi7
import Derived.Test.YtcikldoaidmnhaaGreatDoorRSpoi9
import Derived.Test.YtcikldoaidmnhaaGreatDoorRSpoi11
import Derived.Test.YtcikldoaidmnhaaGreatDoorRSpoi12
import Derived.Test.YtcikldoaidmnhaaGreatDoorRSpoi14
import Derived.Test.YtcikldoaidmnhaaGreatDoorRSpoi17
import Derived.Test.YtcikldoaidmnhaaGreatDoorRSpoi18
import Derived.Test.YtcikldoaidmnhaaGreatDoorRSpoi19
import Derived.Test.YtcikldoaidmnhaaGreatDoorRSpoi20
import Derived.Test.YtcikldoaidmnhaaGreatDoorRSpoi25
import Derived.Test.YtcikldoaidmnhaaGreatDoorRSpoi28
import Derived.Test.YtcikldoaidmnhaaGreatDoorRSpoi29
import Derived.Test.YtcikldoaidmnhaaGreatDoorRSpoi31
import Derived.Test.YtcikldoaidmnhaaGreatDoorRSpoi32
import Derived.Test.YtcikldoaidmnhaaGreatDoorRSpoi34
import Derived.Test.YtcikldoaidmnhaaGreatDoorRSpoi36
import Derived.WalkKit
import Derived.WalkSpells
import Derived.WalkLawsBesides
import Derived.Lib.Hide
import Derived.BigQuiet
import Derived.Deep.DeepFit
import Derived.Deep.DeepCutAuto
import Derived.Deep.AppendLies
import Derived.Deep.QuietTactic
import Derived.Test.YtcikldoaidmnhaaGreatDoorRows
import Derived.Deep.RegionHeld3
import Derived.StillTail
import Derived.Maps.OwnOps
import Derived.Maps.OwnSet
import Derived.Maps.RangeWalk
import Derived.WideKeyEntry
import Derived.Deep.MidRow
import Derived.Lib.Bits
import Derived.Laws.EntriesVeiled
import Derived.Handy
import Derived.DeepKeys4
import Derived.ArgAppend
import Derived.Deep.Upon
import Derived.Deep.CutBlock
import Derived.Test.YtcikldoaidmnhaaGreatDoorShelf2
import Derived.Laws.BitsAllLaws
import Derived.Laws.BytesArg
import Derived.Deep.WholeRow
import Derived.Test.YtcikldoaidmnhaaGreatDoorShelf
import Derived.Lib.Zigzag
import Derived.Recover
import Derived.Laws.IdiomStrings
namespace Go.Proofs.YtcikldoaidmnhaaGreatDoor
open Go Go.RowKit Pk
set_option maxRecDepth 100000
def sixI (n:Int):Int:=modI n 2097153-(if n<0 then 1 else 0)
def moveOf (m:Mv):Mv:=((sixI m.1.1,sixI m.1.2.1,sixI m.1.2.2),(sixI m.2.1,sixI m.2.2.1,sixI m.2.2.2))
noncomputable def kSix:Kd Tryz.prog Mv:={ T:=142,S:=60,k:=6,bytes:=48,enc:=mvC,len:=fun _=>rfl,one:=fun x v hv=>by simp [mvC] at hv;rcases hv with rfl | rfl | rfl | rfl | rfl | rfl<;>rfl,pos:=by decide,small:=by decide,und:=Tryz.underlying60,info:=kinfo_of (by kernel_rfl) }
def sixTo (m:Mv) (k:Nat):Array Value:=((List.range 6).map (fun j=>Value.int .i64 (if j<k then sixI (coordAt m j) else 0))).toArray
theorem sixTo_get (m:Mv) (k j:Nat) (h:j<6):(sixTo m k)[j]?=some (.int .i64 (if j<k then sixI (coordAt m j) else 0)):=by simp [sixTo,h]
theorem sixTo_set (m:Mv) (k:Nat) (hk:k<6):(sixTo m k).setIfInBounds k (.int .i64 (sixI (coordAt m k)))=sixTo m (k+1):=by
 apply Array.ext_getElem?;intro j;rw [Array.getElem?_setIfInBounds];by_cases h:j<6
 ·rw [sixTo_get m k j h,sixTo_get m (k+1) j h];by_cases e:k=j
  ·subst e;rw [if_pos rfl,if_pos (by simpa [sixTo] using h),if_pos (by omega)]
  ·rw [if_neg e];by_cases h2:j<k
   ·rw [if_pos h2,if_pos (by omega)]
   ·rw [if_neg h2,if_neg (by omega)]
 ·have h1:∀q,(sixTo m q)[j]?=none:=fun q=>by simp [sixTo];omega
  rw [h1,h1,if_neg (by omega)]
theorem sixTo_all (m:Mv):sixTo m 6=(mvC (moveOf m)).toArray:=by
 obtain ⟨⟨a0,a1,a2⟩,⟨a3,a4,a5⟩⟩:=m;rfl
set_option maxHeartbeats 2000000 in
theorem jMoves_any (v:Value) (l:List Mv) (w:World) (hlen:l.length≤9223372036854775807) (h:kSix.Rd w v l):Calls Tryz.prog 78 #[v] w fun en w'=>∃v,en=.returned v∧kMove.Own w.heap.size w' v ((l.take 10).map moveOf)∧Upd noBlk w w':=by
 obtain ⟨A,cap,rfl,hcap,hx⟩:=h;have HX:=Lib.hid hx;have hl':(l.length:Int)≤9223372036854775807:=by omega
 have HM:=fun n W=>Lib.hid (hMod_any n 2097153 (by decide) (by decide) W);clear hx hlen;go_enter Tryz.func78,Tryz.ntmps78
 go_wp2_with fail
 go_loopw [3,4] (fun o i wr=>∃k:Nat,i=.int .i64 k∧k≤l.length∧k≤10∧kMove.Own w.heap.size wr o ((l.take k).map moveOf)∧Upd noBlk w wr) (fun _ i _=>l.length-(intOf i).toNat)
 case atStart=>exact ⟨0,rfl,Nat.zero_le _,by omega,Kd.Own.nil _ _ _,Upd.refl _ _⟩
 case round=>
  obtain ⟨k,rfl,hk,hk10,ho,hu⟩:=hrel;have HO:=Lib.hid ho;have HU:=Lib.hid hu;clear ho hu;by_cases hlt:k<l.length
  ·have hlt':(k:Int)<(l.length:Int):=by omega
   by_cases hlt10:k<10
   ·have hlt10':(k:Int)<10:=by omega
    obtain ⟨b,off,rfl,f1⟩:=HX.out (by omega);have hat:=(f1 k hlt).keep HU.out;have hk6:kSix.k=6:=rfl;rw [hk6] at hat;have HTK:Hid ((l.take (k+1)).map moveOf=(l.take k).map moveOf++[moveOf l[k]]):=by
     show _=_;rw [List.take_succ_eq_append_getElem hlt,List.map_append];rfl
    have HLN:Hid (((l.take k).map moveOf).length=k):=by show _=_;rw [List.length_map,List.length_take];omega
    have HAT:Hid (∀j,j<6→wr.cell? ⟨b,off+k*6+j,none⟩=some (.int .i64 (coordAt l[k] j))):=fun j hj=>by
     refine hat j _ ?_;generalize l[k]=m;obtain ⟨⟨a0,a1,a2⟩,⟨a3,a4,a5⟩⟩:=m;rcases (by omega:j=0∨j=1∨j=2∨j=3∨j=4∨j=5) with rfl | rfl | rfl | rfl | rfl | rfl<;>rfl
    clear f1 hat hk6 HX;generalize l[k]=pm at *;go_upto_region 6 with fail
    have HB:Hid ((wr.alloc (.cells #[.int .i64 0,.int .i64 0,.int .i64 0,.int .i64 0,.int .i64 0,.int .i64 0] 142)).heap[wr.heap.size]?=some (.cells (sixTo pm 0) 142 (0,0))):=heap_alloc_new wr _;have HA:=Lib.hid ((Upd.refl noBlk wr).alloc (.cells #[.int .i64 0,.int .i64 0,.int .i64 0,.int .i64 0,.int .i64 0,.int .i64 0] 142));have HAT1:Hid (∀j,j<6→(wr.alloc (.cells #[.int .i64 0,.int .i64 0,.int .i64 0,.int .i64 0,.int .i64 0,.int .i64 0] 142)).cell? ⟨b,off+k*6+j,none⟩=some (.int .i64 (coordAt pm j))∧b<wr.heap.size):=fun j hj=>⟨HA.out.cell (HAT.out j hj) id,cell_lt (HAT.out j hj)⟩;have HU1:=Lib.hid (HU.out.trans HA.out);have HO1:=Lib.hid (HO.out.upd HA.out);have HOB:Hid (∀g,u3.ownBlock=some g→g<wr.heap.size):=fun g hg=>(HO.out.lt g hg).2;have HWN:Hid (w.heap.size≤wr.heap.size):=HU.out.size;clear HA HAT HU HO;generalize wr.heap.size=N at *;generalize wr.alloc (.cells #[.int .i64 0,.int .i64 0,.int .i64 0,.int .i64 0,.int .i64 0,.int .i64 0] 142)=w1 at *;go_wp2_with fail
    go_loopw [6] (fun i wz=>∃j:Nat,i=.int .i64 j∧j≤6∧wz.heap[N]?=some (.cells (sixTo pm j) 142 (0,0))∧Upd (fun b=>b=N) w1 wz) (fun i _=>6-(intOf i).toNat)
    case atStart=>exact ⟨0,rfl,by omega,HB.out,Upd.refl _ _⟩
    case round=>
     obtain ⟨j,rfl,hj,hb,hu⟩:=hrel;have HB2:=Lib.hid hb;have HU2:=Lib.hid hu;clear hb hu;by_cases hlt2:j<6
     ·have hlt3:(j:Int)<6:=by omega
      have HJ:Hid (j<6):=hlt2;have hcj:wr.cell? ⟨b,off+k*6+j,none⟩=some (.int .i64 (coordAt pm j)):=HU2.out.cell (HAT1.out j hlt2).1 (fun e=>by have h1:=(HAT1.out j hlt2).2;have e':b=N:=e;omega);have HCJ:=Lib.hid hcj;have hc:wr.cell? ⟨N,j,none⟩=some (.int .i64 0):=by rw [cell_of_row _ _ j _ 142 (0,0) HB2.out,sixTo_get pm j j hlt2,if_neg (by omega)]
      have hf:wr.frozen? ⟨N,j,none⟩=false:=by simp [World.frozen?,HB2.out]
      have HS:=sixTo_set pm j hlt2;unfold sixI at HS;have HSS:=Lib.hid HS;have HNB:Hid (¬b=N):=by show ¬_;have:=(HAT1.out j hlt2).2;omega
      clear HS hlt2;generalize coordAt pm j=q at *;have HMQ:=HM q wr;have HR:=modI_range (n:=q) (m:=2097153) (by decide);generalize modI q 2097153=md at *;obtain ⟨hr1,hr2⟩:=HR;go_wp2_with fail
      refine HMQ.out.mono ?_;rintro e w2 ⟨rfl,rfl⟩;clear HMQ;go_upto_region 10 with fail
      have HB3:Hid ((w2.setCell ⟨N,j,none⟩ (.int .i64 md)).heap[N]?=some (.cells ((sixTo pm j).setIfInBounds j (.int .i64 md)) 142 (0,0))):=heap_setCell_eq (i:=j) (.int .i64 md) HB2.out;have hset:=(Upd.refl (fun k=>k=N) w2).setCell (p:=⟨N,j,none⟩) (fun _=>rfl) (.int .i64 md);have hcj2:=hset.cell HCJ.out (HNB.out);have HU3:=Lib.hid (HU2.out.trans hset);have hsz:(sixTo pm j).size=6:=by simp [sixTo]
      have hc2:(w2.setCell ⟨N,j,none⟩ (.int .i64 md)).cell? ⟨N,j,none⟩=some (.int .i64 md):=by
       rw [cell_of_row _ _ j _ 142 (0,0) HB3.out,Array.getElem?_setIfInBounds,if_pos rfl,if_pos (by rw [hsz];exact HJ.out)]
      have hf2:(w2.setCell ⟨N,j,none⟩ (.int .i64 md)).frozen? ⟨N,j,none⟩=false:=by simp [World.frozen?,HB3.out]
      clear hset HU2 HB2 hcj hc hf hsz;generalize w2.setCell ⟨N,j,none⟩ (.int .i64 md)=w3 at *;by_cases hq:q<0
      ·rw [if_pos hq] at HSS;go_wp2_with fail
       have HB4:=heap_setCell_eq (i:=j) (.int .i64 (md-1)) HB3.out;rw [Array.setIfInBounds_setIfInBounds,HSS.out] at HB4;refine ⟨⟨j+1,by push_cast;rfl,HJ.out,HB4,HU3.out.setCell (p:=⟨N,j,none⟩) (fun _=>rfl) _⟩,?_⟩;simp only [intOf];have:=HJ.out;omega
      ·rw [if_neg hq,Int.sub_zero] at HSS;rw [HSS.out] at HB3;go_wp2_with fail
       refine ⟨⟨j+1,by push_cast;rfl,HJ.out,HB3.out,HU3.out⟩,?_⟩;simp only [intOf];have:=HJ.out;omega
     ·obtain rfl:j=6:=by omega
      have HB3:Hid (wr.heap[N]?=some (.cells (mvC (moveOf pm)).toArray 142 (0,0))):=by show _=_;rw [←sixTo_all];exact HB2.out
      have HU4:=Lib.hid (HU1.out.then HU2.out (fun i hi e=>by have e':i=N:=e;have:=HWN.out;omega));have HO4:=Lib.hid (HO1.out.other HU2.out (fun g hg e=>by have:=HOB.out g hg;have e':g=N:=e;omega));clear HB2 HU2 HAT1 HU1 HO1 hj hlt2 HM;generalize moveOf pm=mv at *;obtain ⟨g,cap2,w3,r3,o3,v3,_⟩:=HO4.out.app1 HU4.out.size mv (by rw [HLN.out];omega);rw [HLN.out] at r3 o3;rw [←HTK.out] at o3;have O3:=Lib.hid o3;have HU5:=Lib.hid (HU4.out.then v3 (fun i hi e=>absurd hi (by have:=(HO4.out.blk e).1;omega)));have hlt11:=Lib.hid hlt;obtain ⟨⟨a0,a1,a2⟩,⟨a3,a4,a5⟩⟩:=mv;have R3:=Lib.hid r3;clear r3 o3 v3;have HB5:wr.heap[N]?=some (.cells #[.int .i64 a0,.int .i64 a1,.int .i64 a2,.int .i64 a3,.int .i64 a4,.int .i64 a5] 142 (0,0)):=HB3.out;obtain ⟨⟨f0,f1,f2,f3,f4,f5⟩,_⟩:=cellsF6 HB5;clear HB5;go_wp2_with (at_builtin;refine wpList_append_run rfl _ _ _ rfl rfl rfl R3.out ?_)
      exact ⟨⟨k+1,by push_cast;rfl,hlt11.out,hlt10,O3.out,HU5.out⟩,by simp only [intOf];have:=hlt11.out;omega⟩
   ·obtain rfl:k=10:=by omega
    go_wp2_with fail
    go_ret
    exact ⟨_,rfl,HO.out,HU.out⟩
  ·obtain rfl:k=l.length:=by omega
   have HTK:Hid (l.take 10=l.take l.length):=by
    show _=_;rw [List.take_length,List.take_of_length_le hk10]
   go_wp2_with fail
   go_ret
   exact ⟨_,rfl,by rw [HTK.out];exact HO.out,HU.out⟩
end Go.Proofs.YtcikldoaidmnhaaGreatDoor
namespace Go.Proofs.YtcikldoaidmnhaaGreatDoor
open Go Go.RowKit Pk
set_option maxRecDepth 100000
theorem StepB.part {s s1 s2:Bytes} {b1 b2:Bool} {c m:Bytes} (h1:StepB (takeR 32) s false c s1 b1) (h2:StepB (takeR 32) s1 b1 m s2 b2):StepB partR s false (c,m) s2 b2:=by
 rcases h1 with ⟨rfl,h1 | h1⟩ | ⟨rfl,_,h1⟩
 ·cases h1
 ·have:b2=true:=by
   rcases h2 with ⟨h,_⟩ | ⟨_,h,_⟩
   ·exact h
   ·cases h
  subst this;exact .none (.inr (by unfold partR;rw [h1]))
 ·rcases h2 with ⟨rfl,h2 | h2⟩ | ⟨rfl,_,h2⟩
  ·cases h2
  ·exact .none (.inr (by unfold partR;rw [h1];simp only;rw [h2]))
  ·exact .some (by unfold partR;rw [h1];simp only;rw [h2])
theorem StepB.many {α:Type} {one:Bytes→Option (α × Bytes)} {s0 s1 s2:Bytes} {bad b1 b2:Bool} {n k:Nat} {l:List α} (hc:StepB countR s0 bad n s1 b1) (hl:(b1=true∧b2=true)∨(b1=false∧LoopB one n s1 k l s2 b2∧(b2=false→n≤k))):StepB (manyR one) s0 bad l s2 b2:=by
 rcases hl with ⟨rfl,rfl⟩ | ⟨rfl,h,hk⟩
 ·rcases hc with ⟨_,h | h⟩ | ⟨h,_⟩
  ·exact .none (.inl h)
  ·exact .none (.inr (by rw [manyR_count,h]))
  ·cases h
 ·rcases hc with ⟨h,_⟩ | ⟨_,rfl,hc⟩
  ·cases h
  ·exact h.done hk hc
def manyJ {α β:Type} (K:Kd Tryz.prog α) (f:α→β) (one:Bytes→Option (β × Bytes)) (b:Nat) (s:Bytes) (bad:Bool) (w:World) (en:Ending) (w':World):Prop:=∃(v:Value) (l:List α) (s':Bytes) (bad':Bool),en=.returned v∧K.Own w.heap.size w' v l∧RdJ w' b s' bad'∧StepB (manyR one) s bad (l.map f) s' bad'∧l.length≤65536∧Upd (fun k=>k=b) w w'
set_option maxHeartbeats 4000000 in
theorem jPartsR_any (b:Nat) (s:Bytes) (bad:Bool) (w:World) (h:RdJ w b s bad):Calls Tryz.prog 87 #[.pointer (some ⟨b,0,none⟩)] w fun en w'=>manyJ kPart plainP partR b s bad w en w':=by
 have HC:=Lib.hid (jCount_any b s bad w h);have HH:=fun s bad W hW=>Lib.hid (jHashR_any b s bad W hW);have HBB:Hid (b<w.heap.size):=lt_of_heap h;clear h;go_enter Tryz.func87,Tryz.ntmps87
 go_wp2_with fail
 refine HC.out.mono ?_;rintro e w2 ⟨n,s1,b1,rfl,hr,hs,hn,hu⟩;have HU2:=Lib.hid hu;have HR2:=Lib.hid hr;have HSC:=Lib.hid hs;have HN:Hid (n≤65536):=hn;have hnI:(n:Int)≤65536:=by omega
 have HB2:Hid (b<w2.heap.size):=lt_of_heap hr;clear hr hs hu hn HC;go_wp2_with fail
 go_loopw [3,5] (fun o i wr=>∃(k:Nat) (l:List P32) (s':Bytes) (b':Bool),i=.int .i64 k∧l.length=k∧k≤n∧kPart.Own w.heap.size wr o l∧RdJ wr b s' b'∧((b1=true∧b'=true)∨(b1=false∧LoopB partR n s1 k (l.map plainP) s' b'))∧Upd (fun k=>k=b) w wr) (fun _ i _=>n-(intOf i).toNat)
 case atStart=>
  refine ⟨0,[],s1,b1,rfl,rfl,Nat.zero_le _,Kd.Own.nil _ _ _,HR2.out,?_,HU2.out⟩;cases b1 with
  | true=>exact .inl ⟨rfl,rfl⟩
  | false=>exact .inr ⟨rfl,LoopB.start _ _ _⟩
 case round=>
  obtain ⟨k,l,s',b',rfl,hlk,hk,ho,hr,hlp,hu⟩:=hrel;have HO:=Lib.hid ho;have HR:=Lib.hid hr;have HLP:=Lib.hid hlp;have HU:=Lib.hid hu;have HLK:Hid (l.length=k):=hlk;obtain ⟨Ao,co,rfl,_⟩:=ho.form;clear ho hr hlp hu;obtain ⟨⟨c0,c1⟩,_⟩:=cellF2 (show wr.heap[b]?=some (.cells #[.string (bs s'),.bool b'] 147 (0,0)) from HR.out);by_cases hlt:k<n∧b'=false
  ·obtain ⟨hkn,rfl⟩:=hlt;have hkn':(k:Int)<(n:Int):=by omega
   have HK:Hid (k<n):=hkn;have hkw:IntKind.i64.wrap ((k:Int)+1)=(k:Int)+1:=by rw [IntKind.wrap_i64];omega
   have H1:=HH s' false wr HR.out;have hlk2:l.length=k:=hlk;rw [hlk2] at HO;rw [hlk2];clear hk hkn hlk hlk2;go_wp2_with fail
   refine H1.out.mono ?_;rintro e w3 ⟨h1,s2,b2,rfl,hr2,hs2,hu2⟩;have HR3:=Lib.hid hr2;have HS3:=Lib.hid hs2;have HU3:=Lib.hid hu2;clear hr2 hs2 hu2 H1 c0 c1 HR;have hl1:=hashC_len h1;have HU3B:=HBB.out;obtain ⟨X,hst,hx1,hx2⟩:=store_row (P:=Tryz.prog) (heap_alloc_new w3 (.cells #[.int .u8 0,.int .u8 0,.int .u8 0,.int .u8 0,.int .u8 0,.int .u8 0,.int .u8 0,.int .u8 0,.int .u8 0,.int .u8 0,.int .u8 0,.int .u8 0,.int .u8 0,.int .u8 0,.int .u8 0,.int .u8 0,.int .u8 0,.int .u8 0,.int .u8 0,.int .u8 0,.int .u8 0,.int .u8 0,.int .u8 0,.int .u8 0,.int .u8 0,.int .u8 0,.int .u8 0,.int .u8 0,.int .u8 0,.int .u8 0,.int .u8 0,.int .u8 0] 81)) (vs:=hashC h1) (by rw [hl1];rfl) (byV_one _);have HX1:=Lib.hid hx1;have HXU:Hid (Upd noBlk w3 X):=by show Upd _ _ _;exact ((Upd.refl noBlk w3).alloc (.cells #[.int .u8 0,.int .u8 0,.int .u8 0,.int .u8 0,.int .u8 0,.int .u8 0,.int .u8 0,.int .u8 0,.int .u8 0,.int .u8 0,.int .u8 0,.int .u8 0,.int .u8 0,.int .u8 0,.int .u8 0,.int .u8 0,.int .u8 0,.int .u8 0,.int .u8 0,.int .u8 0,.int .u8 0,.int .u8 0,.int .u8 0,.int .u8 0,.int .u8 0,.int .u8 0,.int .u8 0,.int .u8 0,.int .u8 0,.int .u8 0,.int .u8 0,.int .u8 0] 81)).then hx2 (fun i hi e=>by have e':i=w3.heap.size:=e;omega)
   have H2:=HH s2 b2 X (HXU.out.heap HR3.out id);clear hx1 hx2;go_upto_region 7 with fail
   clear hst HU3B hl1;have HC6:Hid (b<w3.heap.size∧w.heap.size≤w3.heap.size):=⟨lt_of_heap HR3.out,Nat.le_trans HU.out.size HU3.out.size⟩;have HUX:Hid (Upd (fun k=>k=b) wr X):=by show Upd _ _ _;exact HU3.out.trans (HXU.out.mono (fun _ _ h=>h.elim))
   clear HXU HR3 HU3;generalize w3.heap.size=c6 at *;go_wp2_with fail
   refine H2.out.mono ?_;rintro e w4 ⟨h2,s3,b3,rfl,hr3,hs3,hu3⟩;have HR4:=Lib.hid hr3;have HS4:=Lib.hid hs3;have HX4:=Lib.hid (hu3.heap HX1.out (by have:=HC6.out;omega));have HU4:Hid (Upd (fun k=>k=b) wr w4):=by show Upd _ _ _;exact HUX.out.trans hu3
   clear hr3 hs3 hu3 H2 HX1 HUX;have hl2:=hashC_len h2;have hc64:=lt_of_heap HX4.out;obtain ⟨Y,hst,hy1,hy2⟩:=store_row (P:=Tryz.prog) (heap_alloc_new w4 (.cells #[.int .u8 0,.int .u8 0,.int .u8 0,.int .u8 0,.int .u8 0,.int .u8 0,.int .u8 0,.int .u8 0,.int .u8 0,.int .u8 0,.int .u8 0,.int .u8 0,.int .u8 0,.int .u8 0,.int .u8 0,.int .u8 0,.int .u8 0,.int .u8 0,.int .u8 0,.int .u8 0,.int .u8 0,.int .u8 0,.int .u8 0,.int .u8 0,.int .u8 0,.int .u8 0,.int .u8 0,.int .u8 0,.int .u8 0,.int .u8 0,.int .u8 0,.int .u8 0] 81)) (vs:=hashC h2) (by rw [hl2];rfl) (byV_one _);have HYU:Hid (Upd noBlk w4 Y):=by show Upd _ _ _;exact ((Upd.refl noBlk w4).alloc (.cells #[.int .u8 0,.int .u8 0,.int .u8 0,.int .u8 0,.int .u8 0,.int .u8 0,.int .u8 0,.int .u8 0,.int .u8 0,.int .u8 0,.int .u8 0,.int .u8 0,.int .u8 0,.int .u8 0,.int .u8 0,.int .u8 0,.int .u8 0,.int .u8 0,.int .u8 0,.int .u8 0,.int .u8 0,.int .u8 0,.int .u8 0,.int .u8 0,.int .u8 0,.int .u8 0,.int .u8 0,.int .u8 0,.int .u8 0,.int .u8 0,.int .u8 0,.int .u8 0] 81)).then hy2 (fun i hi e=>by have e':i=w4.heap.size:=e;omega)
   have HRA6:Hid (Y.rangeAt c6 0 (hashC h1)):=fun j v hv=>by
    rw [Nat.zero_add,cell_of_row _ _ j _ 81 (0,0) (HYU.out.heap HX4.out id)];simpa using hv
   have HRA7:Hid (Y.rangeAt w4.heap.size 0 (hashC h2)):=fun j v hv=>by
    rw [Nat.zero_add,cell_of_row _ _ j _ 81 (0,0) hy1];simpa using hv
   have HRY:=Lib.hid (HYU.out.heap HR4.out id);have HUY:Hid (Upd (fun k=>k=b) wr Y):=by show Upd _ _ _;exact HU4.out.trans (HYU.out.mono (fun _ _ h=>h.elim))
   clear hy1 hy2;go_upto_region 8 with fail
   clear hst hl2 hc64 HYU HR4 HU4 HX4 HC6;generalize w4.heap.size=c7 at *;have HI:Hid (∀h:H32,(Tryz.prog.info? 81).map (·.size)=some (hashC h).length):=fun h=>by rw [hashC_len];kernel_rfl
   have HSZ:Hid ((sizeOf 83).run Tryz.prog Y=.ok 64 Y):=by show _=_;kernel_rfl
   have HZ:Hid ((zeroValue 83).run Tryz.prog Y=.ok (.agg (Array.replicate 64 (.int .u8 0))) Y):=by show _=_;kernel_rfl
   have HOY:Hid (kPart.Own w.heap.size Y (.slice Ao k co) l):=Kd.Own.other HO.out HUY.out (fun g hg e=>by have h1:=(Kd.Own.blk HO.out hg).1;have e':g=b:=e;have:=HBB.out;omega);obtain ⟨g,cap3,z3,r3,o3,v3,_⟩:=HOY.out.app1 (Nat.le_trans HU.out.size HUY.out.size) (h1,h2) (by have:=HN.out;have:=HK.out;have:=HLK.out;omega);rw [HLK.out] at r3 o3;have R3:=Lib.hid r3;have O3:=Lib.hid o3;have HU5:Hid (Upd (fun k=>k=b) w z3):=by
    show Upd _ _ _;exact (HU.out.trans HUY.out).then v3 (fun i hi e=>absurd hi (by have:=(HOY.out.blk e).1;omega))
   have HR5:Hid (RdJ z3 b s3 b3):=v3.heap HRY.out (fun e=>by have:=(HOY.out.blk e).1;have:=HBB.out;omega);have HLK2:Hid ((l++[(h1,h2)]).length=k+1):=by show _=_;rw [List.length_append,HLK.out];rfl
   have HLP2:Hid ((b1=true∧b3=true)∨(b1=false∧LoopB partR n s1 (k+1) ((l++[(h1,h2)]).map plainP) s3 b3)):=by
    rcases HLP.out with ⟨_,h⟩ | ⟨hb,hl⟩
    ·cases h
    ·refine .inr ⟨hb,?_⟩;rw [List.map_append];exact LoopB.step HK.out hl (StepB.part HS3.out HS4.out)
   clear r3 o3 v3 HLP HS3 HS4 HLK HOY HUY HO HRY;go_wp2_with (first | (refine wpList_load_mid rfl _ _ rfl c6 0 rfl (hashC h1) _ HRA6.out Tryz.underlying81 rfl (HI.out h1) ?_) | (refine wpList_load_mid rfl _ _ rfl c7 0 rfl (hashC h2) _ HRA7.out Tryz.underlying81 rfl (HI.out h2) ?_) | (refine wpList_val rfl (.agg (partC (h1,h2)).toArray) Y (exec_build_part h1 h2 Y _ _ rfl rfl rfl) ?_) | (refine wpList_val rfl _ _ (exec_build1 Y (.tmp 29) (partC (h1,h2)) Tryz.underlying47 HSZ.out HZ.out (by decide) (by decide) (partC_len _) rfl rfl) ?_) | (at_builtin;refine wpList_append_run rfl _ _ _ rfl rfl rfl R3.out ?_))
   exact ⟨⟨k+1,l++[(h1,h2)],s3,b3,by push_cast;rfl,HLK2.out,HK.out,O3.out,HR5.out,HLP2.out,HU5.out⟩,by simp only [intOf];have:=HK.out;omega⟩
  ·have HPO:Hid (manyJ kPart plainP partR b s bad w (.returned (.slice Ao k co)) wr):=by
    refine ⟨_,l,s',b',rfl,by have h:=HO.out;rw [HLK.out] at h;exact h,HR.out,?_,by rw [HLK.out];have:=HN.out;omega,HU.out⟩;refine StepB.many (n:=n) (k:=k) HSC.out ?_;rcases HLP.out with h | ⟨h1,h2⟩
    ·exact .inl h
    ·refine .inr ⟨h1,h2,fun e=>?_⟩;rw [Decidable.not_and_iff_or_not] at hlt;rcases hlt with h | h
     ·omega
     ·exact absurd e h
   by_cases hkn:k<n
   ·have hkn':(k:Int)<(n:Int):=by omega
    obtain rfl:b'=true:=by cases b' with
     | true=>rfl
     | false=>exact absurd ⟨hkn,rfl⟩ hlt
    clear hlt;go_wp2_with fail
    go_ret
    exact HPO.out
   ·have hkn':¬(k:Int)<(n:Int):=by omega
    clear hlt;go_wp2_with fail
    go_ret
    exact HPO.out
end Go.Proofs.YtcikldoaidmnhaaGreatDoor
namespace Go.Proofs.YtcikldoaidmnhaaGreatDoor
open Go Go.RowKit Pk
set_option maxRecDepth 100000
theorem p32_plain' (l:List P32):(l.map plainP).map p32=l:=by
 rw [List.map_map];have:l.map (p32 ∘ plainP)=l.map id:=List.map_congr_left (fun p _=>by
  show p32 (plainP p)=p;unfold p32 plainP;rw [h32_mk p.1.2,h32_mk p.2.2])
 rw [this,List.map_id]
set_option maxHeartbeats 2000000 in
theorem jOpenRoot_any (s:Bytes) (w:World):Calls Tryz.prog 38 #[.string (bs s)] w fun en w'=>rootQ (rootR s) w en w':=by
 have HX:Hid ((w.alloc (.cells #[.slice none 0 0] 50)).heap[w.heap.size]?=some (.cells #[.slice none 0 0] 50 (0,0))):=heap_alloc_new w _;have HU0:Hid (Upd noBlk w (w.alloc (.cells #[.slice none 0 0] 50))):=(Upd.refl _ w).alloc _;obtain ⟨tgt,htgt⟩:∃t,t=rootR s:=⟨_,rfl⟩;rw [←htgt];have HT:=Lib.hid htgt;have HPR:=fun b s W hW=>Lib.hid (jPartsR_any b s false W hW);clear htgt;go_enter Tryz.func38,Tryz.ntmps38
 go_upto_region 1 with fail
 obtain ⟨xb,hxb⟩:∃xb,xb=w.heap.size:=⟨_,rfl⟩;have HXB:Hid (w.heap.size≤xb):=by show _≤_;omega
 rw [←hxb] at HX;rw [←hxb];clear hxb;generalize w.alloc (.cells #[.slice none 0 0] 50)=w1 at *;obtain ⟨_,hfx⟩:=cellF1 HX.out;have HEND:Hid (∀W:World,Upd noBlk w1 W→tgt=none→rootQ tgt w (.returned (.tuple #[.agg #[.slice none 0 0],.int .i64 13])) (W.setCell ⟨xb,0,none⟩ (.slice none 0 0))):=fun W hW ht=>by
  rw [ht];exact ⟨upd_newE (HU0.out.trans hW) ((Upd.refl (fun k=>k=xb) _).setCell (p:=⟨xb,0,none⟩) (fun _=>rfl) _) HXB.out,rfl⟩
 cases s with
 | nil=>
  have HTN:Hid (tgt=none):=HT.out;have hz:(((bs []).size:Nat):Int)=0:=rfl;clear HT HPR;go_wp2_with fail
  have HZ:=heap_setCell_eq (i:=0) (.slice none 0 0) HX.out
  (try simp only [Exit.inBlock,Exit.then])
  refine bodyPost_ret (results_cell_tmp1 rfl _ rfl (load_root HZ)) rfl ?_;exact HEND.out _ (Upd.refl _ _) HTN.out
 | cons c r=>
  have hz:0<(bs (c :: r)).size:=by rw [bs_size];simp
  have h0:((bs (c :: r))[0]'hz).toNat=c.toNat:=rfl;have hsz:¬(((bs (c :: r)).size:Nat):Int)=0:=by omega
  have hs1:(1:Int)≤(((bs (c :: r)).size:Nat):Int):=by omega
  have hx:(bs (c :: r)).extract 1 (bs (c :: r)).size=bs r:=by rw [bs_extract,bs_size];simp
  have hnz:¬bs (c :: r)=ByteArray.empty:=fun h=>by rw [h] at hz;cases hz
  have hcc:c=3↔c.toNat=3:=⟨fun e=>by rw [e];rfl,fun e=>by rw [←UInt8.toNat_inj,e];rfl⟩;by_cases hc:c.toNat=3
  ·have HT2:Hid (tgt=match manyR partR r with | none=>none | some (l,_)=>if rootB l=c :: r then some l else none):=by
    show _=_;rw [HT.out];unfold rootR;simp only;rw [if_neg (by rw [ne_eq,hcc];omega)];cases manyR partR r with
    | none=>rfl
    | some x=>rfl
   clear HT hcc;have HRJ:Hid (RdJ (w1.alloc (.cells #[.string (bs r),.bool false] 147)) w1.heap.size r false):=heap_alloc_new w1 _;have hal:Upd noBlk w1 (w1.alloc (.cells #[.string (bs r),.bool false] 147)):=(Upd.refl _ w1).alloc _;have HU1:=Lib.hid hal;have HX1:=Lib.hid (hal.heap HX.out id);have HXL:Hid (xb<w1.heap.size):=lt_of_heap HX.out;have HXM:=Lib.hid HXL.out;clear hal;go_upto_region 4 with fail
   generalize w1.alloc (.cells #[.string (bs r),.bool false] 147)=w2 at *;obtain ⟨jb,hjb⟩:∃jb,jb=w1.heap.size:=⟨_,rfl⟩;rw [←hjb] at HRJ HXL ⊢;have HJB:Hid (w1.heap.size≤jb):=by show _≤_;omega
   clear hjb hfx h0 hz hx hs1 hsz hc;have HP2:=HPR jb r w2 HRJ.out;clear HPR;go_wp2_with fail
   refine HP2.out.mono ?_;rintro e w3 ⟨v,l,s',bad',rfl,ho,hr,hs,hl,hu⟩;obtain ⟨A,cap,rfl,_⟩:=ho.form;have hal:Upd noBlk w3 (w3.alloc (.cells #[.slice A l.length cap] 50)):=(Upd.refl _ w3).alloc _;have HO:=Lib.hid (ho.upd hal);have HR:=Lib.hid (Upd.heap hal hr id);have HS:=Lib.hid hs;have HL:Hid (l.length≤65536):=hl;have HT3:Hid ((w3.alloc (.cells #[.slice A l.length cap] 50)).heap[w3.heap.size]?=some (.cells #[.slice A l.length cap] 50 (0,0))):=heap_alloc_new w3 _;have HX3:=Lib.hid (hal.heap (hu.heap HX1.out (by have:=HXL.out;omega)) id);have HU3:Hid (Upd noBlk w1 (w3.alloc (.cells #[.slice A l.length cap] 50))):=by
    show Upd _ _ _;exact (upd_newE HU1.out hu HJB.out).trans hal
   have HB2:=Lib.hid (Upd.size HU1.out);clear ho hr hs hl hu hal HP2 HX1 HRJ HU1;go_upto_region 5 with fail
   generalize w3.alloc (.cells #[.slice A l.length cap] 50)=w4 at *;generalize w3.heap.size=tb at *;obtain ⟨⟨c0,c1⟩,_⟩:=cellF2 (show w4.heap[jb]?=some (.cells #[.string (bs s'),.bool bad'] 147 (0,0)) from HR.out);obtain ⟨ht0,_⟩:=cellF1 HT3.out;obtain ⟨_,hfx⟩:=cellF1 HX3.out;cases bad' with
   | true=>
    have HTN:Hid (tgt=none):=by
     show _=_;rw [HT2.out];rcases HS.out with ⟨_,h | h⟩ | ⟨h,_⟩
     ·cases h
     ·rw [h]
     ·cases h
    clear HT2 HS;go_wp2_with fail
    have HZ:=heap_setCell_eq (i:=0) (.slice none 0 0) HX3.out
    (try simp only [Exit.inBlock,Exit.then])
    refine bodyPost_ret (results_cell_tmp1 rfl _ rfl (load_root HZ)) rfl ?_;exact HEND.out _ HU3.out HTN.out
   | false=>
    have HTS:Hid (tgt=if rootB (l.map plainP)=c :: r then some (l.map plainP) else none):=by
     show _=_;rw [HT2.out];rcases HS.out with ⟨h,_⟩ | ⟨_,_,h⟩
     ·cases h
     ·rw [h]
    have hro:=jRoot_any (.slice A l.length cap) l w4 HO.out.rd;rw [if_neg (by have:=HL.out;omega)] at hro;have HRO:=Lib.hid hro;clear hro HT2 HS;by_cases hc:rootB (l.map plainP)=c :: r
    ·have HTN:Hid (tgt=some (l.map plainP)):=by show _=_;rw [HTS.out];exact if_pos hc
     rw [hc] at HRO;have hss:((bs (c :: r)).toList == (bs (c :: r)).toList)=true:=by simp
     clear HTS hc;go_wp2_with fail
     refine HRO.out.mono ?_;rintro e w5 ⟨rfl,u5⟩;have HX5:=Lib.hid (u5.heap HX3.out id);have HT5:=Lib.hid (u5.heap HT3.out id);have HO5:=Lib.hid (HO.out.upd u5);have HU5:=Lib.hid (HU3.out.trans u5);clear u5 hfx ht0 HRO c0 c1;obtain ⟨_,hfx⟩:=cellF1 HX5.out;obtain ⟨ht0,_⟩:=cellF1 HT5.out;go_wp2_with fail
     have HZ:=heap_setCell_eq (i:=0) (.slice A l.length cap) HX5.out;have hset:=(Upd.refl (fun k=>k=xb) w5).setCell (p:=⟨xb,0,none⟩) (fun _=>rfl) (.slice A l.length cap)
     (try simp only [Exit.inBlock,Exit.then])
     refine bodyPost_ret (results_cell_tmp1 rfl _ rfl (load_root HZ)) rfl ?_;rw [HTN.out];have ho:=Kd.Own.other HO5.out hset (fun g hg e=>by have h1:=(Kd.Own.blk HO5.out hg).1;have:=HXM.out;have:=HB2.out;have e':g=xb:=e;omega);refine ⟨upd_newE (HU0.out.trans HU5.out) hset HXB.out,_,rfl,?_⟩;rw [p32_plain'];exact ho.mono (Nat.le_trans HU0.out.size HB2.out)
    ·have HTN:Hid (tgt=none):=by show _=_;rw [HTS.out];exact if_neg hc
     have hne:((bs (rootB (l.map plainP))).toList == (bs (c :: r)).toList)=false:=by
      rw [beq_eq_false_iff_ne,bs_toList,bs_toList];exact hc
     clear HTS hc;go_wp2_with fail
     refine HRO.out.mono ?_;rintro e w5 ⟨rfl,u5⟩;have HX5:=Lib.hid (u5.heap HX3.out id);have HU5:=Lib.hid (HU3.out.trans u5);clear u5 hfx ht0 HRO c0 c1;obtain ⟨_,hfx⟩:=cellF1 HX5.out;go_wp2_with fail
     have HZ:=heap_setCell_eq (i:=0) (.slice none 0 0) HX5.out
     (try simp only [Exit.inBlock,Exit.then])
     refine bodyPost_ret (results_cell_tmp1 rfl _ rfl (load_root HZ)) rfl ?_;exact HEND.out _ HU5.out HTN.out
  ·have HTN:Hid (tgt=none):=by
    show _=_;rw [HT.out];unfold rootR;simp only;rw [if_pos (by rw [ne_eq,hcc];exact hc)]
   have hc':¬(c.toNat:Int)=3:=by omega
   have hne3:((c.toNat:Int) != 3)=true:=by simpa using hc'
   clear HT HPR hcc;go_wp2_with fail
   have HZ:=heap_setCell_eq (i:=0) (.slice none 0 0) HX.out
   (try simp only [Exit.inBlock,Exit.then])
   refine bodyPost_ret (results_cell_tmp1 rfl _ rfl (load_root HZ)) rfl ?_;exact HEND.out _ (Upd.refl _ _) HTN.out
end Go.Proofs.YtcikldoaidmnhaaGreatDoor
