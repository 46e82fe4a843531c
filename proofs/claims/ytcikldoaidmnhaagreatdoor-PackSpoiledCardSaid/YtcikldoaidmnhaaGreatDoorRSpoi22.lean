/- Parts: Walks of the packets' program: Root. No condition. Walks of the reference of packets: a string is spoiled. No condition. -/
import Derived.Test.YtcikldoaidmnhaaGreatDoorRSpoi1
import Derived.Test.YtcikldoaidmnhaaGreatDoorRSpoi2
import Derived.Test.YtcikldoaidmnhaaGreatDoorRSpoi4
import Derived.Test.YtcikldoaidmnhaaGreatDoorRSpoi5
import Derived.Test.YtcikldoaidmnhaaGreatDoorRSpoi6
import Derived.Test.YtcikldoaidmnhaaGreatDoorRSpoi7
import Derived.Test.YtcikldoaidmnhaaGreatDoorRSpoi12
import Derived.Test.YtcikldoaidmnhaaGreatDoorRSpoi13
import Derived.Test.YtcikldoaidmnhaaGreatDoorRSpoi17
import Derived.Test.YtcikldoaidmnhaaGreatDoorRSpoi18
import Derived.Test.YtcikldoaidmnhaaGreatDoorRSpoi19
import Derived.WalkKit
import Derived.WalkSpells
import Derived.WalkLawsBesides
import Derived.Lib.Hide
import Derived.BigQuiet
import Derived.Deep.DeepFit
import Derived.Deep.DeepCutAuto
import Derived.Deep.AppendLies
import Derived.Deep.QuietTactic
import Derived.Test.YtcikldoaidmnhaaGreatDoorRows
import Derived.Deep.RegionHeld3
import Derived.StillTail
import Derived.Maps.OwnOps
import Derived.Maps.OwnSet
import Derived.Maps.RangeWalk
import Derived.WideKeyEntry
import Derived.Deep.MidRow
import Derived.Lib.Bits
import Derived.Laws.EntriesVeiled
import Derived.Handy
import Derived.DeepKeys4
import Derived.ArgAppend
import Derived.Deep.Upon
import Derived.Deep.CutBlock
import Derived.Test.YtcikldoaidmnhaaGreatDoorShelf2
import Derived.Laws.BitsAllLaws
import Derived.Laws.BytesArg
import Derived.Deep.WholeRow
namespace Go.Proofs.YtcikldoaidmnhaaGreatDoor
open Go Go.RowKit Pk
set_option maxRecDepth 100000
theorem cells1 {w:World} {b:Nat} {x0:Value} {t:TypeId} {fr:Nat × Nat} (h:w.heap[b]?=some (.cells #[x0] t fr)):w.cell? ⟨b,0,none⟩=some x0:=by simp [World.cell?,h]
theorem conv_one (x:UInt8) (bl:Nat) (W:World) (hb:W.heap[bl]?=some (.cells #[.int .u8 x.toNat] 5 (0,0))):(convert 41 9 (.slice (some ⟨bl,0,none⟩) 1 1)).run Tryz.prog W=.ok (.string (bs [x])) W:=by
 have ho:W.ownsRow 0 5 1 (.slice (some ⟨bl,0,none⟩) 1 1) 1 (byV [x]):=⟨rfl,.inr ⟨bl,1,_,rfl,Nat.zero_le _,hb,Nat.le_refl _,by unfold maxLen;omega,rfl,rfl⟩⟩;exact conv_bs rfl ho
theorem flat_parts_len (q:List P32):((q.map plainP).flatMap (fun p=>p.1++p.2)).length=q.length*64:=by
 induction q with
 | nil=>rfl
 | cons p q ih=>rw [List.map_cons,List.flatMap_cons,List.length_append,ih];simp [plainP,p.1.2,p.2.2];omega
theorem partsB_len (l:List P32) (hl:l.length≤65536):(partsB (l.map plainP)).length≤10+l.length*64:=by
 unfold partsB;rw [List.length_append,flat_parts_len,List.length_map];have:=digB_ten (n:=l.length) (by omega);omega
set_option maxHeartbeats 2000000 in
theorem Root_any (v:Value) (l:List P32) (w:World) (h:kPart.Rd w v l):Calls Tryz.prog 25 #[.agg #[v]] w fun en w'=>strR (if 65536<l.length then [] else rootB (l.map plainP)) w en w':=by
 have HPA:Hid (∀W,l.length≤65536→Upd noBlk w W→Calls Tryz.prog 73 #[v] W fun en w'=>strR (partsB (l.map plainP)) W en w'):=fun W hl hW=>parts_any v l hl W (h.keep hW);obtain ⟨A,cap,rfl,hcap,hx⟩:=h;clear hx;go_enter Tryz.func25,Tryz.ntmps25
 have HU0:Hid (Upd noBlk w (w.alloc (.cells #[.slice A l.length cap] 50))):=(Upd.refl _ w).alloc _;by_cases hl:65536<l.length
 ·have hl':(65536:Int)<(l.length:Int):=by omega
  rw [if_pos hl];clear HPA;go_wp2_with fail
  go_ret
  exact ⟨rfl,HU0.out⟩
 ·have hl':(l.length:Int)≤65536:=by omega
  rw [if_neg hl];go_wp2_with fail
  have HKB:Hid ((w.alloc (.cells #[.slice A l.length cap] 50)).heap[w.heap.size]?=some (.cells #[.slice A l.length cap] 50 (0,0))):=heap_alloc_last w _;have HFN:Hid (∀W,Upd noBlk (w.alloc (.cells #[.slice A l.length cap] 50)) W→Calls Tryz.prog 73 #[.slice A l.length cap] W fun en w'=>strR (partsB (l.map plainP)) W en w'):=fun W hW=>HPA.out W (by omega) (HU0.out.trans hW);have HSZ:Hid (¬9223372036854775807<(bs [3]).size+(bs (partsB (l.map plainP))).size):=by
   show ¬_;have:=partsB_len l (by omega);rw [bs_size,bs_size];simp only [List.length_cons,List.length_nil];omega
  have HSUM:Hid (bs [3]++bs (partsB (l.map plainP))=bs (rootB (l.map plainP))):=by show _=_;rw [bs_append];rfl
  have HCV:=Lib.hid (conv_one 3);clear hl hl' HPA;generalize w.heap.size=bb at *;generalize w.alloc (.cells #[.slice A l.length cap] 50)=wr at *;refine wp_region_tree 6 (OT.sures [2,3] (.fork 0 (.sure 1 (.run 4 (.sure 5 .nil))) 4 (.run 0 (.sure 1 (.sure 5 .nil))))) (fun w'=>Upd noBlk wr w') (by kernel_rfl) (by kernel_rfl) (fun c a d v w h=>by cases d<;>exact h) ((Upd.refl noBlk wr).drew) ?_
  simp only [OT.sures]
  iterate 2 (apply wpT_sure rfl rfl;focus (intro w' hw';have b0:=cells1 (hw'.heap HKB.out id);go_simp;rfl))
  refine wpT_fork (fun w'=>Upd noBlk wr w'∧w'.heap[wr.heap.size]?=some (.cells #[.int .u8 3] 5 (0,0))) (fun w'=>Upd noBlk wr w') (fun _ h=>h.1) (fun _ h=>h) rfl rfl (fun K' hK=>?_) (fun K' hK=>?_)
  ·go_simp
   have hal:Upd noBlk wr (wr.alloc (.cells #[.int .u8 3] 5)).drew:=((Upd.refl noBlk wr).alloc _).drew;have hbl:(wr.alloc (.cells #[.int .u8 3] 5)).drew.heap[wr.heap.size]?=some (.cells #[.int .u8 3] 5 (0,0)):=heap_alloc_new wr _;refine hK _ _ ⟨⟨hal,hbl⟩,?_⟩;clear hK K'
   (apply wpT_sure rfl rfl;focus (intro w' hw';have hc:=HCV.out wr.heap.size w' hw'.2;go_simp;rfl))
   refine wpT_run (fun w'=>Upd noBlk wr w'∧w'.heap[wr.heap.size]?=some (.cells #[.int .u8 3] 5 (0,0))) (fun _ h=>h) rfl (fun K' hK=>?_);go_simp
   refine (HFN.out _ hal).mono ?_;rintro e wz ⟨rfl,uz⟩;have UZ:=Lib.hid (HU0.out.trans (hal.trans uz));refine hK _ _ ⟨⟨hal.trans uz,uz.heap hbl id⟩,?_⟩;clear hK K' hal hbl uz
   (apply wpT_sure rfl rfl;focus (intro w' hw';have hz:=HSZ.out;go_simp;rfl))
   refine wpT_nil ?_;go_wp2_with fail
   go_ret
   exact ⟨by rw [←HSUM.out];rfl,UZ.out⟩
  ·go_simp
   have hdr:Upd noBlk wr wr.drew:=(Upd.refl noBlk wr).drew;refine (HFN.out _ hdr).mono ?_;rintro e wz ⟨rfl,uz⟩;have UZ:=Lib.hid (HU0.out.trans (hdr.trans uz));refine hK _ _ ⟨hdr.trans uz,?_⟩;have UZ2:=Lib.hid (hdr.trans uz);clear hK K' hdr uz;refine wpT_run (fun w'=>Upd noBlk wr w'∧w'.heap[wz.heap.size]?=some (.cells #[.int .u8 3] 5 (0,0))) (fun _ h=>h.1) rfl (fun K' hK=>?_);go_simp
   refine hK _ _ ⟨⟨UZ2.out.alloc _,heap_alloc_new wz _⟩,?_⟩;clear hK K'
   (apply wpT_sure rfl rfl;focus (intro w' hw';have hc:=HCV.out wz.heap.size w' hw'.2;go_simp;rfl))
   (apply wpT_sure rfl rfl;focus (intro w' hw';have hz:=HSZ.out;go_simp;rfl))
   refine wpT_nil ?_;go_wp2_with fail
   go_ret
   exact ⟨by rw [←HSUM.out];rfl,UZ.out.alloc _⟩
end Go.Proofs.YtcikldoaidmnhaaGreatDoor
namespace Go.Proofs.YtcikldoaidmnhaaGreatDoor
open Go Go.RowKit Pk
set_option maxRecDepth 100000
theorem modI_to (q:Int) {n:Nat} (h:0<n):∃k:Nat,modI q n=(k:Int)∧k<n:=by
 have:=modI_range (n:=q) (m:=(n:Int)) (by omega);exact ⟨(modI q n).toNat,by omega,by omega⟩
def spoilP (s:ByteArray) (w:World) (en:Ending) (w':World):Prop:=∃R:ByteArray,en=.returned (.string R)∧R.size≤s.size+1∧Upd noBlk w w'
set_option maxHeartbeats 2000000 in
theorem jSpoiled_any (s:ByteArray) (hs:s.size≤1000000) (q0 q1 q2:Int) (w:World):Calls Tryz.prog 22 #[.string s,.agg #[.int .i64 q0,.int .i64 q1,.int .i64 q2]] w fun en w'=>spoilP s w en w':=by
 have HS:Hid (s.size≤1000000):=hs;have hsI:(s.size:Int)≤1000000:=by omega
 obtain ⟨w1,hw1⟩:∃w1,w1=w.alloc (.cells #[.int .i64 q0,.int .i64 q1,.int .i64 q2] 24):=⟨_,rfl⟩;have HU1:Hid (Upd noBlk w w1):=by show Upd _ _ _;rw [hw1];exact (Upd.refl _ w).alloc _
 have HQ:Hid (w1.heap[w.heap.size]?=some (.cells #[.int .i64 q0,.int .i64 q1,.int .i64 q2] 24 (0,0))):=by show _=_;rw [hw1];exact heap_alloc_new w _
 obtain ⟨qb,hqb⟩:∃qb,qb=w.heap.size:=⟨_,rfl⟩;rw [←hqb] at HQ;clear hs;go_enter Tryz.func22,Tryz.ntmps22
 go_upto_region 1 with fail
 rw [←hw1,←hqb];clear hw1 hqb;rcases Nat.eq_zero_or_pos s.size with h0 | h0
 ·have h0I:(s.size:Int)=0:=by omega
  have HP:Hid (spoilP s w (.returned (.string s)) w1):=⟨s,rfl,Nat.le_succ _,HU1.out⟩;go_wp2_with fail
  go_ret
  exact HP.out
 ·have h0I:¬(s.size:Int)=0:=by omega
  have h0N:¬s.size=0:=by omega
  obtain ⟨k,hk,hkl⟩:=modI_to q1 h0;have HM1:=Lib.hid (hMod_any q1 (s.size:Int) (by omega) (by omega) w1);rw [hk] at HM1;have HM0:=fun W=>Lib.hid (hMod_any q0 6 (by omega) (by omega) W);obtain ⟨m,hm,hml⟩:=modI_to q0 (n:=6) (by omega);rw [show ((6:Nat):Int)=6 from rfl] at hm;rw [hm] at HM0;have HKL:Hid (k<s.size):=hkl;obtain ⟨⟨z0,z1,z2⟩,_⟩:=cellsF3 HQ.out;clear hk hm h0;go_wp2_with fail
  refine HM1.out.mono ?_;rintro e w1' ⟨rfl,rfl⟩;clear HM1;obtain ⟨x,hx⟩:∃x,x=UInt8.ofNat (q2 % 256).toNat:=⟨_,rfl⟩;have hxm:(x.toNat:Int)=q2 % 256:=by rw [hx,u8_small (by omega)];omega
  have hcv:=conv_one x w1'.heap.size (w1'.alloc (.cells #[.int .u8 (q2 % 256)] 5)) (by rw [hxm];exact heap_alloc_new w1' _);clear hx hxm;have HU2:=Lib.hid (HU1.out.alloc (.cells #[.int .u8 (q2 % 256)] 5));have HQ2:=Lib.hid (((Upd.refl noBlk w1').alloc (.cells #[.int .u8 (q2 % 256)] 5)).heap HQ.out id);go_upto_region 5 with fail
  clear hcv z0 z1 z2 HQ HU1;generalize w1'.alloc (.cells #[.int .u8 (q2 % 256)] 5)=w2 at *;have hk0:(0:Int)≤(k:Int):=by omega
  have hkI:(k:Int)≤(s.size:Int):=by omega
  have hk1:(k:Int)+1≤(s.size:Int):=by omega
  have hkw:IntKind.i64.wrap ((k:Int)+1)=(k:Int)+1:=wrapN (by omega) (by omega);have hbx:(bs [x]).size=1:=rfl;have e1:(s.extract 0 k).size=k:=by rw [ByteArray.size_extract];omega
  have e2:(s.extract (k+1) s.size).size=s.size-(k+1):=by rw [ByteArray.size_extract];omega
  have e3:(s.extract k s.size).size=s.size-k:=by rw [ByteArray.size_extract];omega
  obtain ⟨c,hc⟩:∃c,c=bs [x]:=⟨_,rfl⟩;rw [←hc] at hbx ⊢;clear hc;rcases (by omega:m=0∨m=1∨m=2∨m=3∨m=4∨m=5) with rfl | rfl | rfl | rfl | rfl | rfl
  ·obtain ⟨⟨z0,z1,z2⟩,_⟩:=cellsF3 HQ2.out;have HMW:=HM0 w2;clear HM0 hml;go_wp2_with fail
   refine HMW.out.mono ?_;rintro e w3 ⟨rfl,rfl⟩;clear HMW z0 z1 z2 HQ2;have s1:¬9223372036854775807<k+1:=by omega
   have s2:¬9223372036854775807<k+1+(s.size-(k+1)):=by omega
   go_wp2_with fail
   refine wp_region_tree 10 (OT.sures [0,1,2,3,4,5,6,7,8,9] .nil) (fun w'=>Gr w3 w') (by kernel_rfl) (by kernel_rfl) (fun c a d v w h=>by cases d<;>exact h) ((Gr.refl w3).drew) ?_
   simp only [OT.sures]
   iterate 10 (apply wpT_sure rfl rfl;focus (intro w' hw';go_simp;rfl))
   refine wpT_nil ?_;go_wp2_with fail
   go_ret
   exact ⟨_,rfl,by rw [ByteArray.size_append,ByteArray.size_append];omega,HU2.out.drew⟩
  ·obtain ⟨⟨z0,z1,z2⟩,_⟩:=cellsF3 HQ2.out;have HMW:=HM0 w2;clear HM0 hml;go_wp2_with fail
   refine HMW.out.mono ?_;rintro e w3 ⟨rfl,rfl⟩;clear HMW z0 z1 z2 HQ2;have s1:¬9223372036854775807<k+(s.size-(k+1)):=by omega
   go_wp2_with fail
   refine wp_region_tree 8 (OT.sures [0,1,2,3,4,5,6,7] .nil) (fun w'=>Gr w3 w') (by kernel_rfl) (by kernel_rfl) (fun c a d v w h=>by cases d<;>exact h) ((Gr.refl w3).drew) ?_
   simp only [OT.sures]
   iterate 8 (apply wpT_sure rfl rfl;focus (intro w' hw';go_simp;rfl))
   refine wpT_nil ?_;go_wp2_with fail
   go_ret
   exact ⟨_,rfl,by rw [ByteArray.size_append];omega,HU2.out.drew⟩
  ·obtain ⟨⟨z0,z1,z2⟩,_⟩:=cellsF3 HQ2.out;have HMW:=HM0 w2;clear HM0 hml;go_wp2_with fail
   refine HMW.out.mono ?_;rintro e w3 ⟨rfl,rfl⟩;clear HMW z0 z1 z2 HQ2;have s1:¬9223372036854775807<k+1:=by omega
   have s2:¬9223372036854775807<k+1+(s.size-k):=by omega
   go_wp2_with fail
   refine wp_region_tree 9 (OT.sures [0,1,2,3,4,5,6,7,8] .nil) (fun w'=>Gr w3 w') (by kernel_rfl) (by kernel_rfl) (fun c a d v w h=>by cases d<;>exact h) ((Gr.refl w3).drew) ?_
   simp only [OT.sures]
   iterate 9 (apply wpT_sure rfl rfl;focus (intro w' hw';go_simp;rfl))
   refine wpT_nil ?_;go_wp2_with fail
   go_ret
   exact ⟨_,rfl,by rw [ByteArray.size_append,ByteArray.size_append];omega,HU2.out.drew⟩
  ·obtain ⟨⟨z0,z1,z2⟩,_⟩:=cellsF3 HQ2.out;have HMW:=HM0 w2;clear HM0 hml;go_wp2_with fail
   refine HMW.out.mono ?_;rintro e w3 ⟨rfl,rfl⟩;clear HMW z0 z1 z2 HQ2;go_wp2_with fail
   go_ret
   exact ⟨_,rfl,by omega,HU2.out⟩
  ·obtain ⟨⟨z0,z1,z2⟩,_⟩:=cellsF3 HQ2.out;have HMW:=HM0 w2;clear HM0 hml;go_wp2_with fail
   refine HMW.out.mono ?_;rintro e w3 ⟨rfl,rfl⟩;clear HMW z0 z1 z2 HQ2;have s1:¬9223372036854775807<s.size+1:=by omega
   go_wp2_with fail
   go_ret
   exact ⟨_,rfl,by rw [ByteArray.size_append];omega,HU2.out⟩
  ·obtain ⟨⟨z0,z1,z2⟩,_⟩:=cellsF3 HQ2.out;have HMW:=HM0 w2;clear HM0 hml;go_wp2_with fail
   refine HMW.out.mono ?_;rintro e w3 ⟨rfl,rfl⟩;clear HMW z0 z1 z2 HQ2;go_wp2_with fail
   go_ret
   exact ⟨_,rfl,by omega,HU2.out⟩
end Go.Proofs.YtcikldoaidmnhaaGreatDoor
