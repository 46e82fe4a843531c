/- Parts: The examples of the document: every law of the packets begins with them. No condition. Walks of the reference's meshes: sorted, canonical, the same. No condition. -/
import Derived.Test.YtcikldoaidmnhaaGreatDoorRSpoi1
import Derived.Test.YtcikldoaidmnhaaGreatDoorRSpoi2
import Derived.Test.YtcikldoaidmnhaaGreatDoorRSpoi3
import Derived.Test.YtcikldoaidmnhaaGreatDoorRSpoi4
import Derived.Test.YtcikldoaidmnhaaGreatDoorRSpoi5
import Derived.Test.YtcikldoaidmnhaaGreatDoorRSpoi6
import Derived.Test.YtcikldoaidmnhaaGreatDoorRSpoi7
import Derived.Test.YtcikldoaidmnhaaGreatDoorRSpoi8
import Derived.Test.YtcikldoaidmnhaaGreatDoorRSpoi9
import Derived.Test.YtcikldoaidmnhaaGreatDoorRSpoi11
import Derived.Test.YtcikldoaidmnhaaGreatDoorRSpoi12
import Derived.Test.YtcikldoaidmnhaaGreatDoorRSpoi14
import Derived.Test.YtcikldoaidmnhaaGreatDoorRSpoi17
import Derived.Test.YtcikldoaidmnhaaGreatDoorRSpoi18
import Derived.Test.YtcikldoaidmnhaaGreatDoorRSpoi19
import Derived.Test.YtcikldoaidmnhaaGreatDoorRSpoi20
import Derived.Test.YtcikldoaidmnhaaGreatDoorRSpoi22
import Derived.Test.YtcikldoaidmnhaaGreatDoorRSpoi26
import Derived.Test.YtcikldoaidmnhaaGreatDoorRSpoi29
import Derived.Test.YtcikldoaidmnhaaGreatDoorRSpoi30
import Derived.Test.YtcikldoaidmnhaaGreatDoorRSpoi34
import Derived.Test.YtcikldoaidmnhaaGreatDoorRSpoi36
import Derived.Test.YtcikldoaidmnhaaGreatDoorRSpoi37
import Derived.Test.YtcikldoaidmnhaaGreatDoorRSpoi43
import Derived.Test.YtcikldoaidmnhaaGreatDoorRSpoi44
import Derived.WalkKit
import Derived.WalkSpells
import Derived.WalkLawsBesides
import Derived.Lib.Hide
import Derived.BigQuiet
import Derived.Deep.DeepFit
import Derived.Deep.DeepCutAuto
import Derived.Deep.AppendLies
import Derived.Deep.QuietTactic
import Derived.Lib.Bits
import Derived.Maps.OwnOps
import Derived.Maps.OwnSet
import Derived.Maps.RangeWalk
import Derived.WideKeyEntry
import Derived.Deep.MidRow
import Derived.Test.YtcikldoaidmnhaaGreatDoorRows
import Derived.Deep.RegionHeld3
import Derived.StillTail
import Derived.Laws.EntriesVeiled
import Derived.Handy
import Derived.DeepKeys4
import Derived.ArgAppend
import Derived.Deep.Upon
import Derived.Deep.CutBlock
import Derived.Test.YtcikldoaidmnhaaGreatDoorShelf2
import Derived.ChangeKeysEq
import Derived.Deep.AppendSrc
import Derived.Test.YtcikldoaidmnhaaGreatDoorShelf
import Derived.Laws.BitsAllLaws
import Derived.Lib.Zigzag
import Derived.Recover
import Derived.Deep.LoopGhost
import Derived.Laws.BytesArg
import Derived.Deep.WholeRow
import Derived.Laws.IdiomStrings
namespace Go.Proofs.YtcikldoaidmnhaaGreatDoor
open Go Go.RowKit Pk
set_option maxRecDepth 100000
set_option maxHeartbeats 2000000 in
theorem hSort_any:∀(n:Nat) (va:Value) (l:List Tri),l.length≤n→l.length≤1000000→∀w:World,kTri.Rd w va l →
  Calls Tryz.prog 69 #[va] w fun en w'=>∃v,en=.returned v∧kTri.Rd w' v (l.mergeSort triLe)∧Upd noBlk w w'
 | n,va,l,hn,hl,w,h=>by
  by_cases h2:l.length<2
  ·have hs:=sort_few l h2;rw [hs];have HR:=Lib.hid h;obtain ⟨A,cap,rfl,_,_⟩:=id h;have h2':(l.length:Int)<2:=by omega
   clear h hs h2 hl hn;go_enter Tryz.func69,Tryz.ntmps69
   go_wp2_with fail
   go_ret
   exact ⟨_,rfl,HR.out,Upd.refl _ _⟩
  ·obtain ⟨m,rfl⟩:∃m,n=m+1:=⟨n-1,by omega⟩;have hs:=sort_half l;obtain ⟨hf,hhf⟩:∃hf,hf=l.length / 2:=⟨_,rfl⟩;rw [←hhf] at hs;have HIH:=fun va l' hl' hl2 W hW=>Lib.hid (hSort_any m va l' hl' hl2 W hW);obtain ⟨M,hM⟩:∃M,M=l.mergeSort triLe:=⟨_,rfl⟩;rw [←hM] at hs;rw [←hM];have HS:=Lib.hid hs;obtain ⟨A,cap,rfl,hc,hx⟩:=h;obtain ⟨b,off,rfl,f1⟩:=hx (by omega);have hk9:kTri.k=9:=rfl;have HT:Hid (kTri.Rd w (.slice (some ⟨b,off,none⟩) hf cap) (l.take hf)):=by
    refine ⟨_,cap,by rw [List.length_take,Nat.min_eq_left (by omega)],by rw [List.length_take];omega,fun _=>⟨b,off,rfl,fun j hj=>?_⟩⟩;rw [List.getElem_take];exact f1 j (by rw [List.length_take] at hj;omega)
   have HD:Hid (kTri.Rd w (.slice (some ⟨b,off+hf*9,none⟩) (l.length-hf) (cap-hf)) (l.drop hf)):=by
    refine ⟨_,cap-hf,by rw [List.length_drop],by rw [List.length_drop];omega,fun _=>⟨b,off+hf*9,rfl,fun j hj=>?_⟩⟩;rw [List.getElem_drop];have h3:=f1 (hf+j) (by rw [List.length_drop] at hj;omega);rw [hk9] at h3 ⊢;rw [Nat.add_mul,←Nat.add_assoc] at h3;exact h3
   have H1:=HIH (.slice (some ⟨b,off,none⟩) hf cap) (l.take hf) (by rw [List.length_take];omega) (by rw [List.length_take];omega);have H2:=HIH (.slice (some ⟨b,off+hf*9,none⟩) (l.length-hf) (cap-hf)) (l.drop hf) (by rw [List.length_drop];omega) (by rw [List.length_drop];omega);have HMG:Hid (∀va vb W,kTri.Rd W va ((l.take hf).mergeSort triLe)→kTri.Rd W vb ((l.drop hf).mergeSort triLe)→Calls Tryz.prog 118 #[va,vb] W fun en w'=>∃v,en=.returned v∧kTri.Own W.heap.size w' v M∧Upd noBlk W w'):=fun va vb W h1 h2=>by
    have:=hMerge_any va vb _ _ (by rw [List.length_mergeSort,List.length_take];omega) (by rw [List.length_mergeSort,List.length_drop];omega) W h1 h2;rw [hs] at this;exact this
   have h2':¬(l.length:Int)<2:=by omega
   have hq:(l.length:Int).tdiv 2=(hf:Int):=by rw [Int.tdiv_eq_ediv_of_nonneg (by omega)];omega
   have hq2:wrap64 ((l.length:Int) / 2)=(hf:Int):=by unfold wrap64;omega
   have hq3:wrap64 (hf:Int)=(hf:Int):=by unfold wrap64;omega
   have hc1:¬cap=hf:=by omega
   have hc2:(hf:Int)≤(cap:Int):=by omega
   have hc3:(hf:Int)≤(l.length:Int):=by omega
   have hc4:(l.length:Int)≤(cap:Int):=by omega
   have hadd:(⟨b,off,none⟩:Addr).add (hf*9)=⟨b,off+hf*9,none⟩:=Addr.add_mid _ _ _;clear HIH hs hhf hx f1 hk9 hM hl hn h2;go_enter Tryz.func69,Tryz.ntmps69
   go_upto_region 4 with fail
   refine wp_region_tree 9 (OT.sures [0,1,4,5,2,6] (.run 3 (.run 7 (.run 8 .nil)))) (fun _=>True) (by kernel_rfl) (by kernel_rfl) (fun c a d v w h=>by cases d<;>exact h) trivial ?_
   simp only [OT.sures]
   iterate 6 (apply wpT_sure rfl rfl;focus (intro w' hw';go_simp;rfl))
   refine wpT_run _ (fun _ h=>h) rfl (fun K' hK=>?_);go_simp
   refine (H1 _ (HT.out.keep (Upd.refl noBlk w).drew)).out.mono ?_;rintro e w1 ⟨v1,rfl,hr1,hu1⟩;have HR1:=Lib.hid hr1;have U1:Hid (Upd noBlk w w1):=(Upd.refl noBlk w).drew.trans hu1;refine hK _ _ ⟨trivial,?_⟩;clear hK K' hr1 hu1 H1 HT;refine wpT_run _ (fun _ h=>h) rfl (fun K' hK=>?_);go_simp
   refine (H2 _ (HD.out.keep U1.out)).out.mono ?_;rintro e w2 ⟨v2,rfl,hr2,hu2⟩;have HR2:=Lib.hid hr2;have HR1:=Lib.hid (HR1.out.keep hu2);have U2:=Lib.hid (U1.out.trans hu2);refine hK _ _ ⟨trivial,?_⟩;clear hK K' hr2 hu2 H2 HD;refine wpT_run _ (fun _ h=>h) rfl (fun K' hK=>?_);go_simp
   refine (HMG.out v1 v2 w2 HR1.out HR2.out).mono ?_;rintro e w3 ⟨v3,rfl,ho,hu3⟩;have HO:=Lib.hid ho;have U3:=Lib.hid (U2.out.trans hu3);refine hK _ _ ⟨trivial,?_⟩;clear hK K' ho hu3 HMG;refine wpT_nil ?_;go_wp2_with fail
   go_ret
   exact ⟨_,rfl,HO.out.rd,U3.out⟩
set_option maxHeartbeats 2000000 in
theorem hCanon_any (v:Value) (l:List Tri) (hn:l.length≤1000000) (w:World) (h:kTri.Rd w v l) :
  Calls Tryz.prog 21 #[v] w fun en w'=>∃v',en=.returned v'∧kTri.Rd w' v' (canon l)∧Upd noBlk w w':=by
 have hr:=fun t W=>Lib.hid (hRotate_any t W);obtain ⟨A,cap,rfl,hcap,hx⟩:=h;have HX:=Lib.hid hx;have hn':(l.length:Int)≤1000000:=by omega
 have HLE:Hid (l.length≤1000000):=hn;clear hx hn;go_enter Tryz.func21,Tryz.ntmps21
 go_wp2_with fail
 go_loopw [3,4] (fun o i wr=>∃k:Nat,i=.int .i64 k∧k≤l.length∧kTri.Own w.heap.size wr o ((l.take k).map rot)∧Upd noBlk w wr) (fun _ i _=>l.length-(intOf i).toNat)
 case atStart=>exact ⟨0,rfl,Nat.zero_le _,Kd.Own.nil _ _ _,Upd.refl _ _⟩
 case round=>
  obtain ⟨k,rfl,hk,ho,hu⟩:=hrel;have HO:=Lib.hid ho;have HU:=Lib.hid hu;clear ho hu;by_cases hlt:k<l.length
  ·have hlt':(k:Int)<(l.length:Int):=by omega
   obtain ⟨b,off,rfl,f1⟩:=HX.out (by omega);obtain ⟨g0,g1,g2,g3,g4,g5,g6,g7,g8⟩:=triAt9 ((f1 k hlt).keep HU.out);have hk9:kTri.k=9:=rfl;rw [hk9] at g0 g1 g2 g3 g4 g5 g6 g7 g8;have HT:Hid ((l.take (k+1)).map rot=(l.take k).map rot++[rot l[k]]):=by show _=_;rw [List.take_succ_eq_append_getElem hlt,List.map_append];rfl
   have HL:Hid (((l.take k).map rot).length=k):=by show _=_;rw [List.length_map,List.length_take];omega
   have HK:Hid (k<l.length):=hlt;clear f1 hk9;have hrt:=hr l[k];generalize l[k]=tk at *;obtain ⟨⟨a0,a1,a2⟩,⟨a3,a4,a5⟩,⟨a6,a7,a8⟩⟩:=tk;simp only at g0 g1 g2 g3 g4 g5 g6 g7 g8;have hws:IntKind.i64.wrap ((k:Int)+1)=(k:Int)+1:=wrapN (by omega) (by omega);go_wp2_with fail
   refine (hrt _).out.mono ?_;rintro e w2 ⟨rfl,u2⟩;have U2:=Lib.hid (HU.out.trans u2);have O2:=Lib.hid (HO.out.upd u2);clear u2;obtain ⟨g,cap2,w3,r3,o3,v3,_⟩:=O2.out.app1 (Nat.le_trans U2.out.size (Nat.le_refl _)) (rot ((a0,a1,a2),(a3,a4,a5),a6,a7,a8)) (by have:=HL.out;have:=HK.out;have:=HLE.out;omega);rw [HL.out] at r3 o3;have R3:=Lib.hid r3;have O3:=Lib.hid o3;have V3:=Lib.hid v3;have HV:Hid (∀i,i<w.heap.size→u3.ownBlock=some i→noBlk i):=fun i hi e=>absurd hi (by have:=(O2.out.blk e).1;omega);clear r3 o3 v3;generalize rot ((a0,a1,a2),(a3,a4,a5),a6,a7,a8)=rt at *;obtain ⟨⟨c0,c1,c2⟩,⟨c3,c4,c5⟩,⟨c6,c7,c8⟩⟩:=rt;unfold triV triC;go_wp2_with (at_builtin;refine wpList_append_run rfl _ _ _ rfl rfl rfl R3.out ?_)
   refine ⟨⟨k+1,by push_cast;rfl,HK.out,?_,U2.out.then V3.out HV.out⟩,by simp only [intOf];have:=HK.out;omega⟩;rw [HT.out];exact O3.out
  ·obtain rfl:k=l.length:=by omega
   have hl2:((l.take l.length).map rot)=l.map rot:=by rw [List.take_length]
   have hown:=HO.out;rw [hl2] at hown;have HS:=Lib.hid (hSort_any l.length u3 (l.map rot) (by rw [List.length_map];exact Nat.le_refl _) (by rw [List.length_map];exact HLE.out) wr hown.rd);clear hown hl2;go_wp2_with fail
   refine HS.out.mono ?_;rintro e w2 ⟨v2,rfl,r2,u2⟩;have R2:=Lib.hid r2;have U2:=Lib.hid (HU.out.trans u2);clear r2 u2 HS;go_wp2_with fail
   go_ret
   exact ⟨_,rfl,R2.out,U2.out⟩
set_option maxHeartbeats 1000000 in
theorem hSame_any (va vb:Value) (a b:List Tri) (ha:a.length≤1000000) (hb:b.length≤1000000) (w:World) (hra:kTri.Rd w va a) (hrb:kTri.Rd w vb b) :
  Calls Tryz.prog 39 #[va,vb] w fun en w'=>en=.returned (.bool (decide (canon a=canon b)))∧Upd noBlk w w':=by
 have H1:=Lib.hid (hCanon_any va a ha w hra);have H2:=fun W hW=>Lib.hid (hCanon_any vb b hb W hW);have H3:=fun v v' W h1 h2=>Lib.hid (hEqual_any v v' (canon a) (canon b) (by rw [canon_length];exact ha) W h1 h2);have HRB:=Lib.hid hrb;clear hra hrb;go_enter Tryz.func39,Tryz.ntmps39
 go_wp2_with fail
 refine H1.out.mono ?_;rintro e w1 ⟨v1,rfl,r1,u1⟩;have R1:=Lib.hid r1;have U1:=Lib.hid u1;have H2':=H2 w1 (HRB.out.keep u1);clear r1 u1 H1 H2;go_wp2_with fail
 refine H2'.out.mono ?_;rintro e w2 ⟨v2,rfl,r2,u2⟩;have H3':=H3 v1 v2 w2 (R1.out.keep u2) r2;have U2:=Lib.hid (U1.out.trans u2);clear r2 u2 H2' H3;go_wp2_with fail
 refine H3'.out.mono ?_;rintro e w3 ⟨rfl,u3⟩;have U3:=Lib.hid (U2.out.trans u3);clear u3 H3';go_wp2_with fail
 go_ret
 exact ⟨rfl,U3.out⟩
end Go.Proofs.YtcikldoaidmnhaaGreatDoor
namespace Go.Proofs.YtcikldoaidmnhaaGreatDoor
open Go Go.RowKit Pk
set_option maxRecDepth 100000
namespace Pk
theorem openN_back {l:List Tri} (h:packable l=true):openN (clusterN l)=some (canon l):=by
 obtain ⟨T,h1,h2,_⟩:=open_cluster false h;unfold openN;rw [h1];show (if clusterN (canon T)=clusterN l then some (canon T) else none)=_;rw [h2,if_pos (canon_alike l).cluster]
theorem digB_small {n:Nat} (h:n<128):digB n=[UInt8.ofNat n]:=by rw [digB,dif_pos h]
theorem digB_two {n:Nat} (h:¬n<128):digB n=UInt8.ofNat (n % 128+128) :: digB (n / 128):=by rw [digB,dif_neg h]
theorem root_a:rootR [3,128,0]=none:=by
 simp [rootR,manyR,readNum,numR,listR,rootB,partsB,digB_small]
theorem root_b:rootR [3,0,0]=none:=by
 simp [rootR,manyR,readNum,numR,listR,rootB,partsB,digB_small]
theorem root_nil:rootB []=[3,0]:=by simp [rootB,partsB,digB_small]
def gEx:GV:=⟨1,[],[],[((1,2,3),(4,5,300))],7,200,true,[5]⟩
theorem right_ex:rightG gEx.g=true:=by decide
theorem group_ex:groupB gEx.g=[2,1,0,0,1,1,2,3,4,5,172,2,7,200,1,3,5]:=by
 simp [gEx,GV.g,groupB,partsB,movesB,coordsM,sizeG,digB_small,digB_two]
def tEx:Tri:=((0,0,0),(1,0,0),(0,1,0))
theorem ok_ex:okT tEx:=by
 simp only [okT,okP,ok64,tEx];decide
theorem ok_ex1:∀t,t∈[tEx]→okT t:=fun t h=>by rw [List.mem_singleton.1 h];exact ok_ex
theorem ok_ex2:∀t,t∈[tEx,tEx]→okT t:=fun t h=>by
 rcases List.mem_cons.1 h with h | h
 ·rw [h];exact ok_ex
 ·rw [List.mem_singleton.1 h];exact ok_ex
theorem ok_gEx:gEx.Ok:=⟨by decide,by decide,by decide,by decide⟩
theorem pack_ex:packable [tEx]=true:=by decide
theorem pack_ex2:clusterN [tEx,tEx]=[]:=by
 unfold clusterN;rw [if_neg];decide
end Pk
theorem tri_rd {w:World} {N:Nat} {ts:List Tri} {cs:Array Value} {fr:Nat × Nat} (h:w.heap[N]?=some (.cells cs 45 fr)) (hc:cs.toList=ts.flatMap triC):kTri.Rd w (.slice (some ⟨N,0,none⟩) ts.length ts.length) ts:=by
 refine ⟨some ⟨N,0,none⟩,ts.length,rfl,Nat.le_refl _,fun _=>⟨N,0,rfl,fun j hj i v hv=>?_⟩⟩;have hg:=kTri.flat_get ts j hj i (by have:=(List.getElem?_eq_some_iff.1 hv).1;rw [kTri.len] at this;exact this);have hf:cs.toList[j*kTri.k+i]?=some v:=by rw [hc];exact hg.trans hv
 have hs:cs[j*kTri.k+i]?=some v:=by rw [←Array.getElem?_toList];exact hf
 show w.cell? ⟨N,0+j*kTri.k+i,none⟩=some v;rw [Nat.zero_add];simp [World.cell?,h,hs]
theorem mv_rd {w:World} {N:Nat} {fr:Nat × Nat} (h:w.heap[N]?=some (.cells #[.int .i64 1,.int .i64 2,.int .i64 3,.int .i64 4,.int .i64 5,.int .i64 300] 79 fr)):kMove.Rd w (.slice (some ⟨N,0,none⟩) 1 1) [((1,2,3),(4,5,300))]:=by
 refine ⟨some ⟨N,0,none⟩,1,rfl,Nat.le_refl _,fun _=>⟨N,0,rfl,fun j hj i v hv=>?_⟩⟩;have hj0:j=0:=by simp at hj;exact hj
 subst hj0;have hv':(#[.int .i64 1,.int .i64 2,.int .i64 3,.int .i64 4,.int .i64 5,.int .i64 300]:Array Value).toList[i]?=some v:=hv;show w.cell? ⟨N,0+0*kMove.k+i,none⟩=some v;rw [Nat.zero_mul,Nat.zero_add];have hs:(#[.int .i64 1,.int .i64 2,.int .i64 3,.int .i64 4,.int .i64 5,.int .i64 300]:Array Value)[i]?=some v:=by rw [←Array.getElem?_toList];exact hv'
 simp only [World.cell?,h];simpa using hs
theorem size_alloc1 (w:World) (o:Obj):(w.alloc o).heap.size=w.heap.size+1:=Array.size_push ..
set_option maxHeartbeats 4000000 in
theorem sanity_any (w:World):Calls Tryz.prog 14 #[] w fun en w'=>en=.returned (.bool true)∧Upd noBlk w w':=by
 have HRA:=fun W=>Lib.hid (OpenRoot_any [3,128,0] W);have HRB:=fun W=>Lib.hid (OpenRoot_any [3,0,0] W);rw [root_a] at HRA;rw [root_b] at HRB;go_enter Tryz.func14,Tryz.ntmps14
 go_upto_region 2 with fail
 have HX0:Hid (((w.alloc (.cells #[.int .i64 1,.int .i64 2,.int .i64 3,.int .i64 4,.int .i64 5,.int .i64 300] 79)).alloc (.cells #[.int .i64 1,.slice none 0 0,.slice none 0 0,.slice (some ⟨w.heap.size,0,none⟩) 1 1,.int .i64 7,.int .i64 200,.bool true,.string ⟨#[5]⟩] 68)).heap[w.heap.size]?=some (.cells #[.int .i64 1,.int .i64 2,.int .i64 3,.int .i64 4,.int .i64 5,.int .i64 300] 79 (0,0))):=((Upd.refl noBlk _).alloc _).heap (heap_alloc_new w _) id;have HX1:Hid (((w.alloc (.cells #[.int .i64 1,.int .i64 2,.int .i64 3,.int .i64 4,.int .i64 5,.int .i64 300] 79)).alloc (.cells #[.int .i64 1,.slice none 0 0,.slice none 0 0,.slice (some ⟨w.heap.size,0,none⟩) 1 1,.int .i64 7,.int .i64 200,.bool true,.string ⟨#[5]⟩] 68)).heap[w.heap.size+1]?=some (.cells #[.int .i64 1,.slice none 0 0,.slice none 0 0,.slice (some ⟨w.heap.size,0,none⟩) 1 1,.int .i64 7,.int .i64 200,.bool true,.string ⟨#[5]⟩] 68 (0,0))):=by
  have h:=heap_alloc_new (w.alloc (.cells #[.int .i64 1,.int .i64 2,.int .i64 3,.int .i64 4,.int .i64 5,.int .i64 300] 79)) (.cells #[.int .i64 1,.slice none 0 0,.slice none 0 0,.slice (some ⟨w.heap.size,0,none⟩) 1 1,.int .i64 7,.int .i64 200,.bool true,.string ⟨#[5]⟩] 68);rw [size_alloc1] at h;exact h
 have HU1:Hid (Upd noBlk w ((w.alloc (.cells #[.int .i64 1,.int .i64 2,.int .i64 3,.int .i64 4,.int .i64 5,.int .i64 300] 79)).alloc (.cells #[.int .i64 1,.slice none 0 0,.slice none 0 0,.slice (some ⟨w.heap.size,0,none⟩) 1 1,.int .i64 7,.int .i64 200,.bool true,.string ⟨#[5]⟩] 68))):=((Upd.refl noBlk w).alloc _).alloc _;generalize (w.alloc (.cells #[.int .i64 1,.int .i64 2,.int .i64 3,.int .i64 4,.int .i64 5,.int .i64 300] 79)).alloc (.cells #[.int .i64 1,.slice none 0 0,.slice none 0 0,.slice (some ⟨w.heap.size,0,none⟩) 1 1,.int .i64 7,.int .i64 200,.bool true,.string ⟨#[5]⟩] 68)=w1 at *;generalize w.heap.size=b0 at *;have HRA1:=HRA w1;clear HRA;go_wp2_with fail
 refine HRA1.out.mono ?_;rintro e w2 ⟨u2,rfl⟩;have HY0:=Lib.hid (u2.heap HX0.out id);have HY1:=Lib.hid (u2.heap HX1.out id);have HU2:=Lib.hid (HU1.out.trans u2);clear HRA1 u2 HU1 HX0 HX1;have HAL:Hid (Upd noBlk w2 (w2.alloc (.cells #[.slice none 0 0] 50))):=(Upd.refl _ w2).alloc _;go_upto_region 3 with fail
 generalize w2.heap.size=b1 at *;have HX0:=Lib.hid (HAL.out.heap HY0.out id);have HX1:=Lib.hid (HAL.out.heap HY1.out id);have HU3:=Lib.hid (HU2.out.trans HAL.out);generalize w2.alloc (.cells #[.slice none 0 0] 50)=w3 at *;clear HAL HY0 HY1 HU2;have HRB1:=HRB w3;clear HRB;go_wp2_with fail
 refine HRB1.out.mono ?_;rintro e w4 ⟨u4,rfl⟩;have HY0:=Lib.hid (u4.heap HX0.out id);have HY1:=Lib.hid (u4.heap HX1.out id);have HU4:=Lib.hid (HU3.out.trans u4);clear HRB1 u4 HU3 HX0 HX1;have HAL:Hid (Upd noBlk w4 (w4.alloc (.cells #[.slice none 0 0] 50))):=(Upd.refl _ w4).alloc _;go_upto_region 4 with fail
 generalize w4.heap.size=b2 at *;have HX0:=Lib.hid (HAL.out.heap HY0.out id);have HX1:=Lib.hid (HAL.out.heap HY1.out id);have HU5:=Lib.hid (HU4.out.trans HAL.out);generalize w4.alloc (.cells #[.slice none 0 0] 50)=w5 at *;clear HAL HY0 HY1 HU4;have HAL:Hid (Upd noBlk w5 (w5.alloc (.cells #[.int .i64 0,.int .i64 0,.int .i64 0,.int .i64 1,.int .i64 0,.int .i64 0,.int .i64 0,.int .i64 1,.int .i64 0] 45))):=(Upd.refl _ w5).alloc _;have HT:Hid ((w5.alloc (.cells #[.int .i64 0,.int .i64 0,.int .i64 0,.int .i64 1,.int .i64 0,.int .i64 0,.int .i64 0,.int .i64 1,.int .i64 0] 45)).heap[w5.heap.size]?=some (.cells #[.int .i64 0,.int .i64 0,.int .i64 0,.int .i64 1,.int .i64 0,.int .i64 0,.int .i64 0,.int .i64 1,.int .i64 0] 45 (0,0))):=heap_alloc_new w5 _;go_upto_region 5 with fail
 generalize w5.heap.size=b3 at *;have HY0:=Lib.hid (HAL.out.heap HX0.out id);have HY1:=Lib.hid (HAL.out.heap HX1.out id);have HU6:=Lib.hid (HU5.out.trans HAL.out);generalize w5.alloc (.cells #[.int .i64 0,.int .i64 0,.int .i64 0,.int .i64 1,.int .i64 0,.int .i64 0,.int .i64 0,.int .i64 1,.int .i64 0] 45)=w6 at *;clear HAL HX0 HX1 HU5;have HAL:Hid (Upd noBlk w6 (w6.alloc (.cells #[.int .i64 0,.int .i64 0,.int .i64 0,.int .i64 1,.int .i64 0,.int .i64 0,.int .i64 0,.int .i64 1,.int .i64 0] 45))):=(Upd.refl _ w6).alloc _;have HR:Hid ((w6.alloc (.cells #[.int .i64 0,.int .i64 0,.int .i64 0,.int .i64 1,.int .i64 0,.int .i64 0,.int .i64 0,.int .i64 1,.int .i64 0] 45)).heap[w6.heap.size]?=some (.cells #[.int .i64 0,.int .i64 0,.int .i64 0,.int .i64 1,.int .i64 0,.int .i64 0,.int .i64 0,.int .i64 1,.int .i64 0] 45 (0,0))):=heap_alloc_new w6 _;have HCL:=Lib.hid (Cluster_any _ [tEx] (by decide) ok_ex1 _ (tri_rd HR.out rfl));have HOC:=fun W=>Lib.hid (OpenCluster_any (clusterN [tEx]) (clusterN_lt _) W);rw [openN_back pack_ex] at HOC;have HU7:=Lib.hid (HU6.out.trans HAL.out);have HX0:=Lib.hid (HAL.out.heap HY0.out id);have HX1:=Lib.hid (HAL.out.heap HY1.out id);have HT1:=Lib.hid (HAL.out.heap HT.out id);obtain ⟨⟨c0,c1,c2,c3,c4,c5,c6,c7,c8⟩,⟨f0,f1,f2,f3,f4,f5,f6,f7,f8⟩⟩:=cellsF9 HT.out;clear HR HY0 HY1 HT HU6 HAL;go_wp2_with fail
 clear c0 c1 c2 c3 c4 c5 c6 c7 c8 f0 f1 f2 f3 f4 f5 f6 f7 f8;refine HCL.out.mono ?_;rintro e w7 ⟨rfl,u7⟩;have HY0:=Lib.hid (u7.heap HX0.out id);have HY1:=Lib.hid (u7.heap HX1.out id);have HT:=Lib.hid (u7.heap HT1.out id);have HU8:=Lib.hid (HU7.out.trans u7);have HOC1:=HOC w7;clear HX0 HX1 HT1 HU7 u7 HCL HOC;go_wp2_with fail
 refine HOC1.out.mono ?_;rintro e w8 ⟨u8,v,rfl,hv⟩;have HX0:=Lib.hid (u8.heap HY0.out id);have HX1:=Lib.hid (u8.heap HY1.out id);have HT1:=Lib.hid (u8.heap HT.out id);have HU9:=Lib.hid (HU8.out.trans u8);have HV:=Lib.hid hv;clear HY0 HY1 HT HU8 u8 HOC1 hv;go_upto_region 6 with fail
 have HRN:Hid (Calls Tryz.prog 25 #[.agg #[.slice none 0 0]] w8 fun en w'=>strR [3,0] w8 en w'):=by
  show Calls _ _ _ _ _;have h:=Root_any (.slice none 0 0) [] w8 (Kd.Rd.nil kPart w8);rw [if_neg (by decide),show (([]:List P32).map plainP)=[] from rfl,root_nil] at h;exact h
 have HGR:=fun W hW=>Lib.hid (Group_any gEx ok_gEx (.slice none 0 0) (.slice none 0 0) (.slice (some ⟨b0,0,none⟩) 1 1) W (Kd.Rd.nil kPart W) (Kd.Rd.nil kHash W) (mv_rd (fr:=(0,0)) hW));rw [if_pos right_ex,group_ex] at HGR;have HC2:=fun W v hW=>Lib.hid (Cluster_any v [tEx,tEx] (by decide) ok_ex2 W hW);rw [pack_ex2] at HC2;have HSM:=fun W v' h1 h2=>Lib.hid (hSame_any v v' (canon [tEx]) [tEx] (by rw [canon_length];decide) (by decide) W h1 h2);have hce:decide (canon (canon [tEx])=canon [tEx])=true:=by rw [canon_idem];exact decide_eq_true rfl
 rw [hce] at HSM;clear hce;have hs1:(bs [3,0]).toList=[3,0]:=bs_toList _;go_wp2_with fail
 refine HRN.out.mono ?_;rintro e w9 ⟨rfl,u9⟩;have HY0:=Lib.hid (u9.heap HX0.out id);have HY1:=Lib.hid (u9.heap HX1.out id);have HT:=Lib.hid (u9.heap HT1.out id);have HU10:=Lib.hid (HU9.out.trans u9);have HV1:=Lib.hid (HV.out.keep u9);have HGR1:=HGR w9 HY0.out;obtain ⟨⟨c0,c1,c2,c3,c4,c5,c6,c7⟩,⟨f0,f1,f2,f3,f4,f5,f6,f7⟩⟩:=cellsF8 HY1.out;clear HX0 HX1 HT1 HU9 u9 HRN HGR HV HY0 HY1;have hs2:(bs [2,1,0,0,1,1,2,3,4,5,172,2,7,200,1,3,5]).toList=[2,1,0,0,1,1,2,3,4,5,172,2,7,200,1,3,5]:=bs_toList _;go_wp2_with fail
 clear c0 c1 c2 c3 c4 c5 c6 c7 f0 f1 f2 f3 f4 f5 f6 f7 hs1;refine HGR1.out.mono ?_;rintro e w10 ⟨rfl,u10⟩;have HT1:=Lib.hid (u10.heap HT.out id);have HU11:=Lib.hid (HU10.out.trans u10);have HV:=Lib.hid (HV1.out.keep u10);obtain ⟨⟨c0,c1,c2,c3,c4,c5,c6,c7,c8⟩,⟨f0,f1,f2,f3,f4,f5,f6,f7,f8⟩⟩:=cellsF9 HT1.out;clear HT HU10 HV1 HGR1 u10;have HAL:Hid (Upd noBlk w10 (w10.alloc (.cells #[.int .i64 0,.int .i64 0,.int .i64 0,.int .i64 1,.int .i64 0,.int .i64 0,.int .i64 0,.int .i64 1,.int .i64 0,.int .i64 0,.int .i64 0,.int .i64 0,.int .i64 1,.int .i64 0,.int .i64 0,.int .i64 0,.int .i64 1,.int .i64 0] 45))):=(Upd.refl _ w10).alloc _;have HR:=heap_alloc_new w10 (.cells #[.int .i64 0,.int .i64 0,.int .i64 0,.int .i64 1,.int .i64 0,.int .i64 0,.int .i64 0,.int .i64 1,.int .i64 0,.int .i64 0,.int .i64 0,.int .i64 0,.int .i64 1,.int .i64 0,.int .i64 0,.int .i64 0,.int .i64 1,.int .i64 0] 45);have HC3:=HC2 _ _ (tri_rd (ts:=[tEx,tEx]) HR rfl);have HY:=Lib.hid (HAL.out.heap HT1.out id);have HV1:=Lib.hid (HV.out.keep HAL.out);have HU12:=Lib.hid (HU11.out.trans HAL.out);have hs1:(str []).toList=[]:=str_toList _;clear HR HC2 HV HT1 HU11 HAL;go_wp2_with fail
 clear c0 c1 c2 c3 c4 c5 c6 c7 c8 f0 f1 f2 f3 f4 f5 f6 f7 f8;refine HC3.out.mono ?_;rintro e w11 ⟨rfl,u11⟩;have HT:=Lib.hid (u11.heap HY.out id);have HU13:=Lib.hid (HU12.out.trans u11);have HV:=Lib.hid (HV1.out.keep u11);obtain ⟨⟨c0,c1,c2,c3,c4,c5,c6,c7,c8⟩,⟨f0,f1,f2,f3,f4,f5,f6,f7,f8⟩⟩:=cellsF9 HT.out;have HAL:Hid (Upd noBlk w11 (w11.alloc (.cells #[.int .i64 0,.int .i64 0,.int .i64 0,.int .i64 1,.int .i64 0,.int .i64 0,.int .i64 0,.int .i64 1,.int .i64 0] 45))):=(Upd.refl _ w11).alloc _;have HR:=heap_alloc_new w11 (.cells #[.int .i64 0,.int .i64 0,.int .i64 0,.int .i64 1,.int .i64 0,.int .i64 0,.int .i64 0,.int .i64 1,.int .i64 0] 45);have HSM1:=HSM _ _ (HV.out.keep HAL.out) (tri_rd (ts:=[tEx]) HR rfl);have HU14:=Lib.hid (HU13.out.trans HAL.out);clear HR HSM HV HT HU13 HAL HC3 HV1 HU12 HY u11 hs2;go_wp2_with fail
 refine HSM1.out.mono ?_;rintro e w12 ⟨rfl,u12⟩;have HU15:=Lib.hid (HU14.out.trans u12);clear HU14 u12 HSM1;go_wp2_with fail
 go_ret
 exact ⟨rfl,HU15.out⟩
end Go.Proofs.YtcikldoaidmnhaaGreatDoor
