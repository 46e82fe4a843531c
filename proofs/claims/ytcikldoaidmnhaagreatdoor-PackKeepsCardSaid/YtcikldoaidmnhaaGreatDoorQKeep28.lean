/- Parts: The examples of the document: every law of the packets begins with them. No condition. Walks of the packets' program: OpenCluster. No condition. Walks of the reference's makers: two triangles, a corner of hills. No condition. -/
import Derived.Test.YtcikldoaidmnhaaGreatDoorQKeep6
import Derived.Test.YtcikldoaidmnhaaGreatDoorQKeep9
import Derived.Test.YtcikldoaidmnhaaGreatDoorQKeep19
import Derived.Test.YtcikldoaidmnhaaGreatDoorQKeep23
import Derived.Test.YtcikldoaidmnhaaGreatDoorQKeep25
import Derived.Test.YtcikldoaidmnhaaGreatDoorQKeep27
namespace Go.Proofs.YtcikldoaidmnhaaGreatDoor
open Go Go.RowKit Pk Pc
set_option maxRecDepth 100000
theorem openCluster_any (l:List Nat) (hl:∀d,d∈l→d<256) (w:World) :
  Calls Tryz.prog 67 #[.string (str l)] w fun en w'=>openQ (openM false l) w en w':=by
 by_cases h:∃code,l=1 :: code
 ·obtain ⟨code,rfl⟩:=h;exact openCluster_one code (fun d hd=>hl d (List.mem_cons_of_mem _ hd)) w
 ·have hn:openM false l=none:=by
   unfold openM;split
   ·rename_i code;exact absurd ⟨code,rfl⟩ h
   ·rfl
  rw [hn];refine (openCluster_bad l hl (fun code e=>h ⟨code,e⟩) w).mono ?_;rintro e w' ⟨v,rfl,hu⟩;exact ⟨hu,v,rfl⟩
theorem clusterN_lt (c:List Tri):∀d,d∈clusterN c→d<256:=fun d hd=>by
 unfold clusterN at hd;split at hd
 ·unfold packC at hd;rcases List.mem_cons.1 hd with rfl | hd
  ·decide
  ·exact encode_lt _ d hd
 ·cases hd
def openP (o:Option (List Tri)) (w:World) (en:Ending) (w':World):Prop:=Upd noBlk w w'∧∃v,match o with
 | some l=>en=.returned (.tuple #[v,.int .i64 0])∧kTri.Rd w' v l
 | none=>en=.returned (.tuple #[v,.int .i64 13])∧kTri.Rd w' v []
set_option maxHeartbeats 2000000 in
theorem OpenCluster_any (l:List Nat) (hl:∀d,d∈l→d<256) (w:World) :
  Calls Tryz.prog 19 #[.string (str l)] w fun en w'=>openP (openN l) w en w':=by
 have HOP:=Lib.hid (openCluster_any l hl w);obtain ⟨tgt,htgt⟩:∃t,t=openN l:=⟨_,rfl⟩;rw [←htgt];have HT:=Lib.hid htgt;clear htgt;go_enter Tryz.func19,Tryz.ntmps19
 go_wp2_with fail
 refine HOP.out.mono ?_;rintro e w2 ⟨hu,v,hv⟩;have HU:=Lib.hid hu;rcases hm:openM false l with _ | T
 ·rw [hm] at hv;simp only at hv;subst hv;have HTN:Hid (tgt=none):=by show _=_;rw [HT.out];unfold openN;rw [hm]
  clear hu HOP hm;go_wp2_with fail
  go_ret2
  rw [HTN.out];exact ⟨HU.out,_,rfl,Kd.Rd.nil kTri w2⟩
 ·rw [hm] at hv;obtain ⟨rfl,hrd⟩:=hv;have HTS:Hid (tgt=if clusterN (canon T)=l then some (canon T) else none):=by show _=_;rw [HT.out];unfold openN;rw [hm]
  obtain ⟨ht2,ht1⟩:=openM_in hm;have HCL:=Lib.hid (Cluster_any v (canon T) (by rw [canon_length];omega) (fun t ht=>okT_of (canon_in ht2 t ht)) w2 hrd);have HRD:=Lib.hid hrd;clear hu HOP hm hrd ht1 ht2;go_wp2_with fail
  refine HCL.out.mono ?_;rintro e w3 ⟨rfl,u3⟩;have HU3:=Lib.hid u3;have hlt:=clusterN_lt (canon T);clear u3 HCL;by_cases hc:clusterN (canon T)=l
  ·have HTN:Hid (tgt=some (canon T)):=by show _=_;rw [HTS.out];exact if_pos hc
   rw [hc];clear hlt hc;go_wp2_with fail
   go_ret2
   rw [HTN.out];exact ⟨HU.out.trans HU3.out,_,rfl,HRD.out.keep HU3.out⟩
  ·have HTN:Hid (tgt=none):=by show _=_;rw [HTS.out];exact if_neg hc
   have hne:((str (clusterN (canon T))).toList == (str l).toList)=false:=by
    rw [beq_eq_false_iff_ne];intro e;exact hc (map_ofNat_inj hlt hl (by rw [←str_toList,←str_toList,e]))
   clear hlt hc;generalize str (clusterN (canon T))=z at *;go_wp2_with fail
   go_ret2
   rw [HTN.out];exact ⟨HU.out.trans HU3.out,_,rfl,Kd.Rd.nil kTri w3⟩
end Go.Proofs.YtcikldoaidmnhaaGreatDoor
namespace Go.Proofs.YtcikldoaidmnhaaGreatDoor
open Go Go.RowKit Pk
set_option maxRecDepth 100000
namespace Pk
theorem openN_back {l:List Tri} (h:packable l=true):openN (clusterN l)=some (canon l):=by
 obtain ⟨T,h1,h2,_⟩:=open_cluster false h;unfold openN;rw [h1];show (if clusterN (canon T)=clusterN l then some (canon T) else none)=_;rw [h2,if_pos (canon_alike l).cluster]
theorem digB_small {n:Nat} (h:n<128):digB n=[UInt8.ofNat n]:=by rw [digB,dif_pos h]
theorem digB_two {n:Nat} (h:¬n<128):digB n=UInt8.ofNat (n % 128+128) :: digB (n / 128):=by rw [digB,dif_neg h]
theorem root_a:rootR [3,128,0]=none:=by
 simp [rootR,manyR,readNum,numR,listR,rootB,partsB,digB_small]
theorem root_b:rootR [3,0,0]=none:=by
 simp [rootR,manyR,readNum,numR,listR,rootB,partsB,digB_small]
theorem root_nil:rootB []=[3,0]:=by simp [rootB,partsB,digB_small]
def gEx:GV:=⟨1,[],[],[((1,2,3),(4,5,300))],7,200,true,[5]⟩
theorem right_ex:rightG gEx.g=true:=by decide
theorem group_ex:groupB gEx.g=[2,1,0,0,1,1,2,3,4,5,172,2,7,200,1,3,5]:=by
 simp [gEx,GV.g,groupB,partsB,movesB,coordsM,sizeG,digB_small,digB_two]
def tEx:Tri:=((0,0,0),(1,0,0),(0,1,0))
theorem ok_ex:okT tEx:=by
 simp only [okT,okP,ok64,tEx];decide
theorem ok_ex1:∀t,t∈[tEx]→okT t:=fun t h=>by rw [List.mem_singleton.1 h];exact ok_ex
theorem ok_ex2:∀t,t∈[tEx,tEx]→okT t:=fun t h=>by
 rcases List.mem_cons.1 h with h | h
 ·rw [h];exact ok_ex
 ·rw [List.mem_singleton.1 h];exact ok_ex
theorem ok_gEx:gEx.Ok:=⟨by decide,by decide,by decide,by decide⟩
theorem pack_ex:packable [tEx]=true:=by decide
theorem pack_ex2:clusterN [tEx,tEx]=[]:=by
 unfold clusterN;rw [if_neg];decide
end Pk
theorem tri_rd {w:World} {N:Nat} {ts:List Tri} {cs:Array Value} {fr:Nat × Nat} (h:w.heap[N]?=some (.cells cs 45 fr)) (hc:cs.toList=ts.flatMap triC):kTri.Rd w (.slice (some ⟨N,0,none⟩) ts.length ts.length) ts:=by
 refine ⟨some ⟨N,0,none⟩,ts.length,rfl,Nat.le_refl _,fun _=>⟨N,0,rfl,fun j hj i v hv=>?_⟩⟩;have hg:=kTri.flat_get ts j hj i (by have:=(List.getElem?_eq_some_iff.1 hv).1;rw [kTri.len] at this;exact this);have hf:cs.toList[j*kTri.k+i]?=some v:=by rw [hc];exact hg.trans hv
 have hs:cs[j*kTri.k+i]?=some v:=by rw [←Array.getElem?_toList];exact hf
 show w.cell? ⟨N,0+j*kTri.k+i,none⟩=some v;rw [Nat.zero_add];simp [World.cell?,h,hs]
theorem mv_rd {w:World} {N:Nat} {fr:Nat × Nat} (h:w.heap[N]?=some (.cells #[.int .i64 1,.int .i64 2,.int .i64 3,.int .i64 4,.int .i64 5,.int .i64 300] 79 fr)):kMove.Rd w (.slice (some ⟨N,0,none⟩) 1 1) [((1,2,3),(4,5,300))]:=by
 refine ⟨some ⟨N,0,none⟩,1,rfl,Nat.le_refl _,fun _=>⟨N,0,rfl,fun j hj i v hv=>?_⟩⟩;have hj0:j=0:=by simp at hj;exact hj
 subst hj0;have hv':(#[.int .i64 1,.int .i64 2,.int .i64 3,.int .i64 4,.int .i64 5,.int .i64 300]:Array Value).toList[i]?=some v:=hv;show w.cell? ⟨N,0+0*kMove.k+i,none⟩=some v;rw [Nat.zero_mul,Nat.zero_add];have hs:(#[.int .i64 1,.int .i64 2,.int .i64 3,.int .i64 4,.int .i64 5,.int .i64 300]:Array Value)[i]?=some v:=by rw [←Array.getElem?_toList];exact hv'
 simp only [World.cell?,h];simpa using hs
theorem size_alloc1 (w:World) (o:Obj):(w.alloc o).heap.size=w.heap.size+1:=Array.size_push ..
set_option maxHeartbeats 4000000 in
theorem sanity_any (w:World):Calls Tryz.prog 14 #[] w fun en w'=>en=.returned (.bool true)∧Upd noBlk w w':=by
 have HRA:=fun W=>Lib.hid (OpenRoot_any [3,128,0] W);have HRB:=fun W=>Lib.hid (OpenRoot_any [3,0,0] W);rw [root_a] at HRA;rw [root_b] at HRB;go_enter Tryz.func14,Tryz.ntmps14
 go_upto_region 2 with fail
 have HX0:Hid (((w.alloc (.cells #[.int .i64 1,.int .i64 2,.int .i64 3,.int .i64 4,.int .i64 5,.int .i64 300] 79)).alloc (.cells #[.int .i64 1,.slice none 0 0,.slice none 0 0,.slice (some ⟨w.heap.size,0,none⟩) 1 1,.int .i64 7,.int .i64 200,.bool true,.string ⟨#[5]⟩] 68)).heap[w.heap.size]?=some (.cells #[.int .i64 1,.int .i64 2,.int .i64 3,.int .i64 4,.int .i64 5,.int .i64 300] 79 (0,0))):=((Upd.refl noBlk _).alloc _).heap (heap_alloc_new w _) id;have HX1:Hid (((w.alloc (.cells #[.int .i64 1,.int .i64 2,.int .i64 3,.int .i64 4,.int .i64 5,.int .i64 300] 79)).alloc (.cells #[.int .i64 1,.slice none 0 0,.slice none 0 0,.slice (some ⟨w.heap.size,0,none⟩) 1 1,.int .i64 7,.int .i64 200,.bool true,.string ⟨#[5]⟩] 68)).heap[w.heap.size+1]?=some (.cells #[.int .i64 1,.slice none 0 0,.slice none 0 0,.slice (some ⟨w.heap.size,0,none⟩) 1 1,.int .i64 7,.int .i64 200,.bool true,.string ⟨#[5]⟩] 68 (0,0))):=by
  have h:=heap_alloc_new (w.alloc (.cells #[.int .i64 1,.int .i64 2,.int .i64 3,.int .i64 4,.int .i64 5,.int .i64 300] 79)) (.cells #[.int .i64 1,.slice none 0 0,.slice none 0 0,.slice (some ⟨w.heap.size,0,none⟩) 1 1,.int .i64 7,.int .i64 200,.bool true,.string ⟨#[5]⟩] 68);rw [size_alloc1] at h;exact h
 have HU1:Hid (Upd noBlk w ((w.alloc (.cells #[.int .i64 1,.int .i64 2,.int .i64 3,.int .i64 4,.int .i64 5,.int .i64 300] 79)).alloc (.cells #[.int .i64 1,.slice none 0 0,.slice none 0 0,.slice (some ⟨w.heap.size,0,none⟩) 1 1,.int .i64 7,.int .i64 200,.bool true,.string ⟨#[5]⟩] 68))):=((Upd.refl noBlk w).alloc _).alloc _;generalize (w.alloc (.cells #[.int .i64 1,.int .i64 2,.int .i64 3,.int .i64 4,.int .i64 5,.int .i64 300] 79)).alloc (.cells #[.int .i64 1,.slice none 0 0,.slice none 0 0,.slice (some ⟨w.heap.size,0,none⟩) 1 1,.int .i64 7,.int .i64 200,.bool true,.string ⟨#[5]⟩] 68)=w1 at *;generalize w.heap.size=b0 at *;have HRA1:=HRA w1;clear HRA;go_wp2_with fail
 refine HRA1.out.mono ?_;rintro e w2 ⟨u2,rfl⟩;have HY0:=Lib.hid (u2.heap HX0.out id);have HY1:=Lib.hid (u2.heap HX1.out id);have HU2:=Lib.hid (HU1.out.trans u2);clear HRA1 u2 HU1 HX0 HX1;have HAL:Hid (Upd noBlk w2 (w2.alloc (.cells #[.slice none 0 0] 50))):=(Upd.refl _ w2).alloc _;go_upto_region 3 with fail
 generalize w2.heap.size=b1 at *;have HX0:=Lib.hid (HAL.out.heap HY0.out id);have HX1:=Lib.hid (HAL.out.heap HY1.out id);have HU3:=Lib.hid (HU2.out.trans HAL.out);generalize w2.alloc (.cells #[.slice none 0 0] 50)=w3 at *;clear HAL HY0 HY1 HU2;have HRB1:=HRB w3;clear HRB;go_wp2_with fail
 refine HRB1.out.mono ?_;rintro e w4 ⟨u4,rfl⟩;have HY0:=Lib.hid (u4.heap HX0.out id);have HY1:=Lib.hid (u4.heap HX1.out id);have HU4:=Lib.hid (HU3.out.trans u4);clear HRB1 u4 HU3 HX0 HX1;have HAL:Hid (Upd noBlk w4 (w4.alloc (.cells #[.slice none 0 0] 50))):=(Upd.refl _ w4).alloc _;go_upto_region 4 with fail
 generalize w4.heap.size=b2 at *;have HX0:=Lib.hid (HAL.out.heap HY0.out id);have HX1:=Lib.hid (HAL.out.heap HY1.out id);have HU5:=Lib.hid (HU4.out.trans HAL.out);generalize w4.alloc (.cells #[.slice none 0 0] 50)=w5 at *;clear HAL HY0 HY1 HU4;have HAL:Hid (Upd noBlk w5 (w5.alloc (.cells #[.int .i64 0,.int .i64 0,.int .i64 0,.int .i64 1,.int .i64 0,.int .i64 0,.int .i64 0,.int .i64 1,.int .i64 0] 45))):=(Upd.refl _ w5).alloc _;have HT:Hid ((w5.alloc (.cells #[.int .i64 0,.int .i64 0,.int .i64 0,.int .i64 1,.int .i64 0,.int .i64 0,.int .i64 0,.int .i64 1,.int .i64 0] 45)).heap[w5.heap.size]?=some (.cells #[.int .i64 0,.int .i64 0,.int .i64 0,.int .i64 1,.int .i64 0,.int .i64 0,.int .i64 0,.int .i64 1,.int .i64 0] 45 (0,0))):=heap_alloc_new w5 _;go_upto_region 5 with fail
 generalize w5.heap.size=b3 at *;have HY0:=Lib.hid (HAL.out.heap HX0.out id);have HY1:=Lib.hid (HAL.out.heap HX1.out id);have HU6:=Lib.hid (HU5.out.trans HAL.out);generalize w5.alloc (.cells #[.int .i64 0,.int .i64 0,.int .i64 0,.int .i64 1,.int .i64 0,.int .i64 0,.int .i64 0,.int .i64 1,.int .i64 0] 45)=w6 at *;clear HAL HX0 HX1 HU5;have HAL:Hid (Upd noBlk w6 (w6.alloc (.cells #[.int .i64 0,.int .i64 0,.int .i64 0,.int .i64 1,.int .i64 0,.int .i64 0,.int .i64 0,.int .i64 1,.int .i64 0] 45))):=(Upd.refl _ w6).alloc _;have HR:Hid ((w6.alloc (.cells #[.int .i64 0,.int .i64 0,.int .i64 0,.int .i64 1,.int .i64 0,.int .i64 0,.int .i64 0,.int .i64 1,.int .i64 0] 45)).heap[w6.heap.size]?=some (.cells #[.int .i64 0,.int .i64 0,.int .i64 0,.int .i64 1,.int .i64 0,.int .i64 0,.int .i64 0,.int .i64 1,.int .i64 0] 45 (0,0))):=heap_alloc_new w6 _;have HCL:=Lib.hid (Cluster_any _ [tEx] (by decide) ok_ex1 _ (tri_rd HR.out rfl));have HOC:=fun W=>Lib.hid (OpenCluster_any (clusterN [tEx]) (clusterN_lt _) W);rw [openN_back pack_ex] at HOC;have HU7:=Lib.hid (HU6.out.trans HAL.out);have HX0:=Lib.hid (HAL.out.heap HY0.out id);have HX1:=Lib.hid (HAL.out.heap HY1.out id);have HT1:=Lib.hid (HAL.out.heap HT.out id);obtain ⟨⟨c0,c1,c2,c3,c4,c5,c6,c7,c8⟩,⟨f0,f1,f2,f3,f4,f5,f6,f7,f8⟩⟩:=cellsF9 HT.out;clear HR HY0 HY1 HT HU6 HAL;go_wp2_with fail
 clear c0 c1 c2 c3 c4 c5 c6 c7 c8 f0 f1 f2 f3 f4 f5 f6 f7 f8;refine HCL.out.mono ?_;rintro e w7 ⟨rfl,u7⟩;have HY0:=Lib.hid (u7.heap HX0.out id);have HY1:=Lib.hid (u7.heap HX1.out id);have HT:=Lib.hid (u7.heap HT1.out id);have HU8:=Lib.hid (HU7.out.trans u7);have HOC1:=HOC w7;clear HX0 HX1 HT1 HU7 u7 HCL HOC;go_wp2_with fail
 refine HOC1.out.mono ?_;rintro e w8 ⟨u8,v,rfl,hv⟩;have HX0:=Lib.hid (u8.heap HY0.out id);have HX1:=Lib.hid (u8.heap HY1.out id);have HT1:=Lib.hid (u8.heap HT.out id);have HU9:=Lib.hid (HU8.out.trans u8);have HV:=Lib.hid hv;clear HY0 HY1 HT HU8 u8 HOC1 hv;go_upto_region 6 with fail
 have HRN:Hid (Calls Tryz.prog 25 #[.agg #[.slice none 0 0]] w8 fun en w'=>strR [3,0] w8 en w'):=by
  show Calls _ _ _ _ _;have h:=Root_any (.slice none 0 0) [] w8 (Kd.Rd.nil kPart w8);rw [if_neg (by decide),show (([]:List P32).map plainP)=[] from rfl,root_nil] at h;exact h
 have HGR:=fun W hW=>Lib.hid (Group_any gEx ok_gEx (.slice none 0 0) (.slice none 0 0) (.slice (some ⟨b0,0,none⟩) 1 1) W (Kd.Rd.nil kPart W) (Kd.Rd.nil kHash W) (mv_rd (fr:=(0,0)) hW));rw [if_pos right_ex,group_ex] at HGR;have HC2:=fun W v hW=>Lib.hid (Cluster_any v [tEx,tEx] (by decide) ok_ex2 W hW);rw [pack_ex2] at HC2;have HSM:=fun W v' h1 h2=>Lib.hid (hSame_any v v' (canon [tEx]) [tEx] (by rw [canon_length];decide) (by decide) W h1 h2);have hce:decide (canon (canon [tEx])=canon [tEx])=true:=by rw [canon_idem];exact decide_eq_true rfl
 rw [hce] at HSM;clear hce;have hs1:(bs [3,0]).toList=[3,0]:=bs_toList _;go_wp2_with fail
 refine HRN.out.mono ?_;rintro e w9 ⟨rfl,u9⟩;have HY0:=Lib.hid (u9.heap HX0.out id);have HY1:=Lib.hid (u9.heap HX1.out id);have HT:=Lib.hid (u9.heap HT1.out id);have HU10:=Lib.hid (HU9.out.trans u9);have HV1:=Lib.hid (HV.out.keep u9);have HGR1:=HGR w9 HY0.out;obtain ⟨⟨c0,c1,c2,c3,c4,c5,c6,c7⟩,⟨f0,f1,f2,f3,f4,f5,f6,f7⟩⟩:=cellsF8 HY1.out;clear HX0 HX1 HT1 HU9 u9 HRN HGR HV HY0 HY1;have hs2:(bs [2,1,0,0,1,1,2,3,4,5,172,2,7,200,1,3,5]).toList=[2,1,0,0,1,1,2,3,4,5,172,2,7,200,1,3,5]:=bs_toList _;go_wp2_with fail
 clear c0 c1 c2 c3 c4 c5 c6 c7 f0 f1 f2 f3 f4 f5 f6 f7 hs1;refine HGR1.out.mono ?_;rintro e w10 ⟨rfl,u10⟩;have HT1:=Lib.hid (u10.heap HT.out id);have HU11:=Lib.hid (HU10.out.trans u10);have HV:=Lib.hid (HV1.out.keep u10);obtain ⟨⟨c0,c1,c2,c3,c4,c5,c6,c7,c8⟩,⟨f0,f1,f2,f3,f4,f5,f6,f7,f8⟩⟩:=cellsF9 HT1.out;clear HT HU10 HV1 HGR1 u10;have HAL:Hid (Upd noBlk w10 (w10.alloc (.cells #[.int .i64 0,.int .i64 0,.int .i64 0,.int .i64 1,.int .i64 0,.int .i64 0,.int .i64 0,.int .i64 1,.int .i64 0,.int .i64 0,.int .i64 0,.int .i64 0,.int .i64 1,.int .i64 0,.int .i64 0,.int .i64 0,.int .i64 1,.int .i64 0] 45))):=(Upd.refl _ w10).alloc _;have HR:=heap_alloc_new w10 (.cells #[.int .i64 0,.int .i64 0,.int .i64 0,.int .i64 1,.int .i64 0,.int .i64 0,.int .i64 0,.int .i64 1,.int .i64 0,.int .i64 0,.int .i64 0,.int .i64 0,.int .i64 1,.int .i64 0,.int .i64 0,.int .i64 0,.int .i64 1,.int .i64 0] 45);have HC3:=HC2 _ _ (tri_rd (ts:=[tEx,tEx]) HR rfl);have HY:=Lib.hid (HAL.out.heap HT1.out id);have HV1:=Lib.hid (HV.out.keep HAL.out);have HU12:=Lib.hid (HU11.out.trans HAL.out);have hs1:(str []).toList=[]:=str_toList _;clear HR HC2 HV HT1 HU11 HAL;go_wp2_with fail
 clear c0 c1 c2 c3 c4 c5 c6 c7 c8 f0 f1 f2 f3 f4 f5 f6 f7 f8;refine HC3.out.mono ?_;rintro e w11 ⟨rfl,u11⟩;have HT:=Lib.hid (u11.heap HY.out id);have HU13:=Lib.hid (HU12.out.trans u11);have HV:=Lib.hid (HV1.out.keep u11);obtain ⟨⟨c0,c1,c2,c3,c4,c5,c6,c7,c8⟩,⟨f0,f1,f2,f3,f4,f5,f6,f7,f8⟩⟩:=cellsF9 HT.out;have HAL:Hid (Upd noBlk w11 (w11.alloc (.cells #[.int .i64 0,.int .i64 0,.int .i64 0,.int .i64 1,.int .i64 0,.int .i64 0,.int .i64 0,.int .i64 1,.int .i64 0] 45))):=(Upd.refl _ w11).alloc _;have HR:=heap_alloc_new w11 (.cells #[.int .i64 0,.int .i64 0,.int .i64 0,.int .i64 1,.int .i64 0,.int .i64 0,.int .i64 0,.int .i64 1,.int .i64 0] 45);have HSM1:=HSM _ _ (HV.out.keep HAL.out) (tri_rd (ts:=[tEx]) HR rfl);have HU14:=Lib.hid (HU13.out.trans HAL.out);clear HR HSM HV HT HU13 HAL HC3 HV1 HU12 HY u11 hs2;go_wp2_with fail
 refine HSM1.out.mono ?_;rintro e w12 ⟨rfl,u12⟩;have HU15:=Lib.hid (HU14.out.trans u12);clear HU14 u12 HSM1;go_wp2_with fail
 go_ret
 exact ⟨rfl,HU15.out⟩
end Go.Proofs.YtcikldoaidmnhaaGreatDoor
namespace Go.Proofs.YtcikldoaidmnhaaGreatDoor
open Go Go.RowKit Pk
set_option maxRecDepth 100000
theorem Kd.Own.lit {P:Program} {α:Type} {K:Kd P α} {base:Nat} {w:World} {g:Nat} {cs:Array Value} (l:List α) (hb:w.heap[g]?=some (.cells cs K.T (0,0))) (hc:cs=(l.flatMap K.enc).toArray) (hg:base≤g) (hl:l.length<4294967296):K.Own base w (.slice (some ⟨g,0,none⟩) l.length l.length) l:=by
 subst hc;unfold Kd.Own;refine ⟨K.flat_len l,.inr ⟨g,_,_,rfl,hg,hb,Nat.le_refl _,by unfold maxLen;omega,?_,?_⟩⟩
 ·rw [List.size_toArray,K.flat_len]
 ·rw [←K.flat_len l,List.take_length]
theorem quad_any (a b c d:Pt) (w:World):Calls Tryz.prog 91 #[ptV a,ptV b,ptV c,ptV d] w fun en w'=>∃g,en=.returned (.slice (some ⟨g,0,none⟩) 2 2)∧kTri.Own w.heap.size w' (.slice (some ⟨g,0,none⟩) 2 2) (quadT a b c d)∧Upd noBlk w w':=by
 obtain ⟨Q,hQ⟩:∃Q,Q=quadT a b c d:=⟨_,rfl⟩;have hQ2:Q.length=2:=by rw [hQ];rfl
 have hQc:(Q.flatMap kTri.enc).toArray=#[.int .i64 a.1,.int .i64 a.2.1,.int .i64 a.2.2,.int .i64 b.1,.int .i64 b.2.1,.int .i64 b.2.2,.int .i64 c.1,.int .i64 c.2.1,.int .i64 c.2.2,.int .i64 a.1,.int .i64 a.2.1,.int .i64 a.2.2,.int .i64 c.1,.int .i64 c.2.1,.int .i64 c.2.2,.int .i64 d.1,.int .i64 d.2.1,.int .i64 d.2.2]:=by rw [hQ];rfl
 rw [←hQ];have HQ2:=Lib.hid hQ2;have HQC:=Lib.hid hQc;clear hQ hQ2 hQc;obtain ⟨a0,a1,a2⟩:=a;obtain ⟨b0,b1,b2⟩:=b;obtain ⟨c0,c1,c2⟩:=c;obtain ⟨d0,d1,d2⟩:=d;simp only at HQC;unfold ptV;obtain ⟨w1,hw1⟩:∃w1,w1=(((w.alloc (.cells #[.int .i64 a0,.int .i64 a1,.int .i64 a2] 43)).alloc (.cells #[.int .i64 b0,.int .i64 b1,.int .i64 b2] 43)).alloc (.cells #[.int .i64 c0,.int .i64 c1,.int .i64 c2] 43)).alloc (.cells #[.int .i64 d0,.int .i64 d1,.int .i64 d2] 43):=⟨_,rfl⟩;have hs0:=World.size_alloc w (.cells #[.int .i64 a0,.int .i64 a1,.int .i64 a2] 43);have hs1:=World.size_alloc (w.alloc (.cells #[.int .i64 a0,.int .i64 a1,.int .i64 a2] 43)) (.cells #[.int .i64 b0,.int .i64 b1,.int .i64 b2] 43);have hs2:=World.size_alloc ((w.alloc (.cells #[.int .i64 a0,.int .i64 a1,.int .i64 a2] 43)).alloc (.cells #[.int .i64 b0,.int .i64 b1,.int .i64 b2] 43)) (.cells #[.int .i64 c0,.int .i64 c1,.int .i64 c2] 43);have HU:Hid (Upd noBlk w w1):=by show Upd _ _ _;rw [hw1];exact ((((Upd.refl _ w).alloc _).alloc _).alloc _).alloc _
 have HA:Hid (w1.heap[w.heap.size]?=some (.cells #[.int .i64 a0,.int .i64 a1,.int .i64 a2] 43 (0,0))):=by show _=_;rw [hw1];exact ((((Upd.refl noBlk _).alloc _).alloc _).alloc _).heap (heap_alloc_new w _) id
 have HB:Hid (w1.heap[w.heap.size+1]?=some (.cells #[.int .i64 b0,.int .i64 b1,.int .i64 b2] 43 (0,0))):=by
  show _=_;rw [hw1,←hs0];exact (((Upd.refl noBlk _).alloc _).alloc _).heap (heap_alloc_new _ _) id
 have HC:Hid (w1.heap[w.heap.size+1+1]?=some (.cells #[.int .i64 c0,.int .i64 c1,.int .i64 c2] 43 (0,0))):=by
  show _=_;rw [hw1,←hs0,←hs1];exact ((Upd.refl noBlk _).alloc _).heap (heap_alloc_new _ _) id
 have HD:Hid (w1.heap[w.heap.size+1+1+1]?=some (.cells #[.int .i64 d0,.int .i64 d1,.int .i64 d2] 43 (0,0))):=by
  show _=_;rw [hw1,←hs0,←hs1,←hs2];exact heap_alloc_new _ _
 clear hs0 hs1 hs2;go_enter Tryz.func91,Tryz.ntmps91
 go_upto_region 1 with fail
 rw [←hw1];clear hw1;have HWN:Hid (w.heap.size≤w1.heap.size):=HU.out.size;obtain ⟨N,hN⟩:∃N,N=w.heap.size:=⟨_,rfl⟩;rw [←hN] at HA HB HC HD ⊢;clear hN;obtain ⟨x0,x1,x2⟩:=cells3 HA.out;obtain ⟨x3,x4,x5⟩:=cells3 HB.out;obtain ⟨x6,x7,x8⟩:=cells3 HC.out;obtain ⟨x9,x10,x11⟩:=cells3 HD.out;go_wp2_with fail
 go_ret
 have h1:=heap_alloc_new w1 (.cells #[.int .i64 a0,.int .i64 a1,.int .i64 a2,.int .i64 b0,.int .i64 b1,.int .i64 b2,.int .i64 c0,.int .i64 c1,.int .i64 c2,.int .i64 a0,.int .i64 a1,.int .i64 a2,.int .i64 c0,.int .i64 c1,.int .i64 c2,.int .i64 d0,.int .i64 d1,.int .i64 d2] 45);have h2:=Kd.Own.lit (K:=kTri) (base:=w.heap.size) Q h1 HQC.out.symm HWN.out (by rw [HQ2.out];decide);rw [HQ2.out] at h2;exact ⟨_,rfl,h2,HU.out.alloc _⟩
theorem hill_any (x y:Nat) (step:Int) (v:Value) (hs:List Int) (w:World) (hx:x<100) (hy:y<100) (h0:0≤step) (h1:step≤1000000) (hl:hs.length≤9223372036854775807) (h:kInt.Rd w v hs) :
  Calls Tryz.prog 90 #[.int .i64 x,.int .i64 y,.int .i64 step,v] w fun en w'=>en=.returned (ptV (hillP x y step hs))∧Upd noBlk w w':=by
 obtain ⟨A,cap,rfl,hcap,hxx⟩:=h;have HX:=Lib.hid hxx;have HM:=fun n W=>Lib.hid (hMod_any n 64 (by decide) (by decide) W);have hl':(hs.length:Int)≤9223372036854775807:=by omega
 have p1:0≤(x:Int)*step∧(x:Int)*step≤100000000:=⟨Int.mul_nonneg (by omega) h0,Int.le_trans (Int.mul_le_mul (by omega:(x:Int)≤100) h1 h0 (by decide)) (by decide)⟩;have p2:0≤(y:Int)*step∧(y:Int)*step≤100000000:=⟨Int.mul_nonneg (by omega) h0,Int.le_trans (Int.mul_le_mul (by omega:(y:Int)≤100) h1 h0 (by decide)) (by decide)⟩;obtain ⟨px,hpx⟩:∃px,px=(x:Int)*step:=⟨_,rfl⟩;obtain ⟨py,hpy⟩:∃py,py=(y:Int)*step:=⟨_,rfl⟩;rw [←hpx] at p1;rw [←hpy] at p2;obtain ⟨p1a,p1b⟩:=p1;obtain ⟨p2a,p2b⟩:=p2;have wx:IntKind.i64.wrap ((x:Int)*step)=px:=by rw [←hpx];simp [IntKind.wrap,IntKind.signed,IntKind.bits];omega
 have wy:IntKind.i64.wrap ((y:Int)*step)=py:=by rw [←hpy];simp [IntKind.wrap,IntKind.signed,IntKind.bits];omega
 have HP:Hid (hillP x y step hs=(px,py,100+(if hs=[] then 0 else modI (hs.getD ((y*7+x) % hs.length) 0) 64))):=by show _=_;rw [hpx,hpy];rfl
 clear hpx hpy hxx hl h0 h1;have HZ:Hid ((w.alloc (.cells #[.int .i64 0,.int .i64 0,.int .i64 0] 43)).heap[w.heap.size]?=some (.cells #[.int .i64 0,.int .i64 0,.int .i64 0] 43 (0,0))):=heap_alloc_new w _;have HU0:Hid (Upd noBlk w (w.alloc (.cells #[.int .i64 0,.int .i64 0,.int .i64 0] 43))):=(Upd.refl _ w).alloc _;go_enter Tryz.func90,Tryz.ntmps90
 go_upto_region 1 with fail
 obtain ⟨N,hN⟩:∃N,N=w.heap.size:=⟨_,rfl⟩;have HWN:Hid (w.heap.size≤N):=by show _≤_;omega
 rw [←hN] at HZ ⊢;clear hN;generalize w.alloc (.cells #[.int .i64 0,.int .i64 0,.int .i64 0] 43)=w1 at *;go_upto_if 12 with fail
 go_cut [9,12] (fun c _ wc=>∃hh:Int,c=.int .i64 hh∧0≤hh∧hh≤64∧hillP x y step hs=(px,py,100+hh)∧Upd noBlk w1 wc)
 case first=>
  by_cases hn:hs=[]
  ·subst hn;rw [if_pos rfl] at HP;go_wp2_with fail
   go_meet
   exact ⟨0,rfl,by decide,by decide,HP.out,Upd.refl _ _⟩
  ·rw [if_neg hn] at HP;have hpos:0<hs.length:=by cases hs with | nil=>exact absurd rfl hn | cons a r=>simp
   have hpos':(0:Int)<(hs.length:Int):=by omega
   obtain ⟨k,hk⟩:∃k,k=(y*7+x) % hs.length:=⟨_,rfl⟩;have hkl:k<hs.length:=by rw [hk];exact Nat.mod_lt _ hpos
   have hk2:((y:Int)*7+(x:Int)).tmod (hs.length:Int)=(k:Int):=by rw [hk,Int.tmod_eq_emod_of_nonneg (by omega)];push_cast;rfl
   rw [←hk] at HP;clear hk;have hkl':(k:Int)<(hs.length:Int):=by omega
   have hne:((hs.length:Int) == 0)=false:=by rw [beq_eq_false_iff_ne];omega
   have hn1:¬(hs.length:Int)=-1:=by omega
   obtain ⟨b,off,rfl,f1⟩:=HX.out hpos;have hc:w1.cell? ⟨b,off+k,none⟩=some (.int .i64 (hs.getD k 0)):=by
    have:=(f1 k hkl).keep HU0.out;have hk1:kInt.k=1:=rfl;rw [hk1,Nat.mul_one] at this;rw [List.getD_eq_getElem?_getD,List.getElem?_eq_getElem hkl];exact this 0 _ rfl
   generalize hs.getD k 0=q at *;have HMQ:=HM q w1;have HR:=modI_range (n:=q) (m:=64) (by decide);have HR2:=Lib.hid HR;generalize modI q 64=md at *;clear f1 HX HM;go_wp2_with fail
   refine HMQ.out.mono ?_;rintro e w2 ⟨rfl,rfl⟩;go_wp2_with fail
   go_meet
   exact ⟨md,rfl,HR2.out.1,by have h:0≤md∧md<64:=HR2.out;omega,HP.out,Upd.refl _ _⟩
 case rest=>
  obtain ⟨hh,rfl,h0,h1,hp,hu⟩:=hcut;have HPP:=Lib.hid hp;have HU:=Lib.hid hu;have HZ2:=Lib.hid (hu.heap HZ.out id);clear hp hu HP HX HM;obtain ⟨c0,c1,c2⟩:=cells3 HZ2.out;have hf:∀j,wc.frozen? ⟨N,j,none⟩=false:=fun j=>by simp [World.frozen?,HZ2.out]
  obtain ⟨f0,f1,f2⟩:wc.frozen? ⟨N,0,none⟩=false∧wc.frozen? ⟨N,1,none⟩=false∧wc.frozen? ⟨N,2,none⟩=false:=⟨hf 0,hf 1,hf 2⟩;go_wp2_with fail
  have s0:=heap_setCell_eq (i:=0) (.int .i64 px) HZ2.out;have s1:=heap_setCell_eq (i:=1) (.int .i64 py) s0;have s2:=heap_setCell_eq (i:=2) (.int .i64 (100+hh)) s1;have hset:=(((Upd.refl (fun k=>k=N) wc).setCell (p:=⟨N,0,none⟩) (fun _=>rfl) (.int .i64 px)).setCell (p:=⟨N,1,none⟩) (fun _=>rfl) (.int .i64 py)).setCell (p:=⟨N,2,none⟩) (fun _=>rfl) (.int .i64 (100+hh))
  (try simp only [Exit.inBlock,Exit.then])
  refine bodyPost_ret (results_cell_row rfl _ _ N 43 _ (0,0) _ rfl s2 Tryz.underlying43 rfl (by kernel_rfl)) rfl ?_;rw [HPP.out];exact ⟨rfl,(HU0.out.trans HU.out).then hset (fun i hi e=>by have e':i=N:=e;have:=HWN.out;omega)⟩
end Go.Proofs.YtcikldoaidmnhaaGreatDoor
