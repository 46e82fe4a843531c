/- Parts: A part of a surface that is fine can be packed, and is its own canonical form. No condition. The surface of a set of cubes: its coordinates are permitted. No condition. The triangles of a shape are small. No condition. Walks of the reference's meshes: the order of edges, the border of a list. No condition. -/
import Derived.Test.YtcikldoaidmnhaaGreatDoorQFace3
import Derived.Test.YtcikldoaidmnhaaGreatDoorQFace7
import Derived.Test.YtcikldoaidmnhaaGreatDoorQFace27
import Derived.Test.YtcikldoaidmnhaaGreatDoorQFace28
namespace Go.Proofs.YtcikldoaidmnhaaGreatDoor
open Go Go.RowKit
namespace Pk
def lessE (a b:Pt × Pt):Bool:=if a.1≠b.1 then ptLt a.1 b.1 else ptLt a.2 b.2
def putE (out:List (Pt × Pt)) (e:Pt × Pt):List (Pt × Pt):=out.takeWhile (fun x=>lessE x e)++e :: out.dropWhile (fun x=>lessE x e)
def stepE (all out:List (Pt × Pt)) (e:Pt × Pt):List (Pt × Pt):=if 0<all.count (e.2,e.1)∨0<out.count e then out else putE out e
def borderE (all:List (Pt × Pt)):List (Pt × Pt):=all.foldl (stepE all) []
theorem putE_len (out:List (Pt × Pt)) (e:Pt × Pt):(putE out e).length=out.length+1:=by
 unfold putE;have h2:=congrArg List.length (List.takeWhile_append_dropWhile (p:=fun x=>lessE x e) (l:=out));rw [List.length_append] at h2;rw [List.length_append,List.length_cons];omega
theorem stepE_len (all out:List (Pt × Pt)) (e:Pt × Pt):(stepE all out e).length≤out.length+1:=by
 unfold stepE;split
 ·omega
 ·rw [putE_len];exact Nat.le_refl _
def checkR (op:Bool) (l:List Tri):Nat:=if l.any flatT then 20 else if (edgesL l).any (fun e=>decide (1<(edgesL l).count e)) then 21 else if op=false∧0<(borderE (edgesL l)).length then 22 else if (cornersL l).any (pinchedAt l) then 23 else 0
theorem checkR_zero {op:Bool} {l:List Tri} (h:checkR op l=0):checkO l=0:=by
 rw [←check_ref];unfold checkR at h;by_cases h1:l.any flatT=true
 ·rw [if_pos h1] at h;cases h
 ·rw [if_neg h1] at h ⊢;by_cases h2:(edgesL l).any (fun e=>decide (1<(edgesL l).count e))=true
  ·rw [if_pos h2] at h;cases h
  ·rw [if_neg h2] at h ⊢;by_cases h3:op=false∧0<(borderE (edgesL l)).length
   ·rw [if_pos h3] at h;cases h
   ·rw [if_neg h3] at h;exact h
theorem edgesL_append (a b:List Tri):edgesL (a++b)=edgesL a++edgesL b:=by unfold edgesL;rw [List.flatMap_append]
theorem third_part {x m y:List Tri} (hn:(edgesL (x++m++y)).Nodup) {p q r:Pt} (h:third m p q=some r):third (x++m++y) p q=some r:=by
 obtain ⟨t,ht,hr⟩:=third_some h;exact third_eq hn (by simp [ht]) hr
theorem ringN_part {x m y:List Tri} (hn:(edgesL (x++m++y)).Nodup) (p:Pt):∀(n:Nat) (q r:Pt),ringN m p n q=some r→ringN (x++m++y) p n q=some r
 | 0,q,r,h=>h
 | n+1,q,r,h=>by
  rw [ringN] at h ⊢;cases h1:third m p q with
  | none=>rw [h1] at h;cases h
  | some s=>
   rw [h1] at h;rw [third_part hn h1];exact ringN_part hn p n s r h
theorem checkO_part {x m y:List Tri} (h:checkO (x++m++y)=0):checkO m=0:=by
 obtain ⟨h1,h2,h3⟩:=checkO_zero.1 h;refine checkO_zero.2 ⟨fun t ht=>h1 t (by simp [ht]),?_,?_⟩
 ·rw [edgesL_append,edgesL_append,List.append_assoc] at h2;exact (List.nodup_append.1 (List.nodup_append.1 h2).2.1).1
 ·rw [Bool.eq_false_iff];intro h4;apply Bool.eq_false_iff.1 h3;unfold pinched at h4 ⊢;rw [List.any_eq_true] at h4 ⊢;obtain ⟨e,he,h5⟩:=h4;rw [List.any_eq_true] at h5;obtain ⟨n,hr,h6⟩:=h5;rw [Bool.and_eq_true,beq_iff_eq] at h6;refine ⟨e,by rw [edgesL_append,edgesL_append];simp [he],?_⟩;rw [List.any_eq_true];refine ⟨n,?_,?_⟩
  ·rw [List.mem_range] at hr ⊢;refine Nat.lt_of_lt_of_le hr ?_;unfold manyC;rw [List.flatMap_append,List.flatMap_append,List.count_append,List.count_append];omega
  ·rw [Bool.and_eq_true,beq_iff_eq];exact ⟨h6.1,ringN_part h2 e.1 n e.2 e.2 h6.2⟩
theorem canon_of {l:List Tri} (h1:∀t,t∈l→rot t=t) (h2:l.Pairwise (fun a b=>triLe a b=true)):canon l=l:=by
 unfold canon;have h3:l.map rot=l:=by
  conv=>rhs;rw [←List.map_id l]
  exact List.map_congr_left (fun t ht=>h1 t ht)
 rw [h3];exact sorted_unique (List.mergeSort_perm l triLe) (List.pairwise_mergeSort triLe_trans triLe_total l) h2
theorem canon_rot (l:List Tri):∀t,t∈canon l→rot t=t:=fun t ht=>by
 have h1:=(List.mergeSort_perm (l.map rot) triLe).mem_iff.1 ht;obtain ⟨s,_,rfl⟩:=List.mem_map.1 h1;exact rot_idem s
theorem canon_sorted (l:List Tri):(canon l).Pairwise (fun a b=>triLe a b=true):=List.pairwise_mergeSort triLe_trans triLe_total _
theorem canon_part {l x m y:List Tri} (h:canon l=x++m++y):canon m=m:=by
 refine canon_of (fun t ht=>canon_rot l t (by rw [h];simp [ht])) ?_;have h2:=canon_sorted l;rw [h] at h2;rw [List.append_assoc] at h2;exact (List.pairwise_append.1 (List.pairwise_append.1 h2).2.1).1
theorem part_packs {l x m y:List Tri} (h:canon l=x++m++y) (hc:checkO (canon l)=0) (hi:∀t,t∈l→inT t) (hm:m.length≤128):openN (clusterN m)=some m:=by
 rw [h] at hc;have hp:packable m=true:=by
  unfold packable;rw [checkO_part hc,Bool.and_eq_true,Bool.and_eq_true,List.all_eq_true];refine ⟨⟨fun t ht=>?_,decide_eq_true hm⟩,decide_eq_true rfl⟩;have h1:t∈canon l:=by rw [h];simp [ht]
  obtain ⟨s,hs,hr⟩:∃s,s∈l∧rot s=t:=by
   have h2:=(List.mergeSort_perm (l.map rot) triLe).mem_iff.1 h1;obtain ⟨s,hs,e⟩:=List.mem_map.1 h2;exact ⟨s,hs,e⟩
  rw [coordT_in,←hr];exact (rot_rot s).inT (hi s hs)
 rw [openN_cluster hp,canon_part h]
end Pk
end Go.Proofs.YtcikldoaidmnhaaGreatDoor
namespace Go.Proofs.YtcikldoaidmnhaaGreatDoor
open Go Go.RowKit Pk
set_option maxRecDepth 100000
set_option maxHeartbeats 1000000 in
theorem hLessEdge_any (a b:Pt × Pt) (w:World):Calls Tryz.prog 155 #[.agg (prC a).toArray,.agg (prC b).toArray] w fun en w'=>en=.returned (.bool (lessE a b))∧Upd noBlk w w':=by
 have hl:=fun p q W=>Lib.hid (oLess_any p q W);obtain ⟨R,hR⟩:∃R,R=lessE a b:=⟨_,rfl⟩;rw [←hR];obtain ⟨⟨a0,a1,a2⟩,⟨a3,a4,a5⟩⟩:=a;obtain ⟨⟨b0,b1,b2⟩,⟨b3,b4,b5⟩⟩:=b;obtain ⟨w1,hw1⟩:∃w1,w1=(w.alloc (.cells #[.int .i64 a0,.int .i64 a1,.int .i64 a2,.int .i64 a3,.int .i64 a4,.int .i64 a5] 201)).alloc (.cells #[.int .i64 b0,.int .i64 b1,.int .i64 b2,.int .i64 b3,.int .i64 b4,.int .i64 b5] 201):=⟨_,rfl⟩;have HU:Hid (Upd noBlk w w1):=by show Upd _ _ _;rw [hw1];exact ((Upd.refl _ w).alloc _).alloc _
 have HA:Hid (w1.heap[w.heap.size]?=some (.cells #[.int .i64 a0,.int .i64 a1,.int .i64 a2,.int .i64 a3,.int .i64 a4,.int .i64 a5] 201 (0,0))):=by show _=_;rw [hw1];exact ((Upd.refl noBlk _).alloc _).heap (heap_alloc_new w _) id
 have HB:Hid (w1.heap[w.heap.size+1]?=some (.cells #[.int .i64 b0,.int .i64 b1,.int .i64 b2,.int .i64 b3,.int .i64 b4,.int .i64 b5] 201 (0,0))):=by
  show _=_;rw [hw1];have:=heap_alloc_new (w.alloc (.cells #[.int .i64 a0,.int .i64 a1,.int .i64 a2,.int .i64 a3,.int .i64 a4,.int .i64 a5] 201)) (.cells #[.int .i64 b0,.int .i64 b1,.int .i64 b2,.int .i64 b3,.int .i64 b4,.int .i64 b5] 201);rwa [World.size_alloc] at this
 unfold prC;simp only;go_enter Tryz.func155,Tryz.ntmps155
 go_upto_region 1 with fail
 rw [←hw1];clear hw1;generalize w.heap.size=ba at *;obtain ⟨bb,hbb⟩:∃bb,bb=ba+1:=⟨_,rfl⟩;rw [←hbb] at HB ⊢;clear hbb;obtain ⟨g0,g1,g2,g3,g4,g5⟩:=cells6 HA.out;obtain ⟨k0,k1,k2,k3,k4,k5⟩:=cells6 HB.out;by_cases he:((a0,a1,a2):Pt)=(b0,b1,b2)
 ·have HR:Hid (R=ptLt (a3,a4,a5) (b3,b4,b5)):=by show _=_;rw [hR];unfold lessE;rw [if_neg (by simpa using he)]
  clear hR;cases he;go_wp2_with fail
  refine (hl (a3,a4,a5) (b3,b4,b5) _).out.mono ?_;rintro e w3 ⟨rfl,u1⟩;have HU1:=Lib.hid (HU.out.trans u1);rw [←HR.out];clear u1 HU HA HB g0 g1 g2 g3 g4 g5 k0 k1 k2 k3 k4 k5;go_wp2_with fail
  go_ret
  exact ⟨rfl,HU1.out⟩
 ·have HR:Hid (R=ptLt (a0,a1,a2) (b0,b1,b2)):=by show _=_;rw [hR];unfold lessE;rw [if_pos (by simpa using he)]
  clear hR;rcases pt_ne he with e0 | ⟨rfl,e1⟩ | ⟨rfl,rfl,e2⟩
  all_goals
   go_wp2_with fail
   refine (hl (_,_,_) (_,_,_) _).out.mono ?_;rintro e w3 ⟨rfl,u1⟩;have HU1:=Lib.hid (HU.out.trans u1);rw [←HR.out];go_wp2_with fail
   go_ret
   exact ⟨rfl,HU1.out⟩
theorem foldE_succ (all:List (Pt × Pt)) {k:Nat} (hk:k<all.length):(all.take (k+1)).foldl (stepE all) []=stepE all ((all.take k).foldl (stepE all) []) all[k]:=by
 rw [List.take_succ_eq_append_getElem hk,List.foldl_append];rfl
theorem foldE_len (all:List (Pt × Pt)):∀(m o:List (Pt × Pt)),(m.foldl (stepE all) o).length≤o.length+m.length
 | [],o=>by simp
 | e :: m,o=>by
  rw [List.foldl_cons];have h1:=foldE_len all m (stepE all o e);have h2:=stepE_len all o e;simp only [List.length_cons];omega
theorem putE_at {l:List (Pt × Pt)} {e:Pt × Pt} {k:Nat} (hk:k≤l.length) (h1:∀j (hj:j<l.length),j<k→lessE l[j] e=true) (h2:∀hk:k<l.length,lessE l[k] e=false):putE l e=l.take k++[e]++l.drop k:=by
 obtain ⟨e1,e2⟩:=tw_split (fun q=>lessE q e) l k hk h1 h2;unfold putE;rw [e1,e2,List.append_assoc];rfl
set_option maxHeartbeats 4000000 in
theorem hBorder_any (v:Value) (l:List Tri) (hn:l.length≤100000) (w:World) (h:kTri.Rd w v l) :
  Calls Tryz.prog 128 #[v] w fun en w'=>∃A c,en=.returned (.slice A (borderE (edgesL l)).length c)∧Upd noBlk w w':=by
 have HED:=Lib.hid (hEdges_any v l (by omega) w h);have HCN:=fun v l e h1 W h2=>Lib.hid (hcount_any v l e h1 W h2);have HLE:=fun a b W=>Lib.hid (hLessEdge_any a b W);have HAL:Hid ((edgesL l).length≤300000):=by show _≤_;rw [edgesL_length];omega
 clear h hn;generalize edgesL l=all at *;unfold borderE;have hal:(all.length:Int)≤300000:=by have:=HAL.out;omega
 go_enter Tryz.func128,Tryz.ntmps128
 go_wp2_with fail
 refine HED.out.mono ?_;rintro e w1 ⟨va,rfl,hva,u1⟩;have U1:=Lib.hid u1;obtain ⟨Aa,ca,rfl,_⟩:=hva.form;have HVA:=Lib.hid hva.rd;clear hva u1 HED;go_wp2_with fail
 go_loopw [4,5] (fun o i wr=>∃k:Nat,i=.int .i64 k∧k≤all.length∧kPair.Rd wr o ((all.take k).foldl (stepE all) [])∧Upd noBlk w1 wr) (fun _ i _=>all.length-(intOf i).toNat)
 case atStart=>exact ⟨0,rfl,Nat.zero_le _,Kd.Rd.nil _ _,Upd.refl _ _⟩
 case round=>
  obtain ⟨k,rfl,hk,ho,hu⟩:=hrel;have HO:=Lib.hid ho;have HU:=Lib.hid hu;clear ho hu;by_cases hlt:k<all.length
  ·have hlt':(k:Int)<(all.length:Int):=by omega
   have HK:Hid (k<all.length):=hlt;have hkw:IntKind.i64.wrap ((k:Int)+1)=(k:Int)+1:=wrapN (by omega) (by omega);obtain ⟨A0,c0,e0,_,hx⟩:=HVA.out.keep HU.out;cases e0;obtain ⟨b,off,rfl,f1⟩:=hx (by omega);have hat:=f1 k hlt;rw [show kPair.k=6 from rfl] at hat;obtain ⟨g0,g1,g2,g3,g4,g5⟩:=prAt6 hat;have HF:=Lib.hid (foldE_succ all hlt);have HOL:Hid (((all.take k).foldl (stepE all) []).length≤300000):=by
    have h1:=foldE_len all (all.take k) [];rw [List.length_take] at h1;have h2:=HAL.out;show _≤_;simp only [List.length_nil] at h1;omega
   clear hx f1 hat hk;generalize all[k]=e at *;clear hlt;obtain ⟨out,hout⟩:∃out,out=(all.take k).foldl (stepE all) []:=⟨_,rfl⟩;rw [←hout] at HO HF HOL;clear hout;obtain ⟨⟨e0,e1,e2⟩,⟨e3,e4,e5⟩⟩:=e;simp only at g0 g1 g2 g3 g4 g5;obtain ⟨Ao,co,rfl,hco,_⟩:=id HO.out;have HFZ:Hid ((wr.alloc (.cells #[.int .i64 e0,.int .i64 e1,.int .i64 e2,.int .i64 e3,.int .i64 e4,.int .i64 e5] 201)).heap[wr.heap.size]?=some (.cells #[.int .i64 e0,.int .i64 e1,.int .i64 e2,.int .i64 e3,.int .i64 e4,.int .i64 e5] 201 (0,0))):=heap_alloc_new wr _;have hal2:Upd noBlk wr (wr.alloc (.cells #[.int .i64 e0,.int .i64 e1,.int .i64 e2,.int .i64 e3,.int .i64 e4,.int .i64 e5] 201)):=(Upd.refl _ wr).alloc _;have HU2:=Lib.hid (HU.out.trans hal2);have HO2:=Lib.hid (HO.out.keep hal2);clear hal2 HO;go_upto_region 7 with fail
   generalize wr.alloc (.cells #[.int .i64 e0,.int .i64 e1,.int .i64 e2,.int .i64 e3,.int .i64 e4,.int .i64 e5] 201)=w2 at *;generalize wr.heap.size=eb at *;clear g0 g1 g2 g3 g4 g5;have HC1:=HCN _ all ((e3,e4,e5),(e0,e1,e2)) (by have:=HAL.out;omega) w2 (HVA.out.keep HU2.out);unfold prC at HC1;simp only at HC1;have HC2:=fun W (hW:Upd noBlk w2 W)=>Lib.hid (HCN _ out ((e0,e1,e2),(e3,e4,e5)) (by have:=HOL.out;omega) W (HO2.out.keep hW)).out;unfold prC at HC2;simp only at HC2;obtain ⟨z0,z1,z2,z3,z4,z5⟩:=cells6 HFZ.out;rcases hn1:all.count ((e3,e4,e5),(e0,e1,e2)) with _ | n1
   ·rw [hn1] at HC1;rcases hn2:out.count ((e0,e1,e2),(e3,e4,e5)) with _ | n2
    ·rw [hn2] at HC2;have HF2:Hid ((all.take (k+1)).foldl (stepE all) []=putE out ((e0,e1,e2),(e3,e4,e5))):=by show _=_;rw [HF.out];unfold stepE;exact if_neg (by simp only;rw [hn1,hn2];simp)
     clear hn1 hn2 HF;go_wp2_with fail
     refine HC1.out.mono ?_;rintro e w3 ⟨rfl,u3⟩;have U3:=Lib.hid u3;clear u3 HC1 z0 z1 z2 z3 z4 z5;obtain ⟨z0,z1,z2,z3,z4,z5⟩:=cells6 (U3.out.heap HFZ.out id);have HC3:=HC2 w3 U3.out;clear HC2;go_wp2_with fail
     refine HC3.out.mono ?_;rintro e w4 ⟨rfl,u4⟩;have U4:=Lib.hid (U3.out.trans u4);have HU4:=Lib.hid (HU2.out.trans U4.out);have HZ4:=Lib.hid (U4.out.heap HFZ.out id);have HO4:=Lib.hid (HO2.out.keep U4.out);clear u4 HC3 z0 z1 z2 z3 z4 z5 U3 U4 HU2 HFZ HO2 HCN HU;have HPA:=fun k h0 h1 h2=>Lib.hid (putE_at (l:=out) (e:=((e0,e1,e2),(e3,e4,e5))) (k:=k) h0 h1 h2);have hol:(out.length:Int)≤300000:=by have:=HOL.out;omega
     have hcap':(out.length:Int)≤(co:Int):=by omega
     clear hco;go_upto_block 2 with fail
     go_cut [7,8] (fun i _ wc=>∃j:Nat,i=.int .i64 j∧j≤out.length∧putE out ((e0,e1,e2),(e3,e4,e5))=out.take j++[((e0,e1,e2),(e3,e4,e5))]++out.drop j∧Upd noBlk w4 wc)
     case first=>
      go_wp2_with fail
      go_loopw [7,8] (fun i _ wz=>∃j:Nat,i=.int .i64 j∧j≤out.length∧(∀m (hm:m<out.length),m<j→lessE out[m] ((e0,e1,e2),(e3,e4,e5))=true)∧Upd noBlk w4 wz) (fun i _ _=>out.length-(intOf i).toNat)
      case atStart=>exact ⟨0,rfl,Nat.zero_le _,fun m _ h=>absurd h (Nat.not_lt_zero _),Upd.refl _ _⟩
      case round=>
       obtain ⟨j,rfl,hj,hb,hu⟩:=hrel;have HB:=Lib.hid hb;have HV:=Lib.hid hu;have HZR:=Lib.hid (hu.heap HZ4.out id);clear hb hu;by_cases hjl:j<out.length
       ·have hjl':(j:Int)<(out.length:Int):=by omega
        obtain ⟨A1,c1,ea,_,hx⟩:=HO4.out.keep HV.out;cases ea;obtain ⟨ob,off2,rfl,f1⟩:=hx (by omega);have hc:=f1 j hjl;rw [show kPair.k=6 from rfl] at hc;have HC:=Lib.hid hc;have HST:Hid (lessE out[j] ((e0,e1,e2),(e3,e4,e5))=false→putE out ((e0,e1,e2),(e3,e4,e5))=out.take j++[((e0,e1,e2),(e3,e4,e5))]++out.drop j):=fun h=>(HPA j (by omega) HB.out (fun _=>h)).out;have HGO:Hid (lessE out[j] ((e0,e1,e2),(e3,e4,e5))=true→∀m (hm:m<out.length),m<j+1→lessE out[m] ((e0,e1,e2),(e3,e4,e5))=true):=fun h m hm hmj=>by
         rcases (by omega:m<j∨m=j) with h' | rfl
         ·exact HB.out m hm h'
         ·exact h
        have HJ:Hid (j<out.length):=hjl;have hjw:IntKind.i64.wrap ((j:Int)+1)=(j:Int)+1:=wrapN (by omega) (by omega);clear f1 hc hj hx;generalize out[j]=q at *;clear hjl;obtain ⟨⟨q0,q1,q2⟩,⟨q3,q4,q5⟩⟩:=q;have HLT:=Lib.hid (HLE ((q0,q1,q2),(q3,q4,q5)) ((e0,e1,e2),(e3,e4,e5)) wr.drew).out;go_wp2_with fail
        refine wp_region_tree 5 (OT.sures [0,1,4,2,3] .nil) (fun w'=>Gr wr w') (by kernel_rfl) (by kernel_rfl) (fun c a d v w h=>by cases d<;>exact h) ((Gr.refl wr).drew) ?_
        simp only [OT.sures]
        iterate 5 (apply wpT_sure rfl rfl;focus (intro w' hw';obtain ⟨z0,z1,z2,z3,z4,z5⟩:=cells6 (hw'.heap HZR.out id);obtain ⟨d0,d1,d2,d3,d4,d5⟩:=prAt6 (HC.out.keep hw'.up);go_simp;rfl))
        refine wpT_nil ?_;unfold prC at HLT;simp only at HLT;go_wp2_with fail
        refine HLT.out.mono ?_;rintro e w5 ⟨rfl,u5⟩;have U5:=Lib.hid (HV.out.trans ((Upd.refl noBlk wr).drew.trans u5));clear u5 HLT HC HV HZR;rcases hlt9:lessE ((q0,q1,q2),(q3,q4,q5)) ((e0,e1,e2),(e3,e4,e5)) with _ | _
        ·have HFX:=Lib.hid (HST.out hlt9);clear hlt9 HST HGO;go_wp2_with fail
         go_meet
         exact ⟨j,rfl,Nat.le_of_lt HJ.out,HFX.out,U5.out⟩
        ·have HFX:=Lib.hid (HGO.out hlt9);clear hlt9 HST HGO;go_wp2_with fail
         go_roundw
         case rel=>exact ⟨j+1,by push_cast;rfl,HJ.out,HFX.out,U5.out⟩
         case measure=>simp only [intOf];have:=HJ.out;omega
       ·obtain rfl:j=out.length:=by omega
        have HFX:=Lib.hid (HPA out.length (Nat.le_refl _) HB.out (fun h=>absurd h (Nat.lt_irrefl _))).out;clear HB;go_wp2_with fail
        go_meet
        exact ⟨_,rfl,Nat.le_refl _,HFX.out,HV.out⟩
     case rest=>
      obtain ⟨j,rfl,hj,hr,hu⟩:=hcut;have HR:Hid ((all.take (k+1)).foldl (stepE all) []=out.take j++[((e0,e1,e2),(e3,e4,e5))]++out.drop j):=HF2.out.trans hr;have HUX:=Lib.hid (HU4.out.trans hu);have HZX:=Lib.hid (hu.heap HZ4.out id);have HRX:=Lib.hid (HO4.out.keep hu);have HJ:Hid (j≤out.length):=hj;have hjI:(j:Int)≤(out.length:Int):=by omega
      have hjc:(j:Int)≤(co:Int):=by omega
      clear hr hu hj HPA HF2 HU4 HZ4 HO4;have hlt:(out.take j).length=j:=by rw [List.length_take,Nat.min_eq_left HJ.out]
      have hr1:kPair.Rd wc (.slice Ao (out.take j).length co) (out.take j):=by
       have h:=HRX.out.takeV j HJ.out;rw [←congrArg (fun n=>Value.slice Ao n co) hlt] at h;exact h
      obtain ⟨A1,c1,x1,r1,o1,v1⟩:=(Kd.Own.nil kPair wc.heap.size wc).appR (Nat.le_refl _) hr1 (by rw [hlt];have:=HOL.out;have:=HJ.out;simp only [List.length_nil];omega);simp only [List.length_nil,Nat.zero_add,List.nil_append,hlt] at r1 o1;have R1:=Lib.hid r1;have v1':Upd noBlk wc x1:=v1.mono (fun i _ e=>by cases e);have HZ1:=Lib.hid (v1'.heap HZX.out id);obtain ⟨g2,c2,x2,r2,o2,v2,_⟩:=o1.app1 v1'.size ((e0,e1,e2),(e3,e4,e5)) (by rw [hlt];have:=HOL.out;have:=HJ.out;omega);rw [hlt] at r2 o2;have R2:=Lib.hid r2;have v2':Upd noBlk wc x2:=v1'.then v2 (fun i hi e=>absurd hi (by have:=(o1.blk e).1;omega));have hdr:=HRX.out.keep v2';have hdr2:=hdr.dropV j HJ.out;have hld:(out.drop j).length=out.length-j:=List.length_drop;have hk6:kPair.k=6:=rfl;rw [hk6] at hdr2;have HU2:=Lib.hid (HUX.out.trans v2');have ed2:dropV Ao out.length co j 6=.slice (if co=j then Ao else Ao.map (fun a=>a.add (j*6))) (out.drop j).length (co-j):=by unfold dropV;rw [hld]
      rw [ed2] at hdr2;have hl2:(out.take j++[((e0,e1,e2),(e3,e4,e5))]).length=j+1:=by rw [List.length_append,hlt];rfl
      rw [←hl2] at o2;obtain ⟨A3,c3,x3,r3,o3,v3⟩:=o2.appR v2'.size hdr2 (by rw [hl2,hld];have:=HOL.out;have:=HJ.out;omega);rw [hl2,hld] at r3;have HU3:=Lib.hid (HU2.out.then v3 (fun i hi e=>absurd hi (by have:=(o2.blk e).1;have:=HUX.out.size;omega)));have R3:=Lib.hid r3;have HO3:Hid (kPair.Rd x3 (.slice A3 (j+1+(out.length-j)) c3) ((all.take (k+1)).foldl (stepE all) [])):=by
       show Kd.Rd _ _ _ _;have h:=o3.rd;rw [hl2,hld] at h;rw [HR.out];exact h
      clear r1 o1 v1 r2 o2 v2 r3 o3 v3 hdr hdr2 hr1 hld hlt hl2 ed2 hk6 v1' v2' HR HRX;obtain ⟨z0,z1,z2,z3,z4,z5⟩:=cells6 HZ1.out;go_upto_region 15 with (at_builtin;refine wpList_append_run rfl _ _ _ rfl rfl rfl R1.out ?_)
      go_upto_region 16 with (at_builtin;refine wpList_append_run rfl _ _ _ rfl rfl rfl R2.out ?_)
      have hj0:(0:Int)≤(j:Int):=by omega
      clear z0 z1 z2 z3 z4 z5 R1 R2 HZ1 HZX HUX HU2;by_cases hc:co=j
      ·subst hc;simp only [if_true] at R3;cases Ao with
       | none=>
        go_wp2_with (at_builtin;refine wpList_append_run rfl _ _ _ rfl rfl rfl R3.out ?_)
        exact ⟨⟨k+1,by push_cast;rfl,HK.out,HO3.out,HU3.out⟩,by simp only [intOf];have:=HK.out;omega⟩
       | some a=>
        go_wp2_with (at_builtin;refine wpList_append_run rfl _ _ _ rfl rfl rfl R3.out ?_)
        exact ⟨⟨k+1,by push_cast;rfl,HK.out,HO3.out,HU3.out⟩,by simp only [intOf];have:=HK.out;omega⟩
      ·simp only [if_neg hc] at R3;cases Ao with
       | none=>
        simp only [Option.map_none] at R3;go_wp2_with (at_builtin;refine wpList_append_run rfl _ _ _ rfl rfl rfl R3.out ?_)
        exact ⟨⟨k+1,by push_cast;rfl,HK.out,HO3.out,HU3.out⟩,by simp only [intOf];have:=HK.out;omega⟩
       | some a=>
        simp only [Option.map_some] at R3;go_wp2_with (at_builtin;refine wpList_append_run rfl _ _ _ rfl rfl rfl R3.out ?_)
        exact ⟨⟨k+1,by push_cast;rfl,HK.out,HO3.out,HU3.out⟩,by simp only [intOf];have:=HK.out;omega⟩
    ·rw [hn2] at HC2;have HF2:Hid ((all.take (k+1)).foldl (stepE all) []=out):=by show _=_;rw [HF.out];unfold stepE;exact if_pos (by simp only;omega)
     have hn2':(0:Int)<((n2+1:Nat):Int):=by omega
     clear hn1 hn2 HF;go_wp2_with fail
     refine HC1.out.mono ?_;rintro e w3 ⟨rfl,u3⟩;have U3:=Lib.hid u3;clear u3 HC1 z0 z1 z2 z3 z4 z5;obtain ⟨z0,z1,z2,z3,z4,z5⟩:=cells6 (U3.out.heap HFZ.out id);have HC3:=HC2 w3 U3.out;clear HC2;go_wp2_with fail
     refine HC3.out.mono ?_;rintro e w4 ⟨rfl,u4⟩;have U4:=Lib.hid (U3.out.trans u4);clear u4 HC3 z0 z1 z2 z3 z4 z5;go_wp2_with fail
     refine ⟨⟨k+1,by push_cast;rfl,HK.out,?_,HU2.out.trans U4.out⟩,by simp only [intOf];have:=HK.out;omega⟩;rw [HF2.out];exact HO2.out.keep U4.out
   ·rw [hn1] at HC1;have HF2:Hid ((all.take (k+1)).foldl (stepE all) []=out):=by show _=_;rw [HF.out];unfold stepE;exact if_pos (by simp only;omega)
    have hn1':(0:Int)<((n1+1:Nat):Int):=by omega
    clear hn1 HF HC2;go_wp2_with fail
    refine HC1.out.mono ?_;rintro e w3 ⟨rfl,u3⟩;have U3:=Lib.hid u3;clear u3 HC1 z0 z1 z2 z3 z4 z5;go_wp2_with fail
    refine ⟨⟨k+1,by push_cast;rfl,HK.out,?_,HU2.out.trans U3.out⟩,by simp only [intOf];have:=HK.out;omega⟩;rw [HF2.out];exact HO2.out.keep U3.out
  ·obtain rfl:k=all.length:=by omega
   have h2:=HO.out;rw [List.take_length] at h2;obtain ⟨A,c,rfl,_⟩:=h2;go_wp2_with fail
   go_ret
   exact ⟨_,_,rfl,U1.out.trans HU.out⟩
end Go.Proofs.YtcikldoaidmnhaaGreatDoor
namespace Go.Proofs.YtcikldoaidmnhaaGreatDoor
open Go Go.RowKit Pk
def smP (p:Pt):Prop:=(0≤p.1∧p.1≤10000000)∧(0≤p.2.1∧p.2.1≤10000000)∧(0≤p.2.2∧p.2.2≤10000000)
def smT (t:Tri):Prop:=smP t.1∧smP t.2.1∧smP t.2.2
theorem smP_z:smP (0,0,0):=⟨⟨by decide,by decide⟩,⟨by decide,by decide⟩,⟨by decide,by decide⟩⟩
theorem smT_z:smT z3:=⟨smP_z,smP_z,smP_z⟩
theorem smT_ok {t:Tri} (h:smT t):okT t:=by
 obtain ⟨⟨a,b,c⟩,⟨d,e,f⟩,⟨g,i,j⟩⟩:=h;refine ⟨⟨?_,?_,?_⟩,⟨?_,?_,?_⟩,⟨?_,?_,?_⟩⟩<;>(first | omega | (constructor<;>omega))
theorem getD_sm {l:List Tri} (h:∀t,t∈l→smT t) (i:Nat):smT (l.getD i z3):=by
 rw [List.getD_eq_getElem?_getD];cases hg:l[i]? with
 | none=>exact smT_z
 | some t=>exact h t (List.mem_of_getElem? hg)
theorem quad_sm {a b c d:Pt} (ha:smP a) (hb:smP b) (hc:smP c) (hd:smP d):∀t,t∈quadT a b c d→smT t:=by
 intro t ht;simp only [quadT,List.mem_cons,List.not_mem_nil,or_false] at ht;rcases ht with rfl | rfl
 ·exact ⟨ha,hb,hc⟩
 ·exact ⟨ha,hc,hd⟩
theorem app_sm {a b:List Tri} (ha:∀t,t∈a→smT t) (hb:∀t,t∈b→smT t):∀t,t∈a++b→smT t:=fun t ht=>(List.mem_append.1 ht).elim (ha t) (hb t)
theorem small_mul {a b s:Int} (ha:0≤a) (hab:a≤b) (hs:0≤s) (hm:s≤1000000) (hb:b≤8):0≤a*s∧a*s≤8000000:=
 ⟨Int.mul_nonneg ha hs,Int.le_trans (Int.mul_le_mul (by omega:a≤8) hm hs (by decide)) (by decide)⟩
theorem cubeP_sm {p:Pt} {s:Int} (hp:(0≤p.1∧p.1≤1900000)∧(0≤p.2.1∧p.2.1≤1900000)∧(0≤p.2.2∧p.2.2≤1900000)) (h0:0≤s) (h1:s≤1000000) (n:Nat) (hn:n<8):smP (cubeP p s n):=by
 obtain ⟨⟨a,b⟩,⟨c,d⟩,⟨e,f⟩⟩:=hp;have k1:=small_mul (a:=((n % 2:Nat):Int)) (b:=8) (by omega) (by omega) h0 h1 (by decide);have k2:=small_mul (a:=((n / 2 % 2:Nat):Int)) (b:=8) (by omega) (by omega) h0 h1 (by decide);have k3:=small_mul (a:=((n / 4:Nat):Int)) (b:=8) (by omega) (by omega) h0 h1 (by decide);unfold cubeP smP;simp only;generalize ((n % 2:Nat):Int)*s=x at *;generalize ((n / 2 % 2:Nat):Int)*s=y at *;generalize ((n / 4:Nat):Int)*s=z at *;omega
theorem cube_sm {p:Pt} {s:Int} (hp:(0≤p.1∧p.1≤1900000)∧(0≤p.2.1∧p.2.1≤1900000)∧(0≤p.2.2∧p.2.2≤1900000)) (h0:0≤s) (h1:s≤1000000):∀t,t∈cubeT p s→smT t:=by
 have h:=fun n hn=>cubeP_sm hp h0 h1 n hn;unfold cubeT;exact app_sm (app_sm (app_sm (app_sm (app_sm (quad_sm (h 0 (by decide)) (h 2 (by decide)) (h 3 (by decide)) (h 1 (by decide))) (quad_sm (h 4 (by decide)) (h 5 (by decide)) (h 7 (by decide)) (h 6 (by decide)))) (quad_sm (h 0 (by decide)) (h 1 (by decide)) (h 5 (by decide)) (h 4 (by decide)))) (quad_sm (h 2 (by decide)) (h 6 (by decide)) (h 7 (by decide)) (h 3 (by decide)))) (quad_sm (h 0 (by decide)) (h 4 (by decide)) (h 6 (by decide)) (h 2 (by decide)))) (quad_sm (h 1 (by decide)) (h 3 (by decide)) (h 7 (by decide)) (h 5 (by decide)))
theorem voxels_sm {b s:Int} (h0:0≤s) (h1:s≤600000):∀t,t∈voxelsT b s (7,5,0)→smT t:=by
 intro t ht;obtain ⟨n,hn,ht⟩:=List.mem_flatMap.1 ht;have hn:=List.mem_range.1 hn;unfold cubeV at ht;split at ht
 ·obtain ⟨f,_,ht⟩:=List.mem_flatMap.1 ht;have k1:0≤((n % 3:Nat):Int)*s∧((n % 3:Nat):Int)*s≤1200000:=⟨Int.mul_nonneg (by omega) h0,Int.le_trans (Int.mul_le_mul (by omega:((n % 3:Nat):Int)≤2) h1 h0 (by decide)) (by decide)⟩;have k2:0≤((n / 3 % 3:Nat):Int)*s∧((n / 3 % 3:Nat):Int)*s≤1200000:=⟨Int.mul_nonneg (by omega) h0,Int.le_trans (Int.mul_le_mul (by omega:((n / 3 % 3:Nat):Int)≤2) h1 h0 (by decide)) (by decide)⟩;have k3:0≤((n / 9:Nat):Int)*s∧((n / 9:Nat):Int)*s≤1200000:=⟨Int.mul_nonneg (by omega) h0,Int.le_trans (Int.mul_le_mul (by omega:((n / 9:Nat):Int)≤2) h1 h0 (by decide)) (by decide)⟩;have hc:=cube_sm (p:=pointV s (7,5,0) n) (s:=s) (by
   unfold pointV;simp only;generalize ((n % 3:Nat):Int)*s=x at *;generalize ((n / 3 % 3:Nat):Int)*s=y at *;generalize ((n / 9:Nat):Int)*s=z at *;omega) h0 (by omega)
  unfold sideV at ht;split at ht
  ·cases ht
  ·simp only [List.mem_cons,List.not_mem_nil,or_false] at ht;rcases ht with rfl | rfl
   ·exact getD_sm hc _
   ·exact getD_sm hc _
 ·cases ht
theorem hillP_sm {s:Int} (hs:List Int) (h0:0≤s) (h1:s≤1000) (x y:Nat) (hx:x≤8) (hy:y≤8):smP (hillP x y s hs):=by
 have k1:=small_mul (a:=(x:Int)) (b:=8) (by omega) (by omega) h0 (by omega) (by decide);have k2:=small_mul (a:=(y:Int)) (b:=8) (by omega) (by omega) h0 (by omega) (by decide);have k3:=modI_range (n:=hs.getD ((y*7+x) % hs.length) 0) (m:=64) (by decide);unfold hillP smP;simp only;generalize (x:Int)*s=a at *;generalize (y:Int)*s=b at *;split<;>omega
theorem hills_sm {n s:Int} (hs:List Int) (h0:0≤s) (h1:s≤1000):∀t,t∈hillsT n s hs→smT t:=by
 intro t ht;have h6:=hillsN_le n;obtain ⟨y,hy,ht⟩:=List.mem_flatMap.1 ht;obtain ⟨x,hx,ht⟩:=List.mem_flatMap.1 ht;have hy:=List.mem_range.1 hy;have hx:=List.mem_range.1 hx;exact quad_sm (hillP_sm hs h0 h1 x y (by omega) (by omega)) (hillP_sm hs h0 h1 (x+1) y (by omega) (by omega)) (hillP_sm hs h0 h1 (x+1) (y+1) (by omega) (by omega)) (hillP_sm hs h0 h1 x (y+1) (by omega) (by omega)) t ht
theorem set_sm {l:List Tri} (h:∀t,t∈l→smT t) (k:Nat) {x:Tri} (hx:smT x):∀t,t∈l.set k x→smT t:=fun t ht=>(List.mem_or_eq_of_mem_set ht).elim (h t) (fun e=>e ▸ hx)
theorem one_sm {x:Tri} (hx:smT x):∀t,t∈[x]→smT t:=fun t ht=>by rw [List.mem_singleton.1 ht];exact hx
theorem spoil_sm {l:List Tri} (h:∀t,t∈l→smT t) (q0 q1 q2:Int):∀t,t∈spoilT l q0 q1 q2→smT t:=by
 by_cases hl:l=[]
 ·subst hl;intro t ht;cases ht
 ·rw [spoilT_eq _ _ _ _ hl];generalize (modI q0 12).toNat=m;generalize (modI q1 l.length).toNat=k;generalize (modI q2 l.length).toNat=j;have hk:=getD_sm h k;have hj:=getD_sm h j;unfold spoilM;simp only;generalize l.getD k z3=u at *;generalize l.getD j z3=v at *;obtain ⟨a,b,c⟩:=hk;obtain ⟨d,e,f⟩:=hj;split
  ·exact app_sm (fun t ht=>h t (List.mem_of_mem_take ht)) (fun t ht=>h t (List.mem_of_mem_drop ht))
  ·exact set_sm h k ⟨a,c,b⟩
  ·exact app_sm h (one_sm ⟨d,e,f⟩)
  ·exact set_sm h k ⟨e,b,c⟩
  ·exact set_sm h k ⟨a,a,c⟩
  ·exact app_sm h (one_sm ⟨a,c,b⟩)
  ·intro t ht;obtain ⟨s,hs,rfl⟩:=List.mem_map.1 ht;obtain ⟨x,y,z⟩:=h s hs;refine ⟨?_,?_,?_⟩
   ·show smP (if s.1=v.2.2 then u.1 else s.1);split;exact a;exact x
   ·show smP (if s.2.1=v.2.2 then u.1 else s.2.1);split;exact a;exact y
   ·show smP (if s.2.2=v.2.2 then u.1 else s.2.2);split;exact a;exact z
  ·exact fun t ht=>h t (List.mem_of_mem_take ht)
  ·exact set_sm h k ⟨c,a,b⟩
  ·exact h
theorem SV.small (x:SV):∀t,t∈x.tris→smT t:=by
 have hb:∀t,t∈x.base→smT t:=by
  unfold SV.base;split
  ·exact hills_sm _ (by omega) (by omega)
  ·exact voxels_sm (by omega) (by omega)
 unfold SV.tris;split
 ·intro t ht;cases ht
 ·exact spoil_sm (fun t ht=>hb t (List.mem_of_mem_drop (List.mem_of_mem_take ht))) _ _ _
theorem SV.okT (x:SV):∀t,t∈x.tris→okT t:=fun t ht=>smT_ok (x.small t ht)
end Go.Proofs.YtcikldoaidmnhaaGreatDoor
namespace Go.Proofs.YtcikldoaidmnhaaGreatDoor
open Go Go.RowKit Pk
theorem inT_z:inT z3:=⟨⟨by decide,by decide,by decide,by decide,by decide,by decide⟩,⟨by decide,by decide,by decide,by decide,by decide,by decide⟩,⟨by decide,by decide,by decide,by decide,by decide,by decide⟩⟩
theorem getD_in {l:List Tri} (h:∀t,t∈l→inT t) (i:Nat):inT (l.getD i z3):=by
 rw [List.getD_eq_getElem?_getD];cases hg:l[i]? with
 | none=>exact inT_z
 | some t=>exact h t (List.mem_of_getElem? hg)
theorem quad_in {a b c d:Pt} (ha:inP a) (hb:inP b) (hc:inP c) (hd:inP d):∀t,t∈quadT a b c d→inT t:=by
 intro t ht;simp only [quadT,List.mem_cons,List.not_mem_nil,or_false] at ht;rcases ht with rfl | rfl
 ·exact ⟨ha,hb,hc⟩
 ·exact ⟨ha,hc,hd⟩
theorem app_in {a b:List Tri} (ha:∀t,t∈a→inT t) (hb:∀t,t∈b→inT t):∀t,t∈a++b→inT t:=fun t ht=>(List.mem_append.1 ht).elim (ha t) (hb t)
theorem cubeP_in {p:Pt} (hp:(0≤p.1∧p.1≤1000)∧(0≤p.2.1∧p.2.1≤1000)∧(0≤p.2.2∧p.2.2≤1000)) (n:Nat) (hn:n<8):inP (cubeP p 9 n):=by
 obtain ⟨⟨a,b⟩,⟨c,d⟩,⟨e,f⟩⟩:=hp;have k1:0≤((n % 2:Nat):Int)∧((n % 2:Nat):Int)≤1:=by omega
 have k2:0≤((n / 2 % 2:Nat):Int)∧((n / 2 % 2:Nat):Int)≤1:=by omega
 have k3:0≤((n / 4:Nat):Int)∧((n / 4:Nat):Int)≤1:=by omega
 unfold cubeP inP;simp only;omega
theorem cube_in {p:Pt} (hp:(0≤p.1∧p.1≤1000)∧(0≤p.2.1∧p.2.1≤1000)∧(0≤p.2.2∧p.2.2≤1000)):∀t,t∈cubeT p 9→inT t:=by
 have h:=fun n hn=>cubeP_in hp n hn;unfold cubeT;exact app_in (app_in (app_in (app_in (app_in (quad_in (h _ (by decide)) (h _ (by decide)) (h _ (by decide)) (h _ (by decide))) (quad_in (h _ (by decide)) (h _ (by decide)) (h _ (by decide)) (h _ (by decide)))) (quad_in (h _ (by decide)) (h _ (by decide)) (h _ (by decide)) (h _ (by decide)))) (quad_in (h _ (by decide)) (h _ (by decide)) (h _ (by decide)) (h _ (by decide)))) (quad_in (h _ (by decide)) (h _ (by decide)) (h _ (by decide)) (h _ (by decide)))) (quad_in (h _ (by decide)) (h _ (by decide)) (h _ (by decide)) (h _ (by decide)))
theorem faces_in (b:Int):∀t,t∈voxelsT b 9 (1,1,1)→inT t:=by
 intro t ht;obtain ⟨n,hn,ht⟩:=List.mem_flatMap.1 ht;have hn:=List.mem_range.1 hn;unfold cubeV at ht;split at ht
 ·obtain ⟨f,_,ht⟩:=List.mem_flatMap.1 ht;have hc:=cube_in (p:=pointV 9 (1,1,1) n) (by
   unfold pointV;simp only;omega)
  unfold sideV at ht;split at ht
  ·cases ht
  ·simp only [List.mem_cons,List.not_mem_nil,or_false] at ht;rcases ht with rfl | rfl
   ·exact getD_in hc _
   ·exact getD_in hc _
 ·cases ht
theorem canon_inT {l:List Tri} (h:∀t,t∈l→inT t):∀t,t∈canon l→inT t:=fun t ht=>by
 have h1:=(List.mergeSort_perm (l.map rot) triLe).mem_iff.1 ht;obtain ⟨s,hs,rfl⟩:=List.mem_map.1 h1;exact (rot_rot s).inT (h s hs)
end Go.Proofs.YtcikldoaidmnhaaGreatDoor
