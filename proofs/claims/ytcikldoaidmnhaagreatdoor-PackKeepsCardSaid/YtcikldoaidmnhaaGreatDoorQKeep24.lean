/- Parts: The reference's meshes as plain functions: its sorting, its corners, its border. No condition. Triangles and points compared. No condition. Walks of the reference's meshes: less, rotated, the order of triangles. No condition. Walks of the reference's meshes: triangles in order, equal lists. No condition. What a reading of an argument tells (packets): the fields of a group packet. No condition. -/
import Derived.Test.YtcikldoaidmnhaaGreatDoorQKeep2
import Derived.Test.YtcikldoaidmnhaaGreatDoorQKeep5
import Derived.Test.YtcikldoaidmnhaaGreatDoorQKeep6
import Derived.Test.YtcikldoaidmnhaaGreatDoorQKeep7
import Derived.Test.YtcikldoaidmnhaaGreatDoorQKeep9
import Derived.Test.YtcikldoaidmnhaaGreatDoorQKeep23
import Derived.ChangeKeysEq
namespace Go.Proofs.YtcikldoaidmnhaaGreatDoor
open Go Go.RowKit Go.ChangeShapes Go.WideShapes Go.ChangeAt
set_option maxRecDepth 100000
theorem kSix_of_argL {W:World} {v:Value} {l:List Pk.Mv} (h:ArgL 6 (fun cs (c:Pk.Mv)=>cs=mvC c) W v l):kSix.Rd W v l∧l.length≤9223372036854775807:=by
 obtain ⟨A,cap,rfl,h1,h2,h3⟩:=h;refine ⟨⟨A,cap,rfl,h2,fun h0=>?_⟩,by unfold maxLen at h3;omega⟩;obtain ⟨b,off,e,h4⟩:=h1 h0;refine ⟨b,off,e,fun j hj=>?_⟩;obtain ⟨cs,_,rfl,h5⟩:=h4 j hj;exact h5
theorem c6_of_trod {H:Type} {enc:TypeId × Value→H} {W:World} {n:Nat} {cs:List Value} {x:DataW H × List MemPlace} (hf:DataW.trod enc Tryz.prog W 0 (fun _=>true) true n 142 cs=some x):∃m:Pk.Mv,cs=mvC m:=by
 obtain ⟨xs,m,_,_,hl,hlen,hel⟩:=DataW.trod_array Tryz.underlying142 hf;have hc1:Tryz.prog.cellsOf 3=1:=by kernel_rfl
 have hc6:Tryz.prog.cellsOf 142=6:=by kernel_rfl
 rw [hc6] at hl;have get:∀i,i<6→∃z:Int,cs[i]?=some (.int .i64 z):=fun i hi=>by
  have h:=hel i hi;rw [List.getElem?_eq_getElem (by omega:i<xs.length),hc1,Nat.mul_one] at h;obtain ⟨z,e,_,_⟩:=DataW.trod_int Tryz.underlying3 h;refine ⟨z,?_⟩;rw [List.take_one,List.head?_drop] at e;cases hg:cs[i]? with
  | none=>rw [hg] at e;cases e
  | some c=>rw [hg] at e;simp at e;rw [e]
 obtain ⟨z0,g0⟩:=get 0 (by decide);obtain ⟨z1,g1⟩:=get 1 (by decide);obtain ⟨z2,g2⟩:=get 2 (by decide);obtain ⟨z3,g3⟩:=get 3 (by decide);obtain ⟨z4,g4⟩:=get 4 (by decide);obtain ⟨z5,g5⟩:=get 5 (by decide);refine ⟨((z0,z1,z2),(z3,z4,z5)),List.ext_getElem? fun i=>?_⟩;rcases (by omega:i=0∨i=1∨i=2∨i=3∨i=4∨i=5∨6≤i) with rfl | rfl | rfl | rfl | rfl | rfl | h
 ·exact g0
 ·exact g1
 ·exact g2
 ·exact g3
 ·exact g4
 ·exact g5
 ·rw [List.getElem?_eq_none (by omega),List.getElem?_eq_none (by show 6≤i;omega)]
theorem sixes_of_trod {H:Type} {enc:TypeId × Value→H} {W:World} {n:Nat} {cs:List Value} {x:DataW H × List MemPlace} (hf:DataW.trod enc Tryz.prog W 0 (fun _=>true) true n 60 cs=some x):∃v l,cs=[v]∧kSix.Rd W v l∧l.length≤9223372036854775807:=by
 obtain ⟨v,l,rfl,h⟩:=listF_of_reading (size:=6) (by decide) (fun cs (c:Pk.Mv)=>cs=mvC c) Tryz.underlying60 (by kernel_rfl) (fun n cs x hx=>c6_of_trod hx) hf;exact ⟨v,l,rfl,kSix_of_argL h⟩
theorem i64_wf {z:Int} (h:(Lit.int .i64 z).wf=true):-9223372036854775808≤z∧z≤9223372036854775807:=by
 simp [Lit.wf,IntKind.min,IntKind.max,IntKind.signed,IntKind.bits] at h;omega
structure FV.Ok (x:FV):Prop where
 ins:x.ins.length≤9223372036854775807
 outs:x.outs.length≤9223372036854775807
 moves:x.moves.length≤9223372036854775807
 mag:x.mag.length≤9223372036854775807
 level:x.level≤9223372036854775807
 err:x.err≤9223372036854775807
 total:x.total≤9223372036854775807
structure FV.Rd (x:FV) (w:World) (vi vo vm:Value):Prop where
 ins:kInt.Rd w vi x.ins
 outs:kInt.Rd w vo x.outs
 moves:kSix.Rd w vm x.moves
theorem fields_of_reading {H:Type} {enc:TypeId × Value→H} {W:World} {d:DataW H} {p:List MemPlace} {v:Value}
  (hval:Value.okWide Tryz.prog W .any 0 62 v) (h:DataW.Trod enc Tryz.prog W 0 (fun _=>true) true 62 v d p):∃(x:FV) (vi vo vm:Value),v=x.V vi vo vm∧x.Rd W vi vo vm∧x.Ok:=by
 obtain ⟨a,rfl,hsz⟩:=okWide_struct Tryz.underlying62 hval;have h8:Tryz.prog.cellsOf 62=8:=by kernel_rfl
 rw [h8] at hsz;obtain ⟨fuel,hf⟩:=h;obtain ⟨xs,n,_,_,_,hlen,hfl⟩:=DataW.trod_struct Tryz.underlying62 hf;obtain ⟨l⟩:=a;match l,hsz with
 | [c0,c1,c2,c3,c4,c5,c6,c7],_=>
  match xs,hlen with
  | [x0,x1,x2,x3,x4,x5,x6,x7],_=>
   have ci:Tryz.prog.cellsOf 3=1:=by kernel_rfl
   have cl:Tryz.prog.cellsOf 23=1:=by kernel_rfl
   have cs:Tryz.prog.cellsOf 60=1:=by kernel_rfl
   have cb:Tryz.prog.cellsOf 4=1:=by kernel_rfl
   have ct:Tryz.prog.cellsOf 9=1:=by kernel_rfl
   have g0:DataW.trod enc Tryz.prog W 0 (fun _=>true) true n 3 [c0]=some x0:=by
    have h:=hfl 0 _ rfl;have e:=field_cell (P:=Tryz.prog) (o:=0) (t:=3) (cs:=[c0,c1,c2,c3,c4,c5,c6,c7]) (c:=c0) ci rfl;rw [←e];exact h
   have g1:DataW.trod enc Tryz.prog W 0 (fun _=>true) true n 3 [c1]=some x1:=by
    have h:=hfl 1 _ rfl;have e:=field_cell (P:=Tryz.prog) (o:=1) (t:=3) (cs:=[c0,c1,c2,c3,c4,c5,c6,c7]) (c:=c1) ci rfl;rw [←e];exact h
   have g2:DataW.trod enc Tryz.prog W 0 (fun _=>true) true n 3 [c2]=some x2:=by
    have h:=hfl 2 _ rfl;have e:=field_cell (P:=Tryz.prog) (o:=2) (t:=3) (cs:=[c0,c1,c2,c3,c4,c5,c6,c7]) (c:=c2) ci rfl;rw [←e];exact h
   have g3:DataW.trod enc Tryz.prog W 0 (fun _=>true) true n 23 [c3]=some x3:=by
    have h:=hfl 3 _ rfl;have e:=field_cell (P:=Tryz.prog) (o:=3) (t:=23) (cs:=[c0,c1,c2,c3,c4,c5,c6,c7]) (c:=c3) cl rfl;rw [←e];exact h
   have g4:DataW.trod enc Tryz.prog W 0 (fun _=>true) true n 23 [c4]=some x4:=by
    have h:=hfl 4 _ rfl;have e:=field_cell (P:=Tryz.prog) (o:=4) (t:=23) (cs:=[c0,c1,c2,c3,c4,c5,c6,c7]) (c:=c4) cl rfl;rw [←e];exact h
   have g5:DataW.trod enc Tryz.prog W 0 (fun _=>true) true n 60 [c5]=some x5:=by
    have h:=hfl 5 _ rfl;have e:=field_cell (P:=Tryz.prog) (o:=5) (t:=60) (cs:=[c0,c1,c2,c3,c4,c5,c6,c7]) (c:=c5) cs rfl;rw [←e];exact h
   have g6:DataW.trod enc Tryz.prog W 0 (fun _=>true) true n 4 [c6]=some x6:=by
    have h:=hfl 6 _ rfl;have e:=field_cell (P:=Tryz.prog) (o:=6) (t:=4) (cs:=[c0,c1,c2,c3,c4,c5,c6,c7]) (c:=c6) cb rfl;rw [←e];exact h
   have g7:DataW.trod enc Tryz.prog W 0 (fun _=>true) true n 9 [c7]=some x7:=by
    have h:=hfl 7 _ rfl;have e:=field_cell (P:=Tryz.prog) (o:=7) (t:=9) (cs:=[c0,c1,c2,c3,c4,c5,c6,c7]) (c:=c7) ct rfl;rw [←e];exact h
   obtain ⟨z0,e0,_,w0⟩:=DataW.trod_int Tryz.underlying3 g0;obtain ⟨z1,e1,_,w1⟩:=DataW.trod_int Tryz.underlying3 g1;obtain ⟨z2,e2,_,w2⟩:=DataW.trod_int Tryz.underlying3 g2;obtain ⟨v3,l3,e3,r3,b3⟩:=ints_of_trod g3;obtain ⟨v4,l4,e4,r4,b4⟩:=ints_of_trod g4;obtain ⟨v5,l5,e5,r5,b5⟩:=sixes_of_trod g5;obtain ⟨z6,e6,_⟩:=DataW.trod_bool Tryz.underlying4 g6;obtain ⟨z7,e7,_,w7⟩:=DataW.trod_string Tryz.underlying9 g7;simp only [List.cons.injEq,and_true] at e0 e1 e2 e3 e4 e5 e6 e7;subst e0;subst e1;subst e2;subst e3;subst e4;subst e5;subst e6;subst e7;refine ⟨⟨z0,z1,z2,l3,l4,l5,z6,z7.data.toList⟩,c3,c4,c5,rfl,⟨r3,r4,r5⟩,⟨b3,b4,b5,?_,(i64_wf w0).2,(i64_wf w1).2,(i64_wf w2).2⟩⟩;have:z7.data.toList.length=z7.size:=Array.length_toList;show z7.data.toList.length≤_;unfold maxLen at w7;omega
end Go.Proofs.YtcikldoaidmnhaaGreatDoor
namespace Go.Proofs.YtcikldoaidmnhaaGreatDoor
open Go Go.RowKit
namespace Pk
theorem rot_ref (t:Tri):(if ptLt t.2.2 t.1&&(ptLt t.2.2 t.2.1||!ptLt t.2.1 t.1) then (t.2.2,t.1,t.2.1) else if ptLt t.2.1 t.1 then (t.2.1,t.2.2,t.1) else t)=rot t:=by
 unfold rot;cases h1:ptLt t.2.1 t.1<;>cases h2:ptLt t.2.2 t.2.1<;>cases h3:ptLt t.2.2 t.1<;>simp
 have:=ptLt_trans h2 h1;rw [h3] at this;cases this
def mergeT:List Tri→List Tri→List Tri
 | [],b=>b
 | a :: r,b=>b.takeWhile (fun t=>triLt t a)++a :: mergeT r (b.dropWhile (fun t=>triLt t a))
theorem mergeT_perm:∀a b:List Tri,(mergeT a b).Perm (a++b)
 | [],b=>List.Perm.refl _
 | a :: r,b=>by
  rw [mergeT];have h1:=mergeT_perm r (b.dropWhile (fun t=>triLt t a));have h2:b=b.takeWhile (fun t=>triLt t a)++b.dropWhile (fun t=>triLt t a):=List.takeWhile_append_dropWhile.symm;refine (List.perm_middle).trans ?_;rw [List.cons_append];refine List.Perm.cons a ?_;refine (List.Perm.append_left _ h1).trans ?_;refine List.Perm.trans ?_ (List.Perm.of_eq (congrArg (r++·) h2.symm));show (_++(r++_)).Perm (r++(_++_));rw [←List.append_assoc,←List.append_assoc];exact List.Perm.append_right _ List.perm_append_comm
theorem le_of_ge {s t:Tri} (h:triLt s t=false):triLe t s=true:=by unfold triLe;rw [h];rfl
theorem le_of_lt {s t:Tri} (h:triLt s t=true):triLe s t=true:=by unfold triLe;rw [triLt_asymm h];rfl
def Sorted (l:List Tri):Prop:=l.Pairwise (fun a b=>triLe a b=true)
theorem sorted_drop {a:Tri}:∀{b:List Tri},Sorted b→(∀x,x∈b.dropWhile (fun t=>triLt t a)→triLe a x=true)∧Sorted (b.dropWhile (fun t=>triLt t a))
 | [],_=>⟨fun x h=>(by cases h),List.Pairwise.nil⟩
 | y :: b,h=>by
  obtain ⟨p1,p2⟩:=List.pairwise_cons.1 h;rw [List.dropWhile_cons];cases hy:triLt y a
  ·simp only [Bool.false_eq_true,if_false];refine ⟨fun x hx=>?_,h⟩;rcases List.mem_cons.1 hx with rfl | hx
   ·exact le_of_ge hy
   ·exact triLe_trans _ _ _ (le_of_ge hy) (p1 x hx)
  ·simp only [if_true];exact sorted_drop p2
theorem mergeT_sorted:∀{a b:List Tri},Sorted a→Sorted b→Sorted (mergeT a b)
 | [],b,_,h=>h
 | a :: r,b,h1,h2=>by
  obtain ⟨p1,p2⟩:=List.pairwise_cons.1 h1;obtain ⟨q1,q2⟩:=sorted_drop (a:=a) h2;have ih:=mergeT_sorted p2 q2;rw [mergeT];have ht:∀x,x∈b.takeWhile (fun t=>triLt t a)→triLt x a=true:=fun x hx=>by
   exact List.all_eq_true.1 (List.all_takeWhile (p:=fun t=>triLt t a) (l:=b)) x hx
  have hr:∀x,x∈a :: mergeT r (b.dropWhile (fun t=>triLt t a))→triLe a x=true:=fun x hx=>by
   rcases List.mem_cons.1 hx with rfl | hx
   ·exact le_of_ge (triLt_irrefl x)
   ·rcases List.mem_append.1 ((mergeT_perm _ _).mem_iff.1 hx) with hx | hx
    ·exact p1 x hx
    ·exact q1 x hx
  refine List.pairwise_append.2 ⟨?_,List.pairwise_cons.2 ⟨fun x hx=>hr x (List.mem_cons_of_mem _ hx),ih⟩,fun x hx y hy=>triLe_trans _ _ _ (le_of_lt (ht x hx)) (hr y hy)⟩;exact List.Pairwise.sublist (List.takeWhile_sublist _) h2
theorem mergeT_sort (a b:List Tri):mergeT (a.mergeSort triLe) (b.mergeSort triLe)=(a++b).mergeSort triLe:=by
 have hs:∀l:List Tri,Sorted (l.mergeSort triLe):=fun l=>List.pairwise_mergeSort triLe_trans triLe_total l;refine sorted_unique ?_ (mergeT_sorted (hs a) (hs b)) (hs _);refine (mergeT_perm _ _).trans (List.Perm.trans ?_ (List.mergeSort_perm _ _).symm);exact List.Perm.append (List.mergeSort_perm _ _) (List.mergeSort_perm _ _)
theorem sort_half (l:List Tri):mergeT ((l.take (l.length / 2)).mergeSort triLe) ((l.drop (l.length / 2)).mergeSort triLe)=l.mergeSort triLe:=by
 rw [mergeT_sort,List.take_append_drop]
theorem sort_few (l:List Tri) (h:l.length<2):l.mergeSort triLe=l:=by
 match l,h with
 | [],_=>simp
 | [a],_=>simp
end Pk
end Go.Proofs.YtcikldoaidmnhaaGreatDoor
namespace Go.Proofs.YtcikldoaidmnhaaGreatDoor
open Go Go.RowKit Pk
set_option maxRecDepth 100000
set_option maxHeartbeats 1000000 in
theorem oLess_any (a b:Pt) (w:World):Calls Tryz.prog 117 #[ptV a,ptV b] w fun en w'=>en=.returned (.bool (ptLt a b))∧Upd noBlk w w':=by
 obtain ⟨x,hx⟩:∃x,x=ptLt a b:=⟨_,rfl⟩;rw [←hx];obtain ⟨a0,a1,a2⟩:=a;obtain ⟨b0,b1,b2⟩:=b;have hu:Upd noBlk w ((w.alloc (.cells #[.int .i64 a0,.int .i64 a1,.int .i64 a2] 43)).alloc (.cells #[.int .i64 b0,.int .i64 b1,.int .i64 b2] 43)):=((Upd.refl _ w).alloc _).alloc _;have HU:=Lib.hid hu;clear hu;unfold ptV;by_cases h0:a0=b0
 ·by_cases h1:a1=b1
  ·have HX:Hid (x=decide (a2<b2)):=by show _=_;rw [hx];simp [ptLt,h0,h1]
   clear hx;subst h0 h1;go_enter Tryz.func117,Tryz.ntmps117
   go_wp2_with fail
   go_ret
   exact ⟨by rw [HX.out];rfl,HU.out⟩
  ·have HX:Hid (x=decide (a1<b1)):=by show _=_;rw [hx];simp [ptLt,h0,h1]
   clear hx;subst h0;go_enter Tryz.func117,Tryz.ntmps117
   go_wp2_with fail
   go_ret
   exact ⟨by rw [HX.out];rfl,HU.out⟩
 ·have HX:Hid (x=decide (a0<b0)):=by show _=_;rw [hx];simp [ptLt,h0]
  clear hx;go_enter Tryz.func117,Tryz.ntmps117
  go_wp2_with fail
  go_ret
  exact ⟨by rw [HX.out];rfl,HU.out⟩
theorem upd9 {b:Nat} (w:World) (y0 y1 y2 y3 y4 y5 y6 y7 y8:Value):Upd (fun k=>k=b) w (((((((((w.setCell ⟨b,0,none⟩ y0).setCell ⟨b,1,none⟩ y1).setCell ⟨b,2,none⟩ y2).setCell ⟨b,3,none⟩ y3).setCell ⟨b,4,none⟩ y4).setCell ⟨b,5,none⟩ y5).setCell ⟨b,6,none⟩ y6).setCell ⟨b,7,none⟩ y7).setCell ⟨b,8,none⟩ y8):=((((((((((Upd.refl (fun k=>k=b) w).setCell (p:=⟨b,0,none⟩) (fun _=>rfl) y0).setCell (p:=⟨b,1,none⟩) (fun _=>rfl) y1).setCell (p:=⟨b,2,none⟩) (fun _=>rfl) y2).setCell (p:=⟨b,3,none⟩) (fun _=>rfl) y3).setCell (p:=⟨b,4,none⟩) (fun _=>rfl) y4).setCell (p:=⟨b,5,none⟩) (fun _=>rfl) y5).setCell (p:=⟨b,6,none⟩) (fun _=>rfl) y6).setCell (p:=⟨b,7,none⟩) (fun _=>rfl) y7).setCell (p:=⟨b,8,none⟩) (fun _=>rfl) y8)
set_option maxHeartbeats 2000000 in
theorem hRotate_any (t:Tri) (w:World):Calls Tryz.prog 68 #[triV t] w fun en w'=>en=.returned (triV (rot t))∧Upd noBlk w w':=by
 have hl:=fun p q W=>Lib.hid (oLess_any p q W);have HT:=Lib.hid (rot_ref t);obtain ⟨R,hR⟩:∃R,R=rot t:=⟨_,rfl⟩;rw [←hR] at HT;rw [←hR];clear hR;obtain ⟨⟨a0,a1,a2⟩,⟨a3,a4,a5⟩,⟨a6,a7,a8⟩⟩:=t;obtain ⟨w1,hw1⟩:∃w1,w1=(w.alloc (.cells #[.int .i64 a0,.int .i64 a1,.int .i64 a2,.int .i64 a3,.int .i64 a4,.int .i64 a5,.int .i64 a6,.int .i64 a7,.int .i64 a8] 45)).alloc (.cells #[.int .i64 0,.int .i64 0,.int .i64 0,.int .i64 0,.int .i64 0,.int .i64 0,.int .i64 0,.int .i64 0,.int .i64 0] 45):=⟨_,rfl⟩;have HU:Hid (Upd noBlk w w1):=by show Upd _ _ _;rw [hw1];exact ((Upd.refl _ w).alloc _).alloc _
 have HA:Hid (w1.heap[w.heap.size]?=some (.cells #[.int .i64 a0,.int .i64 a1,.int .i64 a2,.int .i64 a3,.int .i64 a4,.int .i64 a5,.int .i64 a6,.int .i64 a7,.int .i64 a8] 45 (0,0))):=by show _=_;rw [hw1];exact ((Upd.refl noBlk _).alloc _).heap (heap_alloc_new w _) id
 have HB:Hid (w1.heap[w.heap.size+1]?=some (.cells #[.int .i64 0,.int .i64 0,.int .i64 0,.int .i64 0,.int .i64 0,.int .i64 0,.int .i64 0,.int .i64 0,.int .i64 0] 45 (0,0))):=by
  show _=_;rw [hw1];have:=heap_alloc_new (w.alloc (.cells #[.int .i64 a0,.int .i64 a1,.int .i64 a2,.int .i64 a3,.int .i64 a4,.int .i64 a5,.int .i64 a6,.int .i64 a7,.int .i64 a8] 45)) (.cells #[.int .i64 0,.int .i64 0,.int .i64 0,.int .i64 0,.int .i64 0,.int .i64 0,.int .i64 0,.int .i64 0,.int .i64 0] 45);rwa [World.size_alloc] at this
 obtain ⟨rb,hrb⟩:∃rb,rb=w.heap.size+1:=⟨_,rfl⟩;have HRB:Hid (w.heap.size+1≤rb):=by show _≤_;omega
 rw [←hrb] at HB;unfold triV triC;simp only at HT;go_enter Tryz.func68,Tryz.ntmps68
 go_upto_region 1 with fail
 rw [←hw1,←hrb];clear hw1 hrb;obtain ⟨g0,g1,g2,g3,g4,g5,g6,g7,g8⟩:=cells9 HA.out;go_wp2_with fail
 refine (hl (a3,a4,a5) (a0,a1,a2) _).out.mono ?_;rintro e w3 ⟨rfl,u1⟩;have HU1:=Lib.hid (HU.out.trans u1);have HA1:=Lib.hid (u1.heap HA.out id);have HB1:=Lib.hid (u1.heap HB.out id);clear u1 HU HA HB g0 g1 g2 g3 g4 g5 g6 g7 g8;obtain ⟨g0,g1,g2,g3,g4,g5,g6,g7,g8⟩:=cells9 HA1.out;generalize ptLt (a3,a4,a5) (a0,a1,a2)=x1 at *;go_wp2_with fail
 refine (hl (a6,a7,a8) (a0,a1,a2) _).out.mono ?_;rintro e w4 ⟨rfl,u1⟩;have HU2:=Lib.hid (HU1.out.trans u1);have HA2:=Lib.hid (u1.heap HA1.out id);have HB2:=Lib.hid (u1.heap HB1.out id);clear u1 HU1 HA1 HB1 g0 g1 g2 g3 g4 g5 g6 g7 g8;obtain ⟨g0,g1,g2,g3,g4,g5,g6,g7,g8⟩:=cells9 HA2.out;generalize ptLt (a6,a7,a8) (a0,a1,a2)=x2 at *;go_wp2_with fail
 refine (hl (a6,a7,a8) (a3,a4,a5) _).out.mono ?_;rintro e w5 ⟨rfl,u1⟩;have HU3:=Lib.hid (HU2.out.trans u1);have HA3:=Lib.hid (u1.heap HA2.out id);have HB3:=Lib.hid (u1.heap HB2.out id);clear u1 HU2 HA2 HB2 g0 g1 g2 g3 g4 g5 g6 g7 g8;obtain ⟨g0,g1,g2,g3,g4,g5,g6,g7,g8⟩:=cells9 HA3.out;obtain ⟨_,⟨f0,f1,f2,f3,f4,f5,f6,f7,f8⟩⟩:=cellsF9 HB3.out;generalize ptLt (a6,a7,a8) (a3,a4,a5)=x3 at *;by_cases hc:(x2&&(x3||!x1))=true
 ·have h:=HT.out;rw [if_pos hc] at h;have HT:=Lib.hid h;clear h;cases x2 with
  | false=>cases hc
  | true=>cases x3 with
   | true=>
    clear hc;go_wp2_with fail
    have HZ:=set9 HB3.out (.int .i64 a6) (.int .i64 a7) (.int .i64 a8) (.int .i64 a0) (.int .i64 a1) (.int .i64 a2) (.int .i64 a3) (.int .i64 a4) (.int .i64 a5);have hset:=upd9 (b:=rb) w5 (.int .i64 a6) (.int .i64 a7) (.int .i64 a8) (.int .i64 a0) (.int .i64 a1) (.int .i64 a2) (.int .i64 a3) (.int .i64 a4) (.int .i64 a5)
    (try simp only [Exit.inBlock,Exit.then])
    refine bodyPost_ret (results_cell_row rfl _ _ rb 45 _ (0,0) _ rfl HZ Tryz.underlying45 rfl (by kernel_rfl)) rfl ?_;exact ⟨by rw [←HT.out];rfl,HU3.out.then hset (fun i hi e=>by have e':i=rb:=e;have:=HRB.out;omega)⟩
   | false=>cases x1 with
    | true=>cases hc
    | false=>
     clear hc;go_wp2_with fail
     have HZ:=set9 HB3.out (.int .i64 a6) (.int .i64 a7) (.int .i64 a8) (.int .i64 a0) (.int .i64 a1) (.int .i64 a2) (.int .i64 a3) (.int .i64 a4) (.int .i64 a5);have hset:=upd9 (b:=rb) w5 (.int .i64 a6) (.int .i64 a7) (.int .i64 a8) (.int .i64 a0) (.int .i64 a1) (.int .i64 a2) (.int .i64 a3) (.int .i64 a4) (.int .i64 a5)
     (try simp only [Exit.inBlock,Exit.then])
     refine bodyPost_ret (results_cell_row rfl _ _ rb 45 _ (0,0) _ rfl HZ Tryz.underlying45 rfl (by kernel_rfl)) rfl ?_;exact ⟨by rw [←HT.out];rfl,HU3.out.then hset (fun i hi e=>by have e':i=rb:=e;have:=HRB.out;omega)⟩
 ·have h:=HT.out;rw [if_neg hc] at h;cases x1 with
  | true=>
   rw [if_pos rfl] at h;have HT:=Lib.hid h;clear h;cases x2 with
   | true=>cases x3 with
    | true=>exact absurd rfl hc
    | false=>
     clear hc;go_wp2_with fail
     have HZ:=set9 HB3.out (.int .i64 a3) (.int .i64 a4) (.int .i64 a5) (.int .i64 a6) (.int .i64 a7) (.int .i64 a8) (.int .i64 a0) (.int .i64 a1) (.int .i64 a2);have hset:=upd9 (b:=rb) w5 (.int .i64 a3) (.int .i64 a4) (.int .i64 a5) (.int .i64 a6) (.int .i64 a7) (.int .i64 a8) (.int .i64 a0) (.int .i64 a1) (.int .i64 a2)
     (try simp only [Exit.inBlock,Exit.then])
     refine bodyPost_ret (results_cell_row rfl _ _ rb 45 _ (0,0) _ rfl HZ Tryz.underlying45 rfl (by kernel_rfl)) rfl ?_;exact ⟨by rw [←HT.out];rfl,HU3.out.then hset (fun i hi e=>by have e':i=rb:=e;have:=HRB.out;omega)⟩
   | false=>
     clear hc;go_wp2_with fail
     have HZ:=set9 HB3.out (.int .i64 a3) (.int .i64 a4) (.int .i64 a5) (.int .i64 a6) (.int .i64 a7) (.int .i64 a8) (.int .i64 a0) (.int .i64 a1) (.int .i64 a2);have hset:=upd9 (b:=rb) w5 (.int .i64 a3) (.int .i64 a4) (.int .i64 a5) (.int .i64 a6) (.int .i64 a7) (.int .i64 a8) (.int .i64 a0) (.int .i64 a1) (.int .i64 a2)
     (try simp only [Exit.inBlock,Exit.then])
     refine bodyPost_ret (results_cell_row rfl _ _ rb 45 _ (0,0) _ rfl HZ Tryz.underlying45 rfl (by kernel_rfl)) rfl ?_;exact ⟨by rw [←HT.out];rfl,HU3.out.then hset (fun i hi e=>by have e':i=rb:=e;have:=HRB.out;omega)⟩
  | false=>
   rw [if_neg (by decide)] at h;have HT:=Lib.hid h;clear h;cases x2 with
   | true=>exact absurd (by cases x3<;>rfl) hc
   | false=>
     clear hc;go_wp2_with fail
     have HZ:=set9 HB3.out (.int .i64 a0) (.int .i64 a1) (.int .i64 a2) (.int .i64 a3) (.int .i64 a4) (.int .i64 a5) (.int .i64 a6) (.int .i64 a7) (.int .i64 a8);have hset:=upd9 (b:=rb) w5 (.int .i64 a0) (.int .i64 a1) (.int .i64 a2) (.int .i64 a3) (.int .i64 a4) (.int .i64 a5) (.int .i64 a6) (.int .i64 a7) (.int .i64 a8)
     (try simp only [Exit.inBlock,Exit.then])
     refine bodyPost_ret (results_cell_row rfl _ _ rb 45 _ (0,0) _ rfl HZ Tryz.underlying45 rfl (by kernel_rfl)) rfl ?_;exact ⟨by rw [←HT.out];rfl,HU3.out.then hset (fun i hi e=>by have e':i=rb:=e;have:=HRB.out;omega)⟩
end Go.Proofs.YtcikldoaidmnhaaGreatDoor
namespace Go.Proofs.YtcikldoaidmnhaaGreatDoor
open Go Go.RowKit Pk
set_option maxRecDepth 100000
theorem eq_pt (d:Nat) (a0 a1 a2 b0 b1 b2:Int) (W:World):(Op.equalIn (d+2) 43 (.agg #[.int .i64 a0,.int .i64 a1,.int .i64 a2]) (.agg #[.int .i64 b0,.int .i64 b1,.int .i64 b2])).run Tryz.prog W=.ok (decide (((a0,a1,a2):Pt)=(b0,b1,b2))) W:=by
 have h:decide (((a0,a1,a2):Pt)=(b0,b1,b2))=(a0 == b0&&(a1 == b1&&a2 == b2)):=by
  rw [Bool.eq_iff_iff,decide_eq_true_iff];simp
 rw [h];go_simp
 by_cases h0:a0=b0
 ·by_cases h1:a1=b1
  ·by_cases h2:a2=b2
   ·simp [h0,h1,h2]
   ·simp [h0,h1,h2]
  ·simp [h0,h1]
 ·simp [h0]
theorem eq_tri (a0 a1 a2 a3 a4 a5 a6 a7 a8 b0 b1 b2 b3 b4 b5 b6 b7 b8:Int) (W:World) :
  (Op.equalIn 10000 45 (.agg #[.int .i64 a0,.int .i64 a1,.int .i64 a2,.int .i64 a3,.int .i64 a4,.int .i64 a5,.int .i64 a6,.int .i64 a7,.int .i64 a8]) (.agg #[.int .i64 b0,.int .i64 b1,.int .i64 b2,.int .i64 b3,.int .i64 b4,.int .i64 b5,.int .i64 b6,.int .i64 b7,.int .i64 b8])).run Tryz.prog W=.ok (decide ((((a0,a1,a2),(a3,a4,a5),(a6,a7,a8)):Tri)=((b0,b1,b2),(b3,b4,b5),(b6,b7,b8)))) W:=by
 obtain ⟨i,hi⟩:∃i,Tryz.prog.info? 43=some i:=by
  cases h:Tryz.prog.info? 43 with
  | none=>
   have:(Tryz.prog.info? 43).isSome=true:=by kernel_rfl
   rw [h] at this;cases this
  | some i=>exact ⟨i,rfl⟩
 rw [run_equalIn_array W 9999 _ _ Tryz.underlying45 hi];have hc:Tryz.prog.cellsOf 43=3:=by kernel_rfl
 have hr:List.range 3=[0,1,2]:=rfl;have p0:∀x0 x1 x2 x3 x4 x5 x6 x7 x8:Int,(part 43 #[.int .i64 x0,.int .i64 x1,.int .i64 x2,.int .i64 x3,.int .i64 x4,.int .i64 x5,.int .i64 x6,.int .i64 x7,.int .i64 x8] 0).run Tryz.prog W=.ok (.agg #[.int .i64 x0,.int .i64 x1,.int .i64 x2]) W:=fun _ _ _ _ _ _ _ _ _=>by kernel_rfl
 have p1:∀x0 x1 x2 x3 x4 x5 x6 x7 x8:Int,(part 43 #[.int .i64 x0,.int .i64 x1,.int .i64 x2,.int .i64 x3,.int .i64 x4,.int .i64 x5,.int .i64 x6,.int .i64 x7,.int .i64 x8] 3).run Tryz.prog W=.ok (.agg #[.int .i64 x3,.int .i64 x4,.int .i64 x5]) W:=fun _ _ _ _ _ _ _ _ _=>by kernel_rfl
 have p2:∀x0 x1 x2 x3 x4 x5 x6 x7 x8:Int,(part 43 #[.int .i64 x0,.int .i64 x1,.int .i64 x2,.int .i64 x3,.int .i64 x4,.int .i64 x5,.int .i64 x6,.int .i64 x7,.int .i64 x8] 6).run Tryz.prog W=.ok (.agg #[.int .i64 x6,.int .i64 x7,.int .i64 x8]) W:=fun _ _ _ _ _ _ _ _ _=>by kernel_rfl
 have q:=fun x0 x1 x2 y0 y1 y2=>eq_pt 9997 x0 x1 x2 y0 y1 y2 W;simp only [Nat.reduceAdd] at q;have h:decide ((((a0,a1,a2),(a3,a4,a5),(a6,a7,a8)):Tri)=((b0,b1,b2),(b3,b4,b5),(b6,b7,b8)))=(decide (((a0,a1,a2):Pt)=(b0,b1,b2))&&(decide (((a3,a4,a5):Pt)=(b3,b4,b5))&&decide (((a6,a7,a8):Pt)=(b6,b7,b8)))):=by
  rw [Bool.eq_iff_iff,decide_eq_true_iff];simp [and_assoc]
 rw [h,hr,hc];rcases d0:decide (((a0,a1,a2):Pt)=(b0,b1,b2)) with _ | _<;>rcases d1:decide (((a3,a4,a5):Pt)=(b3,b4,b5)) with _ | _<;>rcases d2:decide (((a6,a7,a8):Pt)=(b6,b7,b8)) with _ | _<;>simp only [Op.eqItems,Nat.reduceMul,Sem.run_bind,p0,p1,p2,q,Result.andThen_ok,d0,d1,d2,Sem.run_ite,Sem.run_pure,Bool.not_true,Bool.not_false,if_true,Bool.false_eq_true,if_false,Bool.and_true,Bool.and_false]
end Go.Proofs.YtcikldoaidmnhaaGreatDoor
namespace Go.Proofs.YtcikldoaidmnhaaGreatDoor
open Go Go.RowKit Pk
set_option maxRecDepth 100000
set_option maxHeartbeats 2000000 in
theorem hLessTri_any (s t:Tri) (w:World):Calls Tryz.prog 152 #[triV s,triV t] w fun en w'=>en=.returned (.bool (triLt s t))∧Upd noBlk w w':=by
 have hl:=fun p q W=>Lib.hid (oLess_any p q W);obtain ⟨R,hR⟩:∃R,R=triLt s t:=⟨_,rfl⟩;rw [←hR];have HR:=Lib.hid hR;clear hR;obtain ⟨⟨a0,a1,a2⟩,⟨a3,a4,a5⟩,⟨a6,a7,a8⟩⟩:=s;obtain ⟨⟨b0,b1,b2⟩,⟨b3,b4,b5⟩,⟨b6,b7,b8⟩⟩:=t;unfold triV triC;obtain ⟨w1,hw1⟩:∃w1,w1=(w.alloc (.cells #[.int .i64 a0,.int .i64 a1,.int .i64 a2,.int .i64 a3,.int .i64 a4,.int .i64 a5,.int .i64 a6,.int .i64 a7,.int .i64 a8] 45)).alloc (.cells #[.int .i64 b0,.int .i64 b1,.int .i64 b2,.int .i64 b3,.int .i64 b4,.int .i64 b5,.int .i64 b6,.int .i64 b7,.int .i64 b8] 45):=⟨_,rfl⟩;have HU:Hid (Upd noBlk w w1):=by show Upd _ _ _;rw [hw1];exact ((Upd.refl _ w).alloc _).alloc _
 have HA:Hid (w1.heap[w.heap.size]?=some (.cells #[.int .i64 a0,.int .i64 a1,.int .i64 a2,.int .i64 a3,.int .i64 a4,.int .i64 a5,.int .i64 a6,.int .i64 a7,.int .i64 a8] 45 (0,0))):=by show _=_;rw [hw1];exact ((Upd.refl noBlk _).alloc _).heap (heap_alloc_new w _) id
 have HB:Hid (w1.heap[w.heap.size+1]?=some (.cells #[.int .i64 b0,.int .i64 b1,.int .i64 b2,.int .i64 b3,.int .i64 b4,.int .i64 b5,.int .i64 b6,.int .i64 b7,.int .i64 b8] 45 (0,0))):=by
  show _=_;rw [hw1];have:=heap_alloc_new (w.alloc (.cells #[.int .i64 a0,.int .i64 a1,.int .i64 a2,.int .i64 a3,.int .i64 a4,.int .i64 a5,.int .i64 a6,.int .i64 a7,.int .i64 a8] 45)) (.cells #[.int .i64 b0,.int .i64 b1,.int .i64 b2,.int .i64 b3,.int .i64 b4,.int .i64 b5,.int .i64 b6,.int .i64 b7,.int .i64 b8] 45);rwa [World.size_alloc] at this
 go_enter Tryz.func152,Tryz.ntmps152
 go_upto_region 1 with fail
 rw [←hw1];clear hw1;generalize w.heap.size=ba at *;go_wp2_with fail
 have HW:=Lib.hid (Gr.refl w1);refine wp_loop_rounds 4 ?_;rw [rounds_succ];go_wp2_with fail
 refine wp_region_tree 6 (OT.sures [0,3,1,4,2,5] .nil) (fun w'=>Gr w1 w') (by kernel_rfl) (by kernel_rfl) (fun c a d v w h=>by cases d<;>exact h) ((Gr.refl w1).drew) ?_
 simp only [OT.sures]
 iterate 6 (apply wpT_sure rfl rfl;focus (intro w' hw';obtain ⟨g0,g1,g2,g3,g4,g5,g6,g7,g8⟩:=cells9 (hw'.heap HA.out id);obtain ⟨k0,k1,k2,k3,k4,k5,k6,k7,k8⟩:=cells9 (hw'.heap HB.out id);go_simp;rfl))
 refine wpT_nil ?_;have HA0:=Lib.hid ((Gr.refl w1).drew.heap HA.out id);have HB0:=Lib.hid ((Gr.refl w1).drew.heap HB.out id);have HW0:=Lib.hid (HW.out.trans (Gr.refl w1).drew);generalize w1.drew=x0 at *;clear HA HB HW;have HA:=HA0;have HB:=HB0;have HW:=HW0;clear HA0 HB0 HW0;by_cases hc:¬a0=b0
 ·skip
  have HD:Hid (R=ptLt (a0,a1,a2) (b0,b1,b2)):=by show _=_;rw [HR.out];simp [triLt,hc]
  clear HR;go_wp2_with fail
  refine wp_region_tree 6 (OT.sures [0,3,1,4,2,5] .nil) (fun w'=>Gr x0 w') (by kernel_rfl) (by kernel_rfl) (fun c a d v w h=>by cases d<;>exact h) ((Gr.refl x0).drew) ?_
  simp only [OT.sures]
  iterate 6 (apply wpT_sure rfl rfl;focus (intro w' hw';obtain ⟨g0,g1,g2,g3,g4,g5,g6,g7,g8⟩:=cells9 (hw'.heap HA.out id);obtain ⟨k0,k1,k2,k3,k4,k5,k6,k7,k8⟩:=cells9 (hw'.heap HB.out id);go_simp;rfl))
  refine wpT_nil ?_;go_wp2_with fail
  refine (hl (a0,a1,a2) (b0,b1,b2) _).out.mono ?_;rintro e w9 ⟨rfl,u9⟩;rw [←HD.out];go_wp2_with fail
  go_ret
  exact ⟨rfl,HU.out.trans (HW.out.up.trans ((Upd.refl noBlk x0).drew.trans u9))⟩
 have hd:=Classical.not_not.1 hc;subst hd;clear hc;by_cases hc:¬a1=b1
 ·skip
  have HD:Hid (R=ptLt (a0,a1,a2) (a0,b1,b2)):=by show _=_;rw [HR.out];simp [triLt,hc]
  clear HR;go_wp2_with fail
  refine wp_region_tree 6 (OT.sures [0,3,1,4,2,5] .nil) (fun w'=>Gr x0 w') (by kernel_rfl) (by kernel_rfl) (fun c a d v w h=>by cases d<;>exact h) ((Gr.refl x0).drew) ?_
  simp only [OT.sures]
  iterate 6 (apply wpT_sure rfl rfl;focus (intro w' hw';obtain ⟨g0,g1,g2,g3,g4,g5,g6,g7,g8⟩:=cells9 (hw'.heap HA.out id);obtain ⟨k0,k1,k2,k3,k4,k5,k6,k7,k8⟩:=cells9 (hw'.heap HB.out id);go_simp;rfl))
  refine wpT_nil ?_;go_wp2_with fail
  refine (hl (a0,a1,a2) (a0,b1,b2) _).out.mono ?_;rintro e w9 ⟨rfl,u9⟩;rw [←HD.out];go_wp2_with fail
  go_ret
  exact ⟨rfl,HU.out.trans (HW.out.up.trans ((Upd.refl noBlk x0).drew.trans u9))⟩
 have hd:=Classical.not_not.1 hc;subst hd;clear hc;by_cases hc:¬a2=b2
 ·skip
  have HD:Hid (R=ptLt (a0,a1,a2) (a0,a1,b2)):=by show _=_;rw [HR.out];simp [triLt,hc]
  clear HR;go_wp2_with fail
  refine wp_region_tree 6 (OT.sures [0,3,1,4,2,5] .nil) (fun w'=>Gr x0 w') (by kernel_rfl) (by kernel_rfl) (fun c a d v w h=>by cases d<;>exact h) ((Gr.refl x0).drew) ?_
  simp only [OT.sures]
  iterate 6 (apply wpT_sure rfl rfl;focus (intro w' hw';obtain ⟨g0,g1,g2,g3,g4,g5,g6,g7,g8⟩:=cells9 (hw'.heap HA.out id);obtain ⟨k0,k1,k2,k3,k4,k5,k6,k7,k8⟩:=cells9 (hw'.heap HB.out id);go_simp;rfl))
  refine wpT_nil ?_;go_wp2_with fail
  refine (hl (a0,a1,a2) (a0,a1,b2) _).out.mono ?_;rintro e w9 ⟨rfl,u9⟩;rw [←HD.out];go_wp2_with fail
  go_ret
  exact ⟨rfl,HU.out.trans (HW.out.up.trans ((Upd.refl noBlk x0).drew.trans u9))⟩
 have hd:=Classical.not_not.1 hc;subst hd;clear hc;go_wp2_with fail
 rw [rounds_succ];go_wp2_with fail
 refine wp_region_tree 6 (OT.sures [0,3,1,4,2,5] .nil) (fun w'=>Gr x0 w') (by kernel_rfl) (by kernel_rfl) (fun c a d v w h=>by cases d<;>exact h) ((Gr.refl x0).drew) ?_
 simp only [OT.sures]
 iterate 6 (apply wpT_sure rfl rfl;focus (intro w' hw';obtain ⟨g0,g1,g2,g3,g4,g5,g6,g7,g8⟩:=cells9 (hw'.heap HA.out id);obtain ⟨k0,k1,k2,k3,k4,k5,k6,k7,k8⟩:=cells9 (hw'.heap HB.out id);go_simp;rfl))
 refine wpT_nil ?_;have HA1:=Lib.hid ((Gr.refl x0).drew.heap HA.out id);have HB1:=Lib.hid ((Gr.refl x0).drew.heap HB.out id);have HW1:=Lib.hid (HW.out.trans (Gr.refl x0).drew);generalize x0.drew=x1 at *;clear HA HB HW;have HA:=HA1;have HB:=HB1;have HW:=HW1;clear HA1 HB1 HW1;by_cases hc:¬a3=b3
 ·skip
  have HD:Hid (R=ptLt (a3,a4,a5) (b3,b4,b5)):=by show _=_;rw [HR.out];simp [triLt,hc]
  clear HR;go_wp2_with fail
  refine wp_region_tree 6 (OT.sures [0,3,1,4,2,5] .nil) (fun w'=>Gr x1 w') (by kernel_rfl) (by kernel_rfl) (fun c a d v w h=>by cases d<;>exact h) ((Gr.refl x1).drew) ?_
  simp only [OT.sures]
  iterate 6 (apply wpT_sure rfl rfl;focus (intro w' hw';obtain ⟨g0,g1,g2,g3,g4,g5,g6,g7,g8⟩:=cells9 (hw'.heap HA.out id);obtain ⟨k0,k1,k2,k3,k4,k5,k6,k7,k8⟩:=cells9 (hw'.heap HB.out id);go_simp;rfl))
  refine wpT_nil ?_;go_wp2_with fail
  refine (hl (a3,a4,a5) (b3,b4,b5) _).out.mono ?_;rintro e w9 ⟨rfl,u9⟩;rw [←HD.out];go_wp2_with fail
  go_ret
  exact ⟨rfl,HU.out.trans (HW.out.up.trans ((Upd.refl noBlk x1).drew.trans u9))⟩
 have hd:=Classical.not_not.1 hc;subst hd;clear hc;by_cases hc:¬a4=b4
 ·skip
  have HD:Hid (R=ptLt (a3,a4,a5) (a3,b4,b5)):=by show _=_;rw [HR.out];simp [triLt,hc]
  clear HR;go_wp2_with fail
  refine wp_region_tree 6 (OT.sures [0,3,1,4,2,5] .nil) (fun w'=>Gr x1 w') (by kernel_rfl) (by kernel_rfl) (fun c a d v w h=>by cases d<;>exact h) ((Gr.refl x1).drew) ?_
  simp only [OT.sures]
  iterate 6 (apply wpT_sure rfl rfl;focus (intro w' hw';obtain ⟨g0,g1,g2,g3,g4,g5,g6,g7,g8⟩:=cells9 (hw'.heap HA.out id);obtain ⟨k0,k1,k2,k3,k4,k5,k6,k7,k8⟩:=cells9 (hw'.heap HB.out id);go_simp;rfl))
  refine wpT_nil ?_;go_wp2_with fail
  refine (hl (a3,a4,a5) (a3,b4,b5) _).out.mono ?_;rintro e w9 ⟨rfl,u9⟩;rw [←HD.out];go_wp2_with fail
  go_ret
  exact ⟨rfl,HU.out.trans (HW.out.up.trans ((Upd.refl noBlk x1).drew.trans u9))⟩
 have hd:=Classical.not_not.1 hc;subst hd;clear hc;by_cases hc:¬a5=b5
 ·skip
  have HD:Hid (R=ptLt (a3,a4,a5) (a3,a4,b5)):=by show _=_;rw [HR.out];simp [triLt,hc]
  clear HR;go_wp2_with fail
  refine wp_region_tree 6 (OT.sures [0,3,1,4,2,5] .nil) (fun w'=>Gr x1 w') (by kernel_rfl) (by kernel_rfl) (fun c a d v w h=>by cases d<;>exact h) ((Gr.refl x1).drew) ?_
  simp only [OT.sures]
  iterate 6 (apply wpT_sure rfl rfl;focus (intro w' hw';obtain ⟨g0,g1,g2,g3,g4,g5,g6,g7,g8⟩:=cells9 (hw'.heap HA.out id);obtain ⟨k0,k1,k2,k3,k4,k5,k6,k7,k8⟩:=cells9 (hw'.heap HB.out id);go_simp;rfl))
  refine wpT_nil ?_;go_wp2_with fail
  refine (hl (a3,a4,a5) (a3,a4,b5) _).out.mono ?_;rintro e w9 ⟨rfl,u9⟩;rw [←HD.out];go_wp2_with fail
  go_ret
  exact ⟨rfl,HU.out.trans (HW.out.up.trans ((Upd.refl noBlk x1).drew.trans u9))⟩
 have hd:=Classical.not_not.1 hc;subst hd;clear hc;go_wp2_with fail
 rw [rounds_succ];go_wp2_with fail
 refine wp_region_tree 6 (OT.sures [0,3,1,4,2,5] .nil) (fun w'=>Gr x1 w') (by kernel_rfl) (by kernel_rfl) (fun c a d v w h=>by cases d<;>exact h) ((Gr.refl x1).drew) ?_
 simp only [OT.sures]
 iterate 6 (apply wpT_sure rfl rfl;focus (intro w' hw';obtain ⟨g0,g1,g2,g3,g4,g5,g6,g7,g8⟩:=cells9 (hw'.heap HA.out id);obtain ⟨k0,k1,k2,k3,k4,k5,k6,k7,k8⟩:=cells9 (hw'.heap HB.out id);go_simp;rfl))
 refine wpT_nil ?_;have HA2:=Lib.hid ((Gr.refl x1).drew.heap HA.out id);have HB2:=Lib.hid ((Gr.refl x1).drew.heap HB.out id);have HW2:=Lib.hid (HW.out.trans (Gr.refl x1).drew);generalize x1.drew=x2 at *;clear HA HB HW;have HA:=HA2;have HB:=HB2;have HW:=HW2;clear HA2 HB2 HW2;by_cases hc:¬a6=b6
 ·skip
  have HD:Hid (R=ptLt (a6,a7,a8) (b6,b7,b8)):=by show _=_;rw [HR.out];simp [triLt]
  clear HR;go_wp2_with fail
  refine wp_region_tree 6 (OT.sures [0,3,1,4,2,5] .nil) (fun w'=>Gr x2 w') (by kernel_rfl) (by kernel_rfl) (fun c a d v w h=>by cases d<;>exact h) ((Gr.refl x2).drew) ?_
  simp only [OT.sures]
  iterate 6 (apply wpT_sure rfl rfl;focus (intro w' hw';obtain ⟨g0,g1,g2,g3,g4,g5,g6,g7,g8⟩:=cells9 (hw'.heap HA.out id);obtain ⟨k0,k1,k2,k3,k4,k5,k6,k7,k8⟩:=cells9 (hw'.heap HB.out id);go_simp;rfl))
  refine wpT_nil ?_;go_wp2_with fail
  refine (hl (a6,a7,a8) (b6,b7,b8) _).out.mono ?_;rintro e w9 ⟨rfl,u9⟩;rw [←HD.out];go_wp2_with fail
  go_ret
  exact ⟨rfl,HU.out.trans (HW.out.up.trans ((Upd.refl noBlk x2).drew.trans u9))⟩
 have hd:=Classical.not_not.1 hc;subst hd;clear hc;by_cases hc:¬a7=b7
 ·skip
  have HD:Hid (R=ptLt (a6,a7,a8) (a6,b7,b8)):=by show _=_;rw [HR.out];simp [triLt]
  clear HR;go_wp2_with fail
  refine wp_region_tree 6 (OT.sures [0,3,1,4,2,5] .nil) (fun w'=>Gr x2 w') (by kernel_rfl) (by kernel_rfl) (fun c a d v w h=>by cases d<;>exact h) ((Gr.refl x2).drew) ?_
  simp only [OT.sures]
  iterate 6 (apply wpT_sure rfl rfl;focus (intro w' hw';obtain ⟨g0,g1,g2,g3,g4,g5,g6,g7,g8⟩:=cells9 (hw'.heap HA.out id);obtain ⟨k0,k1,k2,k3,k4,k5,k6,k7,k8⟩:=cells9 (hw'.heap HB.out id);go_simp;rfl))
  refine wpT_nil ?_;go_wp2_with fail
  refine (hl (a6,a7,a8) (a6,b7,b8) _).out.mono ?_;rintro e w9 ⟨rfl,u9⟩;rw [←HD.out];go_wp2_with fail
  go_ret
  exact ⟨rfl,HU.out.trans (HW.out.up.trans ((Upd.refl noBlk x2).drew.trans u9))⟩
 have hd:=Classical.not_not.1 hc;subst hd;clear hc;by_cases hc:¬a8=b8
 ·skip
  have HD:Hid (R=ptLt (a6,a7,a8) (a6,a7,b8)):=by show _=_;rw [HR.out];simp [triLt]
  clear HR;go_wp2_with fail
  refine wp_region_tree 6 (OT.sures [0,3,1,4,2,5] .nil) (fun w'=>Gr x2 w') (by kernel_rfl) (by kernel_rfl) (fun c a d v w h=>by cases d<;>exact h) ((Gr.refl x2).drew) ?_
  simp only [OT.sures]
  iterate 6 (apply wpT_sure rfl rfl;focus (intro w' hw';obtain ⟨g0,g1,g2,g3,g4,g5,g6,g7,g8⟩:=cells9 (hw'.heap HA.out id);obtain ⟨k0,k1,k2,k3,k4,k5,k6,k7,k8⟩:=cells9 (hw'.heap HB.out id);go_simp;rfl))
  refine wpT_nil ?_;go_wp2_with fail
  refine (hl (a6,a7,a8) (a6,a7,b8) _).out.mono ?_;rintro e w9 ⟨rfl,u9⟩;rw [←HD.out];go_wp2_with fail
  go_ret
  exact ⟨rfl,HU.out.trans (HW.out.up.trans ((Upd.refl noBlk x2).drew.trans u9))⟩
 have hd:=Classical.not_not.1 hc;subst hd;clear hc;go_wp2_with fail
 rw [rounds_succ];have HD:Hid (R=false):=by show _=_;rw [HR.out];exact triLt_irrefl _
 go_wp2_with fail
 go_ret
 exact ⟨by rw [HD.out];rfl,HU.out.trans HW.out.up⟩
theorem take_eq {α:Type} {a b:List α} (h:a.length=b.length) {k:Nat} (hk:k<a.length) (ht:a.take k=b.take k) (he:a[k]=b[k]'(h ▸ hk)):a.take (k+1)=b.take (k+1):=by
 rw [List.take_succ_eq_append_getElem hk,List.take_succ_eq_append_getElem (h ▸ hk),ht,he]
set_option maxHeartbeats 4000000 in
theorem hEqual_any (va vb:Value) (a b:List Tri) (ha:a.length≤1000000) (w:World) (hra:kTri.Rd w va a) (hrb:kTri.Rd w vb b) :
  Calls Tryz.prog 20 #[va,vb] w fun en w'=>en=.returned (.bool (decide (a=b)))∧Upd noBlk w w':=by
 obtain ⟨R,hR⟩:∃R,R=decide (a=b):=⟨_,rfl⟩;rw [←hR];have HR:=Lib.hid hR;obtain ⟨A,capa,rfl,_,hxa⟩:=hra;obtain ⟨B,capb,rfl,_,hxb⟩:=hrb;have HXA:=Lib.hid hxa;have HXB:=Lib.hid hxb;clear hxa hxb hR;by_cases hl:a.length=b.length
 ·have HL:Hid (a.length=b.length):=hl;have HAL:Hid (a.length≤1000000):=ha;have hal:(a.length:Int)≤1000000:=by omega
  rw [←hl];clear hl ha;go_enter Tryz.func20,Tryz.ntmps20
  go_wp2_with fail
  go_loopw [5] (fun i wr=>∃k:Nat,i=.int .i64 k∧k≤a.length∧a.take k=b.take k∧Upd noBlk w wr) (fun i _=>a.length-(intOf i).toNat)
  case atStart=>exact ⟨0,rfl,Nat.zero_le _,rfl,Upd.refl _ _⟩
  case round=>
   obtain ⟨k,rfl,hk,ht,hu⟩:=hrel;have HT:=Lib.hid ht;have HU:=Lib.hid hu;clear ht hu;by_cases hlt:k<a.length
   ·have hlt':(k:Int)<(a.length:Int):=by omega
    have hltb:k<b.length:=by have:=HL.out;omega
    obtain ⟨ba,oa,rfl,f1⟩:=HXA.out (by omega);obtain ⟨bb,ob,rfl,f2⟩:=HXB.out (by omega);have hk9:kTri.k=9:=rfl;have HF1:=Lib.hid ((f1 k hlt).keep HU.out);have HF2:=Lib.hid ((f2 k hltb).keep HU.out);rw [hk9] at HF1 HF2;have hws:IntKind.i64.wrap ((k:Int)+1)=(k:Int)+1:=wrapN (by omega) (by omega);have HNE:Hid (∀h:a[k]=b[k],a.take (k+1)=b.take (k+1)):=fun h=>take_eq HL.out hlt HT.out h;have HNF:Hid (∀h:¬a[k]=b[k],R=false):=fun h=>by rw [HR.out];exact decide_eq_false (fun e=>h (by subst e;rfl))
    have HK:Hid (k<a.length):=hlt;clear f1 f2 hk9;generalize a[k]=s at *;generalize b[k]=t at *;clear hlt;obtain ⟨⟨a0,a1,a2⟩,⟨a3,a4,a5⟩,⟨a6,a7,a8⟩⟩:=s;obtain ⟨⟨b0,b1,b2⟩,⟨b3,b4,b5⟩,⟨b6,b7,b8⟩⟩:=t;clear hltb;by_cases he:(((a0,a1,a2),(a3,a4,a5),(a6,a7,a8)):Tri)=((b0,b1,b2),(b3,b4,b5),(b6,b7,b8))
    ·have HTK:=Lib.hid (HNE.out he);cases he;clear HNE HNF;have heq:=fun W=>eq_tri a0 a1 a2 a3 a4 a5 a6 a7 a8 a0 a1 a2 a3 a4 a5 a6 a7 a8 W;simp only [decide_true] at heq;go_wp2_with fail
     refine wp_region_tree 8 (OT.sures [0,1,4,5,2,6,3,7] .nil) (fun w'=>Gr wr w') (by kernel_rfl) (by kernel_rfl) (fun c a d v w h=>by cases d<;>exact h) ((Gr.refl wr).drew) ?_
     simp only [OT.sures]
     iterate 8 (apply wpT_sure rfl rfl;focus (intro w' hw';obtain ⟨g0,g1,g2,g3,g4,g5,g6,g7,g8⟩:=triAt9 (HF1.out.keep hw'.up);obtain ⟨k0,k1,k2,k3,k4,k5,k6,k7,k8⟩:=triAt9 (HF2.out.keep hw'.up);go_simp;rfl))
     refine wpT_nil ?_;go_wp2_with fail
     refine ⟨⟨k+1,by push_cast;rfl,by have:=HK.out;omega,HTK.out,HU.out.drew⟩,?_⟩;simp only [intOf];have:=HK.out;omega
    ·have HD:=Lib.hid (HNF.out he);have HE:Hid (¬(((a0,a1,a2),(a3,a4,a5),(a6,a7,a8)):Tri)=((b0,b1,b2),(b3,b4,b5),(b6,b7,b8))):=he;have heq:=fun W=>eq_tri a0 a1 a2 a3 a4 a5 a6 a7 a8 b0 b1 b2 b3 b4 b5 b6 b7 b8 W;simp only [decide_eq_false he] at heq;clear HNE HNF he;go_wp2_with fail
     refine wp_region_tree 8 (OT.sures [0,1,4,5,2,6,3,7] .nil) (fun w'=>Gr wr w') (by kernel_rfl) (by kernel_rfl) (fun c a d v w h=>by cases d<;>exact h) ((Gr.refl wr).drew) ?_
     simp only [OT.sures]
     iterate 8 (apply wpT_sure rfl rfl;focus (intro w' hw';obtain ⟨g0,g1,g2,g3,g4,g5,g6,g7,g8⟩:=triAt9 (HF1.out.keep hw'.up);obtain ⟨k0,k1,k2,k3,k4,k5,k6,k7,k8⟩:=triAt9 (HF2.out.keep hw'.up);go_simp;rfl))
     refine wpT_nil ?_;go_wp2_with fail
     go_ret
     exact ⟨by rw [HD.out];rfl,HU.out.drew⟩
   ·obtain rfl:k=a.length:=by omega
    have HD:Hid (R=true):=by
     show _=_;rw [HR.out];have:=HT.out;rw [List.take_length,List.take_of_length_le (by have:=HL.out;omega)] at this;exact decide_eq_true this
    go_wp2_with fail
    go_ret
    exact ⟨by rw [HD.out];rfl,HU.out⟩
 ·have HD:Hid (R=false):=by show _=_;rw [HR.out];exact decide_eq_false (fun e=>hl (by rw [e]))
  have hl':¬(a.length:Int)=(b.length:Int):=by omega
  clear HXA HXB ha;go_enter Tryz.func20,Tryz.ntmps20
  go_wp2_with fail
  go_ret
  exact ⟨by rw [HD.out];rfl,Upd.refl _ _⟩
end Go.Proofs.YtcikldoaidmnhaaGreatDoor
