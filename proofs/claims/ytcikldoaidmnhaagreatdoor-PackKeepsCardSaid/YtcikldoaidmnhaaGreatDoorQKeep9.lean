/- Parts: The state of a walk in memory: what is known, its maps, gates and triangles. No condition. Walks of the packets' program: the state's last corner, new states, expected, zigzag. No condition. Walks of the program's mesh: Canon. No condition. Walks of the program's mesh: Rotate. No condition. Walks of the program's mesh: edges, add, opposite. No condition. slices.SortFunc over triangles, by the prog -/
import Derived.Test.YtcikldoaidmnhaaGreatDoorQKeep4
import Derived.Test.YtcikldoaidmnhaaGreatDoorQKeep5
import Derived.Test.YtcikldoaidmnhaaGreatDoorQKeep6
import Derived.Test.YtcikldoaidmnhaaGreatDoorQKeep7
import Derived.Test.YtcikldoaidmnhaaGreatDoorQKeep8
import Derived.Handy
import Derived.Deep.CutBlock
import Derived.Test.YtcikldoaidmnhaaGreatDoorShelf2
namespace Go.Proofs.YtcikldoaidmnhaaGreatDoor
open Go Go.RowKit Pk
set_option maxRecDepth 100000
set_option maxHeartbeats 2000000 in
theorem mRotate_any (t:Tri) (w:World):Calls Tryz.prog 93 #[triV t] w fun en w'=>en=.returned (triV (rot t))∧Upd noBlk w w':=by
 have hl:=fun p q W=>Lib.hid (Less_any p q W);have hc:=Lib.hid (show rot t=if ptLt t.2.1 t.1 then (if ptLt t.2.2 t.2.1 then (t.2.2,t.1,t.2.1) else (t.2.1,t.2.2,t.1)) else (if ptLt t.2.2 t.1 then (t.2.2,t.1,t.2.1) else t) from rfl);obtain ⟨⟨a0,a1,a2⟩,⟨a3,a4,a5⟩,⟨a6,a7,a8⟩⟩:=t;unfold triV triC;simp only at hc;obtain ⟨wx,hwx⟩:∃wx,wx=(w.alloc (.cells #[.int .i64 a0,.int .i64 a1,.int .i64 a2,.int .i64 a3,.int .i64 a4,.int .i64 a5,.int .i64 a6,.int .i64 a7,.int .i64 a8] 45)).alloc (.cells #[.int .i64 0,.int .i64 0,.int .i64 0,.int .i64 0,.int .i64 0,.int .i64 0,.int .i64 0,.int .i64 0,.int .i64 0] 45):=⟨_,rfl⟩;have U1:Hid (Gr w wx):=by show Gr _ _;rw [hwx];exact ((Gr.refl _).alloc _).alloc _
 have ca:Hid (wx.heap[w.heap.size]?=some (.cells #[.int .i64 a0,.int .i64 a1,.int .i64 a2,.int .i64 a3,.int .i64 a4,.int .i64 a5,.int .i64 a6,.int .i64 a7,.int .i64 a8] 45)):=by
  show _=_;rw [hwx];exact ((Gr.refl _).alloc _).heap (heap_alloc_new _ _) id
 have cb:Hid (wx.heap[w.heap.size+1]?=some (.cells #[.int .i64 0,.int .i64 0,.int .i64 0,.int .i64 0,.int .i64 0,.int .i64 0,.int .i64 0,.int .i64 0,.int .i64 0] 45)):=by
  show _=_;rw [hwx];have:=heap_alloc_new (w.alloc (.cells #[.int .i64 a0,.int .i64 a1,.int .i64 a2,.int .i64 a3,.int .i64 a4,.int .i64 a5,.int .i64 a6,.int .i64 a7,.int .i64 a8] 45)) (.cells #[.int .i64 0,.int .i64 0,.int .i64 0,.int .i64 0,.int .i64 0,.int .i64 0,.int .i64 0,.int .i64 0,.int .i64 0] 45);rwa [World.size_alloc] at this
 go_enter Tryz.func93,Tryz.ntmps93
 go_upto_block 0 with fail
 rw [←hwx];clear hwx;go_wp2_with fail
 refine wp_loop_rounds 3 ?_;have U1wx:=U1;have cawx:=ca;have cbwx:=cb;clear U1 ca cb;rw [rounds_succ];go_wp2_with fail
 refine wp_region_tree 6 (OT.sures [0,3,1,4,2,5] .nil) (fun w'=>Gr wx w') (by kernel_rfl) (by kernel_rfl) (fun c a d v w h=>by cases d<;>exact h) ((Gr.refl wx).drew) ?_
 simp only [OT.sures]
 iterate 6 (apply wpT_sure rfl rfl;focus (intro w' hw';obtain ⟨g0,g1,g2,g3,g4,g5,g6,g7,g8⟩:=cells9 (hw'.heap cawx.out id);go_simp;rfl))
 refine wpT_nil ?_;go_wp2_with fail
 refine (hl (a3,a4,a5) (a0,a1,a2) _).out.mono ?_;rintro e x1 ⟨rfl,u1⟩;have V1:=Lib.hid (((Gr.refl wx).drew).trans u1);have U1x1:=Lib.hid (U1wx.out.trans V1.out);have cax1:=Lib.hid (V1.out.heap cawx.out id);have cbx1:=Lib.hid (V1.out.heap cbwx.out id);clear u1 U1wx cawx cbwx V1;rcases h1:ptLt (a3,a4,a5) (a0,a1,a2) with _ | _
 ·rw [h1] at hc;go_wp2_with fail
  rw [rounds_succ];go_wp2_with fail
  refine wp_region_tree 6 (OT.sures [0,3,1,4,2,5] .nil) (fun w'=>Gr x1 w') (by kernel_rfl) (by kernel_rfl) (fun c a d v w h=>by cases d<;>exact h) ((Gr.refl x1).drew) ?_
  simp only [OT.sures]
  iterate 6 (apply wpT_sure rfl rfl;focus (intro w' hw';obtain ⟨g0,g1,g2,g3,g4,g5,g6,g7,g8⟩:=cells9 (hw'.heap cax1.out id);go_simp;rfl))
  refine wpT_nil ?_;go_wp2_with fail
  refine (hl (a6,a7,a8) (a0,a1,a2) _).out.mono ?_;rintro e x2 ⟨rfl,u2⟩;have V2:=Lib.hid (((Gr.refl x1).drew).trans u2);have U1x2:=Lib.hid (U1x1.out.trans V2.out);have cax2:=Lib.hid (V2.out.heap cax1.out id);have cbx2:=Lib.hid (V2.out.heap cbx1.out id);clear u2 U1x1 cax1 cbx1 V2;rcases h2:ptLt (a6,a7,a8) (a0,a1,a2) with _ | _
  ·rw [h2] at hc;go_wp2_with fail
   rw [rounds_succ];go_wp2_with fail
   have q1:(IntKind.i64.wrap 1).tmod 3=1:=by decide
   have q2:(IntKind.i64.wrap 2).tmod 3=2:=by decide
   have q3:(IntKind.i64.wrap 3).tmod 3=0:=by decide
   have q4:(IntKind.i64.wrap 4).tmod 3=1:=by decide
   refine wp_region_tree 14 (OT.sures [0,3,8,1,4,9,2,5,10,6,11,7,12,13] .nil) (fun w'=>Gr x2 w') (by kernel_rfl) (by kernel_rfl) (fun c a d v w h=>by cases d<;>exact h) ((Gr.refl x2).drew) ?_
   simp only [OT.sures]
   iterate 14 (apply wpT_sure rfl rfl;focus (intro w' hw';obtain ⟨g0,g1,g2,g3,g4,g5,g6,g7,g8⟩:=cells9 (hw'.heap cax2.out id);go_simp;rfl))
   refine wpT_nil ?_;obtain ⟨F1,F2⟩:=cellsF9 cbx2.out;obtain ⟨k0,k1,k2,k3,k4,k5,k6,k7,k8⟩:=F1;obtain ⟨z0,z1,z2,z3,z4,z5,z6,z7,z8⟩:=F2;go_wp2_with fail
   refine post9 (Q:=fun wz=>bodyPost _ _ _ _ _ wz) cbx2.out U1x2.out.up (Nat.le_succ _) (fun wz hz hu=>?_);obtain ⟨g0,g1,g2,g3,g4,g5,g6,g7,g8⟩:=cells9 hz;refine bodyPost_ret (by simp [results,Tryz.results93,go_sem,g0,g1,g2,g3,g4,g5,g6,g7,g8];rfl) rfl ?_;refine ⟨?_,hu⟩;rw [hc.out];rfl
  ·rw [h2] at hc;go_wp2_with fail
   rw [rounds_succ];go_wp2_with fail
   have q1:(IntKind.i64.wrap 1).tmod 3=1:=by decide
   have q2:(IntKind.i64.wrap 2).tmod 3=2:=by decide
   have q3:(IntKind.i64.wrap 3).tmod 3=0:=by decide
   have q4:(IntKind.i64.wrap 4).tmod 3=1:=by decide
   refine wp_region_tree 14 (OT.sures [0,3,8,1,4,9,2,5,10,6,11,7,12,13] .nil) (fun w'=>Gr x2 w') (by kernel_rfl) (by kernel_rfl) (fun c a d v w h=>by cases d<;>exact h) ((Gr.refl x2).drew) ?_
   simp only [OT.sures]
   iterate 14 (apply wpT_sure rfl rfl;focus (intro w' hw';obtain ⟨g0,g1,g2,g3,g4,g5,g6,g7,g8⟩:=cells9 (hw'.heap cax2.out id);go_simp;rfl))
   refine wpT_nil ?_;obtain ⟨F1,F2⟩:=cellsF9 cbx2.out;obtain ⟨k0,k1,k2,k3,k4,k5,k6,k7,k8⟩:=F1;obtain ⟨z0,z1,z2,z3,z4,z5,z6,z7,z8⟩:=F2;go_wp2_with fail
   refine post9 (Q:=fun wz=>bodyPost _ _ _ _ _ wz) cbx2.out U1x2.out.up (Nat.le_succ _) (fun wz hz hu=>?_);obtain ⟨g0,g1,g2,g3,g4,g5,g6,g7,g8⟩:=cells9 hz;refine bodyPost_ret (by simp [results,Tryz.results93,go_sem,g0,g1,g2,g3,g4,g5,g6,g7,g8];rfl) rfl ?_;refine ⟨?_,hu⟩;rw [hc.out];rfl
 ·rw [h1] at hc;go_wp2_with fail
  rw [rounds_succ];go_wp2_with fail
  refine wp_region_tree 6 (OT.sures [0,3,1,4,2,5] .nil) (fun w'=>Gr x1 w') (by kernel_rfl) (by kernel_rfl) (fun c a d v w h=>by cases d<;>exact h) ((Gr.refl x1).drew) ?_
  simp only [OT.sures]
  iterate 6 (apply wpT_sure rfl rfl;focus (intro w' hw';obtain ⟨g0,g1,g2,g3,g4,g5,g6,g7,g8⟩:=cells9 (hw'.heap cax1.out id);go_simp;rfl))
  refine wpT_nil ?_;go_wp2_with fail
  refine (hl (a6,a7,a8) (a3,a4,a5) _).out.mono ?_;rintro e x3 ⟨rfl,u3⟩;have V3:=Lib.hid (((Gr.refl x1).drew).trans u3);have U1x3:=Lib.hid (U1x1.out.trans V3.out);have cax3:=Lib.hid (V3.out.heap cax1.out id);have cbx3:=Lib.hid (V3.out.heap cbx1.out id);clear u3 U1x1 cax1 cbx1 V3;rcases h2:ptLt (a6,a7,a8) (a3,a4,a5) with _ | _
  ·rw [h2] at hc;go_wp2_with fail
   rw [rounds_succ];go_wp2_with fail
   have q1:(IntKind.i64.wrap 1).tmod 3=1:=by decide
   have q2:(IntKind.i64.wrap 2).tmod 3=2:=by decide
   have q3:(IntKind.i64.wrap 3).tmod 3=0:=by decide
   have q4:(IntKind.i64.wrap 4).tmod 3=1:=by decide
   refine wp_region_tree 14 (OT.sures [0,3,8,1,4,9,2,5,10,6,11,7,12,13] .nil) (fun w'=>Gr x3 w') (by kernel_rfl) (by kernel_rfl) (fun c a d v w h=>by cases d<;>exact h) ((Gr.refl x3).drew) ?_
   simp only [OT.sures]
   iterate 14 (apply wpT_sure rfl rfl;focus (intro w' hw';obtain ⟨g0,g1,g2,g3,g4,g5,g6,g7,g8⟩:=cells9 (hw'.heap cax3.out id);go_simp;rfl))
   refine wpT_nil ?_;obtain ⟨F1,F2⟩:=cellsF9 cbx3.out;obtain ⟨k0,k1,k2,k3,k4,k5,k6,k7,k8⟩:=F1;obtain ⟨z0,z1,z2,z3,z4,z5,z6,z7,z8⟩:=F2;go_wp2_with fail
   refine post9 (Q:=fun wz=>bodyPost _ _ _ _ _ wz) cbx3.out U1x3.out.up (Nat.le_succ _) (fun wz hz hu=>?_);obtain ⟨g0,g1,g2,g3,g4,g5,g6,g7,g8⟩:=cells9 hz;refine bodyPost_ret (by simp [results,Tryz.results93,go_sem,g0,g1,g2,g3,g4,g5,g6,g7,g8];rfl) rfl ?_;refine ⟨?_,hu⟩;rw [hc.out];rfl
  ·rw [h2] at hc;go_wp2_with fail
   rw [rounds_succ];go_wp2_with fail
   have q1:(IntKind.i64.wrap 1).tmod 3=1:=by decide
   have q2:(IntKind.i64.wrap 2).tmod 3=2:=by decide
   have q3:(IntKind.i64.wrap 3).tmod 3=0:=by decide
   have q4:(IntKind.i64.wrap 4).tmod 3=1:=by decide
   refine wp_region_tree 14 (OT.sures [0,3,8,1,4,9,2,5,10,6,11,7,12,13] .nil) (fun w'=>Gr x3 w') (by kernel_rfl) (by kernel_rfl) (fun c a d v w h=>by cases d<;>exact h) ((Gr.refl x3).drew) ?_
   simp only [OT.sures]
   iterate 14 (apply wpT_sure rfl rfl;focus (intro w' hw';obtain ⟨g0,g1,g2,g3,g4,g5,g6,g7,g8⟩:=cells9 (hw'.heap cax3.out id);go_simp;rfl))
   refine wpT_nil ?_;obtain ⟨F1,F2⟩:=cellsF9 cbx3.out;obtain ⟨k0,k1,k2,k3,k4,k5,k6,k7,k8⟩:=F1;obtain ⟨z0,z1,z2,z3,z4,z5,z6,z7,z8⟩:=F2;go_wp2_with fail
   refine post9 (Q:=fun wz=>bodyPost _ _ _ _ _ wz) cbx3.out U1x3.out.up (Nat.le_succ _) (fun wz hz hu=>?_);obtain ⟨g0,g1,g2,g3,g4,g5,g6,g7,g8⟩:=cells9 hz;refine bodyPost_ret (by simp [results,Tryz.results93,go_sem,g0,g1,g2,g3,g4,g5,g6,g7,g8];rfl) rfl ?_;refine ⟨?_,hu⟩;rw [hc.out];rfl
end Go.Proofs.YtcikldoaidmnhaaGreatDoor
namespace Go.Proofs.YtcikldoaidmnhaaGreatDoor
open Go Go.RowKit Pk Go.Shelf Go.Lib Go.Sort
set_option maxRecDepth 100000
theorem orL_neg (a b c:Int):(orL a b c<0)↔(a<0∨(a=0∧(b<0∨(b=0∧c<0)))):=by
 unfold orL;by_cases h1:a=0
 ·subst h1;by_cases h2:b=0
  ·subst h2;simp
  ·simp [h2]
 ·simp [h1]
theorem cmpP_neg (a b:Pt):cmpP a b<0↔ptLt a b=true:=by
 unfold cmpP;by_cases h:ptLt a b=true
 ·simp [h]
 ·by_cases h2:ptLt b a=true<;>simp [h,h2]
theorem cmpP_zero (a b:Pt):cmpP a b=0↔a=b:=by
 unfold cmpP;by_cases h:ptLt a b=true
 ·rw [if_pos h];exact ⟨fun e=>by omega,fun e=>by rw [e,ptLt_irrefl] at h;cases h⟩
 ·rw [if_neg h];by_cases h2:ptLt b a=true
  ·rw [if_pos h2];exact ⟨fun e=>by omega,fun e=>by rw [e,ptLt_irrefl] at h2;cases h2⟩
  ·rw [if_neg h2];exact ⟨fun _=>ptLt_total (by simpa using h) (by simpa using h2),fun _=>rfl⟩
theorem cmpT_lt (s t:Tri):ltOf cmpT s t=triLt s t:=by
 unfold ltOf cmpT triLt;have h:=orL_neg (cmpP s.1 t.1) (cmpP s.2.1 t.2.1) (cmpP s.2.2 t.2.2);rw [cmpP_neg,cmpP_neg,cmpP_neg,cmpP_zero,cmpP_zero] at h;rw [Bool.eq_iff_iff,decide_eq_true_eq,h];by_cases e1:s.1=t.1
 ·rw [if_neg (by simp [e1])];by_cases e2:s.2.1=t.2.1
  ·rw [if_neg (by simp [e2])];simp [e1,e2,ptLt_irrefl]
  ·rw [if_pos e2];simp [e1,e2,ptLt_irrefl]
 ·rw [if_pos e1];simp [e1]
theorem ltOf_tri:(ltOf cmpT)=triLt:=funext fun s=>funext fun t=>cmpT_lt s t
theorem swoT:SWO (ltOf cmpT):=by
 rw [ltOf_tri];refine ⟨triLt_irrefl,fun _ _ _=>triLt_trans,fun x y z h1 h2=>?_⟩;have:=triLe_trans z y x (by unfold triLe;rw [h2];rfl) (by unfold triLe;rw [h1];rfl);unfold triLe at this;simpa using this
theorem Gr.shape {w w':World} (h:Gr w w'):∃q os',w'=grow (w.drewN q) os':=by
 obtain ⟨hu,hd⟩:=h;refine ⟨w'.drawn-w.drawn,w'.heap.extract w.heap.size w'.heap.size,?_⟩;have h1:=hu.os;have h2:=hu.tape;have h3:=hu.output;have h4:=hu.size;have hh:w'.heap=w.heap++w'.heap.extract w.heap.size w'.heap.size:=by
  apply Array.ext_getElem?;intro k;by_cases hk:k<w.heap.size
  ·rw [hu.block k hk id,Array.getElem?_append_left hk]
  ·rw [Array.getElem?_append_right (by omega),Array.getElem?_extract];by_cases hk2:k<w'.heap.size
   ·rw [if_pos (by omega),show w.heap.size+(k-w.heap.size)=k by omega]
   ·rw [if_neg (by omega),Array.getElem?_eq_none (by omega)]
 obtain ⟨he,ta,dr,os,ou⟩:=w';obtain ⟨he0,ta0,dr0,os0,ou0⟩:=w;simp only at h1 h2 h3 h4 hd hh;subst h1 h2 h3;unfold grow World.drewN;simp only [World.mk.injEq,true_and,and_true];refine ⟨hh,?_⟩
 try omega
theorem cmpLaysT (blk off size:Nat) (w:World):CmpLays Tryz.prog 95 #[] triC 9 cmpT blk off size w:=fun m os dk _ x y=>by
 refine (compareTris_any x y _).mono ?_;rintro e w' ⟨rfl,hg⟩;exact ⟨rfl,hg.shape⟩
instance:Inhabited Tri:=⟨((0,0,0),(0,0,0),(0,0,0))⟩
theorem holdsT {w:World} {base g cap:Nat} {l:List Tri} (h:kTri.Own base w (.slice (some ⟨g,0,none⟩) l.length cap) l):HoldsK triC 9 w g 0 l.toArray:=by
 intro j hj;have hj':j<l.length*9:=by simpa using hj
 have hq:j / 9<l.length:=by omega
 have e:=kTri.flat_get l (j / 9) hq (j % 9) (Nat.mod_lt _ (by decide));have e2:j / 9*9+j % 9=j:=by omega
 have e3:(l.flatMap kTri.enc)[j]?=(triC l[j / 9])[j % 9]?:=by
  have e':(l.flatMap kTri.enc)[j / 9*9+j % 9]?=(triC l[j / 9])[j % 9]?:=e;rwa [e2] at e'
 have hc:=World.ownsRow.cellAt h j hj';rw [Nat.zero_add,hc];refine ⟨?_,World.ownsRow.frozenAt h j⟩;have hlen:j % 9<(triC l[j / 9]).length:=Nat.mod_lt _ (by decide);have hg:(flatK triC 9 l.toArray)[j]! = (triC l[j / 9])[j % 9]!:=by
  rw [get_flatK _ _ _ _ (by simpa using hj')];congr 1
  rw [getElem!_pos _ _ (by simpa using hq)];simp
 show (l.flatMap kTri.enc)[j]?=some ((flatK triC 9 l.toArray)[j]!);rw [hg,e3,List.getElem?_eq_getElem hlen,List.getElem!_eq_getElem?_getD,List.getElem?_eq_getElem hlen];rfl
theorem triLe_of:(fun x y:Tri=>!(ltOf cmpT) y x)=triLe:=by rw [ltOf_tri];rfl
theorem sort_any {base:Nat} (v:Value) (l:List Tri) (hl:l.length<4611686018427387904) (w:World) (h:kTri.Own base w v l) :
  Calls Tryz.prog 94 #[v,.func (.func 95) #[] #[]] w fun en w'=>en=.returned (.tuple #[])∧kTri.Rd w' v (l.mergeSort triLe)∧Upd (fun k=>v.ownBlock=some k) w w':=by
 obtain ⟨A,cap,hv,hc⟩:=h.form;subst hv;rcases Nat.eq_zero_or_pos l.length with h0 | h0
 ·have hn:=AnyF.slices_SortFunc_none (P:=Tryz.prog) (ρ:=Tryz.sortTri_ren) { Tryz.sortTri with } A cap (.func (.func 95) #[] #[]) w;change Calls Tryz.prog 94 _ _ _ at hn;have hl0:l=[]:=List.eq_nil_of_length_eq_zero h0;subst hl0;refine hn.mono ?_;rintro e w' ⟨rfl,rfl⟩;exact ⟨rfl,⟨A,cap,by simp,by simp,fun h=>absurd h (by simp)⟩,Upd.refl _ _⟩
 ·obtain ⟨g,rfl,hg⟩:∃g,A=some ⟨g,0,none⟩∧g<w.heap.size:=by
   rcases h.2 with ⟨_,h1⟩ | ⟨g,c,cur,e,h1,h2,_⟩
   ·omega
   ·cases e;exact ⟨g,rfl,lt_of_heap h2⟩
  have eg:∀args w,(callFunc 95 args).run Tryz.prog w=.ok (.enter 95 args) w:=enters_of Tryz.func95 (by kernel_rfl) rfl;have hH:=holdsT h;have hs:=AnyQ.slices_SortFunc_total Tryz.sortTri 9 Tryz.isAgg45 Tryz.sizeOf45 triC (fun _=>rfl) kTri.one cmpT swoT 95 #[] g 0 cap l.toArray w eg (cmpLaysT _ _ _ _) hH hg (by simpa using hl) (fun x y h1 h2=>by rw [cmpT_lt] at h1 h2;exact triLt_total h1 h2);change Calls Tryz.prog 94 _ _ _ at hs;rw [List.size_toArray] at hs;refine hs.mono ?_;rintro e w' ⟨rfl,n,os,rfl⟩;rw [triLe_of];have hp:(l.mergeSort triLe).length=l.length:=List.length_mergeSort l;have hH2:HoldsK triC 9 (sortWorldK triC 9 w g 0 n (l.mergeSort triLe).toArray os) g 0 (l.mergeSort triLe).toArray:=holdsK_sortWorldK_c triC 9 w g 0 l.toArray (l.mergeSort triLe).toArray n os hH hg (by simp);refine ⟨rfl,⟨some ⟨g,0,none⟩,cap,by rw [hp],by omega,fun _=>⟨g,0,rfl,fun j hj i v hv=>?_⟩⟩,?_⟩
  ·have hi:i<9:=(List.getElem?_eq_some_iff.1 hv).1;have:=(hH2.cell (i:=j) (c:=i) (by simpa using hj) hi).1;have e1:(l.mergeSort triLe).toArray[j]! = (l.mergeSort triLe)[j]:=by rw [getElem!_pos _ _ (by simpa using hj)];simp
   rw [e1] at this;have e2:(triC (l.mergeSort triLe)[j])[i]! = v:=by
    rw [getElem!_pos _ _ (by exact hi)];exact (List.getElem?_eq_some_iff.1 hv).2
   rw [e2] at this;exact this
  ·refine ⟨rfl,rfl,rfl,size_sortWorldK_c triC 9 w g 0 n _ os,fun k hk hF=>?_⟩;have hne:g≠k:=fun e=>hF (by rw [e];rfl);unfold sortWorldK grow putRowK putRow mapBlock;simp only;rw [Array.getElem?_append_left (by simpa [Sort.ahead] using hk),Array.getElem?_modify,if_neg hne];rfl
end Go.Proofs.YtcikldoaidmnhaaGreatDoor
namespace Go.Proofs.YtcikldoaidmnhaaGreatDoor
open Go Go.RowKit Pk
set_option maxRecDepth 100000
set_option maxHeartbeats 1000000 in
theorem mCanon_any (v:Value) (l:List Tri) (hn:l.length≤1000000) (w:World) (h:kTri.Rd w v l) :
  Calls Tryz.prog 43 #[v] w fun en w'=>∃v',en=.returned v'∧kTri.Rd w' v' (canon l)∧Upd noBlk w w':=by
 have hr:=fun t W=>Lib.hid (mRotate_any t W);obtain ⟨A,cap,rfl,hcap,hx⟩:=h;have HX:=Lib.hid hx;have hn':(l.length:Int)≤1000000:=by omega
 clear hx;go_enter Tryz.func43,Tryz.ntmps43
 go_wp2_with fail
 go_loopw [3,8] (fun o i wr=>∃k:Nat,i=.int .i64 k∧k≤l.length∧kTri.Own w.heap.size wr o ((l.take k).map rot)∧Upd noBlk w wr) (fun _ i _=>l.length-(intOf i).toNat)
 case atStart=>exact ⟨0,rfl,Nat.zero_le _,Kd.Own.nil _ _ _,Upd.refl _ _⟩
 case round=>
  obtain ⟨k,rfl,hk,ho,hu⟩:=hrel;have HO:=Lib.hid ho;have HU:=Lib.hid hu;clear ho hu;by_cases hlt:k<l.length
  ·have hlt':(k:Int)<(l.length:Int):=by omega
   obtain ⟨b,off,rfl,f1⟩:=HX.out (by omega);obtain ⟨g0,g1,g2,g3,g4,g5,g6,g7,g8⟩:=triAt9 ((f1 k hlt).keep HU.out);have hk9:kTri.k=9:=rfl;rw [hk9] at g0 g1 g2 g3 g4 g5 g6 g7 g8;have HT:Hid ((l.take (k+1)).map rot=(l.take k).map rot++[rot l[k]]):=by show _=_;rw [List.take_succ_eq_append_getElem hlt,List.map_append];rfl
   have HL:Hid (((l.take k).map rot).length=k):=by show _=_;rw [List.length_map,List.length_take];omega
   clear f1 hk9;have hrt:=hr l[k];generalize l[k]=tk at *;obtain ⟨⟨a0,a1,a2⟩,⟨a3,a4,a5⟩,⟨a6,a7,a8⟩⟩:=tk;simp only at g0 g1 g2 g3 g4 g5 g6 g7 g8;have HH:=Lib.hid (show kTri.enc=triC from rfl);go_wp2_with fail
   refine (hrt _).out.mono ?_;rintro e w2 ⟨rfl,u2⟩;have U2:=Lib.hid (HU.out.trans (((Upd.refl noBlk wr).alloc _).trans u2));have O2:=Lib.hid (HO.out.upd (((Upd.refl noBlk wr).alloc _).trans u2));clear u2;obtain ⟨g,cap2,w3,r3,o3,v3,_⟩:=O2.out.app1 U2.out.size (rot ((a0,a1,a2),(a3,a4,a5),a6,a7,a8)) (by have:=HL.out;omega);rw [HL.out] at r3 o3;have R3:=Lib.hid r3;have O3:=Lib.hid o3;have V3:=Lib.hid v3;have HV:Hid (∀i,i<w.heap.size→u3.ownBlock=some i→noBlk i):=fun i hi e=>absurd hi (by have:=(O2.out.blk e).1;omega);clear r3 o3 v3;generalize rot ((a0,a1,a2),(a3,a4,a5),a6,a7,a8)=rt at *;obtain ⟨⟨c0,c1,c2⟩,⟨c3,c4,c5⟩,⟨c6,c7,c8⟩⟩:=rt;unfold triV triC;go_wp2_with (at_builtin;refine wpList_append_run rfl _ _ _ rfl rfl rfl R3.out ?_)
   refine ⟨⟨k+1,by go_num,hlt,?_,U2.out.then V3.out HV.out⟩,by simp [intOf];omega⟩;rw [HT.out];exact O3.out
  ·obtain rfl:k=l.length:=by omega
   have hl2:((l.take l.length).map rot)=l.map rot:=by rw [List.take_length]
   have hown:=HO.out;rw [hl2] at hown;have HS:=Lib.hid (sort_any u3 (l.map rot) (by rw [List.length_map];omega) wr hown);obtain ⟨A3,c3,hv3,_⟩:=hown.form;have HB:Hid (∀i,i<w.heap.size→u3.ownBlock=some i→noBlk i):=fun i hi e=>absurd hi (by have:=(HO.out.blk e).1;omega);rw [List.length_map] at hv3;subst hv3;clear hown;go_wp2_with fail
   refine HS.out.mono ?_;rintro e w2 ⟨rfl,r2,u2⟩;have R2:=Lib.hid r2;have U2:=Lib.hid (HU.out.then u2 HB.out);clear r2 u2;go_wp2_with fail
   go_ret
   exact ⟨_,rfl,R2.out,U2.out⟩
end Go.Proofs.YtcikldoaidmnhaaGreatDoor
namespace Go.Proofs.YtcikldoaidmnhaaGreatDoor
open Go Go.RowKit Pk
set_option maxRecDepth 100000
def edges3C (t:Tri):Array Value:=#[.int .i64 t.1.1,.int .i64 t.1.2.1,.int .i64 t.1.2.2,.int .i64 t.2.1.1,.int .i64 t.2.1.2.1,.int .i64 t.2.1.2.2,.int .i64 t.2.1.1,.int .i64 t.2.1.2.1,.int .i64 t.2.1.2.2,.int .i64 t.2.2.1,.int .i64 t.2.2.2.1,.int .i64 t.2.2.2.2,.int .i64 t.2.2.1,.int .i64 t.2.2.2.1,.int .i64 t.2.2.2.2,.int .i64 t.1.1,.int .i64 t.1.2.1,.int .i64 t.1.2.2]
set_option maxHeartbeats 1000000 in
theorem mEdges_any (t:Tri) (w:World):Calls Tryz.prog 178 #[triV t] w fun en w'=>en=.returned (.agg (edges3C t))∧Gr w w':=by
 obtain ⟨⟨a0,a1,a2⟩,⟨a3,a4,a5⟩,⟨a6,a7,a8⟩⟩:=t;unfold triV triC edges3C;go_enter Tryz.func178,Tryz.ntmps178
 go_wp2_with fail
 (try simp only [Exit.inBlock,Exit.then])
 refine bodyPost_ret (results_cell_row rfl _ _ (w.heap.size+1) 259 _ (0,0) _ rfl (by have:=heap_alloc_new (w.alloc (.cells #[.int .i64 a0,.int .i64 a1,.int .i64 a2,.int .i64 a3,.int .i64 a4,.int .i64 a5,.int .i64 a6,.int .i64 a7,.int .i64 a8] 45)) (.cells #[.int .i64 a0,.int .i64 a1,.int .i64 a2,.int .i64 a3,.int .i64 a4,.int .i64 a5,.int .i64 a3,.int .i64 a4,.int .i64 a5,.int .i64 a6,.int .i64 a7,.int .i64 a8,.int .i64 a6,.int .i64 a7,.int .i64 a8,.int .i64 a0,.int .i64 a1,.int .i64 a2] 259);rw [World.size_alloc] at this;exact this) Tryz.underlying259 rfl (by kernel_rfl)) rfl ?_;exact ⟨rfl,((Gr.refl w).alloc _).alloc _⟩
def setF (E:List Ed):Ed→Option Bool:=fun e=>if e∈E then some true else none
theorem setF_in {E:List Ed} {e:Ed} (h:e∈E):setF (E++[e])=setF E:=by
 funext c
 unfold setF;by_cases hc:c∈E
 ·rw [if_pos hc,if_pos (by simp [hc])]
 ·have hne:c≠e:=fun x=>hc (x ▸ h);rw [if_neg hc,if_neg (by simp [hc,hne])]
theorem setF_new (E:List Ed) (e:Ed):(fun c=>if c=e then some true else setF E c)=setF (E++[e]):=by
 funext c
 unfold setF;by_cases hc:c=e
 ·rw [if_pos hc,if_pos (by simp [hc])]
 ·rw [if_neg hc];by_cases h:c∈E
  ·rw [if_pos h,if_pos (by simp [h])]
  ·rw [if_neg h,if_neg (by simp [h,hc])]
set_option maxHeartbeats 1000000 in
theorem mAdd_any (b n:Nat) (E:List Ed) (e:Ed) (he:okE e) (hn:n<1000000) (w:World) (h:kitSet.At w b n (setF E)) :
  Calls Tryz.prog 179 #[.map (some b),edV e] w fun en w'=>en=.returned (.bool (!decide (e∈E)))∧kitSet.At w' b (n+1) (setF (E++[e]))∧Upd (fun j=>j=b) w w':=by
 have HE:=Lib.hid he;have HF:=Lib.hid (setF_new E e);have hb:b<w.heap.size:=by obtain ⟨es,cl,hh⟩:=h.blk;exact lt_of_heap hh
 obtain ⟨⟨a0,a1,a2⟩,⟨a3,a4,a5⟩⟩:=e;unfold edV;have HU:Hid (Upd noBlk w (w.alloc (.cells #[.int .i64 a0,.int .i64 a1,.int .i64 a2,.int .i64 a3,.int .i64 a4,.int .i64 a5] 258))):=(Upd.refl noBlk w).alloc _;have HL:=Lib.hid (h.keep HU.out);by_cases hm:((a0,a1,a2),(a3,a4,a5))∈E
 ·have hs:((setF E ((a0,a1,a2),(a3,a4,a5))).getD kitSet.zero)=true:=by unfold setF;rw [if_pos hm];rfl
  have HI:=Lib.hid (setF_in hm);have hd:decide (((a0,a1,a2),(a3,a4,a5))∈E)=true:=decide_eq_true hm;have HD:=Lib.hid hd;have HS:=Lib.hid hs;clear h hm hs hd;go_enter Tryz.func179,Tryz.ntmps179
  go_wp2_with (at_lookup;refine HL.out.look rfl _ _ rfl rfl (a:=((a0,a1,a2),(a3,a4,a5))) rfl HE.out ?_;rw [HS.out])
  go_ret
  refine ⟨by rw [HD.out];rfl,?_,HU.out.mono (fun _ _ h=>h.elim)⟩;rw [HI.out];exact HL.out.mono (Nat.le_succ _)
 ·have hs:((setF E ((a0,a1,a2),(a3,a4,a5))).getD kitSet.zero)=false:=by unfold setF;rw [if_neg hm];rfl
  have hd:decide (((a0,a1,a2),(a3,a4,a5))∈E)=false:=decide_eq_false hm;have HD:=Lib.hid hd;have HS:=Lib.hid hs;clear h hm hs hd;go_enter Tryz.func179,Tryz.ntmps179
  go_wp2_with (first | (at_lookup;refine HL.out.look rfl _ _ rfl rfl (a:=((a0,a1,a2),(a3,a4,a5))) rfl HE.out ?_;rw [HS.out]) | (at_mapUpdate;refine HL.out.store (by unfold maxLen;omega) rfl _ _ _ rfl rfl (a:=((a0,a1,a2),(a3,a4,a5))) rfl HE.out (v:=true) rfl trivial ?_;intro w3 hm3 hu3;have HM3:=Lib.hid hm3;have HU3:=Lib.hid hu3;clear hm3 hu3))
  go_ret
  refine ⟨by rw [HD.out];rfl,?_,(HU.out.mono (fun _ _ h=>h.elim)).trans HU3.out⟩;rw [←HF.out];exact HM3.out
end Go.Proofs.YtcikldoaidmnhaaGreatDoor
namespace Go.Proofs.YtcikldoaidmnhaaGreatDoor
open Go Go.RowKit Pk
set_option maxRecDepth 100000
noncomputable def kGate:Kd Tryz.prog Gate:={ T:=105,S:=101,k:=9,bytes:=72,enc:=triC,len:=fun _=>rfl,one:=kTri.one,pos:=by decide,small:=by decide,und:=Tryz.underlying101,info:=kinfo_of (by kernel_rfl) }
def atF (known:List Pt):Pt→Option Int:=fun p=>if p∈known then some ((known.idxOf p:Nat):Int) else none
theorem atF_new {known:List Pt} {p:Pt} (h:p∉known):(fun c=>if c=p then some (known.length:Int) else atF known c)=atF (known++[p]):=by
 funext c
 unfold atF;by_cases hc:c=p
 ·subst hc;rw [if_pos rfl,if_pos (by simp),List.idxOf_append,if_neg h];simp
 ·rw [if_neg hc];by_cases h2:c∈known
  ·rw [if_pos h2,if_pos (by simp [h2]),List.idxOf_append,if_pos h2]
  ·rw [if_neg h2,if_neg (by simp [h2,hc])]
structure SComp (w:World) (S:Wk) (vK vG vT:Value) (ba bu:Nat):Prop where
 at_:kitAt.At w ba S.known.length (atF S.known)
 used:kitUsed.At w bu (3*S.tris.length) (setF (edgesL S.tris))
 known:kPt.Own 0 w vK S.known
 gates:kGate.Que 0 w vG S.gates
 tris:kTri.Own 0 w vT S.tris
 ab:ba≠bu
structure SLive (w:World) (b:Nat) (S:Wk) (vK vG vT:Value) (ba bu:Nat):Prop where
 blk:w.heap[b]?=some (.cells #[vK,.map (some ba),.map (some bu),vG,vT] 103 (0,0))
 comp:SComp w S vK vG vT ba bu
def sFoot (b:Nat) (vK vG vT:Value) (ba bu:Nat):Nat→Prop:=fun k=>k=b∨k=ba∨k=bu∨vK.ownBlock=some k∨vG.ownBlock=some k∨vT.ownBlock=some k
def SRep (w:World) (b:Nat) (S:Wk) (G:Nat→Prop):Prop:=∃vK vG vT ba bu,SLive w b S vK vG vT ba bu∧G=sFoot b vK vG vT ba bu
theorem own_keepB {α:Type} {K:Kd Tryz.prog α} {w w':World} {v:Value} {l:List α} (h:K.Own 0 w v l) (hk:∀g,v.ownBlock=some g→w'.heap[g]?=w.heap[g]?):K.Own 0 w' v l:=ownsRow_keep h hk
theorem SComp.keepB {w w':World} {S:Wk} {vK vG vT:Value} {ba bu:Nat} (h:SComp w S vK vG vT ba bu) (hk:∀k,k=ba∨k=bu∨vK.ownBlock=some k∨vG.ownBlock=some k∨vT.ownBlock=some k→w'.heap[k]?=w.heap[k]?):SComp w' S vK vG vT ba bu:=
 ⟨h.at_.heap (fun _ ho=>(hk ba (.inl rfl)).trans ho),h.used.heap (fun _ ho=>(hk bu (.inr (.inl rfl))).trans ho),own_keepB h.known (fun g hg=>hk g (.inr (.inr (.inl hg)))),h.gates.keepB (fun g hg=>hk g (.inr (.inr (.inr (.inl hg))))),own_keepB h.tris (fun g hg=>hk g (.inr (.inr (.inr (.inr hg))))),h.ab⟩
theorem SLive.keepB {w w':World} {b:Nat} {S:Wk} {vK vG vT:Value} {ba bu:Nat} (h:SLive w b S vK vG vT ba bu) (hk:∀k,sFoot b vK vG vT ba bu k→w'.heap[k]?=w.heap[k]?):SLive w' b S vK vG vT ba bu:=
 ⟨(hk b (.inl rfl)).trans h.blk,h.comp.keepB (fun k hk'=>hk k (.inr hk'))⟩
theorem SRep.keepB {w w':World} {b:Nat} {S:Wk} {G:Nat→Prop} (h:SRep w b S G) (hk:∀k,G k→w'.heap[k]?=w.heap[k]?):SRep w' b S G:=by
 obtain ⟨vK,vG,vT,ba,bu,h1,rfl⟩:=h;exact ⟨vK,vG,vT,ba,bu,h1.keepB hk,rfl⟩
theorem own_lt {α:Type} {K:Kd Tryz.prog α} {w:World} {v:Value} {l:List α} (h:K.Own 0 w v l) {g:Nat} (hg:v.ownBlock=some g):g<w.heap.size:=by obtain ⟨_,cur,hc⟩:=h.blk hg;exact lt_of_heap hc
theorem que_lt {α:Type} {K:Kd Tryz.prog α} {w:World} {v:Value} {l:List α} (h:K.Que 0 w v l) {g:Nat} (hg:v.ownBlock=some g):g<w.heap.size:=by obtain ⟨_,cur,hc⟩:=h.blk hg;exact lt_of_heap hc
theorem SLive.lt {w:World} {b:Nat} {S:Wk} {vK vG vT:Value} {ba bu:Nat} (h:SLive w b S vK vG vT ba bu):∀k,sFoot b vK vG vT ba bu k→k<w.heap.size:=by
 rintro k (rfl | rfl | rfl | hk | hk | hk)
 ·exact lt_of_heap h.blk
 ·obtain ⟨es,cl,hh⟩:=h.comp.at_.blk;exact lt_of_heap hh
 ·obtain ⟨es,cl,hh⟩:=h.comp.used.blk;exact lt_of_heap hh
 ·exact own_lt h.comp.known hk
 ·exact que_lt h.comp.gates hk
 ·exact own_lt h.comp.tris hk
theorem SRep.lt {w:World} {b:Nat} {S:Wk} {G:Nat→Prop} (h:SRep w b S G):∀k,G k→k<w.heap.size:=by
 obtain ⟨vK,vG,vT,ba,bu,h1,rfl⟩:=h;exact h1.lt
theorem SRep.upd {w w':World} {b:Nat} {S:Wk} {G F:Nat→Prop} (h:SRep w b S G) (hu:Upd F w w') (hd:∀k,G k→¬F k):SRep w' b S G:=h.keepB (fun k hk=>hu.block k (h.lt k hk) (hd k hk))
theorem SLive.upd {w w':World} {b:Nat} {S:Wk} {vK vG vT:Value} {ba bu:Nat} {F:Nat→Prop} (h:SLive w b S vK vG vT ba bu) (hu:Upd F w w') (hd:∀k,sFoot b vK vG vT ba bu k→¬F k):SLive w' b S vK vG vT ba bu:=h.keepB (fun k hk=>hu.block k (h.lt k hk) (hd k hk))
theorem ne_obj {w:World} {i j:Nat} {o o':Obj} (h:w.heap[i]?=some o) (h':w.heap[j]?=some o') (hne:o≠o'):i≠j:=fun e=>by subst e;rw [h] at h';exact hne (Option.some.inj h')
structure SNe (b:Nat) (vK vG vT:Value) (ba bu:Nat):Prop where
 nba:ba≠b
 nbu:bu≠b
 k:vK.ownBlock≠some b
 g:vG.ownBlock≠some b
 t:vT.ownBlock≠some b
 ka:vK.ownBlock≠some ba
 ku:vK.ownBlock≠some bu
 ga:vG.ownBlock≠some ba
 gu:vG.ownBlock≠some bu
 ta:vT.ownBlock≠some ba
 tu:vT.ownBlock≠some bu
 kg:∀i,vK.ownBlock=some i→vG.ownBlock≠some i
 kt:∀i,vK.ownBlock=some i→vT.ownBlock≠some i
 gt:∀i,vG.ownBlock=some i→vT.ownBlock≠some i
theorem SComp.ne {w:World} {b:Nat} {S:Wk} {vK vG vT:Value} {ba bu:Nat} (h:SComp w S vK vG vT ba bu) {cs:Array Value} (hb:w.heap[b]?=some (.cells cs 103 (0,0))):SNe b vK vG vT ba bu:=by
 obtain ⟨e1,c1,ha⟩:=h.at_.blk;obtain ⟨e2,c2,hu⟩:=h.used.blk;have tk:kPt.T=43:=rfl;have tg:kGate.T=105:=rfl;have tt:kTri.T=45:=rfl;refine ⟨ne_obj ha hb (by simp),ne_obj hu hb (by simp),fun e=>?_,fun e=>?_,fun e=>?_,fun e=>?_,fun e=>?_,fun e=>?_,fun e=>?_,fun e=>?_,fun e=>?_,fun i e e'=>?_,fun i e e'=>?_,fun i e e'=>?_⟩
 ·obtain ⟨_,cur,hc⟩:=h.known.blk e;exact ne_obj hc hb (by rw [tk];simp) rfl
 ·obtain ⟨_,cur,hc⟩:=h.gates.blk e;exact ne_obj hc hb (by rw [tg];simp) rfl
 ·obtain ⟨_,cur,hc⟩:=h.tris.blk e;exact ne_obj hc hb (by rw [tt];simp) rfl
 ·obtain ⟨_,cur,hc⟩:=h.known.blk e;exact ne_obj hc ha (by simp) rfl
 ·obtain ⟨_,cur,hc⟩:=h.known.blk e;exact ne_obj hc hu (by simp) rfl
 ·obtain ⟨_,cur,hc⟩:=h.gates.blk e;exact ne_obj hc ha (by simp) rfl
 ·obtain ⟨_,cur,hc⟩:=h.gates.blk e;exact ne_obj hc hu (by simp) rfl
 ·obtain ⟨_,cur,hc⟩:=h.tris.blk e;exact ne_obj hc ha (by simp) rfl
 ·obtain ⟨_,cur,hc⟩:=h.tris.blk e;exact ne_obj hc hu (by simp) rfl
 ·obtain ⟨_,cur,hc⟩:=h.known.blk e;obtain ⟨_,cur',hc'⟩:=h.gates.blk e';exact ne_obj hc hc' (by rw [tk,tg];simp) rfl
 ·obtain ⟨_,cur,hc⟩:=h.known.blk e;obtain ⟨_,cur',hc'⟩:=h.tris.blk e';exact ne_obj hc hc' (by rw [tk,tt];simp) rfl
 ·obtain ⟨_,cur,hc⟩:=h.gates.blk e;obtain ⟨_,cur',hc'⟩:=h.tris.blk e';exact ne_obj hc hc' (by rw [tg,tt];simp) rfl
theorem SLive.ne {w:World} {b:Nat} {S:Wk} {vK vG vT:Value} {ba bu:Nat} (h:SLive w b S vK vG vT ba bu):SNe b vK vG vT ba bu:=h.comp.ne h.blk
theorem SLive.put {w:World} {b:Nat} {S:Wk} {vK vG vT:Value} {ba bu:Nat} {cs:Array Value} (hb:w.heap[b]?=some (.cells cs 103 (0,0))) (hc:SComp w S vK vG vT ba bu) (i:Nat) (v:Value) (hcs:cs.setIfInBounds i v=#[vK,.map (some ba),.map (some bu),vG,vT]) :
  SLive (w.setCell ⟨b,i,none⟩ v) b S vK vG vT ba bu:=by
 have hn:=hc.ne hb;refine ⟨by rw [heap_setCell_eq (i:=i) v hb,hcs],hc.keepB (fun k hk=>?_)⟩;refine heap_setCell_other w ⟨b,i,none⟩ k v (fun e=>?_);have e':k=b:=e;subst e';rcases hk with h | h | h | h | h
 ·exact hn.nba h.symm
 ·exact hn.nbu h.symm
 ·exact hn.k h
 ·exact hn.g h
 ·exact hn.t h
def SPost (G:Nat→Prop) (w w':World) (b:Nat) (S:Wk):Prop:=∃G',SRep w' b S G'∧(∀k,G' k→G k∨w.heap.size≤k)∧Upd G w w'
theorem cells5 {w:World} {b:Nat} {x0 x1 x2 x3 x4:Value} {t:TypeId} (h:w.heap[b]?=some (.cells #[x0,x1,x2,x3,x4] t (0,0))) :
  (w.cell? ⟨b,0,none⟩=some x0∧w.cell? ⟨b,1,none⟩=some x1∧w.cell? ⟨b,2,none⟩=some x2∧w.cell? ⟨b,3,none⟩=some x3∧w.cell? ⟨b,4,none⟩=some x4) ∧
  (w.frozen? ⟨b,0,none⟩=false∧w.frozen? ⟨b,1,none⟩=false∧w.frozen? ⟨b,2,none⟩=false∧w.frozen? ⟨b,3,none⟩=false∧w.frozen? ⟨b,4,none⟩=false):=by simp [World.cell?,World.frozen?,h]
end Go.Proofs.YtcikldoaidmnhaaGreatDoor
namespace Go.Proofs.YtcikldoaidmnhaaGreatDoor
open Go Go.RowKit Pk
set_option maxRecDepth 100000
theorem set3 {w:World} {b:Nat} {x0 x1 x2 y0 y1 y2:Value} {t:TypeId} (h:w.heap[b]?=some (.cells #[x0,x1,x2] t (0,0))):((((w.setCell ⟨b,0,none⟩ y0).setCell ⟨b,1,none⟩ y1).setCell ⟨b,2,none⟩ y2).heap[b]?=some (.cells #[y0,y1,y2] t (0,0))):=
 post3 (Q:=fun wz=>wz.heap[b]?=some (.cells #[y0,y1,y2] t (0,0))) h (fun _ h _=>h)
theorem upd3 {w0 w:World} (h:Upd noBlk w0 w) {b:Nat} (hb:w0.heap.size≤b) (y0 y1 y2:Value):Upd noBlk w0 (((w.setCell ⟨b,0,none⟩ y0).setCell ⟨b,1,none⟩ y1).setCell ⟨b,2,none⟩ y2):=
 ((h.setCell (p:=⟨b,0,none⟩) (fun h=>absurd h (Nat.not_lt.2 hb)) _).setCell (p:=⟨b,1,none⟩) (fun h=>absurd h (Nat.not_lt.2 hb)) _).setCell (p:=⟨b,2,none⟩) (fun h=>absurd h (Nat.not_lt.2 hb)) _
theorem wrapN {n:Int} (h0:-9223372036854775808≤n) (h1:n≤9223372036854775807):IntKind.i64.wrap n=n:=by
 have:=IntKind.wrap_i64 n;omega
set_option maxHeartbeats 1000000 in
theorem last_any (b:Nat) (S:Wk) (G:Nat→Prop) (hl:S.known.length≤1000000) (w:World) (h:SRep w b S G):Calls Tryz.prog 98 #[.pointer (some ⟨b,0,none⟩)] w fun en w'=>en=.returned (ptV (lastK S.known))∧Upd noBlk w w':=by
 obtain ⟨vK,vG,vT,ba,bu,h,rfl⟩:=h;obtain ⟨A,cap,rfl,hcap⟩:=h.comp.known.form;have hl':(S.known.length:Int)≤1000000:=by omega
 have HR:=h.comp.known.rd;obtain ⟨A',cap',e,_,hrd⟩:=HR;cases e;have hu:=(Upd.refl noBlk w).alloc (.cells #[.int .i64 0,.int .i64 0,.int .i64 0] 43);have HU:=Lib.hid hu;have HRD:Hid (0<S.known.length→∃b off,A=some ⟨b,off,none⟩∧∀j (hj:j<S.known.length),kPt.At (w.alloc (.cells #[.int .i64 0,.int .i64 0,.int .i64 0] 43)) b (off+j*kPt.k) S.known[j]):=fun h0=>by
  obtain ⟨b',off,e,k⟩:=hrd h0;exact ⟨b',off,e,fun j hj=>(k j hj).keep hu⟩
 have HB:=Lib.hid (hu.heap h.blk id);have HZ:=Lib.hid (heap_alloc_new w (.cells #[.int .i64 0,.int .i64 0,.int .i64 0] 43));obtain ⟨K,hK⟩:∃K,K=S.known:=⟨_,rfl⟩;rw [←hK] at HRD HB hl' hcap;rw [←hK];clear h hu hrd hl hK;go_enter Tryz.func98,Tryz.ntmps98
 obtain ⟨wx,hwx⟩:∃wx,wx=w.alloc (.cells #[.int .i64 0,.int .i64 0,.int .i64 0] 43):=⟨_,rfl⟩;rw [←hwx] at HU HB HZ HRD;go_upto_region 1 with fail
 rw [←hwx];clear hwx;obtain ⟨⟨k0,k1,k2,k3,k4⟩,_⟩:=cells5 HB.out;obtain ⟨⟨z0,z1,z2⟩,⟨f0,f1,f2⟩⟩:=cellsF3 HZ.out;rcases Nat.eq_zero_or_pos K.length with h0 | h0
 ·have hnil:K=[]:=List.eq_nil_of_length_eq_zero h0;subst hnil;go_wp2_with fail
  have HZ2:=set3 (y0:=.int .i64 0) (y1:=.int .i64 0) (y2:=.int .i64 0) HZ.out;have HU2:=upd3 HU.out (Nat.le_refl _) (.int .i64 0) (.int .i64 0) (.int .i64 0)
  (try simp only [Exit.inBlock,Exit.then])
  refine bodyPost_ret (results_cell_row rfl _ _ w.heap.size 43 _ (0,0) _ rfl HZ2 Tryz.underlying43 rfl (by kernel_rfl)) rfl ?_;exact ⟨rfl,HU2⟩
 ·have h0':(0:Int)<(K.length:Int):=by omega
  have h1':¬(K.length:Int)=0:=by omega
  obtain ⟨b',off,rfl,hrd⟩:=HRD.out h0;have hk3:kPt.k=3:=rfl;have hat:=hrd (K.length-1) (by omega);rw [hk3] at hat;have HAT:=Lib.hid hat;obtain ⟨m,hm⟩:∃m,K.length=m+1:=⟨K.length-1,by omega⟩;have HLK:Hid (lastK K=K[K.length-1]):=by
   show _=_;unfold lastK;rw [List.getLast?_eq_getElem?,List.getElem?_eq_getElem (by omega)];rfl
  generalize K[K.length-1]=p at *;obtain ⟨p0,p1,p2⟩:=p;rw [hm] at HAT HB k0;have hm':(m:Int)≤1000000:=by omega
  have hwm:IntKind.i64.wrap (m:Int)=(m:Int):=wrapN (by omega) (by omega);have hlm:(m:Int)<(m:Int)+1:=by omega
  have HM:=Lib.hid hm;clear hrd hat hk3 HRD h0 hm hcap hl' h0' h1';rw [show m+1-1=m from rfl] at HAT;go_wp2_with fail
  refine wp_region_tree 12 (OT.sures [0,4,1,5,2,3,6,7,8,9,10,11] .nil) (fun w'=>Gr wx w') (by kernel_rfl) (by kernel_rfl) (fun c a d v w h=>by cases d<;>exact h) ((Gr.refl wx).drew) ?_
  simp only [OT.sures]
  iterate 12 (apply wpT_sure rfl rfl;focus (intro w' hw';obtain ⟨⟨k0,k1,k2,k3,k4⟩,_⟩:=cells5 (hw'.heap HB.out id);obtain ⟨a0,a1,a2⟩:=ptAt3 (HAT.out.keep hw'.up);go_simp;rfl))
  refine wpT_nil ?_;go_wp2_with fail
  have HZ2:=set3 (y0:=.int .i64 p0) (y1:=.int .i64 p1) (y2:=.int .i64 p2) HZ.out;have HU2:=upd3 HU.out (Nat.le_refl _) (.int .i64 p0) (.int .i64 p1) (.int .i64 p2)
  (try simp only [Exit.inBlock,Exit.then])
  refine bodyPost_ret (results_cell_row rfl _ _ w.heap.size 43 _ (0,0) _ rfl (by exact HZ2) Tryz.underlying43 rfl (by kernel_rfl)) rfl ?_;exact ⟨by rw [HLK.out];rfl,HU2.drew⟩
theorem newState_any (w:World):Calls Tryz.prog 44 #[] w fun en w'=>en=.returned (.pointer (some ⟨w.heap.size+2,0,none⟩))∧SRep w' (w.heap.size+2) Wk.init (fun k=>k=w.heap.size∨k=w.heap.size+1∨k=w.heap.size+2)∧Upd noBlk w w':=by
 have hmm:=@run_makeMap Tryz.prog;go_enter Tryz.func44,Tryz.ntmps44
 go_wp2_with fail
 go_ret
 have h0:=(((Upd.refl noBlk w).alloc (.map #[] 0)).alloc (.map #[] 0)).alloc (.cells #[.slice none 0 0,.map (some w.heap.size),.map (some (w.heap.size+1)),.slice none 0 0,.slice none 0 0] 103);have ha:kitAt.At (w.alloc (.map #[] 0)) w.heap.size 0 (atF []):=MapKit.At.made kitAt w;have hb:kitUsed.At ((w.alloc (.map #[] 0)).alloc (.map #[] 0)) (w.heap.size+1) 0 (setF []):=by
  have:=MapKit.At.made kitUsed (w.alloc (.map #[] 0));rw [World.size_alloc] at this;exact this
 have hc:=heap_alloc_new ((w.alloc (.map #[] 0)).alloc (.map #[] 0)) (.cells #[.slice none 0 0,.map (some w.heap.size),.map (some (w.heap.size+1)),.slice none 0 0,.slice none 0 0] 103);rw [World.size_alloc,World.size_alloc] at hc;refine ⟨rfl,⟨.slice none 0 0,.slice none 0 0,.slice none 0 0,w.heap.size,w.heap.size+1,⟨hc,?_⟩,?_⟩,h0⟩
 ·exact ⟨ha.keep (((Upd.refl noBlk _).alloc _).alloc _),hb.keep ((Upd.refl noBlk _).alloc _),Kd.Own.nil _ _ _,Kd.Que.nil _ _ _,Kd.Own.nil _ _ _,by omega⟩
 ·funext k
  simp only [sFoot,Value.ownBlock,reduceCtorEq,or_false,eq_iff_iff];constructor
  ·rintro (h | h | h)
   ·exact .inr (.inl h)
   ·exact .inr (.inr h)
   ·exact .inl h
  ·rintro (h | h | h)
   ·exact .inr (.inr h)
   ·exact .inl h
   ·exact .inr (.inl h)
end Go.Proofs.YtcikldoaidmnhaaGreatDoor
