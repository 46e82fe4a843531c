/- Parts: The kinds of things that packets are made of, as they lie in memory. No condition. The maps of the packets' program: keyed by points and by edges. No condition. Walks of exact.Less. No condition. Walks of the program's mesh: comparing points and triangles. No condition. Walks of the program's mesh: comparing triangles. No condition. -/
import Derived.Test.YtcikldoaidmnhaaGreatDoorQFace2
import Derived.Test.YtcikldoaidmnhaaGreatDoorQFace3
import Derived.Test.YtcikldoaidmnhaaGreatDoorQFace4
import Derived.Test.YtcikldoaidmnhaaGreatDoorQFace5
import Derived.Deep.QuietTactic
import Derived.BigQuiet
import Derived.Laws.EntriesVeiled
import Derived.Handy
import Derived.DeepKeys4
namespace Go.Proofs.YtcikldoaidmnhaaGreatDoor
open Go Go.RowKit Pk
set_option maxRecDepth 100000
def ptV (p:Pt):Value:=.agg #[.int .i64 p.1,.int .i64 p.2.1,.int .i64 p.2.2]
structure Gr (w w':World):Prop where
 up:Upd noBlk w w'
 dr:w.drawn≤w'.drawn
theorem Gr.refl (w:World):Gr w w:=⟨Upd.refl _ _,Nat.le_refl _⟩
theorem Gr.trans {a b c:World} (h:Gr a b) (k:Gr b c):Gr a c:=⟨h.up.trans k.up,Nat.le_trans h.dr k.dr⟩
theorem Gr.alloc {a w:World} (h:Gr a w) (o:Obj):Gr a (w.alloc o):=⟨h.up.alloc o,h.dr⟩
theorem Gr.drew {a w:World} (h:Gr a w):Gr a w.drew:=⟨h.up.drew,Nat.le_trans h.dr (Nat.le_succ _)⟩
theorem Gr.heap {w w':World} {b:Nat} {o:Obj} (h:Gr w w') (hb:w.heap[b]?=some o) (hf:¬noBlk b):w'.heap[b]?=some o:=h.up.heap hb hf
theorem Gr.cell {w w':World} {a:Addr} {v:Value} (h:Gr w w') (hv:w.cell? a=some v) (hf:¬noBlk a.block):w'.cell? a=some v:=h.up.cell hv hf
theorem cells3 {w:World} {b:Nat} {x y z:Value} {t:TypeId} {fr:Nat × Nat} (h:w.heap[b]?=some (.cells #[x,y,z] t fr)):w.cell? ⟨b,0,none⟩=some x∧w.cell? ⟨b,1,none⟩=some y∧w.cell? ⟨b,2,none⟩=some z:=by simp [World.cell?,h]
theorem ex_any (p:Pt) (w:World):Calls Tryz.prog 181 #[ptV p] w fun en w'=>en=.returned (.int .i64 p.1)∧Gr w w':=by
 unfold ptV;go_enter Tryz.func181,Tryz.ntmps181
 go_wp2_with fail
 go_ret
 exact ⟨rfl,(Gr.refl w).alloc _⟩
theorem ey_any (p:Pt) (w:World):Calls Tryz.prog 182 #[ptV p] w fun en w'=>en=.returned (.int .i64 p.2.1)∧Gr w w':=by
 unfold ptV;go_enter Tryz.func182,Tryz.ntmps182
 go_wp2_with fail
 go_ret
 exact ⟨rfl,(Gr.refl w).alloc _⟩
theorem ez_any (p:Pt) (w:World):Calls Tryz.prog 183 #[ptV p] w fun en w'=>en=.returned (.int .i64 p.2.2)∧Gr w w':=by
 unfold ptV;go_enter Tryz.func183,Tryz.ntmps183
 go_wp2_with fail
 go_ret
 exact ⟨rfl,(Gr.refl w).alloc _⟩
def axesV:Value:=.agg #[.func (.func 181) #[] #[],.func (.func 182) #[] #[],.func (.func 183) #[] #[]]
theorem axes_any (w:World):Calls Tryz.prog 161 #[] w fun en w'=>en=.returned axesV∧Gr w w':=by
 go_enter Tryz.func161,Tryz.ntmps161
 go_wp2_with fail
 go_returns
 exact ⟨rfl,((Gr.refl w).alloc _)⟩
theorem index0 (w:World):(Instr.index 241 axesV (.int .i64 0)).run Tryz.prog w=.ok (.func (.func 181) #[] #[]) w:=by kernel_rfl
theorem index1 (w:World):(Instr.index 241 axesV (.int .i64 1)).run Tryz.prog w=.ok (.func (.func 182) #[] #[]) w:=by kernel_rfl
theorem index2 (w:World):(Instr.index 241 axesV (.int .i64 2)).run Tryz.prog w=.ok (.func (.func 183) #[] #[]) w:=by kernel_rfl
set_option maxHeartbeats 1000000 in
theorem Less_any (a b:Pt) (w:World):Calls Tryz.prog 138 #[ptV a,ptV b] w fun en w'=>en=.returned (.bool (ptLt a b))∧Gr w w':=by
 have h0:=fun p W=>Lib.hid (ex_any p W);have h1:=fun p W=>Lib.hid (ey_any p W);have h2:=fun p W=>Lib.hid (ez_any p W);obtain ⟨a0,a1,a2⟩:=a;obtain ⟨b0,b1,b2⟩:=b;have hlt:=Lib.hid (show ptLt (a0,a1,a2) (b0,b1,b2)=if a0≠b0 then decide (a0<b0) else if a1≠b1 then decide (a1<b1) else decide (a2<b2) from rfl);unfold ptV;have hA:=Lib.hid (axes_any ((w.alloc (.cells #[.int .i64 a0,.int .i64 a1,.int .i64 a2] 43)).alloc (.cells #[.int .i64 b0,.int .i64 b1,.int .i64 b2] 43)));have ix0:=index0;have ix1:=index1;have ix2:=index2;unfold axesV at ix0 ix1 ix2;go_enter Tryz.func138,Tryz.ntmps138
 go_wp2_with fail
 refine hA.out.mono ?_;rintro e w1 ⟨rfl,u1⟩;unfold axesV;have U1:Hid (Gr w w1):=(((Gr.refl _).alloc _).alloc _).trans u1;have ca:Hid (w1.heap[w.heap.size]?=some (.cells #[.int .i64 a0,.int .i64 a1,.int .i64 a2] 43)):=u1.heap (((Gr.refl _).alloc _).heap (heap_alloc_new _ _) id) id;have cb:Hid (w1.heap[w.heap.size+1]?=some (.cells #[.int .i64 b0,.int .i64 b1,.int .i64 b2] 43)):=u1.heap (by have:=heap_alloc_new (w.alloc (.cells #[.int .i64 a0,.int .i64 a1,.int .i64 a2] 43)) (.cells #[.int .i64 b0,.int .i64 b1,.int .i64 b2] 43);rwa [World.size_alloc] at this) id;clear u1 hA;go_wp2_with fail
 refine wp_loop_rounds 4 ?_;rw [rounds_succ];go_wp2_with fail
 refine wp_region_tree 5 (OT.sures [0,1,3,4] (.run 2 .nil)) (fun w'=>Gr w1 w') (by kernel_rfl) (by kernel_rfl) (fun c a d v w h=>by cases d<;>exact h) ((Gr.refl w1).drew) ?_
 simp only [OT.sures]
 iterate 4 (apply wpT_sure rfl rfl;focus (intro w' hw';obtain ⟨g1,g2,g3⟩:=cells3 (hw'.heap ca.out id);obtain ⟨g4,g5,g6⟩:=cells3 (hw'.heap cb.out id);go_simp;rfl))
 refine wpT_run (fun w'=>Gr w1 w') (fun _ h=>h) rfl (fun K hK=>?_);go_simp
 refine (h0 (a0,a1,a2) _).out.mono ?_;rintro e x0 ⟨rfl,v0⟩;have V0:=Lib.hid (((Gr.refl w1).drew).trans v0);refine hK _ _ ⟨V0.out,?_⟩;clear hK K;refine wpT_nil ?_;obtain ⟨g1,g2,g3⟩:=cells3 (V0.out.heap ca.out id);obtain ⟨g4,g5,g6⟩:=cells3 (V0.out.heap cb.out id);clear v0;go_wp2_with fail
 refine (h0 (b0,b1,b2) _).out.mono ?_;rintro e y0 ⟨rfl,v0⟩;have Y0:=Lib.hid (U1.out.trans (V0.out.trans v0));have cA0:=Lib.hid ((V0.out.trans v0).heap ca.out id);have cB0:=Lib.hid ((V0.out.trans v0).heap cb.out id);clear ca cb U1 v0 V0;have ca:=cA0;have cb:=cB0;have U1:=Y0;obtain ⟨g1,g2,g3⟩:=cells3 ca.out;obtain ⟨g4,g5,g6⟩:=cells3 cb.out;clear cA0 cB0 Y0;by_cases e0:a0=b0
 rotate_left
 ·go_wp2_with fail
  go_ret
  refine ⟨?_,U1.out⟩;rw [hlt.out];simp [e0]
 subst e0;go_wp2_with fail
 rw [rounds_succ];go_wp2_with fail
 refine wp_region_tree 5 (OT.sures [0,1,3,4] (.run 2 .nil)) (fun w'=>Gr y0 w') (by kernel_rfl) (by kernel_rfl) (fun c a d v w h=>by cases d<;>exact h) ((Gr.refl y0).drew) ?_
 simp only [OT.sures]
 iterate 4 (apply wpT_sure rfl rfl;focus (intro w' hw';obtain ⟨g1,g2,g3⟩:=cells3 (hw'.heap ca.out id);obtain ⟨g4,g5,g6⟩:=cells3 (hw'.heap cb.out id);go_simp;rfl))
 refine wpT_run (fun w'=>Gr y0 w') (fun _ h=>h) rfl (fun K hK=>?_);go_simp
 refine (h1 (a0,a1,a2) _).out.mono ?_;rintro e x1 ⟨rfl,v1⟩;have V1:=Lib.hid (((Gr.refl y0).drew).trans v1);refine hK _ _ ⟨V1.out,?_⟩;clear hK K;refine wpT_nil ?_;obtain ⟨g1,g2,g3⟩:=cells3 (V1.out.heap ca.out id);obtain ⟨g4,g5,g6⟩:=cells3 (V1.out.heap cb.out id);clear v1;go_wp2_with fail
 refine (h1 (a0,b1,b2) _).out.mono ?_;rintro e y1 ⟨rfl,v1⟩;have Y1:=Lib.hid (U1.out.trans (V1.out.trans v1));have cA1:=Lib.hid ((V1.out.trans v1).heap ca.out id);have cB1:=Lib.hid ((V1.out.trans v1).heap cb.out id);clear ca cb U1 v1 V1;have ca:=cA1;have cb:=cB1;have U1:=Y1;obtain ⟨g1,g2,g3⟩:=cells3 ca.out;obtain ⟨g4,g5,g6⟩:=cells3 cb.out;clear cA1 cB1 Y1;by_cases e1:a1=b1
 rotate_left
 ·go_wp2_with fail
  go_ret
  refine ⟨?_,U1.out⟩;rw [hlt.out];simp [e1]
 subst e1;go_wp2_with fail
 rw [rounds_succ];go_wp2_with fail
 refine wp_region_tree 5 (OT.sures [0,1,3,4] (.run 2 .nil)) (fun w'=>Gr y1 w') (by kernel_rfl) (by kernel_rfl) (fun c a d v w h=>by cases d<;>exact h) ((Gr.refl y1).drew) ?_
 simp only [OT.sures]
 iterate 4 (apply wpT_sure rfl rfl;focus (intro w' hw';obtain ⟨g1,g2,g3⟩:=cells3 (hw'.heap ca.out id);obtain ⟨g4,g5,g6⟩:=cells3 (hw'.heap cb.out id);go_simp;rfl))
 refine wpT_run (fun w'=>Gr y1 w') (fun _ h=>h) rfl (fun K hK=>?_);go_simp
 refine (h2 (a0,a1,a2) _).out.mono ?_;rintro e x2 ⟨rfl,v2⟩;have V2:=Lib.hid (((Gr.refl y1).drew).trans v2);refine hK _ _ ⟨V2.out,?_⟩;clear hK K;refine wpT_nil ?_;obtain ⟨g1,g2,g3⟩:=cells3 (V2.out.heap ca.out id);obtain ⟨g4,g5,g6⟩:=cells3 (V2.out.heap cb.out id);clear v2;go_wp2_with fail
 refine (h2 (a0,a1,b2) _).out.mono ?_;rintro e y2 ⟨rfl,v2⟩;have Y2:=Lib.hid (U1.out.trans (V2.out.trans v2));have cA2:=Lib.hid ((V2.out.trans v2).heap ca.out id);have cB2:=Lib.hid ((V2.out.trans v2).heap cb.out id);clear ca cb U1 v2 V2;have ca:=cA2;have cb:=cB2;have U1:=Y2;obtain ⟨g1,g2,g3⟩:=cells3 ca.out;obtain ⟨g4,g5,g6⟩:=cells3 cb.out;clear cA2 cB2 Y2;by_cases e2:a2=b2
 rotate_left
 ·go_wp2_with fail
  go_ret
  refine ⟨?_,U1.out⟩;rw [hlt.out];simp
 subst e2;go_wp2_with fail
 rw [rounds_succ];go_wp2_with fail
 go_ret
 refine ⟨?_,U1.out⟩;rw [hlt.out];simp
end Go.Proofs.YtcikldoaidmnhaaGreatDoor
namespace Go.Proofs.YtcikldoaidmnhaaGreatDoor
open Go Go.RowKit Pk
set_option maxRecDepth 100000
def cmpP (a b:Pt):Int:=if ptLt a b then -1 else if ptLt b a then 1 else 0
def orL (a b c:Int):Int:=if a≠0 then a else if b≠0 then b else c
def cmpT (s t:Tri):Int:=orL (cmpP s.1 t.1) (cmpP s.2.1 t.2.1) (cmpP s.2.2 t.2.2)
theorem comparePoints_any (a b:Pt) (w:World):Calls Tryz.prog 142 #[ptV a,ptV b] w fun en w'=>en=.returned (.int .i64 (cmpP a b))∧Gr w w':=by
 have hl:=fun p q W=>Lib.hid (Less_any p q W);obtain ⟨a0,a1,a2⟩:=a;obtain ⟨b0,b1,b2⟩:=b;have hc:=Lib.hid (show cmpP (a0,a1,a2) (b0,b1,b2)=if ptLt (a0,a1,a2) (b0,b1,b2) then -1 else if ptLt (b0,b1,b2) (a0,a1,a2) then 1 else 0 from rfl);unfold ptV;go_enter Tryz.func142,Tryz.ntmps142
 go_wp2_with fail
 refine (hl (a0,a1,a2) (b0,b1,b2) _).out.mono ?_;rintro e w1 ⟨rfl,u1⟩;have U1:Hid (Gr w w1):=(((Gr.refl _).alloc _).alloc _).trans u1;have ca:Hid (w1.heap[w.heap.size]?=some (.cells #[.int .i64 a0,.int .i64 a1,.int .i64 a2] 43)):=u1.heap (((Gr.refl _).alloc _).heap (heap_alloc_new _ _) id) id;have cb:Hid (w1.heap[w.heap.size+1]?=some (.cells #[.int .i64 b0,.int .i64 b1,.int .i64 b2] 43)):=u1.heap (by have:=heap_alloc_new (w.alloc (.cells #[.int .i64 a0,.int .i64 a1,.int .i64 a2] 43)) (.cells #[.int .i64 b0,.int .i64 b1,.int .i64 b2] 43);rwa [World.size_alloc] at this) id;obtain ⟨g1,g2,g3⟩:=cells3 ca.out;obtain ⟨g4,g5,g6⟩:=cells3 cb.out;clear u1;rcases h1:ptLt (a0,a1,a2) (b0,b1,b2) with _ | _
 ·go_wp2_with fail
  refine (hl (b0,b1,b2) (a0,a1,a2) _).out.mono ?_;rintro e w2 ⟨rfl,u2⟩;have U2:=Lib.hid (U1.out.trans u2);clear u2;rw [h1] at hc;rcases h2:ptLt (b0,b1,b2) (a0,a1,a2) with _ | _
  ·rw [h2] at hc;go_wp2_with fail
   go_ret
   exact ⟨by rw [hc.out];rfl,U2.out⟩
  ·rw [h2] at hc;go_wp2_with fail
   go_ret
   exact ⟨by rw [hc.out];rfl,U2.out⟩
 ·rw [h1] at hc;go_wp2_with fail
  go_ret
  exact ⟨by rw [hc.out];rfl,U1.out⟩
theorem Or_any (w w1:World) (a b c:Int) (B:Nat) (g1:w1.cell? ⟨B,0,none⟩=some (.int .i64 a)) (g2:w1.cell? ⟨B,1,none⟩=some (.int .i64 b)) (g3:w1.cell? ⟨B,2,none⟩=some (.int .i64 c)) (U:Gr w w1) (cap:Nat) :
  Calls Tryz.prog 141 #[.slice (some ⟨B,0,none⟩) 3 cap] w1 fun en w'=>en=.returned (.int .i64 (orL a b c))∧Gr w w':=by
 have hU:=Lib.hid U;have ho:=Lib.hid (show orL a b c=if a≠0 then a else if b≠0 then b else c from rfl);clear U;go_enter Tryz.func141,Tryz.ntmps141
 go_wp2_with fail
 refine wp_loop_rounds 4 ?_;rw [rounds_succ];by_cases h1:a=0
 ·subst h1;go_wp2_with fail
  rw [rounds_succ];by_cases h2:b=0
  ·subst h2;go_wp2_with fail
   rw [rounds_succ];by_cases h3:c=0
   ·subst h3;go_wp2_with fail
    rw [rounds_succ];go_wp2_with fail
    go_ret
    exact ⟨by rw [ho.out];rfl,hU.out⟩
   ·go_wp2_with fail
    go_ret
    exact ⟨by rw [ho.out];rfl,hU.out⟩
  ·go_wp2_with fail
   go_ret
   exact ⟨by rw [ho.out];simp [h2],hU.out⟩
 ·go_wp2_with fail
  go_ret
  exact ⟨by rw [ho.out];simp [h1],hU.out⟩
end Go.Proofs.YtcikldoaidmnhaaGreatDoor
namespace Go.Proofs.YtcikldoaidmnhaaGreatDoor
open Go Go.RowKit Pk
set_option maxRecDepth 100000
def triC (t:Tri):List Value:=[.int .i64 t.1.1,.int .i64 t.1.2.1,.int .i64 t.1.2.2,.int .i64 t.2.1.1,.int .i64 t.2.1.2.1,.int .i64 t.2.1.2.2,.int .i64 t.2.2.1,.int .i64 t.2.2.2.1,.int .i64 t.2.2.2.2]
def triV (t:Tri):Value:=.agg (triC t).toArray
theorem cells9 {w:World} {b:Nat} {x0 x1 x2 x3 x4 x5 x6 x7 x8:Value} {t:TypeId} {fr:Nat × Nat} (h:w.heap[b]?=some (.cells #[x0,x1,x2,x3,x4,x5,x6,x7,x8] t fr)) :
  w.cell? ⟨b,0,none⟩=some x0∧w.cell? ⟨b,1,none⟩=some x1∧w.cell? ⟨b,2,none⟩=some x2∧w.cell? ⟨b,3,none⟩=some x3∧w.cell? ⟨b,4,none⟩=some x4∧w.cell? ⟨b,5,none⟩=some x5∧w.cell? ⟨b,6,none⟩=some x6∧w.cell? ⟨b,7,none⟩=some x7∧w.cell? ⟨b,8,none⟩=some x8:=by simp [World.cell?,h]
set_option maxHeartbeats 1000000 in
theorem compareTris_any (s t:Tri) (w:World):Calls Tryz.prog 95 #[triV s,triV t] w fun en w'=>en=.returned (.int .i64 (cmpT s t))∧Gr w w':=by
 have hl:=fun p q W=>Lib.hid (comparePoints_any p q W);have hc:=Lib.hid (show cmpT s t=orL (cmpP s.1 t.1) (cmpP s.2.1 t.2.1) (cmpP s.2.2 t.2.2) from rfl);obtain ⟨⟨a0,a1,a2⟩,⟨a3,a4,a5⟩,⟨a6,a7,a8⟩⟩:=s;obtain ⟨⟨b0,b1,b2⟩,⟨b3,b4,b5⟩,⟨b6,b7,b8⟩⟩:=t;unfold triV triC;simp only at hc;obtain ⟨n0,hn0⟩:∃n,n=cmpP (a0,a1,a2) (b0,b1,b2):=⟨_,rfl⟩;obtain ⟨n1,hn1⟩:∃n,n=cmpP (a3,a4,a5) (b3,b4,b5):=⟨_,rfl⟩;obtain ⟨n2,hn2⟩:∃n,n=cmpP (a6,a7,a8) (b6,b7,b8):=⟨_,rfl⟩;have c0:=fun W=>hl (a0,a1,a2) (b0,b1,b2) W;have c1:=fun W=>hl (a3,a4,a5) (b3,b4,b5) W;have c2:=fun W=>hl (a6,a7,a8) (b6,b7,b8) W;rw [←hn0,←hn1,←hn2] at hc;rw [←hn0] at c0;rw [←hn1] at c1;rw [←hn2] at c2;clear hn0 hn1 hn2 hl;obtain ⟨wx,hwx⟩:∃wx,wx=(w.alloc (.cells #[.int .i64 a0,.int .i64 a1,.int .i64 a2,.int .i64 a3,.int .i64 a4,.int .i64 a5,.int .i64 a6,.int .i64 a7,.int .i64 a8] 45)).alloc (.cells #[.int .i64 b0,.int .i64 b1,.int .i64 b2,.int .i64 b3,.int .i64 b4,.int .i64 b5,.int .i64 b6,.int .i64 b7,.int .i64 b8] 45):=⟨_,rfl⟩;have U1:Hid (Gr w wx):=by show Gr _ _;rw [hwx];exact ((Gr.refl _).alloc _).alloc _
 have ca:Hid (wx.heap[w.heap.size]?=some (.cells #[.int .i64 a0,.int .i64 a1,.int .i64 a2,.int .i64 a3,.int .i64 a4,.int .i64 a5,.int .i64 a6,.int .i64 a7,.int .i64 a8] 45)):=by
  show _=_;rw [hwx];exact ((Gr.refl _).alloc _).heap (heap_alloc_new _ _) id
 have cb:Hid (wx.heap[w.heap.size+1]?=some (.cells #[.int .i64 b0,.int .i64 b1,.int .i64 b2,.int .i64 b3,.int .i64 b4,.int .i64 b5,.int .i64 b6,.int .i64 b7,.int .i64 b8] 45)):=by
  show _=_;rw [hwx];have:=heap_alloc_new (w.alloc (.cells #[.int .i64 a0,.int .i64 a1,.int .i64 a2,.int .i64 a3,.int .i64 a4,.int .i64 a5,.int .i64 a6,.int .i64 a7,.int .i64 a8] 45)) (.cells #[.int .i64 b0,.int .i64 b1,.int .i64 b2,.int .i64 b3,.int .i64 b4,.int .i64 b5,.int .i64 b6,.int .i64 b7,.int .i64 b8] 45);rwa [World.size_alloc] at this
 go_enter Tryz.func95,Tryz.ntmps95
 go_upto_region 1 with fail
 rw [←hwx];clear hwx;refine wp_region_tree 14 (OT.sures [0,2,5,7,10,12,1,3,6,8,11,13] (.run 4 (.run 9 .nil))) (fun w'=>Gr wx w') (by kernel_rfl) (by kernel_rfl) (fun c a d v w h=>by cases d<;>exact h) ((Gr.refl wx).drew) ?_
 simp only [OT.sures]
 iterate 12 (apply wpT_sure rfl rfl;focus (intro w' hw';obtain ⟨g0,g1,g2,g3,g4,g5,g6,g7,g8⟩:=cells9 (hw'.heap ca.out id);obtain ⟨k0,k1,k2,k3,k4,k5,k6,k7,k8⟩:=cells9 (hw'.heap cb.out id);go_simp;rfl))
 refine wpT_run (fun w'=>Gr wx w') (fun _ h=>h) rfl (fun K hK=>?_);go_simp
 refine (c0 _).out.mono ?_;rintro e w2 ⟨rfl,u2⟩;have U2:=Lib.hid ((Gr.refl wx).drew.trans u2);refine hK _ _ ⟨U2.out,?_⟩;clear hK K u2;refine wpT_run (fun w'=>Gr wx w') (fun _ h=>h) rfl (fun K hK=>?_);go_simp
 refine (c1 _).out.mono ?_;rintro e w3 ⟨rfl,u3⟩;have U3:=Lib.hid (U2.out.trans u3);refine hK _ _ ⟨U3.out,?_⟩;clear hK K u3;refine wpT_nil ?_;go_wp2_with fail
 refine (c2 _).out.mono ?_;rintro e w4 ⟨rfl,u4⟩;have U4:=Lib.hid (U1.out.trans (U3.out.trans u4));clear u4;have q0:(w4.alloc (.cells #[.int .i64 n0,.int .i64 n1,.int .i64 n2] 3)).heap[w4.heap.size]?=some (.cells #[.int .i64 n0,.int .i64 n1,.int .i64 n2] 3 (0,0)):=heap_alloc_new _ _;obtain ⟨g0,g1,g2⟩:=cells3 q0;have HO:=Lib.hid (Or_any w _ n0 n1 n2 w4.heap.size g0 g1 g2 (U4.out.alloc _) 3);clear q0 g0 g1 g2;go_wp2_with fail
 refine HO.out.mono ?_;rintro e w5 ⟨rfl,u5⟩;have U5:=Lib.hid u5;go_wp2_with fail
 go_ret
 exact ⟨by rw [hc.out];rfl,U5.out⟩
end Go.Proofs.YtcikldoaidmnhaaGreatDoor
namespace Go.Proofs.YtcikldoaidmnhaaGreatDoor
open Go Go.RowKit Pk
set_option maxRecDepth 100000
theorem kinfo_of {T:TypeId} {k b:Nat} (h:((Tryz.prog.info? T).map (fun i=>(i.zero.map (fun z=>z.cells.size),i.size,i.bytes)))=some (some k,k,b)):∃i z,Tryz.prog.info? T=some i∧i.zero=some z∧i.size=k∧i.bytes=b∧z.cells.size=k:=by
 cases hi:Tryz.prog.info? T with
 | none=>rw [hi] at h;cases h
 | some i=>
  rw [hi] at h;simp only [Option.map_some,Option.some.injEq,Prod.mk.injEq] at h;obtain ⟨h1,h2,h3⟩:=h;cases hz:i.zero with
  | none=>rw [hz] at h1;cases h1
  | some z=>rw [hz] at h1;exact ⟨i,z,rfl,hz,h2,h3,by simpa using h1⟩
def ptC (p:Pt):List Value:=[.int .i64 p.1,.int .i64 p.2.1,.int .i64 p.2.2]
noncomputable def kPt:Kd Tryz.prog Pt:={ T:=43,S:=98,k:=3,bytes:=24,enc:=ptC,len:=fun _=>rfl,one:=fun x v hv=>by simp [ptC] at hv;rcases hv with rfl | rfl | rfl<;>rfl,pos:=by decide,small:=by decide,und:=Tryz.underlying98,info:=kinfo_of (by kernel_rfl) }
noncomputable def kTri:Kd Tryz.prog Tri:={ T:=45,S:=28,k:=9,bytes:=72,enc:=triC,len:=fun _=>rfl,one:=fun x v hv=>by simp [triC] at hv;rcases hv with rfl | rfl | rfl | rfl | rfl | rfl | rfl | rfl | rfl<;>rfl,pos:=by decide,small:=by decide,und:=Tryz.underlying28,info:=kinfo_of (by kernel_rfl) }
theorem triAt9 {w:World} {b o:Nat} {t:Tri} (h:kTri.At w b o t) :
  w.cell? ⟨b,o,none⟩=some (.int .i64 t.1.1)∧w.cell? ⟨b,o+1,none⟩=some (.int .i64 t.1.2.1)∧w.cell? ⟨b,o+2,none⟩=some (.int .i64 t.1.2.2)∧w.cell? ⟨b,o+3,none⟩=some (.int .i64 t.2.1.1)∧w.cell? ⟨b,o+4,none⟩=some (.int .i64 t.2.1.2.1)∧w.cell? ⟨b,o+5,none⟩=some (.int .i64 t.2.1.2.2)∧w.cell? ⟨b,o+6,none⟩=some (.int .i64 t.2.2.1)∧w.cell? ⟨b,o+7,none⟩=some (.int .i64 t.2.2.2.1)∧w.cell? ⟨b,o+8,none⟩=some (.int .i64 t.2.2.2.2):=
 ⟨h 0 _ rfl,h 1 _ rfl,h 2 _ rfl,h 3 _ rfl,h 4 _ rfl,h 5 _ rfl,h 6 _ rfl,h 7 _ rfl,h 8 _ rfl⟩
theorem ptAt3 {w:World} {b o:Nat} {p:Pt} (h:kPt.At w b o p):w.cell? ⟨b,o,none⟩=some (.int .i64 p.1)∧w.cell? ⟨b,o+1,none⟩=some (.int .i64 p.2.1)∧w.cell? ⟨b,o+2,none⟩=some (.int .i64 p.2.2):=⟨h 0 _ rfl,h 1 _ rfl,h 2 _ rfl⟩
theorem cellsF9 {w:World} {b:Nat} {x0 x1 x2 x3 x4 x5 x6 x7 x8:Value} {t:TypeId} (h:w.heap[b]?=some (.cells #[x0,x1,x2,x3,x4,x5,x6,x7,x8] t (0,0))) :
  (w.cell? ⟨b,0,none⟩=some x0∧w.cell? ⟨b,1,none⟩=some x1∧w.cell? ⟨b,2,none⟩=some x2∧w.cell? ⟨b,3,none⟩=some x3∧w.cell? ⟨b,4,none⟩=some x4∧w.cell? ⟨b,5,none⟩=some x5∧w.cell? ⟨b,6,none⟩=some x6∧w.cell? ⟨b,7,none⟩=some x7∧w.cell? ⟨b,8,none⟩=some x8) ∧
  (w.frozen? ⟨b,0,none⟩=false∧w.frozen? ⟨b,1,none⟩=false∧w.frozen? ⟨b,2,none⟩=false∧w.frozen? ⟨b,3,none⟩=false∧w.frozen? ⟨b,4,none⟩=false∧w.frozen? ⟨b,5,none⟩=false∧w.frozen? ⟨b,6,none⟩=false∧w.frozen? ⟨b,7,none⟩=false∧w.frozen? ⟨b,8,none⟩=false):=by simp [World.cell?,World.frozen?,h]
theorem set9 {w:World} {b:Nat} {x0 x1 x2 x3 x4 x5 x6 x7 x8:Value} {t:TypeId} (h:w.heap[b]?=some (.cells #[x0,x1,x2,x3,x4,x5,x6,x7,x8] t (0,0))) (y0 y1 y2 y3 y4 y5 y6 y7 y8:Value) :
  (((((((((w.setCell ⟨b,0,none⟩ y0).setCell ⟨b,1,none⟩ y1).setCell ⟨b,2,none⟩ y2).setCell ⟨b,3,none⟩ y3).setCell ⟨b,4,none⟩ y4).setCell ⟨b,5,none⟩ y5).setCell ⟨b,6,none⟩ y6).setCell ⟨b,7,none⟩ y7).setCell ⟨b,8,none⟩ y8).heap[b]?=some (.cells #[y0,y1,y2,y3,y4,y5,y6,y7,y8] t (0,0)):=by
 have h0:(w.setCell ⟨b,0,none⟩ y0).heap[b]?=some (.cells #[y0,x1,x2,x3,x4,x5,x6,x7,x8] t (0,0)):=by simpa using heap_setCell_eq (i:=0) y0 h
 have h1:((w.setCell ⟨b,0,none⟩ y0).setCell ⟨b,1,none⟩ y1).heap[b]?=some (.cells #[y0,y1,x2,x3,x4,x5,x6,x7,x8] t (0,0)):=by simpa using heap_setCell_eq (i:=1) y1 h0
 have h2:(((w.setCell ⟨b,0,none⟩ y0).setCell ⟨b,1,none⟩ y1).setCell ⟨b,2,none⟩ y2).heap[b]?=some (.cells #[y0,y1,y2,x3,x4,x5,x6,x7,x8] t (0,0)):=by simpa using heap_setCell_eq (i:=2) y2 h1
 have h3:((((w.setCell ⟨b,0,none⟩ y0).setCell ⟨b,1,none⟩ y1).setCell ⟨b,2,none⟩ y2).setCell ⟨b,3,none⟩ y3).heap[b]?=some (.cells #[y0,y1,y2,y3,x4,x5,x6,x7,x8] t (0,0)):=by simpa using heap_setCell_eq (i:=3) y3 h2
 have h4:(((((w.setCell ⟨b,0,none⟩ y0).setCell ⟨b,1,none⟩ y1).setCell ⟨b,2,none⟩ y2).setCell ⟨b,3,none⟩ y3).setCell ⟨b,4,none⟩ y4).heap[b]?=some (.cells #[y0,y1,y2,y3,y4,x5,x6,x7,x8] t (0,0)):=by simpa using heap_setCell_eq (i:=4) y4 h3
 have h5:((((((w.setCell ⟨b,0,none⟩ y0).setCell ⟨b,1,none⟩ y1).setCell ⟨b,2,none⟩ y2).setCell ⟨b,3,none⟩ y3).setCell ⟨b,4,none⟩ y4).setCell ⟨b,5,none⟩ y5).heap[b]?=some (.cells #[y0,y1,y2,y3,y4,y5,x6,x7,x8] t (0,0)):=by simpa using heap_setCell_eq (i:=5) y5 h4
 have h6:(((((((w.setCell ⟨b,0,none⟩ y0).setCell ⟨b,1,none⟩ y1).setCell ⟨b,2,none⟩ y2).setCell ⟨b,3,none⟩ y3).setCell ⟨b,4,none⟩ y4).setCell ⟨b,5,none⟩ y5).setCell ⟨b,6,none⟩ y6).heap[b]?=some (.cells #[y0,y1,y2,y3,y4,y5,y6,x7,x8] t (0,0)):=by simpa using heap_setCell_eq (i:=6) y6 h5
 have h7:((((((((w.setCell ⟨b,0,none⟩ y0).setCell ⟨b,1,none⟩ y1).setCell ⟨b,2,none⟩ y2).setCell ⟨b,3,none⟩ y3).setCell ⟨b,4,none⟩ y4).setCell ⟨b,5,none⟩ y5).setCell ⟨b,6,none⟩ y6).setCell ⟨b,7,none⟩ y7).heap[b]?=some (.cells #[y0,y1,y2,y3,y4,y5,y6,y7,x8] t (0,0)):=by simpa using heap_setCell_eq (i:=7) y7 h6
 have h8:(((((((((w.setCell ⟨b,0,none⟩ y0).setCell ⟨b,1,none⟩ y1).setCell ⟨b,2,none⟩ y2).setCell ⟨b,3,none⟩ y3).setCell ⟨b,4,none⟩ y4).setCell ⟨b,5,none⟩ y5).setCell ⟨b,6,none⟩ y6).setCell ⟨b,7,none⟩ y7).setCell ⟨b,8,none⟩ y8).heap[b]?=some (.cells #[y0,y1,y2,y3,y4,y5,y6,y7,y8] t (0,0)):=by simpa using heap_setCell_eq (i:=8) y8 h7
 exact h8
theorem post9 {Q:World→Prop} {w w0:World} {b:Nat} {x0 x1 x2 x3 x4 x5 x6 x7 x8 y0 y1 y2 y3 y4 y5 y6 y7 y8:Value} {t:TypeId} (h:w.heap[b]?=some (.cells #[x0,x1,x2,x3,x4,x5,x6,x7,x8] t (0,0))) (hu:Upd noBlk w0 w) (hb:w0.heap.size≤b)
  (hQ:∀wz:World,wz.heap[b]?=some (.cells #[y0,y1,y2,y3,y4,y5,y6,y7,y8] t (0,0))→Upd noBlk w0 wz→Q wz):Q (((((((((w.setCell ⟨b,0,none⟩ y0).setCell ⟨b,1,none⟩ y1).setCell ⟨b,2,none⟩ y2).setCell ⟨b,3,none⟩ y3).setCell ⟨b,4,none⟩ y4).setCell ⟨b,5,none⟩ y5).setCell ⟨b,6,none⟩ y6).setCell ⟨b,7,none⟩ y7).setCell ⟨b,8,none⟩ y8).drew:=by
 have hlt:∀j:Nat,((⟨b,j,none⟩:Addr).block<w0.heap.size→noBlk (⟨b,j,none⟩:Addr).block):=fun j hh=>absurd hh (Nat.not_lt.2 hb);have u0:Upd noBlk w0 (w.setCell ⟨b,0,none⟩ y0):=Upd.setCell hu (hlt 0) _;have u1:Upd noBlk w0 ((w.setCell ⟨b,0,none⟩ y0).setCell ⟨b,1,none⟩ y1):=Upd.setCell u0 (hlt 1) _;have u2:Upd noBlk w0 (((w.setCell ⟨b,0,none⟩ y0).setCell ⟨b,1,none⟩ y1).setCell ⟨b,2,none⟩ y2):=Upd.setCell u1 (hlt 2) _;have u3:Upd noBlk w0 ((((w.setCell ⟨b,0,none⟩ y0).setCell ⟨b,1,none⟩ y1).setCell ⟨b,2,none⟩ y2).setCell ⟨b,3,none⟩ y3):=Upd.setCell u2 (hlt 3) _;have u4:Upd noBlk w0 (((((w.setCell ⟨b,0,none⟩ y0).setCell ⟨b,1,none⟩ y1).setCell ⟨b,2,none⟩ y2).setCell ⟨b,3,none⟩ y3).setCell ⟨b,4,none⟩ y4):=Upd.setCell u3 (hlt 4) _;have u5:Upd noBlk w0 ((((((w.setCell ⟨b,0,none⟩ y0).setCell ⟨b,1,none⟩ y1).setCell ⟨b,2,none⟩ y2).setCell ⟨b,3,none⟩ y3).setCell ⟨b,4,none⟩ y4).setCell ⟨b,5,none⟩ y5):=Upd.setCell u4 (hlt 5) _;have u6:Upd noBlk w0 (((((((w.setCell ⟨b,0,none⟩ y0).setCell ⟨b,1,none⟩ y1).setCell ⟨b,2,none⟩ y2).setCell ⟨b,3,none⟩ y3).setCell ⟨b,4,none⟩ y4).setCell ⟨b,5,none⟩ y5).setCell ⟨b,6,none⟩ y6):=Upd.setCell u5 (hlt 6) _;have u7:Upd noBlk w0 ((((((((w.setCell ⟨b,0,none⟩ y0).setCell ⟨b,1,none⟩ y1).setCell ⟨b,2,none⟩ y2).setCell ⟨b,3,none⟩ y3).setCell ⟨b,4,none⟩ y4).setCell ⟨b,5,none⟩ y5).setCell ⟨b,6,none⟩ y6).setCell ⟨b,7,none⟩ y7):=Upd.setCell u6 (hlt 7) _;have u8:Upd noBlk w0 (((((((((w.setCell ⟨b,0,none⟩ y0).setCell ⟨b,1,none⟩ y1).setCell ⟨b,2,none⟩ y2).setCell ⟨b,3,none⟩ y3).setCell ⟨b,4,none⟩ y4).setCell ⟨b,5,none⟩ y5).setCell ⟨b,6,none⟩ y6).setCell ⟨b,7,none⟩ y7).setCell ⟨b,8,none⟩ y8):=Upd.setCell u7 (hlt 8) _;have s:=set9 h y0 y1 y2 y3 y4 y5 y6 y7 y8;obtain ⟨wc,hwc⟩:∃wc,wc=(((((((((w.setCell ⟨b,0,none⟩ y0).setCell ⟨b,1,none⟩ y1).setCell ⟨b,2,none⟩ y2).setCell ⟨b,3,none⟩ y3).setCell ⟨b,4,none⟩ y4).setCell ⟨b,5,none⟩ y5).setCell ⟨b,6,none⟩ y6).setCell ⟨b,7,none⟩ y7).setCell ⟨b,8,none⟩ y8):=⟨_,rfl⟩;rw [←hwc] at s u8 ⊢;exact hQ _ s u8.drew
end Go.Proofs.YtcikldoaidmnhaaGreatDoor
namespace Go.Proofs.YtcikldoaidmnhaaGreatDoor
open Go Go.RowKit Pk
set_option maxRecDepth 100000
theorem laidOutM:laidOutB Tryz.prog=true:=by kernel_rfl
theorem lawPt:Go.WideMaps.KeyLaw Tryz.prog 43:=deep_law_laid laidOutM (m:=10) (by decide) (of_decide_eq_true (by kernel_rfl)) (by kernel_rfl) (by kernel_rfl)
theorem keyedPt:Maps.Keyed Tryz.prog 43:=Maps.Keyed.of_law lawPt
theorem keyedE:Maps.Keyed Tryz.prog 89:=Maps.Keyed.of_law (deep_law_laid laidOutM (m:=10) (by decide) (of_decide_eq_true (by kernel_rfl)) (by kernel_rfl) (by kernel_rfl))
theorem keyedM:Maps.Keyed Tryz.prog 258:=Maps.Keyed.of_law (deep_law_laid laidOutM (m:=10) (by decide) (of_decide_eq_true (by kernel_rfl)) (by kernel_rfl) (by kernel_rfl))
def ok64 (n:Int):Prop:=-9223372036854775808≤n∧n≤9223372036854775807
theorem wf64 {n:Int} (h:ok64 n):(Lit.int .i64 n).wf=true:=by
 obtain ⟨h1,h2⟩:=h;simp [Lit.wf,IntKind.min,IntKind.max,IntKind.signed,IntKind.bits];omega
def okP (p:Pt):Prop:=ok64 p.1∧ok64 p.2.1∧ok64 p.2.2
def okT (t:Tri):Prop:=okP t.1∧okP t.2.1∧okP t.2.2
def klPt (p:Pt):Lit:=.string (keyBytes [.int .i64 p.1,.int .i64 p.2.1,.int .i64 p.2.2])
theorem keyPt {p:Pt} (h:okP p):keyOf Tryz.prog 43 (ptV p)=some (klPt p):=by
 obtain ⟨x,y,z⟩:=p;obtain ⟨h1,h2,h3⟩:=h;have wx:=wf64 h1;have wy:=wf64 h2;have wz:=wf64 h3;have hkt:Tryz.prog.keyType 43=true:=by kernel_rfl
 obtain ⟨m,hm⟩:∃m,Tryz.prog.types.size=m+1:=⟨Tryz.prog.types.size-1,by kernel_rfl⟩;have hcl:Tryz.prog.cellsOf 43=3:=by kernel_rfl
 have hci:Tryz.prog.cellsOf 3=1:=by kernel_rfl
 unfold keyOf ptV klPt;simp only [Tryz.underlying43];rw [if_pos (by simp [hkt,Value.formed,Tryz.underlying43,hcl]),hm];unfold Program.keyLits;simp only [Tryz.underlying43,Value.cells];rw [if_pos ⟨by rw [hcl];rfl,by kernel_rfl⟩];simp [Program.keyLits,Tryz.underlying3,hci,wx,wy,wz]
abbrev Ed:=Pt × Pt
def okE (e:Ed):Prop:=okP e.1∧okP e.2
def edV (e:Ed):Value:=.agg #[.int .i64 e.1.1,.int .i64 e.1.2.1,.int .i64 e.1.2.2,.int .i64 e.2.1,.int .i64 e.2.2.1,.int .i64 e.2.2.2]
def klE (e:Ed):Lit:=.string (keyBytes [.int .i64 e.1.1,.int .i64 e.1.2.1,.int .i64 e.1.2.2,.int .i64 e.2.1,.int .i64 e.2.2.1,.int .i64 e.2.2.2])
theorem keyLitsPt {p:Pt} (h:okP p) (m:Nat):Tryz.prog.keyLits (m+2) 43 [.int .i64 p.1,.int .i64 p.2.1,.int .i64 p.2.2]=some [.int .i64 p.1,.int .i64 p.2.1,.int .i64 p.2.2]:=by
 obtain ⟨h1,h2,h3⟩:=h;have wx:=wf64 h1;have wy:=wf64 h2;have wz:=wf64 h3;have hcl:Tryz.prog.cellsOf 43=3:=by kernel_rfl
 have hci:Tryz.prog.cellsOf 3=1:=by kernel_rfl
 unfold Program.keyLits;simp only [Tryz.underlying43];rw [if_pos ⟨by rw [hcl];rfl,by kernel_rfl⟩];simp [Program.keyLits,Tryz.underlying3,hci,wx,wy,wz]
theorem keyE {e:Ed} (h:okE e):keyOf Tryz.prog 89 (edV e)=some (klE e):=by
 obtain ⟨p,q⟩:=e;obtain ⟨h1,h2⟩:=h;have hkt:Tryz.prog.keyType 89=true:=by kernel_rfl
 obtain ⟨m,hm⟩:∃m,Tryz.prog.types.size=m+2:=⟨Tryz.prog.types.size-2,by kernel_rfl⟩;have hcl:Tryz.prog.cellsOf 89=6:=by kernel_rfl
 have hci:Tryz.prog.cellsOf 43=3:=by kernel_rfl
 have kp:=keyLitsPt h1 m;have kq:=keyLitsPt h2 m;unfold keyOf edV klE;simp only [Tryz.underlying89];rw [if_pos (by simp [hkt,Value.formed,Tryz.underlying89,hcl]),hm];unfold Program.keyLits;simp only [Tryz.underlying89,Value.cells];rw [if_pos ⟨by rw [hcl];rfl,by kernel_rfl⟩];simp [hci,kp,kq]
theorem keyM {e:Ed} (h:okE e):keyOf Tryz.prog 258 (edV e)=some (klE e):=by
 obtain ⟨p,q⟩:=e;obtain ⟨h1,h2⟩:=h;have hkt:Tryz.prog.keyType 258=true:=by kernel_rfl
 obtain ⟨m,hm⟩:∃m,Tryz.prog.types.size=m+2:=⟨Tryz.prog.types.size-2,by kernel_rfl⟩;have hcl:Tryz.prog.cellsOf 258=6:=by kernel_rfl
 have hci:Tryz.prog.cellsOf 43=3:=by kernel_rfl
 have kp:=keyLitsPt h1 m;have kq:=keyLitsPt h2 m;unfold keyOf edV klE;simp only [Tryz.underlying258];rw [if_pos (by simp [hkt,Value.formed,Tryz.underlying258,hcl]),hm];unfold Program.keyLits;simp only [Tryz.underlying258,Value.cells];rw [if_pos ⟨by rw [hcl];rfl,by kernel_rfl⟩];simp [hci,kp,kq]
theorem ptV_inj (a b:Pt) (h:ptV a=ptV b):a=b:=by
 obtain ⟨a1,a2,a3⟩:=a;obtain ⟨b1,b2,b3⟩:=b;simpa [ptV] using h
theorem edV_inj (a b:Ed) (h:edV a=edV b):a=b:=by
 obtain ⟨⟨a1,a2,a3⟩,⟨a4,a5,a6⟩⟩:=a;obtain ⟨⟨b1,b2,b3⟩,⟨b4,b5,b6⟩⟩:=b;simp only [edV,Value.agg.injEq,Array.mk.injEq,List.cons.injEq,Value.int.injEq,true_and,and_true] at h;obtain ⟨rfl,rfl,rfl,rfl,rfl,rfl⟩:=h;rfl
def ptD (p:Pt):DataW Unit:=.agg [.lit (.int .i64 p.1),.lit (.int .i64 p.2.1),.lit (.int .i64 p.2.2)]
theorem ptD_inj (a b:Pt) (h:ptD a=ptD b):a=b:=by
 obtain ⟨a1,a2,a3⟩:=a;obtain ⟨b1,b2,b3⟩:=b;simpa [ptD] using h
theorem zero_int (w:World):(zeroValue 3).run Tryz.prog w=.ok (.int .i64 0) w:=by kernel_rfl
theorem zero_bool (w:World):(zeroValue 4).run Tryz.prog w=.ok (.bool false) w:=by kernel_rfl
theorem zero_pt (w:World):(zeroValue 43).run Tryz.prog w=.ok (ptV (0,0,0)) w:=by kernel_rfl
theorem klE_inj {a b:Ed} (ha:okE a) (hb:okE b) (h:klE a=klE b):a=b:=by
 have h1:=keyE ha;have h2:=keyE hb;rw [←h] at h2;exact edV_inj a b (keyedE.inj h1 h2)
theorem klPt_inj {a b:Pt} (ha:okP a) (hb:okP b) (h:klPt a=klPt b):a=b:=by
 have h1:=keyPt ha;have h2:=keyPt hb;rw [←h] at h2;exact ptV_inj a b (keyedPt.inj h1 h2)
noncomputable def kitSet:MapKit Tryz.prog Ed Bool:={ t:=236,k:=258,e:=4,encK:=edV,klK:=klE,goodK:=okE,encV:=.bool,dV:=fun b=>.lit (.bool b),goodV:=fun _=>True,zero:=false,R:=mkR (fun _=>True) Value.bool (fun b=>.lit (.bool b)),keyed:=keyedM,ht:=Tryz.underlying236,hkey:=fun _ h=>keyM h,inj:=fun _ _=>klE_inj,hval:=fun b hb=>mkR_val (fun _ _ e=>by cases e;rfl) b hb,hinv:=fun _ _ h=>mkR_inv (fun _ _ e=>by cases e;rfl) h,dinj:=fun _ _ _ _ e=>by cases e;rfl,hz:=zero_bool,gz:=trivial }
noncomputable def kitUsed:MapKit Tryz.prog Ed Bool:={ t:=100,k:=89,e:=4,encK:=edV,klK:=klE,goodK:=okE,encV:=.bool,dV:=fun b=>.lit (.bool b),goodV:=fun _=>True,zero:=false,R:=mkR (fun _=>True) Value.bool (fun b=>.lit (.bool b)),keyed:=keyedE,ht:=Tryz.underlying100,hkey:=fun _ h=>keyE h,inj:=fun _ _=>klE_inj,hval:=fun b hb=>mkR_val (fun _ _ e=>by cases e;rfl) b hb,hinv:=fun _ _ h=>mkR_inv (fun _ _ e=>by cases e;rfl) h,dinj:=fun _ _ _ _ e=>by cases e;rfl,hz:=zero_bool,gz:=trivial }
noncomputable def kitThird:MapKit Tryz.prog Ed Pt:={ t:=87,k:=89,e:=43,encK:=edV,klK:=klE,goodK:=okE,encV:=ptV,dV:=ptD,goodV:=fun _=>True,zero:=(0,0,0),R:=mkR (fun _=>True) ptV ptD,keyed:=keyedE,ht:=Tryz.underlying87,hkey:=fun _ h=>keyE h,inj:=fun _ _=>klE_inj,hval:=fun b hb=>mkR_val ptV_inj b hb,hinv:=fun _ _ h=>mkR_inv ptV_inj h,dinj:=fun _ _ _ _ e=>ptD_inj _ _ e,hz:=zero_pt,gz:=trivial }
noncomputable def kitNext:MapKit Tryz.prog Ed Pt:={ t:=263,k:=258,e:=43,encK:=edV,klK:=klE,goodK:=okE,encV:=ptV,dV:=ptD,goodV:=fun _=>True,zero:=(0,0,0),R:=mkR (fun _=>True) ptV ptD,keyed:=keyedM,ht:=Tryz.underlying263,hkey:=fun _ h=>keyM h,inj:=fun _ _=>klE_inj,hval:=fun b hb=>mkR_val ptV_inj b hb,hinv:=fun _ _ h=>mkR_inv ptV_inj h,dinj:=fun _ _ _ _ e=>ptD_inj _ _ e,hz:=zero_pt,gz:=trivial }
noncomputable def kitAt:MapKit Tryz.prog Pt Int:={ t:=99,k:=43,e:=3,encK:=ptV,klK:=klPt,goodK:=okP,encV:=.int .i64,dV:=fun n=>.lit (.int .i64 n),goodV:=fun _=>True,zero:=0,R:=mkR (fun _=>True) (Value.int .i64) (fun n=>.lit (.int .i64 n)),keyed:=keyedPt,ht:=Tryz.underlying99,hkey:=fun _ h=>keyPt h,inj:=fun _ _=>klPt_inj,hval:=fun b hb=>mkR_val (fun _ _ e=>by cases e;rfl) b hb,hinv:=fun _ _ h=>mkR_inv (fun _ _ e=>by cases e;rfl) h,dinj:=fun _ _ _ _ e=>by cases e;rfl,hz:=zero_int,gz:=trivial }
end Go.Proofs.YtcikldoaidmnhaaGreatDoor
