/- Parts: Lists of triangles that differ by order and by which corner comes first: what is wrong with them, and their packets, are the same. No condition. Maps in the call's own memory as functions: looked up, stored into, ranged over, whatever the keys and the elements are. No condition. The kinds of things that packets are made of, as they lie in memory. No condition. Walks of the program's mesh: comparin -/
import Derived.Test.YtcikldoaidmnhaaGreatDoorQKeep1
import Derived.Test.YtcikldoaidmnhaaGreatDoorQKeep2
import Derived.Test.YtcikldoaidmnhaaGreatDoorQKeep4
import Derived.Maps.OwnOps
import Derived.Maps.OwnSet
import Derived.Maps.RangeWalk
namespace Go.Proofs.YtcikldoaidmnhaaGreatDoor
open Go Go.RowKit Pk
set_option maxRecDepth 100000
def triC (t:Tri):List Value:=[.int .i64 t.1.1,.int .i64 t.1.2.1,.int .i64 t.1.2.2,.int .i64 t.2.1.1,.int .i64 t.2.1.2.1,.int .i64 t.2.1.2.2,.int .i64 t.2.2.1,.int .i64 t.2.2.2.1,.int .i64 t.2.2.2.2]
def triV (t:Tri):Value:=.agg (triC t).toArray
theorem cells9 {w:World} {b:Nat} {x0 x1 x2 x3 x4 x5 x6 x7 x8:Value} {t:TypeId} {fr:Nat × Nat} (h:w.heap[b]?=some (.cells #[x0,x1,x2,x3,x4,x5,x6,x7,x8] t fr)) :
  w.cell? ⟨b,0,none⟩=some x0∧w.cell? ⟨b,1,none⟩=some x1∧w.cell? ⟨b,2,none⟩=some x2∧w.cell? ⟨b,3,none⟩=some x3∧w.cell? ⟨b,4,none⟩=some x4∧w.cell? ⟨b,5,none⟩=some x5∧w.cell? ⟨b,6,none⟩=some x6∧w.cell? ⟨b,7,none⟩=some x7∧w.cell? ⟨b,8,none⟩=some x8:=by simp [World.cell?,h]
set_option maxHeartbeats 1000000 in
theorem compareTris_any (s t:Tri) (w:World):Calls Tryz.prog 95 #[triV s,triV t] w fun en w'=>en=.returned (.int .i64 (cmpT s t))∧Gr w w':=by
 have hl:=fun p q W=>Lib.hid (comparePoints_any p q W);have hc:=Lib.hid (show cmpT s t=orL (cmpP s.1 t.1) (cmpP s.2.1 t.2.1) (cmpP s.2.2 t.2.2) from rfl);obtain ⟨⟨a0,a1,a2⟩,⟨a3,a4,a5⟩,⟨a6,a7,a8⟩⟩:=s;obtain ⟨⟨b0,b1,b2⟩,⟨b3,b4,b5⟩,⟨b6,b7,b8⟩⟩:=t;unfold triV triC;simp only at hc;obtain ⟨n0,hn0⟩:∃n,n=cmpP (a0,a1,a2) (b0,b1,b2):=⟨_,rfl⟩;obtain ⟨n1,hn1⟩:∃n,n=cmpP (a3,a4,a5) (b3,b4,b5):=⟨_,rfl⟩;obtain ⟨n2,hn2⟩:∃n,n=cmpP (a6,a7,a8) (b6,b7,b8):=⟨_,rfl⟩;have c0:=fun W=>hl (a0,a1,a2) (b0,b1,b2) W;have c1:=fun W=>hl (a3,a4,a5) (b3,b4,b5) W;have c2:=fun W=>hl (a6,a7,a8) (b6,b7,b8) W;rw [←hn0,←hn1,←hn2] at hc;rw [←hn0] at c0;rw [←hn1] at c1;rw [←hn2] at c2;clear hn0 hn1 hn2 hl;obtain ⟨wx,hwx⟩:∃wx,wx=(w.alloc (.cells #[.int .i64 a0,.int .i64 a1,.int .i64 a2,.int .i64 a3,.int .i64 a4,.int .i64 a5,.int .i64 a6,.int .i64 a7,.int .i64 a8] 45)).alloc (.cells #[.int .i64 b0,.int .i64 b1,.int .i64 b2,.int .i64 b3,.int .i64 b4,.int .i64 b5,.int .i64 b6,.int .i64 b7,.int .i64 b8] 45):=⟨_,rfl⟩;have U1:Hid (Gr w wx):=by show Gr _ _;rw [hwx];exact ((Gr.refl _).alloc _).alloc _
 have ca:Hid (wx.heap[w.heap.size]?=some (.cells #[.int .i64 a0,.int .i64 a1,.int .i64 a2,.int .i64 a3,.int .i64 a4,.int .i64 a5,.int .i64 a6,.int .i64 a7,.int .i64 a8] 45)):=by
  show _=_;rw [hwx];exact ((Gr.refl _).alloc _).heap (heap_alloc_new _ _) id
 have cb:Hid (wx.heap[w.heap.size+1]?=some (.cells #[.int .i64 b0,.int .i64 b1,.int .i64 b2,.int .i64 b3,.int .i64 b4,.int .i64 b5,.int .i64 b6,.int .i64 b7,.int .i64 b8] 45)):=by
  show _=_;rw [hwx];have:=heap_alloc_new (w.alloc (.cells #[.int .i64 a0,.int .i64 a1,.int .i64 a2,.int .i64 a3,.int .i64 a4,.int .i64 a5,.int .i64 a6,.int .i64 a7,.int .i64 a8] 45)) (.cells #[.int .i64 b0,.int .i64 b1,.int .i64 b2,.int .i64 b3,.int .i64 b4,.int .i64 b5,.int .i64 b6,.int .i64 b7,.int .i64 b8] 45);rwa [World.size_alloc] at this
 go_enter Tryz.func95,Tryz.ntmps95
 go_upto_region 1 with fail
 rw [←hwx];clear hwx;refine wp_region_tree 14 (OT.sures [0,2,5,7,10,12,1,3,6,8,11,13] (.run 4 (.run 9 .nil))) (fun w'=>Gr wx w') (by kernel_rfl) (by kernel_rfl) (fun c a d v w h=>by cases d<;>exact h) ((Gr.refl wx).drew) ?_
 simp only [OT.sures]
 iterate 12 (apply wpT_sure rfl rfl;focus (intro w' hw';obtain ⟨g0,g1,g2,g3,g4,g5,g6,g7,g8⟩:=cells9 (hw'.heap ca.out id);obtain ⟨k0,k1,k2,k3,k4,k5,k6,k7,k8⟩:=cells9 (hw'.heap cb.out id);go_simp;rfl))
 refine wpT_run (fun w'=>Gr wx w') (fun _ h=>h) rfl (fun K hK=>?_);go_simp
 refine (c0 _).out.mono ?_;rintro e w2 ⟨rfl,u2⟩;have U2:=Lib.hid ((Gr.refl wx).drew.trans u2);refine hK _ _ ⟨U2.out,?_⟩;clear hK K u2;refine wpT_run (fun w'=>Gr wx w') (fun _ h=>h) rfl (fun K hK=>?_);go_simp
 refine (c1 _).out.mono ?_;rintro e w3 ⟨rfl,u3⟩;have U3:=Lib.hid (U2.out.trans u3);refine hK _ _ ⟨U3.out,?_⟩;clear hK K u3;refine wpT_nil ?_;go_wp2_with fail
 refine (c2 _).out.mono ?_;rintro e w4 ⟨rfl,u4⟩;have U4:=Lib.hid (U1.out.trans (U3.out.trans u4));clear u4;have q0:(w4.alloc (.cells #[.int .i64 n0,.int .i64 n1,.int .i64 n2] 3)).heap[w4.heap.size]?=some (.cells #[.int .i64 n0,.int .i64 n1,.int .i64 n2] 3 (0,0)):=heap_alloc_new _ _;obtain ⟨g0,g1,g2⟩:=cells3 q0;have HO:=Lib.hid (Or_any w _ n0 n1 n2 w4.heap.size g0 g1 g2 (U4.out.alloc _) 3);clear q0 g0 g1 g2;go_wp2_with fail
 refine HO.out.mono ?_;rintro e w5 ⟨rfl,u5⟩;have U5:=Lib.hid u5;go_wp2_with fail
 go_ret
 exact ⟨by rw [hc.out];rfl,U5.out⟩
end Go.Proofs.YtcikldoaidmnhaaGreatDoor
namespace Go.Proofs.YtcikldoaidmnhaaGreatDoor
open Go Go.RowKit Pk
set_option maxRecDepth 100000
theorem kinfo_of {T:TypeId} {k b:Nat} (h:((Tryz.prog.info? T).map (fun i=>(i.zero.map (fun z=>z.cells.size),i.size,i.bytes)))=some (some k,k,b)):∃i z,Tryz.prog.info? T=some i∧i.zero=some z∧i.size=k∧i.bytes=b∧z.cells.size=k:=by
 cases hi:Tryz.prog.info? T with
 | none=>rw [hi] at h;cases h
 | some i=>
  rw [hi] at h;simp only [Option.map_some,Option.some.injEq,Prod.mk.injEq] at h;obtain ⟨h1,h2,h3⟩:=h;cases hz:i.zero with
  | none=>rw [hz] at h1;cases h1
  | some z=>rw [hz] at h1;exact ⟨i,z,rfl,hz,h2,h3,by simpa using h1⟩
def ptC (p:Pt):List Value:=[.int .i64 p.1,.int .i64 p.2.1,.int .i64 p.2.2]
noncomputable def kPt:Kd Tryz.prog Pt:={ T:=43,S:=98,k:=3,bytes:=24,enc:=ptC,len:=fun _=>rfl,one:=fun x v hv=>by simp [ptC] at hv;rcases hv with rfl | rfl | rfl<;>rfl,pos:=by decide,small:=by decide,und:=Tryz.underlying98,info:=kinfo_of (by kernel_rfl) }
noncomputable def kTri:Kd Tryz.prog Tri:={ T:=45,S:=28,k:=9,bytes:=72,enc:=triC,len:=fun _=>rfl,one:=fun x v hv=>by simp [triC] at hv;rcases hv with rfl | rfl | rfl | rfl | rfl | rfl | rfl | rfl | rfl<;>rfl,pos:=by decide,small:=by decide,und:=Tryz.underlying28,info:=kinfo_of (by kernel_rfl) }
theorem triAt9 {w:World} {b o:Nat} {t:Tri} (h:kTri.At w b o t) :
  w.cell? ⟨b,o,none⟩=some (.int .i64 t.1.1)∧w.cell? ⟨b,o+1,none⟩=some (.int .i64 t.1.2.1)∧w.cell? ⟨b,o+2,none⟩=some (.int .i64 t.1.2.2)∧w.cell? ⟨b,o+3,none⟩=some (.int .i64 t.2.1.1)∧w.cell? ⟨b,o+4,none⟩=some (.int .i64 t.2.1.2.1)∧w.cell? ⟨b,o+5,none⟩=some (.int .i64 t.2.1.2.2)∧w.cell? ⟨b,o+6,none⟩=some (.int .i64 t.2.2.1)∧w.cell? ⟨b,o+7,none⟩=some (.int .i64 t.2.2.2.1)∧w.cell? ⟨b,o+8,none⟩=some (.int .i64 t.2.2.2.2):=
 ⟨h 0 _ rfl,h 1 _ rfl,h 2 _ rfl,h 3 _ rfl,h 4 _ rfl,h 5 _ rfl,h 6 _ rfl,h 7 _ rfl,h 8 _ rfl⟩
theorem ptAt3 {w:World} {b o:Nat} {p:Pt} (h:kPt.At w b o p):w.cell? ⟨b,o,none⟩=some (.int .i64 p.1)∧w.cell? ⟨b,o+1,none⟩=some (.int .i64 p.2.1)∧w.cell? ⟨b,o+2,none⟩=some (.int .i64 p.2.2):=⟨h 0 _ rfl,h 1 _ rfl,h 2 _ rfl⟩
theorem cellsF9 {w:World} {b:Nat} {x0 x1 x2 x3 x4 x5 x6 x7 x8:Value} {t:TypeId} (h:w.heap[b]?=some (.cells #[x0,x1,x2,x3,x4,x5,x6,x7,x8] t (0,0))) :
  (w.cell? ⟨b,0,none⟩=some x0∧w.cell? ⟨b,1,none⟩=some x1∧w.cell? ⟨b,2,none⟩=some x2∧w.cell? ⟨b,3,none⟩=some x3∧w.cell? ⟨b,4,none⟩=some x4∧w.cell? ⟨b,5,none⟩=some x5∧w.cell? ⟨b,6,none⟩=some x6∧w.cell? ⟨b,7,none⟩=some x7∧w.cell? ⟨b,8,none⟩=some x8) ∧
  (w.frozen? ⟨b,0,none⟩=false∧w.frozen? ⟨b,1,none⟩=false∧w.frozen? ⟨b,2,none⟩=false∧w.frozen? ⟨b,3,none⟩=false∧w.frozen? ⟨b,4,none⟩=false∧w.frozen? ⟨b,5,none⟩=false∧w.frozen? ⟨b,6,none⟩=false∧w.frozen? ⟨b,7,none⟩=false∧w.frozen? ⟨b,8,none⟩=false):=by simp [World.cell?,World.frozen?,h]
theorem set9 {w:World} {b:Nat} {x0 x1 x2 x3 x4 x5 x6 x7 x8:Value} {t:TypeId} (h:w.heap[b]?=some (.cells #[x0,x1,x2,x3,x4,x5,x6,x7,x8] t (0,0))) (y0 y1 y2 y3 y4 y5 y6 y7 y8:Value) :
  (((((((((w.setCell ⟨b,0,none⟩ y0).setCell ⟨b,1,none⟩ y1).setCell ⟨b,2,none⟩ y2).setCell ⟨b,3,none⟩ y3).setCell ⟨b,4,none⟩ y4).setCell ⟨b,5,none⟩ y5).setCell ⟨b,6,none⟩ y6).setCell ⟨b,7,none⟩ y7).setCell ⟨b,8,none⟩ y8).heap[b]?=some (.cells #[y0,y1,y2,y3,y4,y5,y6,y7,y8] t (0,0)):=by
 have h0:(w.setCell ⟨b,0,none⟩ y0).heap[b]?=some (.cells #[y0,x1,x2,x3,x4,x5,x6,x7,x8] t (0,0)):=by simpa using heap_setCell_eq (i:=0) y0 h
 have h1:((w.setCell ⟨b,0,none⟩ y0).setCell ⟨b,1,none⟩ y1).heap[b]?=some (.cells #[y0,y1,x2,x3,x4,x5,x6,x7,x8] t (0,0)):=by simpa using heap_setCell_eq (i:=1) y1 h0
 have h2:(((w.setCell ⟨b,0,none⟩ y0).setCell ⟨b,1,none⟩ y1).setCell ⟨b,2,none⟩ y2).heap[b]?=some (.cells #[y0,y1,y2,x3,x4,x5,x6,x7,x8] t (0,0)):=by simpa using heap_setCell_eq (i:=2) y2 h1
 have h3:((((w.setCell ⟨b,0,none⟩ y0).setCell ⟨b,1,none⟩ y1).setCell ⟨b,2,none⟩ y2).setCell ⟨b,3,none⟩ y3).heap[b]?=some (.cells #[y0,y1,y2,y3,x4,x5,x6,x7,x8] t (0,0)):=by simpa using heap_setCell_eq (i:=3) y3 h2
 have h4:(((((w.setCell ⟨b,0,none⟩ y0).setCell ⟨b,1,none⟩ y1).setCell ⟨b,2,none⟩ y2).setCell ⟨b,3,none⟩ y3).setCell ⟨b,4,none⟩ y4).heap[b]?=some (.cells #[y0,y1,y2,y3,y4,x5,x6,x7,x8] t (0,0)):=by simpa using heap_setCell_eq (i:=4) y4 h3
 have h5:((((((w.setCell ⟨b,0,none⟩ y0).setCell ⟨b,1,none⟩ y1).setCell ⟨b,2,none⟩ y2).setCell ⟨b,3,none⟩ y3).setCell ⟨b,4,none⟩ y4).setCell ⟨b,5,none⟩ y5).heap[b]?=some (.cells #[y0,y1,y2,y3,y4,y5,x6,x7,x8] t (0,0)):=by simpa using heap_setCell_eq (i:=5) y5 h4
 have h6:(((((((w.setCell ⟨b,0,none⟩ y0).setCell ⟨b,1,none⟩ y1).setCell ⟨b,2,none⟩ y2).setCell ⟨b,3,none⟩ y3).setCell ⟨b,4,none⟩ y4).setCell ⟨b,5,none⟩ y5).setCell ⟨b,6,none⟩ y6).heap[b]?=some (.cells #[y0,y1,y2,y3,y4,y5,y6,x7,x8] t (0,0)):=by simpa using heap_setCell_eq (i:=6) y6 h5
 have h7:((((((((w.setCell ⟨b,0,none⟩ y0).setCell ⟨b,1,none⟩ y1).setCell ⟨b,2,none⟩ y2).setCell ⟨b,3,none⟩ y3).setCell ⟨b,4,none⟩ y4).setCell ⟨b,5,none⟩ y5).setCell ⟨b,6,none⟩ y6).setCell ⟨b,7,none⟩ y7).heap[b]?=some (.cells #[y0,y1,y2,y3,y4,y5,y6,y7,x8] t (0,0)):=by simpa using heap_setCell_eq (i:=7) y7 h6
 have h8:(((((((((w.setCell ⟨b,0,none⟩ y0).setCell ⟨b,1,none⟩ y1).setCell ⟨b,2,none⟩ y2).setCell ⟨b,3,none⟩ y3).setCell ⟨b,4,none⟩ y4).setCell ⟨b,5,none⟩ y5).setCell ⟨b,6,none⟩ y6).setCell ⟨b,7,none⟩ y7).setCell ⟨b,8,none⟩ y8).heap[b]?=some (.cells #[y0,y1,y2,y3,y4,y5,y6,y7,y8] t (0,0)):=by simpa using heap_setCell_eq (i:=8) y8 h7
 exact h8
theorem post9 {Q:World→Prop} {w w0:World} {b:Nat} {x0 x1 x2 x3 x4 x5 x6 x7 x8 y0 y1 y2 y3 y4 y5 y6 y7 y8:Value} {t:TypeId} (h:w.heap[b]?=some (.cells #[x0,x1,x2,x3,x4,x5,x6,x7,x8] t (0,0))) (hu:Upd noBlk w0 w) (hb:w0.heap.size≤b)
  (hQ:∀wz:World,wz.heap[b]?=some (.cells #[y0,y1,y2,y3,y4,y5,y6,y7,y8] t (0,0))→Upd noBlk w0 wz→Q wz):Q (((((((((w.setCell ⟨b,0,none⟩ y0).setCell ⟨b,1,none⟩ y1).setCell ⟨b,2,none⟩ y2).setCell ⟨b,3,none⟩ y3).setCell ⟨b,4,none⟩ y4).setCell ⟨b,5,none⟩ y5).setCell ⟨b,6,none⟩ y6).setCell ⟨b,7,none⟩ y7).setCell ⟨b,8,none⟩ y8).drew:=by
 have hlt:∀j:Nat,((⟨b,j,none⟩:Addr).block<w0.heap.size→noBlk (⟨b,j,none⟩:Addr).block):=fun j hh=>absurd hh (Nat.not_lt.2 hb);have u0:Upd noBlk w0 (w.setCell ⟨b,0,none⟩ y0):=Upd.setCell hu (hlt 0) _;have u1:Upd noBlk w0 ((w.setCell ⟨b,0,none⟩ y0).setCell ⟨b,1,none⟩ y1):=Upd.setCell u0 (hlt 1) _;have u2:Upd noBlk w0 (((w.setCell ⟨b,0,none⟩ y0).setCell ⟨b,1,none⟩ y1).setCell ⟨b,2,none⟩ y2):=Upd.setCell u1 (hlt 2) _;have u3:Upd noBlk w0 ((((w.setCell ⟨b,0,none⟩ y0).setCell ⟨b,1,none⟩ y1).setCell ⟨b,2,none⟩ y2).setCell ⟨b,3,none⟩ y3):=Upd.setCell u2 (hlt 3) _;have u4:Upd noBlk w0 (((((w.setCell ⟨b,0,none⟩ y0).setCell ⟨b,1,none⟩ y1).setCell ⟨b,2,none⟩ y2).setCell ⟨b,3,none⟩ y3).setCell ⟨b,4,none⟩ y4):=Upd.setCell u3 (hlt 4) _;have u5:Upd noBlk w0 ((((((w.setCell ⟨b,0,none⟩ y0).setCell ⟨b,1,none⟩ y1).setCell ⟨b,2,none⟩ y2).setCell ⟨b,3,none⟩ y3).setCell ⟨b,4,none⟩ y4).setCell ⟨b,5,none⟩ y5):=Upd.setCell u4 (hlt 5) _;have u6:Upd noBlk w0 (((((((w.setCell ⟨b,0,none⟩ y0).setCell ⟨b,1,none⟩ y1).setCell ⟨b,2,none⟩ y2).setCell ⟨b,3,none⟩ y3).setCell ⟨b,4,none⟩ y4).setCell ⟨b,5,none⟩ y5).setCell ⟨b,6,none⟩ y6):=Upd.setCell u5 (hlt 6) _;have u7:Upd noBlk w0 ((((((((w.setCell ⟨b,0,none⟩ y0).setCell ⟨b,1,none⟩ y1).setCell ⟨b,2,none⟩ y2).setCell ⟨b,3,none⟩ y3).setCell ⟨b,4,none⟩ y4).setCell ⟨b,5,none⟩ y5).setCell ⟨b,6,none⟩ y6).setCell ⟨b,7,none⟩ y7):=Upd.setCell u6 (hlt 7) _;have u8:Upd noBlk w0 (((((((((w.setCell ⟨b,0,none⟩ y0).setCell ⟨b,1,none⟩ y1).setCell ⟨b,2,none⟩ y2).setCell ⟨b,3,none⟩ y3).setCell ⟨b,4,none⟩ y4).setCell ⟨b,5,none⟩ y5).setCell ⟨b,6,none⟩ y6).setCell ⟨b,7,none⟩ y7).setCell ⟨b,8,none⟩ y8):=Upd.setCell u7 (hlt 8) _;have s:=set9 h y0 y1 y2 y3 y4 y5 y6 y7 y8;obtain ⟨wc,hwc⟩:∃wc,wc=(((((((((w.setCell ⟨b,0,none⟩ y0).setCell ⟨b,1,none⟩ y1).setCell ⟨b,2,none⟩ y2).setCell ⟨b,3,none⟩ y3).setCell ⟨b,4,none⟩ y4).setCell ⟨b,5,none⟩ y5).setCell ⟨b,6,none⟩ y6).setCell ⟨b,7,none⟩ y7).setCell ⟨b,8,none⟩ y8):=⟨_,rfl⟩;rw [←hwc] at s u8 ⊢;exact hQ _ s u8.drew
end Go.Proofs.YtcikldoaidmnhaaGreatDoor
namespace Go.Proofs.YtcikldoaidmnhaaGreatDoor
open Go Go.RowKit
namespace Pk
def RotE (s t:Tri):Prop:=s=t∨s=(t.2.1,t.2.2,t.1)∨s=(t.2.2,t.1,t.2.1)
theorem RotE.refl (t:Tri):RotE t t:=.inl rfl
theorem RotE.symm {s t:Tri} (h:RotE s t):RotE t s:=by
 rcases h with rfl | rfl | rfl
 ·exact .inl rfl
 ·exact .inr (.inr rfl)
 ·exact .inr (.inl rfl)
theorem RotE.trans {r s t:Tri} (h:RotE r s) (k:RotE s t):RotE r t:=by
 rcases h with rfl | rfl | rfl
 ·exact k
 ·rcases k with rfl | rfl | rfl
  ·exact .inr (.inl rfl)
  ·exact .inr (.inr rfl)
  ·exact .inl rfl
 ·rcases k with rfl | rfl | rfl
  ·exact .inr (.inr rfl)
  ·exact .inl rfl
  ·exact .inr (.inl rfl)
theorem RotE.edges {s t:Tri} (h:RotE s t):(edgesT s).Perm (edgesT t):=by
 rcases h with rfl | rfl | rfl
 ·exact List.Perm.refl _
 ·show [(t.2.1,t.2.2),(t.2.2,t.1),(t.1,t.2.1)].Perm [(t.1,t.2.1),(t.2.1,t.2.2),(t.2.2,t.1)];exact (List.perm_append_comm (l₁:=[(t.2.1,t.2.2),(t.2.2,t.1)]) (l₂:=[(t.1,t.2.1)]))
 ·show [(t.2.2,t.1),(t.1,t.2.1),(t.2.1,t.2.2)].Perm [(t.1,t.2.1),(t.2.1,t.2.2),(t.2.2,t.1)];exact (List.perm_append_comm (l₁:=[(t.2.2,t.1)]) (l₂:=[(t.1,t.2.1),(t.2.1,t.2.2)]))
def cornT (t:Tri):List Pt:=[t.1,t.2.1,t.2.2]
theorem RotE.corners {s t:Tri} (h:RotE s t):(cornT s).Perm (cornT t):=by
 rcases h with rfl | rfl | rfl
 ·exact List.Perm.refl _
 ·exact (List.perm_append_comm (l₁:=[t.2.1,t.2.2]) (l₂:=[t.1]))
 ·exact (List.perm_append_comm (l₁:=[t.2.2]) (l₂:=[t.1,t.2.1]))
theorem RotE.flat {s t:Tri} (h:RotE s t):flatT s=flatT t:=by
 rcases h with rfl | rfl | rfl
 ·rfl
 ·unfold flatT;rw [decide_eq_decide];simp only;constructor<;>(rintro (h | h | h)<;>simp [h])
 ·unfold flatT;rw [decide_eq_decide];simp only;constructor<;>(rintro (h | h | h)<;>simp [h])
theorem RotE.coord {s t:Tri} (h:RotE s t):coordT s=coordT t:=by
 have e:∀u:Tri,coordT u=(cornT u).all (fun p=>decide (0≤p.1∧p.1≤2097151∧0≤p.2.1∧p.2.1≤2097151∧0≤p.2.2∧p.2.2≤2097151)):=fun _=>rfl;rw [e,e,Bool.eq_iff_iff,List.all_eq_true,List.all_eq_true];exact ⟨fun k x hx=>k x (h.corners.mem_iff.2 hx),fun k x hx=>k x (h.corners.mem_iff.1 hx)⟩
def nrm (t:Tri):Tri:=
 let m:=if triLt (t.2.1,t.2.2,t.1) t then (t.2.1,t.2.2,t.1) else t
 if triLt (t.2.2,t.1,t.2.1) m then (t.2.2,t.1,t.2.1) else m
theorem triLt_ftrans {a b c:Tri} (h1:triLt a b=false) (h2:triLt b c=false):triLt a c=false:=by
 have:=triLe_trans c b a (by unfold triLe;rw [h2];rfl) (by unfold triLe;rw [h1];rfl);unfold triLe at this;simpa using this
theorem nrm_rot (t:Tri):RotE (nrm t) t:=by
 have k:∀m:Tri,RotE m t→RotE (if triLt (t.2.2,t.1,t.2.1) m then (t.2.2,t.1,t.2.1) else m) t:=fun m hm=>by
  split
  ·exact .inr (.inr rfl)
  ·exact hm
 unfold nrm;refine k _ ?_;split
 ·exact .inr (.inl rfl)
 ·exact .inl rfl
theorem nrm_le {s t:Tri} (h:RotE s t):triLt s (nrm t)=false:=by
 have k1:triLt t (if triLt (t.2.1,t.2.2,t.1) t then (t.2.1,t.2.2,t.1) else t)=false:=by
  split
  ·rename_i h;exact triLt_asymm h
  ·exact triLt_irrefl t
 have k2:triLt (t.2.1,t.2.2,t.1) (if triLt (t.2.1,t.2.2,t.1) t then (t.2.1,t.2.2,t.1) else t)=false:=by
  split
  ·exact triLt_irrefl _
  ·rename_i h;simpa using h
 unfold nrm;simp only;generalize (if triLt (t.2.1,t.2.2,t.1) t then (t.2.1,t.2.2,t.1) else t)=m at *;split
 ·rename_i h3
  have h4:=triLt_asymm h3;rcases h with rfl | rfl | rfl
  ·exact triLt_ftrans k1 h4
  ·exact triLt_ftrans k2 h4
  ·exact triLt_irrefl _
 ·rename_i h3
  rcases h with rfl | rfl | rfl
  ·exact k1
  ·exact k2
  ·simpa using h3
theorem nrm_eq {s t:Tri} (h:RotE s t):nrm s=nrm t:=
 triLt_total (nrm_le ((nrm_rot s).trans h)) (nrm_le ((nrm_rot t).trans h.symm))
theorem rot_rot (t:Tri):RotE (rot t) t:=by
 unfold rot;split
 ·split
  ·exact .inr (.inr rfl)
  ·exact .inr (.inl rfl)
 ·split
  ·exact .inr (.inr rfl)
  ·exact .inl rfl
theorem rot_first (t:Tri):ptLt (rot t).2.1 (rot t).1=false∧ptLt (rot t).2.2 (rot t).1=false:=by
 unfold rot;cases h1:ptLt t.2.1 t.1 with
 | false=>
  rw [if_neg (by simp)];cases h2:ptLt t.2.2 t.1 with
  | false=>rw [if_neg (by simp)];exact ⟨h1,h2⟩
  | true=>
   rw [if_pos rfl];simp only;refine ⟨ptLt_asymm h2,?_⟩;cases h3:ptLt t.2.1 t.2.2 with
   | false=>rfl
   | true=>rw [ptLt_trans h3 h2] at h1;cases h1
 | true=>
  rw [if_pos rfl];cases h2:ptLt t.2.2 t.2.1 with
  | true=>rw [if_pos rfl];exact ⟨ptLt_asymm (ptLt_trans h2 h1),ptLt_asymm h2⟩
  | false=>rw [if_neg (by simp)];exact ⟨h2,ptLt_asymm h1⟩
theorem rot_fix {t:Tri} (h1:ptLt t.2.1 t.1=false) (h2:ptLt t.2.2 t.1=false):rot t=t:=by
 unfold rot;rw [h1,h2];rfl
theorem rot_idem (t:Tri):rot (rot t)=rot t:=rot_fix (rot_first t).1 (rot_first t).2
theorem rot_eq {s t:Tri} (h:RotE s t) (hf:flatT t=false):rot s=rot t:=by
 have key:∀{a b:Tri},RotE a b→flatT b=false→ptLt a.2.1 a.1=false→ptLt a.2.2 a.1=false→ptLt b.2.1 b.1=false→ptLt b.2.2 b.1=false→a=b:=by
  intro a b hab hb a1 a2 b1 b2;have hb':b.1≠b.2.1∧b.2.1≠b.2.2∧b.2.2≠b.1:=by
   unfold flatT at hb;simpa [not_or] using hb
  rcases hab with rfl | rfl | rfl
  ·rfl
  ·simp only at a1 a2;exact absurd (ptLt_total a2 b1) hb'.1
  ·simp only at a1 a2;exact absurd (ptLt_total b2 a1) hb'.2.2
 refine key ((rot_rot s).trans (h.trans (rot_rot t).symm)) ?_ (rot_first s).1 (rot_first s).2 (rot_first t).1 (rot_first t).2;rw [(rot_rot t).flat];exact hf
def Alike (l l':List Tri):Prop:=(l.map nrm).Perm (l'.map nrm)
theorem Alike.refl (l:List Tri):Alike l l:=List.Perm.refl _
theorem Alike.symm {l l':List Tri} (h:Alike l l'):Alike l' l:=List.Perm.symm h
theorem Alike.trans {a b c:List Tri} (h:Alike a b) (k:Alike b c):Alike a c:=List.Perm.trans h k
theorem Alike.of_perm {l l':List Tri} (h:l.Perm l'):Alike l l':=h.map nrm
theorem Alike.length {l l':List Tri} (h:Alike l l'):l.length=l'.length:=by have:=List.Perm.length_eq h;simpa using this
theorem Alike.of_rot {f:Tri→Tri} (hf:∀t,RotE (f t) t) (l:List Tri):Alike (l.map f) l:=by
 have e:(l.map f).map nrm=l.map nrm:=by rw [List.map_map];exact List.map_congr_left (fun t _=>nrm_eq (hf t))
 unfold Alike;rw [e]
theorem canon_alike (l:List Tri):Alike (canon l) l:=(Alike.of_perm (List.mergeSort_perm _ _)).trans (Alike.of_rot rot_rot l)
theorem Alike.mem {l l':List Tri} (h:Alike l l') {t:Tri} (ht:t∈l):∃t',t'∈l'∧RotE t t':=by
 have h1:nrm t∈l'.map nrm:=h.mem_iff.1 (List.mem_map_of_mem ht);obtain ⟨t',h2,h3⟩:=List.mem_map.1 h1;refine ⟨t',h2,(nrm_rot t).symm.trans ?_⟩;rw [←h3];exact nrm_rot t'
theorem flatMap_nrm {β:Type} (f:Tri→List β) (hf:∀t,(f (nrm t)).Perm (f t)):∀l:List Tri,((l.map nrm).flatMap f).Perm (l.flatMap f)
 | []=>List.Perm.refl _
 | t :: l=>by
  show (f (nrm t)++(l.map nrm).flatMap f).Perm (f t++l.flatMap f);exact (hf t).append (flatMap_nrm f hf l)
theorem perm_flatMap {α β:Type} (f:α→List β) {l l':List α} (h:l.Perm l'):(l.flatMap f).Perm (l'.flatMap f):=by
 induction h with
 | nil=>exact List.Perm.refl _
 | cons x _ ih=>rw [List.flatMap_cons,List.flatMap_cons];exact ih.append_left _
 | swap x y l=>
  simp only [List.flatMap_cons];rw [←List.append_assoc,←List.append_assoc];exact List.perm_append_comm.append_right _
 | trans _ _ h1 h2=>exact h1.trans h2
theorem Alike.flatMap {β:Type} (f:Tri→List β) (hf:∀{s t:Tri},RotE s t→(f s).Perm (f t)) {l l':List Tri} (h:Alike l l'):(l.flatMap f).Perm (l'.flatMap f):=
 ((flatMap_nrm f (fun t=>hf (nrm_rot t)) l).symm.trans (perm_flatMap f h)).trans (flatMap_nrm f (fun t=>hf (nrm_rot t)) l')
theorem Alike.edges {l l':List Tri} (h:Alike l l'):(edgesL l).Perm (edgesL l'):=h.flatMap edgesT (fun k=>k.edges)
theorem Alike.many {l l':List Tri} (h:Alike l l') (p:Pt):manyC l p=manyC l' p:=(h.flatMap cornT (fun k=>k.corners)).count_eq p
theorem Alike.anyB {f:Tri→Bool} (hf:∀{s t:Tri},RotE s t→f s=f t) {l l':List Tri} (h:Alike l l'):l.any f=l'.any f:=by
 rw [Bool.eq_iff_iff,List.any_eq_true,List.any_eq_true];constructor
 ·rintro ⟨t,h1,h2⟩;obtain ⟨t',k1,k2⟩:=h.mem h1;exact ⟨t',k1,by rw [←hf k2];exact h2⟩
 ·rintro ⟨t,h1,h2⟩;obtain ⟨t',k1,k2⟩:=h.symm.mem h1;exact ⟨t',k1,by rw [←hf k2];exact h2⟩
theorem Alike.allB {f:Tri→Bool} (hf:∀{s t:Tri},RotE s t→f s=f t) {l l':List Tri} (h:Alike l l'):l.all f=l'.all f:=by
 rw [List.all_eq_not_any_not,List.all_eq_not_any_not,h.anyB (f:=fun t=>!f t) (fun k=>by rw [hf k])]
theorem edgesL_cons (t:Tri) (l:List Tri):edgesL (t :: l)=edgesT t++edgesL l:=rfl
theorem mem_edgesL {l:List Tri} {e:Pt × Pt}:e∈edgesL l↔∃t,t∈l∧e∈edgesT t:=List.mem_flatMap
theorem edge_once:∀{l:List Tri},(edgesL l).Nodup→∀{s t:Tri},s∈l→t∈l→∀{e:Pt × Pt},e∈edgesT s→e∈edgesT t→s=t
 | [],_,_,_,h,_,_,_,_=>by cases h
 | a :: l,hn,s,t,hs,ht,e,h1,h2=>by
  rw [edgesL_cons,List.nodup_append] at hn;obtain ⟨_,n2,n3⟩:=hn;rcases List.mem_cons.1 hs with hs' | hs'
  ·rcases List.mem_cons.1 ht with ht' | ht'
   ·rw [hs',ht']
   ·subst hs';exact absurd rfl (n3 e h1 e (mem_edgesL.2 ⟨t,ht',h2⟩))
  ·rcases List.mem_cons.1 ht with ht' | ht'
   ·subst ht';exact absurd rfl (n3 e h2 e (mem_edgesL.2 ⟨s,hs',h1⟩))
   ·exact edge_once n2 hs' ht' h1 h2
theorem edgesT_nodup:∀{l:List Tri},(edgesL l).Nodup→∀{t:Tri},t∈l→(edgesT t).Nodup
 | [],_,_,h=>by cases h
 | a :: l,hn,t,ht=>by
  rw [edgesL_cons,List.nodup_append] at hn;rcases List.mem_cons.1 ht with rfl | ht
  ·exact hn.1
  ·exact edgesT_nodup hn.2.1 ht
theorem third_some:∀{l:List Tri} {p q r:Pt},third l p q=some r→∃t,t∈l∧RotE (p,q,r) t
 | [],_,_,_,h=>by cases h
 | t :: l,p,q,r,h=>by
  rw [third] at h;split at h
  ·rename_i h1;cases h;exact ⟨t,by simp,.inl (by rw [←h1.1,←h1.2])⟩
  ·split at h
   ·rename_i h1;cases h;exact ⟨t,by simp,.inr (.inl (by rw [←h1.1,←h1.2]))⟩
   ·split at h
    ·rename_i h1;cases h;exact ⟨t,by simp,.inr (.inr (by rw [←h1.1,←h1.2]))⟩
    ·obtain ⟨t',k1,k2⟩:=third_some h;exact ⟨t',by simp [k1],k2⟩
theorem rot_unique {t:Tri} (hn:(edgesT t).Nodup) {p q r r':Pt} (h:RotE (p,q,r) t) (k:RotE (p,q,r') t):r=r':=by
 obtain ⟨a,b,c⟩:=t;simp only [edgesT,List.nodup_cons,List.mem_cons,Prod.mk.injEq,List.not_mem_nil,or_false,not_or,List.nodup_nil,and_true,not_and] at hn;obtain ⟨⟨n1,n2⟩,n3,_⟩:=hn;simp only [RotE,Prod.mk.injEq] at h k;rcases h with ⟨rfl,rfl,rfl⟩ | ⟨rfl,rfl,rfl⟩ | ⟨rfl,rfl,rfl⟩
 ·rcases k with ⟨_,_,rfl⟩ | ⟨h1,h2,rfl⟩ | ⟨h1,h2,rfl⟩
  ·rfl
  ·exact absurd h2 (n1 h1)
  ·exact absurd h2 (n2 h1)
 ·rcases k with ⟨h1,h2,rfl⟩ | ⟨_,_,rfl⟩ | ⟨h1,h2,rfl⟩
  ·exact absurd h2.symm (n1 h1.symm)
  ·rfl
  ·exact absurd h2 (n3 h1)
 ·rcases k with ⟨h1,h2,rfl⟩ | ⟨h1,h2,rfl⟩ | ⟨_,_,rfl⟩
  ·exact absurd h2.symm (n2 h1.symm)
  ·exact absurd h2.symm (n3 h1.symm)
  ·rfl
theorem rot_edge {p q r:Pt} {t:Tri} (h:RotE (p,q,r) t):(p,q)∈edgesT t:=h.edges.mem_iff.1 (by simp [edgesT])
theorem third_eq {l:List Tri} (hn:(edgesL l).Nodup) {t:Tri} (ht:t∈l) {p q r:Pt} (h:RotE (p,q,r) t):third l p q=some r:=by
 have h1:(third l p q).isSome=true:=by rw [third_isSome,decide_eq_true_eq];exact mem_edgesL.2 ⟨t,ht,rot_edge h⟩
 obtain ⟨r',hr⟩:=Option.isSome_iff_exists.1 h1;obtain ⟨t',k1,k2⟩:=third_some hr;have:=edge_once hn k1 ht (rot_edge k2) (rot_edge h);subst this;rw [hr,rot_unique (edgesT_nodup hn k1) k2 h]
theorem Alike.third {l l':List Tri} (h:Alike l l') (hn:(edgesL l).Nodup) (p q:Pt):third l p q=third l' p q:=by
 have hn':(edgesL l').Nodup:=h.edges.nodup_iff.1 hn;cases h1:Pk.third l' p q with
 | some r=>
  obtain ⟨t,k1,k2⟩:=third_some h1;obtain ⟨t',k3,k4⟩:=h.symm.mem k1;exact third_eq hn k3 (k2.trans k4)
 | none=>
  cases h2:Pk.third l p q with
  | none=>rfl
  | some r=>
   obtain ⟨t,k1,k2⟩:=third_some h2;obtain ⟨t',k3,k4⟩:=h.mem k1;rw [third_eq hn' k3 (k2.trans k4)] at h1;cases h1
theorem ringN_congr {l l':List Tri} (h:∀p q,third l p q=third l' p q) (p:Pt):∀(n:Nat) (q:Pt),ringN l p n q=ringN l' p n q
 | 0,_=>rfl
 | n+1,q=>by
  rw [ringN,ringN,h p q];cases third l' p q with
  | none=>rfl
  | some r=>exact ringN_congr h p n r
theorem Alike.pinched {l l':List Tri} (h:Alike l l') (hn:(edgesL l).Nodup):pinched l=pinched l':=by
 have hr:=ringN_congr (h.third hn);have e:∀m:List Tri,Pk.pinched m=(edgesL m).any (fun e=>(List.range (manyC m e.1)).any (fun n=>decide (1≤n)&&(ringN m e.1 n e.2 == some e.2))):=fun _=>rfl;rw [e,e,Bool.eq_iff_iff,List.any_eq_true,List.any_eq_true];constructor
 ·rintro ⟨x,h1,h2⟩;refine ⟨x,h.edges.mem_iff.1 h1,?_⟩;rw [←h.many];simpa only [hr] using h2
 ·rintro ⟨x,h1,h2⟩;refine ⟨x,h.edges.mem_iff.2 h1,?_⟩;rw [h.many];simpa only [hr] using h2
theorem Alike.check {l l':List Tri} (h:Alike l l'):checkO l=checkO l':=by
 unfold checkO;rw [h.anyB (f:=flatT) (fun k=>k.flat)];by_cases h1:l'.any flatT=true
 ·rw [if_pos h1,if_pos h1]
 ·rw [if_neg h1,if_neg h1];by_cases h2:(edgesL l).Nodup
  ·rw [if_neg (not_not_intro h2),if_neg (not_not_intro (h.edges.nodup_iff.1 h2)),h.pinched h2]
  ·rw [if_pos h2,if_pos (fun k=>h2 (h.edges.nodup_iff.2 k))]
theorem Alike.packable {l l':List Tri} (h:Alike l l'):packable l=packable l':=by
 unfold Pk.packable;rw [h.allB (f:=coordT) (fun k=>k.coord),h.length,h.check]
theorem checkO_zero {l:List Tri}:checkO l=0↔(∀t,t∈l→flatT t=false)∧(edgesL l).Nodup∧pinched l=false:=by
 unfold checkO;by_cases h1:l.any flatT=true
 ·rw [if_pos h1];refine ⟨fun h=>by omega,fun h=>?_⟩;obtain ⟨t,k1,k2⟩:=List.any_eq_true.1 h1;rw [h.1 t k1] at k2;cases k2
 ·have h1':∀t,t∈l→flatT t=false:=fun t ht=>by
   cases hf:flatT t with
   | false=>rfl
   | true=>exact absurd (List.any_eq_true.2 ⟨t,ht,hf⟩) h1
  rw [if_neg h1];by_cases h2:(edgesL l).Nodup
  ·rw [if_neg (not_not_intro h2)];cases h3:pinched l with
   | true=>simp
   | false=>exact ⟨fun _=>⟨h1',h2,rfl⟩,fun _=>by simp⟩
  ·rw [if_pos h2];exact ⟨fun h=>by omega,fun h=>absurd h.2.1 h2⟩
theorem Alike.canon {l l':List Tri} (h:Alike l l') (hf:∀t,t∈l→flatT t=false):canon l=canon l':=by
 have hf':∀t,t∈l'→flatT t=false:=fun t ht=>by
  obtain ⟨t',k1,k2⟩:=h.symm.mem ht;rw [k2.flat];exact hf t' k1
 have e:∀m:List Tri,(∀t,t∈m→flatT t=false)→m.map rot=(m.map nrm).map rot:=fun m hm=>by
  rw [List.map_map];refine List.map_congr_left (fun t ht=>?_);exact rot_eq (nrm_rot t).symm (by rw [(nrm_rot t).flat];exact hm t ht)
 unfold Pk.canon;refine sorted_unique ?_ (List.pairwise_mergeSort triLe_trans triLe_total _) (List.pairwise_mergeSort triLe_trans triLe_total _);refine (List.mergeSort_perm _ _).trans (List.Perm.trans ?_ (List.mergeSort_perm _ _).symm);rw [e l hf,e l' hf'];exact List.Perm.map _ h
theorem Alike.cluster {l l':List Tri} (h:Alike l l'):clusterN l=clusterN l':=by
 unfold clusterN;rw [h.packable];by_cases hp:Pk.packable l'=true
 ·rw [if_pos hp,if_pos hp];have hp2:Pk.packable l=true:=by rw [h.packable];exact hp
  unfold Pk.packable at hp2;simp only [Bool.and_eq_true,decide_eq_true_eq] at hp2;rw [h.canon (checkO_zero.1 hp2.2).1]
 ·rw [if_neg hp,if_neg hp]
theorem canon_idem (l:List Tri):canon (canon l)=canon l:=by
 have e:(canon l).map rot=canon l:=by
  have h1:∀t,t∈canon l→rot t=t:=fun t ht=>by
   have h2:t∈l.map rot:=(List.mergeSort_perm _ _).mem_iff.1 ht;obtain ⟨s,_,rfl⟩:=List.mem_map.1 h2;exact rot_idem s
  calc (canon l).map rot=(canon l).map id:=List.map_congr_left h1
   _=canon l:=List.map_id _
 show ((canon l).map rot).mergeSort triLe=canon l;rw [e];refine sorted_unique (List.mergeSort_perm _ _) (List.pairwise_mergeSort triLe_trans triLe_total _) ?_;exact List.pairwise_mergeSort triLe_trans triLe_total _
end Pk
end Go.Proofs.YtcikldoaidmnhaaGreatDoor
namespace Go.Proofs.YtcikldoaidmnhaaGreatDoor
open Go Go.RowKit
structure MapKit (P:Program) (α β:Type) where
 t:TypeId
 k:TypeId
 e:TypeId
 encK:α→Value
 klK:α→Lit
 goodK:α→Prop
 encV:β→Value
 dV:β→DataW Unit
 goodV:β→Prop
 zero:β
 R:Value→Option (DataW Unit × List MemPlace)
 keyed:Maps.Keyed P k
 ht:P.underlying t=some (.map k e)
 hkey:∀a,goodK a→keyOf P k (encK a)=some (klK a)
 inj:∀a b,goodK a→goodK b→klK a=klK b→a=b
 hval:∀b,goodV b→R (encV b)=some (dV b,[])
 hinv:∀v y,R v=some y→∃b,goodV b∧v=encV b∧y=(dV b,[])
 dinj:∀b b',goodV b→goodV b'→dV b=dV b'→b=b'
 hz:∀w,(zeroValue e).run P w=.ok (encV zero) w
 gz:goodV zero
variable {P:Program} {α β:Type}
def MapKit.At (K:MapKit P α β) (w:World) (b n:Nat) (f:α→Option β):Prop:=
 ∃D:DataW Unit,w.ownsMap P K.k K.R b n D∧(∀a,K.goodK a→D.atKey (K.klK a) (K.dV K.zero)=K.dV ((f a).getD K.zero))∧(∀a,K.goodK a→Maps.has D (K.klK a)=(f a).isSome)∧(∀kl,Maps.has D kl=true→∃a,K.goodK a∧kl=K.klK a)∧(∀a v,f a=some v→K.goodV v)
theorem MapKit.At.made (K:MapKit P α β) (w:World):K.At (w.alloc (.map #[] 0)) w.heap.size 0 (fun _=>none):=⟨_,World.ownsMap_made _ _ _ _,fun _ _=>rfl,fun _ _=>rfl,(fun _ h=>by cases h),(fun _ _ h=>by cases h)⟩
theorem MapKit.At.blk {K:MapKit P α β} {w:World} {b n:Nat} {f:α→Option β} (h:K.At w b n f):∃es clock,w.heap[b]?=some (.map es clock):=by
 obtain ⟨D,⟨es,clock,h1,_⟩,_⟩:=h;exact ⟨es,clock,h1⟩
theorem MapKit.At.heap {K:MapKit P α β} {w w':World} {b n:Nat} {f:α→Option β} (h:K.At w b n f) (hb:∀o,w.heap[b]?=some o→w'.heap[b]?=some o):K.At w' b n f:=by
 obtain ⟨D,⟨es,clock,h1,h2,h3,h4⟩,h5⟩:=h;exact ⟨D,⟨es,clock,hb _ h1,h2,h3,h4⟩,h5⟩
theorem MapKit.At.keep {K:MapKit P α β} {w w':World} {b n:Nat} {f:α→Option β} (h:K.At w b n f) (hu:Upd noBlk w w'):K.At w' b n f:=h.heap (fun _ ho=>hu.heap ho id)
theorem MapKit.At.other {K:MapKit P α β} {F:Nat→Prop} {w w':World} {b n:Nat} {f:α→Option β} (h:K.At w b n f) (hu:Upd F w w') (hF:¬F b):K.At w' b n f:=h.heap (fun _ ho=>hu.heap ho hF)
theorem MapKit.At.mono {K:MapKit P α β} {w:World} {b n m:Nat} {f:α→Option β} (h:K.At w b n f) (hm:n≤m):K.At w b m f:=by
 obtain ⟨D,h1,h2⟩:=h;exact ⟨D,h1.mono hm,h2⟩
theorem MapKit.At.look {K:MapKit P α β} {w:World} {ops:Array Oper} {rest:List Oper} {o:Oper} {ac:Act} {Q:Exit→Act→World→Prop} {b n:Nat} {f:α→Option β} (h:K.At w b n f) (hg:o.guard=none) (m x:Operand) (hop:o.op=Op.lookup K.t m x false) (hm:ac.eval m=.map (some b)) {a:α} (hx:ac.eval x=K.encK a) (ha:K.goodK a)
  (hK:wpList P ops Q rest (ac.put o.dst (K.encV ((f a).getD K.zero))) w):wpList P ops Q (o :: rest) ac w:=by
 obtain ⟨D,h1,h2,h3,h4,h5⟩:=h;obtain ⟨v,ps,hrun,hv⟩:=h1.lookup K.keyed K.ht (K.hz w) (K.hval _ K.gz) (K.hkey a ha);obtain ⟨c,gc,rfl,hc⟩:=K.hinv v _ hv;rw [h2 a ha] at hc;have hgd:K.goodV ((f a).getD K.zero):=by
  cases hf:f a with
  | none=>exact K.gz
  | some u=>exact h5 a u hf
 have:=K.dinj _ _ hgd gc (by simpa using (Prod.mk.inj hc).1);subst this;refine wpList_plain hg fun K' hK'=>?_;unfold Oper.wp;simp [execOp,hop,hm,hx,hrun,Result.andThen];exact hK' _ _ hK
theorem MapKit.At.putD [DecidableEq α] {K:MapKit P α β} {w w':World} {b n:Nat} {f:α→Option β} {D:DataW Unit} (h1:w.ownsMap P K.k K.R b n D) (h2:∀a,K.goodK a→D.atKey (K.klK a) (K.dV K.zero)=K.dV ((f a).getD K.zero)) (h3:∀a,K.goodK a→Maps.has D (K.klK a)=(f a).isSome) (h4:∀kl,Maps.has D kl=true→∃a,K.goodK a∧kl=K.klK a) (h5:∀a v,f a=some v→K.goodV v)
  {a:α} (ha:K.goodK a) {v:β} (hv:K.goodV v) (k1:w'.ownsMap P K.k K.R b (n+1) (D.put (K.klK a) (K.dV v))):K.At w' b (n+1) (fun c=>if c=a then some v else f c):=by
 have ht:=h1.tidy K.keyed;have hkl:WideAt.IsKeyLit (K.klK a):=K.keyed.key (K.hkey a ha);refine ⟨_,k1,fun c hc=>?_,fun c hc=>?_,fun kl hk=>?_,fun c u hu=>?_⟩
 ·by_cases e:c=a
  ·subst e;rw [Maps.atKey_put_same ht.isMap hkl];simp only [if_pos,Option.getD_some]
  ·rw [Maps.atKey_put_other (fun h=>e (K.inj c a hc ha h)),h2 c hc];simp only [if_neg e]
 ·by_cases e:c=a
  ·subst e;rw [Maps.has_put_same ht.isMap hkl];simp only [if_pos,Option.isSome_some]
  ·rw [Maps.has_put_other (fun h=>e (K.inj c a hc ha h)),h3 c hc];simp only [if_neg e]
 ·by_cases e:kl=K.klK a
  ·exact ⟨a,ha,e⟩
  ·rw [Maps.has_put_other e] at hk;exact h4 kl hk
 ·by_cases e:c=a
  ·simp only [if_pos e] at hu;cases hu;exact hv
  ·simp only [if_neg e] at hu;exact h5 c u hu
theorem MapKit.At.put [DecidableEq α] {K:MapKit P α β} {w:World} {b n:Nat} {f:α→Option β} (h:K.At w b n f) (hn:n<maxLen) {a:α} (ha:K.goodK a) {v:β} (hv:K.goodV v) :
  ∃w',(Instr.mapUpdate K.t (.map (some b)) (K.encK a) (K.encV v)).run P w=.ok () w'∧K.At w' b (n+1) (fun c=>if c=a then some v else f c)∧Upd (fun j=>j=b) w w':=by
 obtain ⟨D,h1,h2,h3,h4,h5⟩:=h;obtain ⟨w',hrun,k1,k2⟩:=h1.update K.keyed K.ht hn (K.hkey a ha) (K.hval v hv);exact ⟨w',hrun,MapKit.At.putD h1 h2 h3 h4 h5 ha hv k1,upd_of_grown k2 (fun j hj _=>(Option.some.inj hj).symm)⟩
theorem MapKit.At.store [DecidableEq α] {K:MapKit P α β} {w:World} {ops:Array Oper} {rest:List Oper} {o:Oper} {ac:Act} {Q:Exit→Act→World→Prop} {b n:Nat} {f:α→Option β} (h:K.At w b n f) (hn:n<maxLen) (hg:o.guard=none) (m x y:Operand) (hop:o.op=Op.mapUpdate K.t m x y) (hm:ac.eval m=.map (some b)) {a:α} (hx:ac.eval x=K.encK a) (ha:K.goodK a) {v:β} (hy:ac.eval y=K.encV v) (hv:K.goodV v)
  (hK:∀w',K.At w' b (n+1) (fun c=>if c=a then some v else f c)→Upd (fun j=>j=b) w w'→wpList P ops Q rest (ac.put o.dst undef) w'):wpList P ops Q (o :: rest) ac w:=by
 obtain ⟨w',hrun,r1,r2⟩:=h.put hn ha hv;refine wpList_plain hg fun K' hK'=>?_;unfold Oper.wp;simp [execOp,hop,hm,hx,hy,hrun,Result.andThen];exact hK' _ _ (hK w' r1 r2)
def MapKit.Rng (K:MapKit P α β) (w:World) (b r n:Nat) (f:α→Option β) (left:α→Bool) (cnt:Nat):Prop:=
 ∃(D:DataW Unit) (ll:Lit→Bool),w.ranges P K.k K.R b r n D ll cnt∧(∀a,K.goodK a→D.atKey (K.klK a) (K.dV K.zero)=K.dV ((f a).getD K.zero))∧(∀a,K.goodK a→Maps.has D (K.klK a)=(f a).isSome)∧(∀kl,Maps.has D kl=true→∃a,K.goodK a∧kl=K.klK a)∧(∀a v,f a=some v→K.goodV v)∧(∀a,K.goodK a→ll (K.klK a)=left a)∧(∀kl,ll kl=true→Maps.has D kl=true)
theorem MapKit.Rng.at {K:MapKit P α β} {w:World} {b r n:Nat} {f:α→Option β} {left:α→Bool} {cnt:Nat} (h:K.Rng w b r n f left cnt):K.At w b n f:=by
 obtain ⟨D,ll,h1,h2,h3,h4,h5,_⟩:=h;exact ⟨D,h1.owns,h2,h3,h4,h5⟩
theorem MapKit.Rng.left_eq {K:MapKit P α β} {w:World} {b r n:Nat} {f:α→Option β} {left:α→Bool} {cnt:Nat} (h:K.Rng w b r n f left cnt):w.rangeLeft b r=cnt:=by
 obtain ⟨D,ll,h1,_⟩:=h;exact h1.left_eq
theorem MapKit.Rng.kept {K:MapKit P α β} {w w':World} {b r n:Nat} {f:α→Option β} {left:α→Bool} {cnt:Nat} {row:Option Nat} (h:K.Rng w b r n f left cnt) (hg:w.grownBy w' row) (hb:some b≠row) (hr:some r≠row):K.Rng w' b r n f left cnt:=by
 obtain ⟨D,ll,h1,h2⟩:=h;exact ⟨D,ll,h1.kept hg hb hr,h2⟩
theorem MapKit.At.range {K:MapKit P α β} {w:World} {ops:Array Oper} {rest:List Oper} {o:Oper} {ac:Act} {Q:Exit→Act→World→Prop} {b n:Nat} {f:α→Option β} (h:K.At w b n f) (hg:o.guard=none) (m:Operand) (hop:o.op=Op.range K.t m) (hm:ac.eval m=.map (some b))
  (hK:∀w' cnt,K.Rng w' b w.heap.size n f (fun a=>(f a).isSome) cnt→w.grownBy w' none→w'.heap.size=w.heap.size+1→wpList P ops Q rest (ac.put o.dst (.pointer (some ⟨w.heap.size,0,none⟩))) w'):wpList P ops Q (o :: rest) ac w:=by
 obtain ⟨D,h1,h2,h3,h4,h5⟩:=h;exact wpList_range_own w hg m K.t hop K.k K.e K.keyed K.ht K.R b n D hm h1 (fun w' k1 k2 k3=>hK w' _ ⟨D,_,k1,h2,h3,h4,h5,fun a ha=>h3 a ha,fun _ h=>h⟩ k2 k3)
theorem MapKit.Rng.next [DecidableEq α] {K:MapKit P α β} {w:World} {ops:Array Oper} {rest:List Oper} {o:Oper} {ac:Act} {Q:Exit→Act→World→Prop} {b r n:Nat} {f:α→Option β} {left:α→Bool} {cnt:Nat} (h:K.Rng w b r n f left cnt) (hg:o.guard=none) (it:Operand) (hop:o.op=Op.next it false) (hit:ac.eval it=.pointer (some ⟨r,0,none⟩))
  (hDone:cnt=0→(∀a,K.goodK a→left a=false)→wpList P ops Q rest (ac.put o.dst (.tuple #[.bool false])) w)
  (hMore:∀(a:α) (v:β) (w':World) (cnt':Nat),K.goodK a→left a=true→f a=some v→K.Rng w' b r n f (fun c=>left c&&!decide (c=a)) cnt'→cnt'<cnt→w.grownBy w' (some r)→w'.heap.size=w.heap.size →
   (Instr.entry (.pointer (some ⟨r,0,none⟩))).run P w'=.ok (.tuple #[K.encK a,K.encV v]) w'→wpList P ops Q rest (ac.put o.dst (.tuple #[.bool true,K.encK a,K.encV v])) w') :
  wpList P ops Q (o :: rest) ac w:=by
 obtain ⟨D,ll,h1,h2,h3,h4,h5,h6,h7⟩:=h;refine wpList_next_ranges (α:=Value) (β:=Value) w hg it hop K.k K.keyed K.R id id (fun key _ _=>⟨key,rfl⟩) (fun v _ _=>⟨v,rfl⟩) b r n D ll cnt hit h1 (fun c0 hl=>hDone c0 (fun a ha=>by rw [←h6 a ha];exact hl _)) ?_;intro x c kl y w' cnt' hkey hll hR hat hrg hlt hgr hsz hen;simp only [id] at hkey hR hen ⊢;obtain ⟨a,ha,rfl⟩:=h4 kl (h7 kl hll);have hxa:x=K.encK a:=K.keyed.inj hkey (K.hkey a ha);subst hxa;have hsome:=h3 a ha;rw [h7 _ hll] at hsome;obtain ⟨v,hv⟩:=Option.isSome_iff_exists.1 hsome.symm;obtain ⟨v',gv',rfl,hy⟩:=K.hinv c y hR;have h8:=h2 a ha;rw [hat,hv,hy] at h8;have:=K.dinj _ _ gv' (h5 a v hv) (by simpa using h8);subst this;refine hMore a v' w' cnt' ha (by rw [←h6 a ha];exact hll) hv ⟨D,_,hrg,h2,h3,h4,h5,fun d hd=>?_,fun kl hk=>?_⟩ hlt hgr hsz hen
 ·show (ll (K.klK d)&&!(K.klK d).sameKey (K.klK a))=_;rw [h6 d hd];congr 1
  by_cases e:d=a
  ·subst e;rw [WideAt.sameKey_self (K.keyed.key (K.hkey d hd))];simp
  ·have:(K.klK d).sameKey (K.klK a)=false:=Maps.sameKey_ne (fun h=>e (K.inj d a hd ha h));rw [this];simp [e]
 ·simp only [Bool.and_eq_true] at hk;exact h7 kl hk.1
theorem MapKit.Rng.nextH [DecidableEq α] {K:MapKit P α β} {w:World} {ops:Array Oper} {rest:List Oper} {o:Oper} {ac:Act} {Q:Exit→Act→World→Prop} {b r n:Nat} {f:α→Option β} {left:α→Bool} {cnt:Nat} (h:K.Rng w b r n f left cnt) (hg:o.guard=none) (it:Operand) (hop:o.op=Op.next it false) (hit:ac.eval it=.pointer (some ⟨r,0,none⟩))
  (hDone:Hid (cnt=0→(∀a,K.goodK a→left a=false)→wpList P ops Q rest (ac.put o.dst (.tuple #[.bool false])) w))
  (hMore:Hid (∀(a:α) (v:β) (w':World) (cnt':Nat),K.goodK a→left a=true→f a=some v→K.Rng w' b r n f (fun c=>left c&&!decide (c=a)) cnt'→cnt'<cnt→w.grownBy w' (some r)→w'.heap.size=w.heap.size →
   (Instr.entry (.pointer (some ⟨r,0,none⟩))).run P w'=.ok (.tuple #[K.encK a,K.encV v]) w'→wpList P ops Q rest (ac.put o.dst (.tuple #[.bool true,K.encK a,K.encV v])) w')) :
  wpList P ops Q (o :: rest) ac w:=h.next hg it hop hit hDone hMore
end Go.Proofs.YtcikldoaidmnhaaGreatDoor
