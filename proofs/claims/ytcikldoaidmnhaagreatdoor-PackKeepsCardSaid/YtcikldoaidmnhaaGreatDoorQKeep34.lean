/- Parts: The law: the functions do not change their arguments, and return the same again. No condition. -/
import Derived.Test.YtcikldoaidmnhaaGreatDoorQKeep24
import Derived.Test.YtcikldoaidmnhaaGreatDoorQKeep28
import Derived.Test.YtcikldoaidmnhaaGreatDoorQKeep32
import Derived.Test.YtcikldoaidmnhaaGreatDoorQKeep33
namespace Go.Proofs.YtcikldoaidmnhaaGreatDoor
open Go Go.RowKit Pk
set_option maxRecDepth 100000
def gCells (z:GV) (a b c:Value):List Value:=[.int .i64 z.level,a,b,c,.int .i64 z.err,.int .i64 z.total,.bool z.neg,.string (bs z.mag)]
structure GOwn (w:World) (z:GV) (a b c:Value):Prop where
 ins:kPart.Own 0 w a z.ins
 outs:kHash.Own 0 w b z.outs
 moves:kMove.Own 0 w c z.moves
theorem GOwn.upd {w w':World} {z:GV} {a b c:Value} (h:GOwn w z a b c) (hu:Upd noBlk w w'):GOwn w' z a b c:=⟨h.ins.upd hu,h.outs.upd hu,h.moves.upd hu⟩
theorem GOwn.store {w w':World} {z:GV} {a b c:Value} {g:Nat} {cs:Array Value} (h:GOwn w z a b c) (hu:Upd (fun k=>k=g) w w') (hg:w.heap[g]?=some (.cells cs 68 (0,0))):GOwn w' z a b c:=
 ⟨h.ins.other hu (fun i hi e=>by
   obtain ⟨_,cur,hc⟩:=h.ins.blk hi;exact ne_obj hc hg (fun e=>absurd (Obj.cells.inj e).2.1 (by decide)) e),
  h.outs.other hu (fun i hi e=>by
   obtain ⟨_,cur,hc⟩:=h.outs.blk hi;exact ne_obj hc hg (fun e=>absurd (Obj.cells.inj e).2.1 (by decide)) e),
  h.moves.other hu (fun i hi e=>by
   obtain ⟨_,cur,hc⟩:=h.moves.blk hi;exact ne_obj hc hg (fun e=>absurd (Obj.cells.inj e).2.1 (by decide)) e)⟩
theorem GOwn.one {w:World} {z:GV} {a b c:Value} (h:GOwn w z a b c):∀v,v∈gCells z a b c→v.oneCell'=true:=fun v hv=>by
 obtain ⟨A,n,rfl,_⟩:=h.ins.form;obtain ⟨B,m,rfl,_⟩:=h.outs.form;obtain ⟨D,k,rfl,_⟩:=h.moves.form;simp only [gCells,List.mem_cons,List.not_mem_nil,or_false] at hv;rcases hv with rfl | rfl | rfl | rfl | rfl | rfl | rfl | rfl<;>rfl
structure KeepAt (w2 w:World) (T:List Tri) (z:GV) (vt vs:Value) (b4 b5:Nat) (a b c a' b' c':Value):Prop where
 g1:w.heap[b4]?=some (.cells (gCells z a b c).toArray 68 (0,0))
 g2:w.heap[b5]?=some (.cells (gCells z a' b' c').toArray 68 (0,0))
 o1:GOwn w z a b c
 o2:GOwn w z a' b' c'
 t1:kTri.Rd w vt T
 t2:kTri.Rd w vs T
 up:Upd noBlk w2 w
theorem KeepAt.make {w2 z0 X1 X2:World} {T:List Tri} {z:GV} {vt vs:Value} {b4 b5:Nat} {a b c a' b' c':Value} {cs:Array Value} (hv:Upd noBlk w2 z0) (ux1:Upd (fun k=>k=b4) z0 X1) (ux2:Upd (fun k=>k=b5) X1 X2)
  (hx1:X1.heap[b4]?=some (.cells (gCells z a b c).toArray 68 (0,0))) (hx2:X2.heap[b5]?=some (.cells (gCells z a' b' c').toArray 68 (0,0))) (h1:GOwn X1 z a b c) (h3:GOwn X1 z a' b' c')
  (hb5:X1.heap[b5]?=some (.cells cs 68 (0,0))) (hne:b4≠b5) (h4:w2.heap.size≤b4) (h5:w2.heap.size≤b5) (t1:kTri.Rd w2 vt T) (t2:kTri.Rd w2 vs T):KeepAt w2 X2 T z vt vs b4 b5 a b c a' b' c':=by
 have up:Upd noBlk w2 X2:=(hv.then ux1 (fun i hi e=>by have e':i=b4:=e;omega)).then ux2 (fun i hi e=>by have e':i=b5:=e;omega);exact ⟨ux2.heap hx1 (fun e=>hne e),hx2,h1.store ux2 hb5,h3.store ux2 hb5,t1.keep up,t2.keep up,up⟩
theorem KeepAt.upd {w2 w w':World} {T:List Tri} {z:GV} {vt vs:Value} {b4 b5:Nat} {a b c a' b' c':Value} (h:KeepAt w2 w T z vt vs b4 b5 a b c a' b' c') (hu:Upd noBlk w w'):KeepAt w2 w' T z vt vs b4 b5 a b c a' b' c':=
 ⟨hu.heap h.g1 id,hu.heap h.g2 id,h.o1.upd hu,h.o2.upd hu,h.t1.keep hu,h.t2.keep hu,h.up.trans hu⟩
theorem part_made (p:P32):∃v:Nat,(partC p)[32]?=some (.int .u8 (v:Int))∧v<256:=by
 obtain ⟨⟨a,ha⟩,⟨b,hb⟩⟩:=p;cases b with
 | nil=>exact absurd hb (by decide)
 | cons x r=>exact ⟨x.toNat,by unfold partC;rw [List.getElem?_append_right (by rw [byV_len];show a.length≤32;omega),byV_len];show (byV (x :: r))[32-a.length]?=_;rw [ha];rfl,x.toNat_lt⟩
theorem groupP_form {o:Option Grp} {w w':World} {en:Ending} (h:groupP o w en w'):∃lv wi Aw nw cw wm er tot ng mg ec PI MV,en=.returned (.tuple #[.agg #[.int .i64 lv,wi,.slice Aw nw cw,wm,.int .i64 er,.int .i64 tot,.bool ng,.string mg],.int .i64 ec])∧kPart.Own w.heap.size w' wi PI∧kMove.Own w.heap.size w' wm MV∧Upd noBlk w w':=by
 obtain ⟨hu,h⟩:=h;cases o with
 | none=>exact ⟨_,_,_,_,_,_,_,_,_,_,_,[],[],h,Kd.Own.nil _ _ _,Kd.Own.nil _ _ _,hu⟩
 | some g=>
  obtain ⟨vi,vo,vm,rfl,hat⟩:=h;obtain ⟨Aw,cw,rfl,_⟩:=hat.outs.form;exact ⟨_,_,_,_,_,_,_,_,_,_,_,_,_,rfl,hat.ins,hat.moves,hu⟩
theorem own_small {α:Type} {K:Kd Tryz.prog α} {b:Nat} {w:World} {v:Value} {l:List α} (h:K.Own b w v l):l.length≤maxLen:=by
 rcases h.2 with ⟨_,e⟩ | ⟨g,cap,cur,_,_,_,h1,h2,_⟩
 ·rw [e];exact Nat.zero_le _
 ·exact Nat.le_trans h1 h2
set_option maxHeartbeats 8000000 in
theorem lawPackKeeps_c (x:SV) (vh:Value) (y:FV) (vi vo vm:Value) (hx:x.Ok) (hy:y.Ok) (w:World) (h:kInt.Rd w vh x.heights) (hr:y.Rd w vi vo vm):Calls Tryz.prog 13 #[x.V vh,y.V vi vo vm] w fun en w'=>en=.returned (.bool true)∧Upd noBlk w w':=by
 have HS:=fun W=>Lib.hid (sanity_any W);have HTR:Hid (∀W,Upd noBlk w W→Calls Tryz.prog 15 #[x.V vh] W fun en w'=>∃v,en=.returned v∧kTri.Rd w' v x.tris∧x.tris.length≤200∧Upd noBlk W w'):=fun W hW=>tris_any x vh W hx (h.keep hW);have HSM:=Lib.hid x.small;have HG0:Hid (∀W,Upd noBlk w W→Calls Tryz.prog 31 #[y.V vi vo vm] W fun en w'=>∃ui uo um,en=.returned (.agg (gCells y.gv ui uo um).toArray)∧GOwn w' y.gv ui uo um∧Upd noBlk W w'):=fun W hW=>by
  refine (group_any y vi vo vm W hy.ins hy.outs hy.moves hy.mag (hr.ins.keep hW) (hr.outs.keep hW) (hr.moves.keep hW)).mono ?_;rintro e w' ⟨ui,uo,um,rfl,hi,ho,hm,hu⟩;exact ⟨ui,uo,um,rfl,⟨hi.mono (Nat.zero_le _),ho.mono (Nat.zero_le _),hm.mono (Nat.zero_le _)⟩,hu⟩
 obtain ⟨hok,l1,l2,l3,l4⟩:=FV.gv_ok hy;have HOK:=Lib.hid hok;have HL:Hid (y.gv.ins.length≤10∧y.gv.outs.length≤10∧y.gv.moves.length≤10∧y.gv.mag.length≤40):=⟨l1,l2,l3,l4⟩;obtain ⟨T,hT⟩:∃T,T=x.tris:=⟨_,rfl⟩;rw [←hT] at HTR HSM;obtain ⟨z,hz⟩:∃z,z=y.gv:=⟨_,rfl⟩;rw [←hz] at HG0 HOK HL;obtain ⟨Ah,ch,hvh,_⟩:=h;obtain ⟨Ai,ci,hvi,_⟩:=hr.ins;obtain ⟨Ao,co,hvo,_⟩:=hr.outs;obtain ⟨Am,cm,hvm,_⟩:=hr.moves;subst hvh hvi hvo hvm;clear hT hx hy hz hok l1 l2 l3 l4 hr;unfold SV.V FV.V at *;obtain ⟨w0,hw0⟩:∃w0,w0=(w.alloc (.cells #[.bool x.op,.int .u32 x.bits,.int .u32 x.side,.slice Ah x.heights.length ch,.int .u8 x.frm,.int .u8 x.many,.int .i64 x.q0,.int .i64 x.q1,.int .i64 x.q2] 26)).alloc (.cells #[.int .i64 y.level,.int .i64 y.err,.int .i64 y.total,.slice Ai y.ins.length ci,.slice Ao y.outs.length co,.slice Am y.moves.length cm,.bool y.neg,.string (bs y.mag)] 62):=⟨_,rfl⟩;have HU0:Hid (Upd noBlk w w0):=by show Upd _ _ _;rw [hw0];exact ((Upd.refl _ w).alloc _).alloc _
 have HX:Hid (w0.heap[w.heap.size]?=some (.cells #[.bool x.op,.int .u32 x.bits,.int .u32 x.side,.slice Ah x.heights.length ch,.int .u8 x.frm,.int .u8 x.many,.int .i64 x.q0,.int .i64 x.q1,.int .i64 x.q2] 26 (0,0))):=by show _=_;rw [hw0];exact ((Upd.refl noBlk _).alloc _).heap (heap_alloc_new w _) id
 have HY:Hid (w0.heap[w.heap.size+1]?=some (.cells #[.int .i64 y.level,.int .i64 y.err,.int .i64 y.total,.slice Ai y.ins.length ci,.slice Ao y.outs.length co,.slice Am y.moves.length cm,.bool y.neg,.string (bs y.mag)] 62 (0,0))):=by
  show _=_;rw [hw0,←World.size_alloc w (.cells #[.bool x.op,.int .u32 x.bits,.int .u32 x.side,.slice Ah x.heights.length ch,.int .u8 x.frm,.int .u8 x.many,.int .i64 x.q0,.int .i64 x.q1,.int .i64 x.q2] 26)];exact heap_alloc_new _ _
 go_enter Tryz.func13,Tryz.ntmps13
 go_upto_region 1 with fail
 rw [←hw0];clear hw0;generalize w.heap.size=xb at *;obtain ⟨yb,hyb⟩:∃yb,yb=xb+1:=⟨_,rfl⟩;rw [←hyb] at HY ⊢;clear hyb;go_wp2_with fail
 refine (HS _).out.mono ?_;rintro e w1 ⟨rfl,u1⟩;have U1:=Lib.hid (HU0.out.trans u1);have HX1:=Lib.hid (u1.heap HX.out id);have HY1:=Lib.hid (u1.heap HY.out id);clear u1 HS HX HY HU0;go_upto_region 2 with fail
 refine wp_region_tree 4 (OT.sures [0,2] (.run 1 (.run 3 .nil))) (fun w'=>Upd noBlk w1 w') (by kernel_rfl) (by kernel_rfl) (fun c a d v w h=>by cases d<;>exact h) ((Upd.refl noBlk w1).drew) ?_
 simp only [OT.sures]
 iterate 2 (apply wpT_sure rfl rfl;focus (intro w' hw';obtain ⟨a0,a1,a2,a3,a4,a5,a6,a7,a8⟩:=cells9 (hw'.heap HX1.out id);go_simp;rfl))
 refine wpT_run (fun w'=>Upd noBlk w1 w') (fun _ h=>h) rfl (fun K' hK=>?_);go_simp
 refine (HTR.out _ (U1.out.trans (Upd.refl noBlk w1).drew)).mono ?_;rintro e z1 ⟨vt,rfl,ht,hl,u1⟩;have V1:=Lib.hid ((Upd.refl noBlk w1).drew.trans u1);have HT1:=Lib.hid ht;have HTL:Hid (T.length≤200):=hl;have HT2:=Lib.hid (HTR.out _ (U1.out.trans V1.out));refine hK _ _ ⟨V1.out,?_⟩;clear hK K' u1 ht hl HTR;refine wpT_run (fun w'=>Upd noBlk w1 w') (fun _ h=>h) rfl (fun K' hK=>?_);go_simp
 refine HT2.out.mono ?_;rintro e w2 ⟨vs,rfl,ht,_,u2⟩;have V2:=Lib.hid (V1.out.trans u2);have HT1:=Lib.hid (HT1.out.keep u2);refine hK _ _ ⟨V2.out,?_⟩;clear hK K' u2 HT2;have HT2:=Lib.hid ht;have U2:=Lib.hid (U1.out.trans V2.out);have HY2:=Lib.hid (V2.out.heap HY1.out id);have HGP:=fun W (hW:Upd noBlk w2 W)=>Lib.hid (HG0.out W (U2.out.trans hW));clear ht V1 V2 U1 HX1 HY1 HG0;refine wpT_nil ?_;go_upto_region 3 with fail
 go_cut [8,9] (fun p q wc=>∃b4 b5 ui1 uo1 um1 ui3 uo3 um3,p=.pointer (some ⟨b4,0,none⟩)∧q=.pointer (some ⟨b5,0,none⟩)∧KeepAt w2 wc T z vt vs b4 b5 ui1 uo1 um1 ui3 uo3 um3)
 case first=>
  refine wp_region_treeU 6 (OU.sures [0,2] (.fork3 1 (.fork3 3 (.fork 4 (.run 5 .nil) 5 (.run 4 .nil)) 4 (.fork 3 (.run 5 .nil) 5 (.run 3 .nil)) 5 (.fork 3 (.run 4 .nil) 4 (.run 3 .nil))) 4 (.fork 1 (.fork 3 (.run 5 .nil) 5 (.run 3 .nil)) 5 (.run 1 (.run 3 .nil))) 5 (.fork 1 (.fork 3 (.run 4 .nil) 4 (.run 3 .nil)) 4 (.run 1 (.run 3 .nil))))) (fun w'=>Upd noBlk w2 w') (by kernel_rfl) (by kernel_rfl) (fun c a d v w h=>by cases d<;>exact h) ((Upd.refl noBlk w2).drew) ?_
  simp only [OU.sures]
  iterate 2 (apply wpU_sure rfl rfl;focus (intro w' hw';obtain ⟨a0,a1,a2,a3,a4,a5,a6,a7⟩:=cells8 (hw'.heap HY2.out id);go_simp;rfl))
  have V0:=Lib.hid ((Upd.refl noBlk w2).drew);generalize w2.drew=wd at *;refine wpU_fork3 (fun w'=>Upd noBlk w2 w') (fun w'=>Upd noBlk w2 w') (fun w'=>Upd noBlk w2 w') (fun _ h=>h) (fun _ h=>h) (fun _ h=>h) rfl rfl rfl (fun K' hK=>?_) (fun K' hK=>?_) (fun K' hK=>?_)
  ·go_simp
   refine (HGP _ V0.out).out.mono ?_;rintro e z1 ⟨ui1,uo1,um1,rfl,hg,u1⟩;have V1:=Lib.hid (V0.out.trans u1);have HG1:=Lib.hid hg;refine hK _ _ ⟨V1.out,?_⟩;clear hK K' hg u1;refine wpU_fork3 (fun w'=>Upd noBlk w2 w') (fun w'=>Upd noBlk w2 w') (fun w'=>Upd noBlk w2 w') (fun _ h=>h) (fun _ h=>h) (fun _ h=>h) rfl rfl rfl (fun K' hK=>?_) (fun K' hK=>?_) (fun K' hK=>?_)
   ·go_simp
    refine (HGP _ V1.out).out.mono ?_;rintro e z2 ⟨ui3,uo3,um3,rfl,hg,u2⟩;have V2:=Lib.hid (V1.out.trans u2);have HG3:=Lib.hid hg;replace HG1:=Lib.hid (HG1.out.upd u2)
    refine hK _ _ ⟨V2.out,?_⟩;clear hK K' hg u2;refine wpU_fork (fun w'=>Upd noBlk w2 w') (fun w'=>Upd noBlk w2 w') (fun _ h=>h) (fun _ h=>h) rfl rfl (fun K' hK=>?_) (fun K' hK=>?_)
    ·go_simp
     have al:=(Upd.refl noBlk z2).alloc (.cells #[.int .i64 0,.slice none 0 0,.slice none 0 0,.slice none 0 0,.int .i64 0,.int .i64 0,.bool false,.string ⟨#[]⟩] 68);have V3:=Lib.hid (V2.out.trans al);have HB4:=Lib.hid (heap_alloc_new z2 (.cells #[.int .i64 0,.slice none 0 0,.slice none 0 0,.slice none 0 0,.int .i64 0,.int .i64 0,.bool false,.string ⟨#[]⟩] 68));have HS4:Hid (w2.heap.size≤z2.heap.size):=V2.out.size;replace HG1:=Lib.hid (HG1.out.upd al)
     replace HG3:=Lib.hid (HG3.out.upd al)
     refine hK _ _ ⟨V3.out,?_⟩;clear hK K' al;generalize z2.alloc (.cells #[.int .i64 0,.slice none 0 0,.slice none 0 0,.slice none 0 0,.int .i64 0,.int .i64 0,.bool false,.string ⟨#[]⟩] 68)=z3 at *;generalize z2.heap.size=b4 at *;refine wpU_run (fun w'=>Upd noBlk w2 w') (fun _ h=>h) rfl (fun K' hK=>?_);go_simp
     have al:=(Upd.refl noBlk z3).alloc (.cells #[.int .i64 0,.slice none 0 0,.slice none 0 0,.slice none 0 0,.int .i64 0,.int .i64 0,.bool false,.string ⟨#[]⟩] 68);have V4:=Lib.hid (V3.out.trans al);have HB5:=Lib.hid (heap_alloc_new z3 (.cells #[.int .i64 0,.slice none 0 0,.slice none 0 0,.slice none 0 0,.int .i64 0,.int .i64 0,.bool false,.string ⟨#[]⟩] 68));have HS5:Hid (w2.heap.size≤z3.heap.size):=V3.out.size;have hlt:=lt_of_heap HB4.out;have HNE:Hid (b4≠z3.heap.size):=by show _≠_;omega
     replace HB4:=Lib.hid (al.heap HB4.out id)
     clear hlt;replace HG1:=Lib.hid (HG1.out.upd al)
     replace HG3:=Lib.hid (HG3.out.upd al)
     refine hK _ _ ⟨V4.out,?_⟩;clear hK K' al;generalize z3.alloc (.cells #[.int .i64 0,.slice none 0 0,.slice none 0 0,.slice none 0 0,.int .i64 0,.int .i64 0,.bool false,.string ⟨#[]⟩] 68)=z4 at *;generalize z3.heap.size=b5 at *;refine wpU_nil ?_;obtain ⟨X1,st1,hx1,ux1⟩:=store_row (P:=Tryz.prog) HB4.out (vs:=gCells z ui1 uo1 um1) rfl HG1.out.one;have hb5:=ux1.heap HB5.out (fun e=>HNE.out e.symm);have hg1:=HG1.out.store ux1 HB4.out;have hg3:=HG3.out.store ux1 HB4.out;obtain ⟨X2,st2,hx2,ux2⟩:=store_row (P:=Tryz.prog) hb5 (vs:=gCells z ui3 uo3 um3) rfl HG3.out.one;have HFIN:Hid (KeepAt w2 X2 T z vt vs b4 b5 ui1 uo1 um1 ui3 uo3 um3):=KeepAt.make V4.out ux1 ux2 hx1 hx2 hg1 hg3 hb5 HNE.out HS4.out HS5.out HT1.out HT2.out;clear hx1 ux1 hb5 hg1 hg3 hx2 ux2 HB4 HB5 HG1 HG3 HS4 HS5;go_wp2_with fail
     go_meet
     exact ⟨b4,b5,ui1,uo1,um1,ui3,uo3,um3,rfl,rfl,HFIN.out⟩
    ·go_simp
     have al:=(Upd.refl noBlk z2).alloc (.cells #[.int .i64 0,.slice none 0 0,.slice none 0 0,.slice none 0 0,.int .i64 0,.int .i64 0,.bool false,.string ⟨#[]⟩] 68);have V5:=Lib.hid (V2.out.trans al);have HB5:=Lib.hid (heap_alloc_new z2 (.cells #[.int .i64 0,.slice none 0 0,.slice none 0 0,.slice none 0 0,.int .i64 0,.int .i64 0,.bool false,.string ⟨#[]⟩] 68));have HS5:Hid (w2.heap.size≤z2.heap.size):=V2.out.size;replace HG1:=Lib.hid (HG1.out.upd al)
     replace HG3:=Lib.hid (HG3.out.upd al)
     refine hK _ _ ⟨V5.out,?_⟩;clear hK K' al;generalize z2.alloc (.cells #[.int .i64 0,.slice none 0 0,.slice none 0 0,.slice none 0 0,.int .i64 0,.int .i64 0,.bool false,.string ⟨#[]⟩] 68)=z5 at *;generalize z2.heap.size=b5 at *;refine wpU_run (fun w'=>Upd noBlk w2 w') (fun _ h=>h) rfl (fun K' hK=>?_);go_simp
     have al:=(Upd.refl noBlk z5).alloc (.cells #[.int .i64 0,.slice none 0 0,.slice none 0 0,.slice none 0 0,.int .i64 0,.int .i64 0,.bool false,.string ⟨#[]⟩] 68);have V6:=Lib.hid (V5.out.trans al);have HB4:=Lib.hid (heap_alloc_new z5 (.cells #[.int .i64 0,.slice none 0 0,.slice none 0 0,.slice none 0 0,.int .i64 0,.int .i64 0,.bool false,.string ⟨#[]⟩] 68));have HS4:Hid (w2.heap.size≤z5.heap.size):=V5.out.size;have hlt:=lt_of_heap HB5.out;have HNE:Hid (z5.heap.size≠b5):=by show _≠_;omega
     replace HB5:=Lib.hid (al.heap HB5.out id)
     clear hlt;replace HG1:=Lib.hid (HG1.out.upd al)
     replace HG3:=Lib.hid (HG3.out.upd al)
     refine hK _ _ ⟨V6.out,?_⟩;clear hK K' al;generalize z5.alloc (.cells #[.int .i64 0,.slice none 0 0,.slice none 0 0,.slice none 0 0,.int .i64 0,.int .i64 0,.bool false,.string ⟨#[]⟩] 68)=z6 at *;generalize z5.heap.size=b4 at *;refine wpU_nil ?_;obtain ⟨X1,st1,hx1,ux1⟩:=store_row (P:=Tryz.prog) HB4.out (vs:=gCells z ui1 uo1 um1) rfl HG1.out.one;have hb5:=ux1.heap HB5.out (fun e=>HNE.out e.symm);have hg1:=HG1.out.store ux1 HB4.out;have hg3:=HG3.out.store ux1 HB4.out;obtain ⟨X2,st2,hx2,ux2⟩:=store_row (P:=Tryz.prog) hb5 (vs:=gCells z ui3 uo3 um3) rfl HG3.out.one;have HFIN:Hid (KeepAt w2 X2 T z vt vs b4 b5 ui1 uo1 um1 ui3 uo3 um3):=KeepAt.make V6.out ux1 ux2 hx1 hx2 hg1 hg3 hb5 HNE.out HS4.out HS5.out HT1.out HT2.out;clear hx1 ux1 hb5 hg1 hg3 hx2 ux2 HB4 HB5 HG1 HG3 HS4 HS5;go_wp2_with fail
     go_meet
     exact ⟨b4,b5,ui1,uo1,um1,ui3,uo3,um3,rfl,rfl,HFIN.out⟩
   ·go_simp
    have al:=(Upd.refl noBlk z1).alloc (.cells #[.int .i64 0,.slice none 0 0,.slice none 0 0,.slice none 0 0,.int .i64 0,.int .i64 0,.bool false,.string ⟨#[]⟩] 68);have V7:=Lib.hid (V1.out.trans al);have HB4:=Lib.hid (heap_alloc_new z1 (.cells #[.int .i64 0,.slice none 0 0,.slice none 0 0,.slice none 0 0,.int .i64 0,.int .i64 0,.bool false,.string ⟨#[]⟩] 68));have HS4:Hid (w2.heap.size≤z1.heap.size):=V1.out.size;replace HG1:=Lib.hid (HG1.out.upd al)
    refine hK _ _ ⟨V7.out,?_⟩;clear hK K' al;generalize z1.alloc (.cells #[.int .i64 0,.slice none 0 0,.slice none 0 0,.slice none 0 0,.int .i64 0,.int .i64 0,.bool false,.string ⟨#[]⟩] 68)=z7 at *;generalize z1.heap.size=b4 at *;refine wpU_fork (fun w'=>Upd noBlk w2 w') (fun w'=>Upd noBlk w2 w') (fun _ h=>h) (fun _ h=>h) rfl rfl (fun K' hK=>?_) (fun K' hK=>?_)
    ·go_simp
     refine (HGP _ V7.out).out.mono ?_;rintro e z8 ⟨ui3,uo3,um3,rfl,hg,u8⟩;have V8:=Lib.hid (V7.out.trans u8);have HG3:=Lib.hid hg;replace HG1:=Lib.hid (HG1.out.upd u8)
     replace HB4:=Lib.hid (u8.heap HB4.out id)
     refine hK _ _ ⟨V8.out,?_⟩;clear hK K' hg u8;refine wpU_run (fun w'=>Upd noBlk w2 w') (fun _ h=>h) rfl (fun K' hK=>?_);go_simp
     have al:=(Upd.refl noBlk z8).alloc (.cells #[.int .i64 0,.slice none 0 0,.slice none 0 0,.slice none 0 0,.int .i64 0,.int .i64 0,.bool false,.string ⟨#[]⟩] 68);have V9:=Lib.hid (V8.out.trans al);have HB5:=Lib.hid (heap_alloc_new z8 (.cells #[.int .i64 0,.slice none 0 0,.slice none 0 0,.slice none 0 0,.int .i64 0,.int .i64 0,.bool false,.string ⟨#[]⟩] 68));have HS5:Hid (w2.heap.size≤z8.heap.size):=V8.out.size;have hlt:=lt_of_heap HB4.out;have HNE:Hid (b4≠z8.heap.size):=by show _≠_;omega
     replace HB4:=Lib.hid (al.heap HB4.out id)
     clear hlt;replace HG1:=Lib.hid (HG1.out.upd al)
     replace HG3:=Lib.hid (HG3.out.upd al)
     refine hK _ _ ⟨V9.out,?_⟩;clear hK K' al;generalize z8.alloc (.cells #[.int .i64 0,.slice none 0 0,.slice none 0 0,.slice none 0 0,.int .i64 0,.int .i64 0,.bool false,.string ⟨#[]⟩] 68)=z9 at *;generalize z8.heap.size=b5 at *;refine wpU_nil ?_;obtain ⟨X1,st1,hx1,ux1⟩:=store_row (P:=Tryz.prog) HB4.out (vs:=gCells z ui1 uo1 um1) rfl HG1.out.one;have hb5:=ux1.heap HB5.out (fun e=>HNE.out e.symm);have hg1:=HG1.out.store ux1 HB4.out;have hg3:=HG3.out.store ux1 HB4.out;obtain ⟨X2,st2,hx2,ux2⟩:=store_row (P:=Tryz.prog) hb5 (vs:=gCells z ui3 uo3 um3) rfl HG3.out.one;have HFIN:Hid (KeepAt w2 X2 T z vt vs b4 b5 ui1 uo1 um1 ui3 uo3 um3):=KeepAt.make V9.out ux1 ux2 hx1 hx2 hg1 hg3 hb5 HNE.out HS4.out HS5.out HT1.out HT2.out;clear hx1 ux1 hb5 hg1 hg3 hx2 ux2 HB4 HB5 HG1 HG3 HS4 HS5;go_wp2_with fail
     go_meet
     exact ⟨b4,b5,ui1,uo1,um1,ui3,uo3,um3,rfl,rfl,HFIN.out⟩
    ·go_simp
     have al:=(Upd.refl noBlk z7).alloc (.cells #[.int .i64 0,.slice none 0 0,.slice none 0 0,.slice none 0 0,.int .i64 0,.int .i64 0,.bool false,.string ⟨#[]⟩] 68);have V10:=Lib.hid (V7.out.trans al);have HB5:=Lib.hid (heap_alloc_new z7 (.cells #[.int .i64 0,.slice none 0 0,.slice none 0 0,.slice none 0 0,.int .i64 0,.int .i64 0,.bool false,.string ⟨#[]⟩] 68));have HS5:Hid (w2.heap.size≤z7.heap.size):=V7.out.size;have hlt:=lt_of_heap HB4.out;have HNE:Hid (b4≠z7.heap.size):=by show _≠_;omega
     replace HB4:=Lib.hid (al.heap HB4.out id)
     clear hlt;replace HG1:=Lib.hid (HG1.out.upd al)
     refine hK _ _ ⟨V10.out,?_⟩;clear hK K' al;generalize z7.alloc (.cells #[.int .i64 0,.slice none 0 0,.slice none 0 0,.slice none 0 0,.int .i64 0,.int .i64 0,.bool false,.string ⟨#[]⟩] 68)=z10 at *;generalize z7.heap.size=b5 at *;refine wpU_run (fun w'=>Upd noBlk w2 w') (fun _ h=>h) rfl (fun K' hK=>?_);go_simp
     refine (HGP _ V10.out).out.mono ?_;rintro e z11 ⟨ui3,uo3,um3,rfl,hg,u11⟩;have V11:=Lib.hid (V10.out.trans u11);have HG3:=Lib.hid hg;replace HG1:=Lib.hid (HG1.out.upd u11)
     replace HB4:=Lib.hid (u11.heap HB4.out id)
     replace HB5:=Lib.hid (u11.heap HB5.out id)
     refine hK _ _ ⟨V11.out,?_⟩;clear hK K' hg u11;refine wpU_nil ?_;obtain ⟨X1,st1,hx1,ux1⟩:=store_row (P:=Tryz.prog) HB4.out (vs:=gCells z ui1 uo1 um1) rfl HG1.out.one;have hb5:=ux1.heap HB5.out (fun e=>HNE.out e.symm);have hg1:=HG1.out.store ux1 HB4.out;have hg3:=HG3.out.store ux1 HB4.out;obtain ⟨X2,st2,hx2,ux2⟩:=store_row (P:=Tryz.prog) hb5 (vs:=gCells z ui3 uo3 um3) rfl HG3.out.one;have HFIN:Hid (KeepAt w2 X2 T z vt vs b4 b5 ui1 uo1 um1 ui3 uo3 um3):=KeepAt.make V11.out ux1 ux2 hx1 hx2 hg1 hg3 hb5 HNE.out HS4.out HS5.out HT1.out HT2.out;clear hx1 ux1 hb5 hg1 hg3 hx2 ux2 HB4 HB5 HG1 HG3 HS4 HS5;go_wp2_with fail
     go_meet
     exact ⟨b4,b5,ui1,uo1,um1,ui3,uo3,um3,rfl,rfl,HFIN.out⟩
   ·go_simp
    have al:=(Upd.refl noBlk z1).alloc (.cells #[.int .i64 0,.slice none 0 0,.slice none 0 0,.slice none 0 0,.int .i64 0,.int .i64 0,.bool false,.string ⟨#[]⟩] 68);have V12:=Lib.hid (V1.out.trans al);have HB5:=Lib.hid (heap_alloc_new z1 (.cells #[.int .i64 0,.slice none 0 0,.slice none 0 0,.slice none 0 0,.int .i64 0,.int .i64 0,.bool false,.string ⟨#[]⟩] 68));have HS5:Hid (w2.heap.size≤z1.heap.size):=V1.out.size;replace HG1:=Lib.hid (HG1.out.upd al)
    refine hK _ _ ⟨V12.out,?_⟩;clear hK K' al;generalize z1.alloc (.cells #[.int .i64 0,.slice none 0 0,.slice none 0 0,.slice none 0 0,.int .i64 0,.int .i64 0,.bool false,.string ⟨#[]⟩] 68)=z12 at *;generalize z1.heap.size=b5 at *;refine wpU_fork (fun w'=>Upd noBlk w2 w') (fun w'=>Upd noBlk w2 w') (fun _ h=>h) (fun _ h=>h) rfl rfl (fun K' hK=>?_) (fun K' hK=>?_)
    ·go_simp
     refine (HGP _ V12.out).out.mono ?_;rintro e z13 ⟨ui3,uo3,um3,rfl,hg,u13⟩;have V13:=Lib.hid (V12.out.trans u13);have HG3:=Lib.hid hg;replace HG1:=Lib.hid (HG1.out.upd u13)
     replace HB5:=Lib.hid (u13.heap HB5.out id)
     refine hK _ _ ⟨V13.out,?_⟩;clear hK K' hg u13;refine wpU_run (fun w'=>Upd noBlk w2 w') (fun _ h=>h) rfl (fun K' hK=>?_);go_simp
     have al:=(Upd.refl noBlk z13).alloc (.cells #[.int .i64 0,.slice none 0 0,.slice none 0 0,.slice none 0 0,.int .i64 0,.int .i64 0,.bool false,.string ⟨#[]⟩] 68);have V14:=Lib.hid (V13.out.trans al);have HB4:=Lib.hid (heap_alloc_new z13 (.cells #[.int .i64 0,.slice none 0 0,.slice none 0 0,.slice none 0 0,.int .i64 0,.int .i64 0,.bool false,.string ⟨#[]⟩] 68));have HS4:Hid (w2.heap.size≤z13.heap.size):=V13.out.size;have hlt:=lt_of_heap HB5.out;have HNE:Hid (z13.heap.size≠b5):=by show _≠_;omega
     replace HB5:=Lib.hid (al.heap HB5.out id)
     clear hlt;replace HG1:=Lib.hid (HG1.out.upd al)
     replace HG3:=Lib.hid (HG3.out.upd al)
     refine hK _ _ ⟨V14.out,?_⟩;clear hK K' al;generalize z13.alloc (.cells #[.int .i64 0,.slice none 0 0,.slice none 0 0,.slice none 0 0,.int .i64 0,.int .i64 0,.bool false,.string ⟨#[]⟩] 68)=z14 at *;generalize z13.heap.size=b4 at *;refine wpU_nil ?_;obtain ⟨X1,st1,hx1,ux1⟩:=store_row (P:=Tryz.prog) HB4.out (vs:=gCells z ui1 uo1 um1) rfl HG1.out.one;have hb5:=ux1.heap HB5.out (fun e=>HNE.out e.symm);have hg1:=HG1.out.store ux1 HB4.out;have hg3:=HG3.out.store ux1 HB4.out;obtain ⟨X2,st2,hx2,ux2⟩:=store_row (P:=Tryz.prog) hb5 (vs:=gCells z ui3 uo3 um3) rfl HG3.out.one;have HFIN:Hid (KeepAt w2 X2 T z vt vs b4 b5 ui1 uo1 um1 ui3 uo3 um3):=KeepAt.make V14.out ux1 ux2 hx1 hx2 hg1 hg3 hb5 HNE.out HS4.out HS5.out HT1.out HT2.out;clear hx1 ux1 hb5 hg1 hg3 hx2 ux2 HB4 HB5 HG1 HG3 HS4 HS5;go_wp2_with fail
     go_meet
     exact ⟨b4,b5,ui1,uo1,um1,ui3,uo3,um3,rfl,rfl,HFIN.out⟩
    ·go_simp
     have al:=(Upd.refl noBlk z12).alloc (.cells #[.int .i64 0,.slice none 0 0,.slice none 0 0,.slice none 0 0,.int .i64 0,.int .i64 0,.bool false,.string ⟨#[]⟩] 68);have V15:=Lib.hid (V12.out.trans al);have HB4:=Lib.hid (heap_alloc_new z12 (.cells #[.int .i64 0,.slice none 0 0,.slice none 0 0,.slice none 0 0,.int .i64 0,.int .i64 0,.bool false,.string ⟨#[]⟩] 68));have HS4:Hid (w2.heap.size≤z12.heap.size):=V12.out.size;have hlt:=lt_of_heap HB5.out;have HNE:Hid (z12.heap.size≠b5):=by show _≠_;omega
     replace HB5:=Lib.hid (al.heap HB5.out id)
     clear hlt;replace HG1:=Lib.hid (HG1.out.upd al)
     refine hK _ _ ⟨V15.out,?_⟩;clear hK K' al;generalize z12.alloc (.cells #[.int .i64 0,.slice none 0 0,.slice none 0 0,.slice none 0 0,.int .i64 0,.int .i64 0,.bool false,.string ⟨#[]⟩] 68)=z15 at *;generalize z12.heap.size=b4 at *;refine wpU_run (fun w'=>Upd noBlk w2 w') (fun _ h=>h) rfl (fun K' hK=>?_);go_simp
     refine (HGP _ V15.out).out.mono ?_;rintro e z16 ⟨ui3,uo3,um3,rfl,hg,u16⟩;have V16:=Lib.hid (V15.out.trans u16);have HG3:=Lib.hid hg;replace HG1:=Lib.hid (HG1.out.upd u16)
     replace HB4:=Lib.hid (u16.heap HB4.out id)
     replace HB5:=Lib.hid (u16.heap HB5.out id)
     refine hK _ _ ⟨V16.out,?_⟩;clear hK K' hg u16;refine wpU_nil ?_;obtain ⟨X1,st1,hx1,ux1⟩:=store_row (P:=Tryz.prog) HB4.out (vs:=gCells z ui1 uo1 um1) rfl HG1.out.one;have hb5:=ux1.heap HB5.out (fun e=>HNE.out e.symm);have hg1:=HG1.out.store ux1 HB4.out;have hg3:=HG3.out.store ux1 HB4.out;obtain ⟨X2,st2,hx2,ux2⟩:=store_row (P:=Tryz.prog) hb5 (vs:=gCells z ui3 uo3 um3) rfl HG3.out.one;have HFIN:Hid (KeepAt w2 X2 T z vt vs b4 b5 ui1 uo1 um1 ui3 uo3 um3):=KeepAt.make V16.out ux1 ux2 hx1 hx2 hg1 hg3 hb5 HNE.out HS4.out HS5.out HT1.out HT2.out;clear hx1 ux1 hb5 hg1 hg3 hx2 ux2 HB4 HB5 HG1 HG3 HS4 HS5;go_wp2_with fail
     go_meet
     exact ⟨b4,b5,ui1,uo1,um1,ui3,uo3,um3,rfl,rfl,HFIN.out⟩
  ·go_simp
   have al:=(Upd.refl noBlk wd).alloc (.cells #[.int .i64 0,.slice none 0 0,.slice none 0 0,.slice none 0 0,.int .i64 0,.int .i64 0,.bool false,.string ⟨#[]⟩] 68);have V17:=Lib.hid (V0.out.trans al);have HB4:=Lib.hid (heap_alloc_new wd (.cells #[.int .i64 0,.slice none 0 0,.slice none 0 0,.slice none 0 0,.int .i64 0,.int .i64 0,.bool false,.string ⟨#[]⟩] 68));have HS4:Hid (w2.heap.size≤wd.heap.size):=V0.out.size;refine hK _ _ ⟨V17.out,?_⟩;clear hK K' al;generalize wd.alloc (.cells #[.int .i64 0,.slice none 0 0,.slice none 0 0,.slice none 0 0,.int .i64 0,.int .i64 0,.bool false,.string ⟨#[]⟩] 68)=z17 at *;generalize wd.heap.size=b4 at *;refine wpU_fork (fun w'=>Upd noBlk w2 w') (fun w'=>Upd noBlk w2 w') (fun _ h=>h) (fun _ h=>h) rfl rfl (fun K' hK=>?_) (fun K' hK=>?_)
   ·go_simp
    refine (HGP _ V17.out).out.mono ?_;rintro e z18 ⟨ui1,uo1,um1,rfl,hg,u18⟩;have V18:=Lib.hid (V17.out.trans u18);have HG1:=Lib.hid hg;replace HB4:=Lib.hid (u18.heap HB4.out id)
    refine hK _ _ ⟨V18.out,?_⟩;clear hK K' hg u18;refine wpU_fork (fun w'=>Upd noBlk w2 w') (fun w'=>Upd noBlk w2 w') (fun _ h=>h) (fun _ h=>h) rfl rfl (fun K' hK=>?_) (fun K' hK=>?_)
    ·go_simp
     refine (HGP _ V18.out).out.mono ?_;rintro e z19 ⟨ui3,uo3,um3,rfl,hg,u19⟩;have V19:=Lib.hid (V18.out.trans u19);have HG3:=Lib.hid hg;replace HG1:=Lib.hid (HG1.out.upd u19)
     replace HB4:=Lib.hid (u19.heap HB4.out id)
     refine hK _ _ ⟨V19.out,?_⟩;clear hK K' hg u19;refine wpU_run (fun w'=>Upd noBlk w2 w') (fun _ h=>h) rfl (fun K' hK=>?_);go_simp
     have al:=(Upd.refl noBlk z19).alloc (.cells #[.int .i64 0,.slice none 0 0,.slice none 0 0,.slice none 0 0,.int .i64 0,.int .i64 0,.bool false,.string ⟨#[]⟩] 68);have V20:=Lib.hid (V19.out.trans al);have HB5:=Lib.hid (heap_alloc_new z19 (.cells #[.int .i64 0,.slice none 0 0,.slice none 0 0,.slice none 0 0,.int .i64 0,.int .i64 0,.bool false,.string ⟨#[]⟩] 68));have HS5:Hid (w2.heap.size≤z19.heap.size):=V19.out.size;have hlt:=lt_of_heap HB4.out;have HNE:Hid (b4≠z19.heap.size):=by show _≠_;omega
     replace HB4:=Lib.hid (al.heap HB4.out id)
     clear hlt;replace HG1:=Lib.hid (HG1.out.upd al)
     replace HG3:=Lib.hid (HG3.out.upd al)
     refine hK _ _ ⟨V20.out,?_⟩;clear hK K' al;generalize z19.alloc (.cells #[.int .i64 0,.slice none 0 0,.slice none 0 0,.slice none 0 0,.int .i64 0,.int .i64 0,.bool false,.string ⟨#[]⟩] 68)=z20 at *;generalize z19.heap.size=b5 at *;refine wpU_nil ?_;obtain ⟨X1,st1,hx1,ux1⟩:=store_row (P:=Tryz.prog) HB4.out (vs:=gCells z ui1 uo1 um1) rfl HG1.out.one;have hb5:=ux1.heap HB5.out (fun e=>HNE.out e.symm);have hg1:=HG1.out.store ux1 HB4.out;have hg3:=HG3.out.store ux1 HB4.out;obtain ⟨X2,st2,hx2,ux2⟩:=store_row (P:=Tryz.prog) hb5 (vs:=gCells z ui3 uo3 um3) rfl HG3.out.one;have HFIN:Hid (KeepAt w2 X2 T z vt vs b4 b5 ui1 uo1 um1 ui3 uo3 um3):=KeepAt.make V20.out ux1 ux2 hx1 hx2 hg1 hg3 hb5 HNE.out HS4.out HS5.out HT1.out HT2.out;clear hx1 ux1 hb5 hg1 hg3 hx2 ux2 HB4 HB5 HG1 HG3 HS4 HS5;go_wp2_with fail
     go_meet
     exact ⟨b4,b5,ui1,uo1,um1,ui3,uo3,um3,rfl,rfl,HFIN.out⟩
    ·go_simp
     have al:=(Upd.refl noBlk z18).alloc (.cells #[.int .i64 0,.slice none 0 0,.slice none 0 0,.slice none 0 0,.int .i64 0,.int .i64 0,.bool false,.string ⟨#[]⟩] 68);have V21:=Lib.hid (V18.out.trans al);have HB5:=Lib.hid (heap_alloc_new z18 (.cells #[.int .i64 0,.slice none 0 0,.slice none 0 0,.slice none 0 0,.int .i64 0,.int .i64 0,.bool false,.string ⟨#[]⟩] 68));have HS5:Hid (w2.heap.size≤z18.heap.size):=V18.out.size;have hlt:=lt_of_heap HB4.out;have HNE:Hid (b4≠z18.heap.size):=by show _≠_;omega
     replace HB4:=Lib.hid (al.heap HB4.out id)
     clear hlt;replace HG1:=Lib.hid (HG1.out.upd al)
     refine hK _ _ ⟨V21.out,?_⟩;clear hK K' al;generalize z18.alloc (.cells #[.int .i64 0,.slice none 0 0,.slice none 0 0,.slice none 0 0,.int .i64 0,.int .i64 0,.bool false,.string ⟨#[]⟩] 68)=z21 at *;generalize z18.heap.size=b5 at *;refine wpU_run (fun w'=>Upd noBlk w2 w') (fun _ h=>h) rfl (fun K' hK=>?_);go_simp
     refine (HGP _ V21.out).out.mono ?_;rintro e z22 ⟨ui3,uo3,um3,rfl,hg,u22⟩;have V22:=Lib.hid (V21.out.trans u22);have HG3:=Lib.hid hg;replace HG1:=Lib.hid (HG1.out.upd u22)
     replace HB4:=Lib.hid (u22.heap HB4.out id)
     replace HB5:=Lib.hid (u22.heap HB5.out id)
     refine hK _ _ ⟨V22.out,?_⟩;clear hK K' hg u22;refine wpU_nil ?_;obtain ⟨X1,st1,hx1,ux1⟩:=store_row (P:=Tryz.prog) HB4.out (vs:=gCells z ui1 uo1 um1) rfl HG1.out.one;have hb5:=ux1.heap HB5.out (fun e=>HNE.out e.symm);have hg1:=HG1.out.store ux1 HB4.out;have hg3:=HG3.out.store ux1 HB4.out;obtain ⟨X2,st2,hx2,ux2⟩:=store_row (P:=Tryz.prog) hb5 (vs:=gCells z ui3 uo3 um3) rfl HG3.out.one;have HFIN:Hid (KeepAt w2 X2 T z vt vs b4 b5 ui1 uo1 um1 ui3 uo3 um3):=KeepAt.make V22.out ux1 ux2 hx1 hx2 hg1 hg3 hb5 HNE.out HS4.out HS5.out HT1.out HT2.out;clear hx1 ux1 hb5 hg1 hg3 hx2 ux2 HB4 HB5 HG1 HG3 HS4 HS5;go_wp2_with fail
     go_meet
     exact ⟨b4,b5,ui1,uo1,um1,ui3,uo3,um3,rfl,rfl,HFIN.out⟩
   ·go_simp
    have al:=(Upd.refl noBlk z17).alloc (.cells #[.int .i64 0,.slice none 0 0,.slice none 0 0,.slice none 0 0,.int .i64 0,.int .i64 0,.bool false,.string ⟨#[]⟩] 68);have V23:=Lib.hid (V17.out.trans al);have HB5:=Lib.hid (heap_alloc_new z17 (.cells #[.int .i64 0,.slice none 0 0,.slice none 0 0,.slice none 0 0,.int .i64 0,.int .i64 0,.bool false,.string ⟨#[]⟩] 68));have HS5:Hid (w2.heap.size≤z17.heap.size):=V17.out.size;have hlt:=lt_of_heap HB4.out;have HNE:Hid (b4≠z17.heap.size):=by show _≠_;omega
    replace HB4:=Lib.hid (al.heap HB4.out id)
    clear hlt;refine hK _ _ ⟨V23.out,?_⟩;clear hK K' al;generalize z17.alloc (.cells #[.int .i64 0,.slice none 0 0,.slice none 0 0,.slice none 0 0,.int .i64 0,.int .i64 0,.bool false,.string ⟨#[]⟩] 68)=z23 at *;generalize z17.heap.size=b5 at *;refine wpU_run (fun w'=>Upd noBlk w2 w') (fun _ h=>h) rfl (fun K' hK=>?_);go_simp
    refine (HGP _ V23.out).out.mono ?_;rintro e z24 ⟨ui1,uo1,um1,rfl,hg,u24⟩;have V24:=Lib.hid (V23.out.trans u24);have HG1:=Lib.hid hg;replace HB4:=Lib.hid (u24.heap HB4.out id)
    replace HB5:=Lib.hid (u24.heap HB5.out id)
    refine hK _ _ ⟨V24.out,?_⟩;clear hK K' hg u24;refine wpU_run (fun w'=>Upd noBlk w2 w') (fun _ h=>h) rfl (fun K' hK=>?_);go_simp
    refine (HGP _ V24.out).out.mono ?_;rintro e z25 ⟨ui3,uo3,um3,rfl,hg,u25⟩;have V25:=Lib.hid (V24.out.trans u25);have HG3:=Lib.hid hg;replace HG1:=Lib.hid (HG1.out.upd u25)
    replace HB4:=Lib.hid (u25.heap HB4.out id)
    replace HB5:=Lib.hid (u25.heap HB5.out id)
    refine hK _ _ ⟨V25.out,?_⟩;clear hK K' hg u25;refine wpU_nil ?_;obtain ⟨X1,st1,hx1,ux1⟩:=store_row (P:=Tryz.prog) HB4.out (vs:=gCells z ui1 uo1 um1) rfl HG1.out.one;have hb5:=ux1.heap HB5.out (fun e=>HNE.out e.symm);have hg1:=HG1.out.store ux1 HB4.out;have hg3:=HG3.out.store ux1 HB4.out;obtain ⟨X2,st2,hx2,ux2⟩:=store_row (P:=Tryz.prog) hb5 (vs:=gCells z ui3 uo3 um3) rfl HG3.out.one;have HFIN:Hid (KeepAt w2 X2 T z vt vs b4 b5 ui1 uo1 um1 ui3 uo3 um3):=KeepAt.make V25.out ux1 ux2 hx1 hx2 hg1 hg3 hb5 HNE.out HS4.out HS5.out HT1.out HT2.out;clear hx1 ux1 hb5 hg1 hg3 hx2 ux2 HB4 HB5 HG1 HG3 HS4 HS5;go_wp2_with fail
    go_meet
    exact ⟨b4,b5,ui1,uo1,um1,ui3,uo3,um3,rfl,rfl,HFIN.out⟩
  ·go_simp
   have al:=(Upd.refl noBlk wd).alloc (.cells #[.int .i64 0,.slice none 0 0,.slice none 0 0,.slice none 0 0,.int .i64 0,.int .i64 0,.bool false,.string ⟨#[]⟩] 68);have V26:=Lib.hid (V0.out.trans al);have HB5:=Lib.hid (heap_alloc_new wd (.cells #[.int .i64 0,.slice none 0 0,.slice none 0 0,.slice none 0 0,.int .i64 0,.int .i64 0,.bool false,.string ⟨#[]⟩] 68));have HS5:Hid (w2.heap.size≤wd.heap.size):=V0.out.size;refine hK _ _ ⟨V26.out,?_⟩;clear hK K' al;generalize wd.alloc (.cells #[.int .i64 0,.slice none 0 0,.slice none 0 0,.slice none 0 0,.int .i64 0,.int .i64 0,.bool false,.string ⟨#[]⟩] 68)=z26 at *;generalize wd.heap.size=b5 at *;refine wpU_fork (fun w'=>Upd noBlk w2 w') (fun w'=>Upd noBlk w2 w') (fun _ h=>h) (fun _ h=>h) rfl rfl (fun K' hK=>?_) (fun K' hK=>?_)
   ·go_simp
    refine (HGP _ V26.out).out.mono ?_;rintro e z27 ⟨ui1,uo1,um1,rfl,hg,u27⟩;have V27:=Lib.hid (V26.out.trans u27);have HG1:=Lib.hid hg;replace HB5:=Lib.hid (u27.heap HB5.out id)
    refine hK _ _ ⟨V27.out,?_⟩;clear hK K' hg u27;refine wpU_fork (fun w'=>Upd noBlk w2 w') (fun w'=>Upd noBlk w2 w') (fun _ h=>h) (fun _ h=>h) rfl rfl (fun K' hK=>?_) (fun K' hK=>?_)
    ·go_simp
     refine (HGP _ V27.out).out.mono ?_;rintro e z28 ⟨ui3,uo3,um3,rfl,hg,u28⟩;have V28:=Lib.hid (V27.out.trans u28);have HG3:=Lib.hid hg;replace HG1:=Lib.hid (HG1.out.upd u28)
     replace HB5:=Lib.hid (u28.heap HB5.out id)
     refine hK _ _ ⟨V28.out,?_⟩;clear hK K' hg u28;refine wpU_run (fun w'=>Upd noBlk w2 w') (fun _ h=>h) rfl (fun K' hK=>?_);go_simp
     have al:=(Upd.refl noBlk z28).alloc (.cells #[.int .i64 0,.slice none 0 0,.slice none 0 0,.slice none 0 0,.int .i64 0,.int .i64 0,.bool false,.string ⟨#[]⟩] 68);have V29:=Lib.hid (V28.out.trans al);have HB4:=Lib.hid (heap_alloc_new z28 (.cells #[.int .i64 0,.slice none 0 0,.slice none 0 0,.slice none 0 0,.int .i64 0,.int .i64 0,.bool false,.string ⟨#[]⟩] 68));have HS4:Hid (w2.heap.size≤z28.heap.size):=V28.out.size;have hlt:=lt_of_heap HB5.out;have HNE:Hid (z28.heap.size≠b5):=by show _≠_;omega
     replace HB5:=Lib.hid (al.heap HB5.out id)
     clear hlt;replace HG1:=Lib.hid (HG1.out.upd al)
     replace HG3:=Lib.hid (HG3.out.upd al)
     refine hK _ _ ⟨V29.out,?_⟩;clear hK K' al;generalize z28.alloc (.cells #[.int .i64 0,.slice none 0 0,.slice none 0 0,.slice none 0 0,.int .i64 0,.int .i64 0,.bool false,.string ⟨#[]⟩] 68)=z29 at *;generalize z28.heap.size=b4 at *;refine wpU_nil ?_;obtain ⟨X1,st1,hx1,ux1⟩:=store_row (P:=Tryz.prog) HB4.out (vs:=gCells z ui1 uo1 um1) rfl HG1.out.one;have hb5:=ux1.heap HB5.out (fun e=>HNE.out e.symm);have hg1:=HG1.out.store ux1 HB4.out;have hg3:=HG3.out.store ux1 HB4.out;obtain ⟨X2,st2,hx2,ux2⟩:=store_row (P:=Tryz.prog) hb5 (vs:=gCells z ui3 uo3 um3) rfl HG3.out.one;have HFIN:Hid (KeepAt w2 X2 T z vt vs b4 b5 ui1 uo1 um1 ui3 uo3 um3):=KeepAt.make V29.out ux1 ux2 hx1 hx2 hg1 hg3 hb5 HNE.out HS4.out HS5.out HT1.out HT2.out;clear hx1 ux1 hb5 hg1 hg3 hx2 ux2 HB4 HB5 HG1 HG3 HS4 HS5;go_wp2_with fail
     go_meet
     exact ⟨b4,b5,ui1,uo1,um1,ui3,uo3,um3,rfl,rfl,HFIN.out⟩
    ·go_simp
     have al:=(Upd.refl noBlk z27).alloc (.cells #[.int .i64 0,.slice none 0 0,.slice none 0 0,.slice none 0 0,.int .i64 0,.int .i64 0,.bool false,.string ⟨#[]⟩] 68);have V30:=Lib.hid (V27.out.trans al);have HB4:=Lib.hid (heap_alloc_new z27 (.cells #[.int .i64 0,.slice none 0 0,.slice none 0 0,.slice none 0 0,.int .i64 0,.int .i64 0,.bool false,.string ⟨#[]⟩] 68));have HS4:Hid (w2.heap.size≤z27.heap.size):=V27.out.size;have hlt:=lt_of_heap HB5.out;have HNE:Hid (z27.heap.size≠b5):=by show _≠_;omega
     replace HB5:=Lib.hid (al.heap HB5.out id)
     clear hlt;replace HG1:=Lib.hid (HG1.out.upd al)
     refine hK _ _ ⟨V30.out,?_⟩;clear hK K' al;generalize z27.alloc (.cells #[.int .i64 0,.slice none 0 0,.slice none 0 0,.slice none 0 0,.int .i64 0,.int .i64 0,.bool false,.string ⟨#[]⟩] 68)=z30 at *;generalize z27.heap.size=b4 at *;refine wpU_run (fun w'=>Upd noBlk w2 w') (fun _ h=>h) rfl (fun K' hK=>?_);go_simp
     refine (HGP _ V30.out).out.mono ?_;rintro e z31 ⟨ui3,uo3,um3,rfl,hg,u31⟩;have V31:=Lib.hid (V30.out.trans u31);have HG3:=Lib.hid hg;replace HG1:=Lib.hid (HG1.out.upd u31)
     replace HB4:=Lib.hid (u31.heap HB4.out id)
     replace HB5:=Lib.hid (u31.heap HB5.out id)
     refine hK _ _ ⟨V31.out,?_⟩;clear hK K' hg u31;refine wpU_nil ?_;obtain ⟨X1,st1,hx1,ux1⟩:=store_row (P:=Tryz.prog) HB4.out (vs:=gCells z ui1 uo1 um1) rfl HG1.out.one;have hb5:=ux1.heap HB5.out (fun e=>HNE.out e.symm);have hg1:=HG1.out.store ux1 HB4.out;have hg3:=HG3.out.store ux1 HB4.out;obtain ⟨X2,st2,hx2,ux2⟩:=store_row (P:=Tryz.prog) hb5 (vs:=gCells z ui3 uo3 um3) rfl HG3.out.one;have HFIN:Hid (KeepAt w2 X2 T z vt vs b4 b5 ui1 uo1 um1 ui3 uo3 um3):=KeepAt.make V31.out ux1 ux2 hx1 hx2 hg1 hg3 hb5 HNE.out HS4.out HS5.out HT1.out HT2.out;clear hx1 ux1 hb5 hg1 hg3 hx2 ux2 HB4 HB5 HG1 HG3 HS4 HS5;go_wp2_with fail
     go_meet
     exact ⟨b4,b5,ui1,uo1,um1,ui3,uo3,um3,rfl,rfl,HFIN.out⟩
   ·go_simp
    have al:=(Upd.refl noBlk z26).alloc (.cells #[.int .i64 0,.slice none 0 0,.slice none 0 0,.slice none 0 0,.int .i64 0,.int .i64 0,.bool false,.string ⟨#[]⟩] 68);have V32:=Lib.hid (V26.out.trans al);have HB4:=Lib.hid (heap_alloc_new z26 (.cells #[.int .i64 0,.slice none 0 0,.slice none 0 0,.slice none 0 0,.int .i64 0,.int .i64 0,.bool false,.string ⟨#[]⟩] 68));have HS4:Hid (w2.heap.size≤z26.heap.size):=V26.out.size;have hlt:=lt_of_heap HB5.out;have HNE:Hid (z26.heap.size≠b5):=by show _≠_;omega
    replace HB5:=Lib.hid (al.heap HB5.out id)
    clear hlt;refine hK _ _ ⟨V32.out,?_⟩;clear hK K' al;generalize z26.alloc (.cells #[.int .i64 0,.slice none 0 0,.slice none 0 0,.slice none 0 0,.int .i64 0,.int .i64 0,.bool false,.string ⟨#[]⟩] 68)=z32 at *;generalize z26.heap.size=b4 at *;refine wpU_run (fun w'=>Upd noBlk w2 w') (fun _ h=>h) rfl (fun K' hK=>?_);go_simp
    refine (HGP _ V32.out).out.mono ?_;rintro e z33 ⟨ui1,uo1,um1,rfl,hg,u33⟩;have V33:=Lib.hid (V32.out.trans u33);have HG1:=Lib.hid hg;replace HB4:=Lib.hid (u33.heap HB4.out id)
    replace HB5:=Lib.hid (u33.heap HB5.out id)
    refine hK _ _ ⟨V33.out,?_⟩;clear hK K' hg u33;refine wpU_run (fun w'=>Upd noBlk w2 w') (fun _ h=>h) rfl (fun K' hK=>?_);go_simp
    refine (HGP _ V33.out).out.mono ?_;rintro e z34 ⟨ui3,uo3,um3,rfl,hg,u34⟩;have V34:=Lib.hid (V33.out.trans u34);have HG3:=Lib.hid hg;replace HG1:=Lib.hid (HG1.out.upd u34)
    replace HB4:=Lib.hid (u34.heap HB4.out id)
    replace HB5:=Lib.hid (u34.heap HB5.out id)
    refine hK _ _ ⟨V34.out,?_⟩;clear hK K' hg u34;refine wpU_nil ?_;obtain ⟨X1,st1,hx1,ux1⟩:=store_row (P:=Tryz.prog) HB4.out (vs:=gCells z ui1 uo1 um1) rfl HG1.out.one;have hb5:=ux1.heap HB5.out (fun e=>HNE.out e.symm);have hg1:=HG1.out.store ux1 HB4.out;have hg3:=HG3.out.store ux1 HB4.out;obtain ⟨X2,st2,hx2,ux2⟩:=store_row (P:=Tryz.prog) hb5 (vs:=gCells z ui3 uo3 um3) rfl HG3.out.one;have HFIN:Hid (KeepAt w2 X2 T z vt vs b4 b5 ui1 uo1 um1 ui3 uo3 um3):=KeepAt.make V34.out ux1 ux2 hx1 hx2 hg1 hg3 hb5 HNE.out HS4.out HS5.out HT1.out HT2.out;clear hx1 ux1 hb5 hg1 hg3 hx2 ux2 HB4 HB5 HG1 HG3 HS4 HS5;go_wp2_with fail
    go_meet
    exact ⟨b4,b5,ui1,uo1,um1,ui3,uo3,um3,rfl,rfl,HFIN.out⟩
 case rest=>
  obtain ⟨b4,b5,ui1,uo1,um1,ui3,uo3,um3,rfl,rfl,hka⟩:=hcut;have HKA:=Lib.hid hka;have UC:=Lib.hid (U2.out.trans hka.up);have HCL:=fun v W hv=>Lib.hid (Cluster_any v T (by have:=HTL.out;omega) (fun t ht=>smT_ok (HSM.out t ht)) W hv);have HGR:=fun a b c W (hg:GOwn W z a b c)=>Lib.hid (Group_any z HOK.out a b c W hg.ins.rd hg.outs.rd hg.moves.rd);obtain ⟨S,hS⟩:∃S,S=(if rightG z.g=true then groupB z.g else []):=⟨_,rfl⟩;rw [←hS] at HGR;have HSL:Hid (S.length≤10000):=by
   show _≤_;rw [hS];split
   ·rename_i hr
    exact groupB_len HOK.out hr HL.out
   ·simp
  have HLL:=Lib.hid HL.out;have UW2:=Lib.hid U2.out;clear hS hka HT1 HT2 HY2 HGP U2 HSM HOK HL;have HG4:Hid (wc.heap[b4]?=some (.cells #[.int .i64 z.level,ui1,uo1,um1,.int .i64 z.err,.int .i64 z.total,.bool z.neg,.string (bs z.mag)] 68 (0,0))):=HKA.out.g1;have HG5:Hid (wc.heap[b5]?=some (.cells #[.int .i64 z.level,ui3,uo3,um3,.int .i64 z.err,.int .i64 z.total,.bool z.neg,.string (bs z.mag)] 68 (0,0))):=HKA.out.g2;unfold GV.V at HGR;go_upto_region 4 with fail
  refine wp_region_tree 4 (OT.sures [0,2] (.run 1 (.run 3 .nil))) (fun w'=>Upd noBlk wc w') (by kernel_rfl) (by kernel_rfl) (fun c a d v w h=>by cases d<;>exact h) ((Upd.refl noBlk wc).drew) ?_
  simp only [OT.sures]
  iterate 2 (apply wpT_sure rfl rfl;focus (intro w' hw';obtain ⟨a0,a1,a2,a3,a4,a5,a6,a7⟩:=cells8 (hw'.heap HG4.out id);go_simp;rfl))
  refine wpT_run (fun w'=>Upd noBlk wc w') (fun _ h=>h) rfl (fun K' hK=>?_);go_simp
  refine (HCL vt _ (HKA.out.t1.keep (Upd.refl noBlk wc).drew)).out.mono ?_;rintro e z1 ⟨rfl,u1⟩;have V1:=Lib.hid ((Upd.refl noBlk wc).drew.trans u1);refine hK _ _ ⟨V1.out,?_⟩;clear hK K' u1;refine wpT_run (fun w'=>Upd noBlk wc w') (fun _ h=>h) rfl (fun K' hK=>?_);go_simp
  refine (HGR ui1 uo1 um1 z1 (HKA.out.o1.upd V1.out)).out.mono ?_;rintro e z2 ⟨rfl,u2⟩;have V2:=Lib.hid (V1.out.trans u2);refine hK _ _ ⟨V2.out,?_⟩;clear hK K' u2 V1;refine wpT_nil ?_;have HOP:=Lib.hid (OpenGroup_any S (by have:=HSL.out;omega) z2);go_wp2_with fail
  refine HOP.out.mono ?_;intro e z3 hop;obtain ⟨lv,wi,Aw,nw,cw,wm,er,tot,ng,mg,ec,PI,MV,rfl,hpi,hmv,u3⟩:=groupP_form hop;obtain ⟨Bi,ci2,rfl,hci2⟩:=hpi.form;obtain ⟨Bm,cm2,rfl,hcm2⟩:=hmv.form;have al:=(Upd.refl noBlk z3).alloc (.cells #[.int .i64 lv,.slice Bi PI.length ci2,.slice Aw nw cw,.slice Bm MV.length cm2,.int .i64 er,.int .i64 tot,.bool ng,.string mg] 68);have HOB:=Lib.hid (heap_alloc_new z3 (.cells #[.int .i64 lv,.slice Bi PI.length ci2,.slice Aw nw cw,.slice Bm MV.length cm2,.int .i64 er,.int .i64 tot,.bool ng,.string mg] 68));have HPI:=Lib.hid (hpi.upd al);have HMV:=Lib.hid (hmv.upd al);have U4:=Lib.hid (u3.trans al);have hpl:(PI.length:Int)≤9223372036854775807:=by have:=own_small HPI.out;unfold maxLen at this;omega
  have hml:(MV.length:Int)≤9223372036854775807:=by have:=own_small HMV.out;unfold maxLen at this;omega
  clear hop hpi hmv u3 al HOP;go_upto_region 6 with fail
  generalize z3.alloc (.cells #[.int .i64 lv,.slice Bi PI.length ci2,.slice Aw nw cw,.slice Bm MV.length cm2,.int .i64 er,.int .i64 tot,.bool ng,.string mg] 68)=z4 at *;generalize z3.heap.size=ob at *;obtain ⟨o0,o1,o2,o3,o4,o5,o6,o7⟩:=cells8 HOB.out;go_upto_block 0 with fail
  go_cut [14,37] (fun _ _ wx=>wx.heap[ob]?=some (.cells #[.int .i64 lv,.slice Bi PI.length ci2,.slice Aw nw cw,.slice Bm MV.length cm2,.int .i64 er,.int .i64 tot,.bool ng,.string mg] 68 (0,0))∧kPart.Own z2.heap.size wx (.slice Bi PI.length ci2) PI∧Upd (fun b=>z2.heap.size≤b) z4 wx)
  case first=>
   rcases Nat.eq_zero_or_pos MV.length with h0 | h0
   ·have h0':¬(0:Int)<(MV.length:Int):=by omega
    clear h0;go_wp2_with fail
    go_loopw [37] (fun i wr=>i=.int .i64 0∧wr=z4) (fun _ _=>0)
    case atStart=>exact ⟨rfl,rfl⟩
    case round=>
     obtain ⟨rfl,rfl⟩:=hrel;go_wp2_with fail
     go_meet
     exact ⟨HOB.out,HPI.out,Upd.refl _ _⟩
   ·obtain ⟨g,cap,e,hgb,hgl,hat⟩:=HMV.out.form2 h0;cases e;obtain ⟨_,cur0,hcur0⟩:=HMV.out.blk (g:=g) rfl;have HC0:Hid (∃cur,z4.heap[g]?=some (.cells cur 79 (0,0))∧∀j,0≤j→j<MV.length→∃v,cur[j*6]?=some (.int .i64 v)):=⟨cur0,hcur0,fun j _ hj=>by
     have h1:=hat j hj 0 _ rfl;have h2:z4.cell? ⟨g,0+j*6+0,none⟩=cur0[0+j*6+0]?:=by simp [World.cell?,hcur0]
     exact ⟨_,by
      have h3:=h2.symm.trans h1;simpa using h3⟩⟩
    have HGB:Hid (z2.heap.size≤g):=hgb;have HOG:Hid (ob≠g):=fun e=>by
     have h1:=HOB.out;rw [e,hcur0] at h1;exact absurd (Obj.cells.inj (Option.some.inj h1)).2.1 (by decide)
    have HPG:Hid (∀i,(Value.slice Bi PI.length ci2).ownBlock=some i→¬i=g):=fun i hi e=>by
     subst e;obtain ⟨_,c',hc'⟩:=HPI.out.blk hi;rw [hcur0] at hc';exact absurd (Obj.cells.inj (Option.some.inj hc')).2.1 (by decide)
    clear hgb hgl hat hcur0 HMV h0 o0 o1 o2 o3 o4 o5 o6 o7;go_wp2_with fail
    go_loopw [37] (fun i wr=>∃k:Nat,i=.int .i64 k∧k≤MV.length∧(∃cur,wr.heap[g]?=some (.cells cur 79 (0,0))∧∀j,k≤j→j<MV.length→∃v,cur[j*6]?=some (.int .i64 v))∧Upd (fun b=>b=g) z4 wr) (fun i _=>MV.length-(intOf i).toNat)
    case atStart=>exact ⟨0,rfl,Nat.zero_le _,HC0.out,Upd.refl _ _⟩
    case round=>
     obtain ⟨k,rfl,hk,⟨cur,hcur,hcells⟩,hu⟩:=hrel;have HU:=Lib.hid hu;have HCU:=Lib.hid hcur;have HCE:=Lib.hid hcells;have HOR:=Lib.hid (hu.heap HOB.out HOG.out);clear hu hcur hcells HC0;by_cases hlt:k<MV.length
     ·have hlt':(k:Int)<(MV.length:Int):=by omega
      have HK:Hid (k<MV.length):=hlt;have hkw:IntKind.i64.wrap ((k:Int)+1)=(k:Int)+1:=wrapN (by omega) (by omega);obtain ⟨v,hv⟩:=HCE.out k (Nat.le_refl _) hlt;have hc:wr.cell? ⟨g,k*6,none⟩=some (.int .i64 v):=by simp [World.cell?,HCU.out,hv]
      have hf:wr.frozen? ⟨g,k*6,none⟩=false:=by simp [World.frozen?,HCU.out]
      obtain ⟨o0,o1,o2,o3,o4,o5,o6,o7⟩:=cells8 HOR.out;clear hv hlt;go_wp2_with fail
      go_roundw
      case rel=>exact ⟨k+1,by push_cast;rfl,HK.out,⟨_,heap_setCell_eq (i:=k*6) _ HCU.out,fun j h1 h2=>by
       obtain ⟨v',hv'⟩:=HCE.out j (by omega) h2;exact ⟨v',by rw [Array.getElem?_setIfInBounds_ne (by omega)];exact hv'⟩⟩,HU.out.setCell (p:=⟨g,k*6,none⟩) (fun _=>rfl) _⟩
      case measure=>simp only [intOf];have:=HK.out;omega
     ·obtain rfl:k=MV.length:=by omega
      go_wp2_with fail
      go_meet
      exact ⟨HOR.out,HPI.out.other HU.out (fun i hi=>HPG.out i hi),HU.out.mono (fun i _ e=>by have e':i=g:=e;have:=HGB.out;show _≤_;omega)⟩
  case rest=>
   obtain ⟨hob,hpi2,hux⟩:=hcut;have HOB2:=Lib.hid hob;have HPI2:=Lib.hid hpi2;have U5:Hid (Upd noBlk z2 wc):=U4.out.then hux (fun i hi e=>absurd hi (by have e':z2.heap.size≤i:=e;omega));have HK2:=Lib.hid (HKA.out.upd V2.out);clear hob hpi2 hux HOB HPI HMV o0 o1 o2 o3 o4 o5 o6 o7 U4 hml HG4 HG5 HSL;obtain ⟨o0,o1,o2,o3,o4,o5,o6,o7⟩:=cells8 HOB2.out;go_upto_block 2 with fail
   go_cut [15,55] (fun _ _ wx=>Upd noBlk z2 wx)
   case first=>
    rcases Nat.eq_zero_or_pos PI.length with h0 | h0
    ·have h0':¬(0:Int)<(PI.length:Int):=by omega
     clear h0;go_wp2_with fail
     go_loopw [55] (fun i wr=>i=.int .i64 0∧wr=wc) (fun _ _=>0)
     case atStart=>exact ⟨rfl,rfl⟩
     case round=>
      obtain ⟨rfl,rfl⟩:=hrel;go_wp2_with fail
      go_meet
      exact U5.out
    ·obtain ⟨g,cap,e,hgb,hgl,hat⟩:=HPI2.out.form2 h0;cases e;obtain ⟨_,cur0,hcur0⟩:=HPI2.out.blk (g:=g) rfl;have HC0:Hid (∃cur,wc.heap[g]?=some (.cells cur 83 (0,0))∧∀j,0≤j→j<PI.length→∃v:Nat,cur[j*64+32]?=some (.int .u8 (v:Int))∧v<256):=⟨cur0,hcur0,fun j _ hj=>by
      obtain ⟨v,hv,hv2⟩:=part_made PI[j];have h1:=hat j hj 32 _ hv;have h2:wc.cell? ⟨g,0+j*64+32,none⟩=cur0[0+j*64+32]?:=by simp [World.cell?,hcur0]
      exact ⟨v,by
       have h3:=h2.symm.trans h1;simpa using h3,hv2⟩⟩
     have HGB:Hid (z2.heap.size≤g):=hgb;have HOG:Hid (ob≠g):=fun e=>by
      have h1:=HOB2.out;rw [e,hcur0] at h1;exact absurd (Obj.cells.inj (Option.some.inj h1)).2.1 (by decide)
     clear hgb hgl hat hcur0 HPI2 h0 o0 o1 o2 o3 o4 o5 o6 o7;go_wp2_with fail
     go_loopw [55] (fun i wr=>∃k:Nat,i=.int .i64 k∧k≤PI.length∧(∃cur,wr.heap[g]?=some (.cells cur 83 (0,0))∧∀j,k≤j→j<PI.length→∃v:Nat,cur[j*64+32]?=some (.int .u8 (v:Int))∧v<256)∧Upd (fun b=>b=g) wc wr) (fun i _=>PI.length-(intOf i).toNat)
     case atStart=>exact ⟨0,rfl,Nat.zero_le _,HC0.out,Upd.refl _ _⟩
     case round=>
      obtain ⟨k,rfl,hk,⟨cur,hcur,hcells⟩,hu⟩:=hrel;have HU:=Lib.hid hu;have HCU:=Lib.hid hcur;have HCE:=Lib.hid hcells;have HOR:=Lib.hid (hu.heap HOB2.out HOG.out);clear hu hcur hcells HC0;by_cases hlt:k<PI.length
      ·have hlt':(k:Int)<(PI.length:Int):=by omega
       have HK:Hid (k<PI.length):=hlt;have hkw:IntKind.i64.wrap ((k:Int)+1)=(k:Int)+1:=wrapN (by omega) (by omega);obtain ⟨v,hv,hv2⟩:=HCE.out k (Nat.le_refl _) hlt;have HCC:=Lib.hid hv;clear hv hlt;go_wp2_with fail
       refine wp_region_tree 10 (OT.sures [0,2,1,3,8,4,9,5,6,7] .nil) (fun w'=>Gr wr w') (by kernel_rfl) (by kernel_rfl) (fun c a d v w h=>by cases d<;>exact h) ((Gr.refl wr).drew) ?_
       simp only [OT.sures]
       iterate 10 (apply wpT_sure rfl rfl;focus (intro w' hw';obtain ⟨o0,o1,o2,o3,o4,o5,o6,o7⟩:=cells8 (hw'.heap HOR.out id);have hcg:=hw'.heap HCU.out id;have hc:w'.cell? ⟨g,k*64+32,none⟩=some (.int .u8 (v:Int)):=(by simp [World.cell?,hcg,HCC.out]);go_simp;rfl))
       refine wpT_nil ?_;have hf:wr.frozen? ⟨g,k*64+32,none⟩=false:=by simp [World.frozen?,HCU.out]
       have hc:wr.cell? ⟨g,k*64+32,none⟩=some (.int .u8 (v:Int)):=by simp [World.cell?,HCU.out,HCC.out]
       go_wp2_with fail
       go_roundw
       case rel=>exact ⟨k+1,by push_cast;rfl,HK.out,⟨_,heap_setCell_eq (i:=k*64+32) _ HCU.out,fun j h1 h2=>by
        obtain ⟨v',hv',h2'⟩:=HCE.out j (by omega) h2;exact ⟨v',by rw [Array.getElem?_setIfInBounds_ne (by omega)];exact hv',h2'⟩⟩,(HU.out.setCell (p:=⟨g,k*64+32,none⟩) (fun _=>rfl) _).drew⟩
       case measure=>simp only [intOf];have:=HK.out;omega
      ·obtain rfl:k=PI.length:=by omega
       go_wp2_with fail
       go_meet
       exact U5.out.then HU.out (fun i hi e=>absurd hi (by have e':i=g:=e;have:=HGB.out;omega))
   case rest=>
    have U6:=Lib.hid hcut;have HK6:=Lib.hid (HK2.out.upd U6.out);have HEQ:=Lib.hid (hEqual_any vt vs T T (by have:=HTL.out;omega) wc HK6.out.t1 HK6.out.t2);clear hcut HK2 U5 HOB2 HPI2 o0 o1 o2 o3 o4 o5 o6 o7;rw [decide_eq_true rfl] at HEQ;go_wp2_with fail
    refine HEQ.out.mono ?_;rintro e x1 ⟨rfl,u1⟩;have HK7:=Lib.hid (HK6.out.upd u1);clear HEQ HK6 u1;have HSG:=Lib.hid (jSameGroup_same z ui1 uo1 um1 ui3 uo3 um3 x1 (by have:=HLL.out.1;omega) (by have:=HLL.out.2.1;omega) (by have:=HLL.out.2.2.1;omega) HK7.out.o1.ins.rd HK7.out.o1.outs.rd HK7.out.o1.moves.rd HK7.out.o2.ins.rd HK7.out.o2.outs.rd HK7.out.o2.moves.rd);unfold GV.V at HSG;obtain ⟨p0,p1,p2,p3,p4,p5,p6,p7⟩:=cells8 (show x1.heap[b4]?=some (.cells #[.int .i64 z.level,ui1,uo1,um1,.int .i64 z.err,.int .i64 z.total,.bool z.neg,.string (bs z.mag)] 68 (0,0)) from HK7.out.g1);obtain ⟨q0,q1,q2,q3,q4,q5,q6,q7⟩:=cells8 (show x1.heap[b5]?=some (.cells #[.int .i64 z.level,ui3,uo3,um3,.int .i64 z.err,.int .i64 z.total,.bool z.neg,.string (bs z.mag)] 68 (0,0)) from HK7.out.g2);go_wp2_with fail
    refine HSG.out.mono ?_;rintro e x2 ⟨rfl,u2⟩;have HK8:=Lib.hid (HK7.out.upd u2);clear HSG HK7 u2 p0 p1 p2 p3 p4 p5 p6 p7 q0 q1 q2 q3 q4 q5 q6 q7;have HC8:=HCL vs x2 HK8.out.t2;go_wp2_with fail
    refine HC8.out.mono ?_;rintro e x3 ⟨rfl,u3⟩;have HK9:=Lib.hid (HK8.out.upd u3);clear HC8 HK8 u3;have HG9:=HGR ui3 uo3 um3 x3 HK9.out.o2;have hss:((bs S).toList == (bs S).toList)=true:=by simp
    obtain ⟨q0,q1,q2,q3,q4,q5,q6,q7⟩:=cells8 (show x3.heap[b5]?=some (.cells #[.int .i64 z.level,ui3,uo3,um3,.int .i64 z.err,.int .i64 z.total,.bool z.neg,.string (bs z.mag)] 68 (0,0)) from HK9.out.g2);go_wp2_with fail
    refine HG9.out.mono ?_;rintro e x4 ⟨rfl,u4⟩;have HKX:=Lib.hid (HK9.out.upd u4);clear HG9 HK9 u4 q0 q1 q2 q3 q4 q5 q6 q7;go_wp2_with fail
    go_ret
    exact ⟨rfl,UW2.out.trans HKX.out.up⟩
end Go.Proofs.YtcikldoaidmnhaaGreatDoor
