/- Parts: Parts as plain bytes and back. No condition. Reading a cluster as a plain function: what stays true along the way, and that it comes to an end. No condition. Rows of numbers; numbers modulo others. No condition. Walks of the coder: NewReader. Walks of the packets' program: an abandoned reading is caught. No condition. Walks of the packets' program: digits. No condition. Walks of the packets' progr -/
import Derived.Test.YtcikldoaidmnhaaGreatDoorRSpoi1
import Derived.Test.YtcikldoaidmnhaaGreatDoorRSpoi2
import Derived.Test.YtcikldoaidmnhaaGreatDoorRSpoi3
import Derived.Test.YtcikldoaidmnhaaGreatDoorRSpoi4
import Derived.Test.YtcikldoaidmnhaaGreatDoorRSpoi5
import Derived.Test.YtcikldoaidmnhaaGreatDoorRSpoi6
import Derived.Test.YtcikldoaidmnhaaGreatDoorRSpoi7
import Derived.Test.YtcikldoaidmnhaaGreatDoorRSpoi9
import Derived.Test.YtcikldoaidmnhaaGreatDoorRSpoi11
import Derived.Test.YtcikldoaidmnhaaGreatDoorRSpoi12
import Derived.Test.YtcikldoaidmnhaaGreatDoorRSpoi14
import Derived.Test.YtcikldoaidmnhaaGreatDoorRSpoi18
import Derived.WalkKit
import Derived.WalkSpells
import Derived.WalkLawsBesides
import Derived.Lib.Hide
import Derived.BigQuiet
import Derived.Deep.DeepFit
import Derived.Deep.DeepCutAuto
import Derived.Deep.AppendLies
import Derived.Deep.QuietTactic
import Derived.Deep.MidRow
import Derived.Lib.Bits
import Derived.Test.YtcikldoaidmnhaaGreatDoorRows
import Derived.Deep.RegionHeld3
import Derived.StillTail
import Derived.Laws.EntriesVeiled
import Derived.Handy
import Derived.Maps.OwnOps
import Derived.Maps.OwnSet
import Derived.Maps.RangeWalk
import Derived.WideKeyEntry
import Derived.DeepKeys4
import Derived.Deep.CutBlock
import Derived.Test.YtcikldoaidmnhaaGreatDoorShelf2
import Derived.ArgAppend
import Derived.Deep.Upon
import Derived.Laws.BitsAllLaws
import Derived.Laws.BytesArg
import Derived.Deep.WholeRow
import Derived.Test.YtcikldoaidmnhaaGreatDoorShelf
import Derived.Lib.Zigzag
import Derived.Recover
import Derived.Laws.IdiomStrings
namespace Go.Proofs.YtcikldoaidmnhaaGreatDoor
open Go Go.RowKit Pk
set_option maxRecDepth 100000
noncomputable def kInt:Kd Tryz.prog Int:={ T:=3,S:=23,k:=1,bytes:=8,enc:=fun n=>[.int .i64 n],len:=fun _=>rfl,one:=fun n v hv=>by rw [List.mem_singleton.1 hv];rfl,pos:=by decide,small:=by decide,und:=Tryz.underlying23,info:=kinfo_of (by kernel_rfl) }
theorem cell_lt {w:World} {b o:Nat} {v:Value} (h:w.cell? ⟨b,o,none⟩=some v):b<w.heap.size:=by
 unfold World.cell? at h;by_cases hb:b<w.heap.size
 ·exact hb
 ·rw [Array.getElem?_eq_none (by show w.heap.size≤b;omega)] at h;cases h
theorem hMod_any (c m:Int) (hm:0<m) (hb:m≤1000000000) (w:World):Calls Tryz.prog 70 #[.int .i64 c,.int .i64 m] w fun e w'=>e=.returned (.int .i64 (modI c m))∧w'=w:=by
 have k1:=Int.lt_tmod_of_pos c hm;have k2:=Int.tmod_lt_of_pos c hm;have e1:wrap64 (c.tmod m+m)=c.tmod m+m:=IntWalk.wrap64_in _ (by omega);have e3:(m == 0)=false:=by rw [beq_eq_false_iff_ne];omega
 have e4:¬m=-1:=by omega
 have h1:-9223372036854775808≤c.tmod m∧c.tmod m≤9223372036854775807:=by omega
 obtain ⟨R,hR⟩:∃R,R=modI c m:=⟨_,rfl⟩;have e2:(c.tmod m+m).tmod m=R:=by rw [hR];rfl
 have h2:-9223372036854775808≤R∧R≤9223372036854775807:=by have:=modI_range (n:=c) hm;omega
 rw [←hR];clear hR k1 k2;go_enter Tryz.func70,Tryz.ntmps70
 go_wp2_with fail
 go_ret
 exact ⟨rfl,rfl⟩
theorem if_wanted {c:Bool} {A B:Prop} (h:c=true) (ha:A):if c=true then A else B:=by rw [if_pos h];exact ha
theorem wp_val {P:Program} {o:Oper} {a:Act} {w:World} {K:Act→World→Prop} {Q:Exit→Act→World→Prop} (v:Value) (w':World) (hv:(execOp a.eval o).run P w=.ok (.value v) w') (h:K (a.put o.dst v) w'):Oper.wp P o a w K Q:=by
 unfold Oper.wp;rw [hv];exact h
end Go.Proofs.YtcikldoaidmnhaaGreatDoor
namespace Go.Proofs.YtcikldoaidmnhaaGreatDoor
open Go Go.RowKit Pk
set_option maxRecDepth 100000
set_option maxHeartbeats 2000000 in
theorem mRotate_any (t:Tri) (w:World):Calls Tryz.prog 93 #[triV t] w fun en w'=>en=.returned (triV (rot t))∧Upd noBlk w w':=by
 have hl:=fun p q W=>Lib.hid (Less_any p q W);have hc:=Lib.hid (show rot t=if ptLt t.2.1 t.1 then (if ptLt t.2.2 t.2.1 then (t.2.2,t.1,t.2.1) else (t.2.1,t.2.2,t.1)) else (if ptLt t.2.2 t.1 then (t.2.2,t.1,t.2.1) else t) from rfl);obtain ⟨⟨a0,a1,a2⟩,⟨a3,a4,a5⟩,⟨a6,a7,a8⟩⟩:=t;unfold triV triC;simp only at hc;obtain ⟨wx,hwx⟩:∃wx,wx=(w.alloc (.cells #[.int .i64 a0,.int .i64 a1,.int .i64 a2,.int .i64 a3,.int .i64 a4,.int .i64 a5,.int .i64 a6,.int .i64 a7,.int .i64 a8] 45)).alloc (.cells #[.int .i64 0,.int .i64 0,.int .i64 0,.int .i64 0,.int .i64 0,.int .i64 0,.int .i64 0,.int .i64 0,.int .i64 0] 45):=⟨_,rfl⟩;have U1:Hid (Gr w wx):=by show Gr _ _;rw [hwx];exact ((Gr.refl _).alloc _).alloc _
 have ca:Hid (wx.heap[w.heap.size]?=some (.cells #[.int .i64 a0,.int .i64 a1,.int .i64 a2,.int .i64 a3,.int .i64 a4,.int .i64 a5,.int .i64 a6,.int .i64 a7,.int .i64 a8] 45)):=by
  show _=_;rw [hwx];exact ((Gr.refl _).alloc _).heap (heap_alloc_new _ _) id
 have cb:Hid (wx.heap[w.heap.size+1]?=some (.cells #[.int .i64 0,.int .i64 0,.int .i64 0,.int .i64 0,.int .i64 0,.int .i64 0,.int .i64 0,.int .i64 0,.int .i64 0] 45)):=by
  show _=_;rw [hwx];have:=heap_alloc_new (w.alloc (.cells #[.int .i64 a0,.int .i64 a1,.int .i64 a2,.int .i64 a3,.int .i64 a4,.int .i64 a5,.int .i64 a6,.int .i64 a7,.int .i64 a8] 45)) (.cells #[.int .i64 0,.int .i64 0,.int .i64 0,.int .i64 0,.int .i64 0,.int .i64 0,.int .i64 0,.int .i64 0,.int .i64 0] 45);rwa [World.size_alloc] at this
 go_enter Tryz.func93,Tryz.ntmps93
 go_upto_block 0 with fail
 rw [←hwx];clear hwx;go_wp2_with fail
 refine wp_loop_rounds 3 ?_;have U1wx:=U1;have cawx:=ca;have cbwx:=cb;clear U1 ca cb;rw [rounds_succ];go_wp2_with fail
 refine wp_region_tree 6 (OT.sures [0,3,1,4,2,5] .nil) (fun w'=>Gr wx w') (by kernel_rfl) (by kernel_rfl) (fun c a d v w h=>by cases d<;>exact h) ((Gr.refl wx).drew) ?_
 simp only [OT.sures]
 iterate 6 (apply wpT_sure rfl rfl;focus (intro w' hw';obtain ⟨g0,g1,g2,g3,g4,g5,g6,g7,g8⟩:=cells9 (hw'.heap cawx.out id);go_simp;rfl))
 refine wpT_nil ?_;go_wp2_with fail
 refine (hl (a3,a4,a5) (a0,a1,a2) _).out.mono ?_;rintro e x1 ⟨rfl,u1⟩;have V1:=Lib.hid (((Gr.refl wx).drew).trans u1);have U1x1:=Lib.hid (U1wx.out.trans V1.out);have cax1:=Lib.hid (V1.out.heap cawx.out id);have cbx1:=Lib.hid (V1.out.heap cbwx.out id);clear u1 U1wx cawx cbwx V1;rcases h1:ptLt (a3,a4,a5) (a0,a1,a2) with _ | _
 ·rw [h1] at hc;go_wp2_with fail
  rw [rounds_succ];go_wp2_with fail
  refine wp_region_tree 6 (OT.sures [0,3,1,4,2,5] .nil) (fun w'=>Gr x1 w') (by kernel_rfl) (by kernel_rfl) (fun c a d v w h=>by cases d<;>exact h) ((Gr.refl x1).drew) ?_
  simp only [OT.sures]
  iterate 6 (apply wpT_sure rfl rfl;focus (intro w' hw';obtain ⟨g0,g1,g2,g3,g4,g5,g6,g7,g8⟩:=cells9 (hw'.heap cax1.out id);go_simp;rfl))
  refine wpT_nil ?_;go_wp2_with fail
  refine (hl (a6,a7,a8) (a0,a1,a2) _).out.mono ?_;rintro e x2 ⟨rfl,u2⟩;have V2:=Lib.hid (((Gr.refl x1).drew).trans u2);have U1x2:=Lib.hid (U1x1.out.trans V2.out);have cax2:=Lib.hid (V2.out.heap cax1.out id);have cbx2:=Lib.hid (V2.out.heap cbx1.out id);clear u2 U1x1 cax1 cbx1 V2;rcases h2:ptLt (a6,a7,a8) (a0,a1,a2) with _ | _
  ·rw [h2] at hc;go_wp2_with fail
   rw [rounds_succ];go_wp2_with fail
   have q1:(IntKind.i64.wrap 1).tmod 3=1:=by decide
   have q2:(IntKind.i64.wrap 2).tmod 3=2:=by decide
   have q3:(IntKind.i64.wrap 3).tmod 3=0:=by decide
   have q4:(IntKind.i64.wrap 4).tmod 3=1:=by decide
   refine wp_region_tree 14 (OT.sures [0,3,8,1,4,9,2,5,10,6,11,7,12,13] .nil) (fun w'=>Gr x2 w') (by kernel_rfl) (by kernel_rfl) (fun c a d v w h=>by cases d<;>exact h) ((Gr.refl x2).drew) ?_
   simp only [OT.sures]
   iterate 14 (apply wpT_sure rfl rfl;focus (intro w' hw';obtain ⟨g0,g1,g2,g3,g4,g5,g6,g7,g8⟩:=cells9 (hw'.heap cax2.out id);go_simp;rfl))
   refine wpT_nil ?_;obtain ⟨F1,F2⟩:=cellsF9 cbx2.out;obtain ⟨k0,k1,k2,k3,k4,k5,k6,k7,k8⟩:=F1;obtain ⟨z0,z1,z2,z3,z4,z5,z6,z7,z8⟩:=F2;go_wp2_with fail
   refine post9 (Q:=fun wz=>bodyPost _ _ _ _ _ wz) cbx2.out U1x2.out.up (Nat.le_succ _) (fun wz hz hu=>?_);obtain ⟨g0,g1,g2,g3,g4,g5,g6,g7,g8⟩:=cells9 hz;refine bodyPost_ret (by simp [results,Tryz.results93,go_sem,g0,g1,g2,g3,g4,g5,g6,g7,g8];rfl) rfl ?_;refine ⟨?_,hu⟩;rw [hc.out];rfl
  ·rw [h2] at hc;go_wp2_with fail
   rw [rounds_succ];go_wp2_with fail
   have q1:(IntKind.i64.wrap 1).tmod 3=1:=by decide
   have q2:(IntKind.i64.wrap 2).tmod 3=2:=by decide
   have q3:(IntKind.i64.wrap 3).tmod 3=0:=by decide
   have q4:(IntKind.i64.wrap 4).tmod 3=1:=by decide
   refine wp_region_tree 14 (OT.sures [0,3,8,1,4,9,2,5,10,6,11,7,12,13] .nil) (fun w'=>Gr x2 w') (by kernel_rfl) (by kernel_rfl) (fun c a d v w h=>by cases d<;>exact h) ((Gr.refl x2).drew) ?_
   simp only [OT.sures]
   iterate 14 (apply wpT_sure rfl rfl;focus (intro w' hw';obtain ⟨g0,g1,g2,g3,g4,g5,g6,g7,g8⟩:=cells9 (hw'.heap cax2.out id);go_simp;rfl))
   refine wpT_nil ?_;obtain ⟨F1,F2⟩:=cellsF9 cbx2.out;obtain ⟨k0,k1,k2,k3,k4,k5,k6,k7,k8⟩:=F1;obtain ⟨z0,z1,z2,z3,z4,z5,z6,z7,z8⟩:=F2;go_wp2_with fail
   refine post9 (Q:=fun wz=>bodyPost _ _ _ _ _ wz) cbx2.out U1x2.out.up (Nat.le_succ _) (fun wz hz hu=>?_);obtain ⟨g0,g1,g2,g3,g4,g5,g6,g7,g8⟩:=cells9 hz;refine bodyPost_ret (by simp [results,Tryz.results93,go_sem,g0,g1,g2,g3,g4,g5,g6,g7,g8];rfl) rfl ?_;refine ⟨?_,hu⟩;rw [hc.out];rfl
 ·rw [h1] at hc;go_wp2_with fail
  rw [rounds_succ];go_wp2_with fail
  refine wp_region_tree 6 (OT.sures [0,3,1,4,2,5] .nil) (fun w'=>Gr x1 w') (by kernel_rfl) (by kernel_rfl) (fun c a d v w h=>by cases d<;>exact h) ((Gr.refl x1).drew) ?_
  simp only [OT.sures]
  iterate 6 (apply wpT_sure rfl rfl;focus (intro w' hw';obtain ⟨g0,g1,g2,g3,g4,g5,g6,g7,g8⟩:=cells9 (hw'.heap cax1.out id);go_simp;rfl))
  refine wpT_nil ?_;go_wp2_with fail
  refine (hl (a6,a7,a8) (a3,a4,a5) _).out.mono ?_;rintro e x3 ⟨rfl,u3⟩;have V3:=Lib.hid (((Gr.refl x1).drew).trans u3);have U1x3:=Lib.hid (U1x1.out.trans V3.out);have cax3:=Lib.hid (V3.out.heap cax1.out id);have cbx3:=Lib.hid (V3.out.heap cbx1.out id);clear u3 U1x1 cax1 cbx1 V3;rcases h2:ptLt (a6,a7,a8) (a3,a4,a5) with _ | _
  ·rw [h2] at hc;go_wp2_with fail
   rw [rounds_succ];go_wp2_with fail
   have q1:(IntKind.i64.wrap 1).tmod 3=1:=by decide
   have q2:(IntKind.i64.wrap 2).tmod 3=2:=by decide
   have q3:(IntKind.i64.wrap 3).tmod 3=0:=by decide
   have q4:(IntKind.i64.wrap 4).tmod 3=1:=by decide
   refine wp_region_tree 14 (OT.sures [0,3,8,1,4,9,2,5,10,6,11,7,12,13] .nil) (fun w'=>Gr x3 w') (by kernel_rfl) (by kernel_rfl) (fun c a d v w h=>by cases d<;>exact h) ((Gr.refl x3).drew) ?_
   simp only [OT.sures]
   iterate 14 (apply wpT_sure rfl rfl;focus (intro w' hw';obtain ⟨g0,g1,g2,g3,g4,g5,g6,g7,g8⟩:=cells9 (hw'.heap cax3.out id);go_simp;rfl))
   refine wpT_nil ?_;obtain ⟨F1,F2⟩:=cellsF9 cbx3.out;obtain ⟨k0,k1,k2,k3,k4,k5,k6,k7,k8⟩:=F1;obtain ⟨z0,z1,z2,z3,z4,z5,z6,z7,z8⟩:=F2;go_wp2_with fail
   refine post9 (Q:=fun wz=>bodyPost _ _ _ _ _ wz) cbx3.out U1x3.out.up (Nat.le_succ _) (fun wz hz hu=>?_);obtain ⟨g0,g1,g2,g3,g4,g5,g6,g7,g8⟩:=cells9 hz;refine bodyPost_ret (by simp [results,Tryz.results93,go_sem,g0,g1,g2,g3,g4,g5,g6,g7,g8];rfl) rfl ?_;refine ⟨?_,hu⟩;rw [hc.out];rfl
  ·rw [h2] at hc;go_wp2_with fail
   rw [rounds_succ];go_wp2_with fail
   have q1:(IntKind.i64.wrap 1).tmod 3=1:=by decide
   have q2:(IntKind.i64.wrap 2).tmod 3=2:=by decide
   have q3:(IntKind.i64.wrap 3).tmod 3=0:=by decide
   have q4:(IntKind.i64.wrap 4).tmod 3=1:=by decide
   refine wp_region_tree 14 (OT.sures [0,3,8,1,4,9,2,5,10,6,11,7,12,13] .nil) (fun w'=>Gr x3 w') (by kernel_rfl) (by kernel_rfl) (fun c a d v w h=>by cases d<;>exact h) ((Gr.refl x3).drew) ?_
   simp only [OT.sures]
   iterate 14 (apply wpT_sure rfl rfl;focus (intro w' hw';obtain ⟨g0,g1,g2,g3,g4,g5,g6,g7,g8⟩:=cells9 (hw'.heap cax3.out id);go_simp;rfl))
   refine wpT_nil ?_;obtain ⟨F1,F2⟩:=cellsF9 cbx3.out;obtain ⟨k0,k1,k2,k3,k4,k5,k6,k7,k8⟩:=F1;obtain ⟨z0,z1,z2,z3,z4,z5,z6,z7,z8⟩:=F2;go_wp2_with fail
   refine post9 (Q:=fun wz=>bodyPost _ _ _ _ _ wz) cbx3.out U1x3.out.up (Nat.le_succ _) (fun wz hz hu=>?_);obtain ⟨g0,g1,g2,g3,g4,g5,g6,g7,g8⟩:=cells9 hz;refine bodyPost_ret (by simp [results,Tryz.results93,go_sem,g0,g1,g2,g3,g4,g5,g6,g7,g8];rfl) rfl ?_;refine ⟨?_,hu⟩;rw [hc.out];rfl
end Go.Proofs.YtcikldoaidmnhaaGreatDoor
namespace Go.Proofs.YtcikldoaidmnhaaGreatDoor
open Go Go.RowKit Pk
set_option maxRecDepth 100000
set_option maxHeartbeats 1000000 in
theorem mCanon_any (v:Value) (l:List Tri) (hn:l.length≤1000000) (w:World) (h:kTri.Rd w v l) :
  Calls Tryz.prog 43 #[v] w fun en w'=>∃v',en=.returned v'∧kTri.Rd w' v' (canon l)∧Upd noBlk w w':=by
 have hr:=fun t W=>Lib.hid (mRotate_any t W);obtain ⟨A,cap,rfl,hcap,hx⟩:=h;have HX:=Lib.hid hx;have hn':(l.length:Int)≤1000000:=by omega
 clear hx;go_enter Tryz.func43,Tryz.ntmps43
 go_wp2_with fail
 go_loopw [3,8] (fun o i wr=>∃k:Nat,i=.int .i64 k∧k≤l.length∧kTri.Own w.heap.size wr o ((l.take k).map rot)∧Upd noBlk w wr) (fun _ i _=>l.length-(intOf i).toNat)
 case atStart=>exact ⟨0,rfl,Nat.zero_le _,Kd.Own.nil _ _ _,Upd.refl _ _⟩
 case round=>
  obtain ⟨k,rfl,hk,ho,hu⟩:=hrel;have HO:=Lib.hid ho;have HU:=Lib.hid hu;clear ho hu;by_cases hlt:k<l.length
  ·have hlt':(k:Int)<(l.length:Int):=by omega
   obtain ⟨b,off,rfl,f1⟩:=HX.out (by omega);obtain ⟨g0,g1,g2,g3,g4,g5,g6,g7,g8⟩:=triAt9 ((f1 k hlt).keep HU.out);have hk9:kTri.k=9:=rfl;rw [hk9] at g0 g1 g2 g3 g4 g5 g6 g7 g8;have HT:Hid ((l.take (k+1)).map rot=(l.take k).map rot++[rot l[k]]):=by show _=_;rw [List.take_succ_eq_append_getElem hlt,List.map_append];rfl
   have HL:Hid (((l.take k).map rot).length=k):=by show _=_;rw [List.length_map,List.length_take];omega
   clear f1 hk9;have hrt:=hr l[k];generalize l[k]=tk at *;obtain ⟨⟨a0,a1,a2⟩,⟨a3,a4,a5⟩,⟨a6,a7,a8⟩⟩:=tk;simp only at g0 g1 g2 g3 g4 g5 g6 g7 g8;have HH:=Lib.hid (show kTri.enc=triC from rfl);go_wp2_with fail
   refine (hrt _).out.mono ?_;rintro e w2 ⟨rfl,u2⟩;have U2:=Lib.hid (HU.out.trans (((Upd.refl noBlk wr).alloc _).trans u2));have O2:=Lib.hid (HO.out.upd (((Upd.refl noBlk wr).alloc _).trans u2));clear u2;obtain ⟨g,cap2,w3,r3,o3,v3,_⟩:=O2.out.app1 U2.out.size (rot ((a0,a1,a2),(a3,a4,a5),a6,a7,a8)) (by have:=HL.out;omega);rw [HL.out] at r3 o3;have R3:=Lib.hid r3;have O3:=Lib.hid o3;have V3:=Lib.hid v3;have HV:Hid (∀i,i<w.heap.size→u3.ownBlock=some i→noBlk i):=fun i hi e=>absurd hi (by have:=(O2.out.blk e).1;omega);clear r3 o3 v3;generalize rot ((a0,a1,a2),(a3,a4,a5),a6,a7,a8)=rt at *;obtain ⟨⟨c0,c1,c2⟩,⟨c3,c4,c5⟩,⟨c6,c7,c8⟩⟩:=rt;unfold triV triC;go_wp2_with (at_builtin;refine wpList_append_run rfl _ _ _ rfl rfl rfl R3.out ?_)
   refine ⟨⟨k+1,by go_num,hlt,?_,U2.out.then V3.out HV.out⟩,by simp [intOf];omega⟩;rw [HT.out];exact O3.out
  ·obtain rfl:k=l.length:=by omega
   have hl2:((l.take l.length).map rot)=l.map rot:=by rw [List.take_length]
   have hown:=HO.out;rw [hl2] at hown;have HS:=Lib.hid (sort_any u3 (l.map rot) (by rw [List.length_map];omega) wr hown);obtain ⟨A3,c3,hv3,_⟩:=hown.form;have HB:Hid (∀i,i<w.heap.size→u3.ownBlock=some i→noBlk i):=fun i hi e=>absurd hi (by have:=(HO.out.blk e).1;omega);rw [List.length_map] at hv3;subst hv3;clear hown;go_wp2_with fail
   refine HS.out.mono ?_;rintro e w2 ⟨rfl,r2,u2⟩;have R2:=Lib.hid r2;have U2:=Lib.hid (HU.out.then u2 HB.out);clear r2 u2;go_wp2_with fail
   go_ret
   exact ⟨_,rfl,R2.out,U2.out⟩
end Go.Proofs.YtcikldoaidmnhaaGreatDoor
namespace Go.Proofs.YtcikldoaidmnhaaGreatDoor
open Go Go.RowKit Pk
set_option maxRecDepth 100000
theorem or128:∀x,x<256→x ||| 128=x % 128+128:=by decide +kernel
theorem digB_small {n:Nat} (h:n<128):digB n=[UInt8.ofNat n]:=by rw [digB,dif_pos h]
theorem digB_big {n:Nat} (h:¬n<128):digB n=UInt8.ofNat (n % 128+128) :: digB (n / 128):=by rw [digB,dif_neg h]
theorem digB_len9:∀(k n:Nat),n<128 ^ k→0<k→(digB n).length≤k
 | 0,_,_,h=>absurd h (by omega)
 | k+1,n,h,_=>by
  by_cases hn:n<128
  ·rw [digB_small hn];simp
  ·rw [digB_big hn,List.length_cons];have hk:0<k:=by
    rcases Nat.eq_zero_or_pos k with rfl | hk
    ·simp at h;omega
    ·exact hk
   have:=digB_len9 k (n / 128) (by rw [Nat.pow_succ] at h;omega) hk;omega
theorem digB_ten {n:Nat} (h:n<9223372036854775808):(digB n).length≤10:=digB_len9 10 n (Nat.lt_of_lt_of_le h (by decide)) (by decide)
theorem u8_or {m:Nat}:bits .or .u8 ((m:Int) % 256) 128=(((UInt8.ofNat (m % 128+128)).toNat:Nat):Int):=by
 have e:(m:Int) % 256=((m % 256:Nat):Int):=by omega
 have e2:(128:Int)=((128:Nat):Int):=rfl;rw [e,e2,u8_or_nat _ _ (by omega) (by omega),or128 _ (by omega),u8_small (by omega)];congr 1
 omega
set_option maxHeartbeats 1000000 in
theorem digits_any (n:Nat) (hn:n<9223372036854775808) (w:World):Calls Tryz.prog 80 #[.int .i64 n] w fun en w'=>strR (digB n) w en w':=by
 have HN:Hid (n<9223372036854775808):=hn;have HT:=Lib.hid (digB_ten hn);have h63:(n:Int)≤9223372036854775807:=by omega
 clear hn;go_enter Tryz.func80,Tryz.ntmps80
 go_wp2_with fail
 go_loopw [0,3] (fun i o wr=>∃(m:Nat) (L:Bytes),i=.int .i64 m∧L++digB m=digB n∧m≤n∧wr.ownsRow w.heap.size 5 1 o L.length (byV L)∧Upd noBlk w wr) (fun i _ _=>(intOf i).toNat)
 case atStart=>exact ⟨n,[],rfl,rfl,Nat.le_refl _,World.ownsRow_nil _ _ _ _,Upd.refl _ _⟩
 case round=>
  obtain ⟨m,L,rfl,h1,h2,h3,h4⟩:=hrel;have HL:=Lib.hid h1;have HM:=Lib.hid h2;have HO:=Lib.hid h3;have HU:=Lib.hid h4;have hm63:(m:Int)≤9223372036854775807:=by omega
  have HLL:Hid (L.length≤10):=by have h5:=congrArg List.length h1;rw [List.length_append] at h5;have:=HT.out;show _≤_;omega
  obtain ⟨A,cap,rfl⟩:=own_form h3;clear h1 h2 h3 h4 h63;by_cases hb:m<128
  ·have hb':(m:Int)<128:=by omega
   have hb'':¬(128:Int)≤(m:Int):=by omega
   have HB:=Lib.hid hb;clear hb;obtain ⟨g,cap3,w3,r3,o3,u3⟩:=append_by HU.out.size HO.out (UInt8.ofNat m) (by have:=HLL.out;omega);rw [u8_small (by have:=HB.out;omega)] at r3;have R3:=Lib.hid r3;have HW3:Hid (Upd noBlk w w3):=HU.out.then u3 (fun i hi e=>absurd (HO.out.lt i e).1 (by omega));have HCV:=Lib.hid (conv_bs rfl o3);have hlen:(L++[UInt8.ofNat m]).length=L.length+1:=by simp
   have HDN:Hid (L++[UInt8.ofNat m]=digB n):=by show _=_;rw [←HL.out,digB_small HB.out]
   have hc3:((convert 41 9 (.slice (some ⟨g,0,none⟩) (L.length+1) cap3)).run Tryz.prog w3=.ok (.string (bs (digB n))) w3):=by rw [←HDN.out];exact HCV.out
   clear r3 o3 u3 hlen HCV;go_wp2_with (first | (at_builtin;refine wpList_append_run rfl _ _ _ rfl rfl rfl R3.out ?_))
   go_ret
   exact ⟨rfl,HW3.out⟩
  ·have hb':(128:Int)≤(m:Int):=by omega
   have HB:=Lib.hid hb;clear hb;have hor:=u8_or (m:=m);obtain ⟨g,cap3,w3,r3,o3,u3⟩:=append_by HU.out.size HO.out (UInt8.ofNat (m % 128+128)) (by have:=HLL.out;omega);obtain ⟨x,hx⟩:∃x,x=(UInt8.ofNat (m % 128+128)).toNat:=⟨_,rfl⟩;rw [←hx] at r3 hor;have R3:=Lib.hid r3;have O3:=Lib.hid o3;have HW3:Hid (Upd noBlk w w3):=HU.out.then u3 (fun i hi e=>absurd (HO.out.lt i e).1 (by omega));clear r3 o3 u3 hx;go_wp2_with (first | (at_builtin;refine wpList_append_run rfl _ _ _ rfl rfl rfl R3.out ?_))
   refine ⟨⟨m / 128,L++[UInt8.ofNat (m % 128+128)],by go_num,?_,by have:=HM.out;omega,?_,HW3.out⟩,?_⟩
   ·rw [←HL.out,digB_big HB.out];simp
   ·have:=O3.out;rw [List.length_append] at this ⊢;exact this
   ·simp only [intOf];have:=HB.out;omega
end Go.Proofs.YtcikldoaidmnhaaGreatDoor
namespace Go.Proofs.YtcikldoaidmnhaaGreatDoor
open Go Go.RowKit Pk
set_option maxRecDepth 100000
theorem conv32 (h:H32) {w:World} {b off:Nat} (ha:w.rangeAt b off (byV h.1)):(convert 41 9 (.slice (some ⟨b,off,none⟩) 32 32)).run Tryz.prog w=.ok (.string (bs h.1)) w:=by
 have:=conv_mid (cap:=32) ha;rw [h.2] at this;exact this
set_option maxHeartbeats 2000000 in
theorem parts_any (v:Value) (l:List P32) (hl:l.length≤65536) (w:World) (h:kPart.Rd w v l):Calls Tryz.prog 73 #[v] w fun en w'=>strR (partsB (l.map plainP)) w en w':=by
 obtain ⟨A,cap,rfl,hcap,hx⟩:=h;have HX:=Lib.hid hx;have HDG:=fun W=>Lib.hid (digits_any l.length (by omega) W);have hl':(l.length:Int)≤65536:=by omega
 have HPB:Hid (partsB (l.map plainP)=digB l.length++(l.map plainP).flatMap (fun p=>p.1++p.2)):=by show _=_;unfold partsB;rw [List.length_map]
 have HDL:=Lib.hid (digB_ten (n:=l.length) (by omega));clear hx hl;go_enter Tryz.func73,Tryz.ntmps73
 go_wp2_with fail
 refine (HDG _).out.mono ?_;rintro e w1 ⟨rfl,u1⟩;have U1:=Lib.hid u1;clear u1 HDG;go_wp2_with fail
 go_loopw [3,11] (fun s i wr=>∃k:Nat,i=.int .i64 k∧k≤l.length∧s=.string (bs (digB l.length++((l.take k).map plainP).flatMap (fun p=>p.1++p.2)))∧Upd noBlk w wr) (fun _ i _=>l.length-(intOf i).toNat)
 case atStart=>exact ⟨0,rfl,Nat.zero_le _,by simp,U1.out⟩
 case round=>
  obtain ⟨k,rfl,hk,rfl,hu⟩:=hrel;have HU:=Lib.hid hu;clear hu;by_cases hlt:k<l.length
  ·have hlt':(k:Int)<(l.length:Int):=by omega
   obtain ⟨b,off,rfl,f1⟩:=HX.out (by omega);have hat:=(f1 k hlt).keep HU.out;have hk64:kPart.k=64:=rfl;rw [hk64] at hat;have HAT:=Lib.hid hat;have HTK:Hid (((l.take (k+1)).map plainP).flatMap (fun p=>p.1++p.2)=((l.take k).map plainP).flatMap (fun p=>p.1++p.2)++(l[k].1.1++l[k].2.1)):=by
    show _=_;rw [List.take_succ_eq_append_getElem hlt,List.map_append,List.flatMap_append];simp [plainP]
   clear f1 hat hk64;generalize l[k]=pk at *;have HI:Hid ((Tryz.prog.info? 83).map (·.size)=some (partC pk).length):=by show _=_;rw [partC_len];kernel_rfl
   have HST:∀c:Array Value,c.size=64→(storeCells ⟨wr.heap.size,0,none⟩ (partC pk) 0).run Tryz.prog (wr.alloc (.cells c 83))=.ok () (wr.alloc (.cells (partC pk).toArray 83)):=fun c hc=>by
    have:=run_storeCells_new (P:=Tryz.prog) wr 83 c (partC pk).toArray (by simpa using HI.out) (by simp [hc,partC_len]) (all_oneCell_toArray (partC_one pk));simpa using this
   have hlen:=partC_len pk;go_wp2_with (first | (refine wpList_load_mid rfl _ _ rfl b (off+k*64) rfl (partC pk) _ HAT.out Tryz.underlying83 rfl HI.out ?_))
   clear HST;have HR1:Hid (kPart.At (wr.alloc (.cells (partC pk).toArray 83)) wr.heap.size 0 pk):=by
    show World.rangeAt _ _ _ _;intro j v hv;rw [Nat.zero_add,cell_of_row _ _ j (partC pk).toArray 83 (0,0) (heap_alloc_last wr _)];have hv':(partC pk)[j]?=some v:=hv;simpa using hv'
   have HU1:Hid (Upd noBlk w (wr.alloc (.cells (partC pk).toArray 83))):=HU.out.alloc _;have HBS:Hid (wr.heap.size<(wr.alloc (.cells (partC pk).toArray 83)).heap.size):=by show _<(wr.heap.push _).size;rw [Array.size_push];omega
   have HPL:Hid ((digB l.length++((l.take k).map plainP).flatMap (fun p=>p.1++p.2)).length≤10+k*64):=by
    show _≤_;have h1:=HDL.out;have h2:(((l.take k).map plainP).flatMap (fun p=>p.1++p.2)).length=(l.take k).length*64:=by
     generalize l.take k=q;induction q with
     | nil=>rfl
     | cons p q ih=>rw [List.map_cons,List.flatMap_cons,List.length_append,ih];simp [plainP,p.1.2,p.2.2];omega
    rw [List.length_append,h2,List.length_take,Nat.min_eq_left hk];omega
   have HEQ:Hid (digB l.length++((l.take (k+1)).map plainP).flatMap (fun p=>p.1++p.2)=(digB l.length++((l.take k).map plainP).flatMap (fun p=>p.1++p.2))++(pk.1.1++pk.2.1)):=by
    show _=_;rw [HTK.out,List.append_assoc]
   clear HTK HAT HI HX;have hpre:∃pre,pre=digB l.length++((l.take k).map plainP).flatMap (fun p=>p.1++p.2):=⟨_,rfl⟩;obtain ⟨pre,hpre⟩:=hpre;simp only [←List.map_take];rw [←hpre] at HPL HEQ ⊢;clear hpre;generalize hbb:wr.heap.size=bb at *;generalize wr.alloc (.cells (partC pk).toArray 83)=wa at *;clear hbb hlen;have HS1:Hid (¬9223372036854775807<(bs pk.1.1).size+(bs pk.2.1).size):=by show ¬_;rw [bs_size,bs_size,pk.1.2,pk.2.2];omega
   have HS2:Hid (¬9223372036854775807<(bs pre).size+((bs pk.1.1).size+(bs pk.2.1).size)):=by show ¬_;rw [bs_size,bs_size,bs_size,pk.1.2,pk.2.2];have:=HPL.out;omega
   refine wp_region_tree 9 (OT.sures [0,1,2,3,4,5,6,7,8] .nil) (fun w'=>Upd noBlk wa w') (by kernel_rfl) (by kernel_rfl) (fun c a d v w h=>by cases d<;>exact h) ((Upd.refl noBlk wa).drew) ?_
   simp only [OT.sures]
   iterate 9 (apply wpT_sure rfl rfl;focus (intro w' hw';obtain ⟨ra,rb⟩:=part_ranges (HR1.out.keep hw');have c1:=conv32 pk.1 ra;have c2:=conv32 pk.2 rb;have s1:=HS1.out;have s2:=HS2.out;go_simp;rfl))
   refine wpT_nil ?_;go_wp2_with fail
   refine ⟨⟨k+1,by push_cast;rfl,by omega,?_,HU1.out.drew⟩,?_⟩
   ·rw [HEQ.out,bs_append,bs_append]
   ·simp only [intOf];omega
  ·obtain rfl:k=l.length:=by omega
   go_wp2_with fail
   go_ret
   refine ⟨?_,HU.out⟩;rw [HPB.out,List.take_length];rfl
end Go.Proofs.YtcikldoaidmnhaaGreatDoor
namespace Go.Proofs.YtcikldoaidmnhaaGreatDoor
open Go Go.RowKit Pc
set_option maxRecDepth 100000
def rZero (code:List Nat):Array Value:=#[.slice none 0 0,.int .u32 0,.string (str code),.int .u32 0]
set_option maxHeartbeats 400000 in
theorem NewReader_any (code:List Nat) (w:World):Calls Tryz.prog 115 #[.string (str code)] w fun e w'=>e=.returned (.pointer (some ⟨w.heap.size,0,none⟩))∧w.alloc (.cells (rZero code) 227)=w':=by
 go_enter Tryz.func115,Tryz.ntmps115
 go_wp2
 go_ret
 exact ⟨rfl,rfl⟩
theorem NewReader_rep {code:List Nat} (h:∀x,x∈code→x<256) (w:World):RRep (w.alloc (.cells (rZero code) 227)) w.heap.size (D.ofCode code) (·=w.heap.size):=
 .inl ⟨code,h,rfl,heap_alloc_new w _,rfl⟩
end Go.Proofs.YtcikldoaidmnhaaGreatDoor
namespace Go.Proofs.YtcikldoaidmnhaaGreatDoor
open Go Go.RowKit
namespace Pk
open Pc
theorem coordM_in {d d':D} {c near x:Int} (h:coordM d c near=some (x,d')):inC x:=by
 unfold coordM at h;split at h
 ·rename_i hc;obtain ⟨rfl,rfl⟩:=Prod.mk.inj (Option.some.inj h);exact hc.2.2
 ·cases h
theorem placeM_in {d d':D} {c:Int} {near p:Pt} (h:placeM d c near=some (p,d')):inP p:=by
 unfold placeM at h;split at h
 ·cases h
 ·rename_i x d1 h1
  split at h
  ·cases h
  ·rename_i y d2 h2
   split at h
   ·cases h
   ·rename_i z d3 h3
    obtain ⟨rfl,rfl⟩:=Prod.mk.inj (Option.some.inj h);have a1:=coordM_in h1;have a2:=coordM_in h2;have a3:=coordM_in h3;exact ⟨a1.1,a1.2,a2.1,a2.2,a3.1,a3.2⟩
theorem getK_mem {known:List Pt} {n:Nat} (h:n<known.length):getK known n∈known:=by
 unfold getK;rw [List.getD_eq_getElem?_getD,List.getElem?_eq_getElem (by omega)];exact List.getElem_mem _
theorem cornerM_in {strict:Bool} {d d':D} {known known':List Pt} {near p:Pt} {b n q:Int} (h:cornerM strict d known near b n q=some (p,known',d')) (hk:∀p,p∈known→inP p):inP p∧(∀p,p∈known'→inP p)∧known'.length≤known.length+1:=by
 unfold cornerM at h;split at h
 ·split at h
  ·rename_i hc
   obtain ⟨rfl,h2⟩:=Prod.mk.inj (Option.some.inj h);obtain ⟨rfl,rfl⟩:=Prod.mk.inj h2;exact ⟨hk _ (getK_mem hc.2),hk,Nat.le_succ _⟩
  ·cases h
 ·split at h
  ·cases h
  ·rename_i p' d1 h1
   split at h
   ·cases h
   ·obtain ⟨rfl,h2⟩:=Prod.mk.inj (Option.some.inj h);obtain ⟨rfl,rfl⟩:=Prod.mk.inj h2;exact ⟨placeM_in h1,meetK_in hk (placeM_in h1),meetK_len _ _⟩
structure OInv (w:Wk):Prop where
 known:∀p,p∈w.known→inP p
 gates:∀g,g∈w.gates→inP g.1∧inP g.2.1∧inP g.2.2
 tris:∀t,t∈w.tris→inT t
 klen:w.known.length≤3*w.tris.length
 glen:w.gates.length≤3*w.tris.length
theorem OInv.init:OInv Wk.init:=⟨fun p h=>(by cases h),fun g h=>(by cases h),fun t h=>(by cases h),Nat.le_refl _,Nat.le_refl _⟩
theorem OInv.visit {w:Wk} {t:Tri} {first:Nat} (ht:inT t) (k:∀p,p∈w.known→inP p) (g:∀g,g∈w.gates→inP g.1∧inP g.2.1∧inP g.2.2) (hs:∀t,t∈w.tris→inT t) (kl:w.known.length≤3*(w.tris.length+1)) (gl:w.gates.length+(3-first)≤3*(w.tris.length+1)):OInv (w.visit t first):=by
 refine ⟨k,fun x hx=>?_,fun x hx=>?_,?_,?_⟩
 ·rcases List.mem_append.1 hx with hx | hx
  ·exact g x hx
  ·exact gatesT_in ht (List.mem_of_mem_drop hx)
 ·rcases List.mem_append.1 hx with hx | hx
  ·exact hs x hx
  ·rw [List.mem_singleton] at hx;subst hx;exact ht
 ·show w.known.length≤3*(w.tris++[t]).length;rw [List.length_append];simp only [List.length_cons,List.length_nil];omega
 ·show (w.gates++(gatesT t).drop first).length≤3*(w.tris++[t]).length;rw [List.length_append,List.length_append,List.length_drop];have:(gatesT t).length=3:=rfl;simp only [List.length_cons,List.length_nil];omega
def potM (many:Nat) (w:Wk):Nat:=4*(many-w.tris.length)+w.gates.length
theorem potM_visit {many:Nat} {w:Wk} {t:Tri} {first n:Nat} (h:w.tris.length<many) (hn:w.gates.length+(3-first)<n+4):potM many (w.visit t first)<4*(many-w.tris.length)+n:=by
 show 4*(many-(w.tris++[t]).length)+(w.gates++(gatesT t).drop first).length<_;rw [List.length_append,List.length_append,List.length_drop];have:(gatesT t).length=3:=rfl;simp only [List.length_cons,List.length_nil];omega
theorem runM_done {strict:Bool} {many f:Nat} {d:D} {w:Wk} (h:many≤w.tris.length):runM strict many f d w=some w.tris:=by
 cases f with
 | zero=>exact if_pos h
 | succ f=>exact if_pos h
theorem runM_step {strict:Bool} {many f:Nat} {d:D} {w:Wk} (h:¬many≤w.tris.length):runM strict many (f+1) d w=match stepM strict d w with
  | none=>none
  | some (d',w')=>runM strict many f d' w':=if_neg h
theorem visitM_inv {w w':Wk} {t:Tri} {first:Nat} {d d':D} (h:visitM false w t first d=some (d',w')):w'=w.visit t first:=by
 unfold visitM at h;split at h
 ·obtain ⟨rfl,rfl⟩:=Prod.mk.inj (Option.some.inj h);rfl
 ·cases h
theorem stepM_inv {d d':D} {w w':Wk} (hi:OInv w) (h:stepM false d w=some (d',w')):OInv w'∧w'.tris.length≤w.tris.length+1:=by
 obtain ⟨K,tr,gs⟩:=w;unfold stepM at h;simp only at h;have hkl:K.length≤3*tr.length:=hi.klen;have hgl:gs.length≤3*tr.length:=hi.glen;rcases hog:openG tr gs with _ | ⟨g,r⟩
 ·rw [hog] at h;simp only at h;split at h
  ·cases h
  ·rename_i p k1 d1 h1
   split at h
   ·cases h
   ·rename_i q k2 d2 h2
    split at h
    ·cases h
    ·rename_i x k3 d3 h3
     obtain ⟨a1,b1,c1⟩:=cornerM_in h1 hi.known;obtain ⟨a2,b2,c2⟩:=cornerM_in h2 b1;obtain ⟨a3,b3,c3⟩:=cornerM_in h3 b2;rw [visitM_inv h];refine ⟨OInv.visit ⟨a1,a2,a3⟩ b3 (fun g hg=>(by cases hg)) hi.tris (by show k3.length≤3*(tr.length+1);omega) (by show 0+3≤3*(tr.length+1);omega),?_⟩;show (tr++[_]).length≤_;simp
 ·rw [hog] at h;simp only at h;have hr:∀x,x∈r→x∈gs:=fun x hx=>openG_mem (tris:=tr) (by rw [hog];exact List.mem_cons_of_mem _ hx);have hg:=hi.gates g (openG_mem (by rw [hog];exact List.mem_cons_self));have hl:r.length+1≤gs.length:=by have h1:=openG_len tr gs;rw [hog] at h1;exact h1
  split at h
  ·split at h
   ·cases h
   ·rename_i p k d1 h1
    obtain ⟨a1,b1,c1⟩:=cornerM_in h1 hi.known;rw [visitM_inv h];refine ⟨OInv.visit ⟨hg.1,hg.2.1,a1⟩ b1 (fun x hx=>hi.gates x (hr x hx)) hi.tris (by show k.length≤3*(tr.length+1);omega) (by show r.length+2≤3*(tr.length+1);omega),?_⟩;show (tr++[_]).length≤_;simp
  ·obtain ⟨_,rfl⟩:=Prod.mk.inj (Option.some.inj h);exact ⟨⟨hi.known,fun x hx=>hi.gates x (hr x hx),hi.tris,hkl,by show r.length≤3*tr.length;omega⟩,Nat.le_succ _⟩
theorem runM_inv {many:Nat}:∀{f:Nat} {d:D} {w:Wk} {T:List Tri},OInv w→w.tris.length≤many→runM false many f d w=some T→(∀t,t∈T→inT t)∧T.length≤many
 | 0,d,w,T,hi,hl,h=>by
  unfold runM at h;split at h
  ·cases h;exact ⟨hi.tris,hl⟩
  ·cases h
 | f+1,d,w,T,hi,hl,h=>by
  by_cases hm:many≤w.tris.length
  ·rw [runM_done hm] at h;cases h;exact ⟨hi.tris,hl⟩
  ·rw [runM_step hm] at h;rcases hs:stepM false d w with _ | ⟨d',w'⟩
   ·rw [hs] at h;cases h
   ·rw [hs] at h;obtain ⟨h1,h2⟩:=stepM_inv hi hs;exact runM_inv h1 (by omega) h
theorem openM_in {s:List Nat} {T:List Tri} (h:openM false s=some T):(∀t,t∈T→inT t)∧T.length≤128:=by
 unfold openM at h;split at h
 ·split at h
  ·rename_i hc
   obtain ⟨h1,h2⟩:=runM_inv OInv.init (Nat.zero_le _) h;exact ⟨h1,by omega⟩
  ·cases h
 ·cases h
theorem canon_in {T:List Tri} (h:∀t,t∈T→inT t):∀t,t∈canon T→inT t:=fun t ht=>by
 obtain ⟨t',h1,h2⟩:=(canon_alike T).mem ht;exact h2.inT (h t' h1)
end Pk
end Go.Proofs.YtcikldoaidmnhaaGreatDoor
namespace Go.Proofs.YtcikldoaidmnhaaGreatDoor
open Go Go.RowKit Pk Pc
set_option maxRecDepth 100000
theorem cellF1 {w:World} {b:Nat} {x:Value} {t:TypeId} (h:w.heap[b]?=some (.cells #[x] t (0,0))):w.cell? ⟨b,0,none⟩=some x∧w.frozen? ⟨b,0,none⟩=false:=by simp [World.cell?,World.frozen?,h]
set_option maxHeartbeats 1000000 in
theorem caught_panic (b:Nat) (x:Value) (T:TypeId) (w:World) (hb:w.heap[b]?=some (.cells #[x] T (0,0))) :
  CallsD Tryz.prog 113 #[.pointer (some ⟨b,0,none⟩)] (.panicking [{ v:=wrongV,recovered:=false }]) w fun e u' w'=>
   e=.returned (.tuple #[])∧u'=.panicking [{ v:=wrongV,recovered:=true }]∧w'=(w.alloc (.cells #[] 224)).setCell ⟨b,0,none⟩ (.int .i64 13):=by
 obtain ⟨hc,hz⟩:=cellF1 (((Upd.refl noBlk w).alloc (.cells #[] 224)).heap hb id);unfold wrongV;refine callsD_of_wpS Tryz.func113 rfl fun c₀ cs hu=>?_;simp only [Tryz.ntmps113,List.size_toArray,List.length_cons,List.length_nil,Nat.reduceAdd,Nat.reduceSub,Array.replicate_succ,
  Array.replicate_zero,List.push_toArray,List.append_toArray,List.nil_append,List.cons_append]
 apply wpS_seq;apply wpS_region;generalize hQ:Exit.thenS (Code.wpS _ _ _) _=Q;simp only [List.size_toArray,List.length_cons,List.length_nil,Nat.reduceAdd,List.range,List.range.loop];rw [wpOpsS];go_simp
 have hr:recoverD (c₀ :: cs)=some (.iface 224 (.agg #[]),{ c₀ with mode:=.panicking [{ v:=.iface 224 (.agg #[]),recovered:=true }] } :: cs):=by simp only [recoverD,hu]
 rw [hr];simp only;rw [wpOpsS];go_simp
 rw [wpOpsS,←hQ];refine wpS_of_wp ?_;clear hQ Q hr;have hta:∀W:World,(Instr.typeAssert (.iface 224 (.agg #[])) 20 224 true).run Tryz.prog W=.ok (.tuple #[.agg #[],.bool true]) W:=fun _=>by kernel_rfl
 go_wp2_with fail
 exact ⟨rfl,_,rfl,_,results_none rfl _ _ _,rfl,rfl,rfl⟩
set_option maxHeartbeats 1000000 in
theorem caught_idle (p:Addr) (w:World) :
  CallsD Tryz.prog 113 #[.pointer (some p)] .returning w fun e u' w'=>e=.returned (.tuple #[])∧u'=.returning∧w'=w:=by
 refine callsD_of_wpS Tryz.func113 rfl fun c₀ cs hu=>?_;simp only [Tryz.ntmps113,List.size_toArray,List.length_cons,List.length_nil,Nat.reduceAdd,Nat.reduceSub,Array.replicate_succ,
  Array.replicate_zero,List.push_toArray,List.append_toArray,List.nil_append,List.cons_append]
 apply wpS_seq;apply wpS_region;generalize hQ:Exit.thenS (Code.wpS _ _ _) _=Q;simp only [List.size_toArray,List.length_cons,List.length_nil,Nat.reduceAdd,List.range,List.range.loop];rw [wpOpsS];go_simp
 have hr:recoverD (c₀ :: cs)=none:=by simp only [recoverD,hu]
 rw [hr];simp only;rw [wpOpsS];go_simp
 rw [wpOpsS,←hQ];refine wpS_of_wp ?_;clear hQ Q hr;go_wp2_with fail
 refine ⟨rfl,.returning,?_,_,results_none rfl _ _ _,rfl,rfl,rfl⟩;cases c₀;simp only at hu;rw [hu]
theorem load_err {w:World} {eb:Nat} {x:Value} {T:TypeId} (h:w.heap[eb]?=some (.cells #[x] T (0,0))):(loadVar 33 ⟨eb,0,none⟩).run Tryz.prog w=.ok x w:=by
 obtain ⟨hc,_⟩:=cellF1 h;simp [loadVar,go_sem,hc]
theorem results_tmp_cell {fn:Func} {t p:Tmp} {ty:TypeId} (h:fn.results=#[.tmp t,.cell p ty]) (tmps:Array Value) {P:Program} {w:World} {a:Addr} {x:Value} (hp:tmps.getD p undef=.pointer (some a)) (hl:(loadVar ty a).run P w=.ok x w) :
  (results fn tmps).run P w=.ok (.tuple #[tmps.getD t undef,x]) w:=by
 have hp':tmps[p]?.getD undef=.pointer (some a):=by simpa using hp
 simp only [results,h];simp [Result.andThen,asAddr,hp',hl]
theorem results_cell_cell {fn:Func} {t p:Tmp} {ty ty2:TypeId} (h:fn.results=#[.cell t ty2,.cell p ty]) (tmps:Array Value) {P:Program} {w:World} {a a2:Addr} {x x2:Value} (ht:tmps.getD t undef=.pointer (some a2)) (hp:tmps.getD p undef=.pointer (some a)) (hl2:(loadVar ty2 a2).run P w=.ok x2 w) (hl:(loadVar ty a).run P w=.ok x w) :
  (results fn tmps).run P w=.ok (.tuple #[x2,x]) w:=by
 have hp':tmps[p]?.getD undef=.pointer (some a):=by simpa using hp
 have ht':tmps[t]?.getD undef=.pointer (some a2):=by simpa using ht
 simp only [results,h];simp [Sem.run_bind,Result.andThen,asAddr,hp',ht',hl,hl2]
theorem door_bad {fn:Func} {tmps:Array Value} {R:Ending→World→Prop} {eb:Nat} {x:Value} {T:TypeId} {w:World} (hb:w.heap[eb]?=some (.cells #[x] T (0,0)))
  (h:∀W,W.heap[eb]?=some (.cells #[.int .i64 13] T (0,0))→Upd (fun k=>k=eb) w W→∃v,(results fn tmps).run Tryz.prog W=.ok v W∧R (.returned v) W) :
  bodyPostD Tryz.prog fn R (.panic [{ v:=wrongV,recovered:=false }]) { tmps:=tmps,defers:=[{ target:=.fn (.func 113) #[],args:=#[.pointer (some ⟨eb,0,none⟩)] }] } w:=by
 refine leaves_cons (f:=113) (args:=#[.pointer (some ⟨eb,0,none⟩)]) (by simp) (by simp [go_sem]) ?_;refine (caught_panic _ _ _ _ hb).mono ?_;rintro e u' w'' ⟨rfl,rfl,rfl⟩;have hu:Upd (fun k=>k=eb) w (w.alloc (.cells #[] 224)):=(Upd.refl _ w).alloc _;refine h _ (heap_setCell_eq (i:=0) (.int .i64 13) (((Upd.refl noBlk w).alloc _).heap hb id)) (hu.setCell (p:=⟨eb,0,none⟩) (fun _=>rfl) _)
theorem door_good {fn:Func} {tmps:Array Value} {R:Ending→World→Prop} {eb:Nat} {w:World} (h:∃v,(results fn tmps).run Tryz.prog w=.ok v w∧R (.returned v) w) :
  bodyPostD Tryz.prog fn R .ret { tmps:=tmps,defers:=[{ target:=.fn (.func 113) #[],args:=#[.pointer (some ⟨eb,0,none⟩)] }] } w:=by
 refine leaves_cons (f:=113) (args:=#[.pointer (some ⟨eb,0,none⟩)]) (by simp) (by simp [go_sem]) ?_;refine (caught_idle _ _).mono ?_;rintro e u' w'' ⟨rfl,rfl,rfl⟩;exact h
end Go.Proofs.YtcikldoaidmnhaaGreatDoor
namespace Go.Proofs.YtcikldoaidmnhaaGreatDoor
open Go Go.RowKit Pk
theorem good_plain (l:List P32):∀p,p∈l.map plainP→goodPart p:=fun p hp=>by
 obtain ⟨x,_,rfl⟩:=List.mem_map.1 hp;exact ⟨x.1.2,x.2.2⟩
end Go.Proofs.YtcikldoaidmnhaaGreatDoor
namespace Go.Proofs.YtcikldoaidmnhaaGreatDoor
open Go Go.RowKit Pk
set_option maxRecDepth 100000
def RdJ (w:World) (b:Nat) (s:Bytes) (bad:Bool):Prop:=w.heap[b]?=some (.cells #[.string (bs s),.bool bad] 147 (0,0))
theorem cellF2 {w:World} {b:Nat} {x0 x1:Value} {t:TypeId} (h:w.heap[b]?=some (.cells #[x0,x1] t (0,0))) :
  (w.cell? ⟨b,0,none⟩=some x0∧w.cell? ⟨b,1,none⟩=some x1)∧(w.frozen? ⟨b,0,none⟩=false∧w.frozen? ⟨b,1,none⟩=false):=by simp [World.cell?,World.frozen?,h]
theorem RdJ.bad {w:World} {b:Nat} {s:Bytes} {x:Bool} (h:RdJ w b s x):RdJ (w.setCell ⟨b,1,none⟩ (.bool true)) b s true:=by
 have:=heap_setCell_eq (i:=1) (.bool true) h;simpa [RdJ] using this
theorem RdJ.str {w:World} {b:Nat} {s:Bytes} {x:Bool} (h:RdJ w b s x) (s':Bytes):RdJ (w.setCell ⟨b,0,none⟩ (.string (bs s'))) b s' x:=by
 have:=heap_setCell_eq (i:=0) (.string (bs s')) h;simpa [RdJ] using this
theorem wrapQ {n:Int} (h0:-9223372036854775808≤n) (h1:n≤9223372036854775807):IntKind.i64.wrap n=n:=by
 rw [IntKind.wrap_i64];omega
theorem numStep {c acc U P:Nat} (hc:c<256) (ha:acc<U) (hU:U≤72057594037927936) (hP:P=c % 128*U) :
  wrap64 (c:Int)=(c:Int)∧(c:Int).tmod 128=((c % 128:Nat):Int)∧((c % 128:Nat):Int)*(U:Int)=(P:Int)∧wrap64 (P:Int)=(P:Int)∧wrap64 ((acc:Int)+(P:Int))=((acc+P:Nat):Int)∧acc+P<U*128∧acc+P<9223372036854775808∧wrap64 ((acc:Int)+wrap64 ((c:Int) % 128*(U:Int)))=((acc+P:Nat):Int):=by
 have h1:c % 128*U≤127*U:=Nat.mul_le_mul_right _ (by omega);rw [←hP] at h1;refine ⟨by unfold wrap64;omega,?_,by rw [hP];push_cast;rfl,by unfold wrap64;omega,by unfold wrap64;omega,by omega,by omega,?_⟩
 ·rw [Int.tmod_eq_emod_of_nonneg (Int.natCast_nonneg _)];rfl
 ·rw [show (c:Int) % 128*(U:Int)=(P:Int) by rw [hP];push_cast;rfl,show wrap64 (P:Int)=(P:Int) by unfold wrap64;omega];unfold wrap64;omega
theorem pow56 {k:Nat} (h:k<9):128 ^ k≤72057594037927936:=by
 rw [show (128:Nat) ^ k=2 ^ (7*k) by rw [Nat.pow_mul]];exact Nat.pow_le_pow_right (n:=2) (i:=7*k) (j:=56) (by decide) (by omega)
theorem one0:Value.int .i64 1=.int .i64 (wrap64 ((128 ^ 0:Nat):Int)):=by
 rw [Nat.pow_zero,show wrap64 ((1:Nat):Int)=1 by unfold wrap64;omega]
theorem numR_nil (k unit acc:Nat):numR k unit acc []=none:=by cases k<;>rfl
set_option maxHeartbeats 2000000 in
theorem jNumR_any (b:Nat) (s:Bytes) (bad:Bool) (w:World) (h:RdJ w b s bad) :
  Calls Tryz.prog 86 #[.pointer (some ⟨b,0,none⟩)] w fun en w'=>∃(n:Nat) (s':Bytes) (bad':Bool),en=.returned (.int .i64 (n:Int))∧RdJ w' b s' bad'∧StepB readNum s bad n s' bad'∧n<9223372036854775808∧Upd (fun k=>k=b) w w':=by
 obtain ⟨tgt,htgt⟩:∃t,t=readNum s:=⟨_,rfl⟩;have HT:Hid (numR 9 1 0 s=tgt):=htgt.symm;have HST:Hid (∀n s' b',(tgt=none∧b'=true)∨(tgt=some (n,s')∧b'=bad)→StepB readNum s bad n s' b'):=by
  rintro n s' b' (⟨h1,rfl⟩ | ⟨h1,rfl⟩)
  ·exact .none (.inr (htgt.symm.trans h1))
  ·cases hb:b' with
   | true=>exact .none (.inl rfl)
   | false=>exact .some (htgt.symm.trans h1)
 have HR:=Lib.hid h;clear htgt h;go_enter Tryz.func86,Tryz.ntmps86
 go_wp2_with fail
 go_loopw [3,4,5] (fun n u i wr=>∃(k acc:Nat) (s':Bytes),n=.int .i64 acc∧u=.int .i64 (wrap64 ((128 ^ k:Nat):Int))∧i=.int .i64 (k:Int)∧k≤9∧acc<128 ^ k∧RdJ wr b s' bad∧numR (9-k) (128 ^ k) acc s'=tgt∧Upd (fun k=>k=b) w wr) (fun _ _ i _=>9-(intOf i).toNat)
 case atStart=>exact ⟨0,0,s,rfl,one0,rfl,by decide,by decide,HR.out,HT.out,Upd.refl _ _⟩
 case round=>
  obtain ⟨k,acc,s',rfl,rfl,rfl,hk,ha,hr,ht,hu⟩:=hrel;have HR2:=Lib.hid hr;have HT2:=Lib.hid ht;have HU:=Lib.hid hu;have HA:Hid (acc<128 ^ k):=ha;clear hr ht hu ha;obtain ⟨⟨c0,c1⟩,⟨f0,f1⟩⟩:=cellF2 HR2.out;by_cases hk9:k<9
  ·have hlt:(k:Int)<9:=by omega
   have HK:Hid (k<9):=hk9;have hkw:IntKind.i64.wrap ((k:Int)+1)=(k:Int)+1:=wrapQ (by omega) (by omega);clear hk hk9;cases s' with
   | nil=>
    have HTN:Hid (tgt=none):=by show _=_;rw [←HT2.out];exact numR_nil _ _ _
    have hz:(((bs []).size:Nat):Int)=0:=rfl;go_wp2_with fail
    go_ret
    exact ⟨0,[],true,rfl,HR2.out.bad,HST.out _ _ _ (.inl ⟨HTN.out,rfl⟩),by decide,HU.out.setCell (p:=⟨b,1,none⟩) (fun _=>rfl) _⟩
   | cons c r=>
    have hz:0<(bs (c :: r)).size:=by rw [bs_size];simp
    have h0:((bs (c :: r))[0]'hz).toNat=c.toNat:=rfl;have hsz:¬(((bs (c :: r)).size:Nat):Int)=0:=by omega
    have hs1:(1:Int)≤(((bs (c :: r)).size:Nat):Int):=by omega
    have hx:(bs (c :: r)).extract 1 (bs (c :: r)).size=bs r:=by rw [bs_extract,bs_size];simp
    obtain ⟨U,hU⟩:∃U,U=128 ^ k:=⟨_,rfl⟩;have e1:wrap64 ((128 ^ k:Nat):Int)=(U:Int):=by
     have hp:=pow56 HK.out;rw [hU];unfold wrap64;omega
    rw [e1];obtain ⟨P,hP⟩:∃P,P=c.toNat % 128*U:=⟨_,rfl⟩;obtain ⟨hcw,htm,hmu,hmw,haw,hb1,hb2,hfin⟩:=numStep c.toNat_lt (show acc<U by rw [hU];exact HA.out) (by rw [hU];exact pow56 HK.out) hP;have HUU:=Lib.hid hU;have HFN:=Lib.hid hfin;have HP:Hid (P=c.toNat % 128*U):=hP;have HB:Hid (acc+P<U*128∧acc+P<9223372036854775808):=⟨hb1,hb2⟩;obtain ⟨j,hj⟩:∃j,9-k=j+1:=⟨8-k,by have:=HK.out;omega⟩;have ht:=HT2.out;rw [hj,←hU] at ht;have HT3:Hid ((if c.toNat<128 then some (acc+c.toNat % 128*U,r) else numR j (U*128) (acc+c.toNat % 128*U) r)=tgt):=ht;rw [←hP] at HT3;have HJ:Hid (9-k=j+1):=hj;clear ht hj hU hP hb1 hb2 e1 HT2 hfin hcw htm hmu hmw haw;have HRS:=Lib.hid (HR2.out.str r);have HUS:=Lib.hid (HU.out.setCell (p:=⟨b,0,none⟩) (fun _=>rfl) (.string (bs r)));have hcw:wrap64 (c.toNat:Int)=(c.toNat:Int):=(numStep (acc:=0) (U:=1) c.toNat_lt (by decide) (by decide) rfl).1;by_cases hc:c.toNat<128
    ·have HTS:Hid (tgt=some (acc+P,r)):=by show _=_;rw [←HT3.out];exact if_pos hc
     have hc':(c.toNat:Int)<128:=by omega
     clear HT3 hc;go_wp2_with fail
     go_ret
     refine ⟨acc+P,r,bad,?_,HRS.out,HST.out _ _ _ (.inr ⟨HTS.out,rfl⟩),HB.out.2,HUS.out⟩;show Ending.returned (.int .i64 (wrap64 ((acc:Int)+wrap64 ((c.toNat:Int) % 128*(U:Int)))))=_;rw [HFN.out]
    ·have HT4:Hid (numR j (U*128) (acc+P) r=tgt):=by show _=_;rw [←HT3.out];exact (if_neg hc).symm
     have hc':¬(c.toNat:Int)<128:=by omega
     have hc2:(128:Int)≤(c.toNat:Int):=by omega
     clear HT3 hc;go_wp2_with fail
     refine ⟨⟨k+1,acc+P,r,by rw [HFN.out],?_,by push_cast;rfl,HK.out,?_,HRS.out,?_,HUS.out⟩,by simp only [intOf];have:=HK.out;omega⟩
     ·congr 2;rw [Nat.pow_succ,←HUU.out];push_cast;rfl
     ·rw [Nat.pow_succ,←HUU.out];exact HB.out.1
     ·rw [show 9-(k+1)=j by have:=HJ.out;omega,Nat.pow_succ,←HUU.out];exact HT4.out
  ·obtain rfl:k=9:=by omega
   have HTN:Hid (tgt=none):=HT2.out.symm;go_wp2_with fail
   go_ret
   exact ⟨0,s',true,rfl,HR2.out.bad,HST.out _ _ _ (.inl ⟨HTN.out,rfl⟩),by decide,HU.out.setCell (p:=⟨b,1,none⟩) (fun _=>rfl) _⟩
set_option maxHeartbeats 1000000 in
theorem jCount_any (b:Nat) (s:Bytes) (bad:Bool) (w:World) (h:RdJ w b s bad) :
  Calls Tryz.prog 88 #[.pointer (some ⟨b,0,none⟩)] w fun en w'=>∃(n:Nat) (s':Bytes) (bad':Bool),en=.returned (.int .i64 (n:Int))∧RdJ w' b s' bad'∧StepB countR s bad n s' bad'∧n≤65536∧Upd (fun k=>k=b) w w':=by
 have HN:=Lib.hid (jNumR_any b s bad w h);clear h;go_enter Tryz.func88,Tryz.ntmps88
 go_wp2_with fail
 refine HN.out.mono ?_;rintro e w2 ⟨n,s',bad',rfl,hr,hs,hn,hu⟩;have HR:=Lib.hid hr;have HS:=Lib.hid hs;have HU:=Lib.hid hu;have hnI:(n:Int)≤9223372036854775807:=by omega
 clear hr hs hu HN;obtain ⟨⟨c0,c1⟩,⟨f0,f1⟩⟩:=cellF2 HR.out;by_cases hb:n≤65536
 ·have hb':¬(65536:Int)<(n:Int):=by omega
  have HB:Hid (n≤65536):=hb;clear hn hb;cases bad' with
  | true=>
   have HG:Hid (∀n',StepB countR s bad n' s' true):=fun n'=>by
    rcases HS.out with ⟨_,h⟩ | ⟨h,_⟩
    ·refine .none (h.imp id (fun h=>?_));unfold countR;rw [h]
    ·cases h
   clear HS;go_wp2_with fail
   go_ret
   exact ⟨0,s',true,rfl,HR.out,HG.out 0,by decide,HU.out⟩
  | false=>
   have HG:Hid (StepB countR s bad n s' false):=by
    rcases HS.out with ⟨h,_⟩ | ⟨_,rfl,h⟩
    ·cases h
    ·refine .some ?_;unfold countR;rw [h];exact if_neg (by have:=HB.out;omega)
   clear HS;go_wp2_with fail
   go_ret
   exact ⟨n,s',false,rfl,HR.out,HG.out,HB.out,HU.out⟩
 ·have hb':(65536:Int)<(n:Int):=by omega
  have HG:Hid (StepB countR s bad 0 s' true):=by
   rcases HS.out with ⟨_,h⟩ | ⟨_,h2,h⟩
   ·refine .none (h.imp id (fun h=>?_));unfold countR;rw [h]
   ·refine .none (.inr ?_);unfold countR;rw [h];exact if_pos (by omega)
  have HR3:=Lib.hid HR.out.bad;have HU3:=Lib.hid (HU.out.setCell (p:=⟨b,1,none⟩) (fun _=>rfl) (.bool true));clear hn hb HS;go_wp2_with fail
  go_ret
  exact ⟨0,s',true,rfl,HR3.out,HG.out,by decide,HU3.out⟩
end Go.Proofs.YtcikldoaidmnhaaGreatDoor
