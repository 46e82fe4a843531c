/- Parts: Walks of the reference of packets: parts, and the packet of a root. No condition. Walks of the reference's meshes: less, rotated, the order of triangles. No condition. -/
import Derived.Test.YtcikldoaidmnhaaGreatDoorRSpoi1
import Derived.Test.YtcikldoaidmnhaaGreatDoorRSpoi2
import Derived.Test.YtcikldoaidmnhaaGreatDoorRSpoi3
import Derived.Test.YtcikldoaidmnhaaGreatDoorRSpoi4
import Derived.Test.YtcikldoaidmnhaaGreatDoorRSpoi5
import Derived.Test.YtcikldoaidmnhaaGreatDoorRSpoi6
import Derived.Test.YtcikldoaidmnhaaGreatDoorRSpoi7
import Derived.Test.YtcikldoaidmnhaaGreatDoorRSpoi9
import Derived.Test.YtcikldoaidmnhaaGreatDoorRSpoi11
import Derived.Test.YtcikldoaidmnhaaGreatDoorRSpoi12
import Derived.Test.YtcikldoaidmnhaaGreatDoorRSpoi18
import Derived.Test.YtcikldoaidmnhaaGreatDoorRSpoi19
import Derived.Test.YtcikldoaidmnhaaGreatDoorRSpoi22
import Derived.Test.YtcikldoaidmnhaaGreatDoorRSpoi25
import Derived.WalkKit
import Derived.WalkSpells
import Derived.WalkLawsBesides
import Derived.Lib.Hide
import Derived.BigQuiet
import Derived.Deep.DeepFit
import Derived.Deep.DeepCutAuto
import Derived.Deep.AppendLies
import Derived.Deep.QuietTactic
import Derived.Test.YtcikldoaidmnhaaGreatDoorRows
import Derived.Deep.RegionHeld3
import Derived.StillTail
import Derived.Maps.OwnOps
import Derived.Maps.OwnSet
import Derived.Maps.RangeWalk
import Derived.WideKeyEntry
import Derived.Deep.MidRow
import Derived.Lib.Bits
import Derived.Laws.EntriesVeiled
import Derived.Handy
import Derived.DeepKeys4
import Derived.ArgAppend
import Derived.Deep.Upon
import Derived.Deep.CutBlock
import Derived.Test.YtcikldoaidmnhaaGreatDoorShelf2
import Derived.Laws.BitsAllLaws
import Derived.Laws.BytesArg
import Derived.Deep.WholeRow
import Derived.Test.YtcikldoaidmnhaaGreatDoorShelf
import Derived.Lib.Zigzag
import Derived.Recover
import Derived.Laws.IdiomStrings
namespace Go.Proofs.YtcikldoaidmnhaaGreatDoor
open Go Go.RowKit Pk
set_option maxRecDepth 100000
theorem exec_load_mid {P:Program} {op:Oper} {e:Operand→Value} {w:World} (ty:TypeId) (x:Operand) (ho:op.op=.load ty x) (b o:Nat) (hx:e x=.pointer (some ⟨b,o,none⟩)) (cs:List Value) (d:TypeDesc) (hc:w.rangeAt b o cs) (hu:P.underlying ty=some d) (hd:d.isRow=true) (hi:(P.info? ty).map (·.size)=some cs.length):(execOp e op).run P w=.ok (.value (.agg cs.toArray)) w:=by
 unfold execOp;simp only [ho,hx,Instr.loadAt,Instr.sureAddr,Sem.run_bind,Sem.run_pure,Result.andThen_ok,run_loadVar_mid w b o ty cs d hc hu hd hi]
theorem size_hash (h:H32):(Tryz.prog.info? 81).map (·.size)=some (byV h.1).length:=by rw [byV_len,h.2];kernel_rfl
set_option maxHeartbeats 2000000 in
theorem jparts_any (v:Value) (l:List P32) (hl:l.length≤65536) (w:World) (h:kPart.Rd w v l):Calls Tryz.prog 75 #[v] w fun en w'=>strR (partsB (l.map plainP)) w en w':=by
 obtain ⟨A,cap,rfl,hcap,hx⟩:=h;have HX:=Lib.hid hx;have HDG:=fun W=>Lib.hid (jdigits_any l.length (by omega) W);have hl':(l.length:Int)≤65536:=by omega
 have HPB:Hid (partsB (l.map plainP)=digB l.length++(l.map plainP).flatMap (fun p=>p.1++p.2)):=by show _=_;unfold partsB;rw [List.length_map]
 have HDL:=Lib.hid (digB_ten (n:=l.length) (by omega));have HBY:=fun h W=>Lib.hid (jbytes_any h W);clear hx hl;go_enter Tryz.func75,Tryz.ntmps75
 go_wp2_with fail
 refine (HDG _).out.mono ?_;rintro e w1 ⟨rfl,u1⟩;have U1:=Lib.hid u1;clear u1 HDG;go_wp2_with fail
 go_loopw [3,4] (fun s i wr=>∃k:Nat,i=.int .i64 k∧k≤l.length∧s=.string (bs (digB l.length++((l.take k).map plainP).flatMap (fun p=>p.1++p.2)))∧Upd noBlk w wr) (fun _ i _=>l.length-(intOf i).toNat)
 case atStart=>exact ⟨0,rfl,Nat.zero_le _,by simp,U1.out⟩
 case round=>
  obtain ⟨k,rfl,hk,rfl,hu⟩:=hrel;have HU:=Lib.hid hu;clear hu;by_cases hlt:k<l.length
  ·have hlt':(k:Int)<(l.length:Int):=by omega
   obtain ⟨b,off,rfl,f1⟩:=HX.out (by omega);have hat:=(f1 k hlt).keep HU.out;have hk64:kPart.k=64:=rfl;rw [hk64] at hat;have HAT:=Lib.hid hat;have HTK:Hid (((l.take (k+1)).map plainP).flatMap (fun p=>p.1++p.2)=((l.take k).map plainP).flatMap (fun p=>p.1++p.2)++(l[k].1.1++l[k].2.1)):=by
    show _=_;rw [List.take_succ_eq_append_getElem hlt,List.map_append,List.flatMap_append];simp [plainP]
   clear f1 hat hk64;generalize l[k]=pk at *;have HPL:Hid ((digB l.length++((l.take k).map plainP).flatMap (fun p=>p.1++p.2)).length≤10+k*64):=by
    show _≤_;have h1:=HDL.out;have h2:(((l.take k).map plainP).flatMap (fun p=>p.1++p.2)).length=(l.take k).length*64:=by
     generalize l.take k=q;induction q with
     | nil=>rfl
     | cons p q ih=>rw [List.map_cons,List.flatMap_cons,List.length_append,ih];simp [plainP,p.1.2,p.2.2];omega
    rw [List.length_append,h2,List.length_take,Nat.min_eq_left hk];omega
   have HEQ:Hid (digB l.length++((l.take (k+1)).map plainP).flatMap (fun p=>p.1++p.2)=(digB l.length++((l.take k).map plainP).flatMap (fun p=>p.1++p.2))++pk.1.1++pk.2.1):=by
    show _=_;rw [HTK.out];simp only [List.append_assoc]
   clear HTK HX;have hpre:∃pre,pre=digB l.length++((l.take k).map plainP).flatMap (fun p=>p.1++p.2):=⟨_,rfl⟩;obtain ⟨pre,hpre⟩:=hpre;rw [←hpre] at HPL HEQ ⊢;clear hpre;have HS1:Hid (¬9223372036854775807<(bs pre).size+(bs pk.1.1).size):=by show ¬_;rw [bs_size,bs_size,pk.1.2];have:=HPL.out;omega
   have HS2:Hid (¬9223372036854775807<(bs pre).size+(bs pk.1.1).size+(bs pk.2.1).size):=by show ¬_;rw [bs_size,bs_size,bs_size,pk.1.2,pk.2.2];have:=HPL.out;omega
   have HA1:Hid (bs pre++bs pk.1.1=bs (pre++pk.1.1)):=by show _=_;rw [bs_append]
   have HA2:Hid (bs (pre++pk.1.1)++bs pk.2.1=bs (pre++pk.1.1++pk.2.1)):=by show _=_;rw [bs_append]
   have HB1:=HBY pk.1;have HB2:=HBY pk.2;clear HBY HDL;go_wp2_with fail
   refine wp_region_tree 14 (OT.sures [0,1,2,8,9,3,10,4,11,5,12] (.run 6 (OT.sures [7] (.run 13 .nil)))) (fun w'=>Upd noBlk wr w') (by kernel_rfl) (by kernel_rfl) (fun c a d v w h=>by cases d<;>exact h) ((Upd.refl noBlk wr).drew) ?_
   simp only [OT.sures]
   iterate 9 (apply wpT_sure rfl rfl;focus (intro w' hw';go_simp;rfl))
   apply wpT_sure rfl rfl
   focus (intro w' hw';obtain ⟨ra,rb⟩:=part_ranges (HAT.out.keep hw');exact exec_load_mid 81 (.tmp 18) rfl b (off+k*64) (by go_simp) (byV pk.1.1) _ ra Tryz.underlying81 rfl (size_hash pk.1))
   apply wpT_sure rfl rfl
   focus (intro w' hw';obtain ⟨ra,rb⟩:=part_ranges (HAT.out.keep hw');exact exec_load_mid 81 (.tmp 25) rfl b (off+k*64+32) (by go_simp) (byV pk.2.1) _ rb Tryz.underlying81 rfl (size_hash pk.2))
   refine wpT_run (fun w'=>Upd noBlk wr w') (fun _ h=>h) rfl (fun K' hK=>?_);go_simp
   refine (HB1 _).out.mono ?_;rintro e wz ⟨rfl,uz⟩;have UZ:=Lib.hid ((Upd.refl noBlk wr).drew.trans uz);refine hK _ _ ⟨UZ.out,?_⟩;clear hK K' uz HB1;apply wpT_sure rfl rfl
   focus (intro w' hw';have s1:=HS1.out;go_simp;rfl)
   refine wpT_run (fun w'=>Upd noBlk wr w') (fun _ h=>h) rfl (fun K' hK=>?_);go_simp
   refine (HB2 _).out.mono ?_;rintro e wy ⟨rfl,uy⟩;have UY:=Lib.hid (HU.out.trans (UZ.out.trans uy));refine hK _ _ ⟨UZ.out.trans uy,?_⟩;clear hK K' uy HB2;refine wpT_nil ?_;have s2:=HS2.out;go_wp2_with fail
   refine ⟨⟨k+1,by push_cast;rfl,hlt,?_,UY.out⟩,by simp only [intOf];omega⟩;rw [HEQ.out,←HA2.out,←HA1.out]
  ·obtain rfl:k=l.length:=by omega
   go_wp2_with fail
   go_ret
   refine ⟨?_,HU.out⟩;rw [HPB.out,List.take_length];rfl
set_option maxHeartbeats 2000000 in
theorem jRoot_any (v:Value) (l:List P32) (w:World) (h:kPart.Rd w v l):Calls Tryz.prog 27 #[.agg #[v]] w fun en w'=>strR (if 65536<l.length then [] else rootB (l.map plainP)) w en w':=by
 have HPA:Hid (∀W,l.length≤65536→Upd noBlk w W→Calls Tryz.prog 75 #[v] W fun en w'=>strR (partsB (l.map plainP)) W en w'):=fun W hl hW=>jparts_any v l hl W (h.keep hW);obtain ⟨A,cap,rfl,hcap,hx⟩:=h;clear hx;go_enter Tryz.func27,Tryz.ntmps27
 have HU0:Hid (Upd noBlk w (w.alloc (.cells #[.slice A l.length cap] 50))):=(Upd.refl _ w).alloc _;by_cases hl:65536<l.length
 ·have hl':(65536:Int)<(l.length:Int):=by omega
  rw [if_pos hl];clear HPA;go_wp2_with fail
  go_ret
  exact ⟨rfl,HU0.out⟩
 ·have hl':(l.length:Int)≤65536:=by omega
  rw [if_neg hl];have HSZ:=Lib.hid (partsB_len l (by omega));have HP:=HPA.out _ (by omega) HU0.out;have hs:¬9223372036854775807<(⟨#[3]⟩:ByteArray).size+(bs (partsB (l.map plainP))).size:=by
   rw [bs_size];have:=HSZ.out;show ¬_<1+_;omega
  clear hl;go_wp2_with fail
  refine HP.mono ?_;rintro e w2 ⟨rfl,u2⟩;have HU2:=Lib.hid (HU0.out.trans u2);clear u2 HP HPA;go_wp2_with fail
  go_ret
  refine ⟨?_,HU2.out⟩;show Ending.returned (.string (⟨#[3]⟩++bs (partsB (l.map plainP))))=_;rw [show (⟨#[3]⟩:ByteArray)=bs [3] from rfl,bs_append];rfl
end Go.Proofs.YtcikldoaidmnhaaGreatDoor
namespace Go.Proofs.YtcikldoaidmnhaaGreatDoor
open Go Go.RowKit Pk
set_option maxRecDepth 100000
set_option maxHeartbeats 1000000 in
theorem oLess_any (a b:Pt) (w:World):Calls Tryz.prog 117 #[ptV a,ptV b] w fun en w'=>en=.returned (.bool (ptLt a b))∧Upd noBlk w w':=by
 obtain ⟨x,hx⟩:∃x,x=ptLt a b:=⟨_,rfl⟩;rw [←hx];obtain ⟨a0,a1,a2⟩:=a;obtain ⟨b0,b1,b2⟩:=b;have hu:Upd noBlk w ((w.alloc (.cells #[.int .i64 a0,.int .i64 a1,.int .i64 a2] 43)).alloc (.cells #[.int .i64 b0,.int .i64 b1,.int .i64 b2] 43)):=((Upd.refl _ w).alloc _).alloc _;have HU:=Lib.hid hu;clear hu;unfold ptV;by_cases h0:a0=b0
 ·by_cases h1:a1=b1
  ·have HX:Hid (x=decide (a2<b2)):=by show _=_;rw [hx];simp [ptLt,h0,h1]
   clear hx;subst h0 h1;go_enter Tryz.func117,Tryz.ntmps117
   go_wp2_with fail
   go_ret
   exact ⟨by rw [HX.out];rfl,HU.out⟩
  ·have HX:Hid (x=decide (a1<b1)):=by show _=_;rw [hx];simp [ptLt,h0,h1]
   clear hx;subst h0;go_enter Tryz.func117,Tryz.ntmps117
   go_wp2_with fail
   go_ret
   exact ⟨by rw [HX.out];rfl,HU.out⟩
 ·have HX:Hid (x=decide (a0<b0)):=by show _=_;rw [hx];simp [ptLt,h0]
  clear hx;go_enter Tryz.func117,Tryz.ntmps117
  go_wp2_with fail
  go_ret
  exact ⟨by rw [HX.out];rfl,HU.out⟩
theorem upd9 {b:Nat} (w:World) (y0 y1 y2 y3 y4 y5 y6 y7 y8:Value):Upd (fun k=>k=b) w (((((((((w.setCell ⟨b,0,none⟩ y0).setCell ⟨b,1,none⟩ y1).setCell ⟨b,2,none⟩ y2).setCell ⟨b,3,none⟩ y3).setCell ⟨b,4,none⟩ y4).setCell ⟨b,5,none⟩ y5).setCell ⟨b,6,none⟩ y6).setCell ⟨b,7,none⟩ y7).setCell ⟨b,8,none⟩ y8):=((((((((((Upd.refl (fun k=>k=b) w).setCell (p:=⟨b,0,none⟩) (fun _=>rfl) y0).setCell (p:=⟨b,1,none⟩) (fun _=>rfl) y1).setCell (p:=⟨b,2,none⟩) (fun _=>rfl) y2).setCell (p:=⟨b,3,none⟩) (fun _=>rfl) y3).setCell (p:=⟨b,4,none⟩) (fun _=>rfl) y4).setCell (p:=⟨b,5,none⟩) (fun _=>rfl) y5).setCell (p:=⟨b,6,none⟩) (fun _=>rfl) y6).setCell (p:=⟨b,7,none⟩) (fun _=>rfl) y7).setCell (p:=⟨b,8,none⟩) (fun _=>rfl) y8)
set_option maxHeartbeats 2000000 in
theorem hRotate_any (t:Tri) (w:World):Calls Tryz.prog 68 #[triV t] w fun en w'=>en=.returned (triV (rot t))∧Upd noBlk w w':=by
 have hl:=fun p q W=>Lib.hid (oLess_any p q W);have HT:=Lib.hid (rot_ref t);obtain ⟨R,hR⟩:∃R,R=rot t:=⟨_,rfl⟩;rw [←hR] at HT;rw [←hR];clear hR;obtain ⟨⟨a0,a1,a2⟩,⟨a3,a4,a5⟩,⟨a6,a7,a8⟩⟩:=t;obtain ⟨w1,hw1⟩:∃w1,w1=(w.alloc (.cells #[.int .i64 a0,.int .i64 a1,.int .i64 a2,.int .i64 a3,.int .i64 a4,.int .i64 a5,.int .i64 a6,.int .i64 a7,.int .i64 a8] 45)).alloc (.cells #[.int .i64 0,.int .i64 0,.int .i64 0,.int .i64 0,.int .i64 0,.int .i64 0,.int .i64 0,.int .i64 0,.int .i64 0] 45):=⟨_,rfl⟩;have HU:Hid (Upd noBlk w w1):=by show Upd _ _ _;rw [hw1];exact ((Upd.refl _ w).alloc _).alloc _
 have HA:Hid (w1.heap[w.heap.size]?=some (.cells #[.int .i64 a0,.int .i64 a1,.int .i64 a2,.int .i64 a3,.int .i64 a4,.int .i64 a5,.int .i64 a6,.int .i64 a7,.int .i64 a8] 45 (0,0))):=by show _=_;rw [hw1];exact ((Upd.refl noBlk _).alloc _).heap (heap_alloc_new w _) id
 have HB:Hid (w1.heap[w.heap.size+1]?=some (.cells #[.int .i64 0,.int .i64 0,.int .i64 0,.int .i64 0,.int .i64 0,.int .i64 0,.int .i64 0,.int .i64 0,.int .i64 0] 45 (0,0))):=by
  show _=_;rw [hw1];have:=heap_alloc_new (w.alloc (.cells #[.int .i64 a0,.int .i64 a1,.int .i64 a2,.int .i64 a3,.int .i64 a4,.int .i64 a5,.int .i64 a6,.int .i64 a7,.int .i64 a8] 45)) (.cells #[.int .i64 0,.int .i64 0,.int .i64 0,.int .i64 0,.int .i64 0,.int .i64 0,.int .i64 0,.int .i64 0,.int .i64 0] 45);rwa [World.size_alloc] at this
 obtain ⟨rb,hrb⟩:∃rb,rb=w.heap.size+1:=⟨_,rfl⟩;have HRB:Hid (w.heap.size+1≤rb):=by show _≤_;omega
 rw [←hrb] at HB;unfold triV triC;simp only at HT;go_enter Tryz.func68,Tryz.ntmps68
 go_upto_region 1 with fail
 rw [←hw1,←hrb];clear hw1 hrb;obtain ⟨g0,g1,g2,g3,g4,g5,g6,g7,g8⟩:=cells9 HA.out;go_wp2_with fail
 refine (hl (a3,a4,a5) (a0,a1,a2) _).out.mono ?_;rintro e w3 ⟨rfl,u1⟩;have HU1:=Lib.hid (HU.out.trans u1);have HA1:=Lib.hid (u1.heap HA.out id);have HB1:=Lib.hid (u1.heap HB.out id);clear u1 HU HA HB g0 g1 g2 g3 g4 g5 g6 g7 g8;obtain ⟨g0,g1,g2,g3,g4,g5,g6,g7,g8⟩:=cells9 HA1.out;generalize ptLt (a3,a4,a5) (a0,a1,a2)=x1 at *;go_wp2_with fail
 refine (hl (a6,a7,a8) (a0,a1,a2) _).out.mono ?_;rintro e w4 ⟨rfl,u1⟩;have HU2:=Lib.hid (HU1.out.trans u1);have HA2:=Lib.hid (u1.heap HA1.out id);have HB2:=Lib.hid (u1.heap HB1.out id);clear u1 HU1 HA1 HB1 g0 g1 g2 g3 g4 g5 g6 g7 g8;obtain ⟨g0,g1,g2,g3,g4,g5,g6,g7,g8⟩:=cells9 HA2.out;generalize ptLt (a6,a7,a8) (a0,a1,a2)=x2 at *;go_wp2_with fail
 refine (hl (a6,a7,a8) (a3,a4,a5) _).out.mono ?_;rintro e w5 ⟨rfl,u1⟩;have HU3:=Lib.hid (HU2.out.trans u1);have HA3:=Lib.hid (u1.heap HA2.out id);have HB3:=Lib.hid (u1.heap HB2.out id);clear u1 HU2 HA2 HB2 g0 g1 g2 g3 g4 g5 g6 g7 g8;obtain ⟨g0,g1,g2,g3,g4,g5,g6,g7,g8⟩:=cells9 HA3.out;obtain ⟨_,⟨f0,f1,f2,f3,f4,f5,f6,f7,f8⟩⟩:=cellsF9 HB3.out;generalize ptLt (a6,a7,a8) (a3,a4,a5)=x3 at *;by_cases hc:(x2&&(x3||!x1))=true
 ·have h:=HT.out;rw [if_pos hc] at h;have HT:=Lib.hid h;clear h;cases x2 with
  | false=>cases hc
  | true=>cases x3 with
   | true=>
    clear hc;go_wp2_with fail
    have HZ:=set9 HB3.out (.int .i64 a6) (.int .i64 a7) (.int .i64 a8) (.int .i64 a0) (.int .i64 a1) (.int .i64 a2) (.int .i64 a3) (.int .i64 a4) (.int .i64 a5);have hset:=upd9 (b:=rb) w5 (.int .i64 a6) (.int .i64 a7) (.int .i64 a8) (.int .i64 a0) (.int .i64 a1) (.int .i64 a2) (.int .i64 a3) (.int .i64 a4) (.int .i64 a5)
    (try simp only [Exit.inBlock,Exit.then])
    refine bodyPost_ret (results_cell_row rfl _ _ rb 45 _ (0,0) _ rfl HZ Tryz.underlying45 rfl (by kernel_rfl)) rfl ?_;exact ⟨by rw [←HT.out];rfl,HU3.out.then hset (fun i hi e=>by have e':i=rb:=e;have:=HRB.out;omega)⟩
   | false=>cases x1 with
    | true=>cases hc
    | false=>
     clear hc;go_wp2_with fail
     have HZ:=set9 HB3.out (.int .i64 a6) (.int .i64 a7) (.int .i64 a8) (.int .i64 a0) (.int .i64 a1) (.int .i64 a2) (.int .i64 a3) (.int .i64 a4) (.int .i64 a5);have hset:=upd9 (b:=rb) w5 (.int .i64 a6) (.int .i64 a7) (.int .i64 a8) (.int .i64 a0) (.int .i64 a1) (.int .i64 a2) (.int .i64 a3) (.int .i64 a4) (.int .i64 a5)
     (try simp only [Exit.inBlock,Exit.then])
     refine bodyPost_ret (results_cell_row rfl _ _ rb 45 _ (0,0) _ rfl HZ Tryz.underlying45 rfl (by kernel_rfl)) rfl ?_;exact ⟨by rw [←HT.out];rfl,HU3.out.then hset (fun i hi e=>by have e':i=rb:=e;have:=HRB.out;omega)⟩
 ·have h:=HT.out;rw [if_neg hc] at h;cases x1 with
  | true=>
   rw [if_pos rfl] at h;have HT:=Lib.hid h;clear h;cases x2 with
   | true=>cases x3 with
    | true=>exact absurd rfl hc
    | false=>
     clear hc;go_wp2_with fail
     have HZ:=set9 HB3.out (.int .i64 a3) (.int .i64 a4) (.int .i64 a5) (.int .i64 a6) (.int .i64 a7) (.int .i64 a8) (.int .i64 a0) (.int .i64 a1) (.int .i64 a2);have hset:=upd9 (b:=rb) w5 (.int .i64 a3) (.int .i64 a4) (.int .i64 a5) (.int .i64 a6) (.int .i64 a7) (.int .i64 a8) (.int .i64 a0) (.int .i64 a1) (.int .i64 a2)
     (try simp only [Exit.inBlock,Exit.then])
     refine bodyPost_ret (results_cell_row rfl _ _ rb 45 _ (0,0) _ rfl HZ Tryz.underlying45 rfl (by kernel_rfl)) rfl ?_;exact ⟨by rw [←HT.out];rfl,HU3.out.then hset (fun i hi e=>by have e':i=rb:=e;have:=HRB.out;omega)⟩
   | false=>
     clear hc;go_wp2_with fail
     have HZ:=set9 HB3.out (.int .i64 a3) (.int .i64 a4) (.int .i64 a5) (.int .i64 a6) (.int .i64 a7) (.int .i64 a8) (.int .i64 a0) (.int .i64 a1) (.int .i64 a2);have hset:=upd9 (b:=rb) w5 (.int .i64 a3) (.int .i64 a4) (.int .i64 a5) (.int .i64 a6) (.int .i64 a7) (.int .i64 a8) (.int .i64 a0) (.int .i64 a1) (.int .i64 a2)
     (try simp only [Exit.inBlock,Exit.then])
     refine bodyPost_ret (results_cell_row rfl _ _ rb 45 _ (0,0) _ rfl HZ Tryz.underlying45 rfl (by kernel_rfl)) rfl ?_;exact ⟨by rw [←HT.out];rfl,HU3.out.then hset (fun i hi e=>by have e':i=rb:=e;have:=HRB.out;omega)⟩
  | false=>
   rw [if_neg (by decide)] at h;have HT:=Lib.hid h;clear h;cases x2 with
   | true=>exact absurd (by cases x3<;>rfl) hc
   | false=>
     clear hc;go_wp2_with fail
     have HZ:=set9 HB3.out (.int .i64 a0) (.int .i64 a1) (.int .i64 a2) (.int .i64 a3) (.int .i64 a4) (.int .i64 a5) (.int .i64 a6) (.int .i64 a7) (.int .i64 a8);have hset:=upd9 (b:=rb) w5 (.int .i64 a0) (.int .i64 a1) (.int .i64 a2) (.int .i64 a3) (.int .i64 a4) (.int .i64 a5) (.int .i64 a6) (.int .i64 a7) (.int .i64 a8)
     (try simp only [Exit.inBlock,Exit.then])
     refine bodyPost_ret (results_cell_row rfl _ _ rb 45 _ (0,0) _ rfl HZ Tryz.underlying45 rfl (by kernel_rfl)) rfl ?_;exact ⟨by rw [←HT.out];rfl,HU3.out.then hset (fun i hi e=>by have e':i=rb:=e;have:=HRB.out;omega)⟩
end Go.Proofs.YtcikldoaidmnhaaGreatDoor
