/- Parts: Walks of the packets' program: Group. No condition. -/
import Derived.Test.YtcikldoaidmnhaaGreatDoorRSpoi1
import Derived.Test.YtcikldoaidmnhaaGreatDoorRSpoi2
import Derived.Test.YtcikldoaidmnhaaGreatDoorRSpoi3
import Derived.Test.YtcikldoaidmnhaaGreatDoorRSpoi4
import Derived.Test.YtcikldoaidmnhaaGreatDoorRSpoi5
import Derived.Test.YtcikldoaidmnhaaGreatDoorRSpoi6
import Derived.Test.YtcikldoaidmnhaaGreatDoorRSpoi7
import Derived.Test.YtcikldoaidmnhaaGreatDoorRSpoi11
import Derived.Test.YtcikldoaidmnhaaGreatDoorRSpoi12
import Derived.Test.YtcikldoaidmnhaaGreatDoorRSpoi17
import Derived.Test.YtcikldoaidmnhaaGreatDoorRSpoi18
import Derived.Test.YtcikldoaidmnhaaGreatDoorRSpoi19
import Derived.Test.YtcikldoaidmnhaaGreatDoorRSpoi20
import Derived.Test.YtcikldoaidmnhaaGreatDoorRSpoi22
import Derived.WalkKit
import Derived.WalkSpells
import Derived.WalkLawsBesides
import Derived.Lib.Hide
import Derived.BigQuiet
import Derived.Deep.DeepFit
import Derived.Deep.DeepCutAuto
import Derived.Deep.AppendLies
import Derived.Deep.QuietTactic
import Derived.Test.YtcikldoaidmnhaaGreatDoorRows
import Derived.Deep.RegionHeld3
import Derived.StillTail
import Derived.Maps.OwnOps
import Derived.Maps.OwnSet
import Derived.Maps.RangeWalk
import Derived.WideKeyEntry
import Derived.Deep.MidRow
import Derived.Lib.Bits
import Derived.Laws.EntriesVeiled
import Derived.Handy
import Derived.DeepKeys4
import Derived.ArgAppend
import Derived.Deep.Upon
import Derived.Deep.CutBlock
import Derived.Test.YtcikldoaidmnhaaGreatDoorShelf2
import Derived.Laws.BitsAllLaws
import Derived.Laws.BytesArg
import Derived.Deep.WholeRow
import Derived.Test.YtcikldoaidmnhaaGreatDoorShelf
import Derived.Lib.Zigzag
namespace Go.Proofs.YtcikldoaidmnhaaGreatDoor
open Go Go.RowKit Pk
set_option maxRecDepth 100000
theorem digits_int (n:Int) (h0:0≤n) (h1:n<9223372036854775808) (w:World):Calls Tryz.prog 80 #[.int .i64 n] w fun en w'=>strR (digB n.toNat) w en w':=by
 have:=digits_any n.toNat (by omega) w;rw [Int.toNat_of_nonneg h0] at this;exact this
structure GV.Ok (x:GV):Prop where
 level:x.level<9223372036854775808
 err:x.err<9223372036854775808
 total:x.total<9223372036854775808
 mag:x.mag.length≤1152921504606846976
theorem right_parts {x:GV} (h:rightG x.g=true):(0≤x.level∧0≤x.err∧0≤x.total)∧(x.ins.length≤65536∧x.outs.length≤65536∧x.moves.length≤65536)∧x.moves.all (fun m=>(coordsM m).all insideC)=true:=by
 unfold rightG GV.g at h;simp only [Bool.and_eq_true,decide_eq_true_eq,List.length_map] at h;obtain ⟨⟨⟨a,b,c,d,e,f⟩,g⟩,_⟩:=h;exact ⟨⟨a,b,c⟩,⟨d,e,f⟩,g⟩
set_option maxHeartbeats 4000000 in
theorem Group_any (x:GV) (hx:x.Ok) (vi vo vm:Value) (w:World) (hi:kPart.Rd w vi x.ins) (ho:kHash.Rd w vo x.outs) (hm:kMove.Rd w vm x.moves):Calls Tryz.prog 32 #[x.V vi vo vm] w fun en w'=>strR (if rightG x.g=true then groupB x.g else []) w en w':=by
 obtain ⟨tgt,ht⟩:∃t,t=if rightG x.g=true then groupB x.g else []:=⟨_,rfl⟩;rw [←ht];have HT:=Lib.hid ht;clear ht;have HRG:Hid (∀W,Upd noBlk w W→Calls Tryz.prog 79 #[x.V vi vo vm] W fun en w'=>en=.returned (.bool (rightG x.g))∧Upd noBlk W w'):=fun W hW=>right_any x vi vo vm W (hi.keep hW) (ho.keep hW) (hm.keep hW);have HPA:Hid (∀W,x.ins.length≤65536→Upd noBlk w W→Calls Tryz.prog 73 #[vi] W fun en w'=>strR (partsB (x.ins.map plainP)) W en w'):=fun W hl hW=>parts_any vi x.ins hl W (hi.keep hW);obtain ⟨lv,ins,outs,moves,er,tot,neg,mag⟩:=x;have HOK:=Lib.hid hx;clear hx;obtain ⟨Ai,capi,rfl,_,hxi⟩:=hi;obtain ⟨Ao,capo,rfl,hco,hxo⟩:=ho;obtain ⟨Am,capm,rfl,hcm,hxm⟩:=hm;have HXO:=Lib.hid hxo;have HXM:=Lib.hid hxm;clear hxi hxo hxm;unfold GV.V at *;simp only at *;go_enter Tryz.func32,Tryz.ntmps32
 have HB:Hid ((w.alloc (.cells #[.int .i64 lv,.slice Ai ins.length capi,.slice Ao outs.length capo,.slice Am moves.length capm,.int .i64 er,.int .i64 tot,.bool neg,.string (bs mag)] 68)).heap[w.heap.size]?=some (.cells #[.int .i64 lv,.slice Ai ins.length capi,.slice Ao outs.length capo,.slice Am moves.length capm,.int .i64 er,.int .i64 tot,.bool neg,.string (bs mag)] 68 (0,0))):=heap_alloc_last w _;have HU0:Hid (Upd noBlk w (w.alloc (.cells #[.int .i64 lv,.slice Ai ins.length capi,.slice Ao outs.length capo,.slice Am moves.length capm,.int .i64 er,.int .i64 tot,.bool neg,.string (bs mag)] 68))):=(Upd.refl _ w).alloc _;go_upto_region 1 with fail
 generalize w.heap.size=bb at *;generalize w.alloc (.cells #[.int .i64 lv,.slice Ai ins.length capi,.slice Ao outs.length capo,.slice Am moves.length capm,.int .i64 er,.int .i64 tot,.bool neg,.string (bs mag)] 68)=w1 at *;obtain ⟨b0,b1,b2,b3,b4,b5,b6,b7⟩:=cells8 HB.out;go_wp2_with fail
 refine (HRG.out _ HU0.out).mono ?_;rintro e w2 ⟨rfl,u2⟩;have HB2:Hid _:=u2.heap HB.out id;have U2:=Lib.hid (HU0.out.trans u2);clear b0 b1 b2 b3 b4 b5 b6 b7 HB HU0 HRG u2;rcases hr:rightG (GV.g ⟨lv,ins,outs,moves,er,tot,neg,mag⟩) with _ | _
 ·have HIF:Hid (tgt=[]):=by have:=HT.out;rw [hr] at this;rw [this];exact if_neg (by decide)
  go_wp2_with fail
  go_ret
  exact ⟨by rw [HIF.out];rfl,U2.out⟩
 ·have HRP:=Lib.hid (right_parts hr);have HIF:Hid (tgt=groupB (GV.g ⟨lv,ins,outs,moves,er,tot,neg,mag⟩)):=by have:=HT.out;rw [hr] at this;rw [this];exact if_pos rfl
  clear hr HT;go_upto_region 3 with fail
  have HD1:=Lib.hid (digB_ten (n:=lv.toNat) (by have:=HOK.out.level;have:lv<9223372036854775808:=this;omega));have HD3:=Lib.hid (digB_ten (n:=outs.length) (by have:=HRP.out.2.1.2.1;have:outs.length≤65536:=this;omega));have HD2:Hid ((partsB (ins.map plainP)).length≤10+65536*64):=by
   have h:ins.length≤65536:=HRP.out.2.1.1;have:=partsB_len ins h;show _≤_;omega
  have HC1:Hid (∀W,Upd noBlk w2 W→Calls Tryz.prog 80 #[.int .i64 lv] W fun en w'=>strR (digB lv.toNat) W en w'):=fun W _=>digits_int lv HRP.out.1.1 HOK.out.level W;have HC2:Hid (∀W,Upd noBlk w2 W→Calls Tryz.prog 73 #[.slice Ai ins.length capi] W fun en w'=>strR (partsB (ins.map plainP)) W en w'):=fun W hW=>HPA.out W HRP.out.2.1.1 (U2.out.trans hW);have HC3:Hid (∀W,Upd noBlk w2 W→Calls Tryz.prog 80 #[.int .i64 (outs.length:Int)] W fun en w'=>strR (digB outs.length) W en w'):=fun W _=>digits_any outs.length (by have h:outs.length≤65536:=HRP.out.2.1.2.1;omega) W;have HG1:Hid (groupB (GV.g ⟨lv,ins,outs,moves,er,tot,neg,mag⟩)=[2]++digB lv.toNat++partsB (ins.map plainP)++digB outs.length++((outs.map (·.1)).flatten++(movesB moves++(digB er.toNat++(digB tot.toNat++(digB (2*mag.length+(if neg=true then 1 else 0))++mag)))))):=by
   show _=_;unfold groupB GV.g sizeG;simp
  clear HPA;generalize digB lv.toNat=d1 at *;generalize partsB (ins.map plainP)=d2 at *;generalize hd3:digB outs.length=d3 at *;clear hd3;have HCV:=Lib.hid (conv_one 2);have HS1:Hid (¬9223372036854775807<(bs [2]).size+(bs d1).size):=by show ¬_;rw [bs_size,bs_size];have:=HD1.out;simp only [List.length_cons,List.length_nil];omega
  have HS2:Hid (¬9223372036854775807<(bs [2]).size+(bs d1).size+(bs d2).size):=by show ¬_;rw [bs_size,bs_size,bs_size];have:=HD1.out;have:=HD2.out;simp only [List.length_cons,List.length_nil];omega
  have HS3:Hid (¬9223372036854775807<(bs [2]).size+(bs d1).size+(bs d2).size+(bs d3).size):=by show ¬_;rw [bs_size,bs_size,bs_size,bs_size];have:=HD1.out;have:=HD2.out;have:=HD3.out;simp only [List.length_cons,List.length_nil];omega
  go_cut [3] (fun c wc=>c=.string (bs [2]++bs d1++bs d2++bs d3)∧Upd noBlk w2 wc)
  case first=>
   refine wp_region_tree 14 (OT.sures [2,6,10,3,7,11,12] (.fork 0 (.sure 1 (.run 4 (.sure 5 (.run 8 (.sure 9 (.run 13 .nil)))))) 4 (.fork 0 (.sure 1 (.sure 5 (.run 8 (.sure 9 (.run 13 .nil))))) 8 (.fork 0 (.sure 1 (.sure 5 (.sure 9 (.run 13 .nil)))) 13 (.run 0 (.sure 1 (.sure 5 (.sure 9 .nil)))))))) (fun w'=>Upd noBlk w2 w') (by kernel_rfl) (by kernel_rfl) (fun c a d v w h=>by cases d<;>exact h) ((Upd.refl noBlk w2).drew) ?_
   simp only [OT.sures]
   iterate 7 (apply wpT_sure rfl rfl;focus (intro w' hw';obtain ⟨b0,b1,b2,b3,b4,b5,b6,b7⟩:=cells8 (hw'.heap HB2.out id);go_simp;rfl))
   refine wpT_fork (fun w'=>Upd noBlk w2 w'∧w'.heap[w2.heap.size]?=some (.cells #[.int .u8 2] 5 (0,0))) (fun w'=>Upd noBlk w2 w') (fun _ h=>h.1) (fun _ h=>h) rfl rfl (fun K' hK=>?_) (fun K' hK=>?_)
   ·skip
    go_simp
    have Va1:Hid (Upd noBlk w2 (w2.alloc (.cells #[.int .u8 2] 5)).drew):=((Upd.refl noBlk w2).alloc _).drew;have Ba1:Hid ((w2.alloc (.cells #[.int .u8 2] 5)).drew.heap[w2.heap.size]?=some (.cells #[.int .u8 2] 5 (0,0))):=heap_alloc_new w2 _;refine hK _ _ ⟨⟨Va1.out,Ba1.out⟩,?_⟩;clear hK K'
    (apply wpT_sure rfl rfl;focus (intro w' hw';have hc:=HCV.out w2.heap.size w' hw'.2;go_simp;rfl))
    refine wpT_run (fun w'=>Upd noBlk w2 w'∧w'.heap[w2.heap.size]?=some (.cells #[.int .u8 2] 5 (0,0))) (fun _ h=>h) rfl (fun K' hK=>?_);go_simp
    refine (HC1.out _ Va1.out).mono ?_;rintro e z1 ⟨rfl,uz1⟩;have V1:=Lib.hid ((Va1.out).trans uz1);have B1:=Lib.hid (uz1.heap Ba1.out id);refine hK _ _ ⟨⟨V1.out,B1.out⟩,?_⟩;clear hK K' uz1
    (apply wpT_sure rfl rfl;focus (intro w' hw';have s1:=HS1.out;have s2:=HS2.out;have s3:=HS3.out;go_simp;rfl))
    refine wpT_run (fun w'=>Upd noBlk w2 w'∧w'.heap[w2.heap.size]?=some (.cells #[.int .u8 2] 5 (0,0))) (fun _ h=>h) rfl (fun K' hK=>?_);go_simp
    refine (HC2.out _ V1.out).mono ?_;rintro e z2 ⟨rfl,uz2⟩;have V2:=Lib.hid ((V1.out).trans uz2);have B2:=Lib.hid (uz2.heap B1.out id);refine hK _ _ ⟨⟨V2.out,B2.out⟩,?_⟩;clear hK K' uz2
    (apply wpT_sure rfl rfl;focus (intro w' hw';have s1:=HS1.out;have s2:=HS2.out;have s3:=HS3.out;go_simp;rfl))
    refine wpT_run (fun w'=>Upd noBlk w2 w'∧w'.heap[w2.heap.size]?=some (.cells #[.int .u8 2] 5 (0,0))) (fun _ h=>h) rfl (fun K' hK=>?_);go_simp
    refine (HC3.out _ V2.out).mono ?_;rintro e z3 ⟨rfl,uz3⟩;have V3:=Lib.hid ((V2.out).trans uz3);have B3:=Lib.hid (uz3.heap B2.out id);refine hK _ _ ⟨⟨V3.out,B3.out⟩,?_⟩;clear hK K' uz3;refine wpT_nil ?_;go_wp2_with fail
    go_meet
    exact ⟨rfl,V3.out⟩
   ·skip
    go_simp
    refine (HC1.out _ (Upd.refl noBlk w2).drew).mono ?_;rintro e zf2 ⟨rfl,uzf2⟩;have Vf2:=Lib.hid (((Upd.refl noBlk w2).drew).trans uzf2);refine hK _ _ ⟨Vf2.out,?_⟩;clear hK K' uzf2;refine wpT_fork (fun w'=>Upd noBlk w2 w'∧w'.heap[zf2.heap.size]?=some (.cells #[.int .u8 2] 5 (0,0))) (fun w'=>Upd noBlk w2 w') (fun _ h=>h.1) (fun _ h=>h) rfl rfl (fun K' hK=>?_) (fun K' hK=>?_)
    ·skip
     go_simp
     have Va3:Hid (Upd noBlk w2 (zf2.alloc (.cells #[.int .u8 2] 5))):=(Vf2.out).alloc _;have Ba3:Hid ((zf2.alloc (.cells #[.int .u8 2] 5)).heap[zf2.heap.size]?=some (.cells #[.int .u8 2] 5 (0,0))):=heap_alloc_new zf2 _;refine hK _ _ ⟨⟨Va3.out,Ba3.out⟩,?_⟩;clear hK K'
     (apply wpT_sure rfl rfl;focus (intro w' hw';have hc:=HCV.out zf2.heap.size w' hw'.2;go_simp;rfl))
     (apply wpT_sure rfl rfl;focus (intro w' hw';have s1:=HS1.out;have s2:=HS2.out;have s3:=HS3.out;go_simp;rfl))
     refine wpT_run (fun w'=>Upd noBlk w2 w'∧w'.heap[zf2.heap.size]?=some (.cells #[.int .u8 2] 5 (0,0))) (fun _ h=>h) rfl (fun K' hK=>?_);go_simp
     refine (HC2.out _ Va3.out).mono ?_;rintro e z4 ⟨rfl,uz4⟩;have V4:=Lib.hid ((Va3.out).trans uz4);have B4:=Lib.hid (uz4.heap Ba3.out id);refine hK _ _ ⟨⟨V4.out,B4.out⟩,?_⟩;clear hK K' uz4
     (apply wpT_sure rfl rfl;focus (intro w' hw';have s1:=HS1.out;have s2:=HS2.out;have s3:=HS3.out;go_simp;rfl))
     refine wpT_run (fun w'=>Upd noBlk w2 w'∧w'.heap[zf2.heap.size]?=some (.cells #[.int .u8 2] 5 (0,0))) (fun _ h=>h) rfl (fun K' hK=>?_);go_simp
     refine (HC3.out _ V4.out).mono ?_;rintro e z5 ⟨rfl,uz5⟩;have V5:=Lib.hid ((V4.out).trans uz5);have B5:=Lib.hid (uz5.heap B4.out id);refine hK _ _ ⟨⟨V5.out,B5.out⟩,?_⟩;clear hK K' uz5;refine wpT_nil ?_;go_wp2_with fail
     go_meet
     exact ⟨rfl,V5.out⟩
    ·skip
     go_simp
     refine (HC2.out _ Vf2.out).mono ?_;rintro e zf4 ⟨rfl,uzf4⟩;have Vf4:=Lib.hid ((Vf2.out).trans uzf4);refine hK _ _ ⟨Vf4.out,?_⟩;clear hK K' uzf4;refine wpT_fork (fun w'=>Upd noBlk w2 w'∧w'.heap[zf4.heap.size]?=some (.cells #[.int .u8 2] 5 (0,0))) (fun w'=>Upd noBlk w2 w') (fun _ h=>h.1) (fun _ h=>h) rfl rfl (fun K' hK=>?_) (fun K' hK=>?_)
     ·skip
      go_simp
      have Va5:Hid (Upd noBlk w2 (zf4.alloc (.cells #[.int .u8 2] 5))):=(Vf4.out).alloc _;have Ba5:Hid ((zf4.alloc (.cells #[.int .u8 2] 5)).heap[zf4.heap.size]?=some (.cells #[.int .u8 2] 5 (0,0))):=heap_alloc_new zf4 _;refine hK _ _ ⟨⟨Va5.out,Ba5.out⟩,?_⟩;clear hK K'
      (apply wpT_sure rfl rfl;focus (intro w' hw';have hc:=HCV.out zf4.heap.size w' hw'.2;go_simp;rfl))
      (apply wpT_sure rfl rfl;focus (intro w' hw';have s1:=HS1.out;have s2:=HS2.out;have s3:=HS3.out;go_simp;rfl))
      (apply wpT_sure rfl rfl;focus (intro w' hw';have s1:=HS1.out;have s2:=HS2.out;have s3:=HS3.out;go_simp;rfl))
      refine wpT_run (fun w'=>Upd noBlk w2 w'∧w'.heap[zf4.heap.size]?=some (.cells #[.int .u8 2] 5 (0,0))) (fun _ h=>h) rfl (fun K' hK=>?_);go_simp
      refine (HC3.out _ Va5.out).mono ?_;rintro e z6 ⟨rfl,uz6⟩;have V6:=Lib.hid ((Va5.out).trans uz6);have B6:=Lib.hid (uz6.heap Ba5.out id);refine hK _ _ ⟨⟨V6.out,B6.out⟩,?_⟩;clear hK K' uz6;refine wpT_nil ?_;go_wp2_with fail
      go_meet
      exact ⟨rfl,V6.out⟩
     ·skip
      go_simp
      refine (HC3.out _ Vf4.out).mono ?_;rintro e zf6 ⟨rfl,uzf6⟩;have Vf6:=Lib.hid ((Vf4.out).trans uzf6);refine hK _ _ ⟨Vf6.out,?_⟩;clear hK K' uzf6;refine wpT_run (fun w'=>Upd noBlk w2 w'∧w'.heap[zf6.heap.size]?=some (.cells #[.int .u8 2] 5 (0,0))) (fun _ h=>h.1) rfl (fun K' hK=>?_);go_simp
      have Vl6:Hid (Upd noBlk w2 (zf6.alloc (.cells #[.int .u8 2] 5))):=(Vf6.out).alloc _;have Bl6:Hid ((zf6.alloc (.cells #[.int .u8 2] 5)).heap[zf6.heap.size]?=some (.cells #[.int .u8 2] 5 (0,0))):=heap_alloc_new zf6 _;refine hK _ _ ⟨⟨Vl6.out,Bl6.out⟩,?_⟩;clear hK K'
      (apply wpT_sure rfl rfl;focus (intro w' hw';have hc:=HCV.out zf6.heap.size w' hw'.2;go_simp;rfl))
      (apply wpT_sure rfl rfl;focus (intro w' hw';have s1:=HS1.out;have s2:=HS2.out;have s3:=HS3.out;go_simp;rfl))
      (apply wpT_sure rfl rfl;focus (intro w' hw';have s1:=HS1.out;have s2:=HS2.out;have s3:=HS3.out;go_simp;rfl))
      refine wpT_nil ?_;go_wp2_with fail
      go_meet
      exact ⟨rfl,Vl6.out⟩
  case rest=>
   obtain ⟨rfl,hu⟩:=hcut;have HU:=Lib.hid hu;rw [bs_append,bs_append,bs_append];have HPL:Hid (([2]++d1++d2++d3:Bytes).length≤4194400):=by show _≤_;simp only [List.length_append,List.length_cons,List.length_nil];have:=HD1.out;have:=HD2.out;have:=HD3.out;omega
   have HOL:Hid (outs.length≤65536):=HRP.out.2.1.2.1;have hol:(outs.length:Int)≤65536:=by have:=HOL.out;omega
   generalize [2]++d1++d2++d3=pre at *;clear hu HS1 HS2 HS3 HCV HC1 HC2 HC3 HD1 HD2 HD3;obtain ⟨b0,b1,b2,b3,b4,b5,b6,b7⟩:=cells8 (HU.out.heap HB2.out id);go_wp2_with fail
   clear b0 b1 b2 b3 b4 b5 b6 b7;go_loopw [3,32] (fun s i wr=>∃k:Nat,i=.int .i64 k∧k≤outs.length∧s=.string (bs (pre++((outs.take k).map (·.1)).flatten))∧Upd noBlk w2 wr) (fun _ i _=>outs.length-(intOf i).toNat)
   case atStart=>exact ⟨0,rfl,Nat.zero_le _,by simp,HU.out⟩
   case round=>
    obtain ⟨k,rfl,hk,rfl,hu3⟩:=hrel;have HU3:=Lib.hid hu3;clear hu3;by_cases hlt:k<outs.length
    ·have hlt':(k:Int)<(outs.length:Int):=by omega
     obtain ⟨b,off,rfl,f1⟩:=HXO.out (by omega);have hk32:kHash.k=32:=rfl;have hat:=(f1 k hlt).keep (U2.out.trans HU3.out);rw [hk32] at hat;have HAT:=Lib.hid hat;have HEQ:Hid (pre++((outs.take (k+1)).map (·.1)).flatten=(pre++((outs.take k).map (·.1)).flatten)++outs[k].1):=by
      show _=_;rw [List.take_succ_eq_append_getElem hlt,List.map_append,List.flatten_append,List.append_assoc];simp
     have HPK:Hid ((pre++((outs.take k).map (·.1)).flatten).length≤4194400+k*32):=by
      have h2:((outs.take k).map (·.1)).flatten.length=(outs.take k).length*32:=by
       generalize outs.take k=q;induction q with
       | nil=>rfl
       | cons p q ih=>rw [List.map_cons,List.flatten_cons,List.length_append,ih,p.2,List.length_cons];omega
      show _≤_;rw [List.length_append,h2,List.length_take,Nat.min_eq_left hk];have:=HPL.out;omega
     clear f1 hat hk32;generalize outs[k]=ph at *;have HI:Hid ((Tryz.prog.info? 81).map (·.size)=some (hashC ph).length):=by show _=_;rw [hashC_len];kernel_rfl
     have HST:∀c:Array Value,c.size=32→(storeCells ⟨wr.heap.size,0,none⟩ (hashC ph) 0).run Tryz.prog (wr.alloc (.cells c 81))=.ok () (wr.alloc (.cells (hashC ph).toArray 81)):=fun c hc=>by
      have:=run_storeCells_new (P:=Tryz.prog) wr 81 c (hashC ph).toArray (by simpa using HI.out) (by simp [hc,hashC_len]) (all_oneCell_toArray (byV_one ph.1));simpa using this
     have hlen:=hashC_len ph;obtain ⟨pk,hpk⟩:∃pk,pk=pre++((outs.take k).map (·.1)).flatten:=⟨_,rfl⟩;rw [←hpk] at HEQ HPK ⊢;clear hpk;have hc32:(convert 41 9 (.slice (some ⟨wr.heap.size,0,none⟩) 32 32)).run Tryz.prog (wr.alloc (.cells (hashC ph).toArray 81))=.ok (.string (bs ph.1)) (wr.alloc (.cells (hashC ph).toArray 81)):=conv32 ph (fun j v hv=>by
      rw [Nat.zero_add,cell_of_row _ _ j (hashC ph).toArray 81 (0,0) (heap_alloc_last wr _)];have hv':(hashC ph)[j]?=some v:=hv;simpa using hv')
     have HUN:Hid (Upd noBlk w2 (wr.alloc (.cells (hashC ph).toArray 81))):=HU3.out.alloc _;have hsz:¬9223372036854775807<(bs pk).size+(bs ph.1).size:=by
      rw [bs_size,bs_size,ph.2];have:=HPK.out;have:=HOL.out;omega
     go_wp2_with (first | (refine wpList_load_mid rfl _ _ rfl b (off+k*32) rfl (hashC ph) _ HAT.out Tryz.underlying81 rfl HI.out ?_))
     refine ⟨⟨k+1,by push_cast;rfl,by omega,?_,HUN.out⟩,?_⟩
     ·rw [HEQ.out,bs_append]
     ·simp only [intOf];omega
    ·obtain rfl:k=outs.length:=by omega
     have HML:Hid (moves.length≤65536):=HRP.out.2.1.2.2;have hml:(moves.length:Int)≤65536:=by have:=HML.out;omega
     rw [List.take_length];have HPF:Hid ((pre++(outs.map (·.1)).flatten).length≤4194400+65536*32):=by
      have h2:∀q:List H32,(q.map (·.1)).flatten.length=q.length*32:=by
       intro q;induction q with
       | nil=>rfl
       | cons p q ih=>rw [List.map_cons,List.flatten_cons,List.length_append,ih,p.2,List.length_cons];omega
      show _≤_;rw [List.length_append,h2];have:=HPL.out;have:=HOL.out;omega
     have HDM:=Lib.hid (digB_ten (n:=moves.length) (by have:=HML.out;omega));have HCM:=fun W=>Lib.hid (digits_any moves.length (by have:=HML.out;omega) W);rw [←List.append_assoc pre] at HG1;generalize pre++(outs.map (·.1)).flatten=pre2 at *;have hsz:¬9223372036854775807<(bs pre2).size+(bs (digB moves.length)).size:=by rw [bs_size,bs_size];have:=HPF.out;have:=HDM.out;omega
     obtain ⟨b0,b1,b2,b3,b4,b5,b6,b7⟩:=cells8 (HU3.out.heap HB2.out id);go_wp2_with fail
     refine (HCM _).out.mono ?_;rintro e w4 ⟨rfl,u4⟩;have U4:=Lib.hid (HU3.out.trans u4);clear u4 b0 b1 b2 b3 b4 b5 b6 b7 HCM;obtain ⟨b0,b1,b2,b3,b4,b5,b6,b7⟩:=cells8 (U4.out.heap HB2.out id);go_wp2_with fail
     clear b0 b1 b2 b3 b4 b5 b6 b7 hsz;have HML2:Hid (∀m,m∈moves→(coordsM m).all insideC=true):=fun m hm=>List.all_eq_true.1 HRP.out.2.2 m hm;have HP3:Hid ((pre2++digB moves.length).length≤7000000):=by show _≤_;rw [List.length_append];have:=HPF.out;have:=HDM.out;omega
     have HG2:Hid (groupB (GV.g ⟨lv,ins,outs,moves,er,tot,neg,mag⟩)=(pre2++digB moves.length)++moves.flatMap (fun m=>(coordsM m).flatMap (fun n=>digB n.toNat))++(digB er.toNat++(digB tot.toNat++(digB (2*mag.length+(if neg=true then 1 else 0))++mag)))):=by
      show _=_;rw [HG1.out];unfold movesB;simp
     rw [bs_append];clear HG1 HPF HDM HPL HOL HXO;generalize pre2++digB moves.length=pre3 at *;go_loopw [3,50] (fun s i wr=>∃k:Nat,i=.int .i64 k∧k≤moves.length∧(∃q:Bytes,s=.string (bs q)∧q=pre3++(moves.take k).flatMap (fun m=>(coordsM m).flatMap (fun n=>digB n.toNat))∧q.length≤7000000+k*60)∧Upd noBlk w2 wr) (fun _ i _=>moves.length-(intOf i).toNat)
     case atStart=>exact ⟨0,rfl,Nat.zero_le _,⟨pre3,rfl,by simp,HP3.out⟩,U4.out⟩
     case round=>
      obtain ⟨k,rfl,hk,⟨q,rfl,hq,hql⟩,hu5⟩:=hrel;have HU5:=Lib.hid hu5;have HQ:=Lib.hid hq;have HQL:=Lib.hid hql;clear hu5 hq hql;by_cases hlt:k<moves.length
      ·have hlt':(k:Int)<(moves.length:Int):=by omega
       obtain ⟨b,off,rfl,f1⟩:=HXM.out (by omega);obtain ⟨g0,g1,g2,g3,g4,g5⟩:=mvAt6 ((f1 k hlt).keep (U2.out.trans HU5.out));have hk6:kMove.k=6:=rfl;rw [hk6] at g0 g1 g2 g3 g4 g5;have HTK:Hid ((moves.take (k+1)).flatMap (fun m=>(coordsM m).flatMap (fun n=>digB n.toNat))=(moves.take k).flatMap (fun m=>(coordsM m).flatMap (fun n=>digB n.toNat))++(coordsM moves[k]).flatMap (fun n=>digB n.toNat)):=by
        show _=_;rw [List.take_succ_eq_append_getElem hlt,List.flatMap_append];simp
       have HIN:Hid ((coordsM moves[k]).all insideC=true):=HML2.out _ (List.getElem_mem hlt);clear f1 hk6;generalize moves[k]=pm at *;have HCO:=fun W=>Lib.hid (coordinates_any pm W);have HIX:=fun j hj W=>Lib.hid (index_mv pm j hj W);obtain ⟨⟨a0,a1,a2⟩,⟨a3,a4,a5⟩⟩:=pm;simp only at g0 g1 g2 g3 g4 g5;go_wp2_with fail
       refine (HCO _).out.mono ?_;rintro e w5 ⟨rfl,u5⟩;have U5:Hid (Upd noBlk w2 w5):=(HU5.out.alloc _).trans ((Upd.refl _ _).trans u5);clear u5 g0 g1 g2 g3 g4 g5 HCO;generalize ((a0,a1,a2),a3,a4,a5)=pm at *;go_wp2_with fail
       go_loopw [3,56] (fun s i wr=>∃j:Nat,i=.int .i64 j∧j≤6∧(∃q':Bytes,s=.string (bs q')∧q'=q++((coordsM pm).take j).flatMap (fun n=>digB n.toNat)∧q'.length≤7000000+k*60+j*10)∧Upd noBlk w2 wr) (fun _ i _=>6-(intOf i).toNat)
       case atStart=>exact ⟨0,rfl,Nat.zero_le _,⟨q,rfl,by simp,by have:=HQL.out;omega⟩,U5.out⟩
       case round=>
        obtain ⟨j,rfl,hj,⟨q',rfl,hq',hql'⟩,hu6⟩:=hrel;have HU6:=Lib.hid hu6;have HQ':=Lib.hid hq';have HQL':=Lib.hid hql';clear hu6 hq' hql';by_cases hlt2:j<6
        ·have hlt3:(j:Int)<6:=by omega
         have hix:=fun W=>(HIX j hlt2 W).out;have HTJ:Hid (((coordsM pm).take (j+1)).flatMap (fun n=>digB n.toNat)=((coordsM pm).take j).flatMap (fun n=>digB n.toNat)++digB (coordAt pm j).toNat):=by
          have hl6:(coordsM pm).length=6:=rfl;show _=_;rw [List.take_succ_eq_append_getElem (by omega),List.flatMap_append];unfold coordAt;rw [List.getD_eq_getElem?_getD,List.getElem?_eq_getElem (by omega)];simp
         have HCI:Hid (insideC (coordAt pm j)=true):=by
          have hl6:(coordsM pm).length=6:=rfl;show _=_;refine List.all_eq_true.1 HIN.out _ ?_;unfold coordAt;rw [List.getD_eq_getElem?_getD,List.getElem?_eq_getElem (by omega)];exact List.getElem_mem _
         generalize coordAt pm j=n at *;have HC2:Hid (0≤n∧n≤2097151):=by show _∧_;have:=HCI.out;unfold insideC at this;exact of_decide_eq_true this
         have HCD:=fun W=>Lib.hid (digits_int n HC2.out.1 (Int.lt_of_le_of_lt HC2.out.2 (by decide)) W);have HD:=Lib.hid (digB_ten (n:=n.toNat) (by have h:0≤n∧n≤2097151:=HC2.out;omega));generalize hd:digB n.toNat=d at *;clear hd;have HQ2:Hid (q'++d=q++((coordsM pm).take (j+1)).flatMap (fun n=>digB n.toNat)):=by show _=_;rw [HTJ.out,HQ'.out,List.append_assoc]
         have HL2:Hid ((q'++d).length≤7000000+k*60+(j+1)*10):=by show _≤_;rw [List.length_append];have:=HQL'.out;have:=HD.out;omega
         have hsz:¬9223372036854775807<(bs q').size+(bs d).size:=by rw [bs_size,bs_size];have:=HQL'.out;have:=HD.out;have:=HML.out;omega
         go_wp2_with fail
         refine (HCD _).out.mono ?_;rintro e w6 ⟨rfl,u6⟩;have U6:=Lib.hid (HU6.out.trans u6);clear u6 HCD;go_wp2_with fail
         refine ⟨⟨j+1,by push_cast;rfl,by omega,⟨q'++d,by rw [bs_append],HQ2.out,HL2.out⟩,U6.out⟩,?_⟩;simp only [intOf];omega
        ·obtain rfl:j=6:=by omega
         have HQ3:Hid (q'=pre3++(moves.take (k+1)).flatMap (fun m=>(coordsM m).flatMap (fun n=>digB n.toNat))):=by
          show _=_;rw [HQ'.out,HQ.out,HTK.out,List.append_assoc];rfl
         go_wp2_with fail
         refine ⟨⟨k+1,by push_cast;rfl,by omega,⟨q',rfl,HQ3.out,by have:=HQL'.out;omega⟩,HU6.out⟩,?_⟩;simp only [intOf];omega
      ·obtain rfl:k=moves.length:=by omega
       have HQF:Hid (tgt=q++(digB er.toNat++(digB tot.toNat++(digB (2*mag.length+(if neg=true then 1 else 0))++mag)))):=by show _=_;rw [HIF.out,HG2.out,HQ.out,List.take_length]
       have HQM:Hid (q.length≤11000000):=by show _≤_;have:=HQL.out;have:=HML.out;omega
       have HMG:Hid (mag.length≤1152921504606846976):=HOK.out.mag;have HCE:=fun W=>Lib.hid (digits_int er HRP.out.1.2.1 HOK.out.err W);have HCT:=fun W=>Lib.hid (digits_int tot HRP.out.1.2.2 HOK.out.total W);have HDE:=Lib.hid (digB_ten (n:=er.toNat) (by have h:er<9223372036854775808:=HOK.out.err;omega));have HDT:=Lib.hid (digB_ten (n:=tot.toNat) (by have h:tot<9223372036854775808:=HOK.out.total;omega));clear HG2 HQ HQL HIF HOK HXM HML2 HP3 hml hol hlt hk;obtain ⟨b0,b1,b2,b3,b4,b5,b6,b7⟩:=cells8 (HU5.out.heap HB2.out id);obtain ⟨s0,hs0⟩:∃s0,s0=2*mag.length:=⟨_,rfl⟩;obtain ⟨s1,hs1⟩:∃s1,s1=s0+1:=⟨_,rfl⟩;have HSM:Hid (s0=2*mag.length∧s1=s0+1):=⟨hs0,hs1⟩;have hwm:IntKind.i64.wrap (2*(((bs mag).size:Nat):Int))=(s0:Int):=by rw [bs_size,hs0,wrapN (by omega) (by have:=HMG.out;omega)];push_cast;rfl
       have hwm1:IntKind.i64.wrap ((s0:Int)+1)=(s1:Int):=by rw [hs1,wrapN (by omega) (by have:=HMG.out;omega)];push_cast;rfl
       clear hs0 hs1;have HEND:Hid (∀sz:Nat,∀W,Upd noBlk w W→tgt=q++(digB er.toNat++(digB tot.toNat++(digB sz++mag)))→strR tgt w (.returned (.string (bs q++bs (digB er.toNat)++bs (digB tot.toNat)++bs (digB sz)++bs mag))) W):=fun sz W hW h=>⟨by rw [h];simp only [bs_append,List.append_assoc],hW⟩;cases neg with
       | false=>
        have HQ2:Hid (tgt=q++(digB er.toNat++(digB tot.toNat++(digB s0++mag)))):=by show _=_;rw [HSM.out.1];exact HQF.out
        go_upto_region 22 with fail
        obtain ⟨sz,hsz⟩:∃sz,sz=s0:=⟨_,rfl⟩;have HCS:=fun W=>Lib.hid (digits_any s0 (by have:=HMG.out;have:=HSM.out;omega) W);have HDS:=Lib.hid (digB_ten (n:=s0) (by have:=HMG.out;have:=HSM.out;omega));clear hwm hwm1;rw [←hsz] at HCS HDS HQ2
        (try rw [←hsz])
        have HEN:=Lib.hid (fun W hW=>HEND.out sz W hW HQ2.out);clear hsz HQ2 HEND HQF HSM;generalize digB er.toNat=e1 at *;generalize digB tot.toNat=e2 at *;generalize digB sz=e3 at *;have HS1:Hid (¬9223372036854775807<(bs q).size+(bs e1).size):=by show ¬_;rw [bs_size,bs_size];have:=HQM.out;have:=HDE.out;omega
        have HS2:Hid (¬9223372036854775807<(bs q).size+(bs e1).size+(bs e2).size):=by show ¬_;rw [bs_size,bs_size,bs_size];have:=HQM.out;have:=HDE.out;have:=HDT.out;omega
        have HS3:Hid (¬9223372036854775807<(bs q).size+(bs e1).size+(bs e2).size+(bs e3).size):=by show ¬_;rw [bs_size,bs_size,bs_size,bs_size];have:=HQM.out;have:=HDE.out;have:=HDT.out;have:=HDS.out;omega
        have HS4:Hid (¬9223372036854775807<(bs q).size+(bs e1).size+(bs e2).size+(bs e3).size+(bs mag).size):=by show ¬_;rw [bs_size,bs_size,bs_size,bs_size,bs_size];have:=HQM.out;have:=HDE.out;have:=HDT.out;have:=HDS.out;have:=HMG.out;omega
        clear b0 b1 b2 b3 b4 b5 b6 b7 HQM HDE HDT HDS HMG HML;refine wp_region_tree 15 (OT.sures [0,1,5,9,12,2,6,13,14] (.run 3 (OT.sures [4] (.run 7 (OT.sures [8] (.run 10 (OT.sures [11] .nil))))))) (fun w'=>Upd noBlk w2 w') (by kernel_rfl) (by kernel_rfl) (fun c a d v w h=>by cases d<;>exact h) HU5.out.drew ?_
        simp only [OT.sures]
        iterate 9 (apply wpT_sure rfl rfl;focus (intro w' hw';obtain ⟨b0,b1,b2,b3,b4,b5,b6,b7⟩:=cells8 (hw'.heap HB2.out id);go_simp;rfl))
        refine wpT_run (fun w'=>Upd noBlk w2 w') (fun _ h=>h) rfl (fun K' hK=>?_);go_simp
        refine (HCE _).out.mono ?_;rintro e z1 ⟨rfl,uz1⟩;have V1:=Lib.hid (HU5.out.drew.trans uz1);refine hK _ _ ⟨V1.out,?_⟩;clear hK K' uz1
        (apply wpT_sure rfl rfl;focus (intro w' hw';have s1:=HS1.out;go_simp;rfl))
        refine wpT_run (fun w'=>Upd noBlk w2 w') (fun _ h=>h) rfl (fun K' hK=>?_);go_simp
        refine (HCT _).out.mono ?_;rintro e z2 ⟨rfl,uz2⟩;have V2:=Lib.hid (V1.out.trans uz2);refine hK _ _ ⟨V2.out,?_⟩;clear hK K' uz2
        (apply wpT_sure rfl rfl;focus (intro w' hw';have s1:=HS1.out;have s2:=HS2.out;go_simp;rfl))
        refine wpT_run (fun w'=>Upd noBlk w2 w') (fun _ h=>h) rfl (fun K' hK=>?_);go_simp
        refine (HCS _).out.mono ?_;rintro e z3 ⟨rfl,uz3⟩;have V3:=Lib.hid (V2.out.trans uz3);refine hK _ _ ⟨V3.out,?_⟩;clear hK K' uz3
        (apply wpT_sure rfl rfl;focus (intro w' hw';have s1:=HS1.out;have s2:=HS2.out;have s3:=HS3.out;go_simp;rfl))
        refine wpT_nil ?_;have s1:=HS1.out;have s2:=HS2.out;have s3:=HS3.out;have s4:=HS4.out;go_wp2_with fail
        go_ret
        exact HEN.out _ (U2.out.trans V3.out)
       | true=>
        have HQ2:Hid (tgt=q++(digB er.toNat++(digB tot.toNat++(digB s1++mag)))):=by show _=_;rw [HSM.out.2,HSM.out.1];exact HQF.out
        go_upto_region 22 with fail
        obtain ⟨sz,hsz⟩:∃sz,sz=s1:=⟨_,rfl⟩;have HCS:=fun W=>Lib.hid (digits_any s1 (by have:=HMG.out;have:=HSM.out;omega) W);have HDS:=Lib.hid (digB_ten (n:=s1) (by have:=HMG.out;have:=HSM.out;omega));clear hwm hwm1;rw [←hsz] at HCS HDS HQ2
        (try rw [←hsz])
        have HEN:=Lib.hid (fun W hW=>HEND.out sz W hW HQ2.out);clear hsz HQ2 HEND HQF HSM;generalize digB er.toNat=e1 at *;generalize digB tot.toNat=e2 at *;generalize digB sz=e3 at *;have HS1:Hid (¬9223372036854775807<(bs q).size+(bs e1).size):=by show ¬_;rw [bs_size,bs_size];have:=HQM.out;have:=HDE.out;omega
        have HS2:Hid (¬9223372036854775807<(bs q).size+(bs e1).size+(bs e2).size):=by show ¬_;rw [bs_size,bs_size,bs_size];have:=HQM.out;have:=HDE.out;have:=HDT.out;omega
        have HS3:Hid (¬9223372036854775807<(bs q).size+(bs e1).size+(bs e2).size+(bs e3).size):=by show ¬_;rw [bs_size,bs_size,bs_size,bs_size];have:=HQM.out;have:=HDE.out;have:=HDT.out;have:=HDS.out;omega
        have HS4:Hid (¬9223372036854775807<(bs q).size+(bs e1).size+(bs e2).size+(bs e3).size+(bs mag).size):=by show ¬_;rw [bs_size,bs_size,bs_size,bs_size,bs_size];have:=HQM.out;have:=HDE.out;have:=HDT.out;have:=HDS.out;have:=HMG.out;omega
        clear b0 b1 b2 b3 b4 b5 b6 b7 HQM HDE HDT HDS HMG HML;refine wp_region_tree 15 (OT.sures [0,1,5,9,12,2,6,13,14] (.run 3 (OT.sures [4] (.run 7 (OT.sures [8] (.run 10 (OT.sures [11] .nil))))))) (fun w'=>Upd noBlk w2 w') (by kernel_rfl) (by kernel_rfl) (fun c a d v w h=>by cases d<;>exact h) HU5.out.drew ?_
        simp only [OT.sures]
        iterate 9 (apply wpT_sure rfl rfl;focus (intro w' hw';obtain ⟨b0,b1,b2,b3,b4,b5,b6,b7⟩:=cells8 (hw'.heap HB2.out id);go_simp;rfl))
        refine wpT_run (fun w'=>Upd noBlk w2 w') (fun _ h=>h) rfl (fun K' hK=>?_);go_simp
        refine (HCE _).out.mono ?_;rintro e z1 ⟨rfl,uz1⟩;have V1:=Lib.hid (HU5.out.drew.trans uz1);refine hK _ _ ⟨V1.out,?_⟩;clear hK K' uz1
        (apply wpT_sure rfl rfl;focus (intro w' hw';have s1:=HS1.out;go_simp;rfl))
        refine wpT_run (fun w'=>Upd noBlk w2 w') (fun _ h=>h) rfl (fun K' hK=>?_);go_simp
        refine (HCT _).out.mono ?_;rintro e z2 ⟨rfl,uz2⟩;have V2:=Lib.hid (V1.out.trans uz2);refine hK _ _ ⟨V2.out,?_⟩;clear hK K' uz2
        (apply wpT_sure rfl rfl;focus (intro w' hw';have s1:=HS1.out;have s2:=HS2.out;go_simp;rfl))
        refine wpT_run (fun w'=>Upd noBlk w2 w') (fun _ h=>h) rfl (fun K' hK=>?_);go_simp
        refine (HCS _).out.mono ?_;rintro e z3 ⟨rfl,uz3⟩;have V3:=Lib.hid (V2.out.trans uz3);refine hK _ _ ⟨V3.out,?_⟩;clear hK K' uz3
        (apply wpT_sure rfl rfl;focus (intro w' hw';have s1:=HS1.out;have s2:=HS2.out;have s3:=HS3.out;go_simp;rfl))
        refine wpT_nil ?_;have s1:=HS1.out;have s2:=HS2.out;have s3:=HS3.out;have s4:=HS4.out;go_wp2_with fail
        go_ret
        exact HEN.out _ (U2.out.trans V3.out)
end Go.Proofs.YtcikldoaidmnhaaGreatDoor
