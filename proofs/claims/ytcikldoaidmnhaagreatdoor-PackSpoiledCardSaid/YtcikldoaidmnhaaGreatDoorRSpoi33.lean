/- Parts: Walks of the reference of packets: Group. No condition. -/
import Derived.Test.YtcikldoaidmnhaaGreatDoorRSpoi1
import Derived.Test.YtcikldoaidmnhaaGreatDoorRSpoi2
import Derived.Test.YtcikldoaidmnhaaGreatDoorRSpoi3
import Derived.Test.YtcikldoaidmnhaaGreatDoorRSpoi4
import Derived.Test.YtcikldoaidmnhaaGreatDoorRSpoi5
import Derived.Test.YtcikldoaidmnhaaGreatDoorRSpoi6
import Derived.Test.YtcikldoaidmnhaaGreatDoorRSpoi7
import Derived.Test.YtcikldoaidmnhaaGreatDoorRSpoi11
import Derived.Test.YtcikldoaidmnhaaGreatDoorRSpoi12
import Derived.Test.YtcikldoaidmnhaaGreatDoorRSpoi17
import Derived.Test.YtcikldoaidmnhaaGreatDoorRSpoi18
import Derived.Test.YtcikldoaidmnhaaGreatDoorRSpoi19
import Derived.Test.YtcikldoaidmnhaaGreatDoorRSpoi20
import Derived.Test.YtcikldoaidmnhaaGreatDoorRSpoi22
import Derived.Test.YtcikldoaidmnhaaGreatDoorRSpoi23
import Derived.Test.YtcikldoaidmnhaaGreatDoorRSpoi25
import Derived.Test.YtcikldoaidmnhaaGreatDoorRSpoi26
import Derived.Test.YtcikldoaidmnhaaGreatDoorRSpoi29
import Derived.WalkKit
import Derived.WalkSpells
import Derived.WalkLawsBesides
import Derived.Lib.Hide
import Derived.BigQuiet
import Derived.Deep.DeepFit
import Derived.Deep.DeepCutAuto
import Derived.Deep.AppendLies
import Derived.Deep.QuietTactic
import Derived.Test.YtcikldoaidmnhaaGreatDoorRows
import Derived.Deep.RegionHeld3
import Derived.StillTail
import Derived.Maps.OwnOps
import Derived.Maps.OwnSet
import Derived.Maps.RangeWalk
import Derived.WideKeyEntry
import Derived.Deep.MidRow
import Derived.Lib.Bits
import Derived.Laws.EntriesVeiled
import Derived.Handy
import Derived.DeepKeys4
import Derived.ArgAppend
import Derived.Deep.Upon
import Derived.Deep.CutBlock
import Derived.Test.YtcikldoaidmnhaaGreatDoorShelf2
import Derived.Laws.BitsAllLaws
import Derived.Laws.BytesArg
import Derived.Deep.WholeRow
import Derived.Test.YtcikldoaidmnhaaGreatDoorShelf
import Derived.Lib.Zigzag
import Derived.Recover
import Derived.Laws.IdiomStrings
namespace Go.Proofs.YtcikldoaidmnhaaGreatDoor
open Go Go.RowKit Pk
set_option maxRecDepth 100000
theorem jdigits_int (n:Int) (h0:0≤n) (h1:n<9223372036854775808) (w:World):Calls Tryz.prog 82 #[.int .i64 n] w fun en w'=>strR (digB n.toNat) w en w':=by
 have:=jdigits_any n.toNat (by omega) w;rw [Int.toNat_of_nonneg h0] at this;exact this
set_option maxHeartbeats 4000000 in
theorem jGroup_any (x:GV) (hx:x.Ok) (vi vo vm:Value) (w:World) (hi:kPart.Rd w vi x.ins) (ho:kHash.Rd w vo x.outs) (hm:kMove.Rd w vm x.moves):Calls Tryz.prog 33 #[x.V vi vo vm] w fun en w'=>strR (if rightG x.g=true then groupB x.g else []) w en w':=by
 obtain ⟨tgt,ht⟩:∃t,t=if rightG x.g=true then groupB x.g else []:=⟨_,rfl⟩;rw [←ht];have HT:=Lib.hid ht;clear ht;have HRG:Hid (∀W,Upd noBlk w W→Calls Tryz.prog 34 #[x.V vi vo vm] W fun en w'=>en=.returned (.bool (rightG x.g))∧Upd noBlk W w'):=fun W hW=>jRight_any x vi vo vm W (hi.keep hW) (ho.keep hW) (hm.keep hW);have HPA:Hid (∀W,x.ins.length≤65536→Upd noBlk w W→Calls Tryz.prog 75 #[vi] W fun en w'=>strR (partsB (x.ins.map plainP)) W en w'):=fun W hl hW=>jparts_any vi x.ins hl W (hi.keep hW);obtain ⟨lv,ins,outs,moves,er,tot,neg,mag⟩:=x;have HOK:=Lib.hid hx;clear hx;obtain ⟨Ai,capi,rfl,_,hxi⟩:=hi;obtain ⟨Ao,capo,rfl,hco,hxo⟩:=ho;obtain ⟨Am,capm,rfl,hcm,hxm⟩:=hm;have HXO:=Lib.hid hxo;have HXM:=Lib.hid hxm;clear hxi hxo hxm;unfold GV.V at *;simp only at *;go_enter Tryz.func33,Tryz.ntmps33
 have HB:Hid ((w.alloc (.cells #[.int .i64 lv,.slice Ai ins.length capi,.slice Ao outs.length capo,.slice Am moves.length capm,.int .i64 er,.int .i64 tot,.bool neg,.string (bs mag)] 68)).heap[w.heap.size]?=some (.cells #[.int .i64 lv,.slice Ai ins.length capi,.slice Ao outs.length capo,.slice Am moves.length capm,.int .i64 er,.int .i64 tot,.bool neg,.string (bs mag)] 68 (0,0))):=heap_alloc_last w _;have HU0:Hid (Upd noBlk w (w.alloc (.cells #[.int .i64 lv,.slice Ai ins.length capi,.slice Ao outs.length capo,.slice Am moves.length capm,.int .i64 er,.int .i64 tot,.bool neg,.string (bs mag)] 68))):=(Upd.refl _ w).alloc _;go_upto_region 1 with fail
 generalize w.heap.size=bb at *;generalize w.alloc (.cells #[.int .i64 lv,.slice Ai ins.length capi,.slice Ao outs.length capo,.slice Am moves.length capm,.int .i64 er,.int .i64 tot,.bool neg,.string (bs mag)] 68)=w1 at *;obtain ⟨b0,b1,b2,b3,b4,b5,b6,b7⟩:=cells8 HB.out;go_wp2_with fail
 refine (HRG.out _ HU0.out).mono ?_;rintro e w2 ⟨rfl,u2⟩;have HB2:Hid _:=u2.heap HB.out id;have U2:=Lib.hid (HU0.out.trans u2);clear b0 b1 b2 b3 b4 b5 b6 b7 HB HU0 HRG u2;rcases hr:rightG (GV.g ⟨lv,ins,outs,moves,er,tot,neg,mag⟩) with _ | _
 ·have HIF:Hid (tgt=[]):=by have:=HT.out;rw [hr] at this;rw [this];exact if_neg (by decide)
  go_wp2_with fail
  go_ret
  exact ⟨by rw [HIF.out];rfl,U2.out⟩
 ·have HRP:=Lib.hid (right_parts hr);have HIF:Hid (tgt=groupB (GV.g ⟨lv,ins,outs,moves,er,tot,neg,mag⟩)):=by have:=HT.out;rw [hr] at this;rw [this];exact if_pos rfl
  clear hr HT;go_upto_region 4 with fail
  have HD1:=Lib.hid (digB_ten (n:=lv.toNat) (by have:=HOK.out.level;have:lv<9223372036854775808:=this;omega));have HD3:=Lib.hid (digB_ten (n:=outs.length) (by have:=HRP.out.2.1.2.1;have:outs.length≤65536:=this;omega));have HD2:Hid ((partsB (ins.map plainP)).length≤10+65536*64):=by
   have h:ins.length≤65536:=HRP.out.2.1.1;have:=partsB_len ins h;show _≤_;omega
  have HC1:Hid (∀W,Upd noBlk w2 W→Calls Tryz.prog 82 #[.int .i64 lv] W fun en w'=>strR (digB lv.toNat) W en w'):=fun W _=>jdigits_int lv HRP.out.1.1 HOK.out.level W;have HC2:Hid (∀W,Upd noBlk w2 W→Calls Tryz.prog 75 #[.slice Ai ins.length capi] W fun en w'=>strR (partsB (ins.map plainP)) W en w'):=fun W hW=>HPA.out W HRP.out.2.1.1 (U2.out.trans hW);have HC3:Hid (∀W,Upd noBlk w2 W→Calls Tryz.prog 82 #[.int .i64 (outs.length:Int)] W fun en w'=>strR (digB outs.length) W en w'):=fun W _=>jdigits_any outs.length (by have h:outs.length≤65536:=HRP.out.2.1.2.1;omega) W;have HG1:Hid (groupB (GV.g ⟨lv,ins,outs,moves,er,tot,neg,mag⟩)=[2]++digB lv.toNat++partsB (ins.map plainP)++digB outs.length++((outs.map (·.1)).flatten++(movesB moves++(digB er.toNat++(digB tot.toNat++(digB (2*mag.length+(if neg=true then 1 else 0))++mag)))))):=by
   show _=_;unfold groupB GV.g sizeG;simp
  clear HPA;generalize digB lv.toNat=d1 at *;generalize partsB (ins.map plainP)=d2 at *;generalize hd3:digB outs.length=d3 at *;clear hd3;have HS1:Hid (¬9223372036854775807<(bs [2]).size+(bs d1).size):=by show ¬_;rw [bs_size,bs_size];have:=HD1.out;simp only [List.length_cons,List.length_nil];omega
  have HS2:Hid (¬9223372036854775807<(bs [2]).size+(bs d1).size+(bs d2).size):=by show ¬_;rw [bs_size,bs_size,bs_size];have:=HD1.out;have:=HD2.out;simp only [List.length_cons,List.length_nil];omega
  have HS3:Hid (¬9223372036854775807<(bs [2]).size+(bs d1).size+(bs d2).size+(bs d3).size):=by show ¬_;rw [bs_size,bs_size,bs_size,bs_size];have:=HD1.out;have:=HD2.out;have:=HD3.out;simp only [List.length_cons,List.length_nil];omega
  have HS1':Hid (¬9223372036854775807<1+(bs d1).size):=HS1.out;have HS2':Hid (¬9223372036854775807<1+(bs d1).size+(bs d2).size):=HS2.out;have HS3':Hid (¬9223372036854775807<1+(bs d1).size+(bs d2).size+(bs d3).size):=HS3.out;go_cut [4] (fun c wc=>c=.string (bs [2]++bs d1++bs d2++bs d3)∧Upd noBlk w2 wc)
  case first=>
   refine wp_region_tree 13 (OT.sures [0,4,8,1,5,9,10] (.run 2 (OT.sures [3] (.run 6 (OT.sures [7] (.run 11 (OT.sures [12] .nil))))))) (fun w'=>Upd noBlk w2 w') (by kernel_rfl) (by kernel_rfl) (fun c a d v w h=>by cases d<;>exact h) ((Upd.refl noBlk w2).drew) ?_
   simp only [OT.sures]
   iterate 7 (apply wpT_sure rfl rfl;focus (intro w' hw';obtain ⟨b0,b1,b2,b3,b4,b5,b6,b7⟩:=cells8 (hw'.heap HB2.out id);go_simp;rfl))
   refine wpT_run (fun w'=>Upd noBlk w2 w') (fun _ h=>h) rfl (fun K' hK=>?_);go_simp
   refine (HC1.out _ (Upd.refl noBlk w2).drew).mono ?_;rintro e z1 ⟨rfl,uz1⟩;have V1:=Lib.hid ((Upd.refl noBlk w2).drew.trans uz1);refine hK _ _ ⟨V1.out,?_⟩;clear hK K' uz1
   (apply wpT_sure rfl rfl;focus (intro w' hw';have s1:=HS1'.out;go_simp;rfl))
   refine wpT_run (fun w'=>Upd noBlk w2 w') (fun _ h=>h) rfl (fun K' hK=>?_);go_simp
   refine (HC2.out _ V1.out).mono ?_;rintro e z2 ⟨rfl,uz2⟩;have V2:=Lib.hid (V1.out.trans uz2);refine hK _ _ ⟨V2.out,?_⟩;clear hK K' uz2
   (apply wpT_sure rfl rfl;focus (intro w' hw';have s1:=HS1'.out;have s2:=HS2'.out;go_simp;rfl))
   refine wpT_run (fun w'=>Upd noBlk w2 w') (fun _ h=>h) rfl (fun K' hK=>?_);go_simp
   refine (HC3.out _ V2.out).mono ?_;rintro e z3 ⟨rfl,uz3⟩;have V3:=Lib.hid (V2.out.trans uz3);refine hK _ _ ⟨V3.out,?_⟩;clear hK K' uz3
   (apply wpT_sure rfl rfl;focus (intro w' hw';have s1:=HS1'.out;have s2:=HS2'.out;have s3:=HS3'.out;go_simp;rfl))
   refine wpT_nil ?_;go_wp2_with fail
   go_meet
   exact ⟨rfl,V3.out⟩
  case rest=>
   obtain ⟨rfl,hu⟩:=hcut;have HU:=Lib.hid hu;rw [bs_append,bs_append,bs_append];have HPL:Hid (([2]++d1++d2++d3:Bytes).length≤4194400):=by show _≤_;simp only [List.length_append,List.length_cons,List.length_nil];have:=HD1.out;have:=HD2.out;have:=HD3.out;omega
   have HOL:Hid (outs.length≤65536):=HRP.out.2.1.2.1;have hol:(outs.length:Int)≤65536:=by have:=HOL.out;omega
   generalize [2]++d1++d2++d3=pre at *;clear hu HS1 HS2 HS3 HS1' HS2' HS3' HC1 HC2 HC3 HD1 HD2 HD3;obtain ⟨b0,b1,b2,b3,b4,b5,b6,b7⟩:=cells8 (HU.out.heap HB2.out id);go_wp2_with fail
   clear b0 b1 b2 b3 b4 b5 b6 b7;go_loopw [4,5] (fun s i wr=>∃k:Nat,i=.int .i64 k∧k≤outs.length∧s=.string (bs (pre++((outs.take k).map (·.1)).flatten))∧Upd noBlk w2 wr) (fun _ i _=>outs.length-(intOf i).toNat)
   case atStart=>exact ⟨0,rfl,Nat.zero_le _,by simp,HU.out⟩
   case round=>
    obtain ⟨k,rfl,hk,rfl,hu3⟩:=hrel;have HU3:=Lib.hid hu3;clear hu3;by_cases hlt:k<outs.length
    ·have hlt':(k:Int)<(outs.length:Int):=by omega
     obtain ⟨b,off,rfl,f1⟩:=HXO.out (by omega);have hk32:kHash.k=32:=rfl;have hat:=(f1 k hlt).keep (U2.out.trans HU3.out);rw [hk32] at hat;have HAT:=Lib.hid hat;have HEQ:Hid (pre++((outs.take (k+1)).map (·.1)).flatten=(pre++((outs.take k).map (·.1)).flatten)++outs[k].1):=by
      show _=_;rw [List.take_succ_eq_append_getElem hlt,List.map_append,List.flatten_append,List.append_assoc];simp
     have HPK:Hid ((pre++((outs.take k).map (·.1)).flatten).length≤4194400+k*32):=by
      have h2:((outs.take k).map (·.1)).flatten.length=(outs.take k).length*32:=by
       generalize outs.take k=q;induction q with
       | nil=>rfl
       | cons p q ih=>rw [List.map_cons,List.flatten_cons,List.length_append,ih,p.2,List.length_cons];omega
      show _≤_;rw [List.length_append,h2,List.length_take,Nat.min_eq_left hk];have:=HPL.out;omega
     clear f1 hat hk32;generalize outs[k]=ph at *;have HI:Hid ((Tryz.prog.info? 81).map (·.size)=some (hashC ph).length):=by show _=_;rw [hashC_len];kernel_rfl
     have HBY:=fun W=>Lib.hid (jbytes_any ph W);obtain ⟨pk,hpk⟩:∃pk,pk=pre++((outs.take k).map (·.1)).flatten:=⟨_,rfl⟩;rw [←hpk] at HEQ HPK ⊢;clear hpk;have hsz:¬9223372036854775807<(bs pk).size+(bs ph.1).size:=by
      rw [bs_size,bs_size,ph.2];have:=HPK.out;have:=HOL.out;omega
     obtain ⟨b0,b1,b2,b3,b4,b5,b6,b7⟩:=cells8 (HU3.out.heap HB2.out id);go_wp2_with (first | (refine wpList_load_mid rfl _ _ rfl b (off+k*32) rfl (hashC ph) _ HAT.out Tryz.underlying81 rfl HI.out ?_))
     refine (HBY _).out.mono ?_;rintro e wn ⟨rfl,un⟩;have HUN:=Lib.hid (HU3.out.trans un);clear un HBY b0 b1 b2 b3 b4 b5 b6 b7;go_wp2_with fail
     refine ⟨⟨k+1,by push_cast;rfl,by omega,?_,HUN.out⟩,?_⟩
     ·rw [HEQ.out,bs_append]
     ·simp only [intOf];omega
    ·obtain rfl:k=outs.length:=by omega
     have HML:Hid (moves.length≤65536):=HRP.out.2.1.2.2;have hml:(moves.length:Int)≤65536:=by have:=HML.out;omega
     rw [List.take_length];have HPF:Hid ((pre++(outs.map (·.1)).flatten).length≤4194400+65536*32):=by
      have h2:∀q:List H32,(q.map (·.1)).flatten.length=q.length*32:=by
       intro q;induction q with
       | nil=>rfl
       | cons p q ih=>rw [List.map_cons,List.flatten_cons,List.length_append,ih,p.2,List.length_cons];omega
      show _≤_;rw [List.length_append,h2];have:=HPL.out;have:=HOL.out;omega
     have HDM:=Lib.hid (digB_ten (n:=moves.length) (by have:=HML.out;omega));have HCM:=fun W=>Lib.hid (jdigits_any moves.length (by have:=HML.out;omega) W);rw [←List.append_assoc pre] at HG1;generalize pre++(outs.map (·.1)).flatten=pre2 at *;have hsz:¬9223372036854775807<(bs pre2).size+(bs (digB moves.length)).size:=by rw [bs_size,bs_size];have:=HPF.out;have:=HDM.out;omega
     obtain ⟨b0,b1,b2,b3,b4,b5,b6,b7⟩:=cells8 (HU3.out.heap HB2.out id);go_wp2_with fail
     refine (HCM _).out.mono ?_;rintro e w4 ⟨rfl,u4⟩;have U4:=Lib.hid (HU3.out.trans u4);clear u4 b0 b1 b2 b3 b4 b5 b6 b7 HCM;obtain ⟨b0,b1,b2,b3,b4,b5,b6,b7⟩:=cells8 (U4.out.heap HB2.out id);go_wp2_with fail
     clear b0 b1 b2 b3 b4 b5 b6 b7 hsz;have HML2:Hid (∀m,m∈moves→(coordsM m).all insideC=true):=fun m hm=>List.all_eq_true.1 HRP.out.2.2 m hm;have HP3:Hid ((pre2++digB moves.length).length≤7000000):=by show _≤_;rw [List.length_append];have:=HPF.out;have:=HDM.out;omega
     have HG2:Hid (groupB (GV.g ⟨lv,ins,outs,moves,er,tot,neg,mag⟩)=(pre2++digB moves.length)++moves.flatMap (fun m=>(coordsM m).flatMap (fun n=>digB n.toNat))++(digB er.toNat++(digB tot.toNat++(digB (2*mag.length+(if neg=true then 1 else 0))++mag)))):=by
      show _=_;rw [HG1.out];unfold movesB;simp
     rw [bs_append];clear HG1 HPF HDM HPL HOL HXO;generalize pre2++digB moves.length=pre3 at *;go_loopw [4,6] (fun s i wr=>∃k:Nat,i=.int .i64 k∧k≤moves.length∧(∃q:Bytes,s=.string (bs q)∧q=pre3++(moves.take k).flatMap (fun m=>(coordsM m).flatMap (fun n=>digB n.toNat))∧q.length≤7000000+k*60)∧Upd noBlk w2 wr) (fun _ i _=>moves.length-(intOf i).toNat)
     case atStart=>exact ⟨0,rfl,Nat.zero_le _,⟨pre3,rfl,by simp,HP3.out⟩,U4.out⟩
     case round=>
      obtain ⟨k,rfl,hk,⟨q,rfl,hq,hql⟩,hu5⟩:=hrel;have HU5:=Lib.hid hu5;have HQ:=Lib.hid hq;have HQL:=Lib.hid hql;clear hu5 hq hql;by_cases hlt:k<moves.length
      ·have hlt':(k:Int)<(moves.length:Int):=by omega
       obtain ⟨b,off,rfl,f1⟩:=HXM.out (by omega);obtain ⟨g0,g1,g2,g3,g4,g5⟩:=mvAt6 ((f1 k hlt).keep (U2.out.trans HU5.out));have hk6:kMove.k=6:=rfl;rw [hk6] at g0 g1 g2 g3 g4 g5;have HTK:Hid ((moves.take (k+1)).flatMap (fun m=>(coordsM m).flatMap (fun n=>digB n.toNat))=(moves.take k).flatMap (fun m=>(coordsM m).flatMap (fun n=>digB n.toNat))++(coordsM moves[k]).flatMap (fun n=>digB n.toNat)):=by
        show _=_;rw [List.take_succ_eq_append_getElem hlt,List.flatMap_append];simp
       have HIN:Hid ((coordsM moves[k]).all insideC=true):=HML2.out _ (List.getElem_mem hlt);clear f1 hk6;generalize moves[k]=pm at *;have HCO:=fun W=>Lib.hid (jcoordinates_any pm W);obtain ⟨⟨a0,a1,a2⟩,⟨a3,a4,a5⟩⟩:=pm;simp only at g0 g1 g2 g3 g4 g5;obtain ⟨b0,b1,b2,b3,b4,b5,b6,b7⟩:=cells8 (HU5.out.heap HB2.out id);go_wp2_with fail
       refine (HCO _).out.mono ?_;rintro e w5 ⟨rfl,u5⟩;have U5:Hid (Upd noBlk w2 w5):=HU5.out.trans u5;clear u5 g0 g1 g2 g3 g4 g5 HCO b0 b1 b2 b3 b4 b5 b6 b7;unfold mvV mvC at *;simp only at ⊢;go_upto_region 14 with fail
       have HCJ:Hid (∀j,j<6→(w5.alloc (.cells #[.int .i64 a0,.int .i64 a1,.int .i64 a2,.int .i64 a3,.int .i64 a4,.int .i64 a5] 142)).cell? ⟨w5.heap.size,j,none⟩=some (.int .i64 (coordAt ((a0,a1,a2),a3,a4,a5) j))):=fun j hj=>by
        have h:(w5.alloc (.cells #[.int .i64 a0,.int .i64 a1,.int .i64 a2,.int .i64 a3,.int .i64 a4,.int .i64 a5] 142)).heap[w5.heap.size]?=some (.cells #[.int .i64 a0,.int .i64 a1,.int .i64 a2,.int .i64 a3,.int .i64 a4,.int .i64 a5] 142 (0,0)):=heap_alloc_new w5 _;rw [cell_of_row _ _ j _ 142 (0,0) h];rcases (by omega:j=0∨j=1∨j=2∨j=3∨j=4∨j=5) with rfl | rfl | rfl | rfl | rfl | rfl<;>rfl
       have U6:Hid (Upd noBlk w2 (w5.alloc (.cells #[.int .i64 a0,.int .i64 a1,.int .i64 a2,.int .i64 a3,.int .i64 a4,.int .i64 a5] 142))):=U5.out.alloc _;clear U5;generalize w5.heap.size=N at *;generalize w5.alloc (.cells #[.int .i64 a0,.int .i64 a1,.int .i64 a2,.int .i64 a3,.int .i64 a4,.int .i64 a5] 142)=w6 at *;generalize ((a0,a1,a2),a3,a4,a5)=pm at *;go_wp2_with fail
       go_loopw [4,8] (fun s i wr=>∃j:Nat,i=.int .i64 j∧j≤6∧(∃q':Bytes,s=.string (bs q')∧q'=q++((coordsM pm).take j).flatMap (fun n=>digB n.toNat)∧q'.length≤7000000+k*60+j*10)∧Upd noBlk w6 wr) (fun _ i _=>6-(intOf i).toNat)
       case atStart=>exact ⟨0,rfl,Nat.zero_le _,⟨q,rfl,by simp,by have:=HQL.out;omega⟩,Upd.refl _ _⟩
       case round=>
        obtain ⟨j,rfl,hj,⟨q',rfl,hq',hql'⟩,hu6⟩:=hrel;have HU6:=Lib.hid hu6;have HQ':=Lib.hid hq';have HQL':=Lib.hid hql';clear hu6 hq' hql';by_cases hlt2:j<6
        ·have hlt3:(j:Int)<6:=by omega
         have hcj:=HU6.out.cell (HCJ.out j hlt2) id;have HTJ:Hid (((coordsM pm).take (j+1)).flatMap (fun n=>digB n.toNat)=((coordsM pm).take j).flatMap (fun n=>digB n.toNat)++digB (coordAt pm j).toNat):=by
          have hl6:(coordsM pm).length=6:=rfl;show _=_;rw [List.take_succ_eq_append_getElem (by omega),List.flatMap_append];unfold coordAt;rw [List.getD_eq_getElem?_getD,List.getElem?_eq_getElem (by omega)];simp
         have HCI:Hid (insideC (coordAt pm j)=true):=by
          have hl6:(coordsM pm).length=6:=rfl;show _=_;refine List.all_eq_true.1 HIN.out _ ?_;unfold coordAt;rw [List.getD_eq_getElem?_getD,List.getElem?_eq_getElem (by omega)];exact List.getElem_mem _
         generalize coordAt pm j=n at *;have HC2:Hid (0≤n∧n≤2097151):=by show _∧_;have:=HCI.out;unfold insideC at this;exact of_decide_eq_true this
         have HCD:=fun W=>Lib.hid (jdigits_int n HC2.out.1 (Int.lt_of_le_of_lt HC2.out.2 (by decide)) W);have HD:=Lib.hid (digB_ten (n:=n.toNat) (by have h:0≤n∧n≤2097151:=HC2.out;omega));generalize hd:digB n.toNat=d at *;clear hd;have HQ2:Hid (q'++d=q++((coordsM pm).take (j+1)).flatMap (fun n=>digB n.toNat)):=by show _=_;rw [HTJ.out,HQ'.out,List.append_assoc]
         have HL2:Hid ((q'++d).length≤7000000+k*60+(j+1)*10):=by show _≤_;rw [List.length_append];have:=HQL'.out;have:=HD.out;omega
         have hsz:¬9223372036854775807<(bs q').size+(bs d).size:=by rw [bs_size,bs_size];have:=HQL'.out;have:=HD.out;have:=HML.out;omega
         go_wp2_with fail
         refine (HCD _).out.mono ?_;rintro e w7 ⟨rfl,u7⟩;have U7:=Lib.hid (HU6.out.trans u7);clear u7 HCD;go_wp2_with fail
         refine ⟨⟨j+1,by push_cast;rfl,by omega,⟨q'++d,by rw [bs_append],HQ2.out,HL2.out⟩,U7.out⟩,?_⟩;simp only [intOf];omega
        ·obtain rfl:j=6:=by omega
         have HQ3:Hid (q'=pre3++(moves.take (k+1)).flatMap (fun m=>(coordsM m).flatMap (fun n=>digB n.toNat))):=by
          show _=_;rw [HQ'.out,HQ.out,HTK.out,List.append_assoc];rfl
         go_wp2_with fail
         refine ⟨⟨k+1,by push_cast;rfl,by omega,⟨q',rfl,HQ3.out,by have:=HQL'.out;omega⟩,U6.out.trans HU6.out⟩,?_⟩;simp only [intOf];omega
      ·obtain rfl:k=moves.length:=by omega
       have HQF:Hid (tgt=q++(digB er.toNat++(digB tot.toNat++(digB (2*mag.length+(if neg=true then 1 else 0))++mag)))):=by show _=_;rw [HIF.out,HG2.out,HQ.out,List.take_length]
       have HQM:Hid (q.length≤11000000):=by show _≤_;have:=HQL.out;have:=HML.out;omega
       have HMG:Hid (mag.length≤1152921504606846976):=HOK.out.mag;have HCE:=fun W=>Lib.hid (jdigits_int er HRP.out.1.2.1 HOK.out.err W);have HCT:=fun W=>Lib.hid (jdigits_int tot HRP.out.1.2.2 HOK.out.total W);have HDE:=Lib.hid (digB_ten (n:=er.toNat) (by have h:er<9223372036854775808:=HOK.out.err;omega));have HDT:=Lib.hid (digB_ten (n:=tot.toNat) (by have h:tot<9223372036854775808:=HOK.out.total;omega));clear HG2 HQ HQL HIF HOK HXM HML2 HP3 hml hol hlt hk;obtain ⟨b0,b1,b2,b3,b4,b5,b6,b7⟩:=cells8 (HU5.out.heap HB2.out id);obtain ⟨s0,hs0⟩:∃s0,s0=2*mag.length:=⟨_,rfl⟩;obtain ⟨s1,hs1⟩:∃s1,s1=s0+1:=⟨_,rfl⟩;have HSM:Hid (s0=2*mag.length∧s1=s0+1):=⟨hs0,hs1⟩;have hwm:IntKind.i64.wrap (2*(((bs mag).size:Nat):Int))=(s0:Int):=by rw [bs_size,hs0,wrapN (by omega) (by have:=HMG.out;omega)];push_cast;rfl
       have hwm1:IntKind.i64.wrap ((s0:Int)+1)=(s1:Int):=by rw [hs1,wrapN (by omega) (by have:=HMG.out;omega)];push_cast;rfl
       clear hs0 hs1;have HEND:Hid (∀sz:Nat,∀W,Upd noBlk w W→tgt=q++(digB er.toNat++(digB tot.toNat++(digB sz++mag)))→strR tgt w (.returned (.string (bs q++bs (digB er.toNat)++bs (digB tot.toNat)++bs (digB sz)++bs mag))) W):=fun sz W hW h=>⟨by rw [h];simp only [bs_append,List.append_assoc],hW⟩;cases neg with
       | false=>
        have HQ2:Hid (tgt=q++(digB er.toNat++(digB tot.toNat++(digB s0++mag)))):=by show _=_;rw [HSM.out.1];exact HQF.out
        go_upto_region 21 with fail
        obtain ⟨sz,hsz⟩:∃sz,sz=s0:=⟨_,rfl⟩;have HCS:=fun W=>Lib.hid (jdigits_any s0 (by have:=HMG.out;have:=HSM.out;omega) W);have HDS:=Lib.hid (digB_ten (n:=s0) (by have:=HMG.out;have:=HSM.out;omega));clear hwm hwm1;rw [←hsz] at HCS HDS HQ2
        (try rw [←hsz])
        have HEN:=Lib.hid (fun W hW=>HEND.out sz W hW HQ2.out);clear hsz HQ2 HEND HQF HSM;generalize digB er.toNat=e1 at *;generalize digB tot.toNat=e2 at *;generalize digB sz=e3 at *;have HS1:Hid (¬9223372036854775807<(bs q).size+(bs e1).size):=by show ¬_;rw [bs_size,bs_size];have:=HQM.out;have:=HDE.out;omega
        have HS2:Hid (¬9223372036854775807<(bs q).size+(bs e1).size+(bs e2).size):=by show ¬_;rw [bs_size,bs_size,bs_size];have:=HQM.out;have:=HDE.out;have:=HDT.out;omega
        have HS3:Hid (¬9223372036854775807<(bs q).size+(bs e1).size+(bs e2).size+(bs e3).size):=by show ¬_;rw [bs_size,bs_size,bs_size,bs_size];have:=HQM.out;have:=HDE.out;have:=HDT.out;have:=HDS.out;omega
        have HS4:Hid (¬9223372036854775807<(bs q).size+(bs e1).size+(bs e2).size+(bs e3).size+(bs mag).size):=by show ¬_;rw [bs_size,bs_size,bs_size,bs_size,bs_size];have:=HQM.out;have:=HDE.out;have:=HDT.out;have:=HDS.out;have:=HMG.out;omega
        clear b0 b1 b2 b3 b4 b5 b6 b7 HQM HDE HDT HDS HMG HML;refine wp_region_tree 15 (OT.sures [0,1,5,9,12,2,6,13,14] (.run 3 (OT.sures [4] (.run 7 (OT.sures [8] (.run 10 (OT.sures [11] .nil))))))) (fun w'=>Upd noBlk w2 w') (by kernel_rfl) (by kernel_rfl) (fun c a d v w h=>by cases d<;>exact h) HU5.out.drew ?_
        simp only [OT.sures]
        iterate 9 (apply wpT_sure rfl rfl;focus (intro w' hw';obtain ⟨b0,b1,b2,b3,b4,b5,b6,b7⟩:=cells8 (hw'.heap HB2.out id);go_simp;rfl))
        refine wpT_run (fun w'=>Upd noBlk w2 w') (fun _ h=>h) rfl (fun K' hK=>?_);go_simp
        refine (HCE _).out.mono ?_;rintro e z1 ⟨rfl,uz1⟩;have V1:=Lib.hid (HU5.out.drew.trans uz1);refine hK _ _ ⟨V1.out,?_⟩;clear hK K' uz1
        (apply wpT_sure rfl rfl;focus (intro w' hw';have s1:=HS1.out;go_simp;rfl))
        refine wpT_run (fun w'=>Upd noBlk w2 w') (fun _ h=>h) rfl (fun K' hK=>?_);go_simp
        refine (HCT _).out.mono ?_;rintro e z2 ⟨rfl,uz2⟩;have V2:=Lib.hid (V1.out.trans uz2);refine hK _ _ ⟨V2.out,?_⟩;clear hK K' uz2
        (apply wpT_sure rfl rfl;focus (intro w' hw';have s1:=HS1.out;have s2:=HS2.out;go_simp;rfl))
        refine wpT_run (fun w'=>Upd noBlk w2 w') (fun _ h=>h) rfl (fun K' hK=>?_);go_simp
        refine (HCS _).out.mono ?_;rintro e z3 ⟨rfl,uz3⟩;have V3:=Lib.hid (V2.out.trans uz3);refine hK _ _ ⟨V3.out,?_⟩;clear hK K' uz3
        (apply wpT_sure rfl rfl;focus (intro w' hw';have s1:=HS1.out;have s2:=HS2.out;have s3:=HS3.out;go_simp;rfl))
        refine wpT_nil ?_;have s1:=HS1.out;have s2:=HS2.out;have s3:=HS3.out;have s4:=HS4.out;go_wp2_with fail
        go_ret
        exact HEN.out _ (U2.out.trans V3.out)
       | true=>
        have HQ2:Hid (tgt=q++(digB er.toNat++(digB tot.toNat++(digB s1++mag)))):=by show _=_;rw [HSM.out.2,HSM.out.1];exact HQF.out
        go_upto_region 21 with fail
        obtain ⟨sz,hsz⟩:∃sz,sz=s1:=⟨_,rfl⟩;have HCS:=fun W=>Lib.hid (jdigits_any s1 (by have:=HMG.out;have:=HSM.out;omega) W);have HDS:=Lib.hid (digB_ten (n:=s1) (by have:=HMG.out;have:=HSM.out;omega));clear hwm hwm1;rw [←hsz] at HCS HDS HQ2
        (try rw [←hsz])
        have HEN:=Lib.hid (fun W hW=>HEND.out sz W hW HQ2.out);clear hsz HQ2 HEND HQF HSM;generalize digB er.toNat=e1 at *;generalize digB tot.toNat=e2 at *;generalize digB sz=e3 at *;have HS1:Hid (¬9223372036854775807<(bs q).size+(bs e1).size):=by show ¬_;rw [bs_size,bs_size];have:=HQM.out;have:=HDE.out;omega
        have HS2:Hid (¬9223372036854775807<(bs q).size+(bs e1).size+(bs e2).size):=by show ¬_;rw [bs_size,bs_size,bs_size];have:=HQM.out;have:=HDE.out;have:=HDT.out;omega
        have HS3:Hid (¬9223372036854775807<(bs q).size+(bs e1).size+(bs e2).size+(bs e3).size):=by show ¬_;rw [bs_size,bs_size,bs_size,bs_size];have:=HQM.out;have:=HDE.out;have:=HDT.out;have:=HDS.out;omega
        have HS4:Hid (¬9223372036854775807<(bs q).size+(bs e1).size+(bs e2).size+(bs e3).size+(bs mag).size):=by show ¬_;rw [bs_size,bs_size,bs_size,bs_size,bs_size];have:=HQM.out;have:=HDE.out;have:=HDT.out;have:=HDS.out;have:=HMG.out;omega
        clear b0 b1 b2 b3 b4 b5 b6 b7 HQM HDE HDT HDS HMG HML;refine wp_region_tree 15 (OT.sures [0,1,5,9,12,2,6,13,14] (.run 3 (OT.sures [4] (.run 7 (OT.sures [8] (.run 10 (OT.sures [11] .nil))))))) (fun w'=>Upd noBlk w2 w') (by kernel_rfl) (by kernel_rfl) (fun c a d v w h=>by cases d<;>exact h) HU5.out.drew ?_
        simp only [OT.sures]
        iterate 9 (apply wpT_sure rfl rfl;focus (intro w' hw';obtain ⟨b0,b1,b2,b3,b4,b5,b6,b7⟩:=cells8 (hw'.heap HB2.out id);go_simp;rfl))
        refine wpT_run (fun w'=>Upd noBlk w2 w') (fun _ h=>h) rfl (fun K' hK=>?_);go_simp
        refine (HCE _).out.mono ?_;rintro e z1 ⟨rfl,uz1⟩;have V1:=Lib.hid (HU5.out.drew.trans uz1);refine hK _ _ ⟨V1.out,?_⟩;clear hK K' uz1
        (apply wpT_sure rfl rfl;focus (intro w' hw';have s1:=HS1.out;go_simp;rfl))
        refine wpT_run (fun w'=>Upd noBlk w2 w') (fun _ h=>h) rfl (fun K' hK=>?_);go_simp
        refine (HCT _).out.mono ?_;rintro e z2 ⟨rfl,uz2⟩;have V2:=Lib.hid (V1.out.trans uz2);refine hK _ _ ⟨V2.out,?_⟩;clear hK K' uz2
        (apply wpT_sure rfl rfl;focus (intro w' hw';have s1:=HS1.out;have s2:=HS2.out;go_simp;rfl))
        refine wpT_run (fun w'=>Upd noBlk w2 w') (fun _ h=>h) rfl (fun K' hK=>?_);go_simp
        refine (HCS _).out.mono ?_;rintro e z3 ⟨rfl,uz3⟩;have V3:=Lib.hid (V2.out.trans uz3);refine hK _ _ ⟨V3.out,?_⟩;clear hK K' uz3
        (apply wpT_sure rfl rfl;focus (intro w' hw';have s1:=HS1.out;have s2:=HS2.out;have s3:=HS3.out;go_simp;rfl))
        refine wpT_nil ?_;have s1:=HS1.out;have s2:=HS2.out;have s3:=HS3.out;have s4:=HS4.out;go_wp2_with fail
        go_ret
        exact HEN.out _ (U2.out.trans V3.out)
end Go.Proofs.YtcikldoaidmnhaaGreatDoor
