/- Parts: Walks of the reference of packets: right. No condition. -/
import Derived.Test.YtcikldoaidmnhaaGreatDoorRSpoi1
import Derived.Test.YtcikldoaidmnhaaGreatDoorRSpoi2
import Derived.Test.YtcikldoaidmnhaaGreatDoorRSpoi3
import Derived.Test.YtcikldoaidmnhaaGreatDoorRSpoi4
import Derived.Test.YtcikldoaidmnhaaGreatDoorRSpoi5
import Derived.Test.YtcikldoaidmnhaaGreatDoorRSpoi6
import Derived.Test.YtcikldoaidmnhaaGreatDoorRSpoi7
import Derived.Test.YtcikldoaidmnhaaGreatDoorRSpoi11
import Derived.Test.YtcikldoaidmnhaaGreatDoorRSpoi12
import Derived.Test.YtcikldoaidmnhaaGreatDoorRSpoi18
import Derived.Test.YtcikldoaidmnhaaGreatDoorRSpoi20
import Derived.WalkKit
import Derived.WalkSpells
import Derived.WalkLawsBesides
import Derived.Lib.Hide
import Derived.BigQuiet
import Derived.Deep.DeepFit
import Derived.Deep.DeepCutAuto
import Derived.Deep.AppendLies
import Derived.Deep.QuietTactic
import Derived.Test.YtcikldoaidmnhaaGreatDoorRows
import Derived.Deep.RegionHeld3
import Derived.StillTail
import Derived.Maps.OwnOps
import Derived.Maps.OwnSet
import Derived.Maps.RangeWalk
import Derived.WideKeyEntry
import Derived.Deep.MidRow
import Derived.Lib.Bits
import Derived.Laws.EntriesVeiled
import Derived.Handy
import Derived.DeepKeys4
import Derived.ArgAppend
import Derived.Deep.Upon
import Derived.Deep.CutBlock
import Derived.Test.YtcikldoaidmnhaaGreatDoorShelf2
import Derived.Laws.BitsAllLaws
import Derived.Laws.BytesArg
import Derived.Deep.WholeRow
import Derived.Test.YtcikldoaidmnhaaGreatDoorShelf
import Derived.Lib.Zigzag
import Derived.Recover
import Derived.Laws.IdiomStrings
namespace Go.Proofs.YtcikldoaidmnhaaGreatDoor
open Go Go.RowKit Pk
set_option maxRecDepth 100000
theorem jinside_any (n:Int) (w:World):Calls Tryz.prog 65 #[.int .i64 n] w fun en w'=>en=.returned (.bool (insideC n))∧Upd noBlk w w':=by
 go_enter Tryz.func65,Tryz.ntmps65
 by_cases h0:0≤n
 ·by_cases h1:n≤2097151
  ·have h:insideC n=true:=decide_eq_true ⟨h0,h1⟩;rw [h];go_wp2_with fail
   go_ret
   exact ⟨rfl,Upd.refl _ _⟩
  ·have h:insideC n=false:=decide_eq_false (fun e=>h1 e.2);rw [h];go_wp2_with fail
   go_ret
   exact ⟨rfl,Upd.refl _ _⟩
 ·have h:insideC n=false:=decide_eq_false (fun e=>h0 e.1);rw [h];go_wp2_with fail
  go_ret
  exact ⟨rfl,Upd.refl _ _⟩
set_option maxHeartbeats 1000000 in
theorem jcoordinates_any (m:Mv) (w:World):Calls Tryz.prog 84 #[mvV m] w fun en w'=>en=.returned (mvV m)∧Upd noBlk w w':=by
 unfold mvV mvC;go_enter Tryz.func84,Tryz.ntmps84
 go_wp2_with fail
 refine bodyPost_ret (results_cell_row rfl _ _ (w.heap.size+1) 142 _ (0,0) _ rfl (by have:=heap_alloc_new (w.alloc (.cells (mvC m).toArray 79)) (.cells (mvC m).toArray 142);rw [World.size_alloc] at this;exact this) Tryz.underlying142 rfl (by kernel_rfl)) rfl ?_;exact ⟨rfl,((Upd.refl noBlk w).alloc _).alloc _⟩
set_option maxHeartbeats 2000000 in
theorem jRight_any (x:GV) (vi vo vm:Value) (w:World) (hi:kPart.Rd w vi x.ins) (ho:kHash.Rd w vo x.outs) (hm:kMove.Rd w vm x.moves):Calls Tryz.prog 34 #[x.V vi vo vm] w fun en w'=>en=.returned (.bool (rightG x.g))∧Upd noBlk w w':=by
 obtain ⟨lv,ins,outs,moves,er,tot,neg,mag⟩:=x;obtain ⟨Ai,capi,rfl,_,_⟩:=hi;obtain ⟨Ao,capo,rfl,_,_⟩:=ho;obtain ⟨A,cap,rfl,hcap,hx⟩:=hm;have HX:=Lib.hid hx;clear hx;unfold GV.V;simp only;go_enter Tryz.func34,Tryz.ntmps34
 have HB:Hid ((w.alloc (.cells #[.int .i64 lv,.slice Ai ins.length capi,.slice Ao outs.length capo,.slice A moves.length cap,.int .i64 er,.int .i64 tot,.bool neg,.string (bs mag)] 68)).heap[w.heap.size]?=some (.cells #[.int .i64 lv,.slice Ai ins.length capi,.slice Ao outs.length capo,.slice A moves.length cap,.int .i64 er,.int .i64 tot,.bool neg,.string (bs mag)] 68 (0,0))):=heap_alloc_last w _;have HU0:Hid (Upd noBlk w (w.alloc (.cells #[.int .i64 lv,.slice Ai ins.length capi,.slice Ao outs.length capo,.slice A moves.length cap,.int .i64 er,.int .i64 tot,.bool neg,.string (bs mag)] 68))):=(Upd.refl _ w).alloc _;go_upto_region 1 with fail
 generalize w.heap.size=bb at *;generalize w.alloc (.cells #[.int .i64 lv,.slice Ai ins.length capi,.slice Ao outs.length capo,.slice A moves.length cap,.int .i64 er,.int .i64 tot,.bool neg,.string (bs mag)] 68)=w1 at *;go_cut [38] (fun c wc=>wc=w1∧c=.bool (!decide (0≤lv∧0≤er∧0≤tot∧ins.length≤65536∧outs.length≤65536∧moves.length≤65536)))
 case first=>
  have b8:=cells8 HB.out;obtain ⟨b0,b1,b2,b3,b4,b5,b6,b7⟩:=b8;go_wp2_with fail
  all_goals (go_meet;refine ⟨rfl,?_⟩;refine congrArg Value.bool ?_;rw [Bool.eq_iff_iff];simp only [Bool.or_eq_true,Bool.not_eq_true',decide_eq_true_eq,decide_eq_false_iff_not,true_iff];(repeat' split at *)<;>omega)
 case rest=>
  obtain ⟨rfl,rfl⟩:=hcut;by_cases hg:0≤lv∧0≤er∧0≤tot∧ins.length≤65536∧outs.length≤65536∧moves.length≤65536
  ·rw [decide_eq_true hg];obtain ⟨_,_,_,hgi,hgo,hgm⟩:=hg;have hml:(moves.length:Int)≤65536:=by omega
   have b8:=cells8 HB.out;obtain ⟨b0,b1,b2,b3,b4,b5,b6,b7⟩:=b8;go_wp2_with fail
   clear b0 b1 b2 b3 b4 b5 b6 b7;have HUW:Hid (rightG (GV.g ⟨lv,ins,outs,moves,er,tot,neg,mag⟩)=(moves.all (fun m=>(coordsM m).all insideC)&&tailOk neg mag)):=by
    show _=_;unfold rightG GV.g;simp only [List.length_map];rw [decide_eq_true ⟨by assumption,by assumption,by assumption,hgi,hgo,hgm⟩,Bool.true_and];rfl
   have HM2:Hid (moves.length≤65536):=hgm;clear hgi hgo hgm;go_loopw [3] (fun i wr=>∃k:Nat,i=.int .i64 k∧k≤moves.length∧(moves.take k).all (fun m=>(coordsM m).all insideC)=true∧Upd noBlk wc wr) (fun i _=>moves.length-(intOf i).toNat)
   case atStart=>exact ⟨0,rfl,Nat.zero_le _,rfl,Upd.refl _ _⟩
   case round=>
    obtain ⟨k,rfl,hk,hal,hu⟩:=hrel;have HU:=Lib.hid hu;have HAL:=Lib.hid hal;clear hu hal;obtain ⟨b0,b1,b2,b3,b4,b5,b6,b7⟩:=cells8 (HU.out.heap HB.out id);by_cases hlt:k<moves.length
    ·have hlt':(k:Int)<(moves.length:Int):=by omega
     obtain ⟨b,off,rfl,f1⟩:=HX.out (by omega);obtain ⟨g0,g1,g2,g3,g4,g5⟩:=mvAt6 ((f1 k hlt).keep (HU0.out.trans HU.out));have hk6:kMove.k=6:=rfl;rw [hk6] at g0 g1 g2 g3 g4 g5;have HTK:Hid (moves.take (k+1)=moves.take k++[moves[k]]):=List.take_succ_eq_append_getElem hlt;have HMEM:Hid (moves[k]∈moves):=List.getElem_mem hlt;clear f1 hk6;generalize moves[k]=pm at *;have HCO:=fun W=>Lib.hid (jcoordinates_any pm W);obtain ⟨⟨a0,a1,a2⟩,⟨a3,a4,a5⟩⟩:=pm;simp only at g0 g1 g2 g3 g4 g5;go_wp2_with fail
     refine (HCO _).out.mono ?_;rintro e w2 ⟨rfl,u2⟩;have U2:Hid (Upd noBlk wc w2):=HU.out.trans u2;clear u2 g0 g1 g2 g3 g4 g5 HCO HU;have HN:Hid ((w2.alloc (.cells (mvC ((a0,a1,a2),a3,a4,a5)).toArray 142)).heap[w2.heap.size]?=some (.cells (mvC ((a0,a1,a2),a3,a4,a5)).toArray 142 (0,0))):=heap_alloc_new w2 _;have U3:Hid (Upd noBlk w2 (w2.alloc (.cells (mvC ((a0,a1,a2),a3,a4,a5)).toArray 142))):=(Upd.refl _ w2).alloc _;unfold mvV mvC at *;simp only at HN U3 ⊢;go_upto_region 7 with fail
     have HCJ:Hid (∀j,j<6→(w2.alloc (.cells #[.int .i64 a0,.int .i64 a1,.int .i64 a2,.int .i64 a3,.int .i64 a4,.int .i64 a5] 142)).cell? ⟨w2.heap.size,j,none⟩=some (.int .i64 (coordAt ((a0,a1,a2),a3,a4,a5) j))):=fun j hj=>by
      have h:(w2.alloc (.cells #[.int .i64 a0,.int .i64 a1,.int .i64 a2,.int .i64 a3,.int .i64 a4,.int .i64 a5] 142)).heap[w2.heap.size]?=some (.cells #[.int .i64 a0,.int .i64 a1,.int .i64 a2,.int .i64 a3,.int .i64 a4,.int .i64 a5] 142 (0,0)):=heap_alloc_new w2 _;rw [cell_of_row _ _ j _ 142 (0,0) h];rcases (by omega:j=0∨j=1∨j=2∨j=3∨j=4∨j=5) with rfl | rfl | rfl | rfl | rfl | rfl<;>rfl
     have U4:Hid (Upd noBlk wc (w2.alloc (.cells #[.int .i64 a0,.int .i64 a1,.int .i64 a2,.int .i64 a3,.int .i64 a4,.int .i64 a5] 142))):=U2.out.alloc _;clear HN U3 U2;generalize w2.heap.size=N at *;generalize w2.alloc (.cells #[.int .i64 a0,.int .i64 a1,.int .i64 a2,.int .i64 a3,.int .i64 a4,.int .i64 a5] 142)=w3 at *;generalize ((a0,a1,a2),a3,a4,a5)=pm at *;have HIN:=fun q W=>Lib.hid (jinside_any q W);clear b0 b1 b2 b3 b4 b5 b6 b7;go_wp2_with fail
     go_loopw [5] (fun i wz=>∃j:Nat,i=.int .i64 j∧j≤6∧((coordsM pm).take j).all insideC=true∧Upd noBlk w3 wz) (fun i _=>6-(intOf i).toNat)
     case atStart=>exact ⟨0,rfl,Nat.zero_le _,rfl,Upd.refl _ _⟩
     case round=>
      obtain ⟨j,rfl,hj,hja,hu3⟩:=hrel;have U3:=Lib.hid hu3;have HJA:=Lib.hid hja;clear hu3 hja;by_cases hlt2:j<6
      ·have hlt3:(j:Int)<6:=by omega
       have hcj:=U3.out.cell (HCJ.out j hlt2) id;have HTJ:Hid ((coordsM pm).take (j+1)=(coordsM pm).take j++[coordAt pm j]):=by
        have hl6:(coordsM pm).length=6:=rfl;show _=_;rw [List.take_succ_eq_append_getElem (by omega)];unfold coordAt;rw [List.getD_eq_getElem?_getD,List.getElem?_eq_getElem (by omega)];rfl
       have HCM:Hid (coordAt pm j∈coordsM pm):=by
        have hl6:(coordsM pm).length=6:=rfl;show _∈_;unfold coordAt;rw [List.getD_eq_getElem?_getD,List.getElem?_eq_getElem (by omega)];exact List.getElem_mem _
       generalize coordAt pm j=q at *;have HINQ:=fun W=>HIN q W;clear HIN HCJ;go_wp2_with fail
       refine (HINQ _).out.mono ?_;rintro e w5 ⟨rfl,u5⟩;have U5:=Lib.hid (U3.out.trans u5);clear u5 HINQ;rcases hq:insideC q with _ | _
       ·have HR:Hid (rightG (GV.g ⟨lv,ins,outs,moves,er,tot,neg,mag⟩)=false):=by
         show _=_;rw [HUW.out,Bool.and_eq_false_iff];left;rw [List.all_eq_false];refine ⟨pm,HMEM.out,?_⟩;rw [Bool.not_eq_true,List.all_eq_false];exact ⟨q,HCM.out,by rw [hq];decide⟩
        clear hq;go_wp2_with fail
        go_ret
        exact ⟨by rw [HR.out];rfl,HU0.out.trans (U4.out.trans U5.out)⟩
       ·have HQ:=Lib.hid hq;clear hq;go_wp2_with fail
        refine ⟨⟨j+1,by push_cast;rfl,by omega,?_,U5.out⟩,?_⟩
        ·rw [HTJ.out,List.all_append,HJA.out];simp [HQ.out]
        ·simp only [intOf];omega
      ·obtain rfl:j=6:=by omega
       have HP:Hid ((coordsM pm).all insideC=true):=HJA.out;have U6:=Lib.hid (U4.out.trans U3.out);go_wp2_with fail
       refine ⟨⟨k+1,by push_cast;rfl,by omega,?_,U6.out⟩,?_⟩
       ·rw [HTK.out,List.all_append,HAL.out];simp [HP.out]
       ·simp only [intOf];omega
    ·obtain rfl:k=moves.length:=by omega
     have HAA:Hid (moves.all (fun m=>(coordsM m).all insideC)=true):=by have:=HAL.out;rw [List.take_length] at this;exact this
     have HRR:Hid (rightG (GV.g ⟨lv,ins,outs,moves,er,tot,neg,mag⟩)=tailOk neg mag):=by show _=_;rw [HUW.out,HAA.out,Bool.true_and]
     clear HUW HAA HAL HM2 HX;cases mag with
     | nil=>
      have he:(bs ([]:Bytes)).toList.isEmpty=true:=by simp [bs]
      have hz:(bs ([]:Bytes)).size=0:=by rw [bs_size];rfl
      rcases neg with _ | _
      ·go_wp2_with fail
       go_ret
       exact ⟨by rw [HRR.out];rfl,HU0.out.trans HU.out⟩
      ·go_wp2_with fail
       go_ret
       exact ⟨by rw [HRR.out];rfl,HU0.out.trans HU.out⟩
     | cons c mag=>
      have he:(bs (c :: mag)).toList.isEmpty=false:=by simp [bs]
      have hz:0<(bs (c :: mag)).size:=by rw [bs_size];simp
      have hnz:¬bs (c :: mag)=ByteArray.empty:=fun h=>by rw [h] at hz;cases hz
      by_cases hc0:c=0
      ·subst hc0;go_wp2_with fail
       go_ret
       exact ⟨by rw [HRR.out];rfl,HU0.out.trans HU.out⟩
      ·have hcn:¬(c.toNat:Int)=0:=fun h=>hc0 (UInt8.toNat_inj.1 (by simpa using h));have HTO:Hid (tailOk neg (c :: mag)=true):=by show (c != 0)=true;simpa using hc0
       go_wp2_with fail
       go_ret
       refine ⟨?_,HU0.out.trans HU.out⟩;rw [HRR.out,HTO.out];show Ending.returned (.bool ((c.toNat:Int) != 0))=_;rw [show ((c.toNat:Int) != 0)=true by simpa using hcn]
  ·rw [decide_eq_false hg];have HR:Hid (rightG (GV.g ⟨lv,ins,outs,moves,er,tot,neg,mag⟩)=false):=by
    show _=_;unfold rightG GV.g;simp only [List.length_map];rw [decide_eq_false (fun h=>hg h)];rfl
   go_wp2_with fail
   go_ret
   exact ⟨by rw [HR.out];rfl,HU0.out⟩
end Go.Proofs.YtcikldoaidmnhaaGreatDoor
