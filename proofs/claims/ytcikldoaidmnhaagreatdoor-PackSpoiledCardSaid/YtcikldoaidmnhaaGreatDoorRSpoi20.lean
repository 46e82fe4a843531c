/- Parts: Walks of the packets' program: coordinates of a move, right. No condition. -/
import Derived.Test.YtcikldoaidmnhaaGreatDoorRSpoi1
import Derived.Test.YtcikldoaidmnhaaGreatDoorRSpoi2
import Derived.Test.YtcikldoaidmnhaaGreatDoorRSpoi3
import Derived.Test.YtcikldoaidmnhaaGreatDoorRSpoi4
import Derived.Test.YtcikldoaidmnhaaGreatDoorRSpoi5
import Derived.Test.YtcikldoaidmnhaaGreatDoorRSpoi6
import Derived.Test.YtcikldoaidmnhaaGreatDoorRSpoi7
import Derived.Test.YtcikldoaidmnhaaGreatDoorRSpoi9
import Derived.Test.YtcikldoaidmnhaaGreatDoorRSpoi11
import Derived.Test.YtcikldoaidmnhaaGreatDoorRSpoi12
import Derived.Test.YtcikldoaidmnhaaGreatDoorRSpoi18
import Derived.WalkKit
import Derived.WalkSpells
import Derived.WalkLawsBesides
import Derived.Lib.Hide
import Derived.BigQuiet
import Derived.Deep.DeepFit
import Derived.Deep.DeepCutAuto
import Derived.Deep.AppendLies
import Derived.Deep.QuietTactic
import Derived.Test.YtcikldoaidmnhaaGreatDoorRows
import Derived.Deep.RegionHeld3
import Derived.StillTail
import Derived.Maps.OwnOps
import Derived.Maps.OwnSet
import Derived.Maps.RangeWalk
import Derived.WideKeyEntry
import Derived.Deep.MidRow
import Derived.Lib.Bits
import Derived.Laws.EntriesVeiled
import Derived.Handy
import Derived.DeepKeys4
import Derived.ArgAppend
import Derived.Deep.Upon
import Derived.Deep.CutBlock
import Derived.Test.YtcikldoaidmnhaaGreatDoorShelf2
import Derived.Laws.BitsAllLaws
import Derived.Laws.BytesArg
import Derived.Deep.WholeRow
import Derived.Test.YtcikldoaidmnhaaGreatDoorShelf
import Derived.Lib.Zigzag
namespace Go.Proofs.YtcikldoaidmnhaaGreatDoor
open Go Go.RowKit Pk
set_option maxRecDepth 100000
def mvC (m:Mv):List Value:=[.int .i64 m.1.1,.int .i64 m.1.2.1,.int .i64 m.1.2.2,.int .i64 m.2.1,.int .i64 m.2.2.1,.int .i64 m.2.2.2]
def mvV (m:Mv):Value:=.agg (mvC m).toArray
noncomputable def kMove:Kd Tryz.prog Mv:={ T:=79,S:=64,k:=6,bytes:=48,enc:=mvC,len:=fun _=>rfl,one:=fun x v hv=>by simp [mvC] at hv;rcases hv with rfl | rfl | rfl | rfl | rfl | rfl<;>rfl,pos:=by decide,small:=by decide,und:=Tryz.underlying64,info:=kinfo_of (by kernel_rfl) }
theorem mvAt6 {w:World} {b o:Nat} {t:Mv} (h:kMove.At w b o t) :
  w.cell? ⟨b,o,none⟩=some (.int .i64 t.1.1)∧w.cell? ⟨b,o+1,none⟩=some (.int .i64 t.1.2.1)∧w.cell? ⟨b,o+2,none⟩=some (.int .i64 t.1.2.2)∧w.cell? ⟨b,o+3,none⟩=some (.int .i64 t.2.1)∧w.cell? ⟨b,o+4,none⟩=some (.int .i64 t.2.2.1)∧w.cell? ⟨b,o+5,none⟩=some (.int .i64 t.2.2.2):=
 ⟨h 0 _ rfl,h 1 _ rfl,h 2 _ rfl,h 3 _ rfl,h 4 _ rfl,h 5 _ rfl⟩
def coordAt (m:Mv) (j:Nat):Int:=(coordsM m).getD j 0
theorem index_mv (m:Mv) (j:Nat) (hj:j<6) (W:World):(Instr.index 142 (mvV m) (.int .i64 (j:Int))).run Tryz.prog W=.ok (.int .i64 (coordAt m j)) W:=by
 obtain ⟨⟨a0,a1,a2⟩,⟨a3,a4,a5⟩⟩:=m;rcases (by omega:j=0∨j=1∨j=2∨j=3∨j=4∨j=5) with rfl | rfl | rfl | rfl | rfl | rfl<;>kernel_rfl
set_option maxHeartbeats 1000000 in
theorem coordinates_any (m:Mv) (w:World):Calls Tryz.prog 81 #[mvV m] w fun en w'=>en=.returned (mvV m)∧Upd noBlk w w':=by
 unfold mvV mvC;go_enter Tryz.func81,Tryz.ntmps81
 go_wp2_with fail
 refine bodyPost_ret (results_cell_row rfl _ _ (w.heap.size+1) 142 _ (0,0) _ rfl (by have:=heap_alloc_new (w.alloc (.cells (mvC m).toArray 79)) (.cells (mvC m).toArray 142);rw [World.size_alloc] at this;exact this) Tryz.underlying142 rfl (by kernel_rfl)) rfl ?_;exact ⟨rfl,((Upd.refl noBlk w).alloc _).alloc _⟩
theorem cells8 {w:World} {b:Nat} {x0 x1 x2 x3 x4 x5 x6 x7:Value} {t:TypeId} {fr:Nat × Nat} (h:w.heap[b]?=some (.cells #[x0,x1,x2,x3,x4,x5,x6,x7] t fr)) :
  w.cell? ⟨b,0,none⟩=some x0∧w.cell? ⟨b,1,none⟩=some x1∧w.cell? ⟨b,2,none⟩=some x2∧w.cell? ⟨b,3,none⟩=some x3∧w.cell? ⟨b,4,none⟩=some x4∧w.cell? ⟨b,5,none⟩=some x5∧w.cell? ⟨b,6,none⟩=some x6∧w.cell? ⟨b,7,none⟩=some x7:=by simp [World.cell?,h]
def tailOk (neg:Bool) (mag:Bytes):Bool:=match mag with | []=>!neg | c :: _=>c != 0
structure GV where
 level:Int
 ins:List P32
 outs:List H32
 moves:List Mv
 err:Int
 total:Int
 neg:Bool
 mag:Bytes
def GV.g (x:GV):Grp:=⟨x.level,x.ins.map plainP,x.outs.map (·.1),x.moves,x.err,x.total,x.neg,x.mag⟩
def GV.V (x:GV) (vi vo vm:Value):Value:=.agg #[.int .i64 x.level,vi,vo,vm,.int .i64 x.err,.int .i64 x.total,.bool x.neg,.string (bs x.mag)]
set_option maxHeartbeats 2000000 in
theorem right_any (x:GV) (vi vo vm:Value) (w:World) (hi:kPart.Rd w vi x.ins) (ho:kHash.Rd w vo x.outs) (hm:kMove.Rd w vm x.moves):Calls Tryz.prog 79 #[x.V vi vo vm] w fun en w'=>en=.returned (.bool (rightG x.g))∧Upd noBlk w w':=by
 obtain ⟨lv,ins,outs,moves,er,tot,neg,mag⟩:=x;obtain ⟨Ai,capi,rfl,_,_⟩:=hi;obtain ⟨Ao,capo,rfl,_,_⟩:=ho;obtain ⟨A,cap,rfl,hcap,hx⟩:=hm;have HX:=Lib.hid hx;clear hx;unfold GV.V;simp only;go_enter Tryz.func79,Tryz.ntmps79
 have HB:Hid ((w.alloc (.cells #[.int .i64 lv,.slice Ai ins.length capi,.slice Ao outs.length capo,.slice A moves.length cap,.int .i64 er,.int .i64 tot,.bool neg,.string (bs mag)] 68)).heap[w.heap.size]?=some (.cells #[.int .i64 lv,.slice Ai ins.length capi,.slice Ao outs.length capo,.slice A moves.length cap,.int .i64 er,.int .i64 tot,.bool neg,.string (bs mag)] 68 (0,0))):=heap_alloc_last w _;have HU0:Hid (Upd noBlk w (w.alloc (.cells #[.int .i64 lv,.slice Ai ins.length capi,.slice Ao outs.length capo,.slice A moves.length cap,.int .i64 er,.int .i64 tot,.bool neg,.string (bs mag)] 68))):=(Upd.refl _ w).alloc _;go_upto_region 1 with fail
 generalize w.heap.size=bb at *;generalize w.alloc (.cells #[.int .i64 lv,.slice Ai ins.length capi,.slice Ao outs.length capo,.slice A moves.length cap,.int .i64 er,.int .i64 tot,.bool neg,.string (bs mag)] 68)=w1 at *;go_cut [27] (fun c wc=>wc=w1∧c=.bool (!decide (0≤lv∧0≤er∧0≤tot∧ins.length≤65536∧outs.length≤65536∧moves.length≤65536)))
 case first=>
  have b8:=cells8 HB.out;obtain ⟨b0,b1,b2,b3,b4,b5,b6,b7⟩:=b8;go_wp2_with fail
  all_goals (go_meet;refine ⟨rfl,?_⟩;refine congrArg Value.bool ?_;rw [Bool.eq_iff_iff];simp only [Bool.or_eq_true,Bool.not_eq_true',decide_eq_true_eq,decide_eq_false_iff_not,true_iff];(repeat' split at *)<;>omega)
 case rest=>
  obtain ⟨rfl,rfl⟩:=hcut;by_cases hg:0≤lv∧0≤er∧0≤tot∧ins.length≤65536∧outs.length≤65536∧moves.length≤65536
  ·rw [decide_eq_true hg];obtain ⟨_,_,_,hgi,hgo,hgm⟩:=hg;have hml:(moves.length:Int)≤65536:=by omega
   have b8:=cells8 HB.out;obtain ⟨b0,b1,b2,b3,b4,b5,b6,b7⟩:=b8;go_wp2_with fail
   clear b0 b1 b2 b3 b4 b5 b6 b7;have HUW:Hid (rightG (GV.g ⟨lv,ins,outs,moves,er,tot,neg,mag⟩)=(moves.all (fun m=>(coordsM m).all insideC)&&tailOk neg mag)):=by
    show _=_;unfold rightG GV.g;simp only [List.length_map];rw [decide_eq_true ⟨by assumption,by assumption,by assumption,hgi,hgo,hgm⟩,Bool.true_and];rfl
   have HM2:Hid (moves.length≤65536):=hgm;clear hgi hgo hgm;go_loopw [31] (fun i wr=>∃k:Nat,i=.int .i64 k∧k≤moves.length∧(moves.take k).all (fun m=>(coordsM m).all insideC)=true∧Upd noBlk wc wr) (fun i _=>moves.length-(intOf i).toNat)
   case atStart=>exact ⟨0,rfl,Nat.zero_le _,rfl,Upd.refl _ _⟩
   case round=>
    obtain ⟨k,rfl,hk,hal,hu⟩:=hrel;have HU:=Lib.hid hu;have HAL:=Lib.hid hal;clear hu hal;by_cases hlt:k<moves.length
    ·have hlt':(k:Int)<(moves.length:Int):=by omega
     obtain ⟨b,off,rfl,f1⟩:=HX.out (by omega);obtain ⟨g0,g1,g2,g3,g4,g5⟩:=mvAt6 ((f1 k hlt).keep (HU0.out.trans HU.out));have hk6:kMove.k=6:=rfl;rw [hk6] at g0 g1 g2 g3 g4 g5;have HTK:Hid (moves.take (k+1)=moves.take k++[moves[k]]):=List.take_succ_eq_append_getElem hlt;have HMEM:Hid (moves[k]∈moves):=List.getElem_mem hlt;clear f1 hk6;generalize moves[k]=pm at *;have HCO:=fun W=>Lib.hid (coordinates_any pm W);have HIX:=fun j hj W=>Lib.hid (index_mv pm j hj W);obtain ⟨⟨a0,a1,a2⟩,⟨a3,a4,a5⟩⟩:=pm;simp only at g0 g1 g2 g3 g4 g5;go_wp2_with fail
     refine (HCO _).out.mono ?_;rintro e w2 ⟨rfl,u2⟩;have U2:Hid (Upd noBlk wc w2):=(HU.out.alloc _).trans ((Upd.refl _ _).trans u2);clear u2 g0 g1 g2 g3 g4 g5 HCO;generalize ((a0,a1,a2),a3,a4,a5)=pm at *;go_wp2_with fail
     go_loopw [37] (fun i wr=>∃j:Nat,i=.int .i64 j∧j≤6∧((coordsM pm).take j).all insideC=true∧Upd noBlk wc wr) (fun i _=>6-(intOf i).toNat)
     case atStart=>exact ⟨0,rfl,Nat.zero_le _,rfl,U2.out⟩
     case round=>
      obtain ⟨j,rfl,hj,hja,hu3⟩:=hrel;have U3:=Lib.hid hu3;have HJA:=Lib.hid hja;clear hu3 hja;by_cases hlt2:j<6
      ·have hlt3:(j:Int)<6:=by omega
       have hix:=fun W=>(HIX j hlt2 W).out;have HTJ:Hid ((coordsM pm).take (j+1)=(coordsM pm).take j++[coordAt pm j]):=by
        have hl6:(coordsM pm).length=6:=rfl;show _=_;rw [List.take_succ_eq_append_getElem (by omega)];unfold coordAt;rw [List.getD_eq_getElem?_getD,List.getElem?_eq_getElem (by omega)];rfl
       have HCM:Hid (coordAt pm j∈coordsM pm):=by
        have hl6:(coordsM pm).length=6:=rfl;show _∈_;unfold coordAt;rw [List.getD_eq_getElem?_getD,List.getElem?_eq_getElem (by omega)];exact List.getElem_mem _
       generalize coordAt pm j=q at *;by_cases hq:0≤q∧q≤2097151
       ·obtain ⟨hq1,hq2⟩:=hq;have HQ:Hid (insideC q=true):=decide_eq_true ⟨hq1,hq2⟩;have hq3:¬q<0:=by omega
        have hq4:¬2097151<q:=by omega
        go_wp2_with fail
        refine ⟨⟨j+1,by push_cast;rfl,by omega,?_,U3.out⟩,?_⟩
        ·rw [HTJ.out,List.all_append,HJA.out];simp [HQ.out]
        ·simp only [intOf];omega
       ·have HR:Hid (rightG (GV.g ⟨lv,ins,outs,moves,er,tot,neg,mag⟩)=false):=by
         show _=_;rw [HUW.out,Bool.and_eq_false_iff];left;rw [List.all_eq_false];refine ⟨pm,HMEM.out,?_⟩;rw [Bool.not_eq_true,List.all_eq_false];exact ⟨q,HCM.out,by unfold insideC;simpa using hq⟩
        have hq5:q<0∨2097151<q:=by omega
        clear hq;rcases hq5 with hq6 | hq6
        ·go_wp2_with fail
         go_ret
         exact ⟨by rw [HR.out];rfl,HU0.out.trans U3.out⟩
        ·have hq7:¬q<0:=by omega
         go_wp2_with fail
         go_ret
         exact ⟨by rw [HR.out];rfl,HU0.out.trans U3.out⟩
      ·obtain rfl:j=6:=by omega
       have HP:Hid ((coordsM pm).all insideC=true):=HJA.out;go_wp2_with fail
       refine ⟨⟨k+1,by push_cast;rfl,by omega,?_,U3.out⟩,?_⟩
       ·rw [HTK.out,List.all_append,HAL.out];simp [HP.out]
       ·simp only [intOf];omega
    ·obtain rfl:k=moves.length:=by omega
     have HAA:Hid (moves.all (fun m=>(coordsM m).all insideC)=true):=by have:=HAL.out;rw [List.take_length] at this;exact this
     have HRR:Hid (rightG (GV.g ⟨lv,ins,outs,moves,er,tot,neg,mag⟩)=tailOk neg mag):=by show _=_;rw [HUW.out,HAA.out,Bool.true_and]
     obtain ⟨b0,b1,b2,b3,b4,b5,b6,b7⟩:=cells8 (HU.out.heap HB.out id);clear HUW HAA HAL HM2 HX;cases mag with
     | nil=>
      have he:(bs ([]:Bytes)).toList.isEmpty=true:=by simp [bs]
      go_wp2_with fail
      go_ret
      exact ⟨by rw [HRR.out];rfl,HU0.out.trans HU.out⟩
     | cons c mag=>
      have he:(bs (c :: mag)).toList.isEmpty=false:=by simp [bs]
      have hz:0<(bs (c :: mag)).size:=by rw [bs_size];simp
      go_wp2_with fail
      go_ret
      refine ⟨?_,HU0.out.trans HU.out⟩;rw [HRR.out];refine congrArg Ending.returned (congrArg Value.bool ?_);show ((c.toNat:Int) != 0)=(c != 0);rw [Bool.eq_iff_iff];simp only [bne_iff_ne,ne_eq];refine not_congr ⟨fun h=>UInt8.toNat_inj.1 (by simpa using h),fun h=>by rw [h];rfl⟩
  ·rw [decide_eq_false hg];have HR:Hid (rightG (GV.g ⟨lv,ins,outs,moves,er,tot,neg,mag⟩)=false):=by
    show _=_;unfold rightG GV.g;simp only [List.length_map];rw [decide_eq_false (fun h=>hg h)];rfl
   go_wp2_with fail
   go_ret
   exact ⟨by rw [HR.out];rfl,HU0.out⟩
end Go.Proofs.YtcikldoaidmnhaaGreatDoor
