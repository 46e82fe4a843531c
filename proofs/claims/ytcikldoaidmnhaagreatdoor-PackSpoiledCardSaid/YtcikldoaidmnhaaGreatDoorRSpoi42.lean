/- Parts: Walks of the packets' program: packable. No condition. -/
import Derived.Test.YtcikldoaidmnhaaGreatDoorRSpoi1
import Derived.Test.YtcikldoaidmnhaaGreatDoorRSpoi3
import Derived.Test.YtcikldoaidmnhaaGreatDoorRSpoi4
import Derived.Test.YtcikldoaidmnhaaGreatDoorRSpoi5
import Derived.Test.YtcikldoaidmnhaaGreatDoorRSpoi6
import Derived.Test.YtcikldoaidmnhaaGreatDoorRSpoi7
import Derived.Test.YtcikldoaidmnhaaGreatDoorRSpoi8
import Derived.Test.YtcikldoaidmnhaaGreatDoorRSpoi9
import Derived.Test.YtcikldoaidmnhaaGreatDoorRSpoi39
import Derived.WalkKit
import Derived.WalkSpells
import Derived.WalkLawsBesides
import Derived.Lib.Hide
import Derived.BigQuiet
import Derived.Deep.DeepFit
import Derived.Deep.DeepCutAuto
import Derived.Deep.AppendLies
import Derived.Deep.QuietTactic
import Derived.Maps.OwnOps
import Derived.Maps.OwnSet
import Derived.Maps.RangeWalk
import Derived.WideKeyEntry
import Derived.Deep.MidRow
import Derived.Lib.Bits
import Derived.Test.YtcikldoaidmnhaaGreatDoorRows
import Derived.Deep.RegionHeld3
import Derived.StillTail
import Derived.Laws.EntriesVeiled
import Derived.Handy
import Derived.DeepKeys4
import Derived.Deep.CutBlock
import Derived.Test.YtcikldoaidmnhaaGreatDoorShelf2
namespace Go.Proofs.YtcikldoaidmnhaaGreatDoor
open Go Go.RowKit Pk
set_option maxRecDepth 100000
theorem len_dec (n:Nat):decide ((n:Int)≤128)=decide (n≤128):=by rw [decide_eq_decide];omega
theorem bad_dec (p:Pt):decide (¬inP p)=decide (¬(0≤p.1∧p.1≤2097151∧0≤p.2.1∧p.2.1≤2097151∧0≤p.2.2∧p.2.2≤2097151)):=rfl
theorem if_max (a b:Int):(a<b∧(if a<b then b else a)=b)∨(¬a<b∧(if a<b then b else a)=a):=by
 by_cases h:a<b
 ·exact .inl ⟨h,if_pos h⟩
 ·exact .inr ⟨h,if_neg h⟩
set_option maxHeartbeats 4000000 in
theorem packable_any (v:Value) (l:List Tri) (hn:l.length≤100000) (hok:∀t,t∈l→okT t) (w:World) (h:kTri.Rd w v l) :
  Calls Tryz.prog 42 #[v] w fun en w'=>en=.returned (.bool (packable l))∧Upd noBlk w w':=by
 have HCH:Hid (∀W,Upd noBlk w W→Calls Tryz.prog 92 #[v] W fun en w'=>en=.returned (.int .i64 (checkO l))∧Upd noBlk W w'):=fun W hW=>mCheckOpen_any v l hn hok W (h.keep hW);obtain ⟨A,cap,rfl,hcap,hx⟩:=h;have HX:=Lib.hid hx;have hn':(l.length:Int)≤100000:=by omega
 clear hx hok;go_enter Tryz.func42,Tryz.ntmps42
 go_wp2_with fail
 go_loopw [9] (fun i wr=>∃k:Nat,i=.int .i64 k∧k≤l.length∧(∀t,t∈l.take k→inT t)∧Upd noBlk w wr) (fun i _=>l.length-(intOf i).toNat)
 case atStart=>exact ⟨0,rfl,Nat.zero_le _,fun t ht=>(by cases ht),Upd.refl _ _⟩
 case round=>
  obtain ⟨k,rfl,hk,hf,hu⟩:=hrel;have HF:=Lib.hid hf;have HU:=Lib.hid hu;clear hf hu;by_cases hlt:k<l.length
  ·have hlt':(k:Int)<(l.length:Int):=by omega
   obtain ⟨b,off,rfl,f1⟩:=HX.out (by omega);obtain ⟨g0,g1,g2,g3,g4,g5,g6,g7,g8⟩:=triAt9 ((f1 k hlt).keep HU.out);have hk9:kTri.k=9:=rfl;rw [hk9] at g0 g1 g2 g3 g4 g5 g6 g7 g8;have HFN:Hid (inT l[k]→∀t,t∈l.take (k+1)→inT t):=fun h0 t ht=>by
    rw [List.take_succ_eq_append_getElem hlt] at ht;rcases List.mem_append.1 ht with ht | ht
    ·exact HF.out t ht
    ·rw [List.mem_singleton] at ht;rw [ht];exact h0
   have HFT:Hid (¬inT l[k]→packable l=false):=fun h0=>by
    have:¬l.all coordT=true:=fun h=>h0 (coordT_in.1 (List.all_eq_true.1 h _ (List.getElem_mem hlt)));unfold packable;rw [Bool.eq_false_iff.2 this];rfl
   clear f1 hk9;generalize l[k]=tk at *;obtain ⟨⟨a0,a1,a2⟩,⟨a3,a4,a5⟩,⟨a6,a7,a8⟩⟩:=tk;simp only at g0 g1 g2 g3 g4 g5 g6 g7 g8;have ix0:∀W:World,(Instr.index 45 (.agg #[.int .i64 a0,.int .i64 a1,.int .i64 a2,.int .i64 a3,.int .i64 a4,.int .i64 a5,.int .i64 a6,.int .i64 a7,.int .i64 a8]) (.int .i64 0)).run Tryz.prog W=.ok (.agg #[.int .i64 a0,.int .i64 a1,.int .i64 a2]) W:=fun W=>by kernel_rfl
   have ix1:∀W:World,(Instr.index 45 (.agg #[.int .i64 a0,.int .i64 a1,.int .i64 a2,.int .i64 a3,.int .i64 a4,.int .i64 a5,.int .i64 a6,.int .i64 a7,.int .i64 a8]) (.int .i64 1)).run Tryz.prog W=.ok (.agg #[.int .i64 a3,.int .i64 a4,.int .i64 a5]) W:=fun W=>by kernel_rfl
   have ix2:∀W:World,(Instr.index 45 (.agg #[.int .i64 a0,.int .i64 a1,.int .i64 a2,.int .i64 a3,.int .i64 a4,.int .i64 a5,.int .i64 a6,.int .i64 a7,.int .i64 a8]) (.int .i64 2)).run Tryz.prog W=.ok (.agg #[.int .i64 a6,.int .i64 a7,.int .i64 a8]) W:=fun W=>by kernel_rfl
   go_wp2_with fail
   refine wp_loop_rounds 4 ?_;rw [rounds_succ];go_upto_region 7 with fail
   go_cut [34] (fun v wx=>v=.bool (decide (¬inP (a0,a1,a2)))∧wx=((wr.alloc (.cells #[.int .i64 a0,.int .i64 a1,.int .i64 a2,.int .i64 a3,.int .i64 a4,.int .i64 a5,.int .i64 a6,.int .i64 a7,.int .i64 a8] 45)).alloc (.cells #[.int .i64 a0,.int .i64 a1,.int .i64 a2] 43)))
   case first=>
    go_wp2_with fail
    all_goals (go_meet;refine ⟨congrArg Value.bool ?_,rfl⟩;have hmx:=if_max a0 a1;rw [bad_dec,Bool.eq_iff_iff,decide_eq_true_eq];simp only [decide_eq_true_eq,Bool.or_eq_true,true_iff];omega)
   case rest=>
    obtain ⟨rfl,rfl⟩:=hcut;by_cases hb0:inP (a0,a1,a2)
    rotate_left
    ·have hbd:decide (¬inP (a0,a1,a2))=true:=decide_eq_true hb0;have HP2:=Lib.hid (HFT.out (fun h=>hb0 h.1));rw [hbd];clear hb0 hbd;go_wp2_with fail
     go_ret
     exact ⟨by rw [HP2.out];rfl,((HU.out.alloc _).alloc _)⟩
    have hbd:decide (¬inP (a0,a1,a2))=false:=decide_eq_false (fun h=>h hb0);have HB0:=Lib.hid hb0;rw [hbd];clear hb0 hbd;go_wp2_with fail
    rw [rounds_succ];go_upto_region 7 with fail
    go_cut [34] (fun v wx=>v=.bool (decide (¬inP (a3,a4,a5)))∧wx=(((wr.alloc (.cells #[.int .i64 a0,.int .i64 a1,.int .i64 a2,.int .i64 a3,.int .i64 a4,.int .i64 a5,.int .i64 a6,.int .i64 a7,.int .i64 a8] 45)).alloc (.cells #[.int .i64 a0,.int .i64 a1,.int .i64 a2] 43)).alloc (.cells #[.int .i64 a3,.int .i64 a4,.int .i64 a5] 43)))
    case first=>
     go_wp2_with fail
     all_goals (go_meet;refine ⟨congrArg Value.bool ?_,rfl⟩;have hmx:=if_max a3 a4;rw [bad_dec,Bool.eq_iff_iff,decide_eq_true_eq];simp only [decide_eq_true_eq,Bool.or_eq_true,true_iff];omega)
    case rest=>
     obtain ⟨rfl,rfl⟩:=hcut;by_cases hb1:inP (a3,a4,a5)
     rotate_left
     ·have hbd:decide (¬inP (a3,a4,a5))=true:=decide_eq_true hb1;have HP2:=Lib.hid (HFT.out (fun h=>hb1 h.2.1));rw [hbd];clear hb1 hbd;go_wp2_with fail
      go_ret
      exact ⟨by rw [HP2.out];rfl,(((HU.out.alloc _).alloc _).alloc _)⟩
     have hbd:decide (¬inP (a3,a4,a5))=false:=decide_eq_false (fun h=>h hb1);have HB1:=Lib.hid hb1;rw [hbd];clear hb1 hbd;go_wp2_with fail
     rw [rounds_succ];go_upto_region 7 with fail
     go_cut [34] (fun v wx=>v=.bool (decide (¬inP (a6,a7,a8)))∧wx=((((wr.alloc (.cells #[.int .i64 a0,.int .i64 a1,.int .i64 a2,.int .i64 a3,.int .i64 a4,.int .i64 a5,.int .i64 a6,.int .i64 a7,.int .i64 a8] 45)).alloc (.cells #[.int .i64 a0,.int .i64 a1,.int .i64 a2] 43)).alloc (.cells #[.int .i64 a3,.int .i64 a4,.int .i64 a5] 43)).alloc (.cells #[.int .i64 a6,.int .i64 a7,.int .i64 a8] 43)))
     case first=>
      go_wp2_with fail
      all_goals (go_meet;refine ⟨congrArg Value.bool ?_,rfl⟩;have hmx:=if_max a6 a7;rw [bad_dec,Bool.eq_iff_iff,decide_eq_true_eq];simp only [decide_eq_true_eq,Bool.or_eq_true,true_iff];omega)
     case rest=>
      obtain ⟨rfl,rfl⟩:=hcut;by_cases hb2:inP (a6,a7,a8)
      rotate_left
      ·have hbd:decide (¬inP (a6,a7,a8))=true:=decide_eq_true hb2;have HP2:=Lib.hid (HFT.out (fun h=>hb2 h.2.2));rw [hbd];clear hb2 hbd;go_wp2_with fail
       go_ret
       exact ⟨by rw [HP2.out];rfl,((((HU.out.alloc _).alloc _).alloc _).alloc _)⟩
      have hbd:decide (¬inP (a6,a7,a8))=false:=decide_eq_false (fun h=>h hb2);have HB2:=Lib.hid hb2;rw [hbd];clear hb2 hbd;go_wp2_with fail
      rw [rounds_succ];go_wp2_with fail
      exact ⟨⟨k+1,by go_num,hlt,HFN.out ⟨HB0.out,HB1.out,HB2.out⟩,(((HU.out.alloc _).alloc _).alloc _).alloc _⟩,by simp [intOf];omega⟩
  ·obtain rfl:k=l.length:=by omega
   have hall:l.all coordT=true:=by
    rw [List.all_eq_true];intro t ht;exact coordT_in.2 (HF.out t (by rw [List.take_length];exact ht))
   have HPK:Hid (packable l=(decide (l.length≤128)&&decide (checkO l=0))):=by
    show _=_;unfold packable;rw [hall];rfl
   have HD:=Lib.hid (len_dec l.length);have hc:=HCH.out wr HU.out;have HC:=Lib.hid hc;have HBQ:Hid ((((checkO l:Nat):Int) == 0)=decide (checkO l=0)):=by
    show _=_;rw [Bool.eq_iff_iff,beq_iff_eq,decide_eq_true_eq];omega
   clear hall hc;by_cases h128:l.length≤128
   ·have h128':(l.length:Int)≤128:=by omega
    have HE:Hid (decide (l.length≤128)=true):=decide_eq_true h128;clear h128;go_wp2_with fail
    refine HC.out.mono ?_;rintro e w2 ⟨rfl,u2⟩;have U2:=Lib.hid (HU.out.trans u2);clear u2 HC;go_wp2_with fail
    go_ret
    refine ⟨?_,U2.out⟩;rw [HPK.out,HE.out,Bool.true_and];show Ending.returned (Value.bool (((checkO l:Nat):Int) == 0))=_;rw [HBQ.out]
   ·have h128':¬(l.length:Int)≤128:=by omega
    have HE:Hid (decide (l.length≤128)=false):=decide_eq_false h128;clear h128;go_wp2_with fail
    go_ret
    exact ⟨by rw [HPK.out,HE.out];rfl,HU.out⟩
end Go.Proofs.YtcikldoaidmnhaaGreatDoor
