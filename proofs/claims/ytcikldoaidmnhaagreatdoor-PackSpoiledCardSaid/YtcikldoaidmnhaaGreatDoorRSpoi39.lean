/- Parts: Walks of the program's mesh: check, CheckOpen. No condition. -/
import Derived.Test.YtcikldoaidmnhaaGreatDoorRSpoi1
import Derived.Test.YtcikldoaidmnhaaGreatDoorRSpoi3
import Derived.Test.YtcikldoaidmnhaaGreatDoorRSpoi4
import Derived.Test.YtcikldoaidmnhaaGreatDoorRSpoi5
import Derived.Test.YtcikldoaidmnhaaGreatDoorRSpoi6
import Derived.Test.YtcikldoaidmnhaaGreatDoorRSpoi7
import Derived.Test.YtcikldoaidmnhaaGreatDoorRSpoi8
import Derived.Test.YtcikldoaidmnhaaGreatDoorRSpoi9
import Derived.Test.YtcikldoaidmnhaaGreatDoorRSpoi10
import Derived.Test.YtcikldoaidmnhaaGreatDoorRSpoi13
import Derived.Test.YtcikldoaidmnhaaGreatDoorRSpoi35
import Derived.WalkKit
import Derived.WalkSpells
import Derived.WalkLawsBesides
import Derived.Lib.Hide
import Derived.BigQuiet
import Derived.Deep.DeepFit
import Derived.Deep.DeepCutAuto
import Derived.Deep.AppendLies
import Derived.Deep.QuietTactic
import Derived.Maps.OwnOps
import Derived.Maps.OwnSet
import Derived.Maps.RangeWalk
import Derived.WideKeyEntry
import Derived.Deep.MidRow
import Derived.Lib.Bits
import Derived.Test.YtcikldoaidmnhaaGreatDoorRows
import Derived.Deep.RegionHeld3
import Derived.StillTail
import Derived.Laws.EntriesVeiled
import Derived.Handy
import Derived.DeepKeys4
import Derived.Deep.CutBlock
import Derived.Test.YtcikldoaidmnhaaGreatDoorShelf2
namespace Go.Proofs.YtcikldoaidmnhaaGreatDoor
open Go Go.RowKit Pk
set_option maxRecDepth 100000
set_option maxHeartbeats 4000000 in
theorem mCheck_any (v:Value) (l:List Tri) (hn:l.length≤100000) (hok:∀t,t∈l→okT t) (w:World) (h:kTri.Rd w v l) :
  Calls Tryz.prog 137 #[v,.bool true] w fun en w'=>en=.returned (.int .i64 (checkO l))∧Upd noBlk w w':=by
 have HD:=fun W hW=>Lib.hid (mDirected_any v l hn hok W (h.keep hW));have HPN:=fun hnd W hW=>Lib.hid (mPinched_any v l hn hok hnd W (h.keep hW));obtain ⟨A,cap,rfl,hcap,hx⟩:=h;have HX:=Lib.hid hx;have HOK:=Lib.hid hok;have hn':(l.length:Int)≤100000:=by omega
 have HDD:Hid (∀W,Upd noBlk w W→Calls Tryz.prog 158 #[.slice A l.length cap] W fun en w'=>en=.returned (.tuple #[.map (some W.heap.size),.bool (decide (edgesL l).Nodup)])∧kitSet.At w' W.heap.size (3*l.length) (setF (edgesL l))∧Upd noBlk W w'):=fun W hW=>(HD W hW).out;have HPP:Hid ((edgesL l).Nodup→∀W,Upd noBlk w W→Calls Tryz.prog 160 #[.slice A l.length cap] W fun en w'=>en=.returned (.bool (pinched l))∧Upd noBlk W w'):=fun hnd W hW=>(HPN hnd W hW).out;clear hx hok HD HPN;go_enter Tryz.func137,Tryz.ntmps137
 go_wp2_with fail
 go_loopw [11] (fun i wr=>∃k:Nat,i=.int .i64 k∧k≤l.length∧(∀t,t∈l.take k→flatT t=false)∧Upd noBlk w wr) (fun i _=>l.length-(intOf i).toNat)
 case atStart=>exact ⟨0,rfl,Nat.zero_le _,fun t ht=>(by cases ht),Upd.refl _ _⟩
 case round=>
  obtain ⟨k,rfl,hk,hf,hu⟩:=hrel;have HF:=Lib.hid hf;have HU:=Lib.hid hu;clear hf hu;by_cases hlt:k<l.length
  ·have hlt':(k:Int)<(l.length:Int):=by omega
   obtain ⟨b,off,rfl,f1⟩:=HX.out (by omega);obtain ⟨g0,g1,g2,g3,g4,g5,g6,g7,g8⟩:=triAt9 ((f1 k hlt).keep HU.out);have hk9:kTri.k=9:=rfl;rw [hk9] at g0 g1 g2 g3 g4 g5 g6 g7 g8;have HFN:Hid (flatT l[k]=false→∀t,t∈l.take (k+1)→flatT t=false):=fun h0 t ht=>by
    rw [List.take_succ_eq_append_getElem hlt] at ht;rcases List.mem_append.1 ht with ht | ht
    ·exact HF.out t ht
    ·rw [List.mem_singleton] at ht;rw [ht];exact h0
   have HFT:Hid (flatT l[k]=true→checkO l=20):=fun h0=>by
    unfold checkO;rw [if_pos (List.any_eq_true.2 ⟨l[k],List.getElem_mem hlt,h0⟩)]
   clear f1 hk9;generalize l[k]=tk at *;obtain ⟨⟨a0,a1,a2⟩,⟨a3,a4,a5⟩,⟨a6,a7,a8⟩⟩:=tk;simp only at g0 g1 g2 g3 g4 g5 g6 g7 g8;have HFN':Hid (¬((a0=a3∧a1=a4∧a2=a5)∨(a3=a6∧a4=a7∧a5=a8)∨(a6=a0∧a7=a1∧a8=a2))→∀t,t∈l.take (k+1)→flatT t=false):=fun h=>HFN.out (by unfold flatT;rw [decide_eq_false_iff_not];simpa only [Prod.mk.injEq] using h);have HFT':Hid ((a0=a3∧a1=a4∧a2=a5)∨(a3=a6∧a4=a7∧a5=a8)∨(a6=a0∧a7=a1∧a8=a2)→checkO l=20):=fun h=>HFT.out (by unfold flatT;rw [decide_eq_true_eq];simpa only [Prod.mk.injEq] using h);clear HFN HFT;go_wp2_with fail
   all_goals first
    | (go_ret;refine ⟨?_,HU.out.alloc _⟩;rw [HFT'.out (by omega)];rfl)
    | (refine ⟨⟨k+1,by go_num,hlt,HFN'.out (by omega),HU.out.alloc _⟩,by simp [intOf];omega⟩)
  ·obtain rfl:k=l.length:=by omega
   have hfl:¬l.any flatT=true:=by
    rw [List.any_eq_true];rintro ⟨t,h1,h2⟩;have:=HF.out t (by rw [List.take_length];exact h1);rw [h2] at this;cases this
   have HC0:Hid (¬(edgesL l).Nodup→checkO l=21):=fun h=>by unfold checkO;rw [if_neg hfl,if_pos h]
   have HC1:Hid ((edgesL l).Nodup→checkO l=if pinched l then 23 else 0):=fun h=>by unfold checkO;rw [if_neg hfl,if_neg (not_not_intro h)]
   have hd:=HDD.out wr HU.out;have HDC:=Lib.hid hd;clear hfl hd;by_cases hnd:(edgesL l).Nodup
   ·rw [decide_eq_true hnd] at HDC;go_wp2_with fail
    refine HDC.out.mono ?_;rintro e w2 ⟨rfl,_,u2⟩;have U2:=Lib.hid (HU.out.trans u2);have HP2:=Lib.hid (HPP.out hnd w2 U2.out);have HC2:=Lib.hid (HC1.out hnd);clear u2 hnd HDC;go_wp2_with fail
    refine HP2.out.mono ?_;rintro e w3 ⟨rfl,u3⟩;have U3:=Lib.hid (U2.out.trans u3);clear u3 HP2;rcases hp:pinched l with _ | _
    ·rw [hp] at HC2;go_wp2_with fail
     go_ret
     exact ⟨by rw [HC2.out];rfl,U3.out⟩
    ·rw [hp] at HC2;go_wp2_with fail
     go_ret
     exact ⟨by rw [HC2.out];rfl,U3.out⟩
   ·rw [decide_eq_false hnd] at HDC;have HC2:=Lib.hid (HC0.out hnd);clear hnd;go_wp2_with fail
    refine HDC.out.mono ?_;rintro e w2 ⟨rfl,_,u2⟩;have U2:=Lib.hid (HU.out.trans u2);clear u2 HDC;go_wp2_with fail
    go_ret
    exact ⟨by rw [HC2.out];rfl,U2.out⟩
theorem mCheckOpen_any (v:Value) (l:List Tri) (hn:l.length≤100000) (hok:∀t,t∈l→okT t) (w:World) (h:kTri.Rd w v l) :
  Calls Tryz.prog 92 #[v] w fun en w'=>en=.returned (.int .i64 (checkO l))∧Upd noBlk w w':=by
 have HC:=Lib.hid (mCheck_any v l hn hok w h);go_enter Tryz.func92,Tryz.ntmps92
 go_wp2_with fail
 refine HC.out.mono ?_;rintro e w2 ⟨rfl,u2⟩;have U2:=Lib.hid u2;clear u2 HC h hok;go_wp2_with fail
 go_ret
 exact ⟨rfl,U2.out⟩
end Go.Proofs.YtcikldoaidmnhaaGreatDoor
