/- Parts: Walks of the program's mesh: edges, add, opposite. No condition. -/
import Derived.Test.YtcikldoaidmnhaaGreatDoorRSpoi1
import Derived.Test.YtcikldoaidmnhaaGreatDoorRSpoi3
import Derived.Test.YtcikldoaidmnhaaGreatDoorRSpoi4
import Derived.Test.YtcikldoaidmnhaaGreatDoorRSpoi6
import Derived.Test.YtcikldoaidmnhaaGreatDoorRSpoi7
import Derived.Test.YtcikldoaidmnhaaGreatDoorRSpoi8
import Derived.WalkKit
import Derived.WalkSpells
import Derived.WalkLawsBesides
import Derived.Lib.Hide
import Derived.BigQuiet
import Derived.Deep.DeepFit
import Derived.Deep.DeepCutAuto
import Derived.Deep.AppendLies
import Derived.Deep.QuietTactic
import Derived.Maps.OwnOps
import Derived.Maps.OwnSet
import Derived.Maps.RangeWalk
import Derived.WideKeyEntry
import Derived.Deep.MidRow
import Derived.Lib.Bits
import Derived.Test.YtcikldoaidmnhaaGreatDoorRows
import Derived.Deep.RegionHeld3
import Derived.StillTail
import Derived.Laws.EntriesVeiled
import Derived.Handy
import Derived.DeepKeys4
import Derived.Deep.CutBlock
import Derived.Test.YtcikldoaidmnhaaGreatDoorShelf2
namespace Go.Proofs.YtcikldoaidmnhaaGreatDoor
open Go Go.RowKit Pk
set_option maxRecDepth 100000
def edges3C (t:Tri):Array Value:=#[.int .i64 t.1.1,.int .i64 t.1.2.1,.int .i64 t.1.2.2,.int .i64 t.2.1.1,.int .i64 t.2.1.2.1,.int .i64 t.2.1.2.2,.int .i64 t.2.1.1,.int .i64 t.2.1.2.1,.int .i64 t.2.1.2.2,.int .i64 t.2.2.1,.int .i64 t.2.2.2.1,.int .i64 t.2.2.2.2,.int .i64 t.2.2.1,.int .i64 t.2.2.2.1,.int .i64 t.2.2.2.2,.int .i64 t.1.1,.int .i64 t.1.2.1,.int .i64 t.1.2.2]
set_option maxHeartbeats 1000000 in
theorem mEdges_any (t:Tri) (w:World):Calls Tryz.prog 178 #[triV t] w fun en w'=>en=.returned (.agg (edges3C t))∧Gr w w':=by
 obtain ⟨⟨a0,a1,a2⟩,⟨a3,a4,a5⟩,⟨a6,a7,a8⟩⟩:=t;unfold triV triC edges3C;go_enter Tryz.func178,Tryz.ntmps178
 go_wp2_with fail
 (try simp only [Exit.inBlock,Exit.then])
 refine bodyPost_ret (results_cell_row rfl _ _ (w.heap.size+1) 259 _ (0,0) _ rfl (by have:=heap_alloc_new (w.alloc (.cells #[.int .i64 a0,.int .i64 a1,.int .i64 a2,.int .i64 a3,.int .i64 a4,.int .i64 a5,.int .i64 a6,.int .i64 a7,.int .i64 a8] 45)) (.cells #[.int .i64 a0,.int .i64 a1,.int .i64 a2,.int .i64 a3,.int .i64 a4,.int .i64 a5,.int .i64 a3,.int .i64 a4,.int .i64 a5,.int .i64 a6,.int .i64 a7,.int .i64 a8,.int .i64 a6,.int .i64 a7,.int .i64 a8,.int .i64 a0,.int .i64 a1,.int .i64 a2] 259);rw [World.size_alloc] at this;exact this) Tryz.underlying259 rfl (by kernel_rfl)) rfl ?_;exact ⟨rfl,((Gr.refl w).alloc _).alloc _⟩
def setF (E:List Ed):Ed→Option Bool:=fun e=>if e∈E then some true else none
theorem setF_in {E:List Ed} {e:Ed} (h:e∈E):setF (E++[e])=setF E:=by
 funext c
 unfold setF;by_cases hc:c∈E
 ·rw [if_pos hc,if_pos (by simp [hc])]
 ·have hne:c≠e:=fun x=>hc (x ▸ h);rw [if_neg hc,if_neg (by simp [hc,hne])]
theorem setF_new (E:List Ed) (e:Ed):(fun c=>if c=e then some true else setF E c)=setF (E++[e]):=by
 funext c
 unfold setF;by_cases hc:c=e
 ·rw [if_pos hc,if_pos (by simp [hc])]
 ·rw [if_neg hc];by_cases h:c∈E
  ·rw [if_pos h,if_pos (by simp [h])]
  ·rw [if_neg h,if_neg (by simp [h,hc])]
set_option maxHeartbeats 1000000 in
theorem mAdd_any (b n:Nat) (E:List Ed) (e:Ed) (he:okE e) (hn:n<1000000) (w:World) (h:kitSet.At w b n (setF E)) :
  Calls Tryz.prog 179 #[.map (some b),edV e] w fun en w'=>en=.returned (.bool (!decide (e∈E)))∧kitSet.At w' b (n+1) (setF (E++[e]))∧Upd (fun j=>j=b) w w':=by
 have HE:=Lib.hid he;have HF:=Lib.hid (setF_new E e);have hb:b<w.heap.size:=by obtain ⟨es,cl,hh⟩:=h.blk;exact lt_of_heap hh
 obtain ⟨⟨a0,a1,a2⟩,⟨a3,a4,a5⟩⟩:=e;unfold edV;have HU:Hid (Upd noBlk w (w.alloc (.cells #[.int .i64 a0,.int .i64 a1,.int .i64 a2,.int .i64 a3,.int .i64 a4,.int .i64 a5] 258))):=(Upd.refl noBlk w).alloc _;have HL:=Lib.hid (h.keep HU.out);by_cases hm:((a0,a1,a2),(a3,a4,a5))∈E
 ·have hs:((setF E ((a0,a1,a2),(a3,a4,a5))).getD kitSet.zero)=true:=by unfold setF;rw [if_pos hm];rfl
  have HI:=Lib.hid (setF_in hm);have hd:decide (((a0,a1,a2),(a3,a4,a5))∈E)=true:=decide_eq_true hm;have HD:=Lib.hid hd;have HS:=Lib.hid hs;clear h hm hs hd;go_enter Tryz.func179,Tryz.ntmps179
  go_wp2_with (at_lookup;refine HL.out.look rfl _ _ rfl rfl (a:=((a0,a1,a2),(a3,a4,a5))) rfl HE.out ?_;rw [HS.out])
  go_ret
  refine ⟨by rw [HD.out];rfl,?_,HU.out.mono (fun _ _ h=>h.elim)⟩;rw [HI.out];exact HL.out.mono (Nat.le_succ _)
 ·have hs:((setF E ((a0,a1,a2),(a3,a4,a5))).getD kitSet.zero)=false:=by unfold setF;rw [if_neg hm];rfl
  have hd:decide (((a0,a1,a2),(a3,a4,a5))∈E)=false:=decide_eq_false hm;have HD:=Lib.hid hd;have HS:=Lib.hid hs;clear h hm hs hd;go_enter Tryz.func179,Tryz.ntmps179
  go_wp2_with (first | (at_lookup;refine HL.out.look rfl _ _ rfl rfl (a:=((a0,a1,a2),(a3,a4,a5))) rfl HE.out ?_;rw [HS.out]) | (at_mapUpdate;refine HL.out.store (by unfold maxLen;omega) rfl _ _ _ rfl rfl (a:=((a0,a1,a2),(a3,a4,a5))) rfl HE.out (v:=true) rfl trivial ?_;intro w3 hm3 hu3;have HM3:=Lib.hid hm3;have HU3:=Lib.hid hu3;clear hm3 hu3))
  go_ret
  refine ⟨by rw [HD.out];rfl,?_,(HU.out.mono (fun _ _ h=>h.elim)).trans HU3.out⟩;rw [←HF.out];exact HM3.out
end Go.Proofs.YtcikldoaidmnhaaGreatDoor
