/- Parts: Walks of the program's mesh: edges, add, opposite. No condition. -/
import Derived.Test.YtmgklblglpplcaaGreatDoorRPubl1
import Derived.Test.YtmgklblglpplcaaGreatDoorRPubl2
import Derived.Test.YtmgklblglpplcaaGreatDoorRPubl12
import Derived.WalkKit
import Derived.WalkSpells
import Derived.WalkLawsBesides
import Derived.Lib.Hide
import Derived.BigQuiet
import Derived.Deep.DeepFit
import Derived.Deep.DeepCutAuto
import Derived.Deep.AppendLies
import Derived.Deep.QuietTactic
import Derived.Maps.OwnOps
import Derived.Maps.OwnSet
import Derived.Maps.RangeWalk
import Derived.WideKeyEntry
import Derived.Deep.MidRow
import Derived.Lib.Bits
import Derived.Test.YtmgklblglpplcaaGreatDoorRows
import Derived.Deep.RegionHeld3
import Derived.StillTail
import Derived.Laws.EntriesVeiled
import Derived.Handy
import Derived.DeepKeys4
import Derived.Deep.CutBlock
import Derived.Test.YtmgklblglpplcaaGreatDoorShelf2
namespace Go.Proofs.YtmgklblglpplcaaGreatDoor
open Go Go.RowKit Pk
set_option maxRecDepth 100000
def setF (E:List Ed):Ed→Option Bool:=fun e=>if e∈E then some true else none
theorem setF_new (E:List Ed) (e:Ed):(fun c=>if c=e then some true else setF E c)=setF (E++[e]):=by
 funext c
 unfold setF;by_cases hc:c=e
 ·rw [if_pos hc,if_pos (by simp [hc])]
 ·rw [if_neg hc];by_cases h:c∈E
  ·rw [if_pos h,if_pos (by simp [h])]
  ·rw [if_neg h,if_neg (by simp [h,hc])]
end Go.Proofs.YtmgklblglpplcaaGreatDoor
