/- Parts: Walks of the packets' program: a move is read. No condition. -/
import Derived.Test.YtmgklblglpplcaaGreatDoorRPubl1
import Derived.Test.YtmgklblglpplcaaGreatDoorRPubl4
import Derived.Test.YtmgklblglpplcaaGreatDoorRPubl5
import Derived.WalkKit
import Derived.WalkSpells
import Derived.WalkLawsBesides
import Derived.Lib.Hide
import Derived.BigQuiet
import Derived.Deep.DeepFit
import Derived.Deep.DeepCutAuto
import Derived.Deep.AppendLies
import Derived.Deep.QuietTactic
import Derived.Maps.OwnOps
import Derived.Maps.OwnSet
import Derived.Maps.RangeWalk
import Derived.WideKeyEntry
import Derived.Deep.MidRow
import Derived.Lib.Bits
import Derived.Test.YtmgklblglpplcaaGreatDoorRows
import Derived.Deep.RegionHeld3
import Derived.StillTail
import Derived.Laws.EntriesVeiled
import Derived.Handy
import Derived.DeepKeys4
import Derived.ArgAppend
import Derived.Deep.Upon
import Derived.Deep.CutBlock
import Derived.Test.YtmgklblglpplcaaGreatDoorShelf2
import Derived.Test.YtmgklblglpplcaaGreatDoorShelf
import Derived.Laws.BitsAllLaws
import Derived.Lib.Zigzag
import Derived.Recover
import Derived.Laws.BytesArg
import Derived.Deep.WholeRow
import Derived.Laws.IdiomStrings
namespace Go.Proofs.YtmgklblglpplcaaGreatDoor
open Go Go.RowKit Pk Pc
set_option maxRecDepth 100000
theorem listR_step {α:Type} (one:Bytes→Option (α × Bytes)) (k:Nat) (s:Bytes):listR one (k+1) s=match one s with
  | none=>none
  | some (x,r)=>match listR one k r with
   | none=>none
   | some (l,r2)=>some (x :: l,r2):=rfl
end Go.Proofs.YtmgklblglpplcaaGreatDoor
