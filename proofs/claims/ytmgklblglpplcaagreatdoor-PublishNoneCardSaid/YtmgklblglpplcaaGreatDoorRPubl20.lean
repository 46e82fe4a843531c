/- Parts: Walks of the packets' program: coordinates of a move, right. No condition. -/
import Derived.Test.YtmgklblglpplcaaGreatDoorRPubl5
import Derived.Test.YtmgklblglpplcaaGreatDoorRPubl8
import Derived.Test.YtmgklblglpplcaaGreatDoorRPubl14
import Derived.Test.YtmgklblglpplcaaGreatDoorRPubl19
import Derived.WalkKit
import Derived.WalkSpells
import Derived.WalkLawsBesides
import Derived.Lib.Hide
import Derived.BigQuiet
import Derived.Deep.DeepFit
import Derived.Deep.DeepCutAuto
import Derived.Deep.AppendLies
import Derived.Deep.QuietTactic
import Derived.Test.YtmgklblglpplcaaGreatDoorRows
import Derived.Deep.RegionHeld3
import Derived.StillTail
import Derived.Maps.OwnOps
import Derived.Maps.OwnSet
import Derived.Maps.RangeWalk
import Derived.WideKeyEntry
import Derived.Deep.MidRow
import Derived.Lib.Bits
import Derived.Laws.EntriesVeiled
import Derived.Handy
import Derived.DeepKeys4
import Derived.ArgAppend
import Derived.Deep.Upon
import Derived.Deep.CutBlock
import Derived.Test.YtmgklblglpplcaaGreatDoorShelf2
import Derived.Laws.BitsAllLaws
import Derived.Laws.BytesArg
import Derived.Deep.WholeRow
import Derived.Test.YtmgklblglpplcaaGreatDoorShelf
import Derived.Lib.Zigzag
namespace Go.Proofs.YtmgklblglpplcaaGreatDoor
open Go Go.RowKit Pk
set_option maxRecDepth 100000
structure GV where
 level:Int
 ins:List P32
 outs:List H32
 moves:List Mv
 err:Int
 total:Int
 neg:Bool
 mag:Bytes
def GV.g (x:GV):Grp:=⟨x.level,x.ins.map plainP,x.outs.map (·.1),x.moves,x.err,x.total,x.neg,x.mag⟩
def GV.V (x:GV) (vi vo vm:Value):Value:=.agg #[.int .i64 x.level,vi,vo,vm,.int .i64 x.err,.int .i64 x.total,.bool x.neg,.string (bs x.mag)]
end Go.Proofs.YtmgklblglpplcaaGreatDoor
