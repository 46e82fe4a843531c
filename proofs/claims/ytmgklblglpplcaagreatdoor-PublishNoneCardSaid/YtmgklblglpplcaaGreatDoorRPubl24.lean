/- Parts: Walks of the packets' program: a cluster's packet is opened, as it comes. No condition. -/
import Derived.Test.YtmgklblglpplcaaGreatDoorRPubl1
import Derived.Test.YtmgklblglpplcaaGreatDoorRPubl2
import Derived.Test.YtmgklblglpplcaaGreatDoorRPubl4
import Derived.Test.YtmgklblglpplcaaGreatDoorRPubl6
import Derived.Test.YtmgklblglpplcaaGreatDoorRPubl8
import Derived.Test.YtmgklblglpplcaaGreatDoorRPubl9
import Derived.Test.YtmgklblglpplcaaGreatDoorRPubl11
import Derived.Test.YtmgklblglpplcaaGreatDoorRPubl12
import Derived.Test.YtmgklblglpplcaaGreatDoorRPubl14
import Derived.Test.YtmgklblglpplcaaGreatDoorRPubl15
import Derived.Test.YtmgklblglpplcaaGreatDoorRPubl16
import Derived.Test.YtmgklblglpplcaaGreatDoorRPubl19
import Derived.Test.YtmgklblglpplcaaGreatDoorRPubl22
import Derived.WalkKit
import Derived.WalkSpells
import Derived.WalkLawsBesides
import Derived.Lib.Hide
import Derived.BigQuiet
import Derived.Deep.DeepFit
import Derived.Deep.DeepCutAuto
import Derived.Deep.AppendLies
import Derived.Deep.QuietTactic
import Derived.Maps.OwnOps
import Derived.Maps.OwnSet
import Derived.Maps.RangeWalk
import Derived.WideKeyEntry
import Derived.Deep.MidRow
import Derived.Lib.Bits
import Derived.Test.YtmgklblglpplcaaGreatDoorRows
import Derived.Deep.RegionHeld3
import Derived.StillTail
import Derived.Laws.EntriesVeiled
import Derived.Handy
import Derived.DeepKeys4
import Derived.ArgAppend
import Derived.Deep.Upon
import Derived.Deep.CutBlock
import Derived.Test.YtmgklblglpplcaaGreatDoorShelf2
import Derived.Test.YtmgklblglpplcaaGreatDoorShelf
import Derived.Laws.BitsAllLaws
import Derived.Lib.Zigzag
import Derived.Recover
namespace Go.Proofs.YtmgklblglpplcaaGreatDoor
open Go Go.RowKit Pk Pc
set_option maxRecDepth 100000
theorem upd_newE {w w1 w2:World} {k:Nat} (h:Upd noBlk w w1) (h2:Upd (fun i=>i=k) w1 w2) (hk:w.heap.size≤k):Upd noBlk w w2:=h.then h2 (fun i hi e=>by have e':i=k:=e;omega)
theorem CR.make {w1 wl wz:World} {b br ob:Nat} {d:D} {G0:Nat→Prop} (hS:SRep wl b Wk.init G0) (hR:RRep wl br d (·=br)) (hG:∀k,G0 k→w1.heap.size≤k∧k≠ob∧k≠br) (hb:w1.heap.size≤br∧br≠ob) (ho:w1.heap.size≤ob) (hu:Upd noBlk w1 wl) (hz:Upd (fun k=>k=ob) wl wz):CR noBlk noBlk w1 wz b Wk.init br d:=
 ⟨⟨G0,(·=br),hS.upd hz (fun k hk e=>(hG k hk).2.1 e),hR.upd hz (fun k hk e=>hb.2 (by rw [←show k=br from hk];exact e)),fun k hk e=>(hG k hk).2.2 e,fun k hk=>.inr (by
  rcases hk with h | h
  ·exact (hG k h).1
  ·have h':k=br:=h;rw [h'];exact hb.1)⟩,(hu.mono (fun _ _ h=>h.elim)).then hz (fun i hi e=>by have e':i=ob:=e;omega)⟩
theorem upd_same {w:World} {b:Nat} {x:Value} {T:TypeId} (h:w.heap[b]?=some (.cells #[x] T (0,0))):Upd noBlk w (w.setCell ⟨b,0,none⟩ x):=by
 obtain ⟨h1,h2,h3,h4,h5⟩:=(Upd.refl (fun k=>k=b) w).setCell (p:=⟨b,0,none⟩) (fun _=>rfl) x;refine ⟨h1,h2,h3,h4,fun i hi _=>?_⟩;by_cases e:i=b
 ·subst e;rw [heap_setCell_eq (i:=0) x h,h];rfl
 ·exact h5 i hi e
end Go.Proofs.YtmgklblglpplcaaGreatDoor
