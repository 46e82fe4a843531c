/-
  DERIVED. GIVEN WITH THE SEED: THE CARDS: each row of YtmgklblglpplcaaGreatDoorRows.lean that lists a variable, with what it lists TIED to the program's text (the seventh form; the later family's looks); each row that meets fmt, with fmt's text TOLD by the authors' own Lean function (tested against real Go, not proved from fmt's source: count such statements apart). THE CARD IS WHAT COUNTS. Prove the row's statement (the work); the ties are given (YtmgklblglpplcaaGreatDoorTie.lean); close each card by the builder's one call (the guide's Derived/Test/ToyasCard.lean, 'card_holds'). Laid BY PROGRAM, IN A SANDBOX (cutbox-door.mjs). By AI agents, Wed Nov 11 2026. No macro, syntax, notation, axiom, sorry.
-/
import Derived.Test.YtmgklblglpplcaaGreatDoorRows
import GoSem.ClaimSeven
namespace Go.Proofs.YtmgklblglpplcaaGreatDoor
namespace Rows

/-- THE TIED CARD OF 'lithophanelaw21.PublishNone'. -/
def publishNoneCard : Claim7 := { stood := { row := publishNoneRow, standIns := [], harness := (true, "8d0c78ed1281c0a5116153b1b945d1ce19809ad8dca525815f00ea53b434d89f"), looks := true }, kinds := [], alts := [], laidByText := true, laidKinds := [.data, .pinned], laidTests := true, laidLooks := .later }
def PublishNoneCardSaid : Prop := Claim7.holds Tryz.pinned (.plain (OpenSpec.ofChange publishNoneSpec)) publishNoneCard

/-- THE SECOND FORM's CARD OF 'lithophanelaw21.PublishNone'. -/
def publishNoneUptoCard : Claim7 := { stood := { row := publishNoneUptoRow, standIns := [], harness := (true, "8d0c78ed1281c0a5116153b1b945d1ce19809ad8dca525815f00ea53b434d89f"), looks := true }, kinds := [], alts := [], laidByText := true, laidKinds := [.data, .pinned], laidTests := true, laidLooks := .later }
def PublishNoneUptoCardSaid : Prop := Claim7.holds Tryz.pinned (.plain (OpenSpec.upto publishNoneSpec)) publishNoneUptoCard
end Rows
end Go.Proofs.YtmgklblglpplcaaGreatDoor
