/-
  DERIVED. GIVEN WITH THE SEED: THE CARDS: each row of YtojdgdeefhndiaaDoorRows.lean that lists a variable, with what it lists TIED to the program's text (the seventh form; the later family's looks); each row that meets fmt, with fmt's text TOLD by the authors' own Lean function (tested against real Go, not proved from fmt's source: count such statements apart). THE CARD IS WHAT COUNTS. Prove the row's statement (the work); the ties are given (YtojdgdeefhndiaaDoorTie.lean); close each card by the builder's one call (the guide's Derived/Test/ToyasCard.lean, 'card_holds'). Laid BY PROGRAM, IN A SANDBOX (cutbox-door.mjs). By AI agents, Wed Nov 11 2026. No macro, syntax, notation, axiom, sorry.
-/
import Derived.Test.YtojdgdeefhndiaaDoorRows
import GoSem.ClaimSeven
namespace Go.Proofs.YtojdgdeefhndiaaDoor
namespace Rows

/-- THE TIED CARD OF 'lithophanelaw03.SoupRelative'. -/
def soupRelativeCard : Claim7 := { stood := { row := soupRelativeRow, standIns := [], harness := (true, "b72ce3b4d4909206aaf162299f3d0a8231869f1922b63520f2c8be46879066cb"), looks := true }, kinds := [], alts := [], laidByText := true, laidKinds := [.data, .data, .data, .data, .sentinel, .sentinel, .pinned], laidTests := true, laidLooks := .later }
def SoupRelativeCardSaid : Prop := Claim7.holds Tryd.pinned (.plain (OpenSpec.ofChange soupRelativeSpec)) soupRelativeCard

/-- THE SECOND FORM's CARD OF 'lithophanelaw03.SoupRelative'. -/
def soupRelativeUptoCard : Claim7 := { stood := { row := soupRelativeUptoRow, standIns := [], harness := (true, "b72ce3b4d4909206aaf162299f3d0a8231869f1922b63520f2c8be46879066cb"), looks := true }, kinds := [], alts := [], laidByText := true, laidKinds := [.data, .data, .data, .data, .sentinel, .sentinel, .pinned], laidTests := true, laidLooks := .later }
def SoupRelativeUptoCardSaid : Prop := Claim7.holds Tryd.pinned (.plain (OpenSpec.upto soupRelativeSpec)) soupRelativeUptoCard
end Rows
end Go.Proofs.YtojdgdeefhndiaaDoor
