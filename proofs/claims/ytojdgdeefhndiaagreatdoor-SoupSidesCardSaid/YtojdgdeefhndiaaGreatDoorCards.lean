/-
  DERIVED. GIVEN WITH THE SEED: THE CARDS: each row of YtojdgdeefhndiaaGreatDoorRows.lean that lists a variable, with what it lists TIED to the program's text (the seventh form; the later family's looks); each row that meets fmt, with fmt's text TOLD by the authors' own Lean function (tested against real Go, not proved from fmt's source: count such statements apart). THE CARD IS WHAT COUNTS. Prove the row's statement (the work); the ties are given (YtojdgdeefhndiaaGreatDoorTie.lean); close each card by the builder's one call (the guide's Derived/Test/ToyasCard.lean, 'card_holds'). Laid BY PROGRAM, IN A SANDBOX (cutbox-door.mjs). By AI agents, Wed Nov 11 2026. No macro, syntax, notation, axiom, sorry.
-/
import Derived.Test.YtojdgdeefhndiaaGreatDoorRows
import GoSem.ClaimSeven
namespace Go.Proofs.YtojdgdeefhndiaaGreatDoor
namespace Rows

/-- THE TIED CARD OF 'lithophanelaw03.SoupReads'. -/
def soupReadsCard : Claim7 := { stood := { row := soupReadsRow, standIns := [], harness := (true, "cdfc613824a7204947f1a8d393c4eaab6fb97d519f5f6c7c77faba4d152adec6"), looks := true }, kinds := [], alts := [], laidByText := true, laidKinds := [.data, .data, .data, .data, .sentinel, .sentinel, .pinned], laidTests := true, laidLooks := .later }
def SoupReadsCardSaid : Prop := Claim7.holds Tryz.pinned (.plain (OpenSpec.ofChange soupReadsSpec)) soupReadsCard

/-- THE TIED CARD OF 'lithophanelaw03.SoupBinary'. -/
def soupBinaryCard : Claim7 := { stood := { row := soupBinaryRow, standIns := [], harness := (true, "cdfc613824a7204947f1a8d393c4eaab6fb97d519f5f6c7c77faba4d152adec6"), looks := true }, kinds := [], alts := [], laidByText := true, laidKinds := [.data, .data, .data, .data, .sentinel, .sentinel, .pinned], laidTests := true, laidLooks := .later }
def SoupBinaryCardSaid : Prop := Claim7.holds Tryz.pinned (.plain (OpenSpec.ofChange soupBinarySpec)) soupBinaryCard

/-- THE TIED CARD OF 'lithophanelaw03.SoupComments'. -/
def soupCommentsCard : Claim7 := { stood := { row := soupCommentsRow, standIns := [], harness := (true, "cdfc613824a7204947f1a8d393c4eaab6fb97d519f5f6c7c77faba4d152adec6"), looks := true }, kinds := [], alts := [], laidByText := true, laidKinds := [.data, .data, .data, .data, .sentinel, .sentinel, .pinned], laidTests := true, laidLooks := .later }
def SoupCommentsCardSaid : Prop := Claim7.holds Tryz.pinned (.plain (OpenSpec.ofChange soupCommentsSpec)) soupCommentsCard

/-- THE TIED CARD OF 'lithophanelaw03.SoupPlaces'. -/
def soupPlacesCard : Claim7 := { stood := { row := soupPlacesRow, standIns := [], harness := (true, "cdfc613824a7204947f1a8d393c4eaab6fb97d519f5f6c7c77faba4d152adec6"), looks := true }, kinds := [], alts := [], laidByText := true, laidKinds := [.data, .data, .data, .data, .sentinel, .sentinel, .pinned], laidTests := true, laidLooks := .later }
def SoupPlacesCardSaid : Prop := Claim7.holds Tryz.pinned (.plain (OpenSpec.ofChange soupPlacesSpec)) soupPlacesCard

/-- THE TIED CARD OF 'lithophanelaw03.SoupForms'. -/
def soupFormsCard : Claim7 := { stood := { row := soupFormsRow, standIns := [], harness := (true, "cdfc613824a7204947f1a8d393c4eaab6fb97d519f5f6c7c77faba4d152adec6"), looks := true }, kinds := [], alts := [], laidByText := true, laidKinds := [.data, .data, .data, .data, .sentinel, .sentinel, .pinned], laidTests := true, laidLooks := .later }
def SoupFormsCardSaid : Prop := Claim7.holds Tryz.pinned (.plain (OpenSpec.ofChange soupFormsSpec)) soupFormsCard

/-- THE TIED CARD OF 'lithophanelaw03.SoupBack'. -/
def soupBackCard : Claim7 := { stood := { row := soupBackRow, standIns := [], harness := (true, "cdfc613824a7204947f1a8d393c4eaab6fb97d519f5f6c7c77faba4d152adec6"), looks := true }, kinds := [], alts := [], laidByText := true, laidKinds := [.data, .data, .data, .data, .sentinel, .sentinel, .pinned], laidTests := true, laidLooks := .later }
def SoupBackCardSaid : Prop := Claim7.holds Tryz.pinned (.plain (OpenSpec.ofChange soupBackSpec)) soupBackCard

/-- THE TIED CARD OF 'lithophanelaw03.SoupWrites'. -/
def soupWritesCard : Claim7 := { stood := { row := soupWritesRow, standIns := [], harness := (true, "cdfc613824a7204947f1a8d393c4eaab6fb97d519f5f6c7c77faba4d152adec6"), looks := true }, kinds := [], alts := [], laidByText := true, laidKinds := [.data, .data, .data, .data, .sentinel, .sentinel, .pinned], laidTests := true, laidLooks := .later }
def SoupWritesCardSaid : Prop := Claim7.holds Tryz.pinned (.plain (OpenSpec.ofChange soupWritesSpec)) soupWritesCard

/-- THE TIED CARD OF 'lithophanelaw03.SoupSides'. -/
def soupSidesCard : Claim7 := { stood := { row := soupSidesRow, standIns := [], harness := (true, "cdfc613824a7204947f1a8d393c4eaab6fb97d519f5f6c7c77faba4d152adec6"), looks := true }, kinds := [], alts := [], laidByText := true, laidKinds := [.data, .data, .data, .data, .sentinel, .sentinel, .pinned], laidTests := true, laidLooks := .later }
def SoupSidesCardSaid : Prop := Claim7.holds Tryz.pinned (.plain (OpenSpec.ofChange soupSidesSpec)) soupSidesCard

/-- THE SECOND FORM's CARD OF 'lithophanelaw03.SoupReads'. -/
def soupReadsUptoCard : Claim7 := { stood := { row := soupReadsUptoRow, standIns := [], harness := (true, "cdfc613824a7204947f1a8d393c4eaab6fb97d519f5f6c7c77faba4d152adec6"), looks := true }, kinds := [], alts := [], laidByText := true, laidKinds := [.data, .data, .data, .data, .sentinel, .sentinel, .pinned], laidTests := true, laidLooks := .later }
def SoupReadsUptoCardSaid : Prop := Claim7.holds Tryz.pinned (.plain (OpenSpec.upto soupReadsSpec)) soupReadsUptoCard

/-- THE SECOND FORM's CARD OF 'lithophanelaw03.SoupBinary'. -/
def soupBinaryUptoCard : Claim7 := { stood := { row := soupBinaryUptoRow, standIns := [], harness := (true, "cdfc613824a7204947f1a8d393c4eaab6fb97d519f5f6c7c77faba4d152adec6"), looks := true }, kinds := [], alts := [], laidByText := true, laidKinds := [.data, .data, .data, .data, .sentinel, .sentinel, .pinned], laidTests := true, laidLooks := .later }
def SoupBinaryUptoCardSaid : Prop := Claim7.holds Tryz.pinned (.plain (OpenSpec.upto soupBinarySpec)) soupBinaryUptoCard

/-- THE SECOND FORM's CARD OF 'lithophanelaw03.SoupComments'. -/
def soupCommentsUptoCard : Claim7 := { stood := { row := soupCommentsUptoRow, standIns := [], harness := (true, "cdfc613824a7204947f1a8d393c4eaab6fb97d519f5f6c7c77faba4d152adec6"), looks := true }, kinds := [], alts := [], laidByText := true, laidKinds := [.data, .data, .data, .data, .sentinel, .sentinel, .pinned], laidTests := true, laidLooks := .later }
def SoupCommentsUptoCardSaid : Prop := Claim7.holds Tryz.pinned (.plain (OpenSpec.upto soupCommentsSpec)) soupCommentsUptoCard

/-- THE SECOND FORM's CARD OF 'lithophanelaw03.SoupPlaces'. -/
def soupPlacesUptoCard : Claim7 := { stood := { row := soupPlacesUptoRow, standIns := [], harness := (true, "cdfc613824a7204947f1a8d393c4eaab6fb97d519f5f6c7c77faba4d152adec6"), looks := true }, kinds := [], alts := [], laidByText := true, laidKinds := [.data, .data, .data, .data, .sentinel, .sentinel, .pinned], laidTests := true, laidLooks := .later }
def SoupPlacesUptoCardSaid : Prop := Claim7.holds Tryz.pinned (.plain (OpenSpec.upto soupPlacesSpec)) soupPlacesUptoCard

/-- THE SECOND FORM's CARD OF 'lithophanelaw03.SoupForms'. -/
def soupFormsUptoCard : Claim7 := { stood := { row := soupFormsUptoRow, standIns := [], harness := (true, "cdfc613824a7204947f1a8d393c4eaab6fb97d519f5f6c7c77faba4d152adec6"), looks := true }, kinds := [], alts := [], laidByText := true, laidKinds := [.data, .data, .data, .data, .sentinel, .sentinel, .pinned], laidTests := true, laidLooks := .later }
def SoupFormsUptoCardSaid : Prop := Claim7.holds Tryz.pinned (.plain (OpenSpec.upto soupFormsSpec)) soupFormsUptoCard

/-- THE SECOND FORM's CARD OF 'lithophanelaw03.SoupBack'. -/
def soupBackUptoCard : Claim7 := { stood := { row := soupBackUptoRow, standIns := [], harness := (true, "cdfc613824a7204947f1a8d393c4eaab6fb97d519f5f6c7c77faba4d152adec6"), looks := true }, kinds := [], alts := [], laidByText := true, laidKinds := [.data, .data, .data, .data, .sentinel, .sentinel, .pinned], laidTests := true, laidLooks := .later }
def SoupBackUptoCardSaid : Prop := Claim7.holds Tryz.pinned (.plain (OpenSpec.upto soupBackSpec)) soupBackUptoCard

/-- THE SECOND FORM's CARD OF 'lithophanelaw03.SoupWrites'. -/
def soupWritesUptoCard : Claim7 := { stood := { row := soupWritesUptoRow, standIns := [], harness := (true, "cdfc613824a7204947f1a8d393c4eaab6fb97d519f5f6c7c77faba4d152adec6"), looks := true }, kinds := [], alts := [], laidByText := true, laidKinds := [.data, .data, .data, .data, .sentinel, .sentinel, .pinned], laidTests := true, laidLooks := .later }
def SoupWritesUptoCardSaid : Prop := Claim7.holds Tryz.pinned (.plain (OpenSpec.upto soupWritesSpec)) soupWritesUptoCard

/-- THE SECOND FORM's CARD OF 'lithophanelaw03.SoupSides'. -/
def soupSidesUptoCard : Claim7 := { stood := { row := soupSidesUptoRow, standIns := [], harness := (true, "cdfc613824a7204947f1a8d393c4eaab6fb97d519f5f6c7c77faba4d152adec6"), looks := true }, kinds := [], alts := [], laidByText := true, laidKinds := [.data, .data, .data, .data, .sentinel, .sentinel, .pinned], laidTests := true, laidLooks := .later }
def SoupSidesUptoCardSaid : Prop := Claim7.holds Tryz.pinned (.plain (OpenSpec.upto soupSidesSpec)) soupSidesUptoCard
end Rows
end Go.Proofs.YtojdgdeefhndiaaGreatDoor
