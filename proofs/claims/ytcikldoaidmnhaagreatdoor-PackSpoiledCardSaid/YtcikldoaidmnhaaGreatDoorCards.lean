/-
  DERIVED. GIVEN WITH THE SEED: THE CARDS: each row of YtcikldoaidmnhaaGreatDoorRows.lean that lists a variable, with what it lists TIED to the program's text (the seventh form; the later family's looks); each row that meets fmt, with fmt's text TOLD by the authors' own Lean function (tested against real Go, not proved from fmt's source: count such statements apart). THE CARD IS WHAT COUNTS. Prove the row's statement (the work); the ties are given (YtcikldoaidmnhaaGreatDoorTie.lean); close each card by the builder's one call (the guide's Derived/Test/ToyasCard.lean, 'card_holds'). Laid BY PROGRAM, IN A SANDBOX (cutbox-door.mjs). By AI agents, Wed Nov 11 2026. No macro, syntax, notation, axiom, sorry.
-/
import Derived.Test.YtcikldoaidmnhaaGreatDoorRows
import GoSem.ClaimSeven
namespace Go.Proofs.YtcikldoaidmnhaaGreatDoor
namespace Rows

/-- THE TIED CARD OF 'lithophanelaw16.PackClusters'. -/
def packClustersCard : Claim7 := { stood := { row := packClustersRow, standIns := [], harness := (true, "79adf4c75478215d6b8b670e2346d4729f7c4d2285a3ea5feae6a733015f179a"), looks := true }, kinds := [], alts := [], laidByText := true, laidKinds := [.data, .pinned], laidTests := true, laidLooks := .later }
def PackClustersCardSaid : Prop := Claim7.holds Tryz.pinned (.plain (OpenSpec.ofChange packClustersSpec)) packClustersCard

/-- THE TIED CARD OF 'lithophanelaw16.PackBack'. -/
def packBackCard : Claim7 := { stood := { row := packBackRow, standIns := [], harness := (true, "79adf4c75478215d6b8b670e2346d4729f7c4d2285a3ea5feae6a733015f179a"), looks := true }, kinds := [], alts := [], laidByText := true, laidKinds := [.data, .pinned], laidTests := true, laidLooks := .later }
def PackBackCardSaid : Prop := Claim7.holds Tryz.pinned (.plain (OpenSpec.ofChange packBackSpec)) packBackCard

/-- THE TIED CARD OF 'lithophanelaw16.PackOpens'. -/
def packOpensCard : Claim7 := { stood := { row := packOpensRow, standIns := [], harness := (true, "79adf4c75478215d6b8b670e2346d4729f7c4d2285a3ea5feae6a733015f179a"), looks := true }, kinds := [], alts := [], laidByText := true, laidKinds := [.data, .pinned], laidTests := true, laidLooks := .later }
def PackOpensCardSaid : Prop := Claim7.holds Tryz.pinned (.plain (OpenSpec.ofChange packOpensSpec)) packOpensCard

/-- THE TIED CARD OF 'lithophanelaw16.PackShuffled'. -/
def packShuffledCard : Claim7 := { stood := { row := packShuffledRow, standIns := [], harness := (true, "79adf4c75478215d6b8b670e2346d4729f7c4d2285a3ea5feae6a733015f179a"), looks := true }, kinds := [], alts := [], laidByText := true, laidKinds := [.data, .pinned], laidTests := true, laidLooks := .later }
def PackShuffledCardSaid : Prop := Claim7.holds Tryz.pinned (.plain (OpenSpec.ofChange packShuffledSpec)) packShuffledCard

/-- THE TIED CARD OF 'lithophanelaw16.PackRoots'. -/
def packRootsCard : Claim7 := { stood := { row := packRootsRow, standIns := [], harness := (true, "79adf4c75478215d6b8b670e2346d4729f7c4d2285a3ea5feae6a733015f179a"), looks := true }, kinds := [], alts := [], laidByText := true, laidKinds := [.data, .pinned], laidTests := true, laidLooks := .later }
def PackRootsCardSaid : Prop := Claim7.holds Tryz.pinned (.plain (OpenSpec.ofChange packRootsSpec)) packRootsCard

/-- THE TIED CARD OF 'lithophanelaw16.PackLimits'. -/
def packLimitsCard : Claim7 := { stood := { row := packLimitsRow, standIns := [], harness := (true, "79adf4c75478215d6b8b670e2346d4729f7c4d2285a3ea5feae6a733015f179a"), looks := true }, kinds := [], alts := [], laidByText := true, laidKinds := [.data, .pinned], laidTests := true, laidLooks := .later }
def PackLimitsCardSaid : Prop := Claim7.holds Tryz.pinned (.plain (OpenSpec.ofChange packLimitsSpec)) packLimitsCard

/-- THE TIED CARD OF 'lithophanelaw16.PackFaces'. -/
def packFacesCard : Claim7 := { stood := { row := packFacesRow, standIns := [], harness := (true, "79adf4c75478215d6b8b670e2346d4729f7c4d2285a3ea5feae6a733015f179a"), looks := true }, kinds := [], alts := [], laidByText := true, laidKinds := [.data, .pinned], laidTests := true, laidLooks := .later }
def PackFacesCardSaid : Prop := Claim7.holds Tryz.pinned (.plain (OpenSpec.ofChange packFacesSpec)) packFacesCard

/-- THE TIED CARD OF 'lithophanelaw16.PackGroups'. -/
def packGroupsCard : Claim7 := { stood := { row := packGroupsRow, standIns := [], harness := (true, "79adf4c75478215d6b8b670e2346d4729f7c4d2285a3ea5feae6a733015f179a"), looks := true }, kinds := [], alts := [], laidByText := true, laidKinds := [.data, .pinned], laidTests := true, laidLooks := .later }
def PackGroupsCardSaid : Prop := Claim7.holds Tryz.pinned (.plain (OpenSpec.ofChange packGroupsSpec)) packGroupsCard

/-- THE TIED CARD OF 'lithophanelaw16.PackSpoiled'. -/
def packSpoiledCard : Claim7 := { stood := { row := packSpoiledRow, standIns := [], harness := (true, "79adf4c75478215d6b8b670e2346d4729f7c4d2285a3ea5feae6a733015f179a"), looks := true }, kinds := [], alts := [], laidByText := true, laidKinds := [.data, .pinned], laidTests := true, laidLooks := .later }
def PackSpoiledCardSaid : Prop := Claim7.holds Tryz.pinned (.plain (OpenSpec.ofChange packSpoiledSpec)) packSpoiledCard

/-- THE TIED CARD OF 'lithophanelaw16.PackKinds'. -/
def packKindsCard : Claim7 := { stood := { row := packKindsRow, standIns := [], harness := (true, "79adf4c75478215d6b8b670e2346d4729f7c4d2285a3ea5feae6a733015f179a"), looks := true }, kinds := [], alts := [], laidByText := true, laidKinds := [.data, .pinned], laidTests := true, laidLooks := .later }
def PackKindsCardSaid : Prop := Claim7.holds Tryz.pinned (.plain (OpenSpec.ofChange packKindsSpec)) packKindsCard

/-- THE TIED CARD OF 'lithophanelaw16.PackKeeps'. -/
def packKeepsCard : Claim7 := { stood := { row := packKeepsRow, standIns := [], harness := (true, "79adf4c75478215d6b8b670e2346d4729f7c4d2285a3ea5feae6a733015f179a"), looks := true }, kinds := [], alts := [], laidByText := true, laidKinds := [.data, .pinned], laidTests := true, laidLooks := .later }
def PackKeepsCardSaid : Prop := Claim7.holds Tryz.pinned (.plain (OpenSpec.ofChange packKeepsSpec)) packKeepsCard

/-- THE SECOND FORM's CARD OF 'lithophanelaw16.PackClusters'. -/
def packClustersUptoCard : Claim7 := { stood := { row := packClustersUptoRow, standIns := [], harness := (true, "79adf4c75478215d6b8b670e2346d4729f7c4d2285a3ea5feae6a733015f179a"), looks := true }, kinds := [], alts := [], laidByText := true, laidKinds := [.data, .pinned], laidTests := true, laidLooks := .later }
def PackClustersUptoCardSaid : Prop := Claim7.holds Tryz.pinned (.plain (OpenSpec.upto packClustersSpec)) packClustersUptoCard

/-- THE SECOND FORM's CARD OF 'lithophanelaw16.PackBack'. -/
def packBackUptoCard : Claim7 := { stood := { row := packBackUptoRow, standIns := [], harness := (true, "79adf4c75478215d6b8b670e2346d4729f7c4d2285a3ea5feae6a733015f179a"), looks := true }, kinds := [], alts := [], laidByText := true, laidKinds := [.data, .pinned], laidTests := true, laidLooks := .later }
def PackBackUptoCardSaid : Prop := Claim7.holds Tryz.pinned (.plain (OpenSpec.upto packBackSpec)) packBackUptoCard

/-- THE SECOND FORM's CARD OF 'lithophanelaw16.PackOpens'. -/
def packOpensUptoCard : Claim7 := { stood := { row := packOpensUptoRow, standIns := [], harness := (true, "79adf4c75478215d6b8b670e2346d4729f7c4d2285a3ea5feae6a733015f179a"), looks := true }, kinds := [], alts := [], laidByText := true, laidKinds := [.data, .pinned], laidTests := true, laidLooks := .later }
def PackOpensUptoCardSaid : Prop := Claim7.holds Tryz.pinned (.plain (OpenSpec.upto packOpensSpec)) packOpensUptoCard

/-- THE SECOND FORM's CARD OF 'lithophanelaw16.PackShuffled'. -/
def packShuffledUptoCard : Claim7 := { stood := { row := packShuffledUptoRow, standIns := [], harness := (true, "79adf4c75478215d6b8b670e2346d4729f7c4d2285a3ea5feae6a733015f179a"), looks := true }, kinds := [], alts := [], laidByText := true, laidKinds := [.data, .pinned], laidTests := true, laidLooks := .later }
def PackShuffledUptoCardSaid : Prop := Claim7.holds Tryz.pinned (.plain (OpenSpec.upto packShuffledSpec)) packShuffledUptoCard

/-- THE SECOND FORM's CARD OF 'lithophanelaw16.PackRoots'. -/
def packRootsUptoCard : Claim7 := { stood := { row := packRootsUptoRow, standIns := [], harness := (true, "79adf4c75478215d6b8b670e2346d4729f7c4d2285a3ea5feae6a733015f179a"), looks := true }, kinds := [], alts := [], laidByText := true, laidKinds := [.data, .pinned], laidTests := true, laidLooks := .later }
def PackRootsUptoCardSaid : Prop := Claim7.holds Tryz.pinned (.plain (OpenSpec.upto packRootsSpec)) packRootsUptoCard

/-- THE SECOND FORM's CARD OF 'lithophanelaw16.PackLimits'. -/
def packLimitsUptoCard : Claim7 := { stood := { row := packLimitsUptoRow, standIns := [], harness := (true, "79adf4c75478215d6b8b670e2346d4729f7c4d2285a3ea5feae6a733015f179a"), looks := true }, kinds := [], alts := [], laidByText := true, laidKinds := [.data, .pinned], laidTests := true, laidLooks := .later }
def PackLimitsUptoCardSaid : Prop := Claim7.holds Tryz.pinned (.plain (OpenSpec.upto packLimitsSpec)) packLimitsUptoCard

/-- THE SECOND FORM's CARD OF 'lithophanelaw16.PackFaces'. -/
def packFacesUptoCard : Claim7 := { stood := { row := packFacesUptoRow, standIns := [], harness := (true, "79adf4c75478215d6b8b670e2346d4729f7c4d2285a3ea5feae6a733015f179a"), looks := true }, kinds := [], alts := [], laidByText := true, laidKinds := [.data, .pinned], laidTests := true, laidLooks := .later }
def PackFacesUptoCardSaid : Prop := Claim7.holds Tryz.pinned (.plain (OpenSpec.upto packFacesSpec)) packFacesUptoCard

/-- THE SECOND FORM's CARD OF 'lithophanelaw16.PackGroups'. -/
def packGroupsUptoCard : Claim7 := { stood := { row := packGroupsUptoRow, standIns := [], harness := (true, "79adf4c75478215d6b8b670e2346d4729f7c4d2285a3ea5feae6a733015f179a"), looks := true }, kinds := [], alts := [], laidByText := true, laidKinds := [.data, .pinned], laidTests := true, laidLooks := .later }
def PackGroupsUptoCardSaid : Prop := Claim7.holds Tryz.pinned (.plain (OpenSpec.upto packGroupsSpec)) packGroupsUptoCard

/-- THE SECOND FORM's CARD OF 'lithophanelaw16.PackSpoiled'. -/
def packSpoiledUptoCard : Claim7 := { stood := { row := packSpoiledUptoRow, standIns := [], harness := (true, "79adf4c75478215d6b8b670e2346d4729f7c4d2285a3ea5feae6a733015f179a"), looks := true }, kinds := [], alts := [], laidByText := true, laidKinds := [.data, .pinned], laidTests := true, laidLooks := .later }
def PackSpoiledUptoCardSaid : Prop := Claim7.holds Tryz.pinned (.plain (OpenSpec.upto packSpoiledSpec)) packSpoiledUptoCard

/-- THE SECOND FORM's CARD OF 'lithophanelaw16.PackKinds'. -/
def packKindsUptoCard : Claim7 := { stood := { row := packKindsUptoRow, standIns := [], harness := (true, "79adf4c75478215d6b8b670e2346d4729f7c4d2285a3ea5feae6a733015f179a"), looks := true }, kinds := [], alts := [], laidByText := true, laidKinds := [.data, .pinned], laidTests := true, laidLooks := .later }
def PackKindsUptoCardSaid : Prop := Claim7.holds Tryz.pinned (.plain (OpenSpec.upto packKindsSpec)) packKindsUptoCard

/-- THE SECOND FORM's CARD OF 'lithophanelaw16.PackKeeps'. -/
def packKeepsUptoCard : Claim7 := { stood := { row := packKeepsUptoRow, standIns := [], harness := (true, "79adf4c75478215d6b8b670e2346d4729f7c4d2285a3ea5feae6a733015f179a"), looks := true }, kinds := [], alts := [], laidByText := true, laidKinds := [.data, .pinned], laidTests := true, laidLooks := .later }
def PackKeepsUptoCardSaid : Prop := Claim7.holds Tryz.pinned (.plain (OpenSpec.upto packKeepsSpec)) packKeepsUptoCard
end Rows
end Go.Proofs.YtcikldoaidmnhaaGreatDoor
