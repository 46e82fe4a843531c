/-
  DERIVED. GIVEN WITH THE SEED: THE CARDS: each row of YtadfolnhomongaaDoorRows.lean that lists a variable, with what it lists TIED to the program's text (the seventh form; the later family's looks); each row that meets fmt, with fmt's text TOLD by the authors' own Lean function (tested against real Go, not proved from fmt's source: count such statements apart). THE CARD IS WHAT COUNTS. Prove the row's statement (the work); the ties are given (YtadfolnhomongaaDoorTie.lean); close each card by the builder's one call (the guide's Derived/Test/ToyasCard.lean, 'card_holds'). Laid BY PROGRAM, IN A SANDBOX (cutbox-door.mjs). By AI agents, Wed Nov 11 2026. No macro, syntax, notation, axiom, sorry.
-/
import Derived.Test.YtadfolnhomongaaDoorRows
import GoSem.ClaimSeven
namespace Go.Proofs.YtadfolnhomongaaDoor
namespace Rows

/-- THE TIED CARD OF 'lithophanelaw15.CoderEncodes'. -/
def coderEncodesCard : Claim7 := { stood := { row := coderEncodesRow, standIns := [], harness := (true, "c0644c8ee2c548135366c0b4aa37b6097162992b449de3d957634dda3591f42f"), looks := false }, kinds := [], alts := [], laidByText := true, laidKinds := [.data, .pinned], laidTests := true, laidLooks := .later }
def CoderEncodesCardSaid : Prop := Claim7.holds Tryd.pinned (.plain (OpenSpec.ofChange coderEncodesSpec)) coderEncodesCard

/-- THE TIED CARD OF 'lithophanelaw15.CoderBack'. -/
def coderBackCard : Claim7 := { stood := { row := coderBackRow, standIns := [], harness := (true, "c0644c8ee2c548135366c0b4aa37b6097162992b449de3d957634dda3591f42f"), looks := false }, kinds := [], alts := [], laidByText := true, laidKinds := [.data, .pinned], laidTests := true, laidLooks := .later }
def CoderBackCardSaid : Prop := Claim7.holds Tryd.pinned (.plain (OpenSpec.ofChange coderBackSpec)) coderBackCard

/-- THE TIED CARD OF 'lithophanelaw15.CoderDecodes'. -/
def coderDecodesCard : Claim7 := { stood := { row := coderDecodesRow, standIns := [], harness := (true, "c0644c8ee2c548135366c0b4aa37b6097162992b449de3d957634dda3591f42f"), looks := false }, kinds := [], alts := [], laidByText := true, laidKinds := [.data, .pinned], laidTests := true, laidLooks := .later }
def CoderDecodesCardSaid : Prop := Claim7.holds Tryd.pinned (.plain (OpenSpec.ofChange coderDecodesSpec)) coderDecodesCard

/-- THE TIED CARD OF 'lithophanelaw15.CoderRuns'. -/
def coderRunsCard : Claim7 := { stood := { row := coderRunsRow, standIns := [], harness := (true, "c0644c8ee2c548135366c0b4aa37b6097162992b449de3d957634dda3591f42f"), looks := false }, kinds := [], alts := [], laidByText := true, laidKinds := [.data, .pinned], laidTests := true, laidLooks := .later }
def CoderRunsCardSaid : Prop := Claim7.holds Tryd.pinned (.plain (OpenSpec.ofChange coderRunsSpec)) coderRunsCard

/-- THE TIED CARD OF 'lithophanelaw15.CoderContexts'. -/
def coderContextsCard : Claim7 := { stood := { row := coderContextsRow, standIns := [], harness := (true, "c0644c8ee2c548135366c0b4aa37b6097162992b449de3d957634dda3591f42f"), looks := false }, kinds := [], alts := [], laidByText := true, laidKinds := [.data, .pinned], laidTests := true, laidLooks := .later }
def CoderContextsCardSaid : Prop := Claim7.holds Tryd.pinned (.plain (OpenSpec.ofChange coderContextsSpec)) coderContextsCard

/-- THE TIED CARD OF 'lithophanelaw15.CoderFinish'. -/
def coderFinishCard : Claim7 := { stood := { row := coderFinishRow, standIns := [], harness := (true, "c0644c8ee2c548135366c0b4aa37b6097162992b449de3d957634dda3591f42f"), looks := false }, kinds := [], alts := [], laidByText := true, laidKinds := [.data, .pinned], laidTests := true, laidLooks := .later }
def CoderFinishCardSaid : Prop := Claim7.holds Tryd.pinned (.plain (OpenSpec.ofChange coderFinishSpec)) coderFinishCard

/-- THE TIED CARD OF 'lithophanelaw15.CoderApart'. -/
def coderApartCard : Claim7 := { stood := { row := coderApartRow, standIns := [], harness := (true, "c0644c8ee2c548135366c0b4aa37b6097162992b449de3d957634dda3591f42f"), looks := false }, kinds := [], alts := [], laidByText := true, laidKinds := [.data, .pinned], laidTests := true, laidLooks := .later }
def CoderApartCardSaid : Prop := Claim7.holds Tryd.pinned (.plain (OpenSpec.ofChange coderApartSpec)) coderApartCard

/-- THE TIED CARD OF 'lithophanelaw15.CoderShort'. -/
def coderShortCard : Claim7 := { stood := { row := coderShortRow, standIns := [], harness := (true, "c0644c8ee2c548135366c0b4aa37b6097162992b449de3d957634dda3591f42f"), looks := false }, kinds := [], alts := [], laidByText := true, laidKinds := [.data, .pinned], laidTests := true, laidLooks := .later }
def CoderShortCardSaid : Prop := Claim7.holds Tryd.pinned (.plain (OpenSpec.ofChange coderShortSpec)) coderShortCard

/-- THE TIED CARD OF 'lithophanelaw15.CoderNumbers'. -/
def coderNumbersCard : Claim7 := { stood := { row := coderNumbersRow, standIns := [], harness := (true, "c0644c8ee2c548135366c0b4aa37b6097162992b449de3d957634dda3591f42f"), looks := false }, kinds := [], alts := [], laidByText := true, laidKinds := [.data, .pinned], laidTests := true, laidLooks := .later }
def CoderNumbersCardSaid : Prop := Claim7.holds Tryd.pinned (.plain (OpenSpec.ofChange coderNumbersSpec)) coderNumbersCard

/-- THE TIED CARD OF 'lithophanelaw15.CoderItems'. -/
def coderItemsCard : Claim7 := { stood := { row := coderItemsRow, standIns := [], harness := (true, "c0644c8ee2c548135366c0b4aa37b6097162992b449de3d957634dda3591f42f"), looks := false }, kinds := [], alts := [], laidByText := true, laidKinds := [.data, .pinned], laidTests := true, laidLooks := .later }
def CoderItemsCardSaid : Prop := Claim7.holds Tryd.pinned (.plain (OpenSpec.ofChange coderItemsSpec)) coderItemsCard

/-- THE TIED CARD OF 'lithophanelaw15.CoderNil'. -/
def coderNilCard : Claim7 := { stood := { row := coderNilRow, standIns := [], harness := (true, "c0644c8ee2c548135366c0b4aa37b6097162992b449de3d957634dda3591f42f"), looks := false }, kinds := [], alts := [], laidByText := true, laidKinds := [.data, .pinned], laidTests := true, laidLooks := .later }
def CoderNilCardSaid : Prop := Claim7.holds Tryd.pinned (.plain (OpenSpec.ofChange coderNilSpec)) coderNilCard

/-- THE SECOND FORM's CARD OF 'lithophanelaw15.CoderEncodes'. -/
def coderEncodesUptoCard : Claim7 := { stood := { row := coderEncodesUptoRow, standIns := [], harness := (true, "c0644c8ee2c548135366c0b4aa37b6097162992b449de3d957634dda3591f42f"), looks := false }, kinds := [], alts := [], laidByText := true, laidKinds := [.data, .pinned], laidTests := true, laidLooks := .later }
def CoderEncodesUptoCardSaid : Prop := Claim7.holds Tryd.pinned (.plain (OpenSpec.upto coderEncodesSpec)) coderEncodesUptoCard

/-- THE SECOND FORM's CARD OF 'lithophanelaw15.CoderBack'. -/
def coderBackUptoCard : Claim7 := { stood := { row := coderBackUptoRow, standIns := [], harness := (true, "c0644c8ee2c548135366c0b4aa37b6097162992b449de3d957634dda3591f42f"), looks := false }, kinds := [], alts := [], laidByText := true, laidKinds := [.data, .pinned], laidTests := true, laidLooks := .later }
def CoderBackUptoCardSaid : Prop := Claim7.holds Tryd.pinned (.plain (OpenSpec.upto coderBackSpec)) coderBackUptoCard

/-- THE SECOND FORM's CARD OF 'lithophanelaw15.CoderDecodes'. -/
def coderDecodesUptoCard : Claim7 := { stood := { row := coderDecodesUptoRow, standIns := [], harness := (true, "c0644c8ee2c548135366c0b4aa37b6097162992b449de3d957634dda3591f42f"), looks := false }, kinds := [], alts := [], laidByText := true, laidKinds := [.data, .pinned], laidTests := true, laidLooks := .later }
def CoderDecodesUptoCardSaid : Prop := Claim7.holds Tryd.pinned (.plain (OpenSpec.upto coderDecodesSpec)) coderDecodesUptoCard

/-- THE SECOND FORM's CARD OF 'lithophanelaw15.CoderRuns'. -/
def coderRunsUptoCard : Claim7 := { stood := { row := coderRunsUptoRow, standIns := [], harness := (true, "c0644c8ee2c548135366c0b4aa37b6097162992b449de3d957634dda3591f42f"), looks := false }, kinds := [], alts := [], laidByText := true, laidKinds := [.data, .pinned], laidTests := true, laidLooks := .later }
def CoderRunsUptoCardSaid : Prop := Claim7.holds Tryd.pinned (.plain (OpenSpec.upto coderRunsSpec)) coderRunsUptoCard

/-- THE SECOND FORM's CARD OF 'lithophanelaw15.CoderContexts'. -/
def coderContextsUptoCard : Claim7 := { stood := { row := coderContextsUptoRow, standIns := [], harness := (true, "c0644c8ee2c548135366c0b4aa37b6097162992b449de3d957634dda3591f42f"), looks := false }, kinds := [], alts := [], laidByText := true, laidKinds := [.data, .pinned], laidTests := true, laidLooks := .later }
def CoderContextsUptoCardSaid : Prop := Claim7.holds Tryd.pinned (.plain (OpenSpec.upto coderContextsSpec)) coderContextsUptoCard

/-- THE SECOND FORM's CARD OF 'lithophanelaw15.CoderFinish'. -/
def coderFinishUptoCard : Claim7 := { stood := { row := coderFinishUptoRow, standIns := [], harness := (true, "c0644c8ee2c548135366c0b4aa37b6097162992b449de3d957634dda3591f42f"), looks := false }, kinds := [], alts := [], laidByText := true, laidKinds := [.data, .pinned], laidTests := true, laidLooks := .later }
def CoderFinishUptoCardSaid : Prop := Claim7.holds Tryd.pinned (.plain (OpenSpec.upto coderFinishSpec)) coderFinishUptoCard

/-- THE SECOND FORM's CARD OF 'lithophanelaw15.CoderApart'. -/
def coderApartUptoCard : Claim7 := { stood := { row := coderApartUptoRow, standIns := [], harness := (true, "c0644c8ee2c548135366c0b4aa37b6097162992b449de3d957634dda3591f42f"), looks := false }, kinds := [], alts := [], laidByText := true, laidKinds := [.data, .pinned], laidTests := true, laidLooks := .later }
def CoderApartUptoCardSaid : Prop := Claim7.holds Tryd.pinned (.plain (OpenSpec.upto coderApartSpec)) coderApartUptoCard

/-- THE SECOND FORM's CARD OF 'lithophanelaw15.CoderShort'. -/
def coderShortUptoCard : Claim7 := { stood := { row := coderShortUptoRow, standIns := [], harness := (true, "c0644c8ee2c548135366c0b4aa37b6097162992b449de3d957634dda3591f42f"), looks := false }, kinds := [], alts := [], laidByText := true, laidKinds := [.data, .pinned], laidTests := true, laidLooks := .later }
def CoderShortUptoCardSaid : Prop := Claim7.holds Tryd.pinned (.plain (OpenSpec.upto coderShortSpec)) coderShortUptoCard

/-- THE SECOND FORM's CARD OF 'lithophanelaw15.CoderNumbers'. -/
def coderNumbersUptoCard : Claim7 := { stood := { row := coderNumbersUptoRow, standIns := [], harness := (true, "c0644c8ee2c548135366c0b4aa37b6097162992b449de3d957634dda3591f42f"), looks := false }, kinds := [], alts := [], laidByText := true, laidKinds := [.data, .pinned], laidTests := true, laidLooks := .later }
def CoderNumbersUptoCardSaid : Prop := Claim7.holds Tryd.pinned (.plain (OpenSpec.upto coderNumbersSpec)) coderNumbersUptoCard

/-- THE SECOND FORM's CARD OF 'lithophanelaw15.CoderItems'. -/
def coderItemsUptoCard : Claim7 := { stood := { row := coderItemsUptoRow, standIns := [], harness := (true, "c0644c8ee2c548135366c0b4aa37b6097162992b449de3d957634dda3591f42f"), looks := false }, kinds := [], alts := [], laidByText := true, laidKinds := [.data, .pinned], laidTests := true, laidLooks := .later }
def CoderItemsUptoCardSaid : Prop := Claim7.holds Tryd.pinned (.plain (OpenSpec.upto coderItemsSpec)) coderItemsUptoCard

/-- THE SECOND FORM's CARD OF 'lithophanelaw15.CoderNil'. -/
def coderNilUptoCard : Claim7 := { stood := { row := coderNilUptoRow, standIns := [], harness := (true, "c0644c8ee2c548135366c0b4aa37b6097162992b449de3d957634dda3591f42f"), looks := false }, kinds := [], alts := [], laidByText := true, laidKinds := [.data, .pinned], laidTests := true, laidLooks := .later }
def CoderNilUptoCardSaid : Prop := Claim7.holds Tryd.pinned (.plain (OpenSpec.upto coderNilSpec)) coderNilUptoCard
end Rows
end Go.Proofs.YtadfolnhomongaaDoor
