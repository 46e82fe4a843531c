/-
  NARROWER THAN 'FOR EVERY INPUT', by the rows' own cells (each row's printed sentence says how): PackClusters: laid · PackBack: laid · PackOpens: laid · PackShuffled: laid · PackRoots: laid · PackLimits: laid · PackFaces: laid · PackGroups: laid · PackSpoiled: laid · PackKinds: laid · PackKeeps: laid.
  DERIVED. THE GIVEN ROWS OF THIS SEAT. 11 by the template 'for every input the law returns true; each argument reads behind the call as it read before'; 0 by the template 'total and deterministic' (their statements: YtcikldoaidmnhaaGreatDoorTotals.lean).
  GIVEN WITH THE SEED: the statements are not yours to turn. If you find one false, say at which input.
  Laid BY PROGRAM, IN A SANDBOX (cutbox-rows.mjs): the forced cells as the released guide's own fill.sh prints them over the translation 11bb4e47d83d63f4… (all of the seat's roots in one cut). By AI agents, Wed Nov 11 2026. No macro, syntax, notation, axiom, sorry.
-/
import Derived.Test.YtcikldoaidmnhaaGreatDoorChecked
import GoSem.PinnedTables
import GoSem.Claim
import GoSem.ClaimJoined
import GoSem.ClaimMapViews
import Derived.JoinedTies
import Derived.KernelRfl
namespace Go.Proofs.YtcikldoaidmnhaaGreatDoor
/- THE CELL 'sum', in the pinned program and in every row, IS THE sha256 OF THE DUMP (.gsa) THAT YtcikldoaidmnhaaGreatDoorProg.lean LOADS. Nothing in Lean hashes anything: it is a label: what it is worth is what the hold of that sum in a sandbox is worth. -/
noncomputable def Tryz.pinned : Pinned := { name := "ytcikldoaidmnhaagreatdoor", sum := "11bb4e47d83d63f42a8208f13f235209fb3c44124450ddea841f50290277054c", checked := Tryz.checked }
namespace Rows
def none {H : Type} : Left H := { results := [], args := [] }

/- WHAT THE LISTED PACKAGE-LEVEL VARIABLES READ AS WHEN THE CALL BEGINS. Each datum BY PROGRAM (the guide's laid-datum.mjs) off the statement by which the dump's own 'gosem.cut.vars' lays the variable. In a bare row this is a premise. The card (YtcikldoaidmnhaaGreatDoorCards.lean) ties it to the program's text. -/
def laid_unicode_utf8_acceptRanges {H : Type} : DataW H := .agg [.agg [.lit (.int .u8 128), .lit (.int .u8 191)], .agg [.lit (.int .u8 160), .lit (.int .u8 191)], .agg [.lit (.int .u8 128), .lit (.int .u8 159)], .agg [.lit (.int .u8 144), .lit (.int .u8 191)], .agg [.lit (.int .u8 128), .lit (.int .u8 143)], .agg [.lit (.int .u8 0), .lit (.int .u8 0)], .agg [.lit (.int .u8 0), .lit (.int .u8 0)], .agg [.lit (.int .u8 0), .lit (.int .u8 0)], .agg [.lit (.int .u8 0), .lit (.int .u8 0)], .agg [.lit (.int .u8 0), .lit (.int .u8 0)], .agg [.lit (.int .u8 0), .lit (.int .u8 0)], .agg [.lit (.int .u8 0), .lit (.int .u8 0)], .agg [.lit (.int .u8 0), .lit (.int .u8 0)], .agg [.lit (.int .u8 0), .lit (.int .u8 0)], .agg [.lit (.int .u8 0), .lit (.int .u8 0)], .agg [.lit (.int .u8 0), .lit (.int .u8 0)]]
/-- One of Go's own tables, pinned by name: the form's constant. -/
def laid_unicode_utf8_first : DataW Unit := Go.Pinned.utf8First

/-- 'lithophanelaw16.PackClusters': WHATEVER THE INPUT: true; the input reads as it did. -/
def packClustersSpec : ChangeSpec := { name := "packClusters", fn := fun _ => fun
  | [d] => { results := [.lit (.bool true)], args := [d] }
  | _ => none }
def packClustersRow : OpenClaim := { program := "ytcikldoaidmnhaagreatdoor", sum := "11bb4e47d83d63f42a8208f13f235209fb3c44124450ddea841f50290277054c", func := "lithophane/lithophanelaw16.PackClusters", spec := "packClusters", inPlace := ["internal/bytealg.IndexByteString", "internal/bytealg.IndexString"], unfollowed := true, recurses := true, named := ["unicode/utf8.first", "unicode/utf8.acceptRanges", "internal/bytealg.MaxLen"], plainKeys := false, apart := false, laid := [("unicode/utf8.acceptRanges", laid_unicode_utf8_acceptRanges), ("unicode/utf8.first", laid_unicode_utf8_first)] }
def PackClustersSaid : Prop := packClustersRow.holds Tryz.pinned (OpenSpec.ofChange packClustersSpec)

/-- ITS FALSE NEIGHBOUR: 'it returns false'. Refute it at one input. -/
def packClustersWrong : ChangeSpec := { name := "packClusters", fn := fun _ => fun
  | [d] => { results := [.lit (.bool false)], args := [d] }
  | _ => none }
def PackClustersWrongFalsely : Prop := packClustersRow.holds Tryz.pinned (OpenSpec.ofChange packClustersWrong)

/-- 'lithophanelaw16.PackBack': WHATEVER THE INPUT: true; the input reads as it did. -/
def packBackSpec : ChangeSpec := { name := "packBack", fn := fun _ => fun
  | [d] => { results := [.lit (.bool true)], args := [d] }
  | _ => none }
def packBackRow : OpenClaim := { program := "ytcikldoaidmnhaagreatdoor", sum := "11bb4e47d83d63f42a8208f13f235209fb3c44124450ddea841f50290277054c", func := "lithophane/lithophanelaw16.PackBack", spec := "packBack", inPlace := ["internal/bytealg.IndexByteString", "internal/bytealg.IndexString"], unfollowed := true, recurses := true, named := ["unicode/utf8.first", "unicode/utf8.acceptRanges", "internal/bytealg.MaxLen"], plainKeys := false, apart := false, laid := [("unicode/utf8.acceptRanges", laid_unicode_utf8_acceptRanges), ("unicode/utf8.first", laid_unicode_utf8_first)] }
def PackBackSaid : Prop := packBackRow.holds Tryz.pinned (OpenSpec.ofChange packBackSpec)

/-- ITS FALSE NEIGHBOUR: 'it returns false'. Refute it at one input. -/
def packBackWrong : ChangeSpec := { name := "packBack", fn := fun _ => fun
  | [d] => { results := [.lit (.bool false)], args := [d] }
  | _ => none }
def PackBackWrongFalsely : Prop := packBackRow.holds Tryz.pinned (OpenSpec.ofChange packBackWrong)

/-- 'lithophanelaw16.PackOpens': WHATEVER THE INPUT: true; the input reads as it did. -/
def packOpensSpec : ChangeSpec := { name := "packOpens", fn := fun _ => fun
  | [d1, d2, d3] => { results := [.lit (.bool true)], args := [d1, d2, d3] }
  | _ => none }
def packOpensRow : OpenClaim := { program := "ytcikldoaidmnhaagreatdoor", sum := "11bb4e47d83d63f42a8208f13f235209fb3c44124450ddea841f50290277054c", func := "lithophane/lithophanelaw16.PackOpens", spec := "packOpens", inPlace := ["internal/bytealg.IndexByteString", "internal/bytealg.IndexString"], unfollowed := true, recurses := true, named := ["unicode/utf8.first", "unicode/utf8.acceptRanges", "internal/bytealg.MaxLen"], plainKeys := false, apart := false, laid := [("unicode/utf8.acceptRanges", laid_unicode_utf8_acceptRanges), ("unicode/utf8.first", laid_unicode_utf8_first)] }
def PackOpensSaid : Prop := packOpensRow.holds Tryz.pinned (OpenSpec.ofChange packOpensSpec)

/-- ITS FALSE NEIGHBOUR: 'it returns false'. Refute it at one input. -/
def packOpensWrong : ChangeSpec := { name := "packOpens", fn := fun _ => fun
  | [d1, d2, d3] => { results := [.lit (.bool false)], args := [d1, d2, d3] }
  | _ => none }
def PackOpensWrongFalsely : Prop := packOpensRow.holds Tryz.pinned (OpenSpec.ofChange packOpensWrong)

/-- 'lithophanelaw16.PackShuffled': WHATEVER THE INPUT: true; the input reads as it did. -/
def packShuffledSpec : ChangeSpec := { name := "packShuffled", fn := fun _ => fun
  | [d1, d2] => { results := [.lit (.bool true)], args := [d1, d2] }
  | _ => none }
def packShuffledRow : OpenClaim := { program := "ytcikldoaidmnhaagreatdoor", sum := "11bb4e47d83d63f42a8208f13f235209fb3c44124450ddea841f50290277054c", func := "lithophane/lithophanelaw16.PackShuffled", spec := "packShuffled", inPlace := ["internal/bytealg.IndexByteString", "internal/bytealg.IndexString"], unfollowed := true, recurses := true, named := ["unicode/utf8.first", "unicode/utf8.acceptRanges", "internal/bytealg.MaxLen"], plainKeys := false, apart := false, laid := [("unicode/utf8.acceptRanges", laid_unicode_utf8_acceptRanges), ("unicode/utf8.first", laid_unicode_utf8_first)] }
def PackShuffledSaid : Prop := packShuffledRow.holds Tryz.pinned (OpenSpec.ofChange packShuffledSpec)

/-- ITS FALSE NEIGHBOUR: 'it returns false'. Refute it at one input. -/
def packShuffledWrong : ChangeSpec := { name := "packShuffled", fn := fun _ => fun
  | [d1, d2] => { results := [.lit (.bool false)], args := [d1, d2] }
  | _ => none }
def PackShuffledWrongFalsely : Prop := packShuffledRow.holds Tryz.pinned (OpenSpec.ofChange packShuffledWrong)

/-- 'lithophanelaw16.PackRoots': WHATEVER THE INPUT: true; the input reads as it did. -/
def packRootsSpec : ChangeSpec := { name := "packRoots", fn := fun _ => fun
  | [d] => { results := [.lit (.bool true)], args := [d] }
  | _ => none }
def packRootsRow : OpenClaim := { program := "ytcikldoaidmnhaagreatdoor", sum := "11bb4e47d83d63f42a8208f13f235209fb3c44124450ddea841f50290277054c", func := "lithophane/lithophanelaw16.PackRoots", spec := "packRoots", inPlace := ["internal/bytealg.IndexByteString", "internal/bytealg.IndexString"], unfollowed := true, recurses := true, named := ["unicode/utf8.first", "unicode/utf8.acceptRanges", "internal/bytealg.MaxLen"], plainKeys := false, apart := false, laid := [("unicode/utf8.acceptRanges", laid_unicode_utf8_acceptRanges), ("unicode/utf8.first", laid_unicode_utf8_first)] }
def PackRootsSaid : Prop := packRootsRow.holds Tryz.pinned (OpenSpec.ofChange packRootsSpec)

/-- ITS FALSE NEIGHBOUR: 'it returns false'. Refute it at one input. -/
def packRootsWrong : ChangeSpec := { name := "packRoots", fn := fun _ => fun
  | [d] => { results := [.lit (.bool false)], args := [d] }
  | _ => none }
def PackRootsWrongFalsely : Prop := packRootsRow.holds Tryz.pinned (OpenSpec.ofChange packRootsWrong)

/-- 'lithophanelaw16.PackLimits': WHATEVER THE INPUT: true; the input reads as it did. -/
def packLimitsSpec : ChangeSpec := { name := "packLimits", fn := fun _ => fun
  | [d1, d2] => { results := [.lit (.bool true)], args := [d1, d2] }
  | _ => none }
def packLimitsRow : OpenClaim := { program := "ytcikldoaidmnhaagreatdoor", sum := "11bb4e47d83d63f42a8208f13f235209fb3c44124450ddea841f50290277054c", func := "lithophane/lithophanelaw16.PackLimits", spec := "packLimits", inPlace := ["internal/bytealg.IndexByteString", "internal/bytealg.IndexString"], unfollowed := true, recurses := true, named := ["unicode/utf8.first", "unicode/utf8.acceptRanges", "internal/bytealg.MaxLen"], plainKeys := false, apart := false, laid := [("unicode/utf8.acceptRanges", laid_unicode_utf8_acceptRanges), ("unicode/utf8.first", laid_unicode_utf8_first)] }
def PackLimitsSaid : Prop := packLimitsRow.holds Tryz.pinned (OpenSpec.ofChange packLimitsSpec)

/-- ITS FALSE NEIGHBOUR: 'it returns false'. Refute it at one input. -/
def packLimitsWrong : ChangeSpec := { name := "packLimits", fn := fun _ => fun
  | [d1, d2] => { results := [.lit (.bool false)], args := [d1, d2] }
  | _ => none }
def PackLimitsWrongFalsely : Prop := packLimitsRow.holds Tryz.pinned (OpenSpec.ofChange packLimitsWrong)

/-- 'lithophanelaw16.PackFaces': WHATEVER THE INPUT: true; the input reads as it did. -/
def packFacesSpec : ChangeSpec := { name := "packFaces", fn := fun _ => fun
  | [d1, d2] => { results := [.lit (.bool true)], args := [d1, d2] }
  | _ => none }
def packFacesRow : OpenClaim := { program := "ytcikldoaidmnhaagreatdoor", sum := "11bb4e47d83d63f42a8208f13f235209fb3c44124450ddea841f50290277054c", func := "lithophane/lithophanelaw16.PackFaces", spec := "packFaces", inPlace := ["internal/bytealg.IndexByteString", "internal/bytealg.IndexString"], unfollowed := true, recurses := true, named := ["unicode/utf8.first", "unicode/utf8.acceptRanges", "internal/bytealg.MaxLen"], plainKeys := false, apart := false, laid := [("unicode/utf8.acceptRanges", laid_unicode_utf8_acceptRanges), ("unicode/utf8.first", laid_unicode_utf8_first)] }
def PackFacesSaid : Prop := packFacesRow.holds Tryz.pinned (OpenSpec.ofChange packFacesSpec)

/-- ITS FALSE NEIGHBOUR: 'it returns false'. Refute it at one input. -/
def packFacesWrong : ChangeSpec := { name := "packFaces", fn := fun _ => fun
  | [d1, d2] => { results := [.lit (.bool false)], args := [d1, d2] }
  | _ => none }
def PackFacesWrongFalsely : Prop := packFacesRow.holds Tryz.pinned (OpenSpec.ofChange packFacesWrong)

/-- 'lithophanelaw16.PackGroups': WHATEVER THE INPUT: true; the input reads as it did. -/
def packGroupsSpec : ChangeSpec := { name := "packGroups", fn := fun _ => fun
  | [d] => { results := [.lit (.bool true)], args := [d] }
  | _ => none }
def packGroupsRow : OpenClaim := { program := "ytcikldoaidmnhaagreatdoor", sum := "11bb4e47d83d63f42a8208f13f235209fb3c44124450ddea841f50290277054c", func := "lithophane/lithophanelaw16.PackGroups", spec := "packGroups", inPlace := ["internal/bytealg.IndexByteString", "internal/bytealg.IndexString"], unfollowed := true, recurses := true, named := ["unicode/utf8.first", "unicode/utf8.acceptRanges", "internal/bytealg.MaxLen"], plainKeys := false, apart := false, laid := [("unicode/utf8.acceptRanges", laid_unicode_utf8_acceptRanges), ("unicode/utf8.first", laid_unicode_utf8_first)] }
def PackGroupsSaid : Prop := packGroupsRow.holds Tryz.pinned (OpenSpec.ofChange packGroupsSpec)

/-- ITS FALSE NEIGHBOUR: 'it returns false'. Refute it at one input. -/
def packGroupsWrong : ChangeSpec := { name := "packGroups", fn := fun _ => fun
  | [d] => { results := [.lit (.bool false)], args := [d] }
  | _ => none }
def PackGroupsWrongFalsely : Prop := packGroupsRow.holds Tryz.pinned (OpenSpec.ofChange packGroupsWrong)

/-- 'lithophanelaw16.PackSpoiled': WHATEVER THE INPUT: true; the input reads as it did. -/
def packSpoiledSpec : ChangeSpec := { name := "packSpoiled", fn := fun _ => fun
  | [d1, d2, d3] => { results := [.lit (.bool true)], args := [d1, d2, d3] }
  | _ => none }
def packSpoiledRow : OpenClaim := { program := "ytcikldoaidmnhaagreatdoor", sum := "11bb4e47d83d63f42a8208f13f235209fb3c44124450ddea841f50290277054c", func := "lithophane/lithophanelaw16.PackSpoiled", spec := "packSpoiled", inPlace := ["internal/bytealg.IndexByteString", "internal/bytealg.IndexString"], unfollowed := true, recurses := true, named := ["unicode/utf8.first", "unicode/utf8.acceptRanges", "internal/bytealg.MaxLen"], plainKeys := false, apart := false, laid := [("unicode/utf8.acceptRanges", laid_unicode_utf8_acceptRanges), ("unicode/utf8.first", laid_unicode_utf8_first)] }
def PackSpoiledSaid : Prop := packSpoiledRow.holds Tryz.pinned (OpenSpec.ofChange packSpoiledSpec)

/-- ITS FALSE NEIGHBOUR: 'it returns false'. Refute it at one input. -/
def packSpoiledWrong : ChangeSpec := { name := "packSpoiled", fn := fun _ => fun
  | [d1, d2, d3] => { results := [.lit (.bool false)], args := [d1, d2, d3] }
  | _ => none }
def PackSpoiledWrongFalsely : Prop := packSpoiledRow.holds Tryz.pinned (OpenSpec.ofChange packSpoiledWrong)

/-- 'lithophanelaw16.PackKinds': WHATEVER THE INPUT: true; the input reads as it did. -/
def packKindsSpec : ChangeSpec := { name := "packKinds", fn := fun _ => fun
  | [d1, d2, d3] => { results := [.lit (.bool true)], args := [d1, d2, d3] }
  | _ => none }
def packKindsRow : OpenClaim := { program := "ytcikldoaidmnhaagreatdoor", sum := "11bb4e47d83d63f42a8208f13f235209fb3c44124450ddea841f50290277054c", func := "lithophane/lithophanelaw16.PackKinds", spec := "packKinds", inPlace := ["internal/bytealg.IndexByteString", "internal/bytealg.IndexString"], unfollowed := true, recurses := true, named := ["unicode/utf8.first", "unicode/utf8.acceptRanges", "internal/bytealg.MaxLen"], plainKeys := false, apart := false, laid := [("unicode/utf8.acceptRanges", laid_unicode_utf8_acceptRanges), ("unicode/utf8.first", laid_unicode_utf8_first)] }
def PackKindsSaid : Prop := packKindsRow.holds Tryz.pinned (OpenSpec.ofChange packKindsSpec)

/-- ITS FALSE NEIGHBOUR: 'it returns false'. Refute it at one input. -/
def packKindsWrong : ChangeSpec := { name := "packKinds", fn := fun _ => fun
  | [d1, d2, d3] => { results := [.lit (.bool false)], args := [d1, d2, d3] }
  | _ => none }
def PackKindsWrongFalsely : Prop := packKindsRow.holds Tryz.pinned (OpenSpec.ofChange packKindsWrong)

/-- 'lithophanelaw16.PackKeeps': WHATEVER THE INPUT: true; the input reads as it did. -/
def packKeepsSpec : ChangeSpec := { name := "packKeeps", fn := fun _ => fun
  | [d1, d2] => { results := [.lit (.bool true)], args := [d1, d2] }
  | _ => none }
def packKeepsRow : OpenClaim := { program := "ytcikldoaidmnhaagreatdoor", sum := "11bb4e47d83d63f42a8208f13f235209fb3c44124450ddea841f50290277054c", func := "lithophane/lithophanelaw16.PackKeeps", spec := "packKeeps", inPlace := ["internal/bytealg.IndexByteString", "internal/bytealg.IndexString"], unfollowed := true, recurses := true, named := ["unicode/utf8.first", "unicode/utf8.acceptRanges", "internal/bytealg.MaxLen"], plainKeys := false, apart := false, laid := [("unicode/utf8.acceptRanges", laid_unicode_utf8_acceptRanges), ("unicode/utf8.first", laid_unicode_utf8_first)] }
def PackKeepsSaid : Prop := packKeepsRow.holds Tryz.pinned (OpenSpec.ofChange packKeepsSpec)

/-- ITS FALSE NEIGHBOUR: 'it returns false'. Refute it at one input. -/
def packKeepsWrong : ChangeSpec := { name := "packKeeps", fn := fun _ => fun
  | [d1, d2] => { results := [.lit (.bool false)], args := [d1, d2] }
  | _ => none }
def PackKeepsWrongFalsely : Prop := packKeepsRow.holds Tryz.pinned (OpenSpec.ofChange packKeepsWrong)

/- THE SECOND FORM. 'bulk': how many values and letters a reading holds, each counted each time it is reached (what is shared counts as often as it is met; a slice's spare places count too). A statement '..UptoSaid' is the law's where the arguments, and the package variables that the reading takes, are together of bulk at most 1048576: NARROWER than '..Said'. Prove '..Said' where nothing that the law and all that it calls make is longer than what came in: it says more and counts as full. Else prove '..UptoSaid'. A law counts once. -/
mutual
def uptoBulk {H : Type} : DataW H → Nat
  | .lit (.string bytes) => bytes.length + 1
  | .lit _ => 1
  | .nil => 1
  | .ptr d => uptoBulk d + 1
  | .slice elems spare => uptoBulkAll elems + uptoBulkAll spare + 1
  | .agg parts => uptoBulkAll parts + 1
  | .iface _ d => uptoBulk d + 1
  | .map entries => uptoBulkEntries entries + 1
  | .held _ => 1
def uptoBulkAll {H : Type} : List (DataW H) → Nat
  | [] => 0
  | d :: r => uptoBulk d + uptoBulkAll r
def uptoBulkEntries {H : Type} : List (Lit × DataW H) → Nat
  | [] => 0
  | x :: r => uptoBulkEntry x + uptoBulkEntries r
def uptoBulkEntry {H : Type} : Lit × DataW H → Nat
  | (.string bytes, d) => bytes.length + uptoBulk d + 1
  | (_, d) => uptoBulk d + 1
 end
def uptoSmall : (H : Type) → List (DataW H) → Bool := fun _ ds => decide (uptoBulkAll ds ≤ 1048576)
def OpenSpec.upto (s : _root_.Go.ChangeSpec) : _root_.Go.OpenSpec := { _root_.Go.OpenSpec.ofChange s with cond := some uptoSmall }

/-- 'lithophanelaw16.PackClusters', WHERE WHAT IT READS IS OF BULK AT MOST 1048576: true; the input reads as it did. -/
def packClustersUptoRow : OpenClaim := { program := "ytcikldoaidmnhaagreatdoor", sum := "11bb4e47d83d63f42a8208f13f235209fb3c44124450ddea841f50290277054c", func := "lithophane/lithophanelaw16.PackClusters", spec := "packClusters", inPlace := ["internal/bytealg.IndexByteString", "internal/bytealg.IndexString"], unfollowed := true, recurses := true, named := ["unicode/utf8.first", "unicode/utf8.acceptRanges", "internal/bytealg.MaxLen"], plainKeys := false, apart := false, laid := [("unicode/utf8.acceptRanges", laid_unicode_utf8_acceptRanges), ("unicode/utf8.first", laid_unicode_utf8_first)], narrowed := true }
def PackClustersUptoSaid : Prop := packClustersUptoRow.holds Tryz.pinned (OpenSpec.upto packClustersSpec)

/-- 'lithophanelaw16.PackBack', WHERE WHAT IT READS IS OF BULK AT MOST 1048576: true; the input reads as it did. -/
def packBackUptoRow : OpenClaim := { program := "ytcikldoaidmnhaagreatdoor", sum := "11bb4e47d83d63f42a8208f13f235209fb3c44124450ddea841f50290277054c", func := "lithophane/lithophanelaw16.PackBack", spec := "packBack", inPlace := ["internal/bytealg.IndexByteString", "internal/bytealg.IndexString"], unfollowed := true, recurses := true, named := ["unicode/utf8.first", "unicode/utf8.acceptRanges", "internal/bytealg.MaxLen"], plainKeys := false, apart := false, laid := [("unicode/utf8.acceptRanges", laid_unicode_utf8_acceptRanges), ("unicode/utf8.first", laid_unicode_utf8_first)], narrowed := true }
def PackBackUptoSaid : Prop := packBackUptoRow.holds Tryz.pinned (OpenSpec.upto packBackSpec)

/-- 'lithophanelaw16.PackOpens', WHERE WHAT IT READS IS OF BULK AT MOST 1048576: true; the input reads as it did. -/
def packOpensUptoRow : OpenClaim := { program := "ytcikldoaidmnhaagreatdoor", sum := "11bb4e47d83d63f42a8208f13f235209fb3c44124450ddea841f50290277054c", func := "lithophane/lithophanelaw16.PackOpens", spec := "packOpens", inPlace := ["internal/bytealg.IndexByteString", "internal/bytealg.IndexString"], unfollowed := true, recurses := true, named := ["unicode/utf8.first", "unicode/utf8.acceptRanges", "internal/bytealg.MaxLen"], plainKeys := false, apart := false, laid := [("unicode/utf8.acceptRanges", laid_unicode_utf8_acceptRanges), ("unicode/utf8.first", laid_unicode_utf8_first)], narrowed := true }
def PackOpensUptoSaid : Prop := packOpensUptoRow.holds Tryz.pinned (OpenSpec.upto packOpensSpec)

/-- 'lithophanelaw16.PackShuffled', WHERE WHAT IT READS IS OF BULK AT MOST 1048576: true; the input reads as it did. -/
def packShuffledUptoRow : OpenClaim := { program := "ytcikldoaidmnhaagreatdoor", sum := "11bb4e47d83d63f42a8208f13f235209fb3c44124450ddea841f50290277054c", func := "lithophane/lithophanelaw16.PackShuffled", spec := "packShuffled", inPlace := ["internal/bytealg.IndexByteString", "internal/bytealg.IndexString"], unfollowed := true, recurses := true, named := ["unicode/utf8.first", "unicode/utf8.acceptRanges", "internal/bytealg.MaxLen"], plainKeys := false, apart := false, laid := [("unicode/utf8.acceptRanges", laid_unicode_utf8_acceptRanges), ("unicode/utf8.first", laid_unicode_utf8_first)], narrowed := true }
def PackShuffledUptoSaid : Prop := packShuffledUptoRow.holds Tryz.pinned (OpenSpec.upto packShuffledSpec)

/-- 'lithophanelaw16.PackRoots', WHERE WHAT IT READS IS OF BULK AT MOST 1048576: true; the input reads as it did. -/
def packRootsUptoRow : OpenClaim := { program := "ytcikldoaidmnhaagreatdoor", sum := "11bb4e47d83d63f42a8208f13f235209fb3c44124450ddea841f50290277054c", func := "lithophane/lithophanelaw16.PackRoots", spec := "packRoots", inPlace := ["internal/bytealg.IndexByteString", "internal/bytealg.IndexString"], unfollowed := true, recurses := true, named := ["unicode/utf8.first", "unicode/utf8.acceptRanges", "internal/bytealg.MaxLen"], plainKeys := false, apart := false, laid := [("unicode/utf8.acceptRanges", laid_unicode_utf8_acceptRanges), ("unicode/utf8.first", laid_unicode_utf8_first)], narrowed := true }
def PackRootsUptoSaid : Prop := packRootsUptoRow.holds Tryz.pinned (OpenSpec.upto packRootsSpec)

/-- 'lithophanelaw16.PackLimits', WHERE WHAT IT READS IS OF BULK AT MOST 1048576: true; the input reads as it did. -/
def packLimitsUptoRow : OpenClaim := { program := "ytcikldoaidmnhaagreatdoor", sum := "11bb4e47d83d63f42a8208f13f235209fb3c44124450ddea841f50290277054c", func := "lithophane/lithophanelaw16.PackLimits", spec := "packLimits", inPlace := ["internal/bytealg.IndexByteString", "internal/bytealg.IndexString"], unfollowed := true, recurses := true, named := ["unicode/utf8.first", "unicode/utf8.acceptRanges", "internal/bytealg.MaxLen"], plainKeys := false, apart := false, laid := [("unicode/utf8.acceptRanges", laid_unicode_utf8_acceptRanges), ("unicode/utf8.first", laid_unicode_utf8_first)], narrowed := true }
def PackLimitsUptoSaid : Prop := packLimitsUptoRow.holds Tryz.pinned (OpenSpec.upto packLimitsSpec)

/-- 'lithophanelaw16.PackFaces', WHERE WHAT IT READS IS OF BULK AT MOST 1048576: true; the input reads as it did. -/
def packFacesUptoRow : OpenClaim := { program := "ytcikldoaidmnhaagreatdoor", sum := "11bb4e47d83d63f42a8208f13f235209fb3c44124450ddea841f50290277054c", func := "lithophane/lithophanelaw16.PackFaces", spec := "packFaces", inPlace := ["internal/bytealg.IndexByteString", "internal/bytealg.IndexString"], unfollowed := true, recurses := true, named := ["unicode/utf8.first", "unicode/utf8.acceptRanges", "internal/bytealg.MaxLen"], plainKeys := false, apart := false, laid := [("unicode/utf8.acceptRanges", laid_unicode_utf8_acceptRanges), ("unicode/utf8.first", laid_unicode_utf8_first)], narrowed := true }
def PackFacesUptoSaid : Prop := packFacesUptoRow.holds Tryz.pinned (OpenSpec.upto packFacesSpec)

/-- 'lithophanelaw16.PackGroups', WHERE WHAT IT READS IS OF BULK AT MOST 1048576: true; the input reads as it did. -/
def packGroupsUptoRow : OpenClaim := { program := "ytcikldoaidmnhaagreatdoor", sum := "11bb4e47d83d63f42a8208f13f235209fb3c44124450ddea841f50290277054c", func := "lithophane/lithophanelaw16.PackGroups", spec := "packGroups", inPlace := ["internal/bytealg.IndexByteString", "internal/bytealg.IndexString"], unfollowed := true, recurses := true, named := ["unicode/utf8.first", "unicode/utf8.acceptRanges", "internal/bytealg.MaxLen"], plainKeys := false, apart := false, laid := [("unicode/utf8.acceptRanges", laid_unicode_utf8_acceptRanges), ("unicode/utf8.first", laid_unicode_utf8_first)], narrowed := true }
def PackGroupsUptoSaid : Prop := packGroupsUptoRow.holds Tryz.pinned (OpenSpec.upto packGroupsSpec)

/-- 'lithophanelaw16.PackSpoiled', WHERE WHAT IT READS IS OF BULK AT MOST 1048576: true; the input reads as it did. -/
def packSpoiledUptoRow : OpenClaim := { program := "ytcikldoaidmnhaagreatdoor", sum := "11bb4e47d83d63f42a8208f13f235209fb3c44124450ddea841f50290277054c", func := "lithophane/lithophanelaw16.PackSpoiled", spec := "packSpoiled", inPlace := ["internal/bytealg.IndexByteString", "internal/bytealg.IndexString"], unfollowed := true, recurses := true, named := ["unicode/utf8.first", "unicode/utf8.acceptRanges", "internal/bytealg.MaxLen"], plainKeys := false, apart := false, laid := [("unicode/utf8.acceptRanges", laid_unicode_utf8_acceptRanges), ("unicode/utf8.first", laid_unicode_utf8_first)], narrowed := true }
def PackSpoiledUptoSaid : Prop := packSpoiledUptoRow.holds Tryz.pinned (OpenSpec.upto packSpoiledSpec)

/-- 'lithophanelaw16.PackKinds', WHERE WHAT IT READS IS OF BULK AT MOST 1048576: true; the input reads as it did. -/
def packKindsUptoRow : OpenClaim := { program := "ytcikldoaidmnhaagreatdoor", sum := "11bb4e47d83d63f42a8208f13f235209fb3c44124450ddea841f50290277054c", func := "lithophane/lithophanelaw16.PackKinds", spec := "packKinds", inPlace := ["internal/bytealg.IndexByteString", "internal/bytealg.IndexString"], unfollowed := true, recurses := true, named := ["unicode/utf8.first", "unicode/utf8.acceptRanges", "internal/bytealg.MaxLen"], plainKeys := false, apart := false, laid := [("unicode/utf8.acceptRanges", laid_unicode_utf8_acceptRanges), ("unicode/utf8.first", laid_unicode_utf8_first)], narrowed := true }
def PackKindsUptoSaid : Prop := packKindsUptoRow.holds Tryz.pinned (OpenSpec.upto packKindsSpec)

/-- 'lithophanelaw16.PackKeeps', WHERE WHAT IT READS IS OF BULK AT MOST 1048576: true; the input reads as it did. -/
def packKeepsUptoRow : OpenClaim := { program := "ytcikldoaidmnhaagreatdoor", sum := "11bb4e47d83d63f42a8208f13f235209fb3c44124450ddea841f50290277054c", func := "lithophane/lithophanelaw16.PackKeeps", spec := "packKeeps", inPlace := ["internal/bytealg.IndexByteString", "internal/bytealg.IndexString"], unfollowed := true, recurses := true, named := ["unicode/utf8.first", "unicode/utf8.acceptRanges", "internal/bytealg.MaxLen"], plainKeys := false, apart := false, laid := [("unicode/utf8.acceptRanges", laid_unicode_utf8_acceptRanges), ("unicode/utf8.first", laid_unicode_utf8_first)], narrowed := true }
def PackKeepsUptoSaid : Prop := packKeepsUptoRow.holds Tryz.pinned (OpenSpec.upto packKeepsSpec)

end Rows
end Go.Proofs.YtcikldoaidmnhaaGreatDoor
