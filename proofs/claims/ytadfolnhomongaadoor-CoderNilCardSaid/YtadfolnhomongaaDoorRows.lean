/-
  NARROWER THAN 'FOR EVERY INPUT', by the rows' own cells (each row's printed sentence says how): CoderEncodes: laid · CoderBack: laid · CoderDecodes: laid · CoderRuns: laid · CoderContexts: laid · CoderFinish: laid · CoderApart: laid · CoderShort: laid · CoderNumbers: laid · CoderItems: laid · CoderNil: laid.
  DERIVED. THE GIVEN ROWS OF THIS SEAT. 11 by the template 'for every input the law returns true; each argument reads behind the call as it read before'; 0 by the template 'total and deterministic' (their statements: YtadfolnhomongaaDoorTotals.lean).
  GIVEN WITH THE SEED: the statements are not yours to turn. If you find one false, say at which input.
  Laid BY PROGRAM, IN A SANDBOX (cutbox-rows.mjs): the forced cells as the released guide's own fill.sh prints them over the translation 8751df8dbd677a96… (all of the seat's roots in one cut). By AI agents, Wed Nov 11 2026. No macro, syntax, notation, axiom, sorry.
-/
import Derived.Test.YtadfolnhomongaaDoorChecked
import GoSem.PinnedTables
import GoSem.Claim
import GoSem.ClaimJoined
import GoSem.ClaimMapViews
import Derived.JoinedTies
import Derived.KernelRfl
namespace Go.Proofs.YtadfolnhomongaaDoor
/- THE CELL 'sum', in the pinned program and in every row, IS THE sha256 OF THE DUMP (.gsa) THAT YtadfolnhomongaaDoorProg.lean LOADS. Nothing in Lean hashes anything: it is a label: what it is worth is what the hold of that sum in a sandbox is worth. -/
noncomputable def Tryd.pinned : Pinned := { name := "ytadfolnhomongaadoor", sum := "8751df8dbd677a96d79b91d8a1a1a40c91b1cd65161ddde47cae1953d7e3f96b", checked := Tryd.checked }
namespace Rows
def none {H : Type} : Left H := { results := [], args := [] }

/- WHAT THE LISTED PACKAGE-LEVEL VARIABLES READ AS WHEN THE CALL BEGINS. Each datum BY PROGRAM (the guide's laid-datum.mjs) off the statement by which the dump's own 'gosem.cut.vars' lays the variable. In a bare row this is a premise. The card (YtadfolnhomongaaDoorCards.lean) ties it to the program's text. -/
def laid_unicode_utf8_acceptRanges {H : Type} : DataW H := .agg [.agg [.lit (.int .u8 128), .lit (.int .u8 191)], .agg [.lit (.int .u8 160), .lit (.int .u8 191)], .agg [.lit (.int .u8 128), .lit (.int .u8 159)], .agg [.lit (.int .u8 144), .lit (.int .u8 191)], .agg [.lit (.int .u8 128), .lit (.int .u8 143)], .agg [.lit (.int .u8 0), .lit (.int .u8 0)], .agg [.lit (.int .u8 0), .lit (.int .u8 0)], .agg [.lit (.int .u8 0), .lit (.int .u8 0)], .agg [.lit (.int .u8 0), .lit (.int .u8 0)], .agg [.lit (.int .u8 0), .lit (.int .u8 0)], .agg [.lit (.int .u8 0), .lit (.int .u8 0)], .agg [.lit (.int .u8 0), .lit (.int .u8 0)], .agg [.lit (.int .u8 0), .lit (.int .u8 0)], .agg [.lit (.int .u8 0), .lit (.int .u8 0)], .agg [.lit (.int .u8 0), .lit (.int .u8 0)], .agg [.lit (.int .u8 0), .lit (.int .u8 0)]]
/-- One of Go's own tables, pinned by name: the form's constant. -/
def laid_unicode_utf8_first : DataW Unit := Go.Pinned.utf8First

/-- 'lithophanelaw15.CoderEncodes': WHATEVER THE INPUT: true; the input reads as it did. -/
def coderEncodesSpec : ChangeSpec := { name := "coderEncodes", fn := fun _ => fun
  | [d] => { results := [.lit (.bool true)], args := [d] }
  | _ => none }
def coderEncodesRow : OpenClaim := { program := "ytadfolnhomongaadoor", sum := "8751df8dbd677a96d79b91d8a1a1a40c91b1cd65161ddde47cae1953d7e3f96b", func := "lithophane/lithophanelaw15.CoderEncodes", spec := "coderEncodes", inPlace := ["internal/bytealg.IndexByteString", "internal/bytealg.IndexString"], unfollowed := true, recurses := true, named := ["unicode/utf8.first", "unicode/utf8.acceptRanges", "internal/bytealg.MaxLen"], apart := false, laid := [("unicode/utf8.acceptRanges", laid_unicode_utf8_acceptRanges), ("unicode/utf8.first", laid_unicode_utf8_first)] }
def CoderEncodesSaid : Prop := coderEncodesRow.holds Tryd.pinned (OpenSpec.ofChange coderEncodesSpec)

/-- ITS FALSE NEIGHBOUR: 'it returns false'. Refute it at one input. -/
def coderEncodesWrong : ChangeSpec := { name := "coderEncodes", fn := fun _ => fun
  | [d] => { results := [.lit (.bool false)], args := [d] }
  | _ => none }
def CoderEncodesWrongFalsely : Prop := coderEncodesRow.holds Tryd.pinned (OpenSpec.ofChange coderEncodesWrong)

/-- 'lithophanelaw15.CoderBack': WHATEVER THE INPUT: true; the input reads as it did. -/
def coderBackSpec : ChangeSpec := { name := "coderBack", fn := fun _ => fun
  | [d1, d2] => { results := [.lit (.bool true)], args := [d1, d2] }
  | _ => none }
def coderBackRow : OpenClaim := { program := "ytadfolnhomongaadoor", sum := "8751df8dbd677a96d79b91d8a1a1a40c91b1cd65161ddde47cae1953d7e3f96b", func := "lithophane/lithophanelaw15.CoderBack", spec := "coderBack", inPlace := ["internal/bytealg.IndexByteString", "internal/bytealg.IndexString"], unfollowed := true, recurses := true, named := ["unicode/utf8.first", "unicode/utf8.acceptRanges", "internal/bytealg.MaxLen"], apart := false, laid := [("unicode/utf8.acceptRanges", laid_unicode_utf8_acceptRanges), ("unicode/utf8.first", laid_unicode_utf8_first)] }
def CoderBackSaid : Prop := coderBackRow.holds Tryd.pinned (OpenSpec.ofChange coderBackSpec)

/-- ITS FALSE NEIGHBOUR: 'it returns false'. Refute it at one input. -/
def coderBackWrong : ChangeSpec := { name := "coderBack", fn := fun _ => fun
  | [d1, d2] => { results := [.lit (.bool false)], args := [d1, d2] }
  | _ => none }
def CoderBackWrongFalsely : Prop := coderBackRow.holds Tryd.pinned (OpenSpec.ofChange coderBackWrong)

/-- 'lithophanelaw15.CoderDecodes': WHATEVER THE INPUT: true; the input reads as it did. -/
def coderDecodesSpec : ChangeSpec := { name := "coderDecodes", fn := fun _ => fun
  | [d1, d2] => { results := [.lit (.bool true)], args := [d1, d2] }
  | _ => none }
def coderDecodesRow : OpenClaim := { program := "ytadfolnhomongaadoor", sum := "8751df8dbd677a96d79b91d8a1a1a40c91b1cd65161ddde47cae1953d7e3f96b", func := "lithophane/lithophanelaw15.CoderDecodes", spec := "coderDecodes", inPlace := ["internal/bytealg.IndexByteString", "internal/bytealg.IndexString"], unfollowed := true, recurses := true, named := ["unicode/utf8.first", "unicode/utf8.acceptRanges", "internal/bytealg.MaxLen"], apart := false, laid := [("unicode/utf8.acceptRanges", laid_unicode_utf8_acceptRanges), ("unicode/utf8.first", laid_unicode_utf8_first)] }
def CoderDecodesSaid : Prop := coderDecodesRow.holds Tryd.pinned (OpenSpec.ofChange coderDecodesSpec)

/-- ITS FALSE NEIGHBOUR: 'it returns false'. Refute it at one input. -/
def coderDecodesWrong : ChangeSpec := { name := "coderDecodes", fn := fun _ => fun
  | [d1, d2] => { results := [.lit (.bool false)], args := [d1, d2] }
  | _ => none }
def CoderDecodesWrongFalsely : Prop := coderDecodesRow.holds Tryd.pinned (OpenSpec.ofChange coderDecodesWrong)

/-- 'lithophanelaw15.CoderRuns': WHATEVER THE INPUT: true; the input reads as it did. -/
def coderRunsSpec : ChangeSpec := { name := "coderRuns", fn := fun _ => fun
  | [d1, d2] => { results := [.lit (.bool true)], args := [d1, d2] }
  | _ => none }
def coderRunsRow : OpenClaim := { program := "ytadfolnhomongaadoor", sum := "8751df8dbd677a96d79b91d8a1a1a40c91b1cd65161ddde47cae1953d7e3f96b", func := "lithophane/lithophanelaw15.CoderRuns", spec := "coderRuns", inPlace := ["internal/bytealg.IndexByteString", "internal/bytealg.IndexString"], unfollowed := true, recurses := true, named := ["unicode/utf8.first", "unicode/utf8.acceptRanges", "internal/bytealg.MaxLen"], apart := false, laid := [("unicode/utf8.acceptRanges", laid_unicode_utf8_acceptRanges), ("unicode/utf8.first", laid_unicode_utf8_first)] }
def CoderRunsSaid : Prop := coderRunsRow.holds Tryd.pinned (OpenSpec.ofChange coderRunsSpec)

/-- ITS FALSE NEIGHBOUR: 'it returns false'. Refute it at one input. -/
def coderRunsWrong : ChangeSpec := { name := "coderRuns", fn := fun _ => fun
  | [d1, d2] => { results := [.lit (.bool false)], args := [d1, d2] }
  | _ => none }
def CoderRunsWrongFalsely : Prop := coderRunsRow.holds Tryd.pinned (OpenSpec.ofChange coderRunsWrong)

/-- 'lithophanelaw15.CoderContexts': WHATEVER THE INPUT: true; the input reads as it did. -/
def coderContextsSpec : ChangeSpec := { name := "coderContexts", fn := fun _ => fun
  | [d1, d2] => { results := [.lit (.bool true)], args := [d1, d2] }
  | _ => none }
def coderContextsRow : OpenClaim := { program := "ytadfolnhomongaadoor", sum := "8751df8dbd677a96d79b91d8a1a1a40c91b1cd65161ddde47cae1953d7e3f96b", func := "lithophane/lithophanelaw15.CoderContexts", spec := "coderContexts", inPlace := ["internal/bytealg.IndexByteString", "internal/bytealg.IndexString"], unfollowed := true, recurses := true, named := ["unicode/utf8.first", "unicode/utf8.acceptRanges", "internal/bytealg.MaxLen"], apart := false, laid := [("unicode/utf8.acceptRanges", laid_unicode_utf8_acceptRanges), ("unicode/utf8.first", laid_unicode_utf8_first)] }
def CoderContextsSaid : Prop := coderContextsRow.holds Tryd.pinned (OpenSpec.ofChange coderContextsSpec)

/-- ITS FALSE NEIGHBOUR: 'it returns false'. Refute it at one input. -/
def coderContextsWrong : ChangeSpec := { name := "coderContexts", fn := fun _ => fun
  | [d1, d2] => { results := [.lit (.bool false)], args := [d1, d2] }
  | _ => none }
def CoderContextsWrongFalsely : Prop := coderContextsRow.holds Tryd.pinned (OpenSpec.ofChange coderContextsWrong)

/-- 'lithophanelaw15.CoderFinish': WHATEVER THE INPUT: true; the input reads as it did. -/
def coderFinishSpec : ChangeSpec := { name := "coderFinish", fn := fun _ => fun
  | [d1, d2] => { results := [.lit (.bool true)], args := [d1, d2] }
  | _ => none }
def coderFinishRow : OpenClaim := { program := "ytadfolnhomongaadoor", sum := "8751df8dbd677a96d79b91d8a1a1a40c91b1cd65161ddde47cae1953d7e3f96b", func := "lithophane/lithophanelaw15.CoderFinish", spec := "coderFinish", inPlace := ["internal/bytealg.IndexByteString", "internal/bytealg.IndexString"], unfollowed := true, recurses := true, named := ["unicode/utf8.first", "unicode/utf8.acceptRanges", "internal/bytealg.MaxLen"], apart := false, laid := [("unicode/utf8.acceptRanges", laid_unicode_utf8_acceptRanges), ("unicode/utf8.first", laid_unicode_utf8_first)] }
def CoderFinishSaid : Prop := coderFinishRow.holds Tryd.pinned (OpenSpec.ofChange coderFinishSpec)

/-- ITS FALSE NEIGHBOUR: 'it returns false'. Refute it at one input. -/
def coderFinishWrong : ChangeSpec := { name := "coderFinish", fn := fun _ => fun
  | [d1, d2] => { results := [.lit (.bool false)], args := [d1, d2] }
  | _ => none }
def CoderFinishWrongFalsely : Prop := coderFinishRow.holds Tryd.pinned (OpenSpec.ofChange coderFinishWrong)

/-- 'lithophanelaw15.CoderApart': WHATEVER THE INPUT: true; the input reads as it did. -/
def coderApartSpec : ChangeSpec := { name := "coderApart", fn := fun _ => fun
  | [d1, d2, d3] => { results := [.lit (.bool true)], args := [d1, d2, d3] }
  | _ => none }
def coderApartRow : OpenClaim := { program := "ytadfolnhomongaadoor", sum := "8751df8dbd677a96d79b91d8a1a1a40c91b1cd65161ddde47cae1953d7e3f96b", func := "lithophane/lithophanelaw15.CoderApart", spec := "coderApart", inPlace := ["internal/bytealg.IndexByteString", "internal/bytealg.IndexString"], unfollowed := true, recurses := true, named := ["unicode/utf8.first", "unicode/utf8.acceptRanges", "internal/bytealg.MaxLen"], apart := false, laid := [("unicode/utf8.acceptRanges", laid_unicode_utf8_acceptRanges), ("unicode/utf8.first", laid_unicode_utf8_first)] }
def CoderApartSaid : Prop := coderApartRow.holds Tryd.pinned (OpenSpec.ofChange coderApartSpec)

/-- ITS FALSE NEIGHBOUR: 'it returns false'. Refute it at one input. -/
def coderApartWrong : ChangeSpec := { name := "coderApart", fn := fun _ => fun
  | [d1, d2, d3] => { results := [.lit (.bool false)], args := [d1, d2, d3] }
  | _ => none }
def CoderApartWrongFalsely : Prop := coderApartRow.holds Tryd.pinned (OpenSpec.ofChange coderApartWrong)

/-- 'lithophanelaw15.CoderShort': WHATEVER THE INPUT: true; the input reads as it did. -/
def coderShortSpec : ChangeSpec := { name := "coderShort", fn := fun _ => fun
  | [d1, d2, d3] => { results := [.lit (.bool true)], args := [d1, d2, d3] }
  | _ => none }
def coderShortRow : OpenClaim := { program := "ytadfolnhomongaadoor", sum := "8751df8dbd677a96d79b91d8a1a1a40c91b1cd65161ddde47cae1953d7e3f96b", func := "lithophane/lithophanelaw15.CoderShort", spec := "coderShort", inPlace := ["internal/bytealg.IndexByteString", "internal/bytealg.IndexString"], unfollowed := true, recurses := true, named := ["unicode/utf8.first", "unicode/utf8.acceptRanges", "internal/bytealg.MaxLen"], apart := false, laid := [("unicode/utf8.acceptRanges", laid_unicode_utf8_acceptRanges), ("unicode/utf8.first", laid_unicode_utf8_first)] }
def CoderShortSaid : Prop := coderShortRow.holds Tryd.pinned (OpenSpec.ofChange coderShortSpec)

/-- ITS FALSE NEIGHBOUR: 'it returns false'. Refute it at one input. -/
def coderShortWrong : ChangeSpec := { name := "coderShort", fn := fun _ => fun
  | [d1, d2, d3] => { results := [.lit (.bool false)], args := [d1, d2, d3] }
  | _ => none }
def CoderShortWrongFalsely : Prop := coderShortRow.holds Tryd.pinned (OpenSpec.ofChange coderShortWrong)

/-- 'lithophanelaw15.CoderNumbers': WHATEVER THE INPUT: true; the input reads as it did. -/
def coderNumbersSpec : ChangeSpec := { name := "coderNumbers", fn := fun _ => fun
  | [d1, d2, d3] => { results := [.lit (.bool true)], args := [d1, d2, d3] }
  | _ => none }
def coderNumbersRow : OpenClaim := { program := "ytadfolnhomongaadoor", sum := "8751df8dbd677a96d79b91d8a1a1a40c91b1cd65161ddde47cae1953d7e3f96b", func := "lithophane/lithophanelaw15.CoderNumbers", spec := "coderNumbers", inPlace := ["internal/bytealg.IndexByteString", "internal/bytealg.IndexString"], unfollowed := true, recurses := true, named := ["unicode/utf8.first", "unicode/utf8.acceptRanges", "internal/bytealg.MaxLen"], apart := false, laid := [("unicode/utf8.acceptRanges", laid_unicode_utf8_acceptRanges), ("unicode/utf8.first", laid_unicode_utf8_first)] }
def CoderNumbersSaid : Prop := coderNumbersRow.holds Tryd.pinned (OpenSpec.ofChange coderNumbersSpec)

/-- ITS FALSE NEIGHBOUR: 'it returns false'. Refute it at one input. -/
def coderNumbersWrong : ChangeSpec := { name := "coderNumbers", fn := fun _ => fun
  | [d1, d2, d3] => { results := [.lit (.bool false)], args := [d1, d2, d3] }
  | _ => none }
def CoderNumbersWrongFalsely : Prop := coderNumbersRow.holds Tryd.pinned (OpenSpec.ofChange coderNumbersWrong)

/-- 'lithophanelaw15.CoderItems': WHATEVER THE INPUT: true; the input reads as it did. -/
def coderItemsSpec : ChangeSpec := { name := "coderItems", fn := fun _ => fun
  | [d] => { results := [.lit (.bool true)], args := [d] }
  | _ => none }
def coderItemsRow : OpenClaim := { program := "ytadfolnhomongaadoor", sum := "8751df8dbd677a96d79b91d8a1a1a40c91b1cd65161ddde47cae1953d7e3f96b", func := "lithophane/lithophanelaw15.CoderItems", spec := "coderItems", inPlace := ["internal/bytealg.IndexByteString", "internal/bytealg.IndexString"], unfollowed := true, recurses := true, named := ["unicode/utf8.first", "unicode/utf8.acceptRanges", "internal/bytealg.MaxLen"], apart := false, laid := [("unicode/utf8.acceptRanges", laid_unicode_utf8_acceptRanges), ("unicode/utf8.first", laid_unicode_utf8_first)] }
def CoderItemsSaid : Prop := coderItemsRow.holds Tryd.pinned (OpenSpec.ofChange coderItemsSpec)

/-- ITS FALSE NEIGHBOUR: 'it returns false'. Refute it at one input. -/
def coderItemsWrong : ChangeSpec := { name := "coderItems", fn := fun _ => fun
  | [d] => { results := [.lit (.bool false)], args := [d] }
  | _ => none }
def CoderItemsWrongFalsely : Prop := coderItemsRow.holds Tryd.pinned (OpenSpec.ofChange coderItemsWrong)

/-- 'lithophanelaw15.CoderNil': WHATEVER THE INPUT: true; the input reads as it did. -/
def coderNilSpec : ChangeSpec := { name := "coderNil", fn := fun _ => fun
  | [d1, d2] => { results := [.lit (.bool true)], args := [d1, d2] }
  | _ => none }
def coderNilRow : OpenClaim := { program := "ytadfolnhomongaadoor", sum := "8751df8dbd677a96d79b91d8a1a1a40c91b1cd65161ddde47cae1953d7e3f96b", func := "lithophane/lithophanelaw15.CoderNil", spec := "coderNil", inPlace := ["internal/bytealg.IndexByteString", "internal/bytealg.IndexString"], unfollowed := true, recurses := true, named := ["unicode/utf8.first", "unicode/utf8.acceptRanges", "internal/bytealg.MaxLen"], apart := false, laid := [("unicode/utf8.acceptRanges", laid_unicode_utf8_acceptRanges), ("unicode/utf8.first", laid_unicode_utf8_first)] }
def CoderNilSaid : Prop := coderNilRow.holds Tryd.pinned (OpenSpec.ofChange coderNilSpec)

/-- ITS FALSE NEIGHBOUR: 'it returns false'. Refute it at one input. -/
def coderNilWrong : ChangeSpec := { name := "coderNil", fn := fun _ => fun
  | [d1, d2] => { results := [.lit (.bool false)], args := [d1, d2] }
  | _ => none }
def CoderNilWrongFalsely : Prop := coderNilRow.holds Tryd.pinned (OpenSpec.ofChange coderNilWrong)

/- THE SECOND FORM. 'bulk': how many values and letters a reading holds, each counted each time it is reached (what is shared counts as often as it is met; a slice's spare places count too). A statement '..UptoSaid' is the law's where the arguments, and the package variables that the reading takes, are together of bulk at most 1048576: NARROWER than '..Said'. Prove '..Said' where nothing that the law and all that it calls make is longer than what came in: it says more and counts as full. Else prove '..UptoSaid'. A law counts once. -/
mutual
def uptoBulk {H : Type} : DataW H → Nat
  | .lit (.string bytes) => bytes.length + 1
  | .lit _ => 1
  | .nil => 1
  | .ptr d => uptoBulk d + 1
  | .slice elems spare => uptoBulkAll elems + uptoBulkAll spare + 1
  | .agg parts => uptoBulkAll parts + 1
  | .iface _ d => uptoBulk d + 1
  | .map entries => uptoBulkEntries entries + 1
  | .held _ => 1
def uptoBulkAll {H : Type} : List (DataW H) → Nat
  | [] => 0
  | d :: r => uptoBulk d + uptoBulkAll r
def uptoBulkEntries {H : Type} : List (Lit × DataW H) → Nat
  | [] => 0
  | x :: r => uptoBulkEntry x + uptoBulkEntries r
def uptoBulkEntry {H : Type} : Lit × DataW H → Nat
  | (.string bytes, d) => bytes.length + uptoBulk d + 1
  | (_, d) => uptoBulk d + 1
 end
def uptoSmall : (H : Type) → List (DataW H) → Bool := fun _ ds => decide (uptoBulkAll ds ≤ 1048576)
def OpenSpec.upto (s : _root_.Go.ChangeSpec) : _root_.Go.OpenSpec := { _root_.Go.OpenSpec.ofChange s with cond := some uptoSmall }

/-- 'lithophanelaw15.CoderEncodes', WHERE WHAT IT READS IS OF BULK AT MOST 1048576: true; the input reads as it did. -/
def coderEncodesUptoRow : OpenClaim := { program := "ytadfolnhomongaadoor", sum := "8751df8dbd677a96d79b91d8a1a1a40c91b1cd65161ddde47cae1953d7e3f96b", func := "lithophane/lithophanelaw15.CoderEncodes", spec := "coderEncodes", inPlace := ["internal/bytealg.IndexByteString", "internal/bytealg.IndexString"], unfollowed := true, recurses := true, named := ["unicode/utf8.first", "unicode/utf8.acceptRanges", "internal/bytealg.MaxLen"], apart := false, laid := [("unicode/utf8.acceptRanges", laid_unicode_utf8_acceptRanges), ("unicode/utf8.first", laid_unicode_utf8_first)], narrowed := true }
def CoderEncodesUptoSaid : Prop := coderEncodesUptoRow.holds Tryd.pinned (OpenSpec.upto coderEncodesSpec)

/-- 'lithophanelaw15.CoderBack', WHERE WHAT IT READS IS OF BULK AT MOST 1048576: true; the input reads as it did. -/
def coderBackUptoRow : OpenClaim := { program := "ytadfolnhomongaadoor", sum := "8751df8dbd677a96d79b91d8a1a1a40c91b1cd65161ddde47cae1953d7e3f96b", func := "lithophane/lithophanelaw15.CoderBack", spec := "coderBack", inPlace := ["internal/bytealg.IndexByteString", "internal/bytealg.IndexString"], unfollowed := true, recurses := true, named := ["unicode/utf8.first", "unicode/utf8.acceptRanges", "internal/bytealg.MaxLen"], apart := false, laid := [("unicode/utf8.acceptRanges", laid_unicode_utf8_acceptRanges), ("unicode/utf8.first", laid_unicode_utf8_first)], narrowed := true }
def CoderBackUptoSaid : Prop := coderBackUptoRow.holds Tryd.pinned (OpenSpec.upto coderBackSpec)

/-- 'lithophanelaw15.CoderDecodes', WHERE WHAT IT READS IS OF BULK AT MOST 1048576: true; the input reads as it did. -/
def coderDecodesUptoRow : OpenClaim := { program := "ytadfolnhomongaadoor", sum := "8751df8dbd677a96d79b91d8a1a1a40c91b1cd65161ddde47cae1953d7e3f96b", func := "lithophane/lithophanelaw15.CoderDecodes", spec := "coderDecodes", inPlace := ["internal/bytealg.IndexByteString", "internal/bytealg.IndexString"], unfollowed := true, recurses := true, named := ["unicode/utf8.first", "unicode/utf8.acceptRanges", "internal/bytealg.MaxLen"], apart := false, laid := [("unicode/utf8.acceptRanges", laid_unicode_utf8_acceptRanges), ("unicode/utf8.first", laid_unicode_utf8_first)], narrowed := true }
def CoderDecodesUptoSaid : Prop := coderDecodesUptoRow.holds Tryd.pinned (OpenSpec.upto coderDecodesSpec)

/-- 'lithophanelaw15.CoderRuns', WHERE WHAT IT READS IS OF BULK AT MOST 1048576: true; the input reads as it did. -/
def coderRunsUptoRow : OpenClaim := { program := "ytadfolnhomongaadoor", sum := "8751df8dbd677a96d79b91d8a1a1a40c91b1cd65161ddde47cae1953d7e3f96b", func := "lithophane/lithophanelaw15.CoderRuns", spec := "coderRuns", inPlace := ["internal/bytealg.IndexByteString", "internal/bytealg.IndexString"], unfollowed := true, recurses := true, named := ["unicode/utf8.first", "unicode/utf8.acceptRanges", "internal/bytealg.MaxLen"], apart := false, laid := [("unicode/utf8.acceptRanges", laid_unicode_utf8_acceptRanges), ("unicode/utf8.first", laid_unicode_utf8_first)], narrowed := true }
def CoderRunsUptoSaid : Prop := coderRunsUptoRow.holds Tryd.pinned (OpenSpec.upto coderRunsSpec)

/-- 'lithophanelaw15.CoderContexts', WHERE WHAT IT READS IS OF BULK AT MOST 1048576: true; the input reads as it did. -/
def coderContextsUptoRow : OpenClaim := { program := "ytadfolnhomongaadoor", sum := "8751df8dbd677a96d79b91d8a1a1a40c91b1cd65161ddde47cae1953d7e3f96b", func := "lithophane/lithophanelaw15.CoderContexts", spec := "coderContexts", inPlace := ["internal/bytealg.IndexByteString", "internal/bytealg.IndexString"], unfollowed := true, recurses := true, named := ["unicode/utf8.first", "unicode/utf8.acceptRanges", "internal/bytealg.MaxLen"], apart := false, laid := [("unicode/utf8.acceptRanges", laid_unicode_utf8_acceptRanges), ("unicode/utf8.first", laid_unicode_utf8_first)], narrowed := true }
def CoderContextsUptoSaid : Prop := coderContextsUptoRow.holds Tryd.pinned (OpenSpec.upto coderContextsSpec)

/-- 'lithophanelaw15.CoderFinish', WHERE WHAT IT READS IS OF BULK AT MOST 1048576: true; the input reads as it did. -/
def coderFinishUptoRow : OpenClaim := { program := "ytadfolnhomongaadoor", sum := "8751df8dbd677a96d79b91d8a1a1a40c91b1cd65161ddde47cae1953d7e3f96b", func := "lithophane/lithophanelaw15.CoderFinish", spec := "coderFinish", inPlace := ["internal/bytealg.IndexByteString", "internal/bytealg.IndexString"], unfollowed := true, recurses := true, named := ["unicode/utf8.first", "unicode/utf8.acceptRanges", "internal/bytealg.MaxLen"], apart := false, laid := [("unicode/utf8.acceptRanges", laid_unicode_utf8_acceptRanges), ("unicode/utf8.first", laid_unicode_utf8_first)], narrowed := true }
def CoderFinishUptoSaid : Prop := coderFinishUptoRow.holds Tryd.pinned (OpenSpec.upto coderFinishSpec)

/-- 'lithophanelaw15.CoderApart', WHERE WHAT IT READS IS OF BULK AT MOST 1048576: true; the input reads as it did. -/
def coderApartUptoRow : OpenClaim := { program := "ytadfolnhomongaadoor", sum := "8751df8dbd677a96d79b91d8a1a1a40c91b1cd65161ddde47cae1953d7e3f96b", func := "lithophane/lithophanelaw15.CoderApart", spec := "coderApart", inPlace := ["internal/bytealg.IndexByteString", "internal/bytealg.IndexString"], unfollowed := true, recurses := true, named := ["unicode/utf8.first", "unicode/utf8.acceptRanges", "internal/bytealg.MaxLen"], apart := false, laid := [("unicode/utf8.acceptRanges", laid_unicode_utf8_acceptRanges), ("unicode/utf8.first", laid_unicode_utf8_first)], narrowed := true }
def CoderApartUptoSaid : Prop := coderApartUptoRow.holds Tryd.pinned (OpenSpec.upto coderApartSpec)

/-- 'lithophanelaw15.CoderShort', WHERE WHAT IT READS IS OF BULK AT MOST 1048576: true; the input reads as it did. -/
def coderShortUptoRow : OpenClaim := { program := "ytadfolnhomongaadoor", sum := "8751df8dbd677a96d79b91d8a1a1a40c91b1cd65161ddde47cae1953d7e3f96b", func := "lithophane/lithophanelaw15.CoderShort", spec := "coderShort", inPlace := ["internal/bytealg.IndexByteString", "internal/bytealg.IndexString"], unfollowed := true, recurses := true, named := ["unicode/utf8.first", "unicode/utf8.acceptRanges", "internal/bytealg.MaxLen"], apart := false, laid := [("unicode/utf8.acceptRanges", laid_unicode_utf8_acceptRanges), ("unicode/utf8.first", laid_unicode_utf8_first)], narrowed := true }
def CoderShortUptoSaid : Prop := coderShortUptoRow.holds Tryd.pinned (OpenSpec.upto coderShortSpec)

/-- 'lithophanelaw15.CoderNumbers', WHERE WHAT IT READS IS OF BULK AT MOST 1048576: true; the input reads as it did. -/
def coderNumbersUptoRow : OpenClaim := { program := "ytadfolnhomongaadoor", sum := "8751df8dbd677a96d79b91d8a1a1a40c91b1cd65161ddde47cae1953d7e3f96b", func := "lithophane/lithophanelaw15.CoderNumbers", spec := "coderNumbers", inPlace := ["internal/bytealg.IndexByteString", "internal/bytealg.IndexString"], unfollowed := true, recurses := true, named := ["unicode/utf8.first", "unicode/utf8.acceptRanges", "internal/bytealg.MaxLen"], apart := false, laid := [("unicode/utf8.acceptRanges", laid_unicode_utf8_acceptRanges), ("unicode/utf8.first", laid_unicode_utf8_first)], narrowed := true }
def CoderNumbersUptoSaid : Prop := coderNumbersUptoRow.holds Tryd.pinned (OpenSpec.upto coderNumbersSpec)

/-- 'lithophanelaw15.CoderItems', WHERE WHAT IT READS IS OF BULK AT MOST 1048576: true; the input reads as it did. -/
def coderItemsUptoRow : OpenClaim := { program := "ytadfolnhomongaadoor", sum := "8751df8dbd677a96d79b91d8a1a1a40c91b1cd65161ddde47cae1953d7e3f96b", func := "lithophane/lithophanelaw15.CoderItems", spec := "coderItems", inPlace := ["internal/bytealg.IndexByteString", "internal/bytealg.IndexString"], unfollowed := true, recurses := true, named := ["unicode/utf8.first", "unicode/utf8.acceptRanges", "internal/bytealg.MaxLen"], apart := false, laid := [("unicode/utf8.acceptRanges", laid_unicode_utf8_acceptRanges), ("unicode/utf8.first", laid_unicode_utf8_first)], narrowed := true }
def CoderItemsUptoSaid : Prop := coderItemsUptoRow.holds Tryd.pinned (OpenSpec.upto coderItemsSpec)

/-- 'lithophanelaw15.CoderNil', WHERE WHAT IT READS IS OF BULK AT MOST 1048576: true; the input reads as it did. -/
def coderNilUptoRow : OpenClaim := { program := "ytadfolnhomongaadoor", sum := "8751df8dbd677a96d79b91d8a1a1a40c91b1cd65161ddde47cae1953d7e3f96b", func := "lithophane/lithophanelaw15.CoderNil", spec := "coderNil", inPlace := ["internal/bytealg.IndexByteString", "internal/bytealg.IndexString"], unfollowed := true, recurses := true, named := ["unicode/utf8.first", "unicode/utf8.acceptRanges", "internal/bytealg.MaxLen"], apart := false, laid := [("unicode/utf8.acceptRanges", laid_unicode_utf8_acceptRanges), ("unicode/utf8.first", laid_unicode_utf8_first)], narrowed := true }
def CoderNilUptoSaid : Prop := coderNilUptoRow.holds Tryd.pinned (OpenSpec.upto coderNilSpec)

end Rows
end Go.Proofs.YtadfolnhomongaaDoor
