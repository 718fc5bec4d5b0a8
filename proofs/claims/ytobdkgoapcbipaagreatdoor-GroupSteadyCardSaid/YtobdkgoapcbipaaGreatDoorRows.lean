/-
  NARROWER THAN 'FOR EVERY INPUT', by the rows' own cells (each row's printed sentence says how): GroupChecks: laid · GroupAsks: laid · GroupSets: laid · GroupClosed: laid · GroupSteady: laid · GroupLevels: laid.
  DERIVED. THE GIVEN ROWS OF THIS SEAT. 6 by the template 'for every input the law returns true; each argument reads behind the call as it read before'; 0 by the template 'total and deterministic' (their statements: YtobdkgoapcbipaaGreatDoorTotals.lean).
  GIVEN WITH THE SEED: the statements are not yours to turn. If you find one false, say at which input.
  Laid BY PROGRAM, IN A SANDBOX (cutbox-rows.mjs): the forced cells as the released guide's own fill.sh prints them over the translation 2cc8ad2115c0fa08… (all of the seat's roots in one cut). By AI agents, Wed Nov 11 2026. No macro, syntax, notation, axiom, sorry.
-/
import Derived.Test.YtobdkgoapcbipaaGreatDoorChecked
import GoSem.PinnedTables
import GoSem.Claim
import GoSem.ClaimJoined
import GoSem.ClaimMapViews
import Derived.JoinedTies
import Derived.KernelRfl
namespace Go.Proofs.YtobdkgoapcbipaaGreatDoor
/- THE CELL 'sum', in the pinned program and in every row, IS THE sha256 OF THE DUMP (.gsa) THAT YtobdkgoapcbipaaGreatDoorProg.lean LOADS. Nothing in Lean hashes anything: it is a label: what it is worth is what the hold of that sum in a sandbox is worth. -/
noncomputable def Tryz.pinned : Pinned := { name := "ytobdkgoapcbipaagreatdoor", sum := "2cc8ad2115c0fa0865d3f3d276d5f9e376664d0ee7f0d3eda5f15ec83a37b275", checked := Tryz.checked }
namespace Rows
def none {H : Type} : Left H := { results := [], args := [] }

/- WHAT THE LISTED PACKAGE-LEVEL VARIABLES READ AS WHEN THE CALL BEGINS. Each datum BY PROGRAM (the guide's laid-datum.mjs) off the statement by which the dump's own 'gosem.cut.vars' lays the variable. In a bare row this is a premise. The card (YtobdkgoapcbipaaGreatDoorCards.lean) ties it to the program's text. -/
def laid_unicode_utf8_acceptRanges {H : Type} : DataW H := .agg [.agg [.lit (.int .u8 128), .lit (.int .u8 191)], .agg [.lit (.int .u8 160), .lit (.int .u8 191)], .agg [.lit (.int .u8 128), .lit (.int .u8 159)], .agg [.lit (.int .u8 144), .lit (.int .u8 191)], .agg [.lit (.int .u8 128), .lit (.int .u8 143)], .agg [.lit (.int .u8 0), .lit (.int .u8 0)], .agg [.lit (.int .u8 0), .lit (.int .u8 0)], .agg [.lit (.int .u8 0), .lit (.int .u8 0)], .agg [.lit (.int .u8 0), .lit (.int .u8 0)], .agg [.lit (.int .u8 0), .lit (.int .u8 0)], .agg [.lit (.int .u8 0), .lit (.int .u8 0)], .agg [.lit (.int .u8 0), .lit (.int .u8 0)], .agg [.lit (.int .u8 0), .lit (.int .u8 0)], .agg [.lit (.int .u8 0), .lit (.int .u8 0)], .agg [.lit (.int .u8 0), .lit (.int .u8 0)], .agg [.lit (.int .u8 0), .lit (.int .u8 0)]]
/-- One of Go's own tables, pinned by name: the form's constant. -/
def laid_unicode_utf8_first : DataW Unit := Go.Pinned.utf8First

/-- 'codesearchlaw43.GroupChecks': WHATEVER THE INPUT: true; the input reads as it did. -/
def groupChecksSpec : ChangeSpec := { name := "groupChecks", fn := fun _ => fun
  | [d] => { results := [.lit (.bool true)], args := [d] }
  | _ => none }
def groupChecksRow : OpenClaim := { program := "ytobdkgoapcbipaagreatdoor", sum := "2cc8ad2115c0fa0865d3f3d276d5f9e376664d0ee7f0d3eda5f15ec83a37b275", func := "codesearch/codesearchlaw43.GroupChecks", spec := "groupChecks", inPlace := ["internal/bytealg.CountString", "internal/bytealg.IndexByteString", "internal/bytealg.IndexString"], unfollowed := true, recurses := true, named := ["unicode/utf8.first", "unicode/utf8.acceptRanges", "internal/bytealg.MaxLen"], apart := false, laid := [("unicode/utf8.acceptRanges", laid_unicode_utf8_acceptRanges), ("unicode/utf8.first", laid_unicode_utf8_first)] }
def GroupChecksSaid : Prop := groupChecksRow.holds Tryz.pinned (OpenSpec.ofChange groupChecksSpec)

/-- ITS FALSE NEIGHBOUR: 'it returns false'. Refute it at one input. -/
def groupChecksWrong : ChangeSpec := { name := "groupChecks", fn := fun _ => fun
  | [d] => { results := [.lit (.bool false)], args := [d] }
  | _ => none }
def GroupChecksWrongFalsely : Prop := groupChecksRow.holds Tryz.pinned (OpenSpec.ofChange groupChecksWrong)

/-- 'codesearchlaw43.GroupAsks': WHATEVER THE INPUT: true; the input reads as it did. -/
def groupAsksSpec : ChangeSpec := { name := "groupAsks", fn := fun _ => fun
  | [d1, d2, d3] => { results := [.lit (.bool true)], args := [d1, d2, d3] }
  | _ => none }
def groupAsksRow : OpenClaim := { program := "ytobdkgoapcbipaagreatdoor", sum := "2cc8ad2115c0fa0865d3f3d276d5f9e376664d0ee7f0d3eda5f15ec83a37b275", func := "codesearch/codesearchlaw43.GroupAsks", spec := "groupAsks", inPlace := ["internal/bytealg.CountString", "internal/bytealg.IndexByteString", "internal/bytealg.IndexString"], unfollowed := true, recurses := true, named := ["unicode/utf8.first", "unicode/utf8.acceptRanges", "internal/bytealg.MaxLen"], apart := false, laid := [("unicode/utf8.acceptRanges", laid_unicode_utf8_acceptRanges), ("unicode/utf8.first", laid_unicode_utf8_first)] }
def GroupAsksSaid : Prop := groupAsksRow.holds Tryz.pinned (OpenSpec.ofChange groupAsksSpec)

/-- ITS FALSE NEIGHBOUR: 'it returns false'. Refute it at one input. -/
def groupAsksWrong : ChangeSpec := { name := "groupAsks", fn := fun _ => fun
  | [d1, d2, d3] => { results := [.lit (.bool false)], args := [d1, d2, d3] }
  | _ => none }
def GroupAsksWrongFalsely : Prop := groupAsksRow.holds Tryz.pinned (OpenSpec.ofChange groupAsksWrong)

/-- 'codesearchlaw43.GroupSets': WHATEVER THE INPUT: true; the input reads as it did. -/
def groupSetsSpec : ChangeSpec := { name := "groupSets", fn := fun _ => fun
  | [d1, d2, d3] => { results := [.lit (.bool true)], args := [d1, d2, d3] }
  | _ => none }
def groupSetsRow : OpenClaim := { program := "ytobdkgoapcbipaagreatdoor", sum := "2cc8ad2115c0fa0865d3f3d276d5f9e376664d0ee7f0d3eda5f15ec83a37b275", func := "codesearch/codesearchlaw43.GroupSets", spec := "groupSets", inPlace := ["internal/bytealg.CountString", "internal/bytealg.IndexByteString", "internal/bytealg.IndexString"], unfollowed := true, recurses := true, named := ["unicode/utf8.first", "unicode/utf8.acceptRanges", "internal/bytealg.MaxLen"], apart := false, laid := [("unicode/utf8.acceptRanges", laid_unicode_utf8_acceptRanges), ("unicode/utf8.first", laid_unicode_utf8_first)] }
def GroupSetsSaid : Prop := groupSetsRow.holds Tryz.pinned (OpenSpec.ofChange groupSetsSpec)

/-- ITS FALSE NEIGHBOUR: 'it returns false'. Refute it at one input. -/
def groupSetsWrong : ChangeSpec := { name := "groupSets", fn := fun _ => fun
  | [d1, d2, d3] => { results := [.lit (.bool false)], args := [d1, d2, d3] }
  | _ => none }
def GroupSetsWrongFalsely : Prop := groupSetsRow.holds Tryz.pinned (OpenSpec.ofChange groupSetsWrong)

/-- 'codesearchlaw43.GroupClosed': WHATEVER THE INPUT: true; the input reads as it did. -/
def groupClosedSpec : ChangeSpec := { name := "groupClosed", fn := fun _ => fun
  | [d1, d2] => { results := [.lit (.bool true)], args := [d1, d2] }
  | _ => none }
def groupClosedRow : OpenClaim := { program := "ytobdkgoapcbipaagreatdoor", sum := "2cc8ad2115c0fa0865d3f3d276d5f9e376664d0ee7f0d3eda5f15ec83a37b275", func := "codesearch/codesearchlaw43.GroupClosed", spec := "groupClosed", inPlace := ["internal/bytealg.CountString", "internal/bytealg.IndexByteString", "internal/bytealg.IndexString"], unfollowed := true, recurses := true, named := ["unicode/utf8.first", "unicode/utf8.acceptRanges", "internal/bytealg.MaxLen"], apart := false, laid := [("unicode/utf8.acceptRanges", laid_unicode_utf8_acceptRanges), ("unicode/utf8.first", laid_unicode_utf8_first)] }
def GroupClosedSaid : Prop := groupClosedRow.holds Tryz.pinned (OpenSpec.ofChange groupClosedSpec)

/-- ITS FALSE NEIGHBOUR: 'it returns false'. Refute it at one input. -/
def groupClosedWrong : ChangeSpec := { name := "groupClosed", fn := fun _ => fun
  | [d1, d2] => { results := [.lit (.bool false)], args := [d1, d2] }
  | _ => none }
def GroupClosedWrongFalsely : Prop := groupClosedRow.holds Tryz.pinned (OpenSpec.ofChange groupClosedWrong)

/-- 'codesearchlaw43.GroupSteady': WHATEVER THE INPUT: true; the input reads as it did. -/
def groupSteadySpec : ChangeSpec := { name := "groupSteady", fn := fun _ => fun
  | [d1, d2] => { results := [.lit (.bool true)], args := [d1, d2] }
  | _ => none }
def groupSteadyRow : OpenClaim := { program := "ytobdkgoapcbipaagreatdoor", sum := "2cc8ad2115c0fa0865d3f3d276d5f9e376664d0ee7f0d3eda5f15ec83a37b275", func := "codesearch/codesearchlaw43.GroupSteady", spec := "groupSteady", inPlace := ["internal/bytealg.CountString", "internal/bytealg.IndexByteString", "internal/bytealg.IndexString"], unfollowed := true, recurses := true, named := ["unicode/utf8.first", "unicode/utf8.acceptRanges", "internal/bytealg.MaxLen"], apart := false, laid := [("unicode/utf8.acceptRanges", laid_unicode_utf8_acceptRanges), ("unicode/utf8.first", laid_unicode_utf8_first)] }
def GroupSteadySaid : Prop := groupSteadyRow.holds Tryz.pinned (OpenSpec.ofChange groupSteadySpec)

/-- ITS FALSE NEIGHBOUR: 'it returns false'. Refute it at one input. -/
def groupSteadyWrong : ChangeSpec := { name := "groupSteady", fn := fun _ => fun
  | [d1, d2] => { results := [.lit (.bool false)], args := [d1, d2] }
  | _ => none }
def GroupSteadyWrongFalsely : Prop := groupSteadyRow.holds Tryz.pinned (OpenSpec.ofChange groupSteadyWrong)

/-- 'codesearchlaw43.GroupLevels': WHATEVER THE INPUT: true; the input reads as it did. -/
def groupLevelsSpec : ChangeSpec := { name := "groupLevels", fn := fun _ => fun
  | [d1, d2] => { results := [.lit (.bool true)], args := [d1, d2] }
  | _ => none }
def groupLevelsRow : OpenClaim := { program := "ytobdkgoapcbipaagreatdoor", sum := "2cc8ad2115c0fa0865d3f3d276d5f9e376664d0ee7f0d3eda5f15ec83a37b275", func := "codesearch/codesearchlaw43.GroupLevels", spec := "groupLevels", inPlace := ["internal/bytealg.CountString", "internal/bytealg.IndexByteString", "internal/bytealg.IndexString"], unfollowed := true, recurses := true, named := ["unicode/utf8.first", "unicode/utf8.acceptRanges", "internal/bytealg.MaxLen"], apart := false, laid := [("unicode/utf8.acceptRanges", laid_unicode_utf8_acceptRanges), ("unicode/utf8.first", laid_unicode_utf8_first)] }
def GroupLevelsSaid : Prop := groupLevelsRow.holds Tryz.pinned (OpenSpec.ofChange groupLevelsSpec)

/-- ITS FALSE NEIGHBOUR: 'it returns false'. Refute it at one input. -/
def groupLevelsWrong : ChangeSpec := { name := "groupLevels", fn := fun _ => fun
  | [d1, d2] => { results := [.lit (.bool false)], args := [d1, d2] }
  | _ => none }
def GroupLevelsWrongFalsely : Prop := groupLevelsRow.holds Tryz.pinned (OpenSpec.ofChange groupLevelsWrong)

/- THE SECOND FORM. 'bulk': how many values and letters a reading holds, each counted each time it is reached (what is shared counts as often as it is met; a slice's spare places count too). A statement '..UptoSaid' is the law's where the arguments, and the package variables that the reading takes, are together of bulk at most 1048576: NARROWER than '..Said'. Prove '..Said' where nothing that the law and all that it calls make is longer than what came in: it says more and counts as full. Else prove '..UptoSaid'. A law counts once. -/
mutual
def uptoBulk {H : Type} : DataW H → Nat
  | .lit (.string bytes) => bytes.length + 1
  | .lit _ => 1
  | .nil => 1
  | .ptr d => uptoBulk d + 1
  | .slice elems spare => uptoBulkAll elems + uptoBulkAll spare + 1
  | .agg parts => uptoBulkAll parts + 1
  | .iface _ d => uptoBulk d + 1
  | .map entries => uptoBulkEntries entries + 1
  | .held _ => 1
def uptoBulkAll {H : Type} : List (DataW H) → Nat
  | [] => 0
  | d :: r => uptoBulk d + uptoBulkAll r
def uptoBulkEntries {H : Type} : List (Lit × DataW H) → Nat
  | [] => 0
  | x :: r => uptoBulkEntry x + uptoBulkEntries r
def uptoBulkEntry {H : Type} : Lit × DataW H → Nat
  | (.string bytes, d) => bytes.length + uptoBulk d + 1
  | (_, d) => uptoBulk d + 1
 end
def uptoSmall : (H : Type) → List (DataW H) → Bool := fun _ ds => decide (uptoBulkAll ds ≤ 1048576)
def OpenSpec.upto (s : _root_.Go.ChangeSpec) : _root_.Go.OpenSpec := { _root_.Go.OpenSpec.ofChange s with cond := some uptoSmall }

/-- 'codesearchlaw43.GroupChecks', WHERE WHAT IT READS IS OF BULK AT MOST 1048576: true; the input reads as it did. -/
def groupChecksUptoRow : OpenClaim := { program := "ytobdkgoapcbipaagreatdoor", sum := "2cc8ad2115c0fa0865d3f3d276d5f9e376664d0ee7f0d3eda5f15ec83a37b275", func := "codesearch/codesearchlaw43.GroupChecks", spec := "groupChecks", inPlace := ["internal/bytealg.CountString", "internal/bytealg.IndexByteString", "internal/bytealg.IndexString"], unfollowed := true, recurses := true, named := ["unicode/utf8.first", "unicode/utf8.acceptRanges", "internal/bytealg.MaxLen"], apart := false, laid := [("unicode/utf8.acceptRanges", laid_unicode_utf8_acceptRanges), ("unicode/utf8.first", laid_unicode_utf8_first)], narrowed := true }
def GroupChecksUptoSaid : Prop := groupChecksUptoRow.holds Tryz.pinned (OpenSpec.upto groupChecksSpec)

/-- 'codesearchlaw43.GroupAsks', WHERE WHAT IT READS IS OF BULK AT MOST 1048576: true; the input reads as it did. -/
def groupAsksUptoRow : OpenClaim := { program := "ytobdkgoapcbipaagreatdoor", sum := "2cc8ad2115c0fa0865d3f3d276d5f9e376664d0ee7f0d3eda5f15ec83a37b275", func := "codesearch/codesearchlaw43.GroupAsks", spec := "groupAsks", inPlace := ["internal/bytealg.CountString", "internal/bytealg.IndexByteString", "internal/bytealg.IndexString"], unfollowed := true, recurses := true, named := ["unicode/utf8.first", "unicode/utf8.acceptRanges", "internal/bytealg.MaxLen"], apart := false, laid := [("unicode/utf8.acceptRanges", laid_unicode_utf8_acceptRanges), ("unicode/utf8.first", laid_unicode_utf8_first)], narrowed := true }
def GroupAsksUptoSaid : Prop := groupAsksUptoRow.holds Tryz.pinned (OpenSpec.upto groupAsksSpec)

/-- 'codesearchlaw43.GroupSets', WHERE WHAT IT READS IS OF BULK AT MOST 1048576: true; the input reads as it did. -/
def groupSetsUptoRow : OpenClaim := { program := "ytobdkgoapcbipaagreatdoor", sum := "2cc8ad2115c0fa0865d3f3d276d5f9e376664d0ee7f0d3eda5f15ec83a37b275", func := "codesearch/codesearchlaw43.GroupSets", spec := "groupSets", inPlace := ["internal/bytealg.CountString", "internal/bytealg.IndexByteString", "internal/bytealg.IndexString"], unfollowed := true, recurses := true, named := ["unicode/utf8.first", "unicode/utf8.acceptRanges", "internal/bytealg.MaxLen"], apart := false, laid := [("unicode/utf8.acceptRanges", laid_unicode_utf8_acceptRanges), ("unicode/utf8.first", laid_unicode_utf8_first)], narrowed := true }
def GroupSetsUptoSaid : Prop := groupSetsUptoRow.holds Tryz.pinned (OpenSpec.upto groupSetsSpec)

/-- 'codesearchlaw43.GroupClosed', WHERE WHAT IT READS IS OF BULK AT MOST 1048576: true; the input reads as it did. -/
def groupClosedUptoRow : OpenClaim := { program := "ytobdkgoapcbipaagreatdoor", sum := "2cc8ad2115c0fa0865d3f3d276d5f9e376664d0ee7f0d3eda5f15ec83a37b275", func := "codesearch/codesearchlaw43.GroupClosed", spec := "groupClosed", inPlace := ["internal/bytealg.CountString", "internal/bytealg.IndexByteString", "internal/bytealg.IndexString"], unfollowed := true, recurses := true, named := ["unicode/utf8.first", "unicode/utf8.acceptRanges", "internal/bytealg.MaxLen"], apart := false, laid := [("unicode/utf8.acceptRanges", laid_unicode_utf8_acceptRanges), ("unicode/utf8.first", laid_unicode_utf8_first)], narrowed := true }
def GroupClosedUptoSaid : Prop := groupClosedUptoRow.holds Tryz.pinned (OpenSpec.upto groupClosedSpec)

/-- 'codesearchlaw43.GroupSteady', WHERE WHAT IT READS IS OF BULK AT MOST 1048576: true; the input reads as it did. -/
def groupSteadyUptoRow : OpenClaim := { program := "ytobdkgoapcbipaagreatdoor", sum := "2cc8ad2115c0fa0865d3f3d276d5f9e376664d0ee7f0d3eda5f15ec83a37b275", func := "codesearch/codesearchlaw43.GroupSteady", spec := "groupSteady", inPlace := ["internal/bytealg.CountString", "internal/bytealg.IndexByteString", "internal/bytealg.IndexString"], unfollowed := true, recurses := true, named := ["unicode/utf8.first", "unicode/utf8.acceptRanges", "internal/bytealg.MaxLen"], apart := false, laid := [("unicode/utf8.acceptRanges", laid_unicode_utf8_acceptRanges), ("unicode/utf8.first", laid_unicode_utf8_first)], narrowed := true }
def GroupSteadyUptoSaid : Prop := groupSteadyUptoRow.holds Tryz.pinned (OpenSpec.upto groupSteadySpec)

/-- 'codesearchlaw43.GroupLevels', WHERE WHAT IT READS IS OF BULK AT MOST 1048576: true; the input reads as it did. -/
def groupLevelsUptoRow : OpenClaim := { program := "ytobdkgoapcbipaagreatdoor", sum := "2cc8ad2115c0fa0865d3f3d276d5f9e376664d0ee7f0d3eda5f15ec83a37b275", func := "codesearch/codesearchlaw43.GroupLevels", spec := "groupLevels", inPlace := ["internal/bytealg.CountString", "internal/bytealg.IndexByteString", "internal/bytealg.IndexString"], unfollowed := true, recurses := true, named := ["unicode/utf8.first", "unicode/utf8.acceptRanges", "internal/bytealg.MaxLen"], apart := false, laid := [("unicode/utf8.acceptRanges", laid_unicode_utf8_acceptRanges), ("unicode/utf8.first", laid_unicode_utf8_first)], narrowed := true }
def GroupLevelsUptoSaid : Prop := groupLevelsUptoRow.holds Tryz.pinned (OpenSpec.upto groupLevelsSpec)

end Rows
end Go.Proofs.YtobdkgoapcbipaaGreatDoor
