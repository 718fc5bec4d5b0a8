/-
  No cell of these rows narrows 'for every input' (looked for: loops, veiled, ifaces, maps, wideKeys, modest, calm, conditions, laid).
  DERIVED. THE GIVEN ROWS OF THIS SEAT. 12 by the template 'for every input the law returns true; each argument reads behind the call as it read before'; 0 by the template 'total and deterministic' (their statements: YtihfpmociffpeaaTotals.lean).
  GIVEN WITH THE SEED: the statements are not yours to turn. If you find one false, say at which input.
  Laid BY PROGRAM, IN A SANDBOX (cutbox-rows.mjs): the forced cells as the released guide's own fill.sh prints them over the translation ec8189d7ddde7244… (all of the seat's roots in one cut). By AI agents, Wed Nov 11 2026. No macro, syntax, notation, axiom, sorry.
-/
import Derived.Test.YtihfpmociffpeaaChecked
import GoSem.Claim
import GoSem.ClaimJoined
import GoSem.ClaimMapViews
import Derived.JoinedTies
import Derived.KernelRfl
namespace Go.Proofs.Ytihfpmociffpeaa
/- THE CELL 'sum', in the pinned program and in every row, IS THE sha256 OF THE DUMP (.gsa) THAT YtihfpmociffpeaaProg.lean LOADS. Nothing in Lean hashes anything: it is a label: what it is worth is what the hold of that sum in a sandbox is worth. -/
noncomputable def Try.pinned : Pinned := { name := "ytihfpmociffpeaa", sum := "ec8189d7ddde72448ddcafc5dad79a071d7f776d17bcb79d22e99ea47a90c182", checked := Try.checked }
namespace Rows
def none {H : Type} : Left H := { results := [], args := [] }

/-- 'codesearchlaw03.VarintPuts': WHATEVER THE INPUT: true; the input reads as it did. -/
def varintPutsSpec : ChangeSpec := { name := "varintPuts", fn := fun _ => fun
  | [d1, d2, d3] => { results := [.lit (.bool true)], args := [d1, d2, d3] }
  | _ => none }
def varintPutsRow : OpenClaim := { program := "ytihfpmociffpeaa", sum := "ec8189d7ddde72448ddcafc5dad79a071d7f776d17bcb79d22e99ea47a90c182", func := "codesearch/codesearchlaw03.VarintPuts", spec := "varintPuts", apart := false }
def VarintPutsSaid : Prop := varintPutsRow.holds Try.pinned (OpenSpec.ofChange varintPutsSpec)

/-- ITS FALSE NEIGHBOUR: 'it returns false'. Refute it at one input. -/
def varintPutsWrong : ChangeSpec := { name := "varintPuts", fn := fun _ => fun
  | [d1, d2, d3] => { results := [.lit (.bool false)], args := [d1, d2, d3] }
  | _ => none }
def VarintPutsWrongFalsely : Prop := varintPutsRow.holds Try.pinned (OpenSpec.ofChange varintPutsWrong)

/-- 'codesearchlaw03.VarintGets': WHATEVER THE INPUT: true; the input reads as it did. -/
def varintGetsSpec : ChangeSpec := { name := "varintGets", fn := fun _ => fun
  | [d1, d2] => { results := [.lit (.bool true)], args := [d1, d2] }
  | _ => none }
def varintGetsRow : OpenClaim := { program := "ytihfpmociffpeaa", sum := "ec8189d7ddde72448ddcafc5dad79a071d7f776d17bcb79d22e99ea47a90c182", func := "codesearch/codesearchlaw03.VarintGets", spec := "varintGets", apart := false }
def VarintGetsSaid : Prop := varintGetsRow.holds Try.pinned (OpenSpec.ofChange varintGetsSpec)

/-- ITS FALSE NEIGHBOUR: 'it returns false'. Refute it at one input. -/
def varintGetsWrong : ChangeSpec := { name := "varintGets", fn := fun _ => fun
  | [d1, d2] => { results := [.lit (.bool false)], args := [d1, d2] }
  | _ => none }
def VarintGetsWrongFalsely : Prop := varintGetsRow.holds Try.pinned (OpenSpec.ofChange varintGetsWrong)

/-- 'codesearchlaw03.VarintLists': WHATEVER THE INPUT: true; the input reads as it did. -/
def varintListsSpec : ChangeSpec := { name := "varintLists", fn := fun _ => fun
  | [d1, d2] => { results := [.lit (.bool true)], args := [d1, d2] }
  | _ => none }
def varintListsRow : OpenClaim := { program := "ytihfpmociffpeaa", sum := "ec8189d7ddde72448ddcafc5dad79a071d7f776d17bcb79d22e99ea47a90c182", func := "codesearch/codesearchlaw03.VarintLists", spec := "varintLists", apart := false }
def VarintListsSaid : Prop := varintListsRow.holds Try.pinned (OpenSpec.ofChange varintListsSpec)

/-- ITS FALSE NEIGHBOUR: 'it returns false'. Refute it at one input. -/
def varintListsWrong : ChangeSpec := { name := "varintLists", fn := fun _ => fun
  | [d1, d2] => { results := [.lit (.bool false)], args := [d1, d2] }
  | _ => none }
def VarintListsWrongFalsely : Prop := varintListsRow.holds Try.pinned (OpenSpec.ofChange varintListsWrong)

/-- 'codesearchlaw03.VarintShort': WHATEVER THE INPUT: true; the input reads as it did. -/
def varintShortSpec : ChangeSpec := { name := "varintShort", fn := fun _ => fun
  | [d1, d2] => { results := [.lit (.bool true)], args := [d1, d2] }
  | _ => none }
def varintShortRow : OpenClaim := { program := "ytihfpmociffpeaa", sum := "ec8189d7ddde72448ddcafc5dad79a071d7f776d17bcb79d22e99ea47a90c182", func := "codesearch/codesearchlaw03.VarintShort", spec := "varintShort", apart := false }
def VarintShortSaid : Prop := varintShortRow.holds Try.pinned (OpenSpec.ofChange varintShortSpec)

/-- ITS FALSE NEIGHBOUR: 'it returns false'. Refute it at one input. -/
def varintShortWrong : ChangeSpec := { name := "varintShort", fn := fun _ => fun
  | [d1, d2] => { results := [.lit (.bool false)], args := [d1, d2] }
  | _ => none }
def VarintShortWrongFalsely : Prop := varintShortRow.holds Try.pinned (OpenSpec.ofChange varintShortWrong)

/-- 'codesearchlaw03.VarintReads': WHATEVER THE INPUT: true; the input reads as it did. -/
def varintReadsSpec : ChangeSpec := { name := "varintReads", fn := fun _ => fun
  | [d1, d2, d3] => { results := [.lit (.bool true)], args := [d1, d2, d3] }
  | _ => none }
def varintReadsRow : OpenClaim := { program := "ytihfpmociffpeaa", sum := "ec8189d7ddde72448ddcafc5dad79a071d7f776d17bcb79d22e99ea47a90c182", func := "codesearch/codesearchlaw03.VarintReads", spec := "varintReads", apart := false }
def VarintReadsSaid : Prop := varintReadsRow.holds Try.pinned (OpenSpec.ofChange varintReadsSpec)

/-- ITS FALSE NEIGHBOUR: 'it returns false'. Refute it at one input. -/
def varintReadsWrong : ChangeSpec := { name := "varintReads", fn := fun _ => fun
  | [d1, d2, d3] => { results := [.lit (.bool false)], args := [d1, d2, d3] }
  | _ => none }
def VarintReadsWrongFalsely : Prop := varintReadsRow.holds Try.pinned (OpenSpec.ofChange varintReadsWrong)

/-- 'codesearchlaw03.VarintBack': WHATEVER THE INPUT: true; the input reads as it did. -/
def varintBackSpec : ChangeSpec := { name := "varintBack", fn := fun _ => fun
  | [d1, d2, d3] => { results := [.lit (.bool true)], args := [d1, d2, d3] }
  | _ => none }
def varintBackRow : OpenClaim := { program := "ytihfpmociffpeaa", sum := "ec8189d7ddde72448ddcafc5dad79a071d7f776d17bcb79d22e99ea47a90c182", func := "codesearch/codesearchlaw03.VarintBack", spec := "varintBack", apart := false }
def VarintBackSaid : Prop := varintBackRow.holds Try.pinned (OpenSpec.ofChange varintBackSpec)

/-- ITS FALSE NEIGHBOUR: 'it returns false'. Refute it at one input. -/
def varintBackWrong : ChangeSpec := { name := "varintBack", fn := fun _ => fun
  | [d1, d2, d3] => { results := [.lit (.bool false)], args := [d1, d2, d3] }
  | _ => none }
def VarintBackWrongFalsely : Prop := varintBackRow.holds Try.pinned (OpenSpec.ofChange varintBackWrong)

/-- 'codesearchlaw03.VarintOnce': WHATEVER THE INPUT: true; the input reads as it did. -/
def varintOnceSpec : ChangeSpec := { name := "varintOnce", fn := fun _ => fun
  | [d1, d2, d3] => { results := [.lit (.bool true)], args := [d1, d2, d3] }
  | _ => none }
def varintOnceRow : OpenClaim := { program := "ytihfpmociffpeaa", sum := "ec8189d7ddde72448ddcafc5dad79a071d7f776d17bcb79d22e99ea47a90c182", func := "codesearch/codesearchlaw03.VarintOnce", spec := "varintOnce", apart := false }
def VarintOnceSaid : Prop := varintOnceRow.holds Try.pinned (OpenSpec.ofChange varintOnceSpec)

/-- ITS FALSE NEIGHBOUR: 'it returns false'. Refute it at one input. -/
def varintOnceWrong : ChangeSpec := { name := "varintOnce", fn := fun _ => fun
  | [d1, d2, d3] => { results := [.lit (.bool false)], args := [d1, d2, d3] }
  | _ => none }
def VarintOnceWrongFalsely : Prop := varintOnceRow.holds Try.pinned (OpenSpec.ofChange varintOnceWrong)

/-- 'codesearchlaw04.ChecksumSums': WHATEVER THE INPUT: true; the input reads as it did. -/
def checksumSumsSpec : ChangeSpec := { name := "checksumSums", fn := fun _ => fun
  | [d1, d2] => { results := [.lit (.bool true)], args := [d1, d2] }
  | _ => none }
def checksumSumsRow : OpenClaim := { program := "ytihfpmociffpeaa", sum := "ec8189d7ddde72448ddcafc5dad79a071d7f776d17bcb79d22e99ea47a90c182", func := "codesearch/codesearchlaw04.ChecksumSums", spec := "checksumSums", apart := false }
def ChecksumSumsSaid : Prop := checksumSumsRow.holds Try.pinned (OpenSpec.ofChange checksumSumsSpec)

/-- ITS FALSE NEIGHBOUR: 'it returns false'. Refute it at one input. -/
def checksumSumsWrong : ChangeSpec := { name := "checksumSums", fn := fun _ => fun
  | [d1, d2] => { results := [.lit (.bool false)], args := [d1, d2] }
  | _ => none }
def ChecksumSumsWrongFalsely : Prop := checksumSumsRow.holds Try.pinned (OpenSpec.ofChange checksumSumsWrong)

/-- 'codesearchlaw04.ChecksumSeals': WHATEVER THE INPUT: true; the input reads as it did. -/
def checksumSealsSpec : ChangeSpec := { name := "checksumSeals", fn := fun _ => fun
  | [d] => { results := [.lit (.bool true)], args := [d] }
  | _ => none }
def checksumSealsRow : OpenClaim := { program := "ytihfpmociffpeaa", sum := "ec8189d7ddde72448ddcafc5dad79a071d7f776d17bcb79d22e99ea47a90c182", func := "codesearch/codesearchlaw04.ChecksumSeals", spec := "checksumSeals", apart := false }
def ChecksumSealsSaid : Prop := checksumSealsRow.holds Try.pinned (OpenSpec.ofChange checksumSealsSpec)

/-- ITS FALSE NEIGHBOUR: 'it returns false'. Refute it at one input. -/
def checksumSealsWrong : ChangeSpec := { name := "checksumSeals", fn := fun _ => fun
  | [d] => { results := [.lit (.bool false)], args := [d] }
  | _ => none }
def ChecksumSealsWrongFalsely : Prop := checksumSealsRow.holds Try.pinned (OpenSpec.ofChange checksumSealsWrong)

/-- 'codesearchlaw04.ChecksumOpens': WHATEVER THE INPUT: true; the input reads as it did. -/
def checksumOpensSpec : ChangeSpec := { name := "checksumOpens", fn := fun _ => fun
  | [d1, d2, d3] => { results := [.lit (.bool true)], args := [d1, d2, d3] }
  | _ => none }
def checksumOpensRow : OpenClaim := { program := "ytihfpmociffpeaa", sum := "ec8189d7ddde72448ddcafc5dad79a071d7f776d17bcb79d22e99ea47a90c182", func := "codesearch/codesearchlaw04.ChecksumOpens", spec := "checksumOpens", apart := false }
def ChecksumOpensSaid : Prop := checksumOpensRow.holds Try.pinned (OpenSpec.ofChange checksumOpensSpec)

/-- ITS FALSE NEIGHBOUR: 'it returns false'. Refute it at one input. -/
def checksumOpensWrong : ChangeSpec := { name := "checksumOpens", fn := fun _ => fun
  | [d1, d2, d3] => { results := [.lit (.bool false)], args := [d1, d2, d3] }
  | _ => none }
def ChecksumOpensWrongFalsely : Prop := checksumOpensRow.holds Try.pinned (OpenSpec.ofChange checksumOpensWrong)

/-- 'codesearchlaw04.ChecksumFrames': WHATEVER THE INPUT: true; the input reads as it did. -/
def checksumFramesSpec : ChangeSpec := { name := "checksumFrames", fn := fun _ => fun
  | [d] => { results := [.lit (.bool true)], args := [d] }
  | _ => none }
def checksumFramesRow : OpenClaim := { program := "ytihfpmociffpeaa", sum := "ec8189d7ddde72448ddcafc5dad79a071d7f776d17bcb79d22e99ea47a90c182", func := "codesearch/codesearchlaw04.ChecksumFrames", spec := "checksumFrames", apart := false }
def ChecksumFramesSaid : Prop := checksumFramesRow.holds Try.pinned (OpenSpec.ofChange checksumFramesSpec)

/-- ITS FALSE NEIGHBOUR: 'it returns false'. Refute it at one input. -/
def checksumFramesWrong : ChangeSpec := { name := "checksumFrames", fn := fun _ => fun
  | [d] => { results := [.lit (.bool false)], args := [d] }
  | _ => none }
def ChecksumFramesWrongFalsely : Prop := checksumFramesRow.holds Try.pinned (OpenSpec.ofChange checksumFramesWrong)

/-- 'codesearchlaw04.ChecksumJoins': WHATEVER THE INPUT: true; the input reads as it did. -/
def checksumJoinsSpec : ChangeSpec := { name := "checksumJoins", fn := fun _ => fun
  | [d1, d2, d3] => { results := [.lit (.bool true)], args := [d1, d2, d3] }
  | _ => none }
def checksumJoinsRow : OpenClaim := { program := "ytihfpmociffpeaa", sum := "ec8189d7ddde72448ddcafc5dad79a071d7f776d17bcb79d22e99ea47a90c182", func := "codesearch/codesearchlaw04.ChecksumJoins", spec := "checksumJoins", apart := false }
def ChecksumJoinsSaid : Prop := checksumJoinsRow.holds Try.pinned (OpenSpec.ofChange checksumJoinsSpec)

/-- ITS FALSE NEIGHBOUR: 'it returns false'. Refute it at one input. -/
def checksumJoinsWrong : ChangeSpec := { name := "checksumJoins", fn := fun _ => fun
  | [d1, d2, d3] => { results := [.lit (.bool false)], args := [d1, d2, d3] }
  | _ => none }
def ChecksumJoinsWrongFalsely : Prop := checksumJoinsRow.holds Try.pinned (OpenSpec.ofChange checksumJoinsWrong)

/- THE SECOND FORM. 'bulk': how many values and letters a reading holds, each counted each time it is reached (what is shared counts as often as it is met; a slice's spare places count too). A statement '..UptoSaid' is the law's where the arguments, and the package variables that the reading takes, are together of bulk at most 1048576: NARROWER than '..Said'. Prove '..Said' where nothing that the law and all that it calls make is longer than what came in: it says more and counts as full. Else prove '..UptoSaid'. A law counts once. -/
mutual
def uptoBulk {H : Type} : DataW H → Nat
  | .lit (.string bytes) => bytes.length + 1
  | .lit _ => 1
  | .nil => 1
  | .ptr d => uptoBulk d + 1
  | .slice elems spare => uptoBulkAll elems + uptoBulkAll spare + 1
  | .agg parts => uptoBulkAll parts + 1
  | .iface _ d => uptoBulk d + 1
  | .map entries => uptoBulkEntries entries + 1
  | .held _ => 1
def uptoBulkAll {H : Type} : List (DataW H) → Nat
  | [] => 0
  | d :: r => uptoBulk d + uptoBulkAll r
def uptoBulkEntries {H : Type} : List (Lit × DataW H) → Nat
  | [] => 0
  | x :: r => uptoBulkEntry x + uptoBulkEntries r
def uptoBulkEntry {H : Type} : Lit × DataW H → Nat
  | (.string bytes, d) => bytes.length + uptoBulk d + 1
  | (_, d) => uptoBulk d + 1
 end
def uptoSmall : (H : Type) → List (DataW H) → Bool := fun _ ds => decide (uptoBulkAll ds ≤ 1048576)
def OpenSpec.upto (s : _root_.Go.ChangeSpec) : _root_.Go.OpenSpec := { _root_.Go.OpenSpec.ofChange s with cond := some uptoSmall }

/-- 'codesearchlaw03.VarintPuts', WHERE WHAT IT READS IS OF BULK AT MOST 1048576: true; the input reads as it did. -/
def varintPutsUptoRow : OpenClaim := { program := "ytihfpmociffpeaa", sum := "ec8189d7ddde72448ddcafc5dad79a071d7f776d17bcb79d22e99ea47a90c182", func := "codesearch/codesearchlaw03.VarintPuts", spec := "varintPuts", apart := false, narrowed := true }
def VarintPutsUptoSaid : Prop := varintPutsUptoRow.holds Try.pinned (OpenSpec.upto varintPutsSpec)

/-- 'codesearchlaw03.VarintGets', WHERE WHAT IT READS IS OF BULK AT MOST 1048576: true; the input reads as it did. -/
def varintGetsUptoRow : OpenClaim := { program := "ytihfpmociffpeaa", sum := "ec8189d7ddde72448ddcafc5dad79a071d7f776d17bcb79d22e99ea47a90c182", func := "codesearch/codesearchlaw03.VarintGets", spec := "varintGets", apart := false, narrowed := true }
def VarintGetsUptoSaid : Prop := varintGetsUptoRow.holds Try.pinned (OpenSpec.upto varintGetsSpec)

/-- 'codesearchlaw03.VarintLists', WHERE WHAT IT READS IS OF BULK AT MOST 1048576: true; the input reads as it did. -/
def varintListsUptoRow : OpenClaim := { program := "ytihfpmociffpeaa", sum := "ec8189d7ddde72448ddcafc5dad79a071d7f776d17bcb79d22e99ea47a90c182", func := "codesearch/codesearchlaw03.VarintLists", spec := "varintLists", apart := false, narrowed := true }
def VarintListsUptoSaid : Prop := varintListsUptoRow.holds Try.pinned (OpenSpec.upto varintListsSpec)

/-- 'codesearchlaw03.VarintShort', WHERE WHAT IT READS IS OF BULK AT MOST 1048576: true; the input reads as it did. -/
def varintShortUptoRow : OpenClaim := { program := "ytihfpmociffpeaa", sum := "ec8189d7ddde72448ddcafc5dad79a071d7f776d17bcb79d22e99ea47a90c182", func := "codesearch/codesearchlaw03.VarintShort", spec := "varintShort", apart := false, narrowed := true }
def VarintShortUptoSaid : Prop := varintShortUptoRow.holds Try.pinned (OpenSpec.upto varintShortSpec)

/-- 'codesearchlaw03.VarintReads', WHERE WHAT IT READS IS OF BULK AT MOST 1048576: true; the input reads as it did. -/
def varintReadsUptoRow : OpenClaim := { program := "ytihfpmociffpeaa", sum := "ec8189d7ddde72448ddcafc5dad79a071d7f776d17bcb79d22e99ea47a90c182", func := "codesearch/codesearchlaw03.VarintReads", spec := "varintReads", apart := false, narrowed := true }
def VarintReadsUptoSaid : Prop := varintReadsUptoRow.holds Try.pinned (OpenSpec.upto varintReadsSpec)

/-- 'codesearchlaw03.VarintBack', WHERE WHAT IT READS IS OF BULK AT MOST 1048576: true; the input reads as it did. -/
def varintBackUptoRow : OpenClaim := { program := "ytihfpmociffpeaa", sum := "ec8189d7ddde72448ddcafc5dad79a071d7f776d17bcb79d22e99ea47a90c182", func := "codesearch/codesearchlaw03.VarintBack", spec := "varintBack", apart := false, narrowed := true }
def VarintBackUptoSaid : Prop := varintBackUptoRow.holds Try.pinned (OpenSpec.upto varintBackSpec)

/-- 'codesearchlaw03.VarintOnce', WHERE WHAT IT READS IS OF BULK AT MOST 1048576: true; the input reads as it did. -/
def varintOnceUptoRow : OpenClaim := { program := "ytihfpmociffpeaa", sum := "ec8189d7ddde72448ddcafc5dad79a071d7f776d17bcb79d22e99ea47a90c182", func := "codesearch/codesearchlaw03.VarintOnce", spec := "varintOnce", apart := false, narrowed := true }
def VarintOnceUptoSaid : Prop := varintOnceUptoRow.holds Try.pinned (OpenSpec.upto varintOnceSpec)

/-- 'codesearchlaw04.ChecksumSums', WHERE WHAT IT READS IS OF BULK AT MOST 1048576: true; the input reads as it did. -/
def checksumSumsUptoRow : OpenClaim := { program := "ytihfpmociffpeaa", sum := "ec8189d7ddde72448ddcafc5dad79a071d7f776d17bcb79d22e99ea47a90c182", func := "codesearch/codesearchlaw04.ChecksumSums", spec := "checksumSums", apart := false, narrowed := true }
def ChecksumSumsUptoSaid : Prop := checksumSumsUptoRow.holds Try.pinned (OpenSpec.upto checksumSumsSpec)

/-- 'codesearchlaw04.ChecksumSeals', WHERE WHAT IT READS IS OF BULK AT MOST 1048576: true; the input reads as it did. -/
def checksumSealsUptoRow : OpenClaim := { program := "ytihfpmociffpeaa", sum := "ec8189d7ddde72448ddcafc5dad79a071d7f776d17bcb79d22e99ea47a90c182", func := "codesearch/codesearchlaw04.ChecksumSeals", spec := "checksumSeals", apart := false, narrowed := true }
def ChecksumSealsUptoSaid : Prop := checksumSealsUptoRow.holds Try.pinned (OpenSpec.upto checksumSealsSpec)

/-- 'codesearchlaw04.ChecksumOpens', WHERE WHAT IT READS IS OF BULK AT MOST 1048576: true; the input reads as it did. -/
def checksumOpensUptoRow : OpenClaim := { program := "ytihfpmociffpeaa", sum := "ec8189d7ddde72448ddcafc5dad79a071d7f776d17bcb79d22e99ea47a90c182", func := "codesearch/codesearchlaw04.ChecksumOpens", spec := "checksumOpens", apart := false, narrowed := true }
def ChecksumOpensUptoSaid : Prop := checksumOpensUptoRow.holds Try.pinned (OpenSpec.upto checksumOpensSpec)

/-- 'codesearchlaw04.ChecksumFrames', WHERE WHAT IT READS IS OF BULK AT MOST 1048576: true; the input reads as it did. -/
def checksumFramesUptoRow : OpenClaim := { program := "ytihfpmociffpeaa", sum := "ec8189d7ddde72448ddcafc5dad79a071d7f776d17bcb79d22e99ea47a90c182", func := "codesearch/codesearchlaw04.ChecksumFrames", spec := "checksumFrames", apart := false, narrowed := true }
def ChecksumFramesUptoSaid : Prop := checksumFramesUptoRow.holds Try.pinned (OpenSpec.upto checksumFramesSpec)

/-- 'codesearchlaw04.ChecksumJoins', WHERE WHAT IT READS IS OF BULK AT MOST 1048576: true; the input reads as it did. -/
def checksumJoinsUptoRow : OpenClaim := { program := "ytihfpmociffpeaa", sum := "ec8189d7ddde72448ddcafc5dad79a071d7f776d17bcb79d22e99ea47a90c182", func := "codesearch/codesearchlaw04.ChecksumJoins", spec := "checksumJoins", apart := false, narrowed := true }
def ChecksumJoinsUptoSaid : Prop := checksumJoinsUptoRow.holds Try.pinned (OpenSpec.upto checksumJoinsSpec)

end Rows
end Go.Proofs.Ytihfpmociffpeaa
