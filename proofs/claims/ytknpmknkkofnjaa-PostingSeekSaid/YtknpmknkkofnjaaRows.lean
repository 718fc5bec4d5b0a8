/-
  No cell of these rows narrows 'for every input' (looked for: loops, veiled, ifaces, maps, wideKeys, modest, calm, conditions, laid).
  DERIVED. THE GIVEN ROWS OF THIS SEAT. 7 by the template 'for every input the law returns true; each argument reads behind the call as it read before'; 0 by the template 'total and deterministic' (their statements: YtknpmknkkofnjaaTotals.lean).
  GIVEN WITH THE SEED: the statements are not yours to turn. If you find one false, say at which input.
  Laid BY PROGRAM, IN A SANDBOX (cutbox-rows.mjs): the forced cells as the released guide's own fill.sh prints them over the translation 83ad778ce6bce3f9… (all of the seat's roots in one cut). By AI agents, Wed Nov 11 2026. No macro, syntax, notation, axiom, sorry.
-/
import Derived.Test.YtknpmknkkofnjaaChecked
import GoSem.Claim
import GoSem.ClaimJoined
import GoSem.ClaimMapViews
import Derived.JoinedTies
import Derived.KernelRfl
namespace Go.Proofs.Ytknpmknkkofnjaa
/- THE CELL 'sum', in the pinned program and in every row, IS THE sha256 OF THE DUMP (.gsa) THAT YtknpmknkkofnjaaProg.lean LOADS. Nothing in Lean hashes anything: it is a label: what it is worth is what the hold of that sum in a sandbox is worth. -/
noncomputable def Try.pinned : Pinned := { name := "ytknpmknkkofnjaa", sum := "83ad778ce6bce3f9818807eaf045da45a29724d357f8fb37f5b84d77e9946dc3", checked := Try.checked }
namespace Rows
def none {H : Type} : Left H := { results := [], args := [] }

/-- 'codesearchlaw05.PostingSets': WHATEVER THE INPUT: true; the input reads as it did. -/
def postingSetsSpec : ChangeSpec := { name := "postingSets", fn := fun _ => fun
  | [d1, d2] => { results := [.lit (.bool true)], args := [d1, d2] }
  | _ => none }
def postingSetsRow : OpenClaim := { program := "ytknpmknkkofnjaa", sum := "83ad778ce6bce3f9818807eaf045da45a29724d357f8fb37f5b84d77e9946dc3", func := "codesearch/codesearchlaw05.PostingSets", spec := "postingSets", unfollowed := true, recurses := true, apart := false }
def PostingSetsSaid : Prop := postingSetsRow.holds Try.pinned (OpenSpec.ofChange postingSetsSpec)

/-- ITS FALSE NEIGHBOUR: 'it returns false'. Refute it at one input. -/
def postingSetsWrong : ChangeSpec := { name := "postingSets", fn := fun _ => fun
  | [d1, d2] => { results := [.lit (.bool false)], args := [d1, d2] }
  | _ => none }
def PostingSetsWrongFalsely : Prop := postingSetsRow.holds Try.pinned (OpenSpec.ofChange postingSetsWrong)

/-- 'codesearchlaw05.PostingCounts': WHATEVER THE INPUT: true; the input reads as it did. -/
def postingCountsSpec : ChangeSpec := { name := "postingCounts", fn := fun _ => fun
  | [d1, d2] => { results := [.lit (.bool true)], args := [d1, d2] }
  | _ => none }
def postingCountsRow : OpenClaim := { program := "ytknpmknkkofnjaa", sum := "83ad778ce6bce3f9818807eaf045da45a29724d357f8fb37f5b84d77e9946dc3", func := "codesearch/codesearchlaw05.PostingCounts", spec := "postingCounts", unfollowed := true, recurses := true, apart := false }
def PostingCountsSaid : Prop := postingCountsRow.holds Try.pinned (OpenSpec.ofChange postingCountsSpec)

/-- ITS FALSE NEIGHBOUR: 'it returns false'. Refute it at one input. -/
def postingCountsWrong : ChangeSpec := { name := "postingCounts", fn := fun _ => fun
  | [d1, d2] => { results := [.lit (.bool false)], args := [d1, d2] }
  | _ => none }
def PostingCountsWrongFalsely : Prop := postingCountsRow.holds Try.pinned (OpenSpec.ofChange postingCountsWrong)

/-- 'codesearchlaw05.PostingPacks': WHATEVER THE INPUT: true; the input reads as it did. -/
def postingPacksSpec : ChangeSpec := { name := "postingPacks", fn := fun _ => fun
  | [d1, d2] => { results := [.lit (.bool true)], args := [d1, d2] }
  | _ => none }
def postingPacksRow : OpenClaim := { program := "ytknpmknkkofnjaa", sum := "83ad778ce6bce3f9818807eaf045da45a29724d357f8fb37f5b84d77e9946dc3", func := "codesearch/codesearchlaw05.PostingPacks", spec := "postingPacks", unfollowed := true, recurses := true, apart := false }
def PostingPacksSaid : Prop := postingPacksRow.holds Try.pinned (OpenSpec.ofChange postingPacksSpec)

/-- ITS FALSE NEIGHBOUR: 'it returns false'. Refute it at one input. -/
def postingPacksWrong : ChangeSpec := { name := "postingPacks", fn := fun _ => fun
  | [d1, d2] => { results := [.lit (.bool false)], args := [d1, d2] }
  | _ => none }
def PostingPacksWrongFalsely : Prop := postingPacksRow.holds Try.pinned (OpenSpec.ofChange postingPacksWrong)

/-- 'codesearchlaw05.PostingUnpacks': WHATEVER THE INPUT: true; the input reads as it did. -/
def postingUnpacksSpec : ChangeSpec := { name := "postingUnpacks", fn := fun _ => fun
  | [d1, d2] => { results := [.lit (.bool true)], args := [d1, d2] }
  | _ => none }
def postingUnpacksRow : OpenClaim := { program := "ytknpmknkkofnjaa", sum := "83ad778ce6bce3f9818807eaf045da45a29724d357f8fb37f5b84d77e9946dc3", func := "codesearch/codesearchlaw05.PostingUnpacks", spec := "postingUnpacks", unfollowed := true, recurses := true, apart := false }
def PostingUnpacksSaid : Prop := postingUnpacksRow.holds Try.pinned (OpenSpec.ofChange postingUnpacksSpec)

/-- ITS FALSE NEIGHBOUR: 'it returns false'. Refute it at one input. -/
def postingUnpacksWrong : ChangeSpec := { name := "postingUnpacks", fn := fun _ => fun
  | [d1, d2] => { results := [.lit (.bool false)], args := [d1, d2] }
  | _ => none }
def PostingUnpacksWrongFalsely : Prop := postingUnpacksRow.holds Try.pinned (OpenSpec.ofChange postingUnpacksWrong)

/-- 'codesearchlaw05.PostingLogic': WHATEVER THE INPUT: true; the input reads as it did. -/
def postingLogicSpec : ChangeSpec := { name := "postingLogic", fn := fun _ => fun
  | [d1, d2, d3] => { results := [.lit (.bool true)], args := [d1, d2, d3] }
  | _ => none }
def postingLogicRow : OpenClaim := { program := "ytknpmknkkofnjaa", sum := "83ad778ce6bce3f9818807eaf045da45a29724d357f8fb37f5b84d77e9946dc3", func := "codesearch/codesearchlaw05.PostingLogic", spec := "postingLogic", unfollowed := true, recurses := true, apart := false }
def PostingLogicSaid : Prop := postingLogicRow.holds Try.pinned (OpenSpec.ofChange postingLogicSpec)

/-- ITS FALSE NEIGHBOUR: 'it returns false'. Refute it at one input. -/
def postingLogicWrong : ChangeSpec := { name := "postingLogic", fn := fun _ => fun
  | [d1, d2, d3] => { results := [.lit (.bool false)], args := [d1, d2, d3] }
  | _ => none }
def PostingLogicWrongFalsely : Prop := postingLogicRow.holds Try.pinned (OpenSpec.ofChange postingLogicWrong)

/-- 'codesearchlaw05.PostingBack': WHATEVER THE INPUT: true; the input reads as it did. -/
def postingBackSpec : ChangeSpec := { name := "postingBack", fn := fun _ => fun
  | [d1, d2] => { results := [.lit (.bool true)], args := [d1, d2] }
  | _ => none }
def postingBackRow : OpenClaim := { program := "ytknpmknkkofnjaa", sum := "83ad778ce6bce3f9818807eaf045da45a29724d357f8fb37f5b84d77e9946dc3", func := "codesearch/codesearchlaw05.PostingBack", spec := "postingBack", unfollowed := true, recurses := true, apart := false }
def PostingBackSaid : Prop := postingBackRow.holds Try.pinned (OpenSpec.ofChange postingBackSpec)

/-- ITS FALSE NEIGHBOUR: 'it returns false'. Refute it at one input. -/
def postingBackWrong : ChangeSpec := { name := "postingBack", fn := fun _ => fun
  | [d1, d2] => { results := [.lit (.bool false)], args := [d1, d2] }
  | _ => none }
def PostingBackWrongFalsely : Prop := postingBackRow.holds Try.pinned (OpenSpec.ofChange postingBackWrong)

/-- 'codesearchlaw05.PostingSeek': WHATEVER THE INPUT: true; the input reads as it did. -/
def postingSeekSpec : ChangeSpec := { name := "postingSeek", fn := fun _ => fun
  | [d1, d2] => { results := [.lit (.bool true)], args := [d1, d2] }
  | _ => none }
def postingSeekRow : OpenClaim := { program := "ytknpmknkkofnjaa", sum := "83ad778ce6bce3f9818807eaf045da45a29724d357f8fb37f5b84d77e9946dc3", func := "codesearch/codesearchlaw05.PostingSeek", spec := "postingSeek", unfollowed := true, recurses := true, apart := false }
def PostingSeekSaid : Prop := postingSeekRow.holds Try.pinned (OpenSpec.ofChange postingSeekSpec)

/-- ITS FALSE NEIGHBOUR: 'it returns false'. Refute it at one input. -/
def postingSeekWrong : ChangeSpec := { name := "postingSeek", fn := fun _ => fun
  | [d1, d2] => { results := [.lit (.bool false)], args := [d1, d2] }
  | _ => none }
def PostingSeekWrongFalsely : Prop := postingSeekRow.holds Try.pinned (OpenSpec.ofChange postingSeekWrong)

/- THE SECOND FORM. 'bulk': how many values and letters a reading holds, each counted each time it is reached (what is shared counts as often as it is met; a slice's spare places count too). A statement '..UptoSaid' is the law's where the arguments, and the package variables that the reading takes, are together of bulk at most 1048576: NARROWER than '..Said'. Prove '..Said' where nothing that the law and all that it calls make is longer than what came in: it says more and counts as full. Else prove '..UptoSaid'. A law counts once. -/
mutual
def uptoBulk {H : Type} : DataW H → Nat
  | .lit (.string bytes) => bytes.length + 1
  | .lit _ => 1
  | .nil => 1
  | .ptr d => uptoBulk d + 1
  | .slice elems spare => uptoBulkAll elems + uptoBulkAll spare + 1
  | .agg parts => uptoBulkAll parts + 1
  | .iface _ d => uptoBulk d + 1
  | .map entries => uptoBulkEntries entries + 1
  | .held _ => 1
def uptoBulkAll {H : Type} : List (DataW H) → Nat
  | [] => 0
  | d :: r => uptoBulk d + uptoBulkAll r
def uptoBulkEntries {H : Type} : List (Lit × DataW H) → Nat
  | [] => 0
  | x :: r => uptoBulkEntry x + uptoBulkEntries r
def uptoBulkEntry {H : Type} : Lit × DataW H → Nat
  | (.string bytes, d) => bytes.length + uptoBulk d + 1
  | (_, d) => uptoBulk d + 1
 end
def uptoSmall : (H : Type) → List (DataW H) → Bool := fun _ ds => decide (uptoBulkAll ds ≤ 1048576)
def OpenSpec.upto (s : _root_.Go.ChangeSpec) : _root_.Go.OpenSpec := { _root_.Go.OpenSpec.ofChange s with cond := some uptoSmall }

/-- 'codesearchlaw05.PostingSets', WHERE WHAT IT READS IS OF BULK AT MOST 1048576: true; the input reads as it did. -/
def postingSetsUptoRow : OpenClaim := { program := "ytknpmknkkofnjaa", sum := "83ad778ce6bce3f9818807eaf045da45a29724d357f8fb37f5b84d77e9946dc3", func := "codesearch/codesearchlaw05.PostingSets", spec := "postingSets", unfollowed := true, recurses := true, apart := false, narrowed := true }
def PostingSetsUptoSaid : Prop := postingSetsUptoRow.holds Try.pinned (OpenSpec.upto postingSetsSpec)

/-- 'codesearchlaw05.PostingCounts', WHERE WHAT IT READS IS OF BULK AT MOST 1048576: true; the input reads as it did. -/
def postingCountsUptoRow : OpenClaim := { program := "ytknpmknkkofnjaa", sum := "83ad778ce6bce3f9818807eaf045da45a29724d357f8fb37f5b84d77e9946dc3", func := "codesearch/codesearchlaw05.PostingCounts", spec := "postingCounts", unfollowed := true, recurses := true, apart := false, narrowed := true }
def PostingCountsUptoSaid : Prop := postingCountsUptoRow.holds Try.pinned (OpenSpec.upto postingCountsSpec)

/-- 'codesearchlaw05.PostingPacks', WHERE WHAT IT READS IS OF BULK AT MOST 1048576: true; the input reads as it did. -/
def postingPacksUptoRow : OpenClaim := { program := "ytknpmknkkofnjaa", sum := "83ad778ce6bce3f9818807eaf045da45a29724d357f8fb37f5b84d77e9946dc3", func := "codesearch/codesearchlaw05.PostingPacks", spec := "postingPacks", unfollowed := true, recurses := true, apart := false, narrowed := true }
def PostingPacksUptoSaid : Prop := postingPacksUptoRow.holds Try.pinned (OpenSpec.upto postingPacksSpec)

/-- 'codesearchlaw05.PostingUnpacks', WHERE WHAT IT READS IS OF BULK AT MOST 1048576: true; the input reads as it did. -/
def postingUnpacksUptoRow : OpenClaim := { program := "ytknpmknkkofnjaa", sum := "83ad778ce6bce3f9818807eaf045da45a29724d357f8fb37f5b84d77e9946dc3", func := "codesearch/codesearchlaw05.PostingUnpacks", spec := "postingUnpacks", unfollowed := true, recurses := true, apart := false, narrowed := true }
def PostingUnpacksUptoSaid : Prop := postingUnpacksUptoRow.holds Try.pinned (OpenSpec.upto postingUnpacksSpec)

/-- 'codesearchlaw05.PostingLogic', WHERE WHAT IT READS IS OF BULK AT MOST 1048576: true; the input reads as it did. -/
def postingLogicUptoRow : OpenClaim := { program := "ytknpmknkkofnjaa", sum := "83ad778ce6bce3f9818807eaf045da45a29724d357f8fb37f5b84d77e9946dc3", func := "codesearch/codesearchlaw05.PostingLogic", spec := "postingLogic", unfollowed := true, recurses := true, apart := false, narrowed := true }
def PostingLogicUptoSaid : Prop := postingLogicUptoRow.holds Try.pinned (OpenSpec.upto postingLogicSpec)

/-- 'codesearchlaw05.PostingBack', WHERE WHAT IT READS IS OF BULK AT MOST 1048576: true; the input reads as it did. -/
def postingBackUptoRow : OpenClaim := { program := "ytknpmknkkofnjaa", sum := "83ad778ce6bce3f9818807eaf045da45a29724d357f8fb37f5b84d77e9946dc3", func := "codesearch/codesearchlaw05.PostingBack", spec := "postingBack", unfollowed := true, recurses := true, apart := false, narrowed := true }
def PostingBackUptoSaid : Prop := postingBackUptoRow.holds Try.pinned (OpenSpec.upto postingBackSpec)

/-- 'codesearchlaw05.PostingSeek', WHERE WHAT IT READS IS OF BULK AT MOST 1048576: true; the input reads as it did. -/
def postingSeekUptoRow : OpenClaim := { program := "ytknpmknkkofnjaa", sum := "83ad778ce6bce3f9818807eaf045da45a29724d357f8fb37f5b84d77e9946dc3", func := "codesearch/codesearchlaw05.PostingSeek", spec := "postingSeek", unfollowed := true, recurses := true, apart := false, narrowed := true }
def PostingSeekUptoSaid : Prop := postingSeekUptoRow.holds Try.pinned (OpenSpec.upto postingSeekSpec)

end Rows
end Go.Proofs.Ytknpmknkkofnjaa
