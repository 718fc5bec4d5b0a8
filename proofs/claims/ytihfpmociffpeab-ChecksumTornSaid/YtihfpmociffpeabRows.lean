/-
  No cell of these rows narrows 'for every input' (looked for: loops, veiled, ifaces, maps, wideKeys, modest, calm, conditions, laid).
  DERIVED. THE GIVEN ROWS OF THIS SEAT. 2 by the template 'for every input the law returns true; each argument reads behind the call as it read before'; 0 by the template 'total and deterministic' (their statements: YtihfpmociffpeabTotals.lean).
  GIVEN WITH THE SEED: the statements are not yours to turn. If you find one false, say at which input.
  Laid BY PROGRAM, IN A SANDBOX (cutbox-rows.mjs): the forced cells as the released guide's own fill.sh prints them over the translation aceec64ed6cf3435… (all of the seat's roots in one cut). By AI agents, Wed Nov 11 2026. No macro, syntax, notation, axiom, sorry.
-/
import Derived.Test.YtihfpmociffpeabChecked
import GoSem.Claim
import GoSem.ClaimJoined
import GoSem.ClaimMapViews
import Derived.JoinedTies
import Derived.KernelRfl
namespace Go.Proofs.Ytihfpmociffpeab
/- THE CELL 'sum', in the pinned program and in every row, IS THE sha256 OF THE DUMP (.gsa) THAT YtihfpmociffpeabProg.lean LOADS. Nothing in Lean hashes anything: it is a label: what it is worth is what the hold of that sum in a sandbox is worth. -/
noncomputable def Try.pinned : Pinned := { name := "ytihfpmociffpeab", sum := "aceec64ed6cf34355f84ce6de4c424667c81c10c2558a6607ae8faaee0615f1c", checked := Try.checked }
namespace Rows
def none {H : Type} : Left H := { results := [], args := [] }

/-- 'codesearchlaw04.ChecksumRuns': WHATEVER THE INPUT: true; the input reads as it did. -/
def checksumRunsSpec : ChangeSpec := { name := "checksumRuns", fn := fun _ => fun
  | [d1, d2] => { results := [.lit (.bool true)], args := [d1, d2] }
  | _ => none }
def checksumRunsRow : OpenClaim := { program := "ytihfpmociffpeab", sum := "aceec64ed6cf34355f84ce6de4c424667c81c10c2558a6607ae8faaee0615f1c", func := "codesearch/codesearchlaw04.ChecksumRuns", spec := "checksumRuns", apart := false }
def ChecksumRunsSaid : Prop := checksumRunsRow.holds Try.pinned (OpenSpec.ofChange checksumRunsSpec)

/-- ITS FALSE NEIGHBOUR: 'it returns false'. Refute it at one input. -/
def checksumRunsWrong : ChangeSpec := { name := "checksumRuns", fn := fun _ => fun
  | [d1, d2] => { results := [.lit (.bool false)], args := [d1, d2] }
  | _ => none }
def ChecksumRunsWrongFalsely : Prop := checksumRunsRow.holds Try.pinned (OpenSpec.ofChange checksumRunsWrong)

/-- 'codesearchlaw04.ChecksumTorn': WHATEVER THE INPUT: true; the input reads as it did. -/
def checksumTornSpec : ChangeSpec := { name := "checksumTorn", fn := fun _ => fun
  | [d1, d2] => { results := [.lit (.bool true)], args := [d1, d2] }
  | _ => none }
def checksumTornRow : OpenClaim := { program := "ytihfpmociffpeab", sum := "aceec64ed6cf34355f84ce6de4c424667c81c10c2558a6607ae8faaee0615f1c", func := "codesearch/codesearchlaw04.ChecksumTorn", spec := "checksumTorn", apart := false }
def ChecksumTornSaid : Prop := checksumTornRow.holds Try.pinned (OpenSpec.ofChange checksumTornSpec)

/-- ITS FALSE NEIGHBOUR: 'it returns false'. Refute it at one input. -/
def checksumTornWrong : ChangeSpec := { name := "checksumTorn", fn := fun _ => fun
  | [d1, d2] => { results := [.lit (.bool false)], args := [d1, d2] }
  | _ => none }
def ChecksumTornWrongFalsely : Prop := checksumTornRow.holds Try.pinned (OpenSpec.ofChange checksumTornWrong)

/- THE SECOND FORM. 'bulk': how many values and letters a reading holds, each counted each time it is reached (what is shared counts as often as it is met; a slice's spare places count too). A statement '..UptoSaid' is the law's where the arguments, and the package variables that the reading takes, are together of bulk at most 1048576: NARROWER than '..Said'. Prove '..Said' where nothing that the law and all that it calls make is longer than what came in: it says more and counts as full. Else prove '..UptoSaid'. A law counts once. -/
mutual
def uptoBulk {H : Type} : DataW H → Nat
  | .lit (.string bytes) => bytes.length + 1
  | .lit _ => 1
  | .nil => 1
  | .ptr d => uptoBulk d + 1
  | .slice elems spare => uptoBulkAll elems + uptoBulkAll spare + 1
  | .agg parts => uptoBulkAll parts + 1
  | .iface _ d => uptoBulk d + 1
  | .map entries => uptoBulkEntries entries + 1
  | .held _ => 1
def uptoBulkAll {H : Type} : List (DataW H) → Nat
  | [] => 0
  | d :: r => uptoBulk d + uptoBulkAll r
def uptoBulkEntries {H : Type} : List (Lit × DataW H) → Nat
  | [] => 0
  | x :: r => uptoBulkEntry x + uptoBulkEntries r
def uptoBulkEntry {H : Type} : Lit × DataW H → Nat
  | (.string bytes, d) => bytes.length + uptoBulk d + 1
  | (_, d) => uptoBulk d + 1
 end
def uptoSmall : (H : Type) → List (DataW H) → Bool := fun _ ds => decide (uptoBulkAll ds ≤ 1048576)
def OpenSpec.upto (s : _root_.Go.ChangeSpec) : _root_.Go.OpenSpec := { _root_.Go.OpenSpec.ofChange s with cond := some uptoSmall }

/-- 'codesearchlaw04.ChecksumRuns', WHERE WHAT IT READS IS OF BULK AT MOST 1048576: true; the input reads as it did. -/
def checksumRunsUptoRow : OpenClaim := { program := "ytihfpmociffpeab", sum := "aceec64ed6cf34355f84ce6de4c424667c81c10c2558a6607ae8faaee0615f1c", func := "codesearch/codesearchlaw04.ChecksumRuns", spec := "checksumRuns", apart := false, narrowed := true }
def ChecksumRunsUptoSaid : Prop := checksumRunsUptoRow.holds Try.pinned (OpenSpec.upto checksumRunsSpec)

/-- 'codesearchlaw04.ChecksumTorn', WHERE WHAT IT READS IS OF BULK AT MOST 1048576: true; the input reads as it did. -/
def checksumTornUptoRow : OpenClaim := { program := "ytihfpmociffpeab", sum := "aceec64ed6cf34355f84ce6de4c424667c81c10c2558a6607ae8faaee0615f1c", func := "codesearch/codesearchlaw04.ChecksumTorn", spec := "checksumTorn", apart := false, narrowed := true }
def ChecksumTornUptoSaid : Prop := checksumTornUptoRow.holds Try.pinned (OpenSpec.upto checksumTornSpec)

end Rows
end Go.Proofs.Ytihfpmociffpeab
