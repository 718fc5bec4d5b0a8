/- What is to be proved of ChecksumJoins, over numbers and lists alone; how its arguments are read. -/
import Derived.Test.YtihfpmociffpeaaCx7
import Derived.Test.YtihfpmociffpeaaQRead
import Derived.KernelRfl
namespace Go.Proofs.Ytihfpmociffpeaa.StChecksumJoins
open Go.RowKit Go.Proofs.Ytihfpmociffpeaa.C Go.Proofs.Ytihfpmociffpeaa.Q Go.Proofs.YtihfpmociffpeaaW.PrintWords Go.Proofs.YtihfpmociffpeaaW.PrintLast
set_option linter.unusedVariables false
/-- THE PURE STATEMENT. -/
def Pure : Prop := ∀ (U : Nat) (x0 : List Int) (x1 : List Int) (x2 : List Int), (x0.length * 1 ≤ 140737488351232 ∧ x0.length ≤ maxLen ∧ x0.length ≤ U ∧ ∀ y ∈ x0, (Lit.int .u8 y).wf = true) → (x1.length * 1 ≤ 140737488351232 ∧ x1.length ≤ maxLen ∧ x1.length ≤ U ∧ ∀ y ∈ x1, (Lit.int .u8 y).wf = true) → (x2.length * 1 ≤ 140737488351232 ∧ x2.length ≤ maxLen ∧ x2.length ≤ U ∧ ∀ y ∈ x2, (Lit.int .u8 y).wf = true) → ∃ k, codesearchlaw04_ChecksumJoins.f k x0 x1 x2 = some true
end Go.Proofs.Ytihfpmociffpeaa.StChecksumJoins
