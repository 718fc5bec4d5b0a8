/- What is to be proved of ChecksumSeals, over numbers and lists alone; how its arguments are read. -/
import Derived.Test.YtihfpmociffpeaaCx4
import Derived.Test.YtihfpmociffpeaaQRead
import Derived.KernelRfl
namespace Go.Proofs.Ytihfpmociffpeaa.StChecksumSeals
open Go.RowKit Go.Proofs.Ytihfpmociffpeaa.C Go.Proofs.Ytihfpmociffpeaa.Q Go.Proofs.YtihfpmociffpeaaW.PrintWords Go.Proofs.YtihfpmociffpeaaW.PrintLast
set_option linter.unusedVariables false
/-- THE PURE STATEMENT. -/
def Pure : Prop := ∀ (U : Nat) (x0 : List Int), (x0.length * 1 ≤ 140737488351232 ∧ x0.length ≤ maxLen ∧ x0.length ≤ U ∧ ∀ y ∈ x0, (Lit.int .u8 y).wf = true) → ∃ k, codesearchlaw04_ChecksumSeals.f k x0 = some true
end Go.Proofs.Ytihfpmociffpeaa.StChecksumSeals
