/- What is to be proved of ChecksumSums, over numbers and lists alone; how its arguments are read. -/
import Derived.Test.YtihfpmociffpeaaCx3
import Derived.Test.YtihfpmociffpeaaQRead
import Derived.KernelRfl
namespace Go.Proofs.Ytihfpmociffpeaa.StChecksumSums
open Go.RowKit Go.Proofs.Ytihfpmociffpeaa.C Go.Proofs.Ytihfpmociffpeaa.Q Go.Proofs.YtihfpmociffpeaaW.PrintWords Go.Proofs.YtihfpmociffpeaaW.PrintLast
set_option linter.unusedVariables false
/-- THE PURE STATEMENT. -/
def Pure : Prop := ∀ (U : Nat) (x0 : Int) (x1 : List Int), (Lit.int .u32 x0).wf = true → (x1.length * 1 ≤ 140737488351232 ∧ x1.length ≤ maxLen ∧ x1.length ≤ U ∧ ∀ y ∈ x1, (Lit.int .u8 y).wf = true) → ∃ k, codesearchlaw04_ChecksumSums.f k x0 x1 = some true
end Go.Proofs.Ytihfpmociffpeaa.StChecksumSums
