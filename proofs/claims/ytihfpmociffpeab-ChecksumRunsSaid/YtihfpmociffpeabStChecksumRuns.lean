/- What is to be proved of ChecksumRuns, over numbers and lists alone; how its arguments are read. -/
import Derived.Test.YtihfpmociffpeabRx5
import Derived.Test.YtihfpmociffpeabQRead
import Derived.KernelRfl
namespace Go.Proofs.Ytihfpmociffpeab.StChecksumRuns
open Go.RowKit Go.Proofs.Ytihfpmociffpeab.R Go.Proofs.Ytihfpmociffpeab.Q Go.Proofs.YtihfpmociffpeabW.PrintWords Go.Proofs.YtihfpmociffpeabW.PrintLast
set_option linter.unusedVariables false
/-- THE PURE STATEMENT. -/
def Pure : Prop := ∀ (U : Nat) (x0 : List Int) (x1 : Int), (x0.length * 1 ≤ 140737488351232 ∧ x0.length ≤ maxLen ∧ x0.length ≤ U ∧ ∀ y ∈ x0, (Lit.int .u8 y).wf = true) → (Lit.int .i64 x1).wf = true → ∃ k, codesearchlaw04_ChecksumRuns.f k x0 x1 = some true
end Go.Proofs.Ytihfpmociffpeab.StChecksumRuns
