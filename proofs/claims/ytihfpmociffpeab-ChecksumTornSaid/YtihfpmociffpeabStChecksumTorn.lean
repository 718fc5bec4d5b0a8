/- What is to be proved of ChecksumTorn, over numbers and lists alone; how its arguments are read. -/
import Derived.Test.YtihfpmociffpeabRx6
import Derived.Test.YtihfpmociffpeabQRead
import Derived.KernelRfl
namespace Go.Proofs.Ytihfpmociffpeab.StChecksumTorn
open Go.RowKit Go.Proofs.Ytihfpmociffpeab.R Go.Proofs.Ytihfpmociffpeab.Q Go.Proofs.YtihfpmociffpeabW.PrintWords Go.Proofs.YtihfpmociffpeabW.PrintLast
set_option linter.unusedVariables false
/-- THE PURE STATEMENT. -/
def Pure : Prop := ∀ (U : Nat) (x0 : List (List Int)) (x1 : Int), (x0.length * 24 ≤ 140737488351232 ∧ x0.length ≤ maxLen ∧ x0.length ≤ U ∧ ∀ y ∈ x0, (y.length * 1 ≤ 140737488351232 ∧ y.length ≤ maxLen ∧ y.length ≤ U ∧ ∀ y' ∈ y, (Lit.int .u8 y').wf = true)) → (Lit.int .i64 x1).wf = true → ∃ k, codesearchlaw04_ChecksumTorn.f k x0 x1 = some true
end Go.Proofs.Ytihfpmociffpeab.StChecksumTorn
