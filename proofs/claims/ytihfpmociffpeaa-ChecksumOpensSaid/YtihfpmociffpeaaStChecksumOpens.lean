/- What is to be proved of ChecksumOpens, over numbers and lists alone; how its arguments are read. -/
import Derived.Test.YtihfpmociffpeaaCx5
import Derived.Test.YtihfpmociffpeaaQRead
import Derived.KernelRfl
namespace Go.Proofs.Ytihfpmociffpeaa.StChecksumOpens
open Go.RowKit Go.Proofs.Ytihfpmociffpeaa.C Go.Proofs.Ytihfpmociffpeaa.Q Go.Proofs.YtihfpmociffpeaaW.PrintWords Go.Proofs.YtihfpmociffpeaaW.PrintLast
set_option linter.unusedVariables false
/-- THE PURE STATEMENT. -/
def Pure : Prop := ∀ (U : Nat) (x0 : List Int) (x1 : Int) (x2 : Int), (x0.length * 1 ≤ 140737488351232 ∧ x0.length ≤ maxLen ∧ x0.length ≤ U ∧ ∀ y ∈ x0, (Lit.int .u8 y).wf = true) → (Lit.int .i64 x1).wf = true → (Lit.int .i64 x2).wf = true → ∃ k, codesearchlaw04_ChecksumOpens.f k x0 x1 x2 = some true
end Go.Proofs.Ytihfpmociffpeaa.StChecksumOpens
