/- What is to be proved of PostingCounts, over numbers and lists alone; how its arguments are read. -/
import Derived.Test.YtknpmknkkofnjaaPx8
import Derived.Test.YtknpmknkkofnjaaQRead
import Derived.KernelRfl
namespace Go.Proofs.Ytknpmknkkofnjaa.StPostingCounts
open Go.RowKit Go.Proofs.Ytknpmknkkofnjaa.P Go.Proofs.Ytknpmknkkofnjaa.Q Go.Proofs.YtknpmknkkofnjaaW.PrintWords Go.Proofs.YtknpmknkkofnjaaW.PrintLast
set_option linter.unusedVariables false
/-- THE PURE STATEMENT. -/
def Pure : Prop := ∀ (U : Nat) (x0 : Int) (x1 : List (List Int)), (Lit.int .i64 x0).wf = true → (x1.length * 24 ≤ 140737488351232 ∧ x1.length ≤ maxLen ∧ x1.length ≤ U ∧ ∀ y ∈ x1, (y.length * 8 ≤ 140737488351232 ∧ y.length ≤ maxLen ∧ y.length ≤ U ∧ ∀ y' ∈ y, (Lit.int .i64 y').wf = true)) → ∃ k, codesearchlaw05_PostingCounts.f k x0 x1 = some true
end Go.Proofs.Ytknpmknkkofnjaa.StPostingCounts
