/- What is to be proved of PostingLogic, over numbers and lists alone; how its arguments are read. -/
import Derived.Test.YtknpmknkkofnjaaPx14
import Derived.Test.YtknpmknkkofnjaaQRead
import Derived.KernelRfl
namespace Go.Proofs.Ytknpmknkkofnjaa.StPostingLogic
open Go.RowKit Go.Proofs.Ytknpmknkkofnjaa.P Go.Proofs.Ytknpmknkkofnjaa.Q Go.Proofs.YtknpmknkkofnjaaW.PrintWords Go.Proofs.YtknpmknkkofnjaaW.PrintLast
set_option linter.unusedVariables false
/-- THE PURE STATEMENT. -/
def Pure : Prop := ∀ (U : Nat) (x0 : List Int) (x1 : List Int) (x2 : Int), (x0.length * 8 ≤ 140737488351232 ∧ x0.length ≤ maxLen ∧ x0.length ≤ U ∧ ∀ y ∈ x0, (Lit.int .i64 y).wf = true) → (x1.length * 8 ≤ 140737488351232 ∧ x1.length ≤ maxLen ∧ x1.length ≤ U ∧ ∀ y ∈ x1, (Lit.int .i64 y).wf = true) → (Lit.int .i64 x2).wf = true → ∃ k, codesearchlaw05_PostingLogic.f k x0 x1 x2 = some true
end Go.Proofs.Ytknpmknkkofnjaa.StPostingLogic
