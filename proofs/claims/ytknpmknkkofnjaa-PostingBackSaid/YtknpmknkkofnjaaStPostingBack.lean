/- What is to be proved of PostingBack, over numbers and lists alone; how its arguments are read. -/
import Derived.Test.YtknpmknkkofnjaaPx15
import Derived.Test.YtknpmknkkofnjaaQRead
import Derived.KernelRfl
namespace Go.Proofs.Ytknpmknkkofnjaa.StPostingBack
open Go.RowKit Go.Proofs.Ytknpmknkkofnjaa.P Go.Proofs.Ytknpmknkkofnjaa.Q Go.Proofs.YtknpmknkkofnjaaW.PrintWords Go.Proofs.YtknpmknkkofnjaaW.PrintLast
set_option linter.unusedVariables false
/-- THE PURE STATEMENT. -/
def Pure : Prop := ∀ (U : Nat) (x0 : List Int) (x1 : List Int), (x0.length * 8 ≤ 140737488351232 ∧ x0.length ≤ maxLen ∧ x0.length ≤ U ∧ ∀ y ∈ x0, (Lit.int .i64 y).wf = true) → (x1.length * 1 ≤ 140737488351232 ∧ x1.length ≤ maxLen ∧ x1.length ≤ U ∧ ∀ y ∈ x1, (Lit.int .u8 y).wf = true) → ∃ k, codesearchlaw05_PostingBack.f k x0 x1 = some true
end Go.Proofs.Ytknpmknkkofnjaa.StPostingBack
