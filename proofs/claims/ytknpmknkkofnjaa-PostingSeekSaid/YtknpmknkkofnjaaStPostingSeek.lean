/- What is to be proved of PostingSeek, over numbers and lists alone; how its arguments are read. -/
import Derived.Test.YtknpmknkkofnjaaPx15
import Derived.Test.YtknpmknkkofnjaaQRead
import Derived.KernelRfl
namespace Go.Proofs.Ytknpmknkkofnjaa.StPostingSeek
open Go.RowKit Go.Proofs.Ytknpmknkkofnjaa.P Go.Proofs.Ytknpmknkkofnjaa.Q Go.Proofs.YtknpmknkkofnjaaW.PrintWords Go.Proofs.YtknpmknkkofnjaaW.PrintLast
set_option linter.unusedVariables false
/-- THE PURE STATEMENT. -/
def Pure : Prop := ∀ (U : Nat) (x0 : List Int) (x1 : Int), (x0.length * 8 ≤ 140737488351232 ∧ x0.length ≤ maxLen ∧ x0.length ≤ U ∧ ∀ y ∈ x0, (Lit.int .i64 y).wf = true) → (Lit.int .i64 x1).wf = true → ∃ k, codesearchlaw05_PostingSeek.f k x0 x1 = some true
end Go.Proofs.Ytknpmknkkofnjaa.StPostingSeek
