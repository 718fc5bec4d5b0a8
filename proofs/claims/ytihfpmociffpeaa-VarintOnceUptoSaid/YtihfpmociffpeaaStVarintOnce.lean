/- What is to be proved of VarintOnce, over numbers and lists alone; how its arguments are read. -/
import Derived.Test.YtihfpmociffpeaaOx3
import Derived.Test.YtihfpmociffpeaaQRead
import Derived.KernelRfl
namespace Go.Proofs.Ytihfpmociffpeaa.StVarintOnce
open Go.RowKit Go.Proofs.Ytihfpmociffpeaa.O Go.Proofs.Ytihfpmociffpeaa.Q Go.Proofs.YtihfpmociffpeaaW.PrintWords Go.Proofs.YtihfpmociffpeaaW.PrintLast
set_option linter.unusedVariables false
/-- THE PURE STATEMENT (U: a bound on all together). -/
def Pure : Prop := ∀ (U : Nat) (x0 : List Int) (x1 : Int) (x2 : Int), U ≤ 1048576 → (x0.length * 1 ≤ 140737488351232 ∧ x0.length ≤ maxLen ∧ x0.length ≤ U ∧ ∀ y ∈ x0, (Lit.int .u8 y).wf = true) → (Lit.int .i64 x1).wf = true → (Lit.int .i64 x2).wf = true → ∃ k, l03_VarintOnce.f k x0 x1 x2 = some true
end Go.Proofs.Ytihfpmociffpeaa.StVarintOnce
