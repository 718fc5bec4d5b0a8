/- What is to be proved of TreeMerges, over numbers and lists alone; how its arguments are read. -/
import Derived.Test.YtpnhamfodjfacaaDoorMx13
import Derived.Test.YtpnhamfodjfacaaDoorQRead
import Derived.KernelRfl
namespace Go.Proofs.YtpnhamfodjfacaaDoor.StTreeMerges
open Go.RowKit Go.Proofs.YtpnhamfodjfacaaDoor.M Go.Proofs.YtpnhamfodjfacaaDoor.Q Go.Proofs.YtpnhamfodjfacaaDoorW.PrintWords Go.Proofs.YtpnhamfodjfacaaDoorW.PrintLast
set_option linter.unusedVariables false
def g45 (U : Nat) (x : S45) : Prop := (x.f0.size ≤ 140737488351232 ∧ x.f0.size ≤ U) ∧ (Lit.int .i64 x.f1).wf = true
theorem rd45 : Rd Tryd.prog k45 45 g45 := Rd.struct (ts := [9, 3]) (fun a => (⟨a.1, a.2⟩ : S45)) (fun a => rfl) Tryd.underlying45 (by kernel_rfl) (by kernel_rfl) (RdF.cons (Rd.string Tryd.underlying9) (RdF.one (Rd.int Tryd.underlying3)))
/-- THE PURE STATEMENT. -/
def Pure : Prop := ∀ (U : Nat) (x0 : List (S45)) (x1 : List (S45)) (x2 : List (S45)), (x0.length * 24 ≤ 140737488351232 ∧ x0.length ≤ maxLen ∧ x0.length ≤ U ∧ ∀ y ∈ x0, g45 U y) → (x1.length * 24 ≤ 140737488351232 ∧ x1.length ≤ maxLen ∧ x1.length ≤ U ∧ ∀ y ∈ x1, g45 U y) → (x2.length * 24 ≤ 140737488351232 ∧ x2.length ≤ maxLen ∧ x2.length ≤ U ∧ ∀ y ∈ x2, g45 U y) → ∃ k, codesearchlaw25_TreeMerges.f k x0 x1 x2 = some true
end Go.Proofs.YtpnhamfodjfacaaDoor.StTreeMerges
