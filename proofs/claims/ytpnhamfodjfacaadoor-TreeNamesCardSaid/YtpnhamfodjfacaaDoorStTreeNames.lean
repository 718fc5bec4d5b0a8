/- What is to be proved of TreeNames, over numbers and lists alone; how its arguments are read. -/
import Derived.Test.YtpnhamfodjfacaaDoorNx13
import Derived.Test.YtpnhamfodjfacaaDoorQRead
import Derived.KernelRfl
namespace Go.Proofs.YtpnhamfodjfacaaDoor.StTreeNames
open Go.RowKit Go.Proofs.YtpnhamfodjfacaaDoor.N Go.Proofs.YtpnhamfodjfacaaDoor.Q Go.Proofs.YtpnhamfodjfacaaDoorW.PrintWords Go.Proofs.YtpnhamfodjfacaaDoorW.PrintLast
set_option linter.unusedVariables false
def g45 (U : Nat) (x : S45) : Prop := (x.f0.size ≤ 140737488351232 ∧ x.f0.size ≤ U) ∧ (Lit.int .i64 x.f1).wf = true
theorem rd45 : Rd Tryd.prog k45 45 g45 := Rd.struct (ts := [9, 3]) (fun a => (⟨a.1, a.2⟩ : S45)) (fun a => rfl) Tryd.underlying45 (by kernel_rfl) (by kernel_rfl) (RdF.cons (Rd.string Tryd.underlying9) (RdF.one (Rd.int Tryd.underlying3)))
/-- THE PURE STATEMENT. -/
def Pure : Prop := ∀ (U : Nat) (x0 : List (S45)) (x1 : ByteArray), (x0.length * 24 ≤ 140737488351232 ∧ x0.length ≤ maxLen ∧ x0.length ≤ U ∧ ∀ y ∈ x0, g45 U y) → (x1.size ≤ 140737488351232 ∧ x1.size ≤ U) → ∃ k, codesearchlaw25_TreeNames.f k x0 x1 = some true
end Go.Proofs.YtpnhamfodjfacaaDoor.StTreeNames
