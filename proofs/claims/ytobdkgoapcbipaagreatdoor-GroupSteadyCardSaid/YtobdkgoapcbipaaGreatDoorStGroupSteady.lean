/- What is to be proved of GroupSteady, over numbers and lists alone; how its arguments are read. -/
import Derived.Test.YtobdkgoapcbipaaGreatDoorJx22
import Derived.Test.YtobdkgoapcbipaaGreatDoorQRead
import Derived.KernelRfl
namespace Go.Proofs.YtobdkgoapcbipaaGreatDoor.StGroupSteady
open Go.RowKit Go.Proofs.YtobdkgoapcbipaaGreatDoor.J Go.Proofs.YtobdkgoapcbipaaGreatDoor.Q Go.Proofs.YtobdkgoapcbipaaGreatDoorW.PrintWords Go.Proofs.YtobdkgoapcbipaaGreatDoorW.PrintLast
set_option linter.unusedVariables false
def g36 (U : Nat) (x : S36) : Prop := (x.f0.size ≤ 140737488351232 ∧ x.f0.size ≤ U) ∧ (x.f1.length * 8 ≤ 140737488351232 ∧ x.f1.length ≤ maxLen ∧ x.f1.length ≤ U ∧ ∀ y ∈ x.f1, (Lit.int .i64 y).wf = true) ∧ (x.f2.length * 16 ≤ 140737488351232 ∧ x.f2.length ≤ maxLen ∧ x.f2.length ≤ U ∧ ∀ y ∈ x.f2, (y.size ≤ 140737488351232 ∧ y.size ≤ U))
theorem rd36 : Rd Tryz.prog k36 36 g36 := Rd.struct (ts := [9, 28, 31]) (fun a => (⟨a.1, a.2.1, a.2.2⟩ : S36)) (fun a => rfl) Tryz.underlying36 (by kernel_rfl) (by kernel_rfl) (RdF.cons (Rd.string Tryz.underlying9) (RdF.cons (Rd.slice (B := 8) Tryz.underlying28 (by kernel_rfl) (by kernel_rfl) (Rd.int Tryz.underlying3)) (RdF.one (Rd.slice (B := 16) Tryz.underlying31 (by kernel_rfl) (by kernel_rfl) (Rd.string Tryz.underlying9)))))
theorem h36 : Kd.Heap k36 := Kd.heap_iso _ (Kd.heap_pair Kd.heap_string (Kd.heap_pair (Kd.heap_slice 3 (Kd.heap_int .i64)) (Kd.heap_slice 9 Kd.heap_string)))
/-- THE PURE STATEMENT. -/
def Pure : Prop := ∀ (U : Nat) (x0 : List (S36)) (x1 : S36), (x0.length * 64 ≤ 140737488351232 ∧ x0.length ≤ maxLen ∧ x0.length ≤ U ∧ ∀ y ∈ x0, g36 U y) → g36 U x1 → ∃ k, l43_GroupSteady.f k x0 x1.f0 x1.f1 x1.f2 = some true
end Go.Proofs.YtobdkgoapcbipaaGreatDoor.StGroupSteady
