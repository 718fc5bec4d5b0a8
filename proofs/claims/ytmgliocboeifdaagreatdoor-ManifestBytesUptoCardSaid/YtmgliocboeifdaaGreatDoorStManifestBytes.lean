/- What is to be proved of ManifestBytes, over numbers and lists alone; how its arguments are read. -/
import Derived.Test.YtmgliocboeifdaaGreatDoorFx20
import Derived.Test.YtmgliocboeifdaaGreatDoorQRead
import Derived.KernelRfl
namespace Go.Proofs.YtmgliocboeifdaaGreatDoor.StManifestBytes
open Go.RowKit Go.Proofs.YtmgliocboeifdaaGreatDoor.F Go.Proofs.YtmgliocboeifdaaGreatDoor.Q Go.Proofs.YtmgliocboeifdaaGreatDoorW.PrintWords Go.Proofs.YtmgliocboeifdaaGreatDoorW.PrintLast
set_option linter.unusedVariables false
def g30 (U : Nat) (x : S30) : Prop := (Lit.int .i64 x.f0).wf = true ∧ (Lit.int .i64 x.f1).wf = true ∧ (Lit.int .i64 x.f2).wf = true ∧ (x.f3.length * 8 ≤ 140737488351232 ∧ x.f3.length ≤ maxLen ∧ x.f3.length ≤ U ∧ ∀ y ∈ x.f3, (Lit.int .i64 y).wf = true) ∧ (x.f4.length * 8 ≤ 140737488351232 ∧ x.f4.length ≤ maxLen ∧ x.f4.length ≤ U ∧ ∀ y ∈ x.f4, (Lit.int .i64 y).wf = true) ∧ (x.f5.length * 16 ≤ 140737488351232 ∧ x.f5.length ≤ maxLen ∧ x.f5.length ≤ U ∧ ∀ y ∈ x.f5, (y.size ≤ 140737488351232 ∧ y.size ≤ U))
theorem rd30 : Rd Tryz.prog k30 30 g30 := Rd.struct (ts := [3, 3, 3, 27, 27, 28]) (fun a => (⟨a.1, a.2.1, a.2.2.1, a.2.2.2.1, a.2.2.2.2.1, a.2.2.2.2.2⟩ : S30)) (fun a => rfl) Tryz.underlying30 (by kernel_rfl) (by kernel_rfl) (RdF.cons (Rd.int Tryz.underlying3) (RdF.cons (Rd.int Tryz.underlying3) (RdF.cons (Rd.int Tryz.underlying3) (RdF.cons (Rd.slice (B := 8) Tryz.underlying27 (by kernel_rfl) (by kernel_rfl) (Rd.int Tryz.underlying3)) (RdF.cons (Rd.slice (B := 8) Tryz.underlying27 (by kernel_rfl) (by kernel_rfl) (Rd.int Tryz.underlying3)) (RdF.one (Rd.slice (B := 16) Tryz.underlying28 (by kernel_rfl) (by kernel_rfl) (Rd.string Tryz.underlying9))))))))
/-- THE PURE STATEMENT (U: a bound on all together). -/
def Pure : Prop := ∀ (U : Nat) (x0 : S30) (x1 : List Int), U ≤ 1048576 → g30 U x0 → (x1.length * 1 ≤ 140737488351232 ∧ x1.length ≤ maxLen ∧ x1.length ≤ U ∧ ∀ y ∈ x1, (Lit.int .u8 y).wf = true) → ∃ k, l33_ManifestBytes.f k x0.f0 x0.f1 x0.f2 x0.f3 x0.f4 x0.f5 x1 = some true
end Go.Proofs.YtmgliocboeifdaaGreatDoor.StManifestBytes
