/- What is to be proved of ManifestFrames, over numbers and lists alone; how its arguments are read. -/
import Derived.Test.YtmgliocboeifdaaGreatDoorFx24
import Derived.Test.YtmgliocboeifdaaGreatDoorQRead
import Derived.KernelRfl
namespace Go.Proofs.YtmgliocboeifdaaGreatDoor.StManifestFrames
open Go.RowKit Go.Proofs.YtmgliocboeifdaaGreatDoor.F Go.Proofs.YtmgliocboeifdaaGreatDoor.Q Go.Proofs.YtmgliocboeifdaaGreatDoorW.PrintWords Go.Proofs.YtmgliocboeifdaaGreatDoorW.PrintLast
set_option linter.unusedVariables false
def g30 (U : Nat) (x : S30) : Prop := (Lit.int .i64 x.f0).wf = true ∧ (Lit.int .i64 x.f1).wf = true ∧ (Lit.int .i64 x.f2).wf = true ∧ (x.f3.length * 8 ≤ 140737488351232 ∧ x.f3.length ≤ maxLen ∧ x.f3.length ≤ U ∧ ∀ y ∈ x.f3, (Lit.int .i64 y).wf = true) ∧ (x.f4.length * 8 ≤ 140737488351232 ∧ x.f4.length ≤ maxLen ∧ x.f4.length ≤ U ∧ ∀ y ∈ x.f4, (Lit.int .i64 y).wf = true) ∧ (x.f5.length * 16 ≤ 140737488351232 ∧ x.f5.length ≤ maxLen ∧ x.f5.length ≤ U ∧ ∀ y ∈ x.f5, (y.size ≤ 140737488351232 ∧ y.size ≤ U))
theorem rd30 : Rd Tryz.prog k30 30 g30 := Rd.struct (ts := [3, 3, 3, 27, 27, 28]) (fun a => (⟨a.1, a.2.1, a.2.2.1, a.2.2.2.1, a.2.2.2.2.1, a.2.2.2.2.2⟩ : S30)) (fun a => rfl) Tryz.underlying30 (by kernel_rfl) (by kernel_rfl) (RdF.cons (Rd.int Tryz.underlying3) (RdF.cons (Rd.int Tryz.underlying3) (RdF.cons (Rd.int Tryz.underlying3) (RdF.cons (Rd.slice (B := 8) Tryz.underlying27 (by kernel_rfl) (by kernel_rfl) (Rd.int Tryz.underlying3)) (RdF.cons (Rd.slice (B := 8) Tryz.underlying27 (by kernel_rfl) (by kernel_rfl) (Rd.int Tryz.underlying3)) (RdF.one (Rd.slice (B := 16) Tryz.underlying28 (by kernel_rfl) (by kernel_rfl) (Rd.string Tryz.underlying9))))))))
/-- THE PURE STATEMENT (U: a bound on all together). -/
def Pure : Prop := ∀ (U : Nat) (x0 : List (S30)) (x1 : List Int), U ≤ 1048576 → (x0.length * 96 ≤ 140737488351232 ∧ x0.length ≤ maxLen ∧ x0.length ≤ U ∧ ∀ y ∈ x0, g30 U y) → (x1.length * 1 ≤ 140737488351232 ∧ x1.length ≤ maxLen ∧ x1.length ≤ U ∧ ∀ y ∈ x1, (Lit.int .u8 y).wf = true) → ∃ k, l33_ManifestFrames.f k x0 x1 = some true
end Go.Proofs.YtmgliocboeifdaaGreatDoor.StManifestFrames
