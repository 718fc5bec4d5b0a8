/- What is to be proved of HistoryFiles, over numbers and lists alone; how its arguments are read. -/
import Derived.Test.YtgadbpljlpclnaaGreatDoorHx20
import Derived.Test.YtgadbpljlpclnaaGreatDoorQRead
import Derived.KernelRfl
namespace Go.Proofs.YtgadbpljlpclnaaGreatDoor.StHistoryFiles
open Go.RowKit Go.Proofs.YtgadbpljlpclnaaGreatDoor.H Go.Proofs.YtgadbpljlpclnaaGreatDoor.Q Go.Proofs.YtgadbpljlpclnaaGreatDoorW.PrintWords Go.Proofs.YtgadbpljlpclnaaGreatDoorW.PrintLast
set_option linter.unusedVariables false
def g53 (U : Nat) (x : S53) : Prop := (x.f0.size ≤ 140737488351232 ∧ x.f0.size ≤ U) ∧ (Lit.int .i64 x.f1).wf = true
theorem rd53 : Rd Tryz.prog k53 53 g53 := Rd.struct (ts := [9, 3]) (fun a => (⟨a.1, a.2⟩ : S53)) (fun a => rfl) Tryz.underlying53 (by kernel_rfl) (by kernel_rfl) (RdF.cons (Rd.string Tryz.underlying9) (RdF.one (Rd.int Tryz.underlying3)))
def g28 (U : Nat) (x : S28) : Prop := (Lit.int .i64 x.f0).wf = true ∧ (x.f1.length * 8 ≤ 140737488351232 ∧ x.f1.length ≤ maxLen ∧ x.f1.length ≤ U ∧ ∀ y ∈ x.f1, (Lit.int .i64 y).wf = true) ∧ (x.f2.length * 24 ≤ 140737488351232 ∧ x.f2.length ≤ maxLen ∧ x.f2.length ≤ U ∧ ∀ y ∈ x.f2, g53 U y) ∧ (Lit.int .i64 x.f3).wf = true ∧ (Lit.int .i64 x.f4).wf = true
theorem rd28 : Rd Tryz.prog k28 28 g28 := Rd.struct (ts := [3, 25, 26, 3, 3]) (fun a => (⟨a.1, a.2.1, a.2.2.1, a.2.2.2.1, a.2.2.2.2⟩ : S28)) (fun a => rfl) Tryz.underlying28 (by kernel_rfl) (by kernel_rfl) (RdF.cons (Rd.int Tryz.underlying3) (RdF.cons (Rd.slice (B := 8) Tryz.underlying25 (by kernel_rfl) (by kernel_rfl) (Rd.int Tryz.underlying3)) (RdF.cons (Rd.slice (B := 24) Tryz.underlying26 (by kernel_rfl) (by kernel_rfl) rd53) (RdF.cons (Rd.int Tryz.underlying3) (RdF.one (Rd.int Tryz.underlying3))))))
/-- THE PURE STATEMENT. -/
def Pure : Prop := ∀ (U : Nat) (x0 : List (S28)) (x1 : Int), (x0.length * 72 ≤ 140737488351232 ∧ x0.length ≤ maxLen ∧ x0.length ≤ U ∧ ∀ y ∈ x0, g28 U y) → (Lit.int .i64 x1).wf = true → ∃ k, l26_HistoryFiles.f k x0 x1 = some true
end Go.Proofs.YtgadbpljlpclnaaGreatDoor.StHistoryFiles
