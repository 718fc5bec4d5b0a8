/- What is to be proved of ManifestBack, over numbers and lists alone; how its arguments are read. -/
import Derived.Test.YtmgliocboeifdaaDoorKx17
import Derived.Test.YtmgliocboeifdaaDoorQRead
import Derived.KernelRfl
namespace Go.Proofs.YtmgliocboeifdaaDoor.StManifestBack
open Go.RowKit Go.Proofs.YtmgliocboeifdaaDoor.K Go.Proofs.YtmgliocboeifdaaDoor.Q Go.Proofs.YtmgliocboeifdaaDoorW.PrintWords Go.Proofs.YtmgliocboeifdaaDoorW.PrintLast
set_option linter.unusedVariables false
def g37 (U : Nat) (x : S37) : Prop := (Lit.int .i64 x.f0).wf = true ∧ (Lit.int .i64 x.f1).wf = true ∧ (Lit.int .i64 x.f2).wf = true ∧ (x.f3.length * 8 ≤ 140737488351232 ∧ x.f3.length ≤ maxLen ∧ x.f3.length ≤ U ∧ ∀ y ∈ x.f3, (Lit.int .i64 y).wf = true) ∧ (x.f4.length * 8 ≤ 140737488351232 ∧ x.f4.length ≤ maxLen ∧ x.f4.length ≤ U ∧ ∀ y ∈ x.f4, (Lit.int .i64 y).wf = true) ∧ (x.f5.length * 16 ≤ 140737488351232 ∧ x.f5.length ≤ maxLen ∧ x.f5.length ≤ U ∧ ∀ y ∈ x.f5, (y.size ≤ 140737488351232 ∧ y.size ≤ U))
theorem rd37 : Rd Tryd.prog k37 37 g37 := Rd.struct (ts := [3, 3, 3, 26, 26, 35]) (fun a => (⟨a.1, a.2.1, a.2.2.1, a.2.2.2.1, a.2.2.2.2.1, a.2.2.2.2.2⟩ : S37)) (fun a => rfl) Tryd.underlying37 (by kernel_rfl) (by kernel_rfl) (RdF.cons (Rd.int Tryd.underlying3) (RdF.cons (Rd.int Tryd.underlying3) (RdF.cons (Rd.int Tryd.underlying3) (RdF.cons (Rd.slice (B := 8) Tryd.underlying26 (by kernel_rfl) (by kernel_rfl) (Rd.int Tryd.underlying3)) (RdF.cons (Rd.slice (B := 8) Tryd.underlying26 (by kernel_rfl) (by kernel_rfl) (Rd.int Tryd.underlying3)) (RdF.one (Rd.slice (B := 16) Tryd.underlying35 (by kernel_rfl) (by kernel_rfl) (Rd.string Tryd.underlying9))))))))
theorem h37 : Kd.Heap k37 := Kd.heap_iso _ (Kd.heap_pair (Kd.heap_int .i64) (Kd.heap_pair (Kd.heap_int .i64) (Kd.heap_pair (Kd.heap_int .i64) (Kd.heap_pair (Kd.heap_slice 3 (Kd.heap_int .i64)) (Kd.heap_pair (Kd.heap_slice 3 (Kd.heap_int .i64)) (Kd.heap_slice 9 Kd.heap_string))))))
/-- THE PURE STATEMENT (U: a bound on all together). -/
def Pure : Prop := ∀ (U : Nat) (x0 : S37) (x1 : List Int), U ≤ 1048576 → g37 U x0 → (x1.length * 1 ≤ 140737488351232 ∧ x1.length ≤ maxLen ∧ x1.length ≤ U ∧ ∀ y ∈ x1, (Lit.int .u8 y).wf = true) → ∃ k, l33_ManifestBack.f k x0.f0 x0.f1 x0.f2 x0.f3 x0.f4 x0.f5 x1 = some true
end Go.Proofs.YtmgliocboeifdaaDoor.StManifestBack
