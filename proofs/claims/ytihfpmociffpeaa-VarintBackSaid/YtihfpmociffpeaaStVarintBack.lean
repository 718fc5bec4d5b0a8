/- What is to be proved of VarintBack, over numbers and lists alone; how its arguments are read. -/
import Derived.Test.YtihfpmociffpeaaVx9
import Derived.Test.YtihfpmociffpeaaQRead
import Derived.KernelRfl
namespace Go.Proofs.Ytihfpmociffpeaa.StVarintBack
open Go.RowKit Go.Proofs.Ytihfpmociffpeaa.V Go.Proofs.Ytihfpmociffpeaa.Q Go.Proofs.YtihfpmociffpeaaW.PrintWords Go.Proofs.YtihfpmociffpeaaW.PrintLast
set_option linter.unusedVariables false
def g44 (U : Nat) (x : S44) : Prop := (Lit.int .i64 x.f0).wf = true ∧ (Lit.int .i64 x.f1).wf = true ∧ (x.f2.size ≤ 140737488351232 ∧ x.f2.size ≤ U) ∧ (x.f3.length * 8 ≤ 140737488351232 ∧ x.f3.length ≤ maxLen ∧ x.f3.length ≤ U ∧ ∀ y ∈ x.f3, (Lit.int .i64 y).wf = true)
theorem rd44 : Rd Try.prog k44 44 g44 := Rd.struct (ts := [3, 3, 9, 32]) (fun a => (⟨a.1, a.2.1, a.2.2.1, a.2.2.2⟩ : S44)) (fun a => rfl) Try.underlying44 (by kernel_rfl) (by kernel_rfl) (RdF.cons (Rd.int Try.underlying3) (RdF.cons (Rd.int Try.underlying3) (RdF.cons (Rd.string Try.underlying9) (RdF.one (Rd.slice (B := 8) Try.underlying32 (by kernel_rfl) (by kernel_rfl) (Rd.int Try.underlying3))))))
theorem h44 : Kd.Heap k44 := Kd.heap_iso _ (Kd.heap_pair (Kd.heap_int .i64) (Kd.heap_pair (Kd.heap_int .i64) (Kd.heap_pair Kd.heap_string (Kd.heap_slice 3 (Kd.heap_int .i64)))))
/-- THE PURE STATEMENT. -/
def Pure : Prop := ∀ (U : Nat) (x0 : List Int) (x1 : List (S44)) (x2 : List Int), (x0.length * 1 ≤ 140737488351232 ∧ x0.length ≤ maxLen ∧ x0.length ≤ U ∧ ∀ y ∈ x0, (Lit.int .u8 y).wf = true) → (x1.length * 56 ≤ 140737488351232 ∧ x1.length ≤ maxLen ∧ x1.length ≤ U ∧ ∀ y ∈ x1, g44 U y) → (x2.length * 1 ≤ 140737488351232 ∧ x2.length ≤ maxLen ∧ x2.length ≤ U ∧ ∀ y ∈ x2, (Lit.int .u8 y).wf = true) → ∃ k, codesearchlaw03_VarintBack.f k x0 x1 x2 = some true
end Go.Proofs.Ytihfpmociffpeaa.StVarintBack
