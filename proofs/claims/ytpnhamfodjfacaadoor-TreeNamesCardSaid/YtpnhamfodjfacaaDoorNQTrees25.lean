/- That the lists are trees. -/
import Derived.Test.YtpnhamfodjfacaaDoorNQRight25
import Derived.Test.YtpnhamfodjfacaaDoorNx11
namespace Go.Proofs.YtpnhamfodjfacaaDoor.Q
open Go.RowKit Go.Proofs.YtpnhamfodjfacaaDoorW.PrintWords Go.Proofs.YtpnhamfodjfacaaDoorW.PrintLast Go.Proofs.YtpnhamfodjfacaaDoorW.PrintMore Go.Proofs.YtpnhamfodjfacaaDoor.N
set_option linter.unusedVariables false
set_option linter.unusedSimpArgs false
theorem trees_is (a b c : FS) : Ev (fun k => codesearchlaw25_trees.f k a b c) (decide (rightM a = 0 ∧ rightM b = 0 ∧ rightM c = 0)) := by
  refine Ev.bind (rRight_is a) ?_
  by_cases h1 : rightM a = 0
  · refine Ev.ite_pos h1 (Ev.bind (rRight_is b) ?_)
    by_cases h2 : rightM b = 0
    · refine Ev.ite_pos h2 (Ev.bind (rRight_is c) ?_)
      refine Ev.congr (fun k => ?_) (Ev.now _)
      by_cases h3 : rightM c = 0
      · rw [beq_iff_eq.2 h3, decide_eq_true ⟨h1, h2, h3⟩]
      · rw [beq_eq_false_iff_ne.2 h3, decide_eq_false (fun h => h3 h.2.2)]
    · rw [decide_eq_false (fun h => h2 h.2.1)]
      exact Ev.ite_neg h2 (Ev.now _)
  · rw [decide_eq_false (fun h => h1 h.1)]
    exact Ev.ite_neg h1 (Ev.now _)
end Go.Proofs.YtpnhamfodjfacaaDoor.Q
