/- TreeDiffs, over lists alone. -/
import Derived.Test.YtpnhamfodjfacaaDoorStTreeDiffs
import Derived.Test.YtpnhamfodjfacaaDoorTQAlive25
namespace Go.Proofs.YtpnhamfodjfacaaDoor.Pure
open Go.RowKit Go.Proofs.YtpnhamfodjfacaaDoorW.PrintWords Go.Proofs.YtpnhamfodjfacaaDoorW.PrintLast Go.Proofs.YtpnhamfodjfacaaDoorW.PrintMore Go.Proofs.YtpnhamfodjfacaaDoor.T Go.Proofs.YtpnhamfodjfacaaDoor.Q
set_option linter.unusedVariables false
set_option linter.unusedSimpArgs false
theorem TreeDiffs : StTreeDiffs.Pure := by
  intro U a b ha hb
  refine Ev.rounds (Ev.congr (fun k => rfl) (Ev.bind alive25 (Ev.ite_pos rfl ?_)))
  by_cases h1 : (a.length : Int) > 60
  · exact Ev.ite_pos h1 (Ev.now _)
  refine Ev.ite_neg h1 ?_
  by_cases h2 : (b.length : Int) > 60
  · exact Ev.ite_pos h2 (Ev.now _)
  refine Ev.ite_neg h2 (Ev.bind (trees_is a b []) ?_)
  by_cases h3 : rightM a = 0 ∧ rightM b = 0 ∧ rightM ([] : FS) = 0
  · rw [decide_eq_true h3]
    have ta := tree_of h3.1
    have tb := tree_of h3.2.1
    have hpl : (diffM (contsM a) (contsM b)).length ≤ 1000000 := by
      have := pathsM_len3 [] a b (by simp) (by omega) (by omega)
      rw [paths_nil] at this
      rw [diffM, List.length_map]
      have h1 := List.length_filter_le (fun s => decide (valM (contsM a) s ≠ valM (contsM b) s)) (pathsM [contsM a, contsM b])
      omega
    exact Ev.ite_pos rfl (Ev.bind_eq (Diff_is ta tb) (Ev.bind (rDiff_is ta tb) (Ev.bind (Changes_self _ hpl) (Ev.now _))))
  · rw [decide_eq_false h3]
    exact Ev.ite_neg (by decide) (Ev.now _)
end Go.Proofs.YtpnhamfodjfacaaDoor.Pure
