/- PostingSets, over numbers and lists alone. -/
import Derived.Test.YtknpmknkkofnjaaStPostingSets
import Derived.Test.YtknpmknkkofnjaaPQAlive05
namespace Go.Proofs.Ytknpmknkkofnjaa.Pure
open Go.RowKit Go.Proofs.YtknpmknkkofnjaaW.PrintWords Go.Proofs.YtknpmknkkofnjaaW.PrintLast Go.Proofs.YtknpmknkkofnjaaW.PrintMore Go.Proofs.Ytknpmknkkofnjaa.P Go.Proofs.Ytknpmknkkofnjaa.Q
set_option linter.unusedVariables false
theorem PostingSets : StPostingSets.Pure := by
  intro U a b ha hb
  refine Ev.rounds (Ev.congr (fun k => rfl) (Ev.bind alive05 (Ev.ite_pos rfl ?_)))
  by_cases h1 : (a.length : Int) > 60
  · refine Ev.ite_pos h1 (Ev.step (f := fun _ => some true) (fun k => ?_) (Ev.now _))
    rw [codesearchlaw05_PostingSets.j0, if_pos rfl]
  refine Ev.ite_neg h1 ?_
  by_cases h2 : (b.length : Int) > 60
  · refine Ev.step (f := fun _ => some true) (fun k => ?_) (Ev.now _)
    rw [codesearchlaw05_PostingSets.j0, if_pos (decide_eq_true h2)]
  refine Ev.step (fun k => by rw [codesearchlaw05_PostingSets.j0, if_neg (by simpa using h2)]) ?_
  refine Ev.bind (Valid_is a (by omega)) (Ev.bind (rValid_is a (by omega)) (Ev.ite_pos (by simp) ?_))
  have hl1 := andS_len a b
  have hl2 := orS_len a b
  have hl3 := minusS_len a b
  refine Ev.bind_eq (And_is a b (by omega) (by omega)) (Ev.bind (rAnd_is a b (by omega) (by omega)) (Ev.bind (Same_self _ (by omega)) (Ev.ite_pos rfl ?_)))
  refine Ev.bind (Or_is a b (by omega) (by omega)) (Ev.bind (rOr_is a b (by omega) (by omega)) (Ev.bind (Same_self _ (by omega)) (Ev.ite_pos rfl ?_)))
  refine Ev.bind_eq (Minus_is a b (by omega) (by omega)) (Ev.bind (rMinus_is a b (by omega) (by omega)) (Ev.bind (Same_self _ (by omega)) (Ev.now _)))
end Go.Proofs.Ytknpmknkkofnjaa.Pure
