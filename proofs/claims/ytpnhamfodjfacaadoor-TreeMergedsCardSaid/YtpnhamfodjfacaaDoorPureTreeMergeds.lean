/- TreeMergeds, over lists alone. -/
import Derived.Test.YtpnhamfodjfacaaDoorStTreeMergeds
import Derived.Test.YtpnhamfodjfacaaDoorTQAlive25
namespace Go.Proofs.YtpnhamfodjfacaaDoor.Pure
open Go.RowKit Go.Proofs.YtpnhamfodjfacaaDoorW.PrintWords Go.Proofs.YtpnhamfodjfacaaDoorW.PrintLast Go.Proofs.YtpnhamfodjfacaaDoorW.PrintMore Go.Proofs.YtpnhamfodjfacaaDoor.T Go.Proofs.YtpnhamfodjfacaaDoor.Q
set_option linter.unusedVariables false
set_option linter.unusedSimpArgs false
theorem TreeMergeds : StTreeMergeds.Pure := by
  intro U o a b ho ha hb
  refine Ev.rounds (Ev.congr (fun k => rfl) (Ev.bind alive25 (Ev.ite_pos rfl ?_)))
  have hj : Ev (fun k => codesearchlaw25_TreeMergeds.j0 k o a b true) true := by
    refine Ev.step (f := fun _ => some true) (fun k => ?_) (Ev.now _)
    rw [codesearchlaw25_TreeMergeds.j0, if_pos rfl]
  by_cases h1 : (o.length : Int) > 60
  · exact Ev.ite_pos h1 hj
  refine Ev.ite_neg h1 ?_
  by_cases h2 : (a.length : Int) > 60
  · exact Ev.ite_pos h2 hj
  refine Ev.ite_neg h2 ?_
  by_cases h4 : (b.length : Int) > 60
  · exact Ev.ite_pos h4 hj
  refine Ev.ite_neg h4 (Ev.bind (trees_is o a b) ?_)
  by_cases h3 : rightM o = 0 ∧ rightM a = 0 ∧ rightM b = 0
  · rw [decide_eq_true h3]
    have tz := tree_of h3.1
    have ta := tree_of h3.2.1
    have tb := tree_of h3.2.2
    have hpl := pathsM_len3 o a b (by omega) (by omega) (by omega)
    have hF : (mergeF o a b).length ≤ 1000000 := by
      rw [mergeF, List.length_map]
      have h1 := List.length_filter_le (fun s => decide (pickL o a b s ≠ 0)) (pathsM [contsM o, contsM a, contsM b])
      omega
    have hC : (mergeC o a b).length ≤ 1000000 := by
      rw [mergeC]
      have h1 := List.length_filter_le (clashL o a b) (pathsM [contsM o, contsM a, contsM b])
      omega
    refine Ev.step (fun k => by rw [codesearchlaw25_TreeMergeds.j0, if_neg (by decide)]) (Ev.bind_eq (Merge_is tz ta tb) (Ev.bind (rMerge_is tz ta tb) (Ev.bind (Files_is _ _ hF) ?_)))
    rw [decide_eq_true rfl]
    exact Ev.ite_pos rfl (Ev.bind (Strings_self _ hC) (Ev.now _))
  · rw [decide_eq_false h3]
    exact hj
end Go.Proofs.YtpnhamfodjfacaaDoor.Pure
