/- TreeNames, over lists alone. -/
import Derived.Test.YtpnhamfodjfacaaDoorStTreeNames
import Derived.Test.YtpnhamfodjfacaaDoorNQNames25
namespace Go.Proofs.YtpnhamfodjfacaaDoor.Pure
open Go.RowKit Go.Proofs.YtpnhamfodjfacaaDoorW.PrintWords Go.Proofs.YtpnhamfodjfacaaDoorW.PrintLast Go.Proofs.YtpnhamfodjfacaaDoorW.PrintMore Go.Proofs.YtpnhamfodjfacaaDoor.N Go.Proofs.YtpnhamfodjfacaaDoor.Q
set_option linter.unusedVariables false
set_option linter.unusedSimpArgs false
theorem TreeNames : StTreeNames.Pure := by
  intro U l d hl hd
  refine Ev.rounds (Ev.congr (fun k => rfl) (Ev.bind alive25 (Ev.ite_pos rfl ?_)))
  have hj : Ev (fun k => codesearchlaw25_TreeNames.j0 k l d true) true := by
    refine Ev.step (f := fun _ => some true) (fun k => ?_) (Ev.now _)
    rw [codesearchlaw25_TreeNames.j0, if_pos rfl]
  by_cases h1 : (l.length : Int) > 60
  · exact Ev.ite_pos h1 hj
  refine Ev.ite_neg h1 (Ev.bind (trees_is l [] []) ?_)
  by_cases h3 : rightM l = 0 ∧ rightM ([] : FS) = 0 ∧ rightM ([] : FS) = 0
  · rw [decide_eq_true h3]
    have tl := tree_of h3.1
    have hul : (underF l d).length ≤ l.length := List.length_filter_le _ _
    have hnl : (namesL l d).length ≤ 1000000 := by
      rw [namesL, List.length_map]
      have h1 := ones_len ((underF l d).map fun f => (⟨nameL d f.f0, 1⟩ : SF))
      rw [List.length_map] at h1
      omega
    refine Ev.step (fun k => by rw [codesearchlaw25_TreeNames.j0, if_neg (by decide)]) (Ev.bind (Under_all l d (by omega) hd.1) (Ev.bind (rUnder_all l d (by omega)) (Ev.bind (Files_is (underF l d) (underF l d) (by omega)) ?_)))
    rw [decide_eq_true rfl]
    exact Ev.ite_pos rfl (Ev.bind (Names_is tl d hd.1) (Ev.bind (rNames_is tl d hd.1) (Ev.bind (Strings_self _ hnl) (Ev.now _))))
  · rw [decide_eq_false h3]
    exact hj
end Go.Proofs.YtpnhamfodjfacaaDoor.Pure
