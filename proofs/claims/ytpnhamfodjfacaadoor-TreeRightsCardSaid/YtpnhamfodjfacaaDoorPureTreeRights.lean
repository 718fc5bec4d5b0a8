/- TreeRights, over lists alone. -/
import Derived.Test.YtpnhamfodjfacaaDoorStTreeRights
import Derived.Test.YtpnhamfodjfacaaDoorTQAlive25
namespace Go.Proofs.YtpnhamfodjfacaaDoor.Pure
open Go.RowKit Go.Proofs.YtpnhamfodjfacaaDoorW.PrintWords Go.Proofs.YtpnhamfodjfacaaDoorW.PrintLast Go.Proofs.YtpnhamfodjfacaaDoorW.PrintMore Go.Proofs.YtpnhamfodjfacaaDoor.T Go.Proofs.YtpnhamfodjfacaaDoor.Q
set_option linter.unusedVariables false
set_option linter.unusedSimpArgs false
theorem TreeRights : StTreeRights.Pure := by
  intro U l p hl hp
  have hs : ∀ f ∈ l, f.f0.size ≤ 140737488351232 := fun f hf => (hl.2.2.2 f hf).1.1
  refine Ev.rounds (Ev.congr (fun k => rfl) (Ev.bind alive25 (Ev.ite_pos rfl ?_)))
  by_cases h1 : (l.length : Int) > 60
  · exact Ev.ite_pos h1 (Ev.now _)
  refine Ev.ite_neg h1 (Ev.bind (Right_is l hs) (Ev.bind (rRight_is l) (Ev.ite_pos rfl (Ev.bind (rRight_is l) ?_))))
  by_cases h2 : rightM l = 0
  · refine Ev.ite_pos h2 (Ev.bind (Get_is l p (by omega)) (Ev.bind (rGet_is l p (by omega)) ?_))
    have ht := tree_of h2
    refine Ev.ite_pos rfl ?_
    rw [blob_there (fun f hf => by have := ht.blob f hf; omega) p]
    exact Ev.congr (fun k => by simp) (Ev.now _)
  · exact Ev.ite_neg h2 (Ev.now _)
end Go.Proofs.YtpnhamfodjfacaaDoor.Pure
