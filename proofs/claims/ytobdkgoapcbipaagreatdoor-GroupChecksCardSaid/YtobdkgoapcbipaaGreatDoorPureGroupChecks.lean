/- GroupChecks, over lists alone. -/
import Derived.Test.YtobdkgoapcbipaaGreatDoorStGroupChecks
import Derived.Test.YtobdkgoapcbipaaGreatDoorJQ43
import Derived.Test.YtobdkgoapcbipaaGreatDoorJx17
namespace Go.Proofs.YtobdkgoapcbipaaGreatDoor.Pure
open Go.RowKit Go.Proofs.YtobdkgoapcbipaaGreatDoorW.PrintWords Go.Proofs.YtobdkgoapcbipaaGreatDoorW.PrintLast Go.Proofs.YtobdkgoapcbipaaGreatDoorW.PrintMore Go.Proofs.YtobdkgoapcbipaaGreatDoor.J Go.Proofs.YtobdkgoapcbipaaGreatDoor.Q
set_option linter.unusedVariables false
set_option linter.unusedSimpArgs false
theorem GroupChecks : StGroupChecks.Pure := by
  intro U l hl
  refine Ev.rounds (Ev.congr (fun k => rfl) (Ev.bind alive43 (Ev.ite_pos rfl (Ev.bind (few_is l) ?_))))
  by_cases hs : fewB l = true
  · rw [hs]
    obtain ⟨h1, h2, hf⟩ := fewB_of hs
    exact Ev.ite_pos rfl (Ev.bind (Right_is l hf) (Ev.bind (rRight_is l hf) (Ev.congr (fun k => by rw [beq_self_eq_true]) (Ev.now _))))
  · rw [show fewB l = false by simpa using hs]
    exact Ev.ite_neg (by decide) (Ev.now _)
end Go.Proofs.YtobdkgoapcbipaaGreatDoor.Pure
