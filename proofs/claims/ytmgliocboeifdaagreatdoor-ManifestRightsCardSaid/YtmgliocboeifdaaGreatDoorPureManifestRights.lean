/- ManifestRights, over lists alone. -/
import Derived.Test.YtmgliocboeifdaaGreatDoorStManifestRights
import Derived.Test.YtmgliocboeifdaaGreatDoorRQ33
namespace Go.Proofs.YtmgliocboeifdaaGreatDoor.Pure
open Go.RowKit Go.Proofs.YtmgliocboeifdaaGreatDoorW.PrintWords Go.Proofs.YtmgliocboeifdaaGreatDoorW.PrintLast Go.Proofs.YtmgliocboeifdaaGreatDoorW.PrintMore Go.Proofs.YtmgliocboeifdaaGreatDoor.R Go.Proofs.YtmgliocboeifdaaGreatDoor.Q
set_option linter.unusedVariables false
set_option linter.unusedSimpArgs false
theorem ManifestRights : StManifestRights.Pure := by
  intro U l hl
  refine Ev.rounds (Ev.congr (fun k => rfl) (Ev.bind alive33 (Ev.ite_pos rfl (Ev.bind (small_is l) ?_))))
  by_cases hs : smallM l = true
  · rw [hs]
    obtain ⟨h1, h2⟩ := small_fit hs
    obtain ⟨h3, h4⟩ := small_all hs
    have hb : ∀ e ∈ l, e.f1 = 4 → Ev (fun k => manifest_branches.f k e.f5) (branchesM e.f5) := fun e he _ => branches_is _ (by have := (h4 e he).2.2; omega)
    have hr := rRight_is l h1 h2 (fun e he => ⟨by have := (h4 e he).2.2; omega, fun s hs => by have := ((hl.2.2.2 e he).2.2.2.2.2.2.2.2 s hs).1; omega⟩)
    exact Ev.ite_pos rfl (Ev.bind (Right_is branchesM l h1 h2 hb) (Ev.bind hr (Ev.congr (fun k => by rw [beq_self_eq_true]) (Ev.now _))))
  · rw [show smallM l = false by simpa using hs]
    exact Ev.ite_neg (by decide) (Ev.now _)
end Go.Proofs.YtmgliocboeifdaaGreatDoor.Pure
