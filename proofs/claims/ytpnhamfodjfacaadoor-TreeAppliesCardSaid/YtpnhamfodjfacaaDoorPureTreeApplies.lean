/- TreeApplies, over lists alone. -/
import Derived.Test.YtpnhamfodjfacaaDoorStTreeApplies
import Derived.Test.YtpnhamfodjfacaaDoorTQRApply25
namespace Go.Proofs.YtpnhamfodjfacaaDoor.Pure
open Go.RowKit Go.Proofs.YtpnhamfodjfacaaDoorW.PrintWords Go.Proofs.YtpnhamfodjfacaaDoorW.PrintLast Go.Proofs.YtpnhamfodjfacaaDoorW.PrintMore Go.Proofs.YtpnhamfodjfacaaDoor.T Go.Proofs.YtpnhamfodjfacaaDoor.Q
set_option linter.unusedVariables false
set_option linter.unusedSimpArgs false
theorem TreeApplies : StTreeApplies.Pure := by
  intro U l c hl hc
  have hs : ∀ f ∈ l, f.f0.size ≤ 140737488351232 := fun f hf => (hl.2.2.2 f hf).1.1
  have hcs : ∀ x ∈ c, x.f0.size ≤ 140737488351232 ∧ okI x.f1 = true := fun x hx => by
    obtain ⟨h1, h2⟩ := hc.2.2.2 x hx
    refine ⟨h1.1, ?_⟩
    rw [wf_i64] at h2
    rw [okI, Bool.and_eq_true, decide_eq_true_iff, decide_eq_true_iff]
    exact h2
  refine Ev.rounds (Ev.congr (fun k => rfl) (Ev.bind alive25 (Ev.ite_pos rfl ?_)))
  have hj : Ev (fun k => codesearchlaw25_TreeApplies.j0 k l c true) true := by
    refine Ev.step (f := fun _ => some true) (fun k => ?_) (Ev.now _)
    rw [codesearchlaw25_TreeApplies.j0, if_pos rfl]
  by_cases h1 : (l.length : Int) > 60
  · exact Ev.ite_pos h1 hj
  refine Ev.ite_neg h1 ?_
  by_cases h2 : (c.length : Int) > 40
  · rw [decide_eq_true h2]; exact hj
  rw [decide_eq_false h2]
  have hout : (applyOut l c).1.length ≤ 1000000 := by
    rw [applyOut]
    by_cases e : rightM l = 0
    · rw [if_pos e]
      by_cases e2 : c.length > 16
      · rw [if_pos e2]; simp
      · rw [if_neg e2]
        cases hr : applyR l c with
        | none => simp
        | some r =>
          have h3 := (applyR_size c hr hs (fun x hx => (hcs x hx).1)).2
          by_cases e3 : rightM r = 0
          · simp only [if_pos e3]; omega
          · simp only [if_neg e3]; simp
    · rw [if_neg e]; simp
  refine Ev.step (fun k => by rw [codesearchlaw25_TreeApplies.j0, if_neg (by decide)]) (Ev.bind (Apply_is l c hs hcs) (Ev.bind (rApply_is l c) (Ev.ite_pos rfl (Ev.bind (Files_is _ _ hout) ?_))))
  rw [decide_eq_true rfl]
  exact Ev.now _
end Go.Proofs.YtpnhamfodjfacaaDoor.Pure
