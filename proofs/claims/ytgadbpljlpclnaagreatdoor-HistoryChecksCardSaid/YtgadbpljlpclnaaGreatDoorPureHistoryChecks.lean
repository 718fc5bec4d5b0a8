/- HistoryChecks, over lists alone. -/
import Derived.Test.YtgadbpljlpclnaaGreatDoorStHistoryChecks
import Derived.Test.YtgadbpljlpclnaaGreatDoorHQ26
namespace Go.Proofs.YtgadbpljlpclnaaGreatDoor.Pure
open Go.RowKit Go.Proofs.YtgadbpljlpclnaaGreatDoorW.PrintWords Go.Proofs.YtgadbpljlpclnaaGreatDoorW.PrintLast Go.Proofs.YtgadbpljlpclnaaGreatDoorW.PrintMore Go.Proofs.YtgadbpljlpclnaaGreatDoor.H Go.Proofs.YtgadbpljlpclnaaGreatDoor.Q
set_option linter.unusedVariables false
set_option linter.unusedSimpArgs false
theorem HistoryChecks : StHistoryChecks.Pure := by
  intro U l x hl hx
  refine Ev.rounds (Ev.congr (fun k => rfl) (Ev.bind alive26 (Ev.ite_pos rfl (Ev.bind (few_is l) ?_))))
  cases hf : fewM l with
  | false => exact Ev.ite_neg (by decide) (Ev.now _)
  | true =>
    obtain ⟨h1, h2⟩ := few_of hf
    refine Ev.ite_pos rfl ?_
    have hok : ∀ c ∈ l, okX c := fun c hc y hy => ⟨by have := (h2 c hc).2.2 y hy; omega, okI_wf ((hl.2.2.2 c hc).2.2.1.2.2.2 y hy).2⟩
    have hokC : ∀ c ∈ l, okC c = true := fun c hc => by
      rw [okC, Bool.and_eq_true]
      exact ⟨okV_wf (hl.2.2.2 c hc).1, List.all_eq_true.2 (fun y hy => okV_wf ((hl.2.2.2 c hc).2.1.2.2.2 y hy))⟩
    refine Ev.bind (hGet_is l x (by omega)) (Ev.bind (rGet_is l x (by omega)) (Ev.bind (pRight_is l hok hokC) (Ev.bind (rRightH_is l (by omega) (fun c hc => by have := (h2 c hc).1; omega)) (Ev.ite_pos rfl (Ev.ite_pos (by simp) ?_)))))
    refine Ev.bind (SameCommit_self _ _ _ _ _ ?_ ?_) (Ev.now _)
    · cases hg : getH l x with
      | none => rw [getR_none hg]; simp
      | some c => rw [getR_some hg]; have := (h2 c (getH_mem hg)).1; simp only []; omega
    · cases hg : getH l x with
      | none => rw [getR_none hg]; simp
      | some c => rw [getR_some hg]; have := (h2 c (getH_mem hg)).2.1; simp only []; omega
end Go.Proofs.YtgadbpljlpclnaaGreatDoor.Pure
