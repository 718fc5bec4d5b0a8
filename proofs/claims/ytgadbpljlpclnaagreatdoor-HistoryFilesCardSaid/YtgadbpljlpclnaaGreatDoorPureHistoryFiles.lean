/- HistoryFiles, over lists alone. -/
import Derived.Test.YtgadbpljlpclnaaGreatDoorStHistoryFiles
import Derived.Test.YtgadbpljlpclnaaGreatDoorHQ26F
namespace Go.Proofs.YtgadbpljlpclnaaGreatDoor.Pure
open Go.RowKit Go.Proofs.YtgadbpljlpclnaaGreatDoorW.PrintWords Go.Proofs.YtgadbpljlpclnaaGreatDoorW.PrintLast Go.Proofs.YtgadbpljlpclnaaGreatDoorW.PrintMore Go.Proofs.YtgadbpljlpclnaaGreatDoor.H Go.Proofs.YtgadbpljlpclnaaGreatDoor.Q
set_option linter.unusedVariables false
set_option linter.unusedSimpArgs false
theorem HistoryFiles : StHistoryFiles.Pure := by
  intro U l x hl hx
  refine Ev.rounds (Ev.congr (fun k => rfl) (Ev.bind alive26 (Ev.ite_pos rfl (Ev.bind (right_is l) ?_))))
  cases hf : rightL l with
  | false => exact Ev.ite_neg (by decide) (Ev.now _)
  | true =>
    have hr := right_of hf
    have hok : ∀ c ∈ l, okX c := fun c hc y hy => ⟨by have := (hr.few c hc).2.2 y hy; omega, okI_wf ((hl.2.2.2 c hc).2.2.1.2.2.2 y hy).2⟩
    refine Ev.ite_pos rfl (Ev.bind (hTree_is hr hok x) (Ev.bind (rTree_is _ l rfl x) (Ev.ite_pos rfl (Ev.bind (Files_is _ _ (rTreeM_len l x)) ?_))))
    rw [decide_eq_true rfl]
    exact Ev.now _
end Go.Proofs.YtgadbpljlpclnaaGreatDoor.Pure
