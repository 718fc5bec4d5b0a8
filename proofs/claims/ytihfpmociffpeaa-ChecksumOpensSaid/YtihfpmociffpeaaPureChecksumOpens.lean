/- ChecksumOpens: for every input the law's pure function answers true. -/
import Derived.Test.YtihfpmociffpeaaStChecksumOpens
import Derived.Test.YtihfpmociffpeaaCQAlive04
import Derived.Test.YtihfpmociffpeaaCQOpen
namespace Go.Proofs.Ytihfpmociffpeaa.Pure
open Go.RowKit Go.Proofs.Ytihfpmociffpeaa.C Go.Proofs.YtihfpmociffpeaaW.PrintWords Go.Proofs.YtihfpmociffpeaaW.PrintLast Go.Proofs.YtihfpmociffpeaaW.PrintMore Go.Proofs.Ytihfpmociffpeaa.Q Go.Proofs.Ytihfpmociffpeaa.StChecksumOpens
set_option linter.unusedVariables false
set_option linter.unusedSimpArgs false

theorem openL_length (b : List Int) (a m : Int) : (openL b a m).1.length ≤ b.length := by
  unfold openL openB
  simp only []
  repeat' split
  all_goals simp <;> omega
theorem ChecksumOpens : StChecksumOpens.Pure := by
  intro U x1 a m ⟨hl, _, _, hw⟩ _ _
  have hu : ∀ x ∈ x1, 0 ≤ x ∧ x < 256 := fun x hx => wf_u8.1 (hw x hx)
  refine Ev.rounds (r := true) ?_
  refine Ev.congr (fun k => by rw [codesearchlaw04_ChecksumOpens.f]) (Ev.bind alive04 (Ev.ite_pos rfl ?_))
  by_cases hbig : (x1.length : Int) > 600
  · exact Ev.ite_pos hbig (Ev.now true)
  · have h1 := openL_length x1 a m
    refine Ev.ite_neg hbig (Ev.bind (Open_go x1 a m (by omega) hu) (Ev.bind (rOpen_go x1 a m (by omega) hu) (Ev.bind (rBytes_go _ _ (by omega)) (Ev.ite_pos (by simp) (Ev.ite_pos rfl ?_)))))
    exact Ev.congr (fun k => by simp) (Ev.now true)

end Go.Proofs.Ytihfpmociffpeaa.Pure
