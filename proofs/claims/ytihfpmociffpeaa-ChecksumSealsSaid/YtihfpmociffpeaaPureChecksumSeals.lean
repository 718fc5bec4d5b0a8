/- ChecksumSeals: for every input the law's pure function answers true. -/
import Derived.Test.YtihfpmociffpeaaStChecksumSeals
import Derived.Test.YtihfpmociffpeaaCQAlive04
import Derived.Test.YtihfpmociffpeaaCQSeal
namespace Go.Proofs.Ytihfpmociffpeaa.Pure
open Go.RowKit Go.Proofs.Ytihfpmociffpeaa.C Go.Proofs.YtihfpmociffpeaaW.PrintWords Go.Proofs.YtihfpmociffpeaaW.PrintLast Go.Proofs.YtihfpmociffpeaaW.PrintMore Go.Proofs.Ytihfpmociffpeaa.Q Go.Proofs.Ytihfpmociffpeaa.StChecksumSeals
set_option linter.unusedVariables false
set_option linter.unusedSimpArgs false

theorem ChecksumSeals : StChecksumSeals.Pure := by
  intro U x1 ⟨hl, _, _, hw⟩
  have hu : ∀ x ∈ x1, 0 ≤ x ∧ x < 256 := fun x hx => wf_u8.1 (hw x hx)
  refine Ev.rounds (r := true) ?_
  refine Ev.congr (fun k => by rw [codesearchlaw04_ChecksumSeals.f]) (Ev.bind alive04 (Ev.ite_pos rfl ?_))
  by_cases hbig : (x1.length : Int) > 600
  · exact Ev.ite_pos hbig (Ev.now true)
  · refine Ev.ite_neg hbig (Ev.bind_eq (Seal_go x1 (by omega) hu) (Ev.bind (rSeal_go x1 (by omega) hu) (Ev.bind (rBytes_go _ _ (by
      have he := enc7_length 10 (x1.length : Int)
      simp only [sealL, four4, List.length_append, List.length_cons, List.length_nil]; omega)) ?_)))
    exact Ev.congr (fun k => by simp) (Ev.now true)

end Go.Proofs.Ytihfpmociffpeaa.Pure
