/- ChecksumSums: for every input the law's pure function answers true. -/
import Derived.Test.YtihfpmociffpeaaStChecksumSums
import Derived.Test.YtihfpmociffpeaaCQAlive04
import Derived.Test.YtihfpmociffpeaaCQCrc
namespace Go.Proofs.Ytihfpmociffpeaa.Pure
open Go.RowKit Go.Proofs.Ytihfpmociffpeaa.C Go.Proofs.YtihfpmociffpeaaW.PrintWords Go.Proofs.YtihfpmociffpeaaW.PrintLast Go.Proofs.YtihfpmociffpeaaW.PrintMore Go.Proofs.Ytihfpmociffpeaa.Q Go.Proofs.Ytihfpmociffpeaa.StChecksumSums
set_option linter.unusedVariables false
set_option linter.unusedSimpArgs false

theorem ChecksumSums : StChecksumSums.Pure := by
  intro U x0 x1 hx0 ⟨hl, _, _, hw⟩
  have hu : ∀ x ∈ x1, 0 ≤ x ∧ x < 256 := fun x hx => wf_u8.1 (hw x hx)
  obtain ⟨h0, h1⟩ := wf_u32.1 hx0
  obtain ⟨s, rfl⟩ := Int.eq_ofNat_of_zero_le h0
  have hs : s < 2 ^ 32 := by omega
  refine Ev.rounds (r := true) ?_
  refine Ev.congr (fun k => by rw [codesearchlaw04_ChecksumSums.f]) (Ev.bind alive04 (Ev.ite_pos rfl ?_))
  by_cases hbig : (x1.length : Int) > 600
  · exact Ev.ite_pos hbig (Ev.now true)
  · refine Ev.ite_neg hbig (Ev.bind_eq (Sum_go x1 hu) (Ev.bind (rSum_go x1 (by omega) hu) (Ev.ite_pos rfl (Ev.bind_eq (Extend_go s hs x1 hu) (Ev.bind (rExtend_go s hs x1 (by omega) hu) ?_)))))
    exact Ev.congr (fun k => by simp) (Ev.now true)

end Go.Proofs.Ytihfpmociffpeaa.Pure
