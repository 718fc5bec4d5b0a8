/- ManifestStates, over lists alone. -/
import Derived.Test.YtmgliocboeifdaaDoorStManifestStates
import Derived.Test.YtmgliocboeifdaaDoorMQRState33
import Derived.Test.YtmgliocboeifdaaDoorMQSmall33
import Derived.Test.YtmgliocboeifdaaDoorMQAlive33
namespace Go.Proofs.YtmgliocboeifdaaDoor.Pure
open Go.RowKit Go.Proofs.YtmgliocboeifdaaDoorW.PrintWords Go.Proofs.YtmgliocboeifdaaDoorW.PrintLast Go.Proofs.YtmgliocboeifdaaDoorW.PrintMore Go.Proofs.YtmgliocboeifdaaDoor.M Go.Proofs.YtmgliocboeifdaaDoor.Q
set_option linter.unusedVariables false
set_option linter.unusedSimpArgs false
theorem ManifestStates : StManifestStates.Pure := by
  intro U l hl
  refine Ev.rounds (Ev.congr (fun k => rfl) (Ev.bind alive33 (Ev.ite_pos rfl (Ev.bind (small_is l) ?_))))
  by_cases hs : smallM l = true
  · rw [hs]
    obtain ⟨h1, h2⟩ := small_fit hs
    have h3 := runM_len l 1000 h2
    have h4 : l.length * 1000 ≤ 1000 * 1000 := Nat.mul_le_mul_right _ h1
    refine Ev.ite_pos rfl (Ev.bind (Live_is l h1 h2) (Ev.bind (rLive_is l h1 h2) (Ev.bind (SameInts_self _ (by omega)) (Ev.ite_pos rfl (Ev.bind (Dead_is l h1 h2) (Ev.bind (rDead_is l h1 h2) (Ev.bind (SameInts_self _ (by omega)) (Ev.now _))))))))
  · rw [show smallM l = false by simpa using hs]
    exact Ev.ite_neg (by decide) (Ev.now _)
end Go.Proofs.YtmgliocboeifdaaDoor.Pure
