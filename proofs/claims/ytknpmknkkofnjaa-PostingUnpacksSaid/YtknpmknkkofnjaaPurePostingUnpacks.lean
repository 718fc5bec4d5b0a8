/- PostingUnpacks, over numbers and lists alone. -/
import Derived.Test.YtknpmknkkofnjaaStPostingUnpacks
import Derived.Test.YtknpmknkkofnjaaPQUnp05
namespace Go.Proofs.Ytknpmknkkofnjaa.Pure
open Go.RowKit Go.Proofs.YtknpmknkkofnjaaW.PrintWords Go.Proofs.YtknpmknkkofnjaaW.PrintLast Go.Proofs.YtknpmknkkofnjaaW.PrintMore Go.Proofs.Ytknpmknkkofnjaa.P Go.Proofs.Ytknpmknkkofnjaa.Q
set_option linter.unusedVariables false
set_option linter.unusedSimpArgs false
theorem PostingUnpacks : StPostingUnpacks.Pure := by
  intro U b n hb hn
  refine Ev.rounds (Ev.congr (fun k => rfl) (Ev.bind alive05 (Ev.ite_pos rfl ?_)))
  by_cases h1 : (b.length : Int) > 400
  · exact Ev.ite_pos h1 (Ev.now _)
  have hu : ∀ x ∈ b, 0 ≤ x ∧ x < 256 := fun x hx => wf_u8.1 (hb.2.2.2 x hx)
  have hlen := unpackS_len b
  refine Ev.ite_neg h1 (Ev.bind (Unpack_go b (by omega) hu) (Ev.bind (rUnpack_go b (by omega) hu) (Ev.bind (Seek_go b n (by omega) hu) (Ev.bind (rSeek_go b n (by omega) hu) (Ev.ite_pos rfl ?_)))))
  refine Ev.bind (Same_self _ (by omega)) (Ev.ite_pos rfl (Ev.ite_pos rfl ?_))
  rw [beq_self_eq_true]
  exact Ev.now _
end Go.Proofs.Ytknpmknkkofnjaa.Pure
