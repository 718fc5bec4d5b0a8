/- PostingPacks, over numbers and lists alone. -/
import Derived.Test.YtknpmknkkofnjaaStPostingPacks
import Derived.Test.YtknpmknkkofnjaaPQPack05
namespace Go.Proofs.Ytknpmknkkofnjaa.Pure
open Go.RowKit Go.Proofs.YtknpmknkkofnjaaW.PrintWords Go.Proofs.YtknpmknkkofnjaaW.PrintLast Go.Proofs.YtknpmknkkofnjaaW.PrintMore Go.Proofs.Ytknpmknkkofnjaa.P Go.Proofs.Ytknpmknkkofnjaa.Q
set_option linter.unusedVariables false
set_option linter.unusedSimpArgs false
theorem PostingPacks : StPostingPacks.Pure := by
  intro U l n hl hn
  refine Ev.rounds (Ev.congr (fun k => rfl) (Ev.bind alive05 (Ev.ite_pos rfl ?_)))
  by_cases h1 : (l.length : Int) > 100
  · exact Ev.ite_pos h1 (Ev.now _)
  refine Ev.ite_neg h1 (Ev.bind (Pack_go l (by omega)) (Ev.bind (rPack_go l (by omega)) (Ev.ite_pos rfl ?_)))
  refine Ev.bind_eq (a := true) (by rw [codesearchlaw05_sameBytes.f, beq_self_eq_true]) (Ev.ite_pos rfl ?_)
  refine Ev.bind (Has_go l n (by omega)) (Ev.bind (rHas_go l n (by omega)) ?_)
  rw [beq_self_eq_true]
  exact Ev.now _
end Go.Proofs.Ytknpmknkkofnjaa.Pure
