/- VarintGets: for every input the law's pure function answers true. -/
import Derived.Test.YtihfpmociffpeaaVx4
import Derived.Test.YtihfpmociffpeaaQAlive03
import Derived.Test.YtihfpmociffpeaaQRef03
namespace Go.Proofs.Ytihfpmociffpeaa.Pure
open Go.RowKit Go.Proofs.Ytihfpmociffpeaa.V Go.Proofs.YtihfpmociffpeaaW.PrintWords Go.Proofs.YtihfpmociffpeaaW.PrintLast Go.Proofs.Ytihfpmociffpeaa.Q

theorem VarintGets : codesearchlaw03_VarintGets.Pure := by
  intro l0 a1 hm hl hw ha
  have hu : ∀ x ∈ l0, 0 ≤ x ∧ x < 256 := fun x hx => wf_u8.1 (hw x hx)
  refine Ev.rounds (r := true) ?_
  refine Ev.congr (fun k => by rw [codesearchlaw03_VarintGets.f]) (Ev.bind alive03 (Ev.ite_pos rfl (Ev.bind (Get_go l0 a1 (by omega) hu) (Ev.bind (rGet_go l0 a1 (by omega) hu) (Ev.ite_pos rfl (Ev.ite_pos rfl ?_))))))
  exact Ev.congr (fun k => by simp) (Ev.now true)

end Go.Proofs.Ytihfpmociffpeaa.Pure
