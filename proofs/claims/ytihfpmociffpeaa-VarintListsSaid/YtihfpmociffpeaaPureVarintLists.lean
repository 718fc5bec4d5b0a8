/- VarintLists: for every input the law's pure function answers true. -/
import Derived.Test.YtihfpmociffpeaaVx6
import Derived.Test.YtihfpmociffpeaaQAlive03
import Derived.Test.YtihfpmociffpeaaQList03
namespace Go.Proofs.Ytihfpmociffpeaa.Pure
open Go.RowKit Go.Proofs.Ytihfpmociffpeaa.V Go.Proofs.YtihfpmociffpeaaW.PrintWords Go.Proofs.YtihfpmociffpeaaW.PrintLast Go.Proofs.Ytihfpmociffpeaa.Q

theorem VarintLists : codesearchlaw03_VarintLists.Pure := by
  intro l0 l1 hm hl hw hm1 hl1 hw1
  have hw1' : ∀ x ∈ l1, -9223372036854775808 ≤ x ∧ x ≤ 9223372036854775807 := fun x hx => wf_i64.1 (hw1 x hx)
  refine Ev.rounds (r := true) ?_
  refine Ev.congr (fun k => by rw [codesearchlaw03_VarintLists.f]) (Ev.bind alive03 (Ev.ite_pos rfl ?_))
  by_cases h1 : (l0.length : Int) > 10000
  · refine Ev.ite_pos h1 (Ev.step (f := fun _ => some true) (fun k => ?_) (Ev.now _))
    rw [codesearchlaw03_VarintLists.j0, if_pos rfl]
  · refine Ev.ite_neg h1 ?_
    by_cases h2 : (l1.length : Int) > 10000
    · refine Ev.step (f := fun _ => some true) (fun k => ?_) (Ev.now _)
      rw [codesearchlaw03_VarintLists.j0, if_pos (decide_eq_true h2)]
    · refine Ev.step (fun k => by rw [codesearchlaw03_VarintLists.j0, if_neg (by simpa using h2)]) ?_
      exact Ev.bind (PutList_go l0 l1 (by omega) hw1') (Ev.bind (rPutList_go l0 l1 (by omega) hw1') (Ev.ite_pos rfl (Ev.bind_eq (SameBytes_self _) (Ev.now true))))

end Go.Proofs.Ytihfpmociffpeaa.Pure
