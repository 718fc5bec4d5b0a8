/- Chapter 33: lists that the statements look at. -/
import Derived.Test.YtmgliocboeifdaaDoorMQState33
import Derived.Test.YtmgliocboeifdaaDoorMx15
namespace Go.Proofs.YtmgliocboeifdaaDoor.Q
open Go.RowKit Go.Proofs.YtmgliocboeifdaaDoorW.PrintWords Go.Proofs.YtmgliocboeifdaaDoorW.PrintLast Go.Proofs.YtmgliocboeifdaaDoorW.PrintMore Go.Proofs.YtmgliocboeifdaaDoor.M
set_option linter.unusedVariables false
set_option linter.unusedSimpArgs false
def smallM (l : List SE) : Bool := decide (l.length ≤ 40) && l.all fun e => decide (e.f3.length ≤ 40) && (decide (e.f4.length ≤ 40) && decide (e.f5.length ≤ 40))
theorem small_is (l : List SE) : Ev (fun k => codesearchlaw33_small.f k l) (smallM l) := by
  unfold smallM
  by_cases h : (l.length : Int) > 40
  · rw [decide_eq_false (show ¬ l.length ≤ 40 by omega)]
    exact Ev.ite_pos h (Ev.now _)
  · rw [decide_eq_true (show l.length ≤ 40 by omega), Bool.true_and]
    refine Ev.ite_neg h ?_
    have key : ∀ d (i : Nat), i + d = l.length → Ev (fun k => codesearchlaw33_small.l0 k l (i : Int)) ((l.drop i).all fun e => decide (e.f3.length ≤ 40) && (decide (e.f4.length ≤ 40) && decide (e.f5.length ≤ 40))) := by
      intro d
      induction d with
      | zero =>
        intro i hi
        rw [List.drop_of_length_le (by omega)]
        refine Ev.step (f := fun _ => some true) (fun k => ?_) (Ev.now _)
        rw [codesearchlaw33_small.l0, if_neg (by omega)]
      | succ d ih =>
        intro i hi
        have hlt : i < l.length := by omega
        rw [drop_cons l i hlt, List.all_cons]
        refine Ev.step (fun k => by rw [codesearchlaw33_small.l0, if_pos (show (i : Int) < (l.length : Int) by omega), if_pos (show (0 : Int) ≤ (i : Int) by omega), rdE_nat l i hlt, w1 i (by omega)]) ?_
        by_cases c3 : ((l[i].f3).length : Int) > 40
        · rw [decide_eq_false (show ¬ l[i].f3.length ≤ 40 by omega)]
          exact Ev.ite_pos c3 (Ev.now _)
        rw [decide_eq_true (show l[i].f3.length ≤ 40 by omega)]
        refine Ev.ite_neg c3 ?_
        by_cases c4 : ((l[i].f4).length : Int) > 40
        · rw [decide_eq_false (show ¬ l[i].f4.length ≤ 40 by omega)]
          exact Ev.ite_pos c4 (Ev.now _)
        rw [decide_eq_true (show l[i].f4.length ≤ 40 by omega)]
        refine Ev.ite_neg c4 ?_
        by_cases c5 : ((l[i].f5).length : Int) > 40
        · rw [decide_eq_false (show ¬ l[i].f5.length ≤ 40 by omega)]
          exact Ev.ite_pos c5 (Ev.now _)
        rw [decide_eq_true (show l[i].f5.length ≤ 40 by omega)]
        exact Ev.ite_neg c5 (ih (i + 1) (by omega))
    have := key l.length 0 (by omega)
    rw [List.drop_zero] at this
    exact this
theorem small_fit {l : List SE} (h : smallM l = true) : l.length ≤ 1000 ∧ ∀ e ∈ l, fit 1000 e := by
  rw [smallM, Bool.and_eq_true, decide_eq_true_iff, List.all_eq_true] at h
  refine ⟨by omega, fun e he => ?_⟩
  have h2 := h.2 e he
  rw [Bool.and_eq_true, Bool.and_eq_true, decide_eq_true_iff, decide_eq_true_iff, decide_eq_true_iff] at h2
  exact ⟨by omega, by omega⟩
theorem small_all {l : List SE} (h : smallM l = true) : l.length ≤ 40 ∧ ∀ e ∈ l, e.f3.length ≤ 40 ∧ e.f4.length ≤ 40 ∧ e.f5.length ≤ 40 := by
  rw [smallM, Bool.and_eq_true, decide_eq_true_iff, List.all_eq_true] at h
  refine ⟨h.1, fun e he => ?_⟩
  have h2 := h.2 e he
  rw [Bool.and_eq_true, Bool.and_eq_true, decide_eq_true_iff, decide_eq_true_iff, decide_eq_true_iff] at h2
  exact h2
end Go.Proofs.YtmgliocboeifdaaDoor.Q
