/- PostingLogic, over numbers and lists alone. -/
import Derived.Test.YtknpmknkkofnjaaStPostingLogic
import Derived.Test.YtknpmknkkofnjaaPQAlive05
namespace Go.Proofs.Ytknpmknkkofnjaa.Pure
open Go.RowKit Go.Proofs.YtknpmknkkofnjaaW.PrintWords Go.Proofs.YtknpmknkkofnjaaW.PrintLast Go.Proofs.YtknpmknkkofnjaaW.PrintMore Go.Proofs.Ytknpmknkkofnjaa.P Go.Proofs.Ytknpmknkkofnjaa.Q
set_option linter.unusedVariables false
set_option linter.unusedSimpArgs false
theorem PostingLogic : StPostingLogic.Pure := by
  intro U a b n ha hb hn
  refine Ev.rounds (Ev.congr (fun k => rfl) (Ev.bind alive05 (Ev.ite_pos rfl ?_)))
  by_cases h1 : (a.length : Int) > 60
  · refine Ev.ite_pos h1 (Ev.step (f := fun _ => some true) (fun k => ?_) (Ev.now _))
    rw [codesearchlaw05_PostingLogic.j0, if_pos rfl]
  refine Ev.ite_neg h1 ?_
  by_cases h2 : (b.length : Int) > 60
  · refine Ev.step (f := fun _ => some true) (fun k => ?_) (Ev.now _)
    rw [codesearchlaw05_PostingLogic.j0, if_pos (decide_eq_true h2)]
  refine Ev.step (fun k => by rw [codesearchlaw05_PostingLogic.j0, if_neg (by simpa using h2)]) ?_
  have hl1 := andS_len a b
  have hl2 := orS_len a b
  have hl3 := minusS_len a b
  have hj : Ev (fun k => codesearchlaw05_PostingLogic.j1 k a b (andS a b) (orS a b) (minusS a b) false) true := by
    refine Ev.step (fun k => by rw [codesearchlaw05_PostingLogic.j1, if_neg (by decide)]) ?_
    have e1 : minusS a (minusS a b) = andS a b := srt_ext (minusS_srt _ _) (andS_srt _ _) (fun x => by
      rw [mem_minusS, mem_minusS, mem_andS]
      by_cases h : x ∈ b <;> simp [h])
    have e2 : orS (minusS a b) b = orS a b := srt_ext (orS_srt _ _) (orS_srt _ _) (fun x => by
      rw [mem_orS, mem_minusS, mem_orS]
      by_cases h : x ∈ b <;> simp [h])
    have e3 : andS b a = andS a b := srt_ext (andS_srt _ _) (andS_srt _ _) (fun x => by rw [mem_andS, mem_andS]; exact And.comm)
    refine Ev.bind_eq (Minus_is a (minusS a b) (by omega) (by omega)) ?_
    rw [e1]
    refine Ev.bind (Same_self _ (by omega)) (Ev.ite_pos rfl (Ev.bind (Or_is (minusS a b) b (by omega) (by omega)) ?_))
    rw [e2]
    refine Ev.bind (Same_self _ (by omega)) (Ev.ite_pos rfl (Ev.bind_eq (And_is b a (by omega) (by omega)) ?_))
    rw [e3]
    exact Ev.bind (Same_self _ (by omega)) (Ev.now _)
  refine Ev.bind (In_go a n (by omega)) (Ev.bind (In_go b n (by omega)) ?_)
  refine Ev.bind_eq (And_is a b (by omega) (by omega)) (Ev.bind (Or_is a b (by omega) (by omega)) (Ev.bind_eq (Minus_is a b (by omega) (by omega)) (Ev.bind (In_go _ n (by omega)) ?_)))
  have m1 : decide (n ∈ andS a b) = (decide (n ∈ a) && decide (n ∈ b)) := by rw [← Bool.decide_and]; exact decide_eq_decide.2 (mem_andS a b n)
  have m2 : decide (n ∈ orS a b) = (decide (n ∈ a) || decide (n ∈ b)) := by rw [← Bool.decide_or]; exact decide_eq_decide.2 (mem_orS a b n)
  have m3 : decide (n ∈ minusS a b) = (decide (n ∈ a) && !decide (n ∈ b)) := by rw [← decide_not, ← Bool.decide_and]; exact decide_eq_decide.2 (mem_minusS a b n)
  have i2 := In_go (orS a b) n (by omega)
  have i3 := In_go (minusS a b) n (by omega)
  rw [m1]
  rw [m2] at i2
  rw [m3] at i3
  by_cases h3 : n ∈ a <;> by_cases h4 : n ∈ b <;> simp only [h3, h4, decide_true, decide_false, Bool.and_true, Bool.and_false, Bool.true_and, Bool.false_and, Bool.or_true, Bool.or_false, Bool.true_or, Bool.false_or, Bool.not_true, Bool.not_false] at i2 i3 ⊢
  · refine Ev.ite_pos (by trivial) (Ev.ite_neg (by decide) (Ev.bind i2 (Ev.ite_neg (by decide) (Ev.bind i3 hj))))
  · refine Ev.ite_pos (by trivial) (Ev.ite_neg (by decide) (Ev.bind i2 (Ev.ite_neg (by decide) (Ev.bind i3 hj))))
  · refine Ev.ite_neg (by decide) (Ev.ite_neg (by decide) (Ev.bind i2 (Ev.ite_neg (by decide) (Ev.bind i3 hj))))
  · refine Ev.ite_neg (by decide) (Ev.ite_neg (by decide) (Ev.bind i2 (Ev.ite_neg (by decide) (Ev.bind i3 hj))))
end Go.Proofs.Ytknpmknkkofnjaa.Pure
