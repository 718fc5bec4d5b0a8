/- The examples of chapter 5 hold. -/
import Derived.Test.YtknpmknkkofnjaaPQAtL05
import Derived.Test.YtknpmknkkofnjaaPx6
namespace Go.Proofs.Ytknpmknkkofnjaa.Q
open Go.RowKit Go.Proofs.YtknpmknkkofnjaaW.PrintWords Go.Proofs.YtknpmknkkofnjaaW.PrintLast Go.Proofs.YtknpmknkkofnjaaW.PrintMore Go.Proofs.Ytknpmknkkofnjaa.P
set_option linter.unusedVariables false
theorem al_and : andS [1, 3, 5] [5, 3, 3] = [3, 5] := srt_ext (andS_srt _ _) (by decide) (fun x => by rw [mem_andS]; simp; omega)
theorem al_or : orS [1, 3, 5] [5, 3, 3] = [1, 3, 5] := srt_ext (orS_srt _ _) (by decide) (fun x => by rw [mem_orS]; simp; omega)
theorem al_minus : minusS [1, 3, 5] [5, 3, 3] = [1] := srt_ext (minusS_srt _ _) (by decide) (fun x => by rw [mem_minusS]; simp; omega)
theorem al_atl : atl 2 [[1, 2], [2, 2], [1]] = [1, 2] := by
  have e : uniq ([[1, 2], [2, 2], [1]] : List (List Int)).flatten = [1, 2] := srt_ext (uniq_srt _) (by decide) (fun x => by rw [mem_uniq]; simp; omega)
  rw [atl, e]
  decide
set_option maxRecDepth 100000 in
theorem al_j1 : Ev (fun k => codesearchlaw05_alive.j1 k [2, 172, 2, 4, 2, 5, 167, 2] false) true := Ev.of (fun k => ((codesearchlaw05_alive.mono_l k).2 _ _)) (k := 40) (by decide +kernel)
theorem al_pack : Ev (fun k => posting_Pack.f k [5, 300]) ([2, 172, 2, 4, 2, 5, 167, 2], 0) := Ev.of (fun k => posting_Pack.mono _ k) (k := 40) (by decide +kernel)
theorem alive05 : Ev (fun k => codesearchlaw05_alive.f k) true := by
  refine Ev.congr (fun k => by rw [codesearchlaw05_alive.f, Option.bind_some, Option.bind_some, And_is _ _ (by decide) (by decide), al_and, Option.bind_some]) (Ev.bind (Same_self [3, 5] (by decide)) ?_)
  refine Ev.ite_pos rfl (Ev.bind (Or_is [1, 3, 5] [5, 3, 3] (by decide) (by decide)) ?_)
  rw [al_or]
  refine Ev.bind (Same_self [1, 3, 5] (by decide)) (Ev.ite_pos rfl (Ev.bind_eq (Minus_is [1, 3, 5] [5, 3, 3] (by decide) (by decide)) ?_))
  rw [al_minus]
  refine Ev.bind (Same_self [1] (by decide)) (Ev.step (fun k => by rw [codesearchlaw05_alive.j0, if_neg (by decide)]) (Ev.bind (AtL_is 2 [[1, 2], [2, 2], [1]] (by decide) (by decide)) ?_))
  rw [al_atl]
  refine Ev.bind (Same_self [1, 2] (by decide)) (Ev.ite_pos rfl (Ev.bind al_pack (Ev.ite_pos rfl ?_)))
  refine Ev.congr (fun k => ?_) al_j1
  rw [codesearchlaw05_sameBytes.f]
  dsimp only
  rw [beq_self_eq_true, Option.bind_some]
  rfl
end Go.Proofs.Ytknpmknkkofnjaa.Q
