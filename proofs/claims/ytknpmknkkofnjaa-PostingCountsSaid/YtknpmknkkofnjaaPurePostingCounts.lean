/- PostingCounts, over numbers and lists alone. -/
import Derived.Test.YtknpmknkkofnjaaStPostingCounts
import Derived.Test.YtknpmknkkofnjaaPQAlive05
namespace Go.Proofs.Ytknpmknkkofnjaa.Pure
open Go.RowKit Go.Proofs.YtknpmknkkofnjaaW.PrintWords Go.Proofs.YtknpmknkkofnjaaW.PrintLast Go.Proofs.YtknpmknkkofnjaaW.PrintMore Go.Proofs.Ytknpmknkkofnjaa.P Go.Proofs.Ytknpmknkkofnjaa.Q
set_option linter.unusedVariables false
theorem atl_len (k : Int) (ls : List (List Int)) (M : Nat) (h : ∀ l ∈ ls, l.length ≤ M) : (atl k ls).length ≤ ls.length * M := by
  refine Nat.le_trans (List.length_filter_le _ _) (Nat.le_trans (uniq_len _) ?_)
  induction ls with
  | nil => simp
  | cons l ls ih =>
    have h1 := ih (fun m hm => h m (by simp [hm]))
    have h2 := h l (by simp)
    rw [List.flatten_cons, List.length_append, List.length_cons, Nat.succ_mul]
    omega
theorem PostingCounts : StPostingCounts.Pure := by
  intro U k0 ls hk hls
  refine Ev.rounds (Ev.congr (fun k => rfl) (Ev.bind alive05 (Ev.ite_pos rfl ?_)))
  by_cases h1 : (ls.length : Int) > 8
  · exact Ev.ite_pos h1 (Ev.now _)
  refine Ev.ite_neg h1 ?_
  have key : ∀ d (i : Nat), i + d = ls.length → (∀ l ∈ ls.take i, l.length ≤ 20) → Ev (fun k => codesearchlaw05_PostingCounts.l0 k k0 ls (i : Int)) true := by
    intro d
    induction d with
    | zero =>
      intro i hi hm
      rw [List.take_of_length_le (by omega)] at hm
      have hm' : ∀ l ∈ ls, l.length ≤ 1000 := fun l h => by have := hm l h; omega
      have hlen := atl_len k0 ls 20 hm
      refine Ev.step (fun k => by rw [codesearchlaw05_PostingCounts.l0, if_neg (show ¬ (i : Int) < (ls.length : Int) by omega)]) ?_
      exact Ev.bind (AtL_is k0 ls (by omega) hm') (Ev.bind (rAtL_is k0 ls (by omega) hm') (Ev.bind (Same_self _ (by omega)) (Ev.now _)))
    | succ d ih =>
      intro i hi hm
      have hlt : i < ls.length := by omega
      by_cases h : ((ls[i]).length : Int) > 20
      · refine Ev.step (f := fun _ => some true) (fun k => ?_) (Ev.now _)
        rw [codesearchlaw05_PostingCounts.l0, if_pos (show (i : Int) < (ls.length : Int) by omega), if_pos (show (0 : Int) ≤ (i : Int) by omega), rd_L1_nat ls i hlt, if_pos h]
      · refine Ev.step (fun k => ?_) (ih (i + 1) (by omega) (fun l hl => ?_))
        · rw [codesearchlaw05_PostingCounts.l0, if_pos (show (i : Int) < (ls.length : Int) by omega), if_pos (show (0 : Int) ≤ (i : Int) by omega), rd_L1_nat ls i hlt, if_neg h, w64 (by omega) (by omega)]
          rfl
        · rw [← take_snoc ls i hlt, List.mem_append, List.mem_singleton] at hl
          rcases hl with hl | rfl
          · exact hm l hl
          · omega
  exact key ls.length 0 (by omega) (by simp)
end Go.Proofs.Ytknpmknkkofnjaa.Pure
