/- What the document's functions on numbers answer: the same words as the program's. -/
import Derived.Test.YtknpmknkkofnjaaPx9
import Derived.Test.YtknpmknkkofnjaaPQPut
namespace Go.Proofs.Ytknpmknkkofnjaa.Q
open Go.RowKit Go.Proofs.YtknpmknkkofnjaaW.PrintWords Go.Proofs.YtknpmknkkofnjaaW.PrintLast Go.Proofs.YtknpmknkkofnjaaW.PrintMore Go.Proofs.Ytknpmknkkofnjaa.P
set_option linter.unusedVariables false
set_option linter.unusedSimpArgs false

/-! ### Put -/
theorem rput_digits : ∀ (j : Nat) (x : Int) (l : List Int), 0 ≤ x → x < 128 ^ (j + 1) → x < 9223372036854775808 → l.length + j + 1 < 140737488355328 → Ev (fun k => codesearchref03_Put.l1 k l x) (l ++ enc7 (j + 1) x) := by
  intro j
  induction j with
  | zero =>
    intro x l h0 h1 h2 h3
    have hn : ¬ x ≥ 128 := by omega
    refine Ev.step (f := fun _ => some (l ++ enc7 1 x)) (fun k => ?_) (Ev.now _)
    rw [codesearchref03_Put.l1, enc7, if_neg hn, if_neg hn, if_pos (show l.length < 140737488355328 by omega), show x % 256 = x from by omega]
  | succ j ih =>
    intro x l h0 h1 h2 h3
    rw [enc7]
    by_cases h : x ≥ 128
    · rw [if_pos h]
      have := ih (x / 128) (l ++ [x % 128 + 128]) (by omega) (by rw [Int.pow_succ] at h1; omega) (by omega) (by simp; omega)
      rw [List.append_assoc] at this
      refine Ev.step (fun k => ?_) this
      rw [codesearchref03_Put.l1, if_pos h, if_pos (show l.length < 140737488355328 by omega), Int.tmod_eq_emod_of_nonneg h0, Int.tdiv_eq_ediv_of_nonneg h0, w64 (by omega) (by omega), w64 (x := x / 128) (by omega) (by omega), show (x % 128 + 128) % 256 = x % 128 + 128 from by omega]
    · rw [if_neg h]
      refine Ev.step (f := fun _ => some (l ++ [x])) (fun k => ?_) (Ev.now _)
      rw [codesearchref03_Put.l1, if_neg h, if_pos (show l.length < 140737488355328 by omega), show x % 256 = x from by omega]
theorem rPut_go (l : List Int) (a : Int) (hl : l.length + 20 < 140737488355328) (ha : a ≤ 9223372036854775807) :
    Ev (fun k => codesearchref03_Put.f k l a) (l ++ enc7 10 (max a 0)) := by
  have key : ∀ d (i : Nat), i + d = l.length → Ev (fun k => codesearchref03_Put.l0 k l a (l.take i) (i : Int)) (l ++ enc7 10 (max a 0)) := by
    intro d
    induction d with
    | zero =>
      intro i hi
      refine Ev.step (f := fun k => codesearchref03_Put.l1 k l (max a 0)) (fun k => ?_) (rput_digits 9 (max a 0) l (by omega) (Int.lt_of_lt_of_le (show max a 0 < 18446744073709551616 by omega) (by decide)) (by omega) (by omega))
      rw [codesearchref03_Put.l0, if_neg (show ¬ (i : Int) < (l.length : Int) by omega), mx_of, List.take_of_length_le (by omega)]
    | succ d ih =>
      intro i hi
      refine Ev.step (f := fun k => codesearchref03_Put.l0 k l a (l.take (i + 1)) ((i + 1 : Nat) : Int)) (fun k => ?_) (ih (i + 1) (by omega))
      rw [codesearchref03_Put.l0, if_pos (show (i : Int) < (l.length : Int) by omega), if_pos (show (0 : Int) ≤ (i : Int) by omega), if_pos (show (l.take i).length < 140737488355328 by simp; omega), rd_nat l i (by omega), take_snoc l i (by omega), w64 (by omega) (by omega)]
      rfl
  have := key l.length 0 (by omega)
  rwa [List.take_zero] at this
end Go.Proofs.Ytknpmknkkofnjaa.Q
