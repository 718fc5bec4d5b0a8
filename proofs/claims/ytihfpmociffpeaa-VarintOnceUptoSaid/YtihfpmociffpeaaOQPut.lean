/- What Put answers. -/
import Derived.Test.YtihfpmociffpeaaOx1
import Derived.Test.YtihfpmociffpeaaOQVar
namespace Go.Proofs.Ytihfpmociffpeaa.Q
open Go.RowKit Go.Proofs.YtihfpmociffpeaaW.PrintWords Go.Proofs.YtihfpmociffpeaaW.PrintLast Go.Proofs.YtihfpmociffpeaaW.PrintMore Go.Proofs.Ytihfpmociffpeaa.O
set_option linter.unusedVariables false
set_option linter.unusedSimpArgs false

theorem Put_go (l : List Int) (a : Int) (hl : l.length + 20 < 140737488355328) (ha : a ≤ 9223372036854775807) :
    varint_Put.f l a = some (l ++ enc7 10 (max a 0)) := by
  unfold varint_Put.f
  rw [if_pos (by omega), mx_of, u64w (by omega) (by omega)]
theorem enc7_range (k : Nat) : ∀ x : Int, 0 ≤ x → x < 128 ^ k → ∀ c ∈ enc7 k x, 0 ≤ c ∧ c < 256 := by
  induction k with
  | zero => intro x _ _ c hc; simp [enc7] at hc
  | succ k ih =>
    intro x h0 h1 c hc
    rw [Int.pow_succ] at h1
    unfold enc7 at hc
    split at hc
    · rcases List.mem_cons.1 hc with rfl | hc
      · omega
      · exact ih _ (by omega) (by omega) c hc
    · have := List.mem_singleton.1 hc
      omega
theorem enc7_length (k : Nat) : ∀ x : Int, (enc7 k x).length ≤ k := by
  induction k with
  | zero => intro x; simp [enc7]
  | succ k ih =>
    intro x
    unfold enc7
    split
    · simp; exact ih _
    · simp
end Go.Proofs.Ytihfpmociffpeaa.Q
