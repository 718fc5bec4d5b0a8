/- A number that was put is read back. -/
import Derived.Test.YtihfpmociffpeaaOQPut
namespace Go.Proofs.Ytihfpmociffpeaa.Q
open Go.RowKit Go.Proofs.YtihfpmociffpeaaW.PrintWords Go.Proofs.YtihfpmociffpeaaW.PrintLast Go.Proofs.YtihfpmociffpeaaW.PrintMore Go.Proofs.Ytihfpmociffpeaa.O
set_option linter.unusedVariables false
set_option linter.unusedSimpArgs false

theorem pre7_enc (k : Nat) : ∀ (x : Int) (t : List Int), 0 ≤ x → x < 128 ^ (k + 1) → pre7 (enc7 (k + 1) x ++ t) = some (enc7 (k + 1) x) := by
  induction k with
  | zero =>
    intro x t h0 h1
    have hn : ¬ x ≥ 128 := by omega
    rw [enc7, if_neg hn]
    simp [pre7]; omega
  | succ k ih =>
    intro x t h0 h1
    rw [enc7]
    by_cases h : x ≥ 128
    · rw [if_pos h, List.cons_append, pre7, if_neg (show ¬ x % 128 + 128 < 128 by omega), ih _ _ (by omega) (by rw [Int.pow_succ] at h1; omega)]
      rfl
    · rw [if_neg h]
      simp [pre7]; omega
theorem val7_enc (k : Nat) : ∀ (x : Int), 0 ≤ x → x < 128 ^ (k + 1) → val7 (enc7 (k + 1) x) = x := by
  induction k with
  | zero =>
    intro x h0 h1
    have hn : ¬ x ≥ 128 := by omega
    rw [enc7, if_neg hn]
    simp [val7]; omega
  | succ k ih =>
    intro x h0 h1
    rw [enc7]
    by_cases h : x ≥ 128
    · rw [if_pos h, val7, ih _ (by omega) (by rw [Int.pow_succ] at h1; omega)]; omega
    · rw [if_neg h]
      simp [val7]; omega
theorem enc7_short (j : Nat) : ∀ (k : Nat) (x : Int), x < 128 ^ (j + 1) → (enc7 k x).length ≤ j + 1 := by
  induction j with
  | zero =>
    intro k x h
    cases k with
    | zero => simp [enc7]
    | succ k => rw [enc7, if_neg (show ¬ x ≥ 128 by omega)]; simp
  | succ j ih =>
    intro k x h
    cases k with
    | zero => simp [enc7]
    | succ k =>
      rw [enc7]
      split
      · have := ih k (x / 128) (by rw [Int.pow_succ] at h; omega)
        simp; omega
      · simp
theorem enc7_last (k : Nat) : ∀ (x : Int), 0 ≤ x → x < 128 ^ (k + 1) → (enc7 (k + 1) x).length > 1 → (enc7 (k + 1) x).getLastD 0 ≠ 0 := by
  induction k with
  | zero =>
    intro x h0 h1 hl
    rw [enc7, if_neg (show ¬ x ≥ 128 by omega)] at hl
    simp at hl
  | succ k ih =>
    intro x h0 h1 hl
    rw [enc7] at hl ⊢
    by_cases h : x ≥ 128
    · rw [if_pos h]
      rw [if_pos h] at hl
      have hx : x / 128 > 0 := by omega
      by_cases h2 : (enc7 (k + 1) (x / 128)).length > 1
      · have := ih (x / 128) (by omega) (by rw [Int.pow_succ] at h1; omega) h2
        cases he : enc7 (k + 1) (x / 128) with
        | nil => rw [he] at h2; simp at h2
        | cons a s => rw [he] at this; simpa using this
      · rw [enc7] at h2 ⊢
        by_cases h3 : x / 128 ≥ 128
        · rw [if_pos h3] at h2 ⊢
          cases k with
          | zero => rw [Int.pow_succ] at h1; omega
          | succ k =>
            rw [enc7] at h2
            split at h2 <;> simp at h2
        · rw [if_neg h3]; simp; omega
    · rw [if_neg h] at hl
      simp at hl
theorem enc7_pos (k : Nat) (x : Int) : 0 < (enc7 (k + 1) x).length := by
  rw [enc7]; split <;> simp
/-- A number that was put is read back. -/
theorem get7_enc (p t : List Int) (x : Int) (h0 : 0 ≤ x) (h1 : x ≤ 4611686018427387904) : get7 (p ++ (enc7 10 x ++ t)) (p.length : Int) = (x, (p.length : Int) + (enc7 10 x).length, 0) := by
  have hx : x < 128 ^ (9 + 1) := Int.lt_of_lt_of_le (show x < 18446744073709551616 by omega) (by decide)
  have hx9 : x < 128 ^ (8 + 1) := Int.lt_of_lt_of_le (show x < 9223372036854775808 by omega) (by decide)
  unfold get7
  have hp : pre7 (enc7 10 x ++ t) = some (enc7 10 x) := pre7_enc 9 x t h0 hx
  have hv : val7 (enc7 10 x) = x := val7_enc 9 x h0 hx
  rw [if_neg (by simp; omega), Int.toNat_natCast, List.drop_left, hp]
  show num7 _ _ = _
  have hs := enc7_short 8 10 x hx9
  unfold num7
  rw [if_neg (by omega), hv, if_neg (by omega), if_neg (fun h => enc7_last 9 x h0 hx h.1 h.2)]
end Go.Proofs.Ytihfpmociffpeaa.Q
