/- What a number that was read is. -/
import Derived.Test.YtihfpmociffpeaaOQVar
namespace Go.Proofs.Ytihfpmociffpeaa.Q
open Go.RowKit Go.Proofs.YtihfpmociffpeaaW.PrintWords Go.Proofs.YtihfpmociffpeaaW.PrintLast Go.Proofs.YtihfpmociffpeaaW.PrintMore Go.Proofs.Ytihfpmociffpeaa.O
set_option linter.unusedVariables false
set_option linter.unusedSimpArgs false

theorem num7_ok {at_ : Int} {p : List Int} (hp : 0 < p.length) (h : (num7 at_ p).2.2 = 0) : p.length ≤ 9 ∧ val7 p ≤ 4611686018427387904 ∧ (num7 at_ p) = (val7 p, at_ + p.length, 0) := by
  unfold num7 at h ⊢
  by_cases h9 : p.length > 9
  · rw [if_pos h9] at h; cases h
  · rw [if_neg h9] at h ⊢
    by_cases hb : val7 p > 4611686018427387904
    · rw [if_pos hb] at h; cases h
    · rw [if_neg hb] at h ⊢
      by_cases hz : p.length > 1 ∧ p.getLastD 0 = 0
      · rw [if_pos hz] at h; cases h
      · rw [if_neg hz]; exact ⟨by omega, by omega, rfl⟩
/-- Where Get succeeds. -/
theorem get7_ok {b : List Int} {at_ : Int} (h : (get7 b at_).2.2 = 0) :
    0 ≤ at_ ∧ at_ ≤ (b.length : Int) ∧ ∃ p, pre7 (b.drop at_.toNat) = some p ∧ p.length ≤ 9 ∧ get7 b at_ = (val7 p, at_ + p.length, 0) ∧ 0 < p.length ∧ 0 ≤ val7 p ∧ val7 p ≤ 4611686018427387904 ∧ at_ + p.length ≤ (b.length : Int) := by
  unfold get7 at h ⊢
  by_cases h0 : at_ < 0 ∨ at_ > (b.length : Int)
  · rw [if_pos h0] at h; cases h
  · rw [if_neg h0] at h ⊢
    cases hp : pre7 (b.drop at_.toNat) with
    | none => rw [hp] at h; cases h
    | some p =>
      rw [hp] at h
      obtain ⟨g1, g2, g3, g4, g5⟩ := pre7_some hp
      obtain ⟨h1, h2, h3⟩ := num7_ok g1 h
      have hv := val7_range p
      simp at g2
      exact ⟨by omega, by omega, p, rfl, h1, h3, g1, hv.1, h2, by omega⟩
theorem get7_bad {b : List Int} {at_ : Int} (h : (get7 b at_).2.2 ≠ 0) : get7 b at_ = (0, 0, (get7 b at_).2.2) := by
  unfold get7 at h ⊢
  by_cases h0 : at_ < 0 ∨ at_ > (b.length : Int)
  · rw [if_pos h0]
  · rw [if_neg h0] at h ⊢
    cases hp : pre7 (b.drop at_.toNat) with
    | none => rfl
    | some p =>
      rw [hp] at h
      simp only at h ⊢
      unfold num7 at h ⊢
      by_cases h9 : p.length > 9
      · rw [if_pos h9]
      · rw [if_neg h9] at h ⊢
        by_cases hb : val7 p > 4611686018427387904
        · rw [if_pos hb]
        · rw [if_neg hb] at h ⊢
          by_cases hz : p.length > 1 ∧ p.getLastD 0 = 0
          · rw [if_pos hz]
          · rw [if_neg hz] at h; exact absurd rfl h
end Go.Proofs.Ytihfpmociffpeaa.Q
