/- VarintShort: for every input the law's pure function answers true. -/
import Derived.Test.YtihfpmociffpeaaVx6
import Derived.Test.YtihfpmociffpeaaQAlive03
import Derived.Test.YtihfpmociffpeaaQRef03
namespace Go.Proofs.Ytihfpmociffpeaa.Pure
open Go.RowKit Go.Proofs.Ytihfpmociffpeaa.V Go.Proofs.YtihfpmociffpeaaW.PrintWords Go.Proofs.YtihfpmociffpeaaW.PrintLast Go.Proofs.YtihfpmociffpeaaW.PrintMore Go.Proofs.Ytihfpmociffpeaa.Q

theorem short_count (l : List Int) (a : Int) (hl : l.length ≤ 10000) (ha : a ≤ 9223372036854775807) : ∀ (j : Nat) (x : Int) (c : Nat), 0 ≤ x → x < 128 ^ (j + 1) → x < 9223372036854775808 → c + j < 100 →
    (enc7 10 (max a 0)).length = c + (enc7 (j + 1) x).length → Ev (fun k => codesearchlaw03_VarintShort.l0 k l a ((c + 1 : Nat) : Int) (x / 128)) true := by
  intro j
  induction j with
  | zero =>
    intro x c h0 h1 h2 h3 h4
    refine Ev.step (f := fun _ => some true) (fun k => ?_) (Ev.now _)
    rw [codesearchlaw03_VarintShort.l0, if_neg (show ¬ x / 128 > 0 by omega), Put_go l a (by omega) ha]
    have e1 : (enc7 (0 + 1) x).length = 1 := by rw [enc7, if_neg (show ¬ x ≥ 128 by omega)]; rfl
    rw [Option.bind_some, w64 (by omega) (by omega), if_pos (by rw [List.length_append]; omega), if_pos (by omega), if_pos (by rw [List.length_append]; omega)]
    simp
  | succ j ih =>
    intro x c h0 h1 h2 h3 h4
    by_cases hx : x ≥ 128
    · have hd : x / 128 > 0 := by omega
      have e1 : (enc7 (j + 1 + 1) x).length = (enc7 (j + 1) (x / 128)).length + 1 := by rw [enc7, if_pos hx]; rfl
      have := ih (x / 128) (c + 1) (by omega) (by rw [Int.pow_succ] at h1; omega) (by omega) (by omega) (by omega)
      refine Ev.step (fun k => ?_) this
      rw [codesearchlaw03_VarintShort.l0, if_pos hd, w64 (by omega) (by omega), Int.tdiv_eq_ediv_of_nonneg (by omega), w64 (by omega) (by omega)]
      rw [show ((c + 1 : Nat) : Int) + 1 = ((c + 1 + 1 : Nat) : Int) from by omega]
    · refine Ev.step (f := fun _ => some true) (fun k => ?_) (Ev.now _)
      rw [codesearchlaw03_VarintShort.l0, if_neg (show ¬ x / 128 > 0 by omega), Put_go l a (by omega) ha]
      have e1 : (enc7 (j + 1 + 1) x).length = 1 := by rw [enc7, if_neg hx]; rfl
      rw [Option.bind_some, w64 (by omega) (by omega), if_pos (by rw [List.length_append]; omega), if_pos (by omega), if_pos (by rw [List.length_append]; omega)]
      simp
theorem VarintShort : codesearchlaw03_VarintShort.Pure := by
  intro l0 a1 hm hl hw ha
  have ha' := wf_i64.1 ha
  refine Ev.rounds (r := true) ?_
  refine Ev.congr (fun k => by rw [codesearchlaw03_VarintShort.f]) (Ev.bind alive03 (Ev.ite_pos rfl ?_))
  by_cases h1 : (l0.length : Int) > 10000
  · exact Ev.ite_pos h1 (Ev.now true)
  · refine Ev.ite_neg h1 ?_
    have := short_count l0 a1 (by omega) (by omega) 9 (max a1 0) 0 (by omega) (Int.lt_of_lt_of_le (show max a1 0 < 18446744073709551616 by omega) (by decide)) (by omega) (by omega) (by show (enc7 10 (max a1 0)).length = 0 + (enc7 10 (max a1 0)).length; omega)
    refine Ev.congr (fun k => ?_) this
    rw [mx_of, w64 (by omega) (by omega)]; rfl

end Go.Proofs.Ytihfpmociffpeaa.Pure
