/- What a law of chapter 25 reads off a list. -/
import Derived.Test.YtpnhamfodjfacaaDoorKQSet25
import Derived.Test.YtpnhamfodjfacaaDoorKx12
namespace Go.Proofs.YtpnhamfodjfacaaDoor.Q
open Go.RowKit Go.Proofs.YtpnhamfodjfacaaDoorW.PrintWords Go.Proofs.YtpnhamfodjfacaaDoorW.PrintLast Go.Proofs.YtpnhamfodjfacaaDoorW.PrintMore Go.Proofs.YtpnhamfodjfacaaDoor.K
set_option linter.unusedVariables false
set_option linter.unusedSimpArgs false
theorem held_is (l : FS) (s : ByteArray) (hl : l.length ≤ 1000000) : Ev (fun k => codesearchlaw25_held.f k l s) (blobL l s) := by
  have key : ∀ d (i : Nat), i + d = l.length → Ev (fun k => codesearchlaw25_held.l0 k l s (i : Int)) (blobL (l.drop i) s) := by
    intro d
    induction d with
    | zero =>
      intro i hi
      rw [List.drop_of_length_le (by omega)]
      refine Ev.step (f := fun _ => some 0) (fun k => ?_) (Ev.now _)
      rw [codesearchlaw25_held.l0, if_neg (by omega)]
    | succ d ih =>
      intro i hi
      have hlt : i < l.length := by omega
      rw [drop_cons l i hlt, blobL]
      refine Ev.step (fun k => by rw [codesearchlaw25_held.l0, if_pos (show (i : Int) < (l.length : Int) by omega), if_pos (by omega), rdF_nat l i hlt, w1 i (by omega)]) ?_
      by_cases h : l[i].f0 = s
      · rw [if_pos h]
        exact Ev.ite_pos (toList_eq_iff.2 h) (Ev.now _)
      · rw [if_neg h]
        exact Ev.ite_neg (fun e => h (toList_eq_iff.1 e)) (ih (i + 1) (by omega))
  exact key l.length 0 (by omega)
end Go.Proofs.YtpnhamfodjfacaaDoor.Q
