/- Apply, of the document. -/
import Derived.Test.YtpnhamfodjfacaaDoorTQApply25
import Derived.Test.YtpnhamfodjfacaaDoorTQRSet25
import Derived.Test.YtpnhamfodjfacaaDoorTx13
import Derived.Test.YtpnhamfodjfacaaDoorTx12
namespace Go.Proofs.YtpnhamfodjfacaaDoor.Q
open Go.RowKit Go.Proofs.YtpnhamfodjfacaaDoorW.PrintWords Go.Proofs.YtpnhamfodjfacaaDoorW.PrintLast Go.Proofs.YtpnhamfodjfacaaDoorW.PrintMore Go.Proofs.YtpnhamfodjfacaaDoor.T
set_option linter.unusedVariables false
set_option linter.unusedSimpArgs false
theorem there_is (l : FS) (s : ByteArray) (hl : l.length ≤ 1000000) : Ev (fun k => codesearchref25_there.f k l s) (thereL l s) := by
  have key : ∀ d (i : Nat), i + d = l.length → Ev (fun k => codesearchref25_there.l0 k l s (i : Int)) (thereL (l.drop i) s) := by
    intro d
    induction d with
    | zero =>
      intro i hi
      rw [List.drop_of_length_le (by omega)]
      refine Ev.step (f := fun _ => some false) (fun k => ?_) (Ev.now _)
      rw [codesearchref25_there.l0, if_neg (by omega)]
    | succ d ih =>
      intro i hi
      have hlt : i < l.length := by omega
      rw [drop_cons l i hlt, thereL, List.any_cons]
      refine Ev.step (fun k => by rw [codesearchref25_there.l0, if_pos (show (i : Int) < (l.length : Int) by omega), if_pos (by omega), rdF_nat l i hlt, w1 i (by omega)]) ?_
      by_cases h : l[i].f0 = s
      · rw [decide_eq_true h, Bool.true_or]
        exact Ev.ite_pos (toList_eq_iff.2 h) (Ev.now _)
      · rw [decide_eq_false h, Bool.false_or]
        exact Ev.ite_neg (fun e => h (toList_eq_iff.1 e)) (ih (i + 1) (by omega))
  exact key l.length 0 (by omega)
theorem rApply_is (l : FS) (c : List SC) : Ev (fun k => codesearchref25_Apply.f k l c) (applyOut l c) := by
  refine Ev.bind (rRight_is l) ?_
  rw [applyOut]
  by_cases h : rightM l = 0
  · rw [if_pos h]
    refine Ev.ite_pos h ?_
    by_cases h16 : (c.length : Int) > 16
    · rw [if_pos (by omega)]
      exact Ev.ite_pos h16 (Ev.now _)
    rw [if_neg (by omega)]
    have ht := tree_of h
    have hl := ht.len
    refine Ev.ite_neg h16 ?_
    have key : ∀ d (i : Nat) (r : FS), i + d = c.length → r.length ≤ 32 + i → Ev (fun k => codesearchref25_Apply.l0 k c r (i : Int)) (match applyR r (c.drop i) with | none => ([], 8) | some r => if rightM r = 0 then (r, 0) else ([], rightM r)) := by
      intro d
      induction d with
      | zero =>
        intro i r hi hr
        rw [List.drop_of_length_le (by omega), applyR]
        refine Ev.step (fun k => by rw [codesearchref25_Apply.l0, if_neg (by omega)]) (Ev.bind (rRight_is r) ?_)
        by_cases e3 : rightM r = 0
        · rw [show (match some r with | none => (([] : FS), (8 : Int)) | some r => if rightM r = 0 then (r, 0) else ([], rightM r)) = (r, 0) from if_pos e3]
          exact Ev.ite_pos e3 (Ev.now _)
        · rw [show (match some r with | none => (([] : FS), (8 : Int)) | some r => if rightM r = 0 then (r, 0) else ([], rightM r)) = ([], rightM r) from if_neg e3]
          exact Ev.ite_neg e3 (Ev.now _)
      | succ d ih =>
        intro i r hi hr
        have hlt : i < c.length := by omega
        rw [drop_cons c i hlt, applyR]
        refine Ev.step (fun k => by rw [codesearchref25_Apply.l0, if_pos (show (i : Int) < (c.length : Int) by omega), if_pos (by omega), rdC_nat c i hlt, w1 i (by omega)]) ?_
        by_cases e : c[i].f1 = 0
        · rw [if_pos e]
          refine Ev.ite_pos e (Ev.bind (there_is r _ (by omega)) ?_)
          by_cases e2 : thereL r c[i].f0 = true
          · rw [if_pos e2]
            refine Ev.ite_pos e2 (Ev.bind (Set_is r _ _ (by omega)) ?_)
            rw [e]
            exact ih (i + 1) _ (by omega) (by have := setM_len r c[i].f0 0; omega)
          · rw [if_neg e2]
            exact Ev.ite_neg e2 (Ev.now _)
        · rw [if_neg e]
          refine Ev.ite_neg e (Ev.bind (Set_is r _ _ (by omega)) ?_)
          exact ih (i + 1) _ (by omega) (by have := setM_len r c[i].f0 c[i].f1; omega)
    have := key c.length 0 l (by omega) (by omega)
    rw [List.drop_zero] at this
    exact this
  · rw [if_neg h]
    exact Ev.ite_neg h (Ev.now _)
end Go.Proofs.YtpnhamfodjfacaaDoor.Q
