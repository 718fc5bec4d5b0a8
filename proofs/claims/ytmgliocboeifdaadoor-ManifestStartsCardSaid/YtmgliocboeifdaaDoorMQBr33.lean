/- Chapter 33: the branches of an entry, of the program. -/
import Derived.Test.YtmgliocboeifdaaDoorMQState33
import Derived.Test.YtmgliocboeifdaaDoorMQPath25
import Derived.Test.YtmgliocboeifdaaDoorMx11
namespace Go.Proofs.YtmgliocboeifdaaDoor.Q
open Go.RowKit Go.Proofs.YtmgliocboeifdaaDoorW.PrintWords Go.Proofs.YtmgliocboeifdaaDoorW.PrintLast Go.Proofs.YtmgliocboeifdaaDoorW.PrintMore Go.Proofs.YtmgliocboeifdaaDoor.M
set_option linter.unusedVariables false
set_option linter.unusedSimpArgs false
/-- One branch behind the one before it. -/
def okB (p : Option ByteArray) (s : ByteArray) : Bool := !decide (0 ≤ Lib.indexByte (bl s) 47) && (validP s && (match p with | none => true | some t => Op.bytesLess t.toList s.toList))
def runB : Option ByteArray → List ByteArray → Bool
  | _, [] => true
  | p, s :: l => okB p s && runB (some s) l
def branchesM (l : List ByteArray) : Bool := runB none l && decide ((l.length : Int) > 0)
def prevB (l : List ByteArray) : Nat → Option ByteArray
  | 0 => none
  | i + 1 => l[i]?
theorem Contains47 (s : ByteArray) : strings_Contains.f s ⟨#[47]⟩ = some (decide (0 ≤ Lib.indexByte (bl s) 47)) := by
  rw [strings_Contains.f, index47, Option.bind_some]
theorem branches_is (l : List ByteArray) (hl : l.length ≤ 1000000) : Ev (fun k => manifest_branches.f k l) (branchesM l) := by
  have key : ∀ d (i : Nat), i + d = l.length → Ev (fun k => manifest_branches.l0 k l l (l.length : Int) (i : Int)) (runB (prevB l i) (l.drop i) && decide ((l.length : Int) > 0)) := by
    intro d
    induction d with
    | zero =>
      intro i hi
      rw [List.drop_of_length_le (by omega), runB, Bool.true_and]
      refine Ev.step (f := fun _ => some (decide ((l.length : Int) > 0))) (fun k => ?_) (Ev.now _)
      rw [manifest_branches.l0, if_neg (show ¬ (i : Int) < (l.length : Int) by omega)]
    | succ d ih =>
      intro i hi
      have hlt : i < l.length := by omega
      rw [drop_cons l i hlt, runB]
      refine Ev.step (fun k => by rw [manifest_branches.l0, if_pos (show (i : Int) < (l.length : Int) by omega), if_pos (show (0 : Int) ≤ (i : Int) by omega), if_pos (show (i : Int) < (l.length : Int) by omega), rdOf_nat _ l i hlt, w1 i (by omega)]) ?_
      have next := ih (i + 1) (by omega)
      rw [show prevB l (i + 1) = some l[i] from List.getElem?_eq_getElem hlt] at next
      refine Ev.bind_eq (Contains47 l[i]) ?_
      by_cases c1 : 0 ≤ Lib.indexByte (bl l[i]) 47
      · rw [show okB (prevB l i) l[i] = false by unfold okB; rw [decide_eq_true c1]; rfl, Bool.false_and, Bool.false_and]
        exact Ev.ite_pos (decide_eq_true c1) (Ev.now _)
      refine Ev.ite_neg (by rw [decide_eq_false c1]; decide) (Ev.bind (ValidPath_is l[i]) ?_)
      by_cases c2 : validP l[i] = true
      · refine Ev.ite_pos c2 ?_
        cases i with
        | zero =>
          rw [show okB (prevB l 0) l[0] = true by unfold okB; rw [decide_eq_false c1, c2]; rfl, Bool.true_and]
          exact Ev.ite_neg (by simp) next
        | succ j =>
          have hj : j < l.length := by omega
          refine Ev.ite_pos (show ((j + 1 : Nat) : Int) > 0 by omega) ?_
          refine Ev.congr (fun k => by rw [show wrap64 (((j + 1 : Nat) : Int) - 1) = ((j : Nat) : Int) from (w64 (by omega) (by omega)).trans (by omega), if_pos (show (0 : Int) ≤ (j : Int) by omega), if_pos (show (j : Int) < (l.length : Int) by omega), rdOf_nat _ l j hj]) ?_
          rw [show okB (prevB l (j + 1)) l[j + 1] = Op.bytesLess l[j].toList l[j + 1].toList by unfold okB; rw [decide_eq_false c1, c2, show prevB l (j + 1) = some l[j] from List.getElem?_eq_getElem hj]; rfl]
          by_cases c3 : Op.bytesLess l[j].toList l[j + 1].toList = true
          · rw [c3, Bool.true_and]
            exact Ev.ite_pos rfl next
          · rw [show Op.bytesLess l[j].toList l[j + 1].toList = false by simpa using c3, Bool.false_and, Bool.false_and]
            exact Ev.ite_neg (by decide) (Ev.now _)
      · rw [show okB (prevB l i) l[i] = false by unfold okB; rw [show validP l[i] = false by simpa using c2, Bool.false_and, Bool.and_false], Bool.false_and, Bool.false_and]
        exact Ev.ite_neg c2 (Ev.now _)
  have := key l.length 0 (by omega)
  rw [List.drop_zero] at this
  exact this
end Go.Proofs.YtmgliocboeifdaaDoor.Q
