/- Two equal lists are found equal. -/
import Derived.Test.YtihfpmociffpeaaVx7
import Derived.Test.YtihfpmociffpeaaQGen
namespace Go.Proofs.Ytihfpmociffpeaa.Q
open Go.RowKit Go.Proofs.YtihfpmociffpeaaW.PrintWords Go.Proofs.YtihfpmociffpeaaW.PrintLast Go.Proofs.YtihfpmociffpeaaW.PrintMore Go.Proofs.Ytihfpmociffpeaa.V
theorem SameInts_self (l : List Int) (hl : l.length ≤ 9223372036854775000) : Ev (fun k => codesearchref03_SameInts.f k l l) true := by
  have key : ∀ d (i : Nat), i + d = l.length → Ev (fun k => codesearchref03_SameInts.l0 k l l (i : Int)) true := by
    intro d
    induction d with
    | zero =>
      intro i hi
      refine Ev.step (f := fun _ => some true) (fun k => ?_) (Ev.now _)
      rw [codesearchref03_SameInts.l0, if_neg (show ¬ (i : Int) < (l.length : Int) by omega)]
    | succ d ih =>
      intro i hi
      refine Ev.step (fun k => ?_) (ih (i + 1) (by omega))
      rw [codesearchref03_SameInts.l0, if_pos (show (i : Int) < (l.length : Int) by omega), if_pos (show (0 : Int) ≤ (i : Int) by omega), if_pos (show (i : Int) < (l.length : Int) by omega), if_pos rfl, w64 (by omega) (by omega)]
      rfl
  exact Ev.congr (fun k => by rw [codesearchref03_SameInts.f, if_pos rfl]; rfl) (key l.length 0 (by omega))
end Go.Proofs.Ytihfpmociffpeaa.Q
