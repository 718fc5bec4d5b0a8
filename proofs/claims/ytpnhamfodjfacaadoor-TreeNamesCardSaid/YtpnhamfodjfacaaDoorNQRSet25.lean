/- Set and blob, of the document. -/
import Derived.Test.YtpnhamfodjfacaaDoorNQSet25
import Derived.Test.YtpnhamfodjfacaaDoorNx12
namespace Go.Proofs.YtpnhamfodjfacaaDoor.Q
open Go.RowKit Go.Proofs.YtpnhamfodjfacaaDoorW.PrintWords Go.Proofs.YtpnhamfodjfacaaDoorW.PrintLast Go.Proofs.YtpnhamfodjfacaaDoorW.PrintMore Go.Proofs.YtpnhamfodjfacaaDoor.N
set_option linter.unusedVariables false
set_option linter.unusedSimpArgs false
theorem Set_is (l : FS) (p : ByteArray) (b : Int) (hl : l.length ≤ 1000000) : Ev (fun k => codesearchref25_Set.f k l p b) (setM l p b) := by
  have key : ∀ d (i : Nat) (acc : FS) (inn : Bool), i + d = l.length → acc.length + 2 * d ≤ 3000000 → Ev (fun k => codesearchref25_Set.l0 k l p b acc inn (i : Int)) (acc ++ setGo p b (l.drop i) inn) := by
    intro d
    induction d with
    | zero =>
      intro i acc inn hi ha
      rw [List.drop_of_length_le (by omega), setGo]
      refine Ev.step (f := fun _ => some (acc ++ if inn = true then [] else [⟨p, b⟩])) (fun k => ?_) (Ev.now _)
      rw [codesearchref25_Set.l0, if_neg (by omega)]
      cases inn
      · rw [if_neg (by decide), if_pos (by omega), if_neg (by decide)]
      · rw [if_pos rfl, if_pos rfl, List.append_nil]
    | succ d ih =>
      intro i acc inn hi ha
      have hlt : i < l.length := by omega
      rw [drop_cons l i hlt, setGo]
      have hins : inn = false ∧ ¬ bl l[i].f0 < bl p → Ev (fun k => codesearchref25_Set.j1 k l p b acc inn (i : Int) true) (acc ++ (if inn = false ∧ ¬ bl l[i].f0 < bl p then ⟨p, b⟩ :: (if l[i].f0 = p then setGo p b (l.drop (i + 1)) true else l[i] :: setGo p b (l.drop (i + 1)) true) else if l[i].f0 = p then setGo p b (l.drop (i + 1)) inn else l[i] :: setGo p b (l.drop (i + 1)) inn)) := by
        intro hc
        rw [if_pos hc]
        have hl1 : (acc ++ [(⟨p, b⟩ : SF)]).length = acc.length + 1 := by rw [List.length_append]; rfl
        refine Ev.step (fun k => by rw [codesearchref25_Set.j1, if_pos rfl, if_pos (by omega), Option.bind_some, if_pos (by omega), if_pos (show (i : Int) < (l.length : Int) by omega), rdF_nat l i hlt, w1 i (by omega)]) ?_
        by_cases e : l[i].f0 = p
        · rw [if_pos e]
          refine Ev.ite_pos (toList_eq_iff.2 e) ?_
          have := ih (i + 1) (acc ++ [⟨p, b⟩]) true (by omega) (by omega)
          rw [List.append_assoc] at this
          exact this
        · rw [if_neg e]
          refine Ev.ite_neg (fun h => e (toList_eq_iff.1 h)) (Ev.ite_pos (by omega) ?_)
          have := ih (i + 1) ((acc ++ [⟨p, b⟩]) ++ [l[i]]) true (by omega) (by rw [List.length_append, hl1]; simp; omega)
          rw [show (acc ++ [(⟨p, b⟩ : SF)]) ++ [l[i]] ++ setGo p b (l.drop (i + 1)) true = acc ++ ⟨p, b⟩ :: l[i] :: setGo p b (l.drop (i + 1)) true by simp] at this
          exact this
      have hno : ¬ (inn = false ∧ ¬ bl l[i].f0 < bl p) → Ev (fun k => codesearchref25_Set.j1 k l p b acc inn (i : Int) false) (acc ++ (if inn = false ∧ ¬ bl l[i].f0 < bl p then ⟨p, b⟩ :: (if l[i].f0 = p then setGo p b (l.drop (i + 1)) true else l[i] :: setGo p b (l.drop (i + 1)) true) else if l[i].f0 = p then setGo p b (l.drop (i + 1)) inn else l[i] :: setGo p b (l.drop (i + 1)) inn)) := by
        intro hc
        rw [if_neg hc]
        refine Ev.step (fun k => by rw [codesearchref25_Set.j1, if_neg (by decide), if_pos (by omega), if_pos (show (i : Int) < (l.length : Int) by omega), rdF_nat l i hlt, w1 i (by omega)]) ?_
        by_cases e : l[i].f0 = p
        · rw [if_pos e]
          exact Ev.ite_pos (toList_eq_iff.2 e) (ih (i + 1) acc inn (by omega) (by omega))
        · rw [if_neg e]
          refine Ev.ite_neg (fun h => e (toList_eq_iff.1 h)) (Ev.ite_pos (by omega) ?_)
          have := ih (i + 1) (acc ++ [l[i]]) inn (by omega) (by rw [List.length_append]; simp; omega)
          rw [List.append_assoc] at this
          exact this
      refine Ev.step (fun k => by rw [codesearchref25_Set.l0, if_pos (show (i : Int) < (l.length : Int) by omega)]) ?_
      cases inn with
      | true => exact Ev.ite_pos rfl (hno (fun h => by cases h.1))
      | false =>
        refine Ev.ite_neg (by decide) (Ev.ite_pos (by omega) ?_)
        rw [rdF_nat l i hlt]
        by_cases e : bl l[i].f0 < bl p
        · rw [(less_iff _ _).2 e, Bool.not_true]
          exact hno (fun h => h.2 e)
        · rw [Bool.eq_false_iff.2 (fun h => e ((less_iff _ _).1 h)), Bool.not_false]
          exact hins ⟨rfl, e⟩
  have := key l.length 0 [] (b == 0) (by omega) (by simp; omega)
  rw [List.nil_append, List.drop_zero] at this
  exact this
end Go.Proofs.YtpnhamfodjfacaaDoor.Q
