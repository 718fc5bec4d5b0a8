/- Chapter 33: Right, of the program. -/
import Derived.Test.YtmgliocboeifdaaDoorMQState33
import Derived.Test.YtmgliocboeifdaaDoorMx15
namespace Go.Proofs.YtmgliocboeifdaaDoor.Q
open Go.RowKit Go.Proofs.YtmgliocboeifdaaDoorW.PrintWords Go.Proofs.YtmgliocboeifdaaDoorW.PrintLast Go.Proofs.YtmgliocboeifdaaDoorW.PrintMore Go.Proofs.YtmgliocboeifdaaDoor.M
set_option linter.unusedVariables false
set_option linter.unusedSimpArgs false
def segE (e : SE) : Bool := decide (e.f1 = 1) || e.f1 == 3
def docE (e : SE) : Bool := decide (e.f1 = 2) || e.f1 == 4
def fieldsM (br : List ByteArray → Bool) (e : SE) : Bool :=
  if (decide (e.f1 < 1) || decide (e.f1 > 4)) = true then false
  else if ((!segE e && (e.f2 != 0)) || (!docE e && decide ((e.f3.length : Int) > 0))) = true then false
  else if ((!decide (e.f1 = 3) && decide ((e.f4.length : Int) > 0)) || (!decide (e.f1 = 4) && decide ((e.f5.length : Int) > 0))) = true then false
  else if (segE e && (decide (e.f2 < 1) || decide (e.f2 > 9999))) = true then false
  else if okV (-1) e.f3 = true then (if okV (-1) e.f4 = true then (if e.f1 = 4 then (if (e.f3.length : Int) < 2 then br e.f5 else false) else true) else false) else false
theorem fields_is (br : List ByteArray → Bool) (e : SE) (h3 : e.f3.length ≤ 1000000) (h4 : e.f4.length ≤ 1000000) (hb : e.f1 = 4 → Ev (fun k => manifest_branches.f k e.f5) (br e.f5)) : Ev (fun k => manifest_fields.f k e.f0 e.f1 e.f2 e.f3 e.f4 e.f5) (fieldsM br e) := by
  unfold fieldsM
  refine Ev.congr (f := fun k => manifest_fields.j0 k (segE e) e.f0 e.f1 e.f2 e.f3 e.f4 e.f5) (fun k => by rw [manifest_fields.f, segE]; by_cases h : e.f1 = 1 <;> simp [h]) ?_
  refine Ev.step (f := fun k => manifest_fields.j1 k (segE e) (docE e) e.f0 e.f1 e.f2 e.f3 e.f4 e.f5) (fun k => by rw [manifest_fields.j0, docE]; by_cases h : e.f1 = 2 <;> simp [h]) ?_
  refine Ev.step (f := fun k => manifest_fields.j2 k (segE e) (docE e) (decide (e.f1 < 1) || decide (e.f1 > 4)) e.f0 e.f1 e.f2 e.f3 e.f4 e.f5) (fun k => by rw [manifest_fields.j1]; by_cases h : e.f1 < 1 <;> simp [h]) ?_
  by_cases c1 : (decide (e.f1 < 1) || decide (e.f1 > 4)) = true
  · rw [if_pos c1]
    exact Ev.step (f := fun k => some false) (fun k => by rw [manifest_fields.j2, if_pos c1]) (Ev.now _)
  rw [if_neg c1]
  refine Ev.step (f := fun k => manifest_fields.j3 k (segE e) (docE e) (!segE e && (e.f2 != 0)) e.f0 e.f1 e.f2 e.f3 e.f4 e.f5) (fun k => by rw [manifest_fields.j2, if_neg c1]; cases segE e <;> simp) ?_
  refine Ev.step (f := fun k => manifest_fields.j4 k (segE e) ((!segE e && (e.f2 != 0)) || (!docE e && decide ((e.f3.length : Int) > 0))) e.f0 e.f1 e.f2 e.f3 e.f4 e.f5) (fun k => by rw [manifest_fields.j3]; cases (!segE e && (e.f2 != 0)) <;> cases docE e <;> simp) ?_
  by_cases c2 : ((!segE e && (e.f2 != 0)) || (!docE e && decide ((e.f3.length : Int) > 0))) = true
  · rw [if_pos c2]
    exact Ev.step (f := fun k => some false) (fun k => by rw [manifest_fields.j4, if_pos c2]) (Ev.now _)
  rw [if_neg c2]
  refine Ev.step (f := fun k => manifest_fields.j5 k (segE e) (!decide (e.f1 = 3) && decide ((e.f4.length : Int) > 0)) e.f0 e.f1 e.f2 e.f3 e.f4 e.f5) (fun k => by rw [manifest_fields.j4, if_neg c2]; by_cases h : e.f1 = 3 <;> simp [h]) ?_
  refine Ev.step (f := fun k => manifest_fields.j6 k (segE e) ((!decide (e.f1 = 3) && decide ((e.f4.length : Int) > 0)) || (!decide (e.f1 = 4) && decide ((e.f5.length : Int) > 0))) e.f0 e.f1 e.f2 e.f3 e.f4 e.f5) (fun k => by rw [manifest_fields.j5]; cases (!decide (e.f1 = 3) && decide ((e.f4.length : Int) > 0)) <;> by_cases h : e.f1 = 4 <;> simp [h]) ?_
  by_cases c3 : ((!decide (e.f1 = 3) && decide ((e.f4.length : Int) > 0)) || (!decide (e.f1 = 4) && decide ((e.f5.length : Int) > 0))) = true
  · rw [if_pos c3]
    exact Ev.step (f := fun k => some false) (fun k => by rw [manifest_fields.j6, if_pos c3]) (Ev.now _)
  rw [if_neg c3]
  refine Ev.step (f := fun k => manifest_fields.j7 k (segE e && (decide (e.f2 < 1) || decide (e.f2 > 9999))) e.f0 e.f1 e.f2 e.f3 e.f4 e.f5) (fun k => by rw [manifest_fields.j6, if_neg c3]; cases segE e <;> by_cases h : e.f2 < 1 <;> simp [h]) ?_
  by_cases c4 : (segE e && (decide (e.f2 < 1) || decide (e.f2 > 9999))) = true
  · rw [if_pos c4]
    exact Ev.step (f := fun k => some false) (fun k => by rw [manifest_fields.j7, if_pos c4]) (Ev.now _)
  rw [if_neg c4]
  refine Ev.step (fun k => by rw [manifest_fields.j7, if_neg c4]) (Ev.bind (Valid_is e.f3 (by omega)) ?_)
  by_cases c5 : okV (-1) e.f3 = true
  · rw [if_pos c5]
    refine Ev.ite_pos c5 (Ev.bind (Valid_is e.f4 (by omega)) ?_)
    by_cases c6 : okV (-1) e.f4 = true
    · rw [if_pos c6]
      refine Ev.ite_pos c6 ?_
      by_cases c7 : e.f1 = 4
      · rw [if_pos c7]
        refine Ev.ite_pos c7 ?_
        by_cases c8 : (e.f3.length : Int) < 2
        · rw [if_pos c8]
          exact Ev.ite_pos c8 (Ev.bind (hb c7) (Ev.now _))
        · rw [if_neg c8]
          exact Ev.ite_neg c8 (Ev.now _)
      · rw [if_neg c7]
        exact Ev.ite_neg c7 (Ev.now _)
    · rw [if_neg c6]
      exact Ev.ite_neg c6 (Ev.now _)
  · rw [if_neg c5]
    exact Ev.ite_neg c5 (Ev.now _)
theorem Contains_is (l : List Int) (n : Int) (hl : l.length ≤ 9223372036854775000) : Ev (fun k => slices_Contains_int_int.f k l n) (decide (n ∈ l)) := by
  have key : ∀ d (i : Nat), i + d = l.length → ∃ r, Ev (fun k => slices_Index_int_int.l0 k l n (l.length : Int) (i : Int)) r ∧ (decide (r ≥ 0) = decide (n ∈ l.drop i)) := by
    intro d
    induction d with
    | zero =>
      intro i hi
      rw [List.drop_of_length_le (by omega)]
      refine ⟨-1, Ev.step (f := fun _ => some (-1)) (fun k => ?_) (Ev.now _), by simp⟩
      rw [slices_Index_int_int.l0, if_neg (show ¬ (i : Int) < (l.length : Int) by omega)]
    | succ d ih =>
      intro i hi
      have hlt : i < l.length := by omega
      rw [drop_cons l i hlt]
      by_cases h : l[i] = n
      · refine ⟨(i : Int), Ev.step (f := fun _ => some (i : Int)) (fun k => ?_) (Ev.now _), ?_⟩
        · rw [slices_Index_int_int.l0, if_pos (show (i : Int) < (l.length : Int) by omega), if_pos (show (0 : Int) ≤ (i : Int) by omega), if_pos (show (i : Int) < (l.length : Int) by omega), rd_nat l i hlt]
          first | rw [if_pos h] | rw [if_pos h.symm]
        · rw [decide_eq_true (show (i : Int) ≥ 0 by omega), decide_eq_true (show n ∈ l[i] :: l.drop (i + 1) by rw [h]; exact List.mem_cons_self)]
      · obtain ⟨r, h1, h2⟩ := ih (i + 1) (by omega)
        refine ⟨r, Ev.step (fun k => ?_) h1, ?_⟩
        · rw [slices_Index_int_int.l0, if_pos (show (i : Int) < (l.length : Int) by omega), if_pos (show (0 : Int) ≤ (i : Int) by omega), if_pos (show (i : Int) < (l.length : Int) by omega), rd_nat l i hlt, w1 i (by omega)]
          first | rw [if_neg h] | rw [if_neg (fun e => h e.symm)]
        · rw [h2]
          exact decide_eq_decide.2 (by rw [List.mem_cons]; exact ⟨.inr, fun h2 => h2.resolve_left (fun e => h e.symm)⟩)
  obtain ⟨r, h1, h2⟩ := key l.length 0 (by omega)
  rw [List.drop_zero] at h2
  rw [← h2]
  exact Ev.bind h1 (Ev.now _)
/-- The error of the entry with index i, after a state. -/
def checkM (br : List ByteArray → Bool) (s : ST) (i : Nat) (e : SE) : Int :=
  if e.f0 = ((i + 1 : Nat) : Int) then (if fieldsM br e = true then (if (segE e && decide (e.f2 ≤ s.2.2)) = true then 7 else if (e.f4.all fun n => decide (n ∈ s.1)) = true then
    (if (docE e && ((e.f3.length : Int) == 0)) = true then 1 else if (decide (e.f1 = 3) && ((e.f4.length : Int) == 0)) = true then 1 else 0) else 8) else 1) else 2
theorem check_is (br : List ByteArray → Bool) (s : ST) (i : Nat) (e : SE) (hi : i ≤ 1000000) (hs : s.1.length ≤ 1000000) (h3 : e.f3.length ≤ 1000000) (h4 : e.f4.length ≤ 1000000) (hb : e.f1 = 4 → Ev (fun k => manifest_branches.f k e.f5) (br e.f5)) :
    Ev (fun k => manifest_check.f k s.1 s.2.1 s.2.2 (i : Int) e.f0 e.f1 e.f2 e.f3 e.f4 e.f5) (checkM br s i e) := by
  unfold checkM
  refine Ev.congr (fun k => by rw [manifest_check.f, w1 i (by omega)]) ?_
  by_cases c0 : e.f0 = ((i + 1 : Nat) : Int)
  · rw [if_pos c0]
    refine Ev.ite_pos c0 (Ev.bind (fields_is br e h3 h4 hb) ?_)
    by_cases c1 : fieldsM br e = true
    · rw [if_pos c1]
      refine Ev.ite_pos c1 (Ev.congr (f := fun k => manifest_check.j0 k (segE e) s.1 s.2.1 s.2.2 e.f0 e.f1 e.f2 e.f3 e.f4 e.f5) (fun k => by rw [segE]; by_cases h : e.f1 = 1 <;> simp [h]) ?_)
      refine Ev.step (f := fun k => manifest_check.j1 k (segE e && decide (e.f2 ≤ s.2.2)) s.1 s.2.1 s.2.2 e.f0 e.f1 e.f2 e.f3 e.f4 e.f5) (fun k => by rw [manifest_check.j0]; cases segE e <;> simp) ?_
      by_cases c2 : (segE e && decide (e.f2 ≤ s.2.2)) = true
      · rw [if_pos c2]
        exact Ev.step (f := fun k => some 7) (fun k => by rw [manifest_check.j1, if_pos c2]) (Ev.now _)
      rw [if_neg c2]
      refine Ev.step (fun k => by rw [manifest_check.j1, if_neg c2]) ?_
      have key : ∀ d (j : Nat), j + d = e.f4.length → Ev (fun k => manifest_check.l0 k e.f4 (e.f4.length : Int) (j : Int) s.1 s.2.1 s.2.2 e.f0 e.f1 e.f2 e.f3 e.f4 e.f5) (if ((e.f4.drop j).all fun n => decide (n ∈ s.1)) = true then (if (docE e && ((e.f3.length : Int) == 0)) = true then 1 else if (decide (e.f1 = 3) && ((e.f4.length : Int) == 0)) = true then 1 else 0) else 8) := by
        intro d
        induction d with
        | zero =>
          intro j hj
          rw [List.drop_of_length_le (by omega), List.all_nil, if_pos rfl]
          refine Ev.step (f := fun k => some (if (docE e && ((e.f3.length : Int) == 0)) = true then 1 else if (decide (e.f1 = 3) && ((e.f4.length : Int) == 0)) = true then 1 else 0)) (fun k => ?_) (Ev.now _)
          rw [manifest_check.l0, if_neg (by omega), docE]
          by_cases a2 : e.f1 = 2
          · by_cases a3 : e.f3 = [] <;> simp [a2, a3]
          · by_cases a4 : e.f1 = 4
            · by_cases a3 : e.f3 = [] <;> simp [a4, a3]
            · by_cases a5 : e.f1 = 3
              · by_cases a6 : e.f4 = [] <;> simp [a5, a6]
              · simp [a2, a4, a5]
        | succ d ih =>
          intro j hj
          have hlt : j < e.f4.length := by omega
          rw [drop_cons e.f4 j hlt, List.all_cons]
          refine Ev.step (fun k => by rw [manifest_check.l0, if_pos (show (j : Int) < (e.f4.length : Int) by omega), if_pos (show (0 : Int) ≤ (j : Int) by omega), if_pos (show (j : Int) < (e.f4.length : Int) by omega), rd_nat e.f4 j hlt, w1 j (by omega)]) (Ev.bind (Contains_is s.1 _ (by omega)) ?_)
          by_cases hm : e.f4[j] ∈ s.1
          · rw [decide_eq_true hm, Bool.true_and]
            exact Ev.ite_pos rfl (ih (j + 1) (by omega))
          · rw [decide_eq_false hm, Bool.false_and, if_neg (by decide)]
            exact Ev.ite_neg (by decide) (Ev.now _)
      have := key e.f4.length 0 (by omega)
      rw [List.drop_zero] at this
      exact this
    · rw [if_neg c1]
      exact Ev.ite_neg c1 (Ev.now _)
  · rw [if_neg c0]
    exact Ev.ite_neg c0 (Ev.now _)
/-- The first error, from index i on. -/
def rightGo (br : List ByteArray → Bool) : ST → Nat → List SE → Int
  | _, _, [] => 0
  | s, i, e :: l => if checkM br s i e = 0 then rightGo br (afterM s e) (i + 1) l else checkM br s i e
def rightM (br : List ByteArray → Bool) (l : List SE) : Int := rightGo br ([], [], 0) 0 l
theorem Right_is (br : List ByteArray → Bool) (l : List SE) (hl : l.length ≤ 1000) (hf : ∀ e ∈ l, fit 1000 e) (hb : ∀ e ∈ l, e.f1 = 4 → Ev (fun k => manifest_branches.f k e.f5) (br e.f5)) : Ev (fun k => manifest_Right.f k l) (rightM br l) := by
  have key : ∀ d (i : Nat) (s : ST), i + d = l.length → s.1.length ≤ i → s.2.1.length ≤ i * 1000 → Ev (fun k => manifest_Right.l0 k l (l.length : Int) (i : Int) s.1 s.2.1 s.2.2) (rightGo br s i (l.drop i)) := by
    intro d
    induction d with
    | zero =>
      intro i s hi _ _
      rw [List.drop_of_length_le (by omega), rightGo]
      refine Ev.step (f := fun _ => some 0) (fun k => ?_) (Ev.now _)
      rw [manifest_Right.l0, if_neg (by omega)]
    | succ d ih =>
      intro i s hi h1 h2
      have hlt : i < l.length := by omega
      have hg := hf l[i] (List.getElem_mem _)
      rw [drop_cons l i hlt, rightGo]
      refine Ev.step (fun k => by rw [manifest_Right.l0, if_pos (show (i : Int) < (l.length : Int) by omega), if_pos (show (0 : Int) ≤ (i : Int) by omega), if_pos (show (i : Int) < (l.length : Int) by omega), rdE_nat l i hlt, w1 i (by omega)]) ?_
      refine Ev.bind (check_is br s i l[i] (by omega) (by omega) (by have := hg.1; omega) (by have := hg.2; omega) (hb _ (List.getElem_mem _))) ?_
      by_cases c : checkM br s i l[i] = 0
      · rw [if_pos c]
        have hlen := after_len s l[i]
        refine Ev.ite_pos c (Ev.bind (after_is s l[i] (by omega) (by omega) ⟨by have := hg.1; omega, by have := hg.2; omega⟩) ?_)
        exact ih (i + 1) (afterM s l[i]) (by omega) (by omega) (by have := hg.1; omega)
      · rw [if_neg c]
        exact Ev.ite_neg c (Ev.now _)
  have := key l.length 0 ([], [], 0) (by omega) (by simp) (by simp)
  rw [List.drop_zero] at this
  exact this
end Go.Proofs.YtmgliocboeifdaaDoor.Q
