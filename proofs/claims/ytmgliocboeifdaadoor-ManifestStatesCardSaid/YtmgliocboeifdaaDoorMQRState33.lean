/- Chapter 33: what is live and dead after entries, of the document. -/
import Derived.Test.YtmgliocboeifdaaDoorMQState33
import Derived.Test.YtmgliocboeifdaaDoorMx17
import Derived.Test.YtmgliocboeifdaaDoorMx18
import Derived.Test.YtmgliocboeifdaaDoorMx2
namespace Go.Proofs.YtmgliocboeifdaaDoor.Q
open Go.RowKit Go.Proofs.YtmgliocboeifdaaDoorW.PrintWords Go.Proofs.YtmgliocboeifdaaDoorW.PrintLast Go.Proofs.YtmgliocboeifdaaDoorW.PrintMore Go.Proofs.YtmgliocboeifdaaDoor.M
set_option linter.unusedVariables false
set_option linter.unusedSimpArgs false
theorem has_is (l : List Int) (n : Int) (hl : l.length ≤ 9223372036854775000) : Ev (fun k => codesearchref33_has.f k l n) (decide (n ∈ l)) := by
  have key : ∀ d (i : Nat), i + d = l.length → Ev (fun k => codesearchref33_has.l0 k l n (i : Int)) (decide (n ∈ l.drop i)) := by
    intro d
    induction d with
    | zero =>
      intro i hi
      rw [List.drop_of_length_le (by omega)]
      refine Ev.step (f := fun _ => some false) (fun k => ?_) (Ev.now _)
      rw [codesearchref33_has.l0, if_neg (show ¬ (i : Int) < (l.length : Int) by omega)]
    | succ d ih =>
      intro i hi
      have hlt : i < l.length := by omega
      rw [drop_cons l i hlt]
      by_cases h : l[i] = n
      · refine Ev.step (f := fun _ => some (decide (n ∈ l[i] :: l.drop (i + 1)))) (fun k => ?_) (Ev.now _)
        rw [codesearchref33_has.l0, if_pos (show (i : Int) < (l.length : Int) by omega), if_pos (show (0 : Int) ≤ (i : Int) by omega), rd_nat l i hlt, if_pos h]
        simp [h]
      · rw [show decide (n ∈ l[i] :: l.drop (i + 1)) = decide (n ∈ l.drop (i + 1)) from decide_eq_decide.2 (by rw [List.mem_cons]; exact ⟨fun h2 => h2.resolve_left (fun e => h e.symm), .inr⟩)]
        refine Ev.step (fun k => ?_) (ih (i + 1) (by omega))
        rw [codesearchref33_has.l0, if_pos (show (i : Int) < (l.length : Int) by omega), if_pos (show (0 : Int) ≤ (i : Int) by omega), rd_nat l i hlt, if_neg h, w1 i (by omega)]
  exact key l.length 0 (by omega)
theorem SameInts_self (l : List Int) (hl : l.length ≤ 9223372036854775000) : Ev (fun k => codesearchref33_SameInts.f k l l) true := by
  have key : ∀ d (i : Nat), i + d = l.length → Ev (fun k => codesearchref33_SameInts.l0 k l l (i : Int)) true := by
    intro d
    induction d with
    | zero =>
      intro i hi
      refine Ev.step (f := fun _ => some true) (fun k => ?_) (Ev.now _)
      rw [codesearchref33_SameInts.l0, if_neg (show ¬ (i : Int) < (l.length : Int) by omega)]
    | succ d ih =>
      intro i hi
      refine Ev.step (fun k => ?_) (ih (i + 1) (by omega))
      rw [codesearchref33_SameInts.l0, if_pos (show (i : Int) < (l.length : Int) by omega), if_pos (show (0 : Int) ≤ (i : Int) by omega), if_pos (show (i : Int) < (l.length : Int) by omega), if_pos rfl, w1 i (by omega)]
  exact Ev.ite_pos rfl (key l.length 0 (by omega))
/-- n laid into an increasing list that has it not. -/
def insM (n : Int) : List Int → List Int
  | [] => [n]
  | x :: l => if n < x then n :: x :: l else x :: insM n l
theorem mem_insM (n : Int) : ∀ (l : List Int) (x : Int), x ∈ insM n l ↔ x = n ∨ x ∈ l
  | [], x => by simp [insM]
  | y :: l, x => by
    rw [insM]
    split
    · rw [List.mem_cons]
    · rw [List.mem_cons, mem_insM n l, List.mem_cons]
      constructor
      · rintro (h | h | h)
        · exact .inr (.inl h)
        · exact .inl h
        · exact .inr (.inr h)
      · rintro (h | h | h)
        · exact .inr (.inl h)
        · exact .inl h
        · exact .inr (.inr h)
theorem insM_srt (n : Int) : ∀ {l : List Int}, l.Pairwise (· < ·) → n ∉ l → (insM n l).Pairwise (· < ·)
  | [], _, _ => by simp [insM]
  | y :: l, h, hn => by
    have h1 := List.pairwise_cons.1 h
    rw [insM]
    split
    · rename_i hlt
      refine List.pairwise_cons.2 ⟨fun x hx => ?_, h⟩
      rcases List.mem_cons.1 hx with rfl | hx
      · exact hlt
      · have := h1.1 x hx; omega
    · rename_i hlt
      refine List.pairwise_cons.2 ⟨fun x hx => ?_, insM_srt n h1.2 (fun e => hn (List.mem_cons_of_mem _ e))⟩
      rcases (mem_insM n l x).1 hx with rfl | hx
      · have : x ≠ y := fun e => hn (by rw [e]; exact List.mem_cons_self)
        omega
      · exact h1.1 x hx
theorem with_is {l : List Int} (n : Int) (hs : l.Pairwise (· < ·)) (hl : l.length ≤ 10000000) : Ev (fun k => codesearchref33_with.f k l n) (orS l [n]) := by
  refine Ev.bind (has_is l n (by omega)) ?_
  by_cases h : n ∈ l
  · rw [decide_eq_true h]
    rw [show orS l [n] = l from srt_ext (orS_srt _ _) hs (fun x => by rw [mem_orS, List.mem_singleton]; exact ⟨fun h2 => h2.elim id (fun e => by rw [e]; exact h), .inl⟩)]
    exact Ev.ite_pos rfl (Ev.now _)
  · rw [decide_eq_false h]
    rw [show orS l [n] = insM n l from srt_ext (orS_srt _ _) (insM_srt n hs h) (fun x => by rw [mem_orS, mem_insM, List.mem_singleton]; exact ⟨Or.symm, Or.symm⟩)]
    refine Ev.ite_neg (by decide) ?_
    have key1 : ∀ d (i : Nat) (acc : List Int), i + d = l.length → acc.length ≤ i + 1 → Ev (fun k => codesearchref33_with.l0 k l n acc true (i : Int)) (acc ++ l.drop i) := by
      intro d
      induction d with
      | zero =>
        intro i acc hi ha
        rw [List.drop_of_length_le (by omega), List.append_nil]
        refine Ev.step (f := fun _ => some acc) (fun k => ?_) (Ev.now _)
        rw [codesearchref33_with.l0, if_neg (by omega), if_pos rfl]
      | succ d ih =>
        intro i acc hi ha
        have hlt : i < l.length := by omega
        have := ih (i + 1) (acc ++ [l[i]]) (by omega) (by rw [List.length_append, List.length_singleton]; omega)
        rw [List.append_assoc, List.singleton_append, ← drop_cons l i hlt] at this
        refine Ev.step (fun k => ?_) this
        rw [codesearchref33_with.l0, if_pos (show (i : Int) < (l.length : Int) by omega), if_pos rfl, if_pos (by omega), if_pos (by omega), rd_nat l i hlt, w1 i (by omega)]
    have key0 : ∀ d (i : Nat) (acc : List Int), i + d = l.length → acc.length ≤ i → Ev (fun k => codesearchref33_with.l0 k l n acc false (i : Int)) (acc ++ insM n (l.drop i)) := by
      intro d
      induction d with
      | zero =>
        intro i acc hi ha
        rw [List.drop_of_length_le (by omega), insM]
        refine Ev.step (f := fun _ => some (acc ++ [n])) (fun k => ?_) (Ev.now _)
        rw [codesearchref33_with.l0, if_neg (by omega), if_neg (by decide), if_pos (by omega)]
      | succ d ih =>
        intro i acc hi ha
        have hlt : i < l.length := by omega
        rw [drop_cons l i hlt, insM]
        by_cases hn : n < l[i]
        · rw [if_pos hn]
          have := key1 d (i + 1) (acc ++ [n] ++ [l[i]]) (by omega) (by simp; omega)
          simp only [List.append_assoc, List.singleton_append, List.cons_append, List.nil_append] at this
          refine Ev.step (fun k => ?_) this
          rw [codesearchref33_with.l0, if_pos (show (i : Int) < (l.length : Int) by omega), if_neg (by decide), if_pos (by omega), rd_nat l i hlt, if_pos hn, if_pos (by omega), Option.bind_some, if_pos (by simp; omega), w1 i (by omega)]
          simp only [List.append_assoc, List.singleton_append, List.cons_append, List.nil_append]
        · rw [if_neg hn]
          have := ih (i + 1) (acc ++ [l[i]]) (by omega) (by rw [List.length_append, List.length_singleton]; omega)
          rw [List.append_assoc, List.singleton_append] at this
          refine Ev.step (fun k => ?_) this
          rw [codesearchref33_with.l0, if_pos (show (i : Int) < (l.length : Int) by omega), if_neg (by decide), if_pos (by omega), rd_nat l i hlt, if_neg hn, if_pos (by omega), w1 i (by omega)]
    have := key0 l.length 0 [] (by omega) (by simp)
    rw [List.drop_zero, List.nil_append] at this
    exact this
theorem rLive_is (l : List SE) (hl : l.length ≤ 1000) (hf : ∀ e ∈ l, fit 1000 e) : Ev (fun k => codesearchref33_Live.f k l) (runM l).1 := by
  have key : ∀ d (i : Nat), i + d = l.length → Ev (fun k => codesearchref33_Live.l0 k l (runM (l.take i)).1 (i : Int)) (runM l).1 := by
    intro d
    induction d with
    | zero =>
      intro i hi
      rw [List.take_of_length_le (by omega)]
      refine Ev.step (f := fun _ => some (runM l).1) (fun k => ?_) (Ev.now _)
      rw [codesearchref33_Live.l0, if_neg (by omega)]
    | succ d ih =>
      intro i hi
      have hlt : i < l.length := by omega
      have hb := (runM_len (l.take i) 1000 (fun e he => hf e (List.mem_of_mem_take he))).1
      rw [List.length_take] at hb
      have hn : Nat.min i l.length ≤ 1000 := Nat.le_trans (Nat.min_le_right _ _) hl
      have hs := (runM_srt (l.take i)).1
      have hg := hf l[i] (List.getElem_mem _)
      have next := ih (i + 1) (by omega)
      rw [runM_snoc l i hlt] at next
      generalize runM (l.take i) = s at hb hs next
      have hb2 : s.1.length ≤ 1000 := Nat.le_trans hb hn
      refine Ev.step (fun k => by rw [codesearchref33_Live.l0, if_pos (show (i : Int) < (l.length : Int) by omega), if_pos (show (0 : Int) ≤ (i : Int) by omega), rdE_nat l i hlt]) ?_
      by_cases c3 : l[i].f1 = 3
      · refine Ev.ite_pos c3 ?_
        have hloop : ∀ d (j : Nat) (acc : List Int), j + d = s.1.length → acc.length ≤ j → Ev (fun k => codesearchref33_Live.l1 k l s.1 (i : Int) acc (j : Int)) (runM l).1 ∨ acc ++ (s.1.drop j).filter (fun x => !decide (x ∈ l[i].f4)) ≠ minusS s.1 l[i].f4 := by
          intro d
          induction d with
          | zero =>
            intro j acc hj ha
            by_cases he : acc ++ (s.1.drop j).filter (fun x => !decide (x ∈ l[i].f4)) = minusS s.1 l[i].f4
            · refine .inl ?_
              rw [List.drop_of_length_le (by omega), List.filter_nil, List.append_nil] at he
              subst he
              refine Ev.step (fun k => by rw [codesearchref33_Live.l1, if_neg (by omega), if_pos (show (0 : Int) ≤ (i : Int) by omega), if_pos (show (i : Int) < (l.length : Int) by omega), rdE_nat l i hlt, if_neg (by omega), if_pos c3, w1 i (by omega)]) ?_
              refine Ev.bind (with_is l[i].f2 (minusS_srt _ _) (by omega)) ?_
              rw [show orS (minusS s.1 l[i].f4) [l[i].f2] = (afterM s l[i]).1 by rw [afterM, if_neg (by omega), if_neg (by omega), if_pos c3]]
              exact next
            · exact .inr he
          | succ d ih2 =>
            intro j acc hj ha
            have hlt2 : j < s.1.length := by omega
            rw [drop_cons s.1 j hlt2]
            have st : ∀ (acc2 : List Int) (r : List Int), Ev (fun k => codesearchref33_Live.l1 k l s.1 (i : Int) acc2 ((j + 1 : Nat) : Int)) r → (∀ k, (if (decide (s.1[j] ∈ l[i].f4)) = true then (codesearchref33_Live.l1 k l s.1 (i : Int) acc ((j + 1 : Nat) : Int)) else (if acc.length < 17592186044416 then (codesearchref33_Live.l1 k l s.1 (i : Int) (acc ++ [s.1[j]]) ((j + 1 : Nat) : Int)) else none)) = codesearchref33_Live.l1 k l s.1 (i : Int) acc2 ((j + 1 : Nat) : Int)) → Ev (fun k => codesearchref33_Live.l1 k l s.1 (i : Int) acc (j : Int)) r := by
              intro acc2 r h1 h2
              refine Ev.step (fun k => by rw [codesearchref33_Live.l1, if_pos (show (j : Int) < (s.1.length : Int) by omega), if_pos (show (0 : Int) ≤ (i : Int) by omega), if_pos (show (i : Int) < (l.length : Int) by omega), if_pos (show (0 : Int) ≤ (j : Int) by omega), rdE_nat l i hlt, rd_nat s.1 j hlt2, w1 j (by omega)]) ?_
              refine Ev.bind (has_is l[i].f4 s.1[j] (by have := hg.2; omega)) ?_
              exact Ev.congr h2 h1
            by_cases hm : s.1[j] ∈ l[i].f4
            · rw [List.filter_cons_of_neg (by simp [hm])]
              refine (ih2 (j + 1) acc (by omega) (by omega)).imp (fun h => st acc _ h (fun k => by rw [decide_eq_true hm, if_pos rfl])) id
            · rw [List.filter_cons_of_pos (by simp [hm])]
              have := ih2 (j + 1) (acc ++ [s.1[j]]) (by omega) (by rw [List.length_append, List.length_singleton]; omega)
              rw [List.append_assoc, List.singleton_append] at this
              refine this.imp (fun h => st (acc ++ [s.1[j]]) _ h (fun k => by rw [decide_eq_false hm, if_neg (by decide), if_pos (by omega)])) id
        refine (hloop s.1.length 0 [] (by omega) (by simp)).resolve_right (fun e => e ?_)
        rw [List.drop_zero, List.nil_append]
        refine srt_ext (hs.filter _) (minusS_srt _ _) (fun x => ?_)
        rw [List.mem_filter, mem_minusS]
        simp
      · refine Ev.ite_neg c3 ?_
        by_cases c1 : l[i].f1 = 1
        · refine Ev.ite_pos c1 (Ev.congr (fun k => by rw [w1 i (by omega)]) (Ev.bind (with_is l[i].f2 hs (by omega)) ?_))
          rw [show orS s.1 [l[i].f2] = (afterM s l[i]).1 by rw [afterM, if_pos c1]]
          exact next
        · refine Ev.ite_neg c1 (Ev.congr (fun k => by rw [w1 i (by omega)]) ?_)
          rw [show (afterM s l[i]).1 = s.1 by rw [afterM, if_neg c1]; split <;> first | rfl | (split <;> first | rfl | (exfalso; omega))] at next
          exact next
  exact key l.length 0 (by omega)
theorem rDead_is (l : List SE) (hl : l.length ≤ 1000) (hf : ∀ e ∈ l, fit 1000 e) : Ev (fun k => codesearchref33_Dead.f k l) (runM l).2.1 := by
  have key : ∀ d (i : Nat), i + d = l.length → Ev (fun k => codesearchref33_Dead.l0 k l (runM (l.take i)).2.1 (i : Int)) (runM l).2.1 := by
    intro d
    induction d with
    | zero =>
      intro i hi
      rw [List.take_of_length_le (by omega)]
      refine Ev.step (f := fun _ => some (runM l).2.1) (fun k => ?_) (Ev.now _)
      rw [codesearchref33_Dead.l0, if_neg (by omega)]
    | succ d ih =>
      intro i hi
      have hlt : i < l.length := by omega
      have hb := (runM_len (l.take i) 1000 (fun e he => hf e (List.mem_of_mem_take he))).2
      rw [List.length_take] at hb
      have hn : Nat.min i l.length ≤ 1000 := Nat.le_trans (Nat.min_le_right _ _) hl
      have hm : Nat.min i l.length * 1000 ≤ 1000000 := by have := Nat.mul_le_mul_right 1000 hn; omega
      have hs := (runM_srt (l.take i)).2
      have hg := hf l[i] (List.getElem_mem _)
      have next := ih (i + 1) (by omega)
      rw [runM_snoc l i hlt] at next
      generalize runM (l.take i) = s at hb hs next
      have hb2 : s.2.1.length ≤ 1000000 := Nat.le_trans hb hm
      refine Ev.step (fun k => by rw [codesearchref33_Dead.l0, if_pos (show (i : Int) < (l.length : Int) by omega), if_pos (show (0 : Int) ≤ (i : Int) by omega), rdE_nat l i hlt]) ?_
      have stop : ∀ (r : List Int), l[i].f1 ≠ 2 → r = (afterM s l[i]).2.1 → Ev (fun k => codesearchref33_Dead.j1 k l r (i : Int)) (runM l).2.1 := by
        rintro r c2 rfl
        refine Ev.step (fun k => by rw [codesearchref33_Dead.j1]) (Ev.step (fun k => by rw [codesearchref33_Dead.l1, if_pos (show (0 : Int) ≤ (i : Int) by omega), if_pos (show (i : Int) < (l.length : Int) by omega), rdE_nat l i hlt, if_neg c2, w1 i (by omega)]) next)
      by_cases c3 : l[i].f1 = 3
      · refine Ev.ite_pos c3 (stop [] (by omega) (by rw [afterM, if_neg (by omega), if_neg (by omega), if_pos c3]))
      · refine Ev.ite_neg c3 ?_
        by_cases c2 : l[i].f1 = 2
        · refine Ev.step (fun k => by rw [codesearchref33_Dead.j1]) ?_
          have hloop : ∀ d (j : Nat), j + d = l[i].f3.length → Ev (fun k => codesearchref33_Dead.l1 k l (orS s.2.1 (l[i].f3.take j)) (i : Int) (j : Int)) (runM l).2.1 := by
            intro d
            induction d with
            | zero =>
              intro j hj
              rw [List.take_of_length_le (by omega)]
              refine Ev.step (fun k => by rw [codesearchref33_Dead.l1, if_pos (show (0 : Int) ≤ (i : Int) by omega), if_pos (show (i : Int) < (l.length : Int) by omega), rdE_nat l i hlt, if_pos c2, if_neg (by omega), w1 i (by omega)]) ?_
              rw [show orS s.2.1 l[i].f3 = (afterM s l[i]).2.1 by rw [afterM, if_neg (by omega), if_pos c2]]
              exact next
            | succ d ih2 =>
              intro j hj
              have hlt2 : j < l[i].f3.length := by omega
              have hlen := orS_len s.2.1 (l[i].f3.take j)
              rw [List.length_take] at hlen
              have := hg.1
              refine Ev.step (fun k => by rw [codesearchref33_Dead.l1, if_pos (show (0 : Int) ≤ (i : Int) by omega), if_pos (show (i : Int) < (l.length : Int) by omega), rdE_nat l i hlt, if_pos c2, if_pos (show (j : Int) < (l[i].f3.length : Int) by omega), if_pos (show (0 : Int) ≤ (j : Int) by omega), rd_nat _ j hlt2, w1 j (by omega)]) ?_
              refine Ev.bind (with_is _ (orS_srt _ _) (by omega)) ?_
              rw [show orS (orS s.2.1 (l[i].f3.take j)) [l[i].f3[j]] = orS s.2.1 (l[i].f3.take (j + 1)) from srt_ext (orS_srt _ _) (orS_srt _ _) (fun x => by rw [mem_orS, mem_orS, mem_orS, ← take_snoc _ j hlt2, List.mem_append, or_assoc])]
              exact ih2 (j + 1) (by omega)
          have := hloop l[i].f3.length 0 (by omega)
          rw [List.take_zero, show orS s.2.1 [] = s.2.1 from srt_ext (orS_srt _ _) hs (fun x => by rw [mem_orS]; simp)] at this
          exact this
        · exact stop s.2.1 c2 (by rw [afterM]; split <;> first | rfl | (split <;> first | rfl | (exfalso; omega) | (split <;> first | rfl | (exfalso; omega))))
  exact key l.length 0 (by omega)
end Go.Proofs.YtmgliocboeifdaaDoor.Q
