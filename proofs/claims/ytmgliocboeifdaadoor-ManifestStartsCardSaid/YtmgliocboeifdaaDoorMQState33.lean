/- Chapter 33: the state after entries, of the program. -/
import Derived.Test.YtmgliocboeifdaaDoorMQSets05
import Derived.Test.YtmgliocboeifdaaDoorMx3
namespace Go.Proofs.YtmgliocboeifdaaDoor.Q
open Go.RowKit Go.Proofs.YtmgliocboeifdaaDoorW.PrintWords Go.Proofs.YtmgliocboeifdaaDoorW.PrintLast Go.Proofs.YtmgliocboeifdaaDoorW.PrintMore Go.Proofs.YtmgliocboeifdaaDoor.M
set_option linter.unusedVariables false
set_option linter.unusedSimpArgs false
abbrev SE := S37
abbrev ST := List Int × List Int × Int
theorem rdE_nat (l : List SE) (i : Nat) (h : i < l.length) : rd_T37 l (i : Int) = l[i] := by
  simp [rd_T37, List.getD_eq_getElem?_getD, List.getElem?_eq_getElem h]
theorem w1 (i : Nat) (h : i ≤ 9223372036854775000) : wrap64 ((i : Int) + 1) = ((i + 1 : Nat) : Int) := by rw [w64 (by omega) (by omega)]; omega
theorem uniq_id {l : List Int} (h : l.Pairwise (· < ·)) : uniq l = l := srt_ext (uniq_srt l) h (fun x => mem_uniq l x)
/-- The state after an entry. -/
def afterM (s : ST) (e : SE) : ST :=
  if e.f1 = 1 then (orS s.1 [e.f2], s.2.1, mx s.2.2 e.f2) else if e.f1 = 2 then (s.1, orS s.2.1 e.f3, mx s.2.2 e.f2) else if e.f1 = 3 then (orS (minusS s.1 e.f4) [e.f2], [], mx s.2.2 e.f2) else (s.1, s.2.1, mx s.2.2 e.f2)
def runM (l : List SE) : ST := l.foldl afterM ([], [], 0)
/-- At most n elements in each list of an entry. -/
def fit (n : Nat) (e : SE) : Prop := e.f3.length ≤ n ∧ e.f4.length ≤ n
theorem after_is (s : ST) (e : SE) (h1 : s.1.length ≤ 10000000) (h2 : s.2.1.length ≤ 10000000) (he : fit 1000000 e) : Ev (fun k => manifest_state_after.f k s.1 s.2.1 s.2.2 e.f0 e.f1 e.f2 e.f3 e.f4 e.f5) (afterM s e) := by
  unfold afterM
  refine Ev.congr (fun k => by rw [manifest_state_after.f]) ?_
  by_cases c1 : e.f1 = 1
  · rw [if_pos c1]
    exact Ev.ite_pos c1 (Ev.bind (Or_is _ _ (by omega) (by simp)) (Ev.now _))
  rw [if_neg c1]
  refine Ev.ite_neg c1 ?_
  by_cases c2 : e.f1 = 2
  · rw [if_pos c2]
    exact Ev.ite_pos c2 (Ev.bind (Or_is _ _ (by omega) (by have := he.1; omega)) (Ev.now _))
  rw [if_neg c2]
  refine Ev.ite_neg c2 ?_
  by_cases c3 : e.f1 = 3
  · rw [if_pos c3]
    refine Ev.ite_pos c3 (Ev.bind_eq (Minus_is _ _ (by omega) (by have := he.2; omega)) (Ev.bind (Or_is _ _ (by have := minusS_len s.1 e.f4; omega) (by simp)) (Ev.now _)))
  rw [if_neg c3]
  exact Ev.ite_neg c3 (Ev.now _)
theorem after_len (s : ST) (e : SE) : (afterM s e).1.length ≤ s.1.length + 1 ∧ (afterM s e).2.1.length ≤ s.2.1.length + e.f3.length := by
  unfold afterM
  have h1 := orS_len s.1 [e.f2]
  have h2 := orS_len s.2.1 e.f3
  have h3 := orS_len (minusS s.1 e.f4) [e.f2]
  have h4 := minusS_len s.1 e.f4
  simp only [List.length_singleton] at h1 h3
  split
  · exact ⟨h1, Nat.le_add_right _ _⟩
  · split
    · exact ⟨Nat.le_succ _, h2⟩
    · split
      · refine ⟨Nat.le_trans h3 (by omega), by simp⟩
      · exact ⟨Nat.le_succ _, Nat.le_add_right _ _⟩
theorem after_srt {s : ST} (h : s.1.Pairwise (· < ·) ∧ s.2.1.Pairwise (· < ·)) (e : SE) : (afterM s e).1.Pairwise (· < ·) ∧ (afterM s e).2.1.Pairwise (· < ·) := by
  unfold afterM
  split
  · exact ⟨orS_srt _ _, h.2⟩
  · split
    · exact ⟨h.1, orS_srt _ _⟩
    · split
      · exact ⟨orS_srt _ _, List.Pairwise.nil⟩
      · exact h
theorem runM_snoc (l : List SE) (i : Nat) (h : i < l.length) : runM (l.take (i + 1)) = afterM (runM (l.take i)) l[i] := by
  rw [← take_snoc l i h, runM, List.foldl_append]; rfl
theorem runM_srt (l : List SE) : (runM l).1.Pairwise (· < ·) ∧ (runM l).2.1.Pairwise (· < ·) := by
  have : ∀ (l : List SE) (s : ST), s.1.Pairwise (· < ·) ∧ s.2.1.Pairwise (· < ·) → (l.foldl afterM s).1.Pairwise (· < ·) ∧ (l.foldl afterM s).2.1.Pairwise (· < ·) := by
    intro l
    induction l with
    | nil => exact fun s h => h
    | cons e l ih => exact fun s h => ih _ (after_srt h e)
  exact this l _ ⟨List.Pairwise.nil, List.Pairwise.nil⟩
theorem runM_len (l : List SE) (n : Nat) (hf : ∀ e ∈ l, fit n e) : (runM l).1.length ≤ l.length ∧ (runM l).2.1.length ≤ l.length * n := by
  have : ∀ (l : List SE) (s : ST), (∀ e ∈ l, fit n e) → (l.foldl afterM s).1.length ≤ s.1.length + l.length ∧ (l.foldl afterM s).2.1.length ≤ s.2.1.length + l.length * n := by
    intro l
    induction l with
    | nil => exact fun s _ => by simp
    | cons e l ih =>
      intro s h
      have h1 := ih (afterM s e) (fun x hx => h x (List.mem_cons_of_mem _ hx))
      have h2 := after_len s e
      have h3 := (h e List.mem_cons_self).1
      have h4 : (e :: l).length * n = l.length * n + n := by rw [List.length_cons, Nat.succ_mul]
      rw [h4]
      refine ⟨Nat.le_trans h1.1 (by rw [List.length_cons]; omega), Nat.le_trans h1.2 (by omega)⟩
  have := this l ([], [], 0) hf
  simp only [List.length_nil, Nat.zero_add] at this
  exact this
theorem run_is (l : List SE) (hl : l.length ≤ 1000) (hf : ∀ e ∈ l, fit 1000 e) : Ev (fun k => manifest_run.f k l) (runM l) := by
  have key : ∀ d (i : Nat), i + d = l.length → Ev (fun k => manifest_run.l0 k l (l.length : Int) (i : Int) (runM (l.take i)).1 (runM (l.take i)).2.1 (runM (l.take i)).2.2) (runM l) := by
    intro d
    induction d with
    | zero =>
      intro i hi
      rw [List.take_of_length_le (by omega)]
      refine Ev.step (f := fun _ => some (runM l)) (fun k => ?_) (Ev.now _)
      rw [manifest_run.l0, if_neg (by omega)]
    | succ d ih =>
      intro i hi
      have hlt : i < l.length := by omega
      have hb := runM_len (l.take i) 1000 (fun e he => hf e (List.mem_of_mem_take he))
      rw [List.length_take] at hb
      have hn : Nat.min i l.length ≤ 1000 := Nat.le_trans (Nat.min_le_right _ _) hl
      have hm : Nat.min i l.length * 1000 ≤ 1000000 := by have := Nat.mul_le_mul_right 1000 hn; omega
      have hg := hf l[i] (List.getElem_mem _)
      refine Ev.step (fun k => by rw [manifest_run.l0, if_pos (show (i : Int) < (l.length : Int) by omega), if_pos (show (0 : Int) ≤ (i : Int) by omega), if_pos (show (i : Int) < (l.length : Int) by omega), rdE_nat l i hlt, w1 i (by omega)]) ?_
      refine Ev.bind (after_is (runM (l.take i)) l[i] (Nat.le_trans hb.1 (Nat.le_trans hn (by omega))) (Nat.le_trans hb.2 (Nat.le_trans hm (by omega))) ⟨by have := hg.1; omega, by have := hg.2; omega⟩) ?_
      have := ih (i + 1) (by omega)
      rw [runM_snoc l i hlt] at this
      exact this
  exact key l.length 0 (by omega)
theorem Live_is (l : List SE) (hl : l.length ≤ 1000) (hf : ∀ e ∈ l, fit 1000 e) : Ev (fun k => manifest_Live.f k l) (runM l).1 := Ev.bind (run_is l hl hf) (Ev.now _)
theorem Dead_is (l : List SE) (hl : l.length ≤ 1000) (hf : ∀ e ∈ l, fit 1000 e) : Ev (fun k => manifest_Dead.f k l) (runM l).2.1 := Ev.bind (run_is l hl hf) (Ev.now _)
end Go.Proofs.YtmgliocboeifdaaDoor.Q
