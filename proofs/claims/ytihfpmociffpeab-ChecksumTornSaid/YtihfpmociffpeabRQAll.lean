/- What opening one frame after the other answers. -/
import Derived.Test.YtihfpmociffpeabRx3
import Derived.Test.YtihfpmociffpeabRx4
import Derived.Test.YtihfpmociffpeabRQOpen
namespace Go.Proofs.Ytihfpmociffpeab.Q
open Go.RowKit Go.Proofs.YtihfpmociffpeabW.PrintWords Go.Proofs.YtihfpmociffpeabW.PrintLast Go.Proofs.YtihfpmociffpeabW.PrintMore Go.Proofs.Ytihfpmociffpeab.R
set_option linter.unusedVariables false
set_option linter.unusedSimpArgs false

theorem openL_next {b : List Int} {at_ m : Int} (h : (openL b at_ m).2.2 = 0) : 0 ≤ at_ ∧ ∃ nx : Nat, (openL b at_ m).2.1 = (nx : Int) ∧ at_ < (nx : Int) ∧ nx ≤ b.length := by
  unfold openL at h ⊢
  by_cases h0 : (get7 b at_).2.2 = 0
  · obtain ⟨g0, g1, p, _, g9, g2, g3, g4, g5, g6⟩ := get7_ok h0
    rw [g2] at h ⊢
    simp only [if_true] at h ⊢
    by_cases h1 : val7 p > m
    · simp only [if_pos h1] at h; cases h
    · simp only [if_neg h1] at h ⊢
      obtain ⟨n, hn⟩ := Int.eq_ofNat_of_zero_le g4
      obtain ⟨f, hf⟩ := Int.eq_ofNat_of_zero_le (show 0 ≤ at_ + (p.length : Int) by omega)
      rw [hn, hf] at h ⊢
      simp only [Int.toNat_natCast] at h ⊢
      by_cases h2 : f + n + 4 > b.length
      · rw [openB_out h2] at h; cases h
      · rw [openB_in (by omega)] at h ⊢
        split at h
        · rename_i h3
          rw [if_pos h3]
          exact ⟨g0, f + n + 4, rfl, by omega, by omega⟩
        · cases h
  · simp only [if_neg h0] at h
    exact absurd h h0
theorem openL_length (b : List Int) (a m : Int) : (openL b a m).1.length ≤ b.length := by
  unfold openL openB
  simp only []
  repeat' split
  all_goals simp <;> omega
def allR (b : List Int) (m : Int) : Nat → Int → List (List Int) × Int
  | 0, at_ => ([], at_)
  | n + 1, at_ => if (openL b at_ m).2.2 = 0 then ((openL b at_ m).1 :: (allR b m n (openL b at_ m).2.1).1, (allR b m n (openL b at_ m).2.1).2) else ([], at_)
theorem allR_length (b : List Int) (m : Int) : ∀ (n : Nat) (at_ : Int), ∀ x ∈ (allR b m n at_).1, x.length ≤ b.length := by
  intro n
  induction n with
  | zero => intro at_ x hx; simp [allR] at hx
  | succ n ih =>
    intro at_ x hx
    unfold allR at hx
    split at hx
    · rcases List.mem_cons.1 hx with rfl | hx
      · exact openL_length b at_ m
      · exact ih _ x hx
    · simp at hx
theorem All_loop (b : List Int) (m : Int) (hb : b.length ≤ 140737488) (hu : ∀ x ∈ b, 0 ≤ x ∧ x < 256) : ∀ (n : Nat) (a : Nat) (acc : List (List Int)), b.length < a + n → a ≤ b.length → acc.length ≤ a →
    Ev (fun k => checksum_All.l0 k b m acc (a : Int)) (acc ++ (allR b m n (a : Int)).1, (allR b m n (a : Int)).2) := by
  intro n
  induction n with
  | zero => intro a acc h1 h2 _; omega
  | succ n ih =>
    intro a acc h1 h2 h3
    refine Ev.step (fun k => by rw [checksum_All.l0]) (Ev.bind (Open_go b (a : Int) m (by omega) hu) ?_)
    unfold allR
    by_cases h : (openL b (a : Int) m).2.2 = 0
    · obtain ⟨_, nx, e, hlt, hle⟩ := openL_next h
      have hr := ih nx (acc ++ [(openL b (a : Int) m).1]) (by omega) hle (by rw [List.length_append, List.length_singleton]; omega)
      rw [if_pos h, e]
      refine Ev.ite_pos h (Ev.ite_pos (by omega) ?_)
      rw [List.append_assoc] at hr
      exact hr
    · rw [if_neg h, List.append_nil]
      exact Ev.ite_neg h (Ev.now _)
theorem rAll_loop (b : List Int) (m : Int) (hb : b.length ≤ 140737488) (hu : ∀ x ∈ b, 0 ≤ x ∧ x < 256) : ∀ (n : Nat) (a : Nat) (acc : List (List Int)), b.length < a + n → a ≤ b.length → acc.length ≤ a →
    Ev (fun k => codesearchref04_All.l0 k b m acc (a : Int)) (acc ++ (allR b m n (a : Int)).1, (allR b m n (a : Int)).2) := by
  intro n
  induction n with
  | zero => intro a acc h1 h2 _; omega
  | succ n ih =>
    intro a acc h1 h2 h3
    unfold allR
    by_cases ha : (a : Int) < (b.length : Int)
    · refine Ev.step (fun k => by rw [codesearchref04_All.l0, if_pos ha]) (Ev.bind (rOpen_go b (a : Int) m (by omega) hu) ?_)
      by_cases h : (openL b (a : Int) m).2.2 = 0
      · obtain ⟨_, nx, e, hlt, hle⟩ := openL_next h
        have hr := ih nx (acc ++ [(openL b (a : Int) m).1]) (by omega) hle (by rw [List.length_append, List.length_singleton]; omega)
        rw [if_pos h, e]
        refine Ev.ite_pos h (Ev.ite_pos (by omega) ?_)
        rw [List.append_assoc] at hr
        exact hr
      · rw [if_neg h, List.append_nil]
        exact Ev.ite_neg h (Ev.now _)
    · have h : ¬ (openL b (a : Int) m).2.2 = 0 := fun h => by
        obtain ⟨_, nx, e, hlt, hle⟩ := openL_next h
        omega
      rw [if_neg h, List.append_nil]
      refine Ev.step (f := fun _ => some (acc, (a : Int))) (fun k => ?_) (Ev.now _)
      rw [codesearchref04_All.l0, if_neg ha]
def allL (b : List Int) (m : Int) : List (List Int) × Int := allR b m (b.length + 1) 0
theorem All_go (b : List Int) (m : Int) (hb : b.length ≤ 140737488) (hu : ∀ x ∈ b, 0 ≤ x ∧ x < 256) : Ev (fun k => checksum_All.f k b m) (allL b m) := by
  have h := All_loop b m hb hu (b.length + 1) 0 [] (by omega) (by omega) (by simp)
  unfold checksum_All.f allL
  exact h
theorem rAll_go (b : List Int) (m : Int) (hb : b.length ≤ 140737488) (hu : ∀ x ∈ b, 0 ≤ x ∧ x < 256) : Ev (fun k => codesearchref04_All.f k b m) (allL b m) := by
  have h := rAll_loop b m hb hu (b.length + 1) 0 [] (by omega) (by omega) (by simp)
  unfold codesearchref04_All.f allL
  exact h
theorem rdL1_nat (l : List (List Int)) (i : Nat) (h : i < l.length) : rd_L1 l (i : Int) = l[i] := by
  simp [rd_L1, List.getD_eq_getElem?_getD, List.getElem?_eq_getElem h]
end Go.Proofs.Ytihfpmociffpeab.Q
