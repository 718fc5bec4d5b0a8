/- ManifestFrames, over lists alone. -/
import Derived.Test.YtmgliocboeifdaaGreatDoorStManifestFrames
import Derived.Test.YtmgliocboeifdaaGreatDoorFQ33F
namespace Go.Proofs.YtmgliocboeifdaaGreatDoor.Pure
open Go.RowKit Go.Proofs.YtmgliocboeifdaaGreatDoorW.PrintWords Go.Proofs.YtmgliocboeifdaaGreatDoorW.PrintLast Go.Proofs.YtmgliocboeifdaaGreatDoorW.PrintMore Go.Proofs.YtmgliocboeifdaaGreatDoor.F Go.Proofs.YtmgliocboeifdaaGreatDoor.Q
set_option linter.unusedVariables false
set_option linter.unusedSimpArgs false
theorem frames_bound (M : Nat) (l : List SE) (h : ∀ e ∈ l, (encM e).length ≤ M) : (frames l).length ≤ l.length * (M + 14) := by
  induction l with
  | nil => simp [frames]
  | cons e l ih =>
    have := ih (fun x hx => h x (List.mem_cons_of_mem _ hx))
    have hs := h e List.mem_cons_self
    have he := enc7_length 10 ((encM e).length : Int)
    rw [frames_cons, List.length_append, sealL_len, List.length_cons, Nat.succ_mul]
    omega
def shortE (n : Nat) (e : SE) : Prop := e.f3.length ≤ n ∧ e.f4.length ≤ n ∧ e.f5.length ≤ n + 2
theorem recR_short (b : List Int) (hu : ∀ x ∈ b, 0 ≤ x ∧ x < 256) : ∀ (m : Nat) (acc : List SE) (a : Int), (∀ e ∈ acc, shortE b.length e) → (∀ e ∈ (recR b m acc a).1, shortE b.length e) ∧ (recR b m acc a).1.length ≤ acc.length + m
  | 0, acc, a, h => by rw [recR]; exact ⟨h, Nat.le_refl _⟩
  | m + 1, acc, a, h => by
    rw [recR]
    by_cases c : (openL b a big).2.2 = 0
    · rw [if_pos c]
      cases hd : decO (openL b a big).1 with
      | none => exact ⟨h, by dsimp only; omega⟩
      | some e =>
        dsimp only
        by_cases c2 : e.f0 = ((acc.length + 1 : Nat) : Int)
        · rw [if_pos c2]
          have hl := decO_len hd
          have hd := (openL_data b a big hu).1
          have := recR_short b hu m (acc ++ [e]) (openL b a big).2.1 (fun x hx => (List.mem_append.1 hx).elim (h x) (fun hx => by
            obtain rfl := List.mem_singleton.1 hx
            exact ⟨by omega, by omega, by omega⟩))
          refine ⟨this.1, ?_⟩
          have := this.2
          rw [List.length_append, List.length_singleton] at this
          omega
        · rw [if_neg c2]
          exact ⟨h, by dsimp only; omega⟩
    · rw [if_neg c]
      exact ⟨h, by dsimp only; omega⟩
theorem ManifestFrames : StManifestFrames.Pure := by
  intro U l b hU hl hb
  have hbu : ∀ x ∈ b, 0 ≤ x ∧ x < 256 := fun x hx => wf_u8.1 (hb.2.2.2 x hx)
  have hbl : b.length ≤ 1048576 := by have := hb.2.2.1; omega
  refine Ev.rounds (Ev.congr (fun k => rfl) (Ev.bind alive33 (Ev.ite_pos rfl (Ev.bind (small_is l) ?_))))
  by_cases hs : smallM l = true
  · rw [hs]
    obtain ⟨h3, h4⟩ := small_all hs
    have hsz : ∀ e ∈ l, (strsB e.f5).length ≤ 40 * (1048576 + 10) := fun e he => by
      have hg := hl.2.2.2 e he
      have := strsB_bound 1048576 e.f5 (fun s hs => by have := (hg.2.2.2.2.2.2.2.2 s hs).2; omega)
      have h5 := (h4 e he).2.2
      exact Nat.le_trans this (Nat.mul_le_mul_right _ h5)
    have hok : ∀ e ∈ l, okE e := fun e he => by
      have hg := hl.2.2.2 e he
      have := hsz e he
      have := h4 e he
      exact ⟨fun x hx => wf_i64.1 (hg.2.2.2.1.2.2.2 x hx), fun x hx => wf_i64.1 (hg.2.2.2.2.1.2.2.2 x hx), (wf_i64.1 hg.1).2, (wf_i64.1 hg.2.1).2, (wf_i64.1 hg.2.2.1).2, by omega, by omega⟩
    have hfb := frames_bound (40 * (1048576 + 10) + 1000) l (fun e he => by
      have := encM_len e
      have := hsz e he
      have := h4 e he
      omega)
    have hfb2 : l.length * (40 * (1048576 + 10) + 1000 + 14) ≤ 40 * (40 * (1048576 + 10) + 1000 + 14) := Nat.mul_le_mul_right _ h3
    obtain ⟨s1, s2⟩ := recR_short b hbu (b.length + 1) [] 0 (fun e he => absurd he (by simp))
    refine Ev.ite_pos rfl (Ev.bind (Recover_is b (by omega) hbu) (Ev.bind (rRecover_is b (by omega) hbu) (Ev.bind (Write_is l hok (by omega) (by omega)) (Ev.bind (rWrite_is l hok (by omega) (by omega)) (Ev.ite_pos rfl (Ev.ite_pos rfl ?_))))))
    refine Ev.bind (SameAll_self _ (by rw [List.length_nil] at s2; omega) (fun e he => ?_)) (Ev.now _)
    obtain ⟨n3, n4, n5⟩ := s1 e he
    omega
  · rw [show smallM l = false by simpa using hs]
    exact Ev.ite_neg (by decide) (Ev.now _)
end Go.Proofs.YtmgliocboeifdaaGreatDoor.Pure
