/- PostingSeek, over numbers and lists alone. -/
import Derived.Test.YtknpmknkkofnjaaStPostingSeek
import Derived.Test.YtknpmknkkofnjaaPQUnp05
namespace Go.Proofs.Ytknpmknkkofnjaa.Pure
open Go.RowKit Go.Proofs.YtknpmknkkofnjaaW.PrintWords Go.Proofs.YtknpmknkkofnjaaW.PrintLast Go.Proofs.YtknpmknkkofnjaaW.PrintMore Go.Proofs.Ytknpmknkkofnjaa.P Go.Proofs.Ytknpmknkkofnjaa.Q
set_option linter.unusedVariables false
set_option linter.unusedSimpArgs false
theorem seekS_some {l : List Int} {n x : Int} (hs : l.Pairwise (· < ·)) (h : seekS l n = (x, true)) : x ∈ l ∧ ∀ y ∈ l, y ≥ n → x ≤ y := by
  induction l with
  | nil => simp [seekS] at h
  | cons a l ih =>
    have h1 := List.pairwise_cons.1 hs
    by_cases ha : a ≥ n
    · rw [seekS, List.find?_cons_of_pos (by simpa using ha)] at h
      obtain rfl : a = x := (Prod.mk.inj h).1
      refine ⟨by simp, fun y hy _ => ?_⟩
      rcases List.mem_cons.1 hy with e | e
      · omega
      · have := h1.1 y e; omega
    · rw [seekS, List.find?_cons_of_neg (by simpa using ha)] at h
      obtain ⟨h2, h3⟩ := ih h1.2 h
      refine ⟨by simp [h2], fun y hy hn => ?_⟩
      rcases List.mem_cons.1 hy with e | e
      · omega
      · exact h3 y e hn
theorem seekS_none {l : List Int} {n x : Int} (h : seekS l n = (x, false)) : x = 0 ∧ ∀ y ∈ l, ¬ y ≥ n := by
  rw [seekS] at h
  split at h
  · cases (Prod.mk.inj h).2
  · rename_i he
    rw [List.find?_eq_none] at he
    exact ⟨(Prod.mk.inj h).1.symm, fun y hy => by simpa using he y hy⟩
theorem PostingSeek : StPostingSeek.Pure := by
  intro U l n hl hn
  refine Ev.rounds (Ev.congr (fun k => rfl) (Ev.bind alive05 (Ev.ite_pos rfl ?_)))
  by_cases h1 : (l.length : Int) > 200
  · exact Ev.ite_pos h1 (Ev.now _)
  refine Ev.ite_neg h1 ?_
  have hp := Pack_go l (by omega)
  by_cases hv : okV (-1) l = true
  case neg =>
    rw [if_neg hv] at hp
    exact Ev.bind hp (Ev.ite_neg (by decide) (Ev.now _))
  rw [if_pos hv] at hp
  have hs := ((okV_OkV l).1 hv).1
  have hpl := packF_len l.length l
  have he := enc7_length 10 (l.length : Int)
  have hlen : (packL l).length ≤ 100000 := by simp only [packL, List.length_append]; omega
  have hU := Seek_go (packL l) n (by omega) (packL_range ((okV_OkV l).1 hv) (by omega))
  rw [unpack_pack l hv (by omega), if_pos rfl] at hU
  refine Ev.bind hp (Ev.ite_pos rfl (Ev.bind hU ?_))
  show Ev (fun k => codesearchlaw05_PostingSeek.l0 k l n (seekS l n).1 (seekS l n).2 false 0) true
  rcases hse : seekS l n with ⟨x, ok⟩
  show Ev (fun k => codesearchlaw05_PostingSeek.l0 k l n x ok false 0) true
  cases ok with
  | false =>
    obtain ⟨rfl, hno⟩ := seekS_none hse
    have key : ∀ d (i : Nat), i + d = l.length → Ev (fun k => codesearchlaw05_PostingSeek.l0 k l n 0 false false (i : Int)) true := by
      intro d
      induction d with
      | zero =>
        intro i hi
        refine Ev.step (f := fun _ => some true) (fun k => ?_) (Ev.now _)
        rw [codesearchlaw05_PostingSeek.l0, if_neg (show ¬ (i : Int) < (l.length : Int) by omega)]
        rfl
      | succ d ih =>
        intro i hi
        have hlt : i < l.length := by omega
        refine Ev.step (fun k => ?_) (ih (i + 1) (by omega))
        rw [codesearchlaw05_PostingSeek.l0, if_pos (show (i : Int) < (l.length : Int) by omega), if_pos (show (0 : Int) ≤ (i : Int) by omega), rd_nat l i hlt, if_neg (hno _ (List.getElem_mem _)), w_inc i (by omega)]
    exact key l.length 0 (by omega)
  | true =>
    obtain ⟨hx, hmin⟩ := seekS_some hs hse
    have hge : x ≥ n := by
      rw [seekS] at hse
      split at hse
      · rename_i y hy
        obtain rfl : y = x := (Prod.mk.inj hse).1
        have := List.find?_some hy
        simpa using this
      · cases (Prod.mk.inj hse).2
    have key : ∀ d (i : Nat) (found : Bool), i + d = l.length → (found = true ∨ x ∈ l.drop i) → Ev (fun k => codesearchlaw05_PostingSeek.l0 k l n x true found (i : Int)) true := by
      intro d
      induction d with
      | zero =>
        intro i found hi hf
        have hft : found = true := by
          rcases hf with h | h
          · exact h
          · rw [List.drop_of_length_le (by omega)] at h; simp at h
        subst hft
        refine Ev.step (f := fun _ => some true) (fun k => ?_) (Ev.now _)
        rw [codesearchlaw05_PostingSeek.l0, if_neg (show ¬ (i : Int) < (l.length : Int) by omega)]
        rfl
      | succ d ih =>
        intro i found hi hf
        have hlt : i < l.length := by omega
        rw [drop_cons l i hlt] at hf
        by_cases hg : l[i] ≥ n
        · have hle := hmin l[i] (List.getElem_mem _) hg
          cases found with
          | true =>
            refine Ev.step (fun k => ?_) (ih (i + 1) true (by omega) (.inl rfl))
            rw [codesearchlaw05_PostingSeek.l0, if_pos (show (i : Int) < (l.length : Int) by omega), if_pos (show (0 : Int) ≤ (i : Int) by omega), rd_nat l i hlt, if_pos hg, if_pos rfl, if_neg (by omega), if_pos rfl, w_inc i (by omega)]
          | false =>
            refine Ev.step (fun k => ?_) (ih (i + 1) (l[i] == x) (by omega) ?_)
            · rw [codesearchlaw05_PostingSeek.l0, if_pos (show (i : Int) < (l.length : Int) by omega), if_pos (show (0 : Int) ≤ (i : Int) by omega), rd_nat l i hlt, if_pos hg, if_pos rfl, if_neg (by omega), if_neg (by decide), w_inc i (by omega)]
            · rcases hf with h | h
              · cases h
              · rcases List.mem_cons.1 h with e | e
                · exact .inl (by rw [e]; exact beq_self_eq_true _)
                · exact .inr e
        · refine Ev.step (fun k => ?_) (ih (i + 1) found (by omega) ?_)
          · rw [codesearchlaw05_PostingSeek.l0, if_pos (show (i : Int) < (l.length : Int) by omega), if_pos (show (0 : Int) ≤ (i : Int) by omega), rd_nat l i hlt, if_neg hg, w_inc i (by omega)]
          · rcases hf with h | h
            · exact .inl h
            · rcases List.mem_cons.1 h with e | e
              · omega
              · exact .inr e
    exact key l.length 0 false (by omega) (.inr hx)
end Go.Proofs.Ytknpmknkkofnjaa.Pure
