/- GroupClosed, over lists alone. -/
import Derived.Test.YtobdkgoapcbipaaGreatDoorStGroupClosed
import Derived.Test.YtobdkgoapcbipaaGreatDoorJQ43
import Derived.Test.YtobdkgoapcbipaaGreatDoorJx20
namespace Go.Proofs.YtobdkgoapcbipaaGreatDoor.Pure
open Go.RowKit Go.Proofs.YtobdkgoapcbipaaGreatDoorW.PrintWords Go.Proofs.YtobdkgoapcbipaaGreatDoorW.PrintLast Go.Proofs.YtobdkgoapcbipaaGreatDoorW.PrintMore Go.Proofs.YtobdkgoapcbipaaGreatDoor.J Go.Proofs.YtobdkgoapcbipaaGreatDoor.Q
set_option linter.unusedVariables false
set_option linter.unusedSimpArgs false
theorem closed_mem {l : List GS} (hn : (l.map (·.f0)).Nodup) (i : Nat) (hi : i < l.length) (W : List Int) (hW : ∀ x, x ∈ W ↔ x ∈ l[i].f1 ∨ ∃ n ∈ l[i].f2, x ∈ usersT l n) : orS W [] = usersT l l[i].f0 := by
  have hf := find_at hn i hi
  refine srt_ext (orS_srt _ _) (usersT_srt _ _) (fun x => ?_)
  rw [mem_orS, hW, mem_usersT, users_some hf]
  constructor
  · rintro ((h | ⟨n, h1, h2⟩) | h)
    · exact .inl h
    · rw [mem_usersT] at h2
      have hs : n ∈ subsG l l[i].f0 := by rw [subs_some hf]; exact h1
      rcases h2 with h2 | ⟨m, h2, h3⟩
      · exact .inr ⟨n, .one hs, h2⟩
      · exact .inr ⟨m, (Reach.one hs).trans h2, h3⟩
    · cases h
  · rintro (h | ⟨m, h1, h2⟩)
    · exact .inl (.inl h)
    · obtain ⟨b, hb, h3⟩ := h1.first
      rw [subs_some hf] at hb
      refine .inl (.inr ⟨b, hb, (mem_usersT _ _ _).2 ?_⟩)
      rcases h3 with rfl | h3
      · exact .inl h2
      · exact .inr ⟨m, h3, h2⟩
theorem GroupClosed : StGroupClosed.Pure := by
  intro U l u hl hu
  have none_ : ∀ b, b = true → Ev (fun k => l43_GroupClosed.j0 k l u b) true := fun b hb => Ev.step (f := fun _ => some true) (fun k => by rw [l43_GroupClosed.j0, if_pos hb]) (Ev.now _)
  refine Ev.rounds (Ev.congr (fun k => rfl) (Ev.bind alive43 (Ev.ite_pos rfl (Ev.bind (few_is l) ?_))))
  by_cases h1 : fewB l = true
  · rw [h1]
    obtain ⟨n1, f1, hf⟩ := fewB_of h1
    refine Ev.ite_pos rfl (Ev.bind (rRight_is l hf) ?_)
    by_cases h4 : rightT l = 0
    · have hgood := good_of h4
      rw [show (rightT l != 0) = false by rw [h4]; rfl]
      refine Ev.step (fun k => by rw [l43_GroupClosed.j0, if_neg (by decide)]) (Ev.bind (Of_is l hf u) ?_)
      have hol : (ofT l u).length = (namesU l u l).length := by rw [ofT, sortdS_len]
      have hnl := namesU_len l u l
      have hmem : ∀ i (hi : i < l.length), l[i].f0 ∈ ofT l u ↔ u ∈ usersT l l[i].f0 := fun i hi => by
        rw [ofT, sortdS_mem, mem_namesU]
        exact ⟨fun h => h.2, fun h => ⟨⟨l[i], List.getElem_mem _, rfl⟩, h⟩⟩
      have key : ∀ d (i : Nat), i + d = l.length → Ev (fun k => l43_GroupClosed.l0 k l u (ofT l u) ((namesU l u (l.take i)).length : Int) (i : Int)) true := by
        intro d
        induction d with
        | zero =>
          intro i hi
          rw [List.take_of_length_le (by omega)]
          refine Ev.step (f := fun _ => some true) (fun k => ?_) (Ev.now _)
          rw [l43_GroupClosed.l0, if_neg (by omega), hol, beq_self_eq_true]
        | succ d ih =>
          intro i hi
          have hlt : i < l.length := by omega
          have hg := hf.groups l[i] (List.getElem_mem _)
          have hus := hf.users l[i] (List.getElem_mem _)
          have hcl := namesU_len l u (l.take i)
          rw [List.length_take] at hcl
          have hstep : (namesU l u (l.take (i + 1))).length = (namesU l u (l.take i)).length + if u ∈ usersT l l[i].f0 then 1 else 0 := by
            rw [List.take_succ_eq_append_getElem hlt, namesU, namesU, List.filter_append, List.map_append, List.length_append]
            congr 1
            by_cases c : u ∈ usersT l l[i].f0
            · rw [if_pos c, List.filter_cons_of_pos (by simpa using c)]; rfl
            · rw [if_neg c, List.filter_cons_of_neg (by simpa using c)]; rfl
          have hr := ih (i + 1) (by omega)
          rw [hstep] at hr
          -- the search of the name in Of
          have l2 : ∀ e (j : Nat), j + e = (ofT l u).length → Ev (fun k => l43_GroupClosed.l2 k l u (ofT l u) ((namesU l u (l.take i)).length : Int) (i : Int) (usersT l l[i].f0) (decide (l[i].f0 ∈ (ofT l u).take j)) (j : Int)) true := by
            intro e
            induction e with
            | zero =>
              intro j hj
              rw [List.take_of_length_le (show (ofT l u).length ≤ j by omega), decide_eq_decide.2 (hmem i hlt)]
              refine Ev.step (fun k => by rw [l43_GroupClosed.l2, if_neg (by omega), w1 i (by omega), w1 _ (by omega)]) (Ev.bind (In_go (usersT l l[i].f0) u (by have := usersT_len hf l[i].f0; omega)) ?_)
              refine Ev.ite_neg (by simp) ?_
              by_cases c : u ∈ usersT l l[i].f0
              · rw [if_pos c] at hr
                exact Ev.ite_pos (decide_eq_true c) hr
              · rw [if_neg c, Nat.add_zero] at hr
                exact Ev.ite_neg (by simpa using c) hr
            | succ e ih2 =>
              intro j hj
              have hj2 : j < (ofT l u).length := by omega
              have h2 := ih2 (j + 1) (by omega)
              rw [List.take_succ_eq_append_getElem hj2] at h2
              refine Ev.step (fun k => by rw [l43_GroupClosed.l2, if_pos (show (j : Int) < ((ofT l u).length : Int) by omega), if_pos (show (0 : Int) ≤ (j : Int) by omega), if_pos (show (0 : Int) ≤ (i : Int) by omega), if_pos (show (i : Int) < (l.length : Int) by omega), rdG_nat l i hlt, rdOf_nat _ _ j hj2, w1 j (by omega)]) ?_
              by_cases c : l[i].f0 ∈ (ofT l u).take j
              · rw [decide_eq_true c]
                rw [decide_eq_true (List.mem_append_left _ c)] at h2
                exact Ev.ite_pos rfl h2
              · rw [decide_eq_false c]
                refine Ev.ite_neg (by decide) ?_
                rw [str_eq_]
                rw [show decide (l[i].f0 ∈ (ofT l u).take j ++ [(ofT l u)[j]]) = decide ((ofT l u)[j] = l[i].f0) from decide_eq_decide.2 ⟨fun h => ((List.mem_append.1 h).resolve_left c |> List.mem_singleton.1).symm, fun h => List.mem_append_right _ (by rw [h]; exact List.mem_cons_self)⟩] at h2
                exact h2
          have l2' := l2 (ofT l u).length 0 (by omega)
          rw [show decide (l[i].f0 ∈ (ofT l u).take 0) = false by simp] at l2'
          -- what the group's own users and those of its parts are
          have l1 : ∀ e (j : Nat) (W : List Int), j + e = l[i].f2.length → W.length ≤ 20 + 100000 * j → (∀ x, x ∈ W ↔ x ∈ l[i].f1 ∨ ∃ n ∈ l[i].f2.take j, x ∈ usersT l n) →
              Ev (fun k => l43_GroupClosed.l1 k l u (ofT l u) ((namesU l u (l.take i)).length : Int) (i : Int) W (j : Int)) true := by
            intro e
            induction e with
            | zero =>
              intro j W hj hWl hW
              rw [List.take_of_length_le (show l[i].f2.length ≤ j by omega)] at hW
              have ho := rOr_is W [] (by omega) (by simp)
              rw [closed_mem hgood.names i hlt W hW] at ho
              refine Ev.step (fun k => by rw [l43_GroupClosed.l1, if_pos (show (0 : Int) ≤ (i : Int) by omega), if_pos (show (i : Int) < (l.length : Int) by omega), rdG_nat l i hlt, if_neg (by omega)]) (Ev.bind (Users_is l hf l[i].f0) (Ev.bind ho (Ev.bind (Same_self (usersT l l[i].f0) (by have := usersT_len hf l[i].f0; omega)) (Ev.ite_pos rfl (Ev.bind (In_is l hf l[i].f0 u) (Ev.bind (In_go (usersT l l[i].f0) u (by have := usersT_len hf l[i].f0; omega)) ?_))))))
              rw [show (decide (u ∈ usersT l l[i].f0) != decide (u ∈ usersT l l[i].f0)) = false by simp]
              exact Ev.step (fun k => by rw [l43_GroupClosed.j3, if_neg (by decide)]; rfl) l2'
            | succ e ih2 =>
              intro j W hj hWl hW
              have hj2 : j < l[i].f2.length := by omega
              have hul := usersT_len hf (l[i].f2)[j]
              have hol := orS_len W (usersT l (l[i].f2)[j])
              refine Ev.step (fun k => by rw [l43_GroupClosed.l1, if_pos (show (0 : Int) ≤ (i : Int) by omega), if_pos (show (i : Int) < (l.length : Int) by omega), rdG_nat l i hlt, if_pos (by omega), if_pos (by omega), rdOf_nat _ _ j hj2, w1 j (by omega)]) (Ev.bind (Users_is l hf (l[i].f2)[j]) (Ev.bind (rOr_is W (usersT l (l[i].f2)[j]) (by omega) (by omega)) ?_))
              refine ih2 (j + 1) _ (by omega) (by omega) (fun x => ?_)
              rw [mem_orS, hW, List.take_succ_eq_append_getElem hj2]
              constructor
              · rintro ((h | ⟨n, h1, h2⟩) | h)
                · exact .inl h
                · exact .inr ⟨n, List.mem_append_left _ h1, h2⟩
                · exact .inr ⟨_, List.mem_append_right _ List.mem_cons_self, h⟩
              · rintro (h | ⟨n, h1, h2⟩)
                · exact .inl (.inl h)
                · rcases List.mem_append.1 h1 with h1 | h1
                  · exact .inl (.inr ⟨n, h1, h2⟩)
                  · rw [List.mem_singleton.1 h1] at h2; exact .inr h2
          refine Ev.step (fun k => by rw [l43_GroupClosed.l0, if_pos (show (i : Int) < (l.length : Int) by omega), if_pos (show (0 : Int) ≤ (i : Int) by omega), rdG_nat l i hlt]; rfl) (l1 l[i].f2.length 0 l[i].f1 (by omega) (by omega) (fun x => by simp))
      exact key l.length 0 (by omega)
    · exact none_ _ (bne_iff_ne.2 h4)
  · rw [show fewB l = false by simpa using h1]
    exact Ev.ite_neg (by decide) (none_ _ rfl)
end Go.Proofs.YtobdkgoapcbipaaGreatDoor.Pure
