/- GroupLevels, over lists alone. -/
import Derived.Test.YtobdkgoapcbipaaGreatDoorStGroupLevels
import Derived.Test.YtobdkgoapcbipaaGreatDoorJQ43
import Derived.Test.YtobdkgoapcbipaaGreatDoorJx23
namespace Go.Proofs.YtobdkgoapcbipaaGreatDoor.Pure
open Go.RowKit Go.Proofs.YtobdkgoapcbipaaGreatDoorW.PrintWords Go.Proofs.YtobdkgoapcbipaaGreatDoorW.PrintLast Go.Proofs.YtobdkgoapcbipaaGreatDoorW.PrintMore Go.Proofs.YtobdkgoapcbipaaGreatDoor.J Go.Proofs.YtobdkgoapcbipaaGreatDoor.Q
set_option linter.unusedVariables false
set_option linter.unusedSimpArgs false
theorem GroupLevels : StGroupLevels.Pure := by
  intro U l s hl hs
  have none_ : ∀ b, b = true → Ev (fun k => l43_GroupLevels.j0 k l s b) true := fun b hb => Ev.step (f := fun _ => some true) (fun k => by rw [l43_GroupLevels.j0, if_pos hb]) (Ev.now _)
  refine Ev.rounds (Ev.congr (fun k => rfl) (Ev.bind alive43 (Ev.ite_pos rfl (Ev.bind (few_is l) ?_))))
  by_cases h1 : fewB l = true
  · rw [h1]
    obtain ⟨n1, f1, hf⟩ := fewB_of h1
    refine Ev.ite_pos rfl ?_
    by_cases h3 : (s.size : Int) > 100
    · exact Ev.ite_pos h3 (none_ _ rfl)
    · refine Ev.ite_neg h3 (Ev.bind (rRight_is l hf) ?_)
      by_cases h4 : rightT l = 0
      · have hgood := good_of h4
        have hn := hgood.noLoop
        rw [show (rightT l != 0) = false by rw [h4]; rfl]
        refine Ev.step (fun k => by rw [l43_GroupLevels.j0, if_neg (by decide)]) ?_
        have pos : ∀ t, deepT l t > 0 ↔ domG l t = true := fun t => by
          rw [deepT_eq hn]
          by_cases c : domG l t = true
          · rw [if_pos c]; simp [c]
          · rw [if_neg c]; simp [c]
        have key : ∀ d (i : Nat), i + d = l.length → Ev (fun k => l43_GroupLevels.l0 k l s (findG (l.take i) s).isSome (i : Int)) true := by
          intro d
          induction d with
          | zero =>
            intro i hi
            rw [List.take_of_length_le (by omega)]
            refine Ev.step (fun k => by rw [l43_GroupLevels.l0, if_neg (by omega)]) (Ev.bind (Depth_is l hf hn s (by omega)) ?_)
            rw [show decide ((deepT l s : Int) > 0) = domG l s from by
              rw [Bool.eq_iff_iff, decide_eq_true_iff, ← pos]; omega]
            rw [show ((findG l s).isSome == domG l s) = true from beq_self_eq_true _]
            exact Ev.now _
          | succ d ih =>
            intro i hi
            have hlt : i < l.length := by omega
            have hsz := hf.name l[i] (List.getElem_mem _)
            have hg := hf.groups l[i] (List.getElem_mem _)
            have hfi := find_at hgood.names i hlt
            have inner : ∀ b, Ev (fun k => l43_GroupLevels.l0 k l s b ((i + 1 : Nat) : Int)) true → ∀ e (j mo : Nat), j + e = l[i].f2.length → mo ≤ 801 → ((l[i].f2.drop j).map (deepT l)).foldl max mo = ((l[i].f2).map (deepT l)).foldl max 0 →
                Ev (fun k => l43_GroupLevels.l1 k l s b (i : Int) (mo : Int) (j : Int)) true := by
              intro b hb e
              induction e with
              | zero =>
                intro j mo hj hm hmo
                rw [List.drop_of_length_le (by omega)] at hmo
                have hd : deepT l l[i].f0 = mo + 1 := by
                  rw [deepT_eq hn, if_pos (by rw [domG, hfi]; rfl), subs_some hfi, ← hmo]; rfl
                have h12 := hgood.deep l[i] (List.getElem_mem _)
                refine Ev.step (fun k => by rw [l43_GroupLevels.l1, if_pos (show (0 : Int) ≤ (i : Int) by omega), if_pos (show (i : Int) < (l.length : Int) by omega), rdG_nat l i hlt, if_neg (by omega), w1 mo (by omega), w1 i (by omega)]) (Ev.bind (Depth_is l hf hn l[i].f0 (by omega)) ?_)
                exact Ev.ite_pos (by rw [hd]) (Ev.ite_neg (by omega) hb)
              | succ e ih2 =>
                intro j mo hj hm hmo
                have hj2 : j < l[i].f2.length := by omega
                rw [List.drop_eq_getElem_cons hj2, List.map_cons, List.foldl_cons] at hmo
                have hb2 := deepT_le hf (l[i].f2)[j]
                have hns := hf.names l[i] (List.getElem_mem _) (l[i].f2)[j] (List.getElem_mem _)
                have hi2 := ih2 (j + 1) (max mo (deepT l (l[i].f2)[j])) (by omega) (by omega) hmo
                refine Ev.step (fun k => by rw [l43_GroupLevels.l1, if_pos (show (0 : Int) ≤ (i : Int) by omega), if_pos (show (i : Int) < (l.length : Int) by omega), rdG_nat l i hlt, if_pos (by omega), if_pos (by omega), rdOf_nat _ _ j hj2, w1 j (by omega)]) (Ev.bind (Depth_is l hf hn (l[i].f2)[j] (by omega)) ?_)
                by_cases c : deepT l (l[i].f2)[j] > mo
                · rw [Nat.max_eq_right (by omega)] at hi2
                  exact Ev.ite_pos (by omega) hi2
                · rw [Nat.max_eq_left (by omega)] at hi2
                  exact Ev.ite_neg (by omega) hi2
            have j2 : ∀ b, b = (findG (l.take (i + 1)) s).isSome → Ev (fun k => l43_GroupLevels.j2 k l s b (i : Int)) true := by
              intro b hb
              have hr := ih (i + 1) (by omega)
              rw [← hb] at hr
              exact Ev.step (fun k => by rw [l43_GroupLevels.j2]; rfl) (inner b hr _ 0 0 (by rw [Nat.zero_add]) (Nat.zero_le _) (by rw [List.drop_zero]))
            have hstep : (findG (l.take (i + 1)) s).isSome = ((findG (l.take i) s).isSome || decide (l[i].f0 = s)) := by
              rw [List.take_succ_eq_append_getElem hlt, findG, findG, List.find?_append]
              cases h : List.find? (fun g : GS => decide (g.f0 = s)) (l.take i) with
              | some g => rfl
              | none =>
                rw [Option.none_or, List.find?_cons]
                by_cases c : l[i].f0 = s
                · rw [decide_eq_true c]; rfl
                · rw [decide_eq_false c]; rfl
            refine Ev.step (fun k => by rw [l43_GroupLevels.l0, if_pos (show (i : Int) < (l.length : Int) by omega), rdG_nat l i hlt, if_pos (show (0 : Int) ≤ (i : Int) by omega)]) ?_
            by_cases c : (findG (l.take i) s).isSome = true
            · exact Ev.ite_pos c (j2 true (by rw [hstep, c]; rfl))
            · refine Ev.ite_neg c (j2 _ ?_)
              rw [hstep, Bool.eq_false_iff.2 c, Bool.false_or, str_eq_]
        exact key l.length 0 (by omega)
      · exact none_ _ (bne_iff_ne.2 h4)
  · rw [show fewB l = false by simpa using h1]
    exact Ev.ite_neg (by decide) (none_ _ rfl)
end Go.Proofs.YtobdkgoapcbipaaGreatDoor.Pure
