/- GroupSets, over lists alone. -/
import Derived.Test.YtobdkgoapcbipaaGreatDoorStGroupSets
import Derived.Test.YtobdkgoapcbipaaGreatDoorJQ43
import Derived.Test.YtobdkgoapcbipaaGreatDoorJx17
namespace Go.Proofs.YtobdkgoapcbipaaGreatDoor.Pure
open Go.RowKit Go.Proofs.YtobdkgoapcbipaaGreatDoorW.PrintWords Go.Proofs.YtobdkgoapcbipaaGreatDoorW.PrintLast Go.Proofs.YtobdkgoapcbipaaGreatDoorW.PrintMore Go.Proofs.YtobdkgoapcbipaaGreatDoor.J Go.Proofs.YtobdkgoapcbipaaGreatDoor.Q
set_option linter.unusedVariables false
set_option linter.unusedSimpArgs false
theorem SameG_nil : Ev (fun k => r43_Same.f k [] []) true := SameG_self [] (by decide) (fun g hg => by cases hg)
theorem GroupSets : StGroupSets.Pure := by
  intro U l g s hl hg hs
  have none_ : ∀ b, b = true → Ev (fun k => l43_GroupSets.j0 k l s b g.f0 g.f1 g.f2) true := fun b hb => Ev.step (f := fun _ => some true) (fun k => by rw [l43_GroupSets.j0, if_pos hb]) (Ev.now _)
  refine Ev.rounds (Ev.congr (fun k => rfl) (Ev.bind alive43 (Ev.ite_pos rfl (Ev.bind (few_is l) ?_))))
  by_cases h1 : fewB l = true
  · rw [h1]
    obtain ⟨n1, f1, hf⟩ := fewB_of h1
    refine Ev.ite_pos rfl (Ev.bind (few_is [g]) ?_)
    by_cases h2 : fewB [g] = true
    · rw [h2]
      refine Ev.ite_pos rfl ?_
      by_cases h3 : (s.size : Int) > 100
      · exact none_ _ (decide_eq_true h3)
      · obtain ⟨_, f2, _⟩ := fewB_of h2
        have hfs := setT_few n1 f1 (f2 g List.mem_cons_self)
        have same : Ev (fun k => r43_Same.f k (setR l g).1 (setR l g).1) true := by
          rw [setR]; split
          · exact SameG_few hfs
          · exact SameG_nil
        have tail : Ev (fun k => l43_GroupSets.j1 k l s false) true := by
          refine Ev.step (fun k => by rw [l43_GroupSets.j1, if_neg (by decide)]) (Ev.bind (rRight_is l hf) ?_)
          by_cases h4 : rightT l = 0
          · have hgood := good_of h4
            refine Ev.ite_pos h4 (Ev.bind (Drop_is l hf s) (Ev.bind (rDrop_is l hf hgood.names s) (Ev.ite_pos rfl (Ev.bind ?_ (Ev.now _)))))
            rw [dropT]
            split
            · split
              · exact SameG_nil
              · refine SameG_self (keepG s l) (by have := keepG_len s l; omega) (fun x hx => ?_)
                have hx := (List.mem_filter.1 hx).1
                exact ⟨by have := hf.users x hx; omega, by have := hf.groups x hx; omega⟩
            · exact SameG_nil
          · exact Ev.ite_neg h4 (Ev.now _)
        rw [decide_eq_false h3]
        refine Ev.step (fun k => by rw [l43_GroupSets.j0, if_neg (by decide)]) (Ev.bind (Set_is l g n1 hfs) (Ev.bind (rSet_is l g n1 hfs) (Ev.ite_pos rfl (Ev.bind same ?_))))
        exact tail
    · rw [show fewB [g] = false by simpa using h2]
      exact Ev.ite_neg (by decide) (none_ _ rfl)
  · rw [show fewB l = false by simpa using h1]
    exact Ev.ite_neg (by decide) (none_ _ rfl)
end Go.Proofs.YtobdkgoapcbipaaGreatDoor.Pure
