/- GroupAsks, over lists alone. -/
import Derived.Test.YtobdkgoapcbipaaGreatDoorStGroupAsks
import Derived.Test.YtobdkgoapcbipaaGreatDoorJQ43
import Derived.Test.YtobdkgoapcbipaaGreatDoorJx19
namespace Go.Proofs.YtobdkgoapcbipaaGreatDoor.Pure
open Go.RowKit Go.Proofs.YtobdkgoapcbipaaGreatDoorW.PrintWords Go.Proofs.YtobdkgoapcbipaaGreatDoorW.PrintLast Go.Proofs.YtobdkgoapcbipaaGreatDoorW.PrintMore Go.Proofs.YtobdkgoapcbipaaGreatDoor.J Go.Proofs.YtobdkgoapcbipaaGreatDoor.Q
set_option linter.unusedVariables false
set_option linter.unusedSimpArgs false
theorem GroupAsks : StGroupAsks.Pure := by
  intro U l s u hl hs hu
  have none_ : ∀ b, b = true → Ev (fun k => l43_GroupAsks.j0 k l s u b) true := fun b hb => Ev.step (f := fun _ => some true) (fun k => by rw [l43_GroupAsks.j0, if_pos hb]) (Ev.now _)
  refine Ev.rounds (Ev.congr (fun k => rfl) (Ev.bind alive43 (Ev.ite_pos rfl (Ev.bind (few_is l) ?_))))
  by_cases h1 : fewB l = true
  · rw [h1]
    obtain ⟨n1, f1, hf⟩ := fewB_of h1
    refine Ev.ite_pos rfl ?_
    by_cases h3 : (s.size : Int) > 100
    · exact Ev.ite_pos h3 (none_ _ rfl)
    · refine Ev.ite_neg h3 (Ev.bind (rRight_is l hf) ?_)
      by_cases h4 : rightT l = 0
      · have hgood := good_of h4
        have hul := usersT_len hf s
        have O := rOf_is l hf u
        rw [of_same hgood.names] at O
        have hol : (ofT l u).length ≤ 1000000 := by
          have := namesU_len l u l
          rw [ofT, sortdS_len]; omega
        have D1 := Depth_is l hf hgood.noLoop s (by omega)
        have D2 : Ev (fun k => r43_Depth.f k l s) (deepT l s : Int) := Ev.bind (rDepth_is l hf hgood.noLoop s) (Ev.now _)
        rw [show (rightT l != 0) = false by rw [h4]; rfl]
        refine Ev.step (fun k => by rw [l43_GroupAsks.j0, if_neg (by decide)]) (Ev.bind (Users_is l hf s) (Ev.bind (rUsers_is l hf s) (Ev.bind (Same_self (usersT l s) (by omega)) (Ev.ite_pos rfl (Ev.bind (Of_is l hf u) (Ev.bind O (Ev.bind (SameText_self (ofT l u) hol) (Ev.ite_pos rfl ?_))))))))
        refine Ev.bind (In_is l hf s u) (Ev.bind (rIn_is l hf s u) (Ev.ite_pos (beq_self_eq_true _) (Ev.bind D1 (Ev.bind D2 ?_))))
        rw [beq_self_eq_true]
        exact Ev.now _
      · exact none_ _ (bne_iff_ne.2 h4)
  · rw [show fewB l = false by simpa using h1]
    exact Ev.ite_neg (by decide) (none_ _ rfl)
end Go.Proofs.YtobdkgoapcbipaaGreatDoor.Pure
