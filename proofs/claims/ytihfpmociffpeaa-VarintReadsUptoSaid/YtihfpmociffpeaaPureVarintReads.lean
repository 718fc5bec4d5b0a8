/- VarintReads: for every input of bounded bulk the law's pure function answers true. -/
import Derived.Test.YtihfpmociffpeaaStVarintReads
import Derived.Test.YtihfpmociffpeaaQAlive03
import Derived.Test.YtihfpmociffpeaaQRGets03
import Derived.Test.YtihfpmociffpeaaQSame03
namespace Go.Proofs.Ytihfpmociffpeaa.Pure
open Go.RowKit Go.Proofs.Ytihfpmociffpeaa.V Go.Proofs.YtihfpmociffpeaaW.PrintWords Go.Proofs.YtihfpmociffpeaaW.PrintLast Go.Proofs.Ytihfpmociffpeaa.Q

theorem getLs_length (b : List Int) : ∀ (r : Nat) (more : Bool) (last at_ : Int) (acc : List Int), (acc.length : Int) ≤ at_ → at_ ≤ (b.length : Int) → (getLs b r more last at_ acc).1.length ≤ b.length := by
  intro r
  induction r with
  | zero => intro more last at_ acc h h2; simp only [getLs]; omega
  | succ r ih =>
    intro more last at_ acc h h2
    rw [getLs]
    split
    · rename_i he
      obtain ⟨g0, g1, p, _, _, g2, g3, g4, g5, g6⟩ := get7_ok he
      split
      · simp
      · split
        · simp
        · rw [g2]; exact ih _ _ _ _ (by simp; omega) g6
    · simp
theorem getL_length (b : List Int) (at_ most : Int) : (getL b at_ most).1.length ≤ b.length := by
  unfold getL
  split
  · rename_i he
    obtain ⟨g0, g1, p, _, _, g2, g3, g4, g5, g6⟩ := get7_ok he
    split
    · simp
    · rw [g2]; exact getLs_length b _ _ _ _ _ (by simp; omega) g6
  · simp
theorem VarintReads : StVarintReads.Pure := by
  intro U b a1 a2 hU hb ha hm
  have hu : ∀ x ∈ b, 0 ≤ x ∧ x < 256 := fun x hx => wf_u8.1 (hb.2.2.2 x hx)
  have hbl : b.length ≤ 1048576 := by have := hb.2.2.1; omega
  refine Ev.rounds (r := true) ?_
  refine Ev.congr (fun k => by rw [codesearchlaw03_VarintReads.f]) (Ev.bind alive03 (Ev.ite_pos rfl ?_))
  refine Ev.bind (GetString_go b a1 a2 (by omega) hu) (Ev.bind (rGetString_go b a1 a2 (by omega) hu) (Ev.ite_pos rfl (Ev.ite_pos rfl ?_)))
  refine Ev.step (fun k => by rw [codesearchlaw03_VarintReads.j0, if_neg (by simp)]) ?_
  have hl := getL_length b a1 a2
  refine Ev.bind (GetList_go b a1 a2 (by omega) hu) (Ev.bind (rGetList_go b a1 a2 (by omega) hu) (Ev.bind (SameInts_self _ (by omega)) (Ev.ite_pos rfl (Ev.ite_pos rfl ?_))))
  exact Ev.congr (fun k => by simp) (Ev.now true)

end Go.Proofs.Ytihfpmociffpeaa.Pure
