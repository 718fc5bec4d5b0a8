/- The document's functions that read strings and lists. -/
import Derived.Test.YtknpmknkkofnjaaPx13
import Derived.Test.YtknpmknkkofnjaaPQGets03
import Derived.Test.YtknpmknkkofnjaaPQRef03
import Derived.Test.YtknpmknkkofnjaaPQRGet
namespace Go.Proofs.Ytknpmknkkofnjaa.Q
open Go.RowKit Go.Proofs.YtknpmknkkofnjaaW.PrintWords Go.Proofs.YtknpmknkkofnjaaW.PrintLast Go.Proofs.YtknpmknkkofnjaaW.PrintMore Go.Proofs.Ytknpmknkkofnjaa.P
set_option linter.unusedVariables false
set_option linter.unusedSimpArgs false

theorem rlist_go (b : List Int) (hb : b.length ≤ 140737488351232) (hu : ∀ x ∈ b, 0 ≤ x ∧ x < 256) (hs : b.length ≤ 17592186000000) (n : Int) (hn : n ≤ 4611686018427387904) :
    ∀ (r : Nat) (i : Int) (last at_ : Int) (acc : List Int), i + r = n → 0 ≤ i → 0 ≤ last → last ≤ 4611686018427387904 → (acc.length : Int) = i → last = acc.getLastD 0 → i ≤ at_ → at_ ≤ (b.length : Int) →
      Ev (fun k => codesearchref03_GetList.l0 k b n at_ acc i) (getLs b r (decide (i > 0)) last at_ acc) := by
  intro r
  induction r with
  | zero =>
    intro i last at_ acc hi h0 hl hl2 hia hla ha hab
    refine Ev.step (f := fun _ => some (acc, at_, 0)) (fun k => ?_) (Ev.now _)
    rw [codesearchref03_GetList.l0, if_neg (show ¬ i < n by omega)]
  | succ r ih =>
    intro i last at_ acc hi h0 hl hl2 hia hla ha hab
    refine Ev.step (fun k => by rw [codesearchref03_GetList.l0, if_pos (show i < n by omega)]) (Ev.bind (rGet_go b at_ hb hu) ?_)
    rw [getLs]
    by_cases he : (get7 b at_).2.2 = 0
    · obtain ⟨g0, g1, p, _, _, g2, g3, g4, g5, g6⟩ := get7_ok he
      rw [g2]
      refine Ev.ite_pos rfl ?_
      rw [if_pos rfl]
      by_cases hi0 : i > 0
      · have hlast : rd acc (i - 1) = last := by
          have hl1 : acc.length - 1 < acc.length := by omega
          rw [show i - 1 = ((acc.length - 1 : Nat) : Int) from by omega, rd_nat acc _ hl1, hla, List.getLastD_eq_getLast?, List.getLast?_eq_getElem?, List.getElem?_eq_getElem hl1]
          rfl
        have ewi : wrap64 (i - 1) = i - 1 := w64 (by omega) (by omega)
        refine Ev.ite_pos hi0 ?_
        by_cases hv : val7 p = 0
        · rw [if_pos ⟨decide_eq_true hi0, hv⟩]
          refine Ev.step (f := fun _ => some (([] : List Int), 0, 3)) (fun k => ?_) (Ev.now _)
          rw [codesearchref03_GetList.j1, if_pos (by simp [hv])]
        · rw [if_neg (fun h => hv h.2)]
          refine Ev.step (fun k => by rw [codesearchref03_GetList.j1, if_neg (by simp [hv]), if_pos hi0, ewi, if_pos (show 0 ≤ i - 1 by omega), if_pos (show i - 1 < (acc.length : Int) by omega), hlast, w64 (x := 4611686018427387904 - last) (by omega) (by omega)]) ?_
          by_cases hg : val7 p > 4611686018427387904 - last
          · rw [if_pos hg]
            refine Ev.step (f := fun _ => some (([] : List Int), 0, 4)) (fun k => ?_) (Ev.now _)
            rw [codesearchref03_GetList.j2, if_pos (decide_eq_true hg)]
          · rw [if_neg hg]
            have := ih (i + 1) (last + val7 p) (at_ + p.length) (acc ++ [last + val7 p]) (by omega) (by omega) (by omega) (by omega) (by simp; omega) (by simp) (by omega) g6
            rw [decide_eq_true (show i + 1 > 0 by omega)] at this
            refine Ev.step (fun k => ?_) this
            rw [codesearchref03_GetList.j2, if_neg (by rw [decide_eq_false hg]; decide), if_pos hi0, ewi, if_pos (show 0 ≤ i - 1 by omega), if_pos (show i - 1 < (acc.length : Int) by omega), if_pos (show acc.length < 17592186044416 by omega), hlast, w64 (x := val7 p + last) (by omega) (by omega), w64 (x := i + 1) (by omega) (by omega), Int.add_comm (val7 p) last]
      · have hi00 : i = 0 := by omega
        have hacc : acc = [] := List.eq_nil_of_length_eq_zero (by omega)
        have hl0 : last = 0 := by rw [hla, hacc]; rfl
        refine Ev.ite_neg hi0 ?_
        rw [if_neg (fun h => hi0 (of_decide_eq_true h.1))]
        have hg : ¬ val7 p > 4611686018427387904 - last := by omega
        rw [if_neg hg]
        have := ih (i + 1) (last + val7 p) (at_ + p.length) (acc ++ [last + val7 p]) (by omega) (by omega) (by omega) (by omega) (by simp; omega) (by simp) (by omega) g6
        rw [decide_eq_true (show i + 1 > 0 by omega)] at this
        refine Ev.step (fun k => by rw [codesearchref03_GetList.j1, if_neg (by decide), if_neg hi0]) (Ev.step (fun k => ?_) this)
        rw [codesearchref03_GetList.j2, if_neg (by decide), if_neg hi0, if_pos (show acc.length < 17592186044416 by omega), w64 (x := i + 1) (by omega) (by omega), show last + val7 p = val7 p from by omega]
    · refine Ev.ite_neg he ?_
      rw [if_neg he]
      exact Ev.now _
theorem rGetList_go (b : List Int) (at_ most : Int) (hs : b.length ≤ 17592186000000) (hu : ∀ x ∈ b, 0 ≤ x ∧ x < 256) :
    Ev (fun k => codesearchref03_GetList.f k b at_ most) (getL b at_ most) := by
  refine Ev.congr (fun k => by rw [codesearchref03_GetList.f]) (Ev.bind (rGet_go b at_ (by omega) hu) ?_)
  unfold getL
  by_cases he : (get7 b at_).2.2 = 0
  · obtain ⟨g0, g1, p, _, _, g2, g3, g4, g5, g6⟩ := get7_ok he
    rw [g2]
    refine Ev.ite_pos rfl ?_
    rw [if_pos rfl]
    by_cases h1 : val7 p > most
    · simp only [if_pos h1]; exact Ev.now _
    · simp only [if_neg h1]
      exact rlist_go b (by omega) hu hs (val7 p) g5 (val7 p).toNat 0 0 (at_ + p.length) [] (by omega) (by omega) (by omega) (by omega) (by simp) rfl (by omega) g6
  · refine Ev.ite_neg he ?_
    rw [if_neg he]
    exact Ev.now _
end Go.Proofs.Ytknpmknkkofnjaa.Q
