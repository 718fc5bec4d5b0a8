/- What the functions that read strings and lists answer: the program's and the document's alike. -/
import Derived.Test.YtihfpmociffpeaaOx2
import Derived.Test.YtihfpmociffpeaaOQVar
import Derived.Test.YtihfpmociffpeaaOQOk
namespace Go.Proofs.Ytihfpmociffpeaa.Q
open Go.RowKit Go.Proofs.YtihfpmociffpeaaW.PrintWords Go.Proofs.YtihfpmociffpeaaW.PrintLast Go.Proofs.YtihfpmociffpeaaW.PrintMore Go.Proofs.Ytihfpmociffpeaa.O
set_option linter.unusedVariables false
set_option linter.unusedSimpArgs false

def getS (b : List Int) (at_ most : Int) : ByteArray × Int × Int :=
  let g := get7 b at_
  if g.2.2 = 0 then (if g.1 > most then (⟨#[]⟩, 0, 4) else if (b.length : Int) - g.2.1 < g.1 then (⟨#[]⟩, 0, 5) else (strOfNums ((b.take (g.2.1 + g.1).toNat).drop g.2.1.toNat), g.2.1 + g.1, 0)) else (⟨#[]⟩, 0, g.2.2)
/-- The elements: so many still, is one there already, the last one, the place, what was read. -/
def getLs (b : List Int) : Nat → Bool → Int → Int → List Int → List Int × Int × Int
  | 0, _, _, at_, acc => (acc, at_, 0)
  | r + 1, more, last, at_, acc =>
    if (get7 b at_).2.2 = 0 then
      (if more = true ∧ (get7 b at_).1 = 0 then ([], 0, 3) else if (get7 b at_).1 > 4611686018427387904 - last then ([], 0, 4) else getLs b r true (last + (get7 b at_).1) (get7 b at_).2.1 (acc ++ [last + (get7 b at_).1]))
    else ([], 0, (get7 b at_).2.2)
def getL (b : List Int) (at_ most : Int) : List Int × Int × Int :=
  if (get7 b at_).2.2 = 0 then (if (get7 b at_).1 > most then ([], 0, 4) else getLs b (get7 b at_).1.toNat false 0 (get7 b at_).2.1 []) else ([], 0, (get7 b at_).2.2)

theorem GetString_go (b : List Int) (at_ most : Int) (hb : b.length ≤ 140737488351232) (hu : ∀ x ∈ b, 0 ≤ x ∧ x < 256) :
    Ev (fun k => varint_GetString.f k b at_ most) (getS b at_ most) := by
  refine Ev.congr (fun k => by rw [varint_GetString.f]) (Ev.bind (Get_go b at_ hb hu) ?_)
  unfold getS
  by_cases he : (get7 b at_).2.2 = 0
  · obtain ⟨g0, g1, p, _, _, g2, g3, g4, g5, g6⟩ := get7_ok he
    rw [g2]
    refine Ev.ite_pos rfl ?_
    simp only [if_true]
    by_cases h1 : val7 p > most
    · simp only [if_pos h1]; exact Ev.now _
    · simp only [if_neg h1]
      refine Ev.congr (fun k => by rw [w64 (x := (b.length : Int) - (at_ + (p.length : Int))) (by omega) (by omega)]) ?_
      by_cases h2 : (b.length : Int) - (at_ + p.length) < val7 p
      · simp only [if_pos h2]; exact Ev.now _
      · simp only [if_neg h2]
        refine (Ev.congr (fun k => by rw [w64 (x := at_ + (p.length : Int) + val7 p) (by omega) (by omega)]) ?_)
        exact Ev.ite_pos (by omega) (Ev.ite_pos (by omega) (Ev.ite_pos (by omega) (Ev.now _)))
  · refine Ev.ite_neg he ?_
    simp only [if_neg he]
    exact Ev.now _
theorem list_go (b : List Int) (hb : b.length ≤ 140737488351232) (hu : ∀ x ∈ b, 0 ≤ x ∧ x < 256) (hs : b.length ≤ 17592186000000) (n : Int) (hn : n ≤ 4611686018427387904) :
    ∀ (r : Nat) (i : Int) (last at_ : Int) (acc : List Int), i + r = n → 0 ≤ i → 0 ≤ last → last ≤ 4611686018427387904 → (acc.length : Int) ≤ at_ → at_ ≤ (b.length : Int) →
      Ev (fun k => varint_GetList.l0 k b at_ acc last n i) (getLs b r (decide (i > 0)) last at_ acc) := by
  intro r
  induction r with
  | zero =>
    intro i last at_ acc hi h0 hl hl2 ha hab
    refine Ev.step (f := fun _ => some (acc, at_, 0)) (fun k => ?_) (Ev.now _)
    rw [varint_GetList.l0, if_neg (show ¬ i < n by omega)]
  | succ r ih =>
    intro i last at_ acc hi h0 hl hl2 ha hab
    refine Ev.step (fun k => by rw [varint_GetList.l0, if_pos (show i < n by omega)]) (Ev.bind (Get_go b at_ hb hu) ?_)
    rw [getLs]
    by_cases he : (get7 b at_).2.2 = 0
    · obtain ⟨g0, g1, p, _, _, g2, g3, g4, g5, g6⟩ := get7_ok he
      rw [g2]
      refine Ev.ite_pos rfl ?_
      rw [if_pos rfl]
      have tail : ∀ x50 : Bool, x50 = decide ((decide (i > 0)) = true ∧ val7 p = 0) → Ev (fun k => varint_GetList.j1 k b acc last (val7 p) (at_ + p.length) n i x50) (if (decide (i > 0)) = true ∧ val7 p = 0 then ([], 0, 3) else if val7 p > 4611686018427387904 - last then ([], 0, 4) else getLs b r true (last + val7 p) (at_ + p.length) (acc ++ [last + val7 p])) := by
        intro x50 hx
        by_cases hz : (decide (i > 0)) = true ∧ val7 p = 0
        · rw [if_pos hz]
          refine Ev.step (f := fun _ => some (([] : List Int), 0, 3)) (fun k => ?_) (Ev.now _)
          rw [varint_GetList.j1, if_pos (by rw [hx]; exact decide_eq_true hz)]
        · rw [if_neg hz]
          refine Ev.step (fun k => by rw [varint_GetList.j1, if_neg (by rw [hx, decide_eq_false hz]; decide), w64 (x := 4611686018427387904 - last) (by omega) (by omega)]) ?_
          by_cases hg : val7 p > 4611686018427387904 - last
          · simp only [if_pos hg]; exact Ev.now _
          · simp only [if_neg hg]
            refine (Ev.ite_pos (show acc.length < 17592186044416 by omega) ?_)
            have := ih (i + 1) (last + val7 p) (at_ + p.length) (acc ++ [last + val7 p]) (by omega) (by omega) (by omega) (by omega) (by simp; omega) g6
            rw [decide_eq_true (show i + 1 > 0 by omega)] at this
            refine Ev.congr (fun k => ?_) this
            rw [w64 (by omega) (by omega), w64 (x := i + 1) (by omega) (by omega)]
      by_cases hi0 : i > 0
      · refine Ev.ite_pos hi0 (tail _ ?_)
        by_cases hv : val7 p = 0 <;> simp [hi0, hv]
      · refine Ev.ite_neg hi0 (tail _ ?_)
        simp [hi0]
    · refine Ev.ite_neg he ?_
      rw [if_neg he]
      exact Ev.now _
theorem GetList_go (b : List Int) (at_ most : Int) (hs : b.length ≤ 17592186000000) (hu : ∀ x ∈ b, 0 ≤ x ∧ x < 256) :
    Ev (fun k => varint_GetList.f k b at_ most) (getL b at_ most) := by
  refine Ev.congr (fun k => by rw [varint_GetList.f]) (Ev.bind (Get_go b at_ (by omega) hu) ?_)
  unfold getL
  by_cases he : (get7 b at_).2.2 = 0
  · obtain ⟨g0, g1, p, _, _, g2, g3, g4, g5, g6⟩ := get7_ok he
    rw [g2]
    refine Ev.ite_pos rfl ?_
    rw [if_pos rfl]
    by_cases h1 : val7 p > most
    · simp only [if_pos h1]; exact Ev.now _
    · simp only [if_neg h1]
      exact list_go b (by omega) hu hs (val7 p) g5 (val7 p).toNat 0 0 (at_ + p.length) [] (by omega) (by omega) (by omega) (by omega) (by simp; omega) g6
  · refine Ev.ite_neg he ?_
    rw [if_neg he]
    exact Ev.now _
end Go.Proofs.Ytihfpmociffpeaa.Q
