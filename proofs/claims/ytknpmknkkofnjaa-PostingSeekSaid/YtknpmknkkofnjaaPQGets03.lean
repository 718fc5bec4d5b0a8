/- What the functions that read strings and lists answer: the program's and the document's alike. -/
import Derived.Test.YtknpmknkkofnjaaPx4
import Derived.Test.YtknpmknkkofnjaaPQVar
namespace Go.Proofs.Ytknpmknkkofnjaa.Q
open Go.RowKit Go.Proofs.YtknpmknkkofnjaaW.PrintWords Go.Proofs.YtknpmknkkofnjaaW.PrintLast Go.Proofs.YtknpmknkkofnjaaW.PrintMore Go.Proofs.Ytknpmknkkofnjaa.P
set_option linter.unusedVariables false
set_option linter.unusedSimpArgs false

theorem num7_ok {at_ : Int} {p : List Int} (hp : 0 < p.length) (h : (num7 at_ p).2.2 = 0) : p.length ≤ 9 ∧ val7 p ≤ 4611686018427387904 ∧ (num7 at_ p) = (val7 p, at_ + p.length, 0) := by
  unfold num7 at h ⊢
  by_cases h9 : p.length > 9
  · rw [if_pos h9] at h; cases h
  · rw [if_neg h9] at h ⊢
    by_cases hb : val7 p > 4611686018427387904
    · rw [if_pos hb] at h; cases h
    · rw [if_neg hb] at h ⊢
      by_cases hz : p.length > 1 ∧ p.getLastD 0 = 0
      · rw [if_pos hz] at h; cases h
      · rw [if_neg hz]; exact ⟨by omega, by omega, rfl⟩
/-- Where Get succeeds. -/
theorem get7_ok {b : List Int} {at_ : Int} (h : (get7 b at_).2.2 = 0) :
    0 ≤ at_ ∧ at_ ≤ (b.length : Int) ∧ ∃ p, pre7 (b.drop at_.toNat) = some p ∧ p.length ≤ 9 ∧ get7 b at_ = (val7 p, at_ + p.length, 0) ∧ 0 < p.length ∧ 0 ≤ val7 p ∧ val7 p ≤ 4611686018427387904 ∧ at_ + p.length ≤ (b.length : Int) := by
  unfold get7 at h ⊢
  by_cases h0 : at_ < 0 ∨ at_ > (b.length : Int)
  · rw [if_pos h0] at h; cases h
  · rw [if_neg h0] at h ⊢
    cases hp : pre7 (b.drop at_.toNat) with
    | none => rw [hp] at h; cases h
    | some p =>
      rw [hp] at h
      obtain ⟨g1, g2, g3, g4, g5⟩ := pre7_some hp
      obtain ⟨h1, h2, h3⟩ := num7_ok g1 h
      have hv := val7_range p
      simp at g2
      exact ⟨by omega, by omega, p, rfl, h1, h3, g1, hv.1, h2, by omega⟩
theorem get7_bad {b : List Int} {at_ : Int} (h : (get7 b at_).2.2 ≠ 0) : get7 b at_ = (0, 0, (get7 b at_).2.2) := by
  unfold get7 at h ⊢
  by_cases h0 : at_ < 0 ∨ at_ > (b.length : Int)
  · rw [if_pos h0]
  · rw [if_neg h0] at h ⊢
    cases hp : pre7 (b.drop at_.toNat) with
    | none => rfl
    | some p =>
      rw [hp] at h
      simp only at h ⊢
      unfold num7 at h ⊢
      by_cases h9 : p.length > 9
      · rw [if_pos h9]
      · rw [if_neg h9] at h ⊢
        by_cases hb : val7 p > 4611686018427387904
        · rw [if_pos hb]
        · rw [if_neg hb] at h ⊢
          by_cases hz : p.length > 1 ∧ p.getLastD 0 = 0
          · rw [if_pos hz]
          · rw [if_neg hz] at h; exact absurd rfl h
def getS (b : List Int) (at_ most : Int) : ByteArray × Int × Int :=
  let g := get7 b at_
  if g.2.2 = 0 then (if g.1 > most then (⟨#[]⟩, 0, 4) else if (b.length : Int) - g.2.1 < g.1 then (⟨#[]⟩, 0, 5) else (strOfNums ((b.take (g.2.1 + g.1).toNat).drop g.2.1.toNat), g.2.1 + g.1, 0)) else (⟨#[]⟩, 0, g.2.2)
/-- The elements: so many still, is one there already, the last one, the place, what was read. -/
def getLs (b : List Int) : Nat → Bool → Int → Int → List Int → List Int × Int × Int
  | 0, _, _, at_, acc => (acc, at_, 0)
  | r + 1, more, last, at_, acc =>
    if (get7 b at_).2.2 = 0 then
      (if more = true ∧ (get7 b at_).1 = 0 then ([], 0, 3) else if (get7 b at_).1 > 4611686018427387904 - last then ([], 0, 4) else getLs b r true (last + (get7 b at_).1) (get7 b at_).2.1 (acc ++ [last + (get7 b at_).1]))
    else ([], 0, (get7 b at_).2.2)
def getL (b : List Int) (at_ most : Int) : List Int × Int × Int :=
  if (get7 b at_).2.2 = 0 then (if (get7 b at_).1 > most then ([], 0, 4) else getLs b (get7 b at_).1.toNat false 0 (get7 b at_).2.1 []) else ([], 0, (get7 b at_).2.2)

theorem list_go (b : List Int) (hb : b.length ≤ 140737488351232) (hu : ∀ x ∈ b, 0 ≤ x ∧ x < 256) (hs : b.length ≤ 17592186000000) (n : Int) (hn : n ≤ 4611686018427387904) :
    ∀ (r : Nat) (i : Int) (last at_ : Int) (acc : List Int), i + r = n → 0 ≤ i → 0 ≤ last → last ≤ 4611686018427387904 → (acc.length : Int) ≤ at_ → at_ ≤ (b.length : Int) →
      Ev (fun k => varint_GetList.l0 k b at_ acc last n i) (getLs b r (decide (i > 0)) last at_ acc) := by
  intro r
  induction r with
  | zero =>
    intro i last at_ acc hi h0 hl hl2 ha hab
    refine Ev.step (f := fun _ => some (acc, at_, 0)) (fun k => ?_) (Ev.now _)
    rw [varint_GetList.l0, if_neg (show ¬ i < n by omega)]
  | succ r ih =>
    intro i last at_ acc hi h0 hl hl2 ha hab
    refine Ev.step (fun k => by rw [varint_GetList.l0, if_pos (show i < n by omega)]) (Ev.bind (Get_go b at_ hb hu) ?_)
    rw [getLs]
    by_cases he : (get7 b at_).2.2 = 0
    · obtain ⟨g0, g1, p, _, _, g2, g3, g4, g5, g6⟩ := get7_ok he
      rw [g2]
      refine Ev.ite_pos rfl ?_
      rw [if_pos rfl]
      have tail : ∀ x50 : Bool, x50 = decide ((decide (i > 0)) = true ∧ val7 p = 0) → Ev (fun k => varint_GetList.j1 k b acc last (val7 p) (at_ + p.length) n i x50) (if (decide (i > 0)) = true ∧ val7 p = 0 then ([], 0, 3) else if val7 p > 4611686018427387904 - last then ([], 0, 4) else getLs b r true (last + val7 p) (at_ + p.length) (acc ++ [last + val7 p])) := by
        intro x50 hx
        by_cases hz : (decide (i > 0)) = true ∧ val7 p = 0
        · rw [if_pos hz]
          refine Ev.step (f := fun _ => some (([] : List Int), 0, 3)) (fun k => ?_) (Ev.now _)
          rw [varint_GetList.j1, if_pos (by rw [hx]; exact decide_eq_true hz)]
        · rw [if_neg hz]
          refine Ev.step (fun k => by rw [varint_GetList.j1, if_neg (by rw [hx, decide_eq_false hz]; decide), w64 (x := 4611686018427387904 - last) (by omega) (by omega)]) ?_
          by_cases hg : val7 p > 4611686018427387904 - last
          · simp only [if_pos hg]; exact Ev.now _
          · simp only [if_neg hg]
            refine (Ev.ite_pos (show acc.length < 17592186044416 by omega) ?_)
            have := ih (i + 1) (last + val7 p) (at_ + p.length) (acc ++ [last + val7 p]) (by omega) (by omega) (by omega) (by omega) (by simp; omega) g6
            rw [decide_eq_true (show i + 1 > 0 by omega)] at this
            refine Ev.congr (fun k => ?_) this
            rw [w64 (by omega) (by omega), w64 (x := i + 1) (by omega) (by omega)]
      by_cases hi0 : i > 0
      · refine Ev.ite_pos hi0 (tail _ ?_)
        by_cases hv : val7 p = 0 <;> simp [hi0, hv]
      · refine Ev.ite_neg hi0 (tail _ ?_)
        simp [hi0]
    · refine Ev.ite_neg he ?_
      rw [if_neg he]
      exact Ev.now _
theorem GetList_go (b : List Int) (at_ most : Int) (hs : b.length ≤ 17592186000000) (hu : ∀ x ∈ b, 0 ≤ x ∧ x < 256) :
    Ev (fun k => varint_GetList.f k b at_ most) (getL b at_ most) := by
  refine Ev.congr (fun k => by rw [varint_GetList.f]) (Ev.bind (Get_go b at_ (by omega) hu) ?_)
  unfold getL
  by_cases he : (get7 b at_).2.2 = 0
  · obtain ⟨g0, g1, p, _, _, g2, g3, g4, g5, g6⟩ := get7_ok he
    rw [g2]
    refine Ev.ite_pos rfl ?_
    rw [if_pos rfl]
    by_cases h1 : val7 p > most
    · simp only [if_pos h1]; exact Ev.now _
    · simp only [if_neg h1]
      exact list_go b (by omega) hu hs (val7 p) g5 (val7 p).toNat 0 0 (at_ + p.length) [] (by omega) (by omega) (by omega) (by omega) (by simp; omega) g6
  · refine Ev.ite_neg he ?_
    rw [if_neg he]
    exact Ev.now _
end Go.Proofs.Ytknpmknkkofnjaa.Q
