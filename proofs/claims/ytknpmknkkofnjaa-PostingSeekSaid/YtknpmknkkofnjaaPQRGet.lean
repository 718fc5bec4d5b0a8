/- What the document's Get answers: the same words as the program's. -/
import Derived.Test.YtknpmknkkofnjaaPx12
import Derived.Test.YtknpmknkkofnjaaPQVar
namespace Go.Proofs.Ytknpmknkkofnjaa.Q
open Go.RowKit Go.Proofs.YtknpmknkkofnjaaW.PrintWords Go.Proofs.YtknpmknkkofnjaaW.PrintLast Go.Proofs.YtknpmknkkofnjaaW.PrintMore Go.Proofs.Ytknpmknkkofnjaa.P
set_option linter.unusedVariables false
set_option linter.unusedSimpArgs false

/-! ### Get -/
theorem rget_down (b p r : List Int) (n : Nat) (hb : b.length ≤ 140737488351232) (hu : ∀ x ∈ b, 0 ≤ x ∧ x < 256) (hn : n ≤ b.length) (hd : b.drop n = p ++ r) (h1 : 0 < p.length) (h9 : p.length ≤ 9) :
    ∀ (i : Nat), i ≤ p.length → Ev (fun k => codesearchref03_Get.l1 k b (n : Int) ((n + (p.length - 1) : Nat) : Int) (val7 (p.drop i)) ((n : Int) + (i : Int) - 1)) (num7 (n : Int) p) := by
  have hlen : n + p.length ≤ b.length := by
    have := congrArg List.length hd
    simp at this; omega
  have hget : ∀ i (hi : i < p.length), rd b ((n + i : Nat) : Int) = p[i] := by
    intro i hi
    rw [rd_nat b (n + i) (by omega)]
    have := get_pre hd i hi (by simp; omega)
    rw [List.getElem_drop] at this
    exact this
  have hpu : ∀ x ∈ p, 0 ≤ x ∧ x < 256 := fun x hx => hu x (List.mem_of_mem_drop (i := n) (by rw [hd]; exact List.mem_append_left _ hx))
  intro i
  induction i with
  | zero =>
    intro _
    have hv := val7_range p
    have hle : (128 : Int) ^ p.length ≤ 128 ^ 9 := pow128 h9
    have h9' : (128 : Int) ^ 9 = 9223372036854775808 := by decide
    refine Ev.step (f := fun _ => some (num7 (n : Int) p)) (fun k => ?_) (Ev.now _)
    rw [codesearchref03_Get.l1, if_neg (show ¬ (n : Int) + ((0 : Nat) : Int) - 1 ≥ (n : Int) by omega), List.drop_zero]
    unfold num7
    rw [if_neg (show ¬ p.length > 9 by omega)]
    by_cases hbig : val7 p > 4611686018427387904
    · rw [if_pos hbig, if_pos hbig]
    · rw [if_neg hbig, if_neg hbig]
      by_cases hone : p.length > 1
      · rw [if_pos (show ((n + (p.length - 1) : Nat) : Int) > (n : Int) by omega), if_pos (show (0 : Int) ≤ ((n + (p.length - 1) : Nat) : Int) by omega), if_pos (show ((n + (p.length - 1) : Nat) : Int) < (b.length : Int) by omega), hget _ (by omega)]
        have el : p.getLastD 0 = p[p.length - 1]'(by omega) := by
          rw [List.getLastD_eq_getLast?, List.getLast?_eq_getElem?]
          simp [List.getElem?_eq_getElem (show p.length - 1 < p.length by omega)]
        by_cases hz : p[p.length - 1]'(by omega) = 0
        · rw [if_pos hz, if_pos ⟨by omega, by rw [el]; exact hz⟩]
        · rw [if_neg hz, if_neg (fun h => hz (by rw [← el]; exact h.2)), w64 (by omega) (by omega)]
          congr 3; omega
      · rw [if_neg (show ¬ ((n + (p.length - 1) : Nat) : Int) > (n : Int) by omega), if_neg (fun h => hone h.1), w64 (by omega) (by omega)]
        congr 3; omega
  | succ i ih =>
    intro hi
    have hc := hpu p[i] (List.getElem_mem _)
    have hv := val7_range (p.drop (i + 1))
    have hle : (128 : Int) ^ (p.drop (i + 1)).length ≤ 128 ^ 8 := pow128 (by simp; omega)
    have h8' : (128 : Int) ^ 8 = 72057594037927936 := by decide
    have hx : (n : Int) + ((i + 1 : Nat) : Int) - 1 = ((n + i : Nat) : Int) := by omega
    refine Ev.step (f := fun k => codesearchref03_Get.l1 k b (n : Int) ((n + (p.length - 1) : Nat) : Int) (val7 (p.drop i)) ((n : Int) + (i : Int) - 1)) (fun k => ?_) (ih (by omega))
    rw [codesearchref03_Get.l1, hx, if_pos (show ((n + i : Nat) : Int) ≥ (n : Int) by omega), if_pos (show (0 : Int) ≤ ((n + i : Nat) : Int) by omega), if_pos (show ((n + i : Nat) : Int) < (b.length : Int) by omega), hget i (by omega)]
    rw [w64 (x := p[i]) (by omega) (by omega), Int.tmod_eq_emod_of_nonneg hc.1, w64 (x := val7 _ * 128) (by omega) (by omega), w64 (by omega) (by omega), w64 (x := ((n + i : Nat) : Int) - 1) (by omega) (by omega)]
    rw [drop_cons p i (by omega)]
    simp only [val7]
    rw [show val7 (p.drop (i + 1)) * 128 + p[i] % 128 = p[i] % 128 + 128 * val7 (p.drop (i + 1)) from by omega, show ((n + i : Nat) : Int) - 1 = (n : Int) + (i : Int) - 1 from by omega]
theorem rget_up (b : List Int) (n : Nat) (hb : b.length ≤ 140737488351232) (hn : n ≤ b.length) (p : List Int) (hp : pre7 (b.drop n) = some p) :
    ∀ d (i : Nat), i + d + 1 = p.length → ∀ r, Ev (fun k => codesearchref03_Get.j2 k b (n : Int) ((n + (p.length - 1) : Nat) : Int)) r → Ev (fun k => codesearchref03_Get.l0 k b (n : Int) ((n + i : Nat) : Int)) r := by
  obtain ⟨h1, h2, h3, h4, h5⟩ := pre7_some hp
  have hlen : n + p.length ≤ b.length := by simp at h2; omega
  have hget : ∀ i (hi : i < p.length), rd b ((n + i : Nat) : Int) = p[i] := by
    intro i hi
    rw [rd_nat b (n + i) (by omega)]
    have := get_pre h3 i hi (by simp; omega)
    rw [List.getElem_drop] at this
    exact this
  intro d
  induction d with
  | zero =>
    intro i hi r hr
    have el : p.getLastD 0 = p[i]'(by omega) := by
      rw [List.getLastD_eq_getLast?, List.getLast?_eq_getElem?]
      simp [show p.length - 1 = i from by omega, List.getElem?_eq_getElem (show i < p.length by omega)]
    refine Ev.step (f := fun k => codesearchref03_Get.j2 k b (n : Int) ((n + (p.length - 1) : Nat) : Int)) (fun k => ?_) hr
    rw [codesearchref03_Get.l0, if_pos (show ((n + i : Nat) : Int) < (b.length : Int) by omega), if_pos (show (0 : Int) ≤ ((n + i : Nat) : Int) by omega), hget i (by omega), if_neg (show ¬ p[i]'(by omega) ≥ 128 by rw [← el]; omega)]
    rw [show n + i = n + (p.length - 1) from by omega]
  | succ d ih =>
    intro i hi r hr
    have h128 := h4 i (by omega)
    refine Ev.step (f := fun k => codesearchref03_Get.l0 k b (n : Int) ((n + (i + 1) : Nat) : Int)) (fun k => ?_) (ih (i + 1) (by omega) r hr)
    rw [codesearchref03_Get.l0, if_pos (show ((n + i : Nat) : Int) < (b.length : Int) by omega), if_pos (show (0 : Int) ≤ ((n + i : Nat) : Int) by omega), hget i (by omega), if_pos (show p[i]'(by omega) ≥ 128 from h128), w64 (by omega) (by omega)]
    rw [show ((n + i : Nat) : Int) + 1 = ((n + (i + 1) : Nat) : Int) from by omega]
theorem rget_none (b : List Int) (n : Nat) (hb : b.length ≤ 140737488351232) (hn : n ≤ b.length) (hp : pre7 (b.drop n) = none) :
    ∀ d (i : Nat), i + d = b.length → n ≤ i → Ev (fun k => codesearchref03_Get.l0 k b (n : Int) (i : Int)) (0, 0, 5) := by
  have hall := pre7_none hp
  intro d
  induction d with
  | zero =>
    intro i hi hni
    refine Ev.step (f := fun k => codesearchref03_Get.j2 k b (n : Int) (i : Int)) (fun k => ?_) ?_
    · rw [codesearchref03_Get.l0, if_neg (show ¬ (i : Int) < (b.length : Int) by omega)]
    · refine Ev.step (f := fun _ => some (0, 0, 5)) (fun k => ?_) (Ev.now _)
      rw [codesearchref03_Get.j2, if_pos (show (i : Int) = (b.length : Int) by omega)]
  | succ d ih =>
    intro i hi hni
    have h128 : 128 ≤ rd b (i : Int) := by
      rw [rd_nat b i (by omega)]
      refine hall _ ?_
      have : b[i]'(by omega) = (b.drop n)[i - n]'(by simp; omega) := by
        rw [List.getElem_drop]; congr 1; omega
      rw [this]; exact List.getElem_mem _
    refine Ev.step (f := fun k => codesearchref03_Get.l0 k b (n : Int) ((i + 1 : Nat) : Int)) (fun k => ?_) (ih (i + 1) (by omega) (by omega))
    rw [codesearchref03_Get.l0, if_pos (show (i : Int) < (b.length : Int) by omega), if_pos (show (0 : Int) ≤ (i : Int) by omega), if_pos (show rd b (i : Int) ≥ 128 from h128), w64 (by omega) (by omega)]
    rfl
theorem rGet_go (b : List Int) (at_ : Int) (hb : b.length ≤ 140737488351232) (hu : ∀ x ∈ b, 0 ≤ x ∧ x < 256) :
    Ev (fun k => codesearchref03_Get.f k b at_) (get7 b at_) := by
  unfold get7
  by_cases h0 : at_ < 0
  · rw [if_pos (.inl h0)]
    refine Ev.congr (fun k => by rw [codesearchref03_Get.f, if_pos h0]) (Ev.step (f := fun _ => some (0, 0, 2)) (fun k => ?_) (Ev.now _))
    rw [codesearchref03_Get.j0, if_pos rfl]
  · obtain ⟨n, rfl⟩ := Int.eq_ofNat_of_zero_le (show 0 ≤ at_ by omega)
    by_cases h1 : (n : Int) > (b.length : Int)
    · rw [if_pos (.inr h1)]
      refine Ev.congr (fun k => by rw [codesearchref03_Get.f, if_neg h0, decide_eq_true h1]) (Ev.step (f := fun _ => some (0, 0, 2)) (fun k => ?_) (Ev.now _))
      rw [codesearchref03_Get.j0, if_pos rfl]
    · rw [if_neg (by omega)]
      have hn : n ≤ b.length := by omega
      rw [Int.toNat_natCast]
      refine Ev.congr (fun k => by rw [codesearchref03_Get.f, if_neg h0, decide_eq_false h1]) ?_
      refine Ev.step (f := fun k => codesearchref03_Get.l0 k b (n : Int) (n : Int)) (fun k => ?_) ?_
      · rw [codesearchref03_Get.j0, if_neg (by decide)]
      · cases hp : pre7 (b.drop n) with
        | none => exact rget_none b n hb hn hp (b.length - n) n (by omega) (Nat.le_refl _)
        | some p =>
          obtain ⟨g1, g2, g3, g4, g5⟩ := pre7_some hp
          have hlen : n + p.length ≤ b.length := by simp at g2; omega
          refine rget_up b n hb hn p hp (p.length - 1) 0 (by omega) _ ?_
          show Ev _ (num7 (n : Int) p)
          by_cases h9 : p.length > 9
          · refine Ev.step (f := fun _ => some (num7 (n : Int) p)) (fun k => ?_) (Ev.now _)
            rw [codesearchref03_Get.j2, if_neg (show ¬ ((n + (p.length - 1) : Nat) : Int) = (b.length : Int) by omega), w64 (by omega) (by omega), if_pos (show ((n + (p.length - 1) : Nat) : Int) - (n : Int) > 8 by omega)]
            simp only [num7, if_pos h9]
          · refine Ev.step (f := fun k => codesearchref03_Get.l1 k b (n : Int) ((n + (p.length - 1) : Nat) : Int) 0 ((n + (p.length - 1) : Nat) : Int)) (fun k => ?_) ?_
            · rw [codesearchref03_Get.j2, if_neg (show ¬ ((n + (p.length - 1) : Nat) : Int) = (b.length : Int) by omega), w64 (by omega) (by omega), if_neg (show ¬ ((n + (p.length - 1) : Nat) : Int) - (n : Int) > 8 by omega)]
            · have := rget_down b p _ n hb hu hn g3 g1 (by omega) p.length (Nat.le_refl _)
              rw [List.drop_length, show (n : Int) + (p.length : Int) - 1 = ((n + (p.length - 1) : Nat) : Int) from by omega] at this
              exact this
end Go.Proofs.Ytknpmknkkofnjaa.Q
