/- Each number, string and list has one encoding: what was read is what would be put. -/
import Derived.Test.YtihfpmociffpeaaOQBack03
namespace Go.Proofs.Ytihfpmociffpeaa.Q
open Go.RowKit Go.Proofs.YtihfpmociffpeaaW.PrintWords Go.Proofs.YtihfpmociffpeaaW.PrintLast Go.Proofs.YtihfpmociffpeaaW.PrintMore Go.Proofs.Ytihfpmociffpeaa.O
set_option linter.unusedVariables false
set_option linter.unusedSimpArgs false
/-- The bytes from i up to j. -/
def cutB (b : List Int) (i j : Int) : List Int := (b.take j.toNat).drop i.toNat
theorem cutB_app {b : List Int} {i j k : Int} (h0 : 0 ≤ i) (h1 : i ≤ j) (h2 : j ≤ k) (h3 : k ≤ (b.length : Int)) : cutB b i j ++ cutB b j k = cutB b i k := by
  unfold cutB
  have e1 : b.take j.toNat = (b.take k.toNat).take j.toNat := by rw [List.take_take, Nat.min_eq_left (by omega)]
  have e2 : (b.take k.toNat).drop j.toNat = ((b.take k.toNat).drop i.toNat).drop (j.toNat - i.toNat) := by rw [List.drop_drop, show i.toNat + (j.toNat - i.toNat) = j.toNat by omega]
  rw [e1, List.drop_take, e2, List.take_append_drop]
theorem cutB_self (b : List Int) (i : Int) : cutB b i i = [] := by
  unfold cutB
  rw [List.drop_of_length_le (by rw [List.length_take]; omega)]
theorem cutB_all (b : List Int) : cutB b 0 (b.length : Int) = b := by
  unfold cutB
  rw [Int.toNat_natCast, List.take_of_length_le (Nat.le_refl _)]
  rfl
theorem cutB_len (b : List Int) (i j : Int) (h0 : 0 ≤ i) (h2 : j ≤ (b.length : Int)) : ((cutB b i j).length : Int) = max (j - i) 0 := by
  unfold cutB
  rw [List.length_drop, List.length_take]
  omega
theorem cutB_bytes {b : List Int} (hu : ∀ x ∈ b, 0 ≤ x ∧ x < 256) (i j : Int) : ∀ x ∈ cutB b i j, 0 ≤ x ∧ x < 256 := fun x hx => hu x (List.mem_of_mem_take (List.mem_of_mem_drop hx))
theorem val7_pos : ∀ (l p : List Int), pre7 l = some p → (∀ c ∈ l, 0 ≤ c ∧ c < 256) → p.getLastD 0 ≠ 0 → 0 < val7 p
  | [], p, h, _, _ => absurd h (by simp [pre7])
  | c :: t, p, h, hb, hl => by
    have hc := hb c List.mem_cons_self
    unfold pre7 at h
    split at h
    · cases h
      simp only [val7, List.getLastD_cons, List.getLastD_nil] at hl ⊢
      omega
    · cases hp : pre7 t with
      | none => simp [hp] at h
      | some q =>
        simp [hp] at h
        subst h
        have hq := (pre7_some hp).1
        have hl' : q.getLastD 0 ≠ 0 := by
          cases q with
          | nil => simp at hq
          | cons y s => simpa using hl
        have := val7_pos t q hp (fun x hx => hb x (List.mem_cons_of_mem _ hx)) hl'
        simp only [val7]
        omega
theorem enc_val : ∀ (l p : List Int) (k : Nat), pre7 l = some p → (∀ c ∈ l, 0 ≤ c ∧ c < 256) → (p.length > 1 → p.getLastD 0 ≠ 0) → p.length ≤ k → enc7 k (val7 p) = p
  | [], p, _, h, _, _, _ => absurd h (by simp [pre7])
  | c :: t, p, k, h, hb, hl, hk => by
    have hc := hb c List.mem_cons_self
    have h0 := (pre7_some h).1
    obtain ⟨k, rfl⟩ : ∃ j, k = j + 1 := ⟨k - 1, by omega⟩
    unfold pre7 at h
    split at h
    · rename_i hc2
      cases h
      have e : val7 [c] = c := by simp only [val7]; omega
      rw [e, enc7, if_neg (by omega)]
    · rename_i hc2
      cases hp : pre7 t with
      | none => simp [hp] at h
      | some q =>
        simp [hp] at h
        subst h
        have hq := (pre7_some hp).1
        have hl' : q.getLastD 0 ≠ 0 := by
          have := hl (by rw [List.length_cons]; omega)
          cases q with
          | nil => simp at hq
          | cons y s => simpa using this
        have hpos := val7_pos t q hp (fun x hx => hb x (List.mem_cons_of_mem _ hx)) hl'
        have ih := enc_val t q k hp (fun x hx => hb x (List.mem_cons_of_mem _ hx)) (fun _ => hl') (by rw [List.length_cons] at hk; omega)
        have e : val7 (c :: q) = c % 128 + 128 * val7 q := rfl
        rw [e, enc7, if_pos (by omega), show (c % 128 + 128 * val7 q) % 128 + 128 = c by omega, show (c % 128 + 128 * val7 q) / 128 = val7 q by omega, ih]
/-- A number that was read is what would be put. -/
theorem get7_once {b : List Int} {a : Int} (hu : ∀ x ∈ b, 0 ≤ x ∧ x < 256) (h : (get7 b a).2.2 = 0) : cutB b a (get7 b a).2.1 = enc7 10 (get7 b a).1 := by
  obtain ⟨h0, h1, p, hp, h9, e, hpos, v0, v1, hle⟩ := get7_ok h
  have hl : p.length > 1 → p.getLastD 0 ≠ 0 := by
    intro hl hz
    have e2 : get7 b a = num7 a p := by
      unfold get7
      rw [if_neg (by omega), hp]
    rw [e2, num7, if_neg (by omega), if_neg (by omega), if_pos ⟨hl, hz⟩] at h
    exact absurd h (by decide)
  have hd := (pre7_some hp).2.2.1
  rw [e, enc_val _ p 10 hp (fun x hx => hu x (List.mem_of_mem_drop hx)) hl (by omega)]
  show (b.take (a + p.length).toNat).drop a.toNat = p
  rw [List.drop_take, hd, show (a + (p.length : Int)).toNat - a.toNat = p.length by omega]
  exact List.take_left ..
theorem bytesOf_strOfNums {l : List Int} (h : ∀ x ∈ l, 0 ≤ x ∧ x < 256) : bytesOf (strOfNums l) = l := by
  rw [bytesOf, strOfNums_data, List.map_map]
  conv => rhs; rw [← List.map_id l]
  refine List.map_congr_left fun x hx => ?_
  have := h x hx
  simp
  omega
theorem getS_once {b : List Int} {a m : Int} (hu : ∀ x ∈ b, 0 ≤ x ∧ x < 256) (h : (getS b a m).2.2 = 0) : 0 ≤ a ∧ a < (getS b a m).2.1 ∧ (getS b a m).2.1 ≤ (b.length : Int) ∧ (((getS b a m).1.size : Int) ≤ 4611686018427387904) ∧ cutB b a (getS b a m).2.1 = enc7 10 ((getS b a m).1.size : Int) ++ bytesOf (getS b a m).1 := by
  unfold getS at h ⊢
  dsimp only at h ⊢
  by_cases c : (get7 b a).2.2 = 0
  · rw [if_pos c] at h ⊢
    obtain ⟨h0, h1, p, hp, h9, e, hpos, v0, v1, hle⟩ := get7_ok c
    have e1 := get7_once hu c
    by_cases c2 : (get7 b a).1 > m
    · rw [if_pos c2] at h
      exact absurd h (by decide)
    · rw [if_neg c2] at h ⊢
      by_cases c4 : (b.length : Int) - (get7 b a).2.1 < (get7 b a).1
      · rw [if_pos c4] at h
        exact absurd h (by decide)
      · rw [if_neg c4] at h ⊢
        dsimp only
        have hn : a < (get7 b a).2.1 ∧ 0 ≤ (get7 b a).1 ∧ (get7 b a).1 ≤ 4611686018427387904 := by rw [e]; dsimp only; omega
        have e2 := cutB_app (b := b) (i := a) (j := (get7 b a).2.1) (k := (get7 b a).2.1 + (get7 b a).1) h0 (by omega) (by omega) (by omega)
        have hb := bytesOf_strOfNums (cutB_bytes hu (get7 b a).2.1 ((get7 b a).2.1 + (get7 b a).1))
        have hl := cutB_len b (get7 b a).2.1 ((get7 b a).2.1 + (get7 b a).1) (by omega) (by omega)
        have hsz : ((strOfNums (cutB b (get7 b a).2.1 ((get7 b a).2.1 + (get7 b a).1))).size : Int) = (get7 b a).1 := by
          rw [← bytesOf_length, hb, hl]; omega
        unfold cutB at e2 hb hsz
        refine ⟨h0, by omega, by omega, by omega, ?_⟩
        rw [hsz, hb]
        unfold cutB at e1 ⊢
        rw [← e2, e1]
  · rw [if_neg c] at h
    exact absurd h c
theorem getLs_once {b : List Int} (hu : ∀ x ∈ b, 0 ≤ x ∧ x < 256) : ∀ (r : Nat) (more : Bool) (last a : Int) (acc : List Int), 0 ≤ a → a ≤ (b.length : Int) → 0 ≤ last → (getLs b r more last a acc).2.2 = 0 →
    ∃ l, (getLs b r more last a acc).1 = acc ++ l ∧ l.length = r ∧ a ≤ (getLs b r more last a acc).2.1 ∧ (getLs b r more last a acc).2.1 ≤ (b.length : Int) ∧ cutB b a (getLs b r more last a acc).2.1 = encL last l ∧ okL (if more then last else last - 1) l = true ∧ ∀ x ∈ l, x ≤ 4611686018427387904
  | 0, more, last, a, acc, h0, h1, h2, h => by
    rw [getLs]
    exact ⟨[], by simp, rfl, Int.le_refl _, h1, by rw [cutB_self]; rfl, rfl, fun x hx => absurd hx (by simp)⟩
  | r + 1, more, last, a, acc, h0, h1, h2, h => by
    rw [getLs] at h ⊢
    by_cases c : (get7 b a).2.2 = 0
    · rw [if_pos c] at h ⊢
      obtain ⟨_, _, p, hp, h9, e, hpos, v0, v1, hle⟩ := get7_ok c
      have e1 := get7_once hu c
      have hn : a < (get7 b a).2.1 ∧ (get7 b a).2.1 ≤ (b.length : Int) ∧ 0 ≤ (get7 b a).1 := by rw [e]; dsimp only; omega
      by_cases c1 : more = true ∧ (get7 b a).1 = 0
      · rw [if_pos c1] at h
        exact absurd h (by simp)
      rw [if_neg c1] at h ⊢
      by_cases c2 : (get7 b a).1 > 4611686018427387904 - last
      · rw [if_pos c2] at h
        exact absurd h (by simp)
      rw [if_neg c2] at h ⊢
      obtain ⟨l, q1, q2, q3, q4, q5, q6, q7⟩ := getLs_once hu r true (last + (get7 b a).1) (get7 b a).2.1 (acc ++ [last + (get7 b a).1]) (by omega) (by omega) (by omega) h
      have e2 := cutB_app (b := b) (i := a) (j := (get7 b a).2.1) (k := (getLs b r true (last + (get7 b a).1) (get7 b a).2.1 (acc ++ [last + (get7 b a).1])).2.1) h0 (by omega) q3 q4
      refine ⟨(last + (get7 b a).1) :: l, by rw [q1, List.append_assoc, List.singleton_append], by rw [List.length_cons, q2], by omega, q4, ?_, ?_, ?_⟩
      · rw [← e2, e1, q5, encL, show last + (get7 b a).1 - last = (get7 b a).1 by omega]
      · rw [okL, Bool.and_eq_true, decide_eq_true_iff]
        refine ⟨?_, by simpa using q6⟩
        cases more with
        | false => simp; omega
        | true =>
          have : (get7 b a).1 ≠ 0 := fun hz => c1 ⟨rfl, hz⟩
          simp; omega
      · intro x hx
        rcases List.mem_cons.1 hx with rfl | hx
        · omega
        · exact q7 x hx
    · rw [if_neg c] at h
      exact absurd h c
theorem getL_once {b : List Int} {a m : Int} (hu : ∀ x ∈ b, 0 ≤ x ∧ x < 256) (h : (getL b a m).2.2 = 0) :
    0 ≤ a ∧ a < (getL b a m).2.1 ∧ (getL b a m).2.1 ≤ (b.length : Int) ∧ okL (-1) (getL b a m).1 = true ∧ (∀ x ∈ (getL b a m).1, x ≤ 4611686018427387904) ∧ cutB b a (getL b a m).2.1 = enc7 10 ((getL b a m).1.length : Int) ++ encL 0 (getL b a m).1 := by
  unfold getL at h ⊢
  by_cases c : (get7 b a).2.2 = 0
  · rw [if_pos c] at h ⊢
    obtain ⟨h0, h1, p, hp, h9, e, hpos, v0, v1, hle⟩ := get7_ok c
    have e1 := get7_once hu c
    have hn : a < (get7 b a).2.1 ∧ (get7 b a).2.1 ≤ (b.length : Int) ∧ 0 ≤ (get7 b a).1 := by rw [e]; dsimp only; omega
    by_cases c2 : (get7 b a).1 > m
    · rw [if_pos c2] at h
      exact absurd h (by simp)
    · rw [if_neg c2] at h ⊢
      obtain ⟨l, q1, q2, q3, q4, q5, q6, q7⟩ := getLs_once hu (get7 b a).1.toNat false 0 (get7 b a).2.1 [] (by omega) (by omega) (Int.le_refl _) h
      have e2 := cutB_app (b := b) (i := a) (j := (get7 b a).2.1) (k := (getLs b (get7 b a).1.toNat false 0 (get7 b a).2.1 []).2.1) h0 (by omega) q3 q4
      rw [List.nil_append] at q1
      rw [q1]
      refine ⟨h0, by omega, q4, by simpa using q6, q7, ?_⟩
      rw [← e2, e1, q5, q2, show (((get7 b a).1.toNat : Nat) : Int) = (get7 b a).1 by omega]
  · rw [if_neg c] at h
    exact absurd h c
end Go.Proofs.Ytihfpmociffpeaa.Q
