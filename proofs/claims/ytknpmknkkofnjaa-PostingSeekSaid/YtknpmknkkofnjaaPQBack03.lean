/- What was put is read back: numbers, strings and lists, whatever stands before and behind. -/
import Derived.Test.YtknpmknkkofnjaaPQGets03
import Derived.Test.YtknpmknkkofnjaaPQList03
namespace Go.Proofs.Ytknpmknkkofnjaa.Q
open Go.RowKit Go.Proofs.YtknpmknkkofnjaaW.PrintWords Go.Proofs.YtknpmknkkofnjaaW.PrintLast Go.Proofs.YtknpmknkkofnjaaW.PrintMore Go.Proofs.Ytknpmknkkofnjaa.P
set_option linter.unusedVariables false
set_option linter.unusedSimpArgs false

theorem pre7_enc (k : Nat) : ∀ (x : Int) (t : List Int), 0 ≤ x → x < 128 ^ (k + 1) → pre7 (enc7 (k + 1) x ++ t) = some (enc7 (k + 1) x) := by
  induction k with
  | zero =>
    intro x t h0 h1
    have hn : ¬ x ≥ 128 := by omega
    rw [enc7, if_neg hn]
    simp [pre7]; omega
  | succ k ih =>
    intro x t h0 h1
    rw [enc7]
    by_cases h : x ≥ 128
    · rw [if_pos h, List.cons_append, pre7, if_neg (show ¬ x % 128 + 128 < 128 by omega), ih _ _ (by omega) (by rw [Int.pow_succ] at h1; omega)]
      rfl
    · rw [if_neg h]
      simp [pre7]; omega
theorem val7_enc (k : Nat) : ∀ (x : Int), 0 ≤ x → x < 128 ^ (k + 1) → val7 (enc7 (k + 1) x) = x := by
  induction k with
  | zero =>
    intro x h0 h1
    have hn : ¬ x ≥ 128 := by omega
    rw [enc7, if_neg hn]
    simp [val7]; omega
  | succ k ih =>
    intro x h0 h1
    rw [enc7]
    by_cases h : x ≥ 128
    · rw [if_pos h, val7, ih _ (by omega) (by rw [Int.pow_succ] at h1; omega)]; omega
    · rw [if_neg h]
      simp [val7]; omega
theorem enc7_short (j : Nat) : ∀ (k : Nat) (x : Int), x < 128 ^ (j + 1) → (enc7 k x).length ≤ j + 1 := by
  induction j with
  | zero =>
    intro k x h
    cases k with
    | zero => simp [enc7]
    | succ k => rw [enc7, if_neg (show ¬ x ≥ 128 by omega)]; simp
  | succ j ih =>
    intro k x h
    cases k with
    | zero => simp [enc7]
    | succ k =>
      rw [enc7]
      split
      · have := ih k (x / 128) (by rw [Int.pow_succ] at h; omega)
        simp; omega
      · simp
theorem enc7_last (k : Nat) : ∀ (x : Int), 0 ≤ x → x < 128 ^ (k + 1) → (enc7 (k + 1) x).length > 1 → (enc7 (k + 1) x).getLastD 0 ≠ 0 := by
  induction k with
  | zero =>
    intro x h0 h1 hl
    rw [enc7, if_neg (show ¬ x ≥ 128 by omega)] at hl
    simp at hl
  | succ k ih =>
    intro x h0 h1 hl
    rw [enc7] at hl ⊢
    by_cases h : x ≥ 128
    · rw [if_pos h]
      rw [if_pos h] at hl
      have hx : x / 128 > 0 := by omega
      by_cases h2 : (enc7 (k + 1) (x / 128)).length > 1
      · have := ih (x / 128) (by omega) (by rw [Int.pow_succ] at h1; omega) h2
        cases he : enc7 (k + 1) (x / 128) with
        | nil => rw [he] at h2; simp at h2
        | cons a s => rw [he] at this; simpa using this
      · rw [enc7] at h2 ⊢
        by_cases h3 : x / 128 ≥ 128
        · rw [if_pos h3] at h2 ⊢
          cases k with
          | zero => rw [Int.pow_succ] at h1; omega
          | succ k =>
            rw [enc7] at h2
            split at h2 <;> simp at h2
        · rw [if_neg h3]; simp; omega
    · rw [if_neg h] at hl
      simp at hl
theorem enc7_pos (k : Nat) (x : Int) : 0 < (enc7 (k + 1) x).length := by
  rw [enc7]; split <;> simp
/-- A number that was put is read back. -/
theorem get7_enc (p t : List Int) (x : Int) (h0 : 0 ≤ x) (h1 : x ≤ 4611686018427387904) : get7 (p ++ (enc7 10 x ++ t)) (p.length : Int) = (x, (p.length : Int) + (enc7 10 x).length, 0) := by
  have hx : x < 128 ^ (9 + 1) := Int.lt_of_lt_of_le (show x < 18446744073709551616 by omega) (by decide)
  have hx9 : x < 128 ^ (8 + 1) := Int.lt_of_lt_of_le (show x < 9223372036854775808 by omega) (by decide)
  unfold get7
  have hp : pre7 (enc7 10 x ++ t) = some (enc7 10 x) := pre7_enc 9 x t h0 hx
  have hv : val7 (enc7 10 x) = x := val7_enc 9 x h0 hx
  rw [if_neg (by simp; omega), Int.toNat_natCast, List.drop_left, hp]
  show num7 _ _ = _
  have hs := enc7_short 8 10 x hx9
  unfold num7
  rw [if_neg (by omega), hv, if_neg (by omega), if_neg (fun h => enc7_last 9 x h0 hx h.1 h.2)]
theorem getLs_enc (l : List Int) : ∀ (p t acc : List Int) (more : Bool) (last : Int), 0 ≤ last → okL (if more then last else last - 1) l = true → (∀ x ∈ l, x ≤ 4611686018427387904) →
    getLs (p ++ (encL last l ++ t)) l.length more last (p.length : Int) acc = (acc ++ l, (p.length : Int) + (encL last l).length, 0) := by
  induction l with
  | nil => intro p t acc more last _ _ _; simp [getLs, encL]
  | cons x l ih =>
    intro p t acc more last h0 hok hm
    simp only [okL, Bool.and_eq_true, decide_eq_true_eq] at hok
    have hxm := hm x List.mem_cons_self
    have hlx : last ≤ x := by have := hok.1; split at this <;> omega
    have hg := get7_enc p (encL x l ++ t) (x - last) (by omega) (by omega)
    have e : p ++ (encL last (x :: l) ++ t) = p ++ (enc7 10 (x - last) ++ (encL x l ++ t)) := by simp [encL]
    rw [e, List.length_cons, getLs, hg, if_pos rfl]
    have hz : ¬ (more = true ∧ x - last = 0) := by
      intro h
      have := hok.1
      rw [if_pos h.1] at this; omega
    rw [if_neg hz, if_neg (show ¬ x - last > 4611686018427387904 - last by omega)]
    have := ih (p ++ enc7 10 (x - last)) t (acc ++ [x]) true x (by omega) (by simpa using hok.2) (fun y hy => hm y (List.mem_cons_of_mem _ hy))
    rw [show last + (x - last) = x from by omega]
    have e2 : p ++ (enc7 10 (x - last) ++ (encL x l ++ t)) = (p ++ enc7 10 (x - last)) ++ (encL x l ++ t) := by simp
    have e3 : (p.length : Int) + ((enc7 10 (x - last)).length : Int) = ((p ++ enc7 10 (x - last)).length : Int) := by simp
    rw [e2, e3, this]
    simp [encL]; omega
/-- A list that was put is read back. -/
theorem getL_enc (p t l : List Int) (hl : (l.length : Int) ≤ 4611686018427387904) (hok : okL (-1) l = true) (hm : ∀ x ∈ l, x ≤ 4611686018427387904) (most : Int) (hmost : (l.length : Int) ≤ most) :
    getL (p ++ (enc7 10 (l.length : Int) ++ encL 0 l ++ t)) (p.length : Int) most = (l, (p.length : Int) + (enc7 10 (l.length : Int) ++ encL 0 l).length, 0) := by
  have hg := get7_enc p (encL 0 l ++ t) (l.length : Int) (by omega) hl
  have e : p ++ (enc7 10 (l.length : Int) ++ encL 0 l ++ t) = p ++ (enc7 10 (l.length : Int) ++ (encL 0 l ++ t)) := by simp
  unfold getL
  rw [e, hg, if_pos rfl, if_neg (show ¬ (l.length : Int) > most by omega)]
  have := getLs_enc l (p ++ enc7 10 (l.length : Int)) t [] false 0 (by omega) (by simpa using hok) hm
  have e2 : p ++ (enc7 10 (l.length : Int) ++ (encL 0 l ++ t)) = (p ++ enc7 10 (l.length : Int)) ++ (encL 0 l ++ t) := by simp
  have e3 : (p.length : Int) + ((enc7 10 (l.length : Int)).length : Int) = ((p ++ enc7 10 (l.length : Int)).length : Int) := by simp
  rw [Int.toNat_natCast, e2, e3, this]
  simp; omega
theorem strOfNums_bytesOf (s : ByteArray) : strOfNums (bytesOf s) = s := by
  have h : (strOfNums (bytesOf s)).data = s.data := by
    apply Array.toList_inj.1
    rw [strOfNums_data]
    simp [bytesOf]
    rw [List.map_congr_left (g := id)] 
    · simp
    · intro x _; simp
  cases s
  cases hs : strOfNums (bytesOf _)
  rw [hs] at h
  simp at h
  rw [h]
/-- A string that was put is read back. -/
theorem getS_enc (p t : List Int) (s : ByteArray) (hs : (s.size : Int) ≤ 4611686018427387904) (most : Int) (hmost : (s.size : Int) ≤ most) :
    getS (p ++ (enc7 10 (s.size : Int) ++ bytesOf s ++ t)) (p.length : Int) most = (s, (p.length : Int) + (enc7 10 (s.size : Int) ++ bytesOf s).length, 0) := by
  have hg := get7_enc p (bytesOf s ++ t) (s.size : Int) (by omega) hs
  have e : p ++ (enc7 10 (s.size : Int) ++ bytesOf s ++ t) = p ++ (enc7 10 (s.size : Int) ++ (bytesOf s ++ t)) := by simp
  have hbl : (bytesOf s).length = s.size := bytesOf_length s
  unfold getS
  rw [e, hg]
  simp only [if_true]
  rw [if_neg (show ¬ (s.size : Int) > most by omega), if_neg (by simp; omega)]
  have e2 : p ++ (enc7 10 (s.size : Int) ++ (bytesOf s ++ t)) = (p ++ enc7 10 (s.size : Int)) ++ (bytesOf s ++ t) := by simp
  have h1 : ((p.length : Int) + ((enc7 10 (s.size : Int)).length : Int) + (s.size : Int)).toNat = (p ++ enc7 10 (s.size : Int)).length + s.size := by simp; omega
  have h2 : ((p.length : Int) + ((enc7 10 (s.size : Int)).length : Int)).toNat = (p ++ enc7 10 (s.size : Int)).length := by simp; omega
  rw [h1, h2, e2, List.take_length_add_append, List.drop_left, ← hbl, List.take_left, strOfNums_bytesOf]
  simp; omega
end Go.Proofs.Ytknpmknkkofnjaa.Q
