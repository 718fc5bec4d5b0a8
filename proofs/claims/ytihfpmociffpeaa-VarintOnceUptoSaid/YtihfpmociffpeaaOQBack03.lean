/- What was put is read back: numbers, strings and lists, whatever stands before and behind. -/
import Derived.Test.YtihfpmociffpeaaOQGets03
import Derived.Test.YtihfpmociffpeaaOQList03
import Derived.Test.YtihfpmociffpeaaOQEnc
namespace Go.Proofs.Ytihfpmociffpeaa.Q
open Go.RowKit Go.Proofs.YtihfpmociffpeaaW.PrintWords Go.Proofs.YtihfpmociffpeaaW.PrintLast Go.Proofs.YtihfpmociffpeaaW.PrintMore Go.Proofs.Ytihfpmociffpeaa.O
set_option linter.unusedVariables false
set_option linter.unusedSimpArgs false

theorem getLs_enc (l : List Int) : ∀ (p t acc : List Int) (more : Bool) (last : Int), 0 ≤ last → okL (if more then last else last - 1) l = true → (∀ x ∈ l, x ≤ 4611686018427387904) →
    getLs (p ++ (encL last l ++ t)) l.length more last (p.length : Int) acc = (acc ++ l, (p.length : Int) + (encL last l).length, 0) := by
  induction l with
  | nil => intro p t acc more last _ _ _; simp [getLs, encL]
  | cons x l ih =>
    intro p t acc more last h0 hok hm
    simp only [okL, Bool.and_eq_true, decide_eq_true_eq] at hok
    have hxm := hm x List.mem_cons_self
    have hlx : last ≤ x := by have := hok.1; split at this <;> omega
    have hg := get7_enc p (encL x l ++ t) (x - last) (by omega) (by omega)
    have e : p ++ (encL last (x :: l) ++ t) = p ++ (enc7 10 (x - last) ++ (encL x l ++ t)) := by simp [encL]
    rw [e, List.length_cons, getLs, hg, if_pos rfl]
    have hz : ¬ (more = true ∧ x - last = 0) := by
      intro h
      have := hok.1
      rw [if_pos h.1] at this; omega
    rw [if_neg hz, if_neg (show ¬ x - last > 4611686018427387904 - last by omega)]
    have := ih (p ++ enc7 10 (x - last)) t (acc ++ [x]) true x (by omega) (by simpa using hok.2) (fun y hy => hm y (List.mem_cons_of_mem _ hy))
    rw [show last + (x - last) = x from by omega]
    have e2 : p ++ (enc7 10 (x - last) ++ (encL x l ++ t)) = (p ++ enc7 10 (x - last)) ++ (encL x l ++ t) := by simp
    have e3 : (p.length : Int) + ((enc7 10 (x - last)).length : Int) = ((p ++ enc7 10 (x - last)).length : Int) := by simp
    rw [e2, e3, this]
    simp [encL]; omega
/-- A list that was put is read back. -/
theorem getL_enc (p t l : List Int) (hl : (l.length : Int) ≤ 4611686018427387904) (hok : okL (-1) l = true) (hm : ∀ x ∈ l, x ≤ 4611686018427387904) (most : Int) (hmost : (l.length : Int) ≤ most) :
    getL (p ++ (enc7 10 (l.length : Int) ++ encL 0 l ++ t)) (p.length : Int) most = (l, (p.length : Int) + (enc7 10 (l.length : Int) ++ encL 0 l).length, 0) := by
  have hg := get7_enc p (encL 0 l ++ t) (l.length : Int) (by omega) hl
  have e : p ++ (enc7 10 (l.length : Int) ++ encL 0 l ++ t) = p ++ (enc7 10 (l.length : Int) ++ (encL 0 l ++ t)) := by simp
  unfold getL
  rw [e, hg, if_pos rfl, if_neg (show ¬ (l.length : Int) > most by omega)]
  have := getLs_enc l (p ++ enc7 10 (l.length : Int)) t [] false 0 (by omega) (by simpa using hok) hm
  have e2 : p ++ (enc7 10 (l.length : Int) ++ (encL 0 l ++ t)) = (p ++ enc7 10 (l.length : Int)) ++ (encL 0 l ++ t) := by simp
  have e3 : (p.length : Int) + ((enc7 10 (l.length : Int)).length : Int) = ((p ++ enc7 10 (l.length : Int)).length : Int) := by simp
  rw [Int.toNat_natCast, e2, e3, this]
  simp; omega
theorem strOfNums_bytesOf (s : ByteArray) : strOfNums (bytesOf s) = s := by
  have h : (strOfNums (bytesOf s)).data = s.data := by
    apply Array.toList_inj.1
    rw [strOfNums_data]
    simp [bytesOf]
    rw [List.map_congr_left (g := id)] 
    · simp
    · intro x _; simp
  cases s
  cases hs : strOfNums (bytesOf _)
  rw [hs] at h
  simp at h
  rw [h]
/-- A string that was put is read back. -/
theorem getS_enc (p t : List Int) (s : ByteArray) (hs : (s.size : Int) ≤ 4611686018427387904) (most : Int) (hmost : (s.size : Int) ≤ most) :
    getS (p ++ (enc7 10 (s.size : Int) ++ bytesOf s ++ t)) (p.length : Int) most = (s, (p.length : Int) + (enc7 10 (s.size : Int) ++ bytesOf s).length, 0) := by
  have hg := get7_enc p (bytesOf s ++ t) (s.size : Int) (by omega) hs
  have e : p ++ (enc7 10 (s.size : Int) ++ bytesOf s ++ t) = p ++ (enc7 10 (s.size : Int) ++ (bytesOf s ++ t)) := by simp
  have hbl : (bytesOf s).length = s.size := bytesOf_length s
  unfold getS
  rw [e, hg]
  simp only [if_true]
  rw [if_neg (show ¬ (s.size : Int) > most by omega), if_neg (by simp; omega)]
  have e2 : p ++ (enc7 10 (s.size : Int) ++ (bytesOf s ++ t)) = (p ++ enc7 10 (s.size : Int)) ++ (bytesOf s ++ t) := by simp
  have h1 : ((p.length : Int) + ((enc7 10 (s.size : Int)).length : Int) + (s.size : Int)).toNat = (p ++ enc7 10 (s.size : Int)).length + s.size := by simp; omega
  have h2 : ((p.length : Int) + ((enc7 10 (s.size : Int)).length : Int)).toNat = (p ++ enc7 10 (s.size : Int)).length := by simp; omega
  rw [h1, h2, e2, List.take_length_add_append, List.drop_left, ← hbl, List.take_left, strOfNums_bytesOf]
  simp; omega
end Go.Proofs.Ytihfpmociffpeaa.Q
