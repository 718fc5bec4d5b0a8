/- VarintOnce, over lists alone. -/
import Derived.Test.YtihfpmociffpeaaStVarintOnce
import Derived.Test.YtihfpmociffpeaaOQAlive03
import Derived.Test.YtihfpmociffpeaaOQOnce03
namespace Go.Proofs.Ytihfpmociffpeaa.Pure
open Go.RowKit Go.Proofs.YtihfpmociffpeaaW.PrintWords Go.Proofs.YtihfpmociffpeaaW.PrintLast Go.Proofs.YtihfpmociffpeaaW.PrintMore Go.Proofs.Ytihfpmociffpeaa.O Go.Proofs.Ytihfpmociffpeaa.Q
set_option linter.unusedVariables false
set_option linter.unusedSimpArgs false
theorem encL_long : ∀ (l : List Int) (last : Int), l.length ≤ (encL last l).length
  | [], _ => Nat.zero_le _
  | x :: l, last => by
    have := encL_long l x
    have : 0 < (enc7 10 (x - last)).length := enc7_pos 9 (x - last)
    rw [encL, List.length_append, List.length_cons]
    omega
theorem cut_is (b : List Int) (i j : Int) : (b.take (j : Int).toNat).drop (i : Int).toNat = cutB b i j := rfl
theorem go1 (b : List Int) (a m : Int) (hu : ∀ x ∈ b, 0 ≤ x ∧ x < 256) (hb : b.length ≤ 1048576) : Ev (fun k => l03_VarintOnce.j1 k b a m false) true := by
  refine Ev.step (fun k => by rw [l03_VarintOnce.j1, if_neg (by decide)]) (Ev.bind (GetList_go b a m (by omega) hu) ?_)
  by_cases c : (getL b a m).2.2 = 0
  · refine Ev.ite_pos c ?_
    obtain ⟨h0, h1, h2, h3, h4, h5⟩ := getL_once hu c
    have hc := cutB_len b a (getL b a m).2.1 h0 h2
    have hl := encL_long (getL b a m).1 0
    rw [h5, List.length_append] at hc
    have hp := PutList_go [] (getL b a m).1 (by rw [List.length_nil]; omega) (fun x hx => by
      have := okL_pos h3 x hx
      have := h4 x hx
      omega)
    rw [putL, if_pos h3, List.nil_append] at hp
    refine Ev.bind hp (Ev.ite_pos (by omega) (Ev.ite_pos (by omega) (Ev.ite_pos h2 (Ev.ite_pos rfl (Ev.ite_pos h0 (Ev.ite_pos (by omega) ?_))))))
    rw [cut_is, h5, beq_self_eq_true]
    exact Ev.now _
  · exact Ev.ite_neg c (Ev.now _)
theorem go0 (b : List Int) (a m : Int) (hu : ∀ x ∈ b, 0 ≤ x ∧ x < 256) (hb : b.length ≤ 1048576) : Ev (fun k => l03_VarintOnce.j0 k b a m false) true := by
  refine Ev.step (fun k => by rw [l03_VarintOnce.j0, if_neg (by decide)]) (Ev.bind (GetString_go b a m (by omega) hu) ?_)
  by_cases c : (getS b a m).2.2 = 0
  · refine Ev.ite_pos c ?_
    obtain ⟨h0, h1, h2, h3, h4⟩ := getS_once hu c
    have hc := cutB_len b a (getS b a m).2.1 h0 h2
    rw [h4, List.length_append, bytesOf_length] at hc
    have hp : varint_PutString.f ([] : List Int) (getS b a m).1 = some (enc7 10 ((getS b a m).1.size : Int) ++ bytesOf (getS b a m).1) := by
      have he := enc7_length 10 ((getS b a m).1.size : Int)
      unfold varint_PutString.f
      rw [Put_go [] _ (by simp) (by omega), Option.bind_some, show max ((getS b a m).1.size : Int) 0 = ((getS b a m).1.size : Int) by omega, if_pos (by simp only [List.nil_append]; omega), List.nil_append]
    refine Ev.ite_neg (by omega) (Ev.ite_neg (by omega) (Ev.ite_neg (by omega) (Ev.bind_eq hp (Ev.ite_pos h0 (Ev.ite_pos (by omega) (Ev.ite_pos h2 ?_))))))
    rw [cut_is, h4, bne_self_eq_false]
    exact go1 b a m hu hb
  · exact Ev.ite_neg c (go1 b a m hu hb)
theorem VarintOnce : StVarintOnce.Pure := by
  intro U b a m hU hb ha hm
  have hu : ∀ x ∈ b, 0 ≤ x ∧ x < 256 := fun x hx => wf_u8.1 (hb.2.2.2 x hx)
  have hbl : b.length ≤ 1048576 := by have := hb.2.2.1; omega
  refine Ev.rounds (Ev.congr (fun k => rfl) (Ev.bind alive03 (Ev.ite_pos rfl (Ev.bind (Get_go b a (by omega) hu) ?_))))
  by_cases c : (get7 b a).2.2 = 0
  · refine Ev.ite_pos c ?_
    obtain ⟨h0, h1, p, hp, h9, e, hpos, v0, v1, hle⟩ := get7_ok c
    have h5 := get7_once hu c
    have hq : varint_Put.f ([] : List Int) (get7 b a).1 = some (enc7 10 (get7 b a).1) := by
      rw [Put_go [] _ (by simp) (by rw [e]; dsimp only; omega), show max (get7 b a).1 0 = (get7 b a).1 by rw [e]; dsimp only; omega, List.nil_append]
    have hn : a < (get7 b a).2.1 ∧ (get7 b a).2.1 ≤ (b.length : Int) := by rw [e]; dsimp only; omega
    refine Ev.ite_neg (by omega) (Ev.ite_neg (by omega) (Ev.ite_neg (by omega) (Ev.bind_eq hq (Ev.ite_pos h0 (Ev.ite_pos (by omega) (Ev.ite_pos hn.2 ?_))))))
    rw [cut_is, h5, bne_self_eq_false]
    exact go0 b a m hu hbl
  · exact Ev.ite_neg c (go0 b a m hu hbl)
end Go.Proofs.Ytihfpmociffpeaa.Pure
