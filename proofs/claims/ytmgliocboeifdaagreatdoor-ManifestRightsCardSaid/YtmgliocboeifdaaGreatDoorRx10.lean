-- Written by hp.py, a program of this session, over the kit's print of the translation. Not trusted: Lean checks it.
import Derived.Test.YtmgliocboeifdaaGreatDoorRx0
import Derived.Test.YtmgliocboeifdaaGreatDoorRx9
namespace Go.Proofs.YtmgliocboeifdaaGreatDoor.R
open Go.RowKit Go.Proofs.YtmgliocboeifdaaGreatDoorW.PrintWords Go.Proofs.YtmgliocboeifdaaGreatDoorW.PrintLast Go.Proofs.YtmgliocboeifdaaGreatDoorW.PrintMore
attribute [local go_sem] max2_int min2_int max_two min_two max_three min_three max_four min_four   -- for this text's walks alone
set_option linter.unusedVariables false
set_option linter.unusedSimpArgs false

/-! ### varint_PutList: function 60 -/
mutual
def varint_PutList.l0 : Nat → List Int → List Int → Int → Int → Option (List Int × Int)
|0,_,_,_,_ => none
|k + 1,x0,x1,x11,x12 => if x12 < x11 then (if 0 ≤ x12 then (if x12 < (x1.length : Int) then (if (rd x1 x12) < 0 then (some (([] : List Int),1)) else (if x12 > 0 then (if 0 ≤ (wrap64 (x12 - 1)) then (if (wrap64 (x12 - 1)) < (x1.length : Int) then (if (rd x1 (wrap64 (x12 - 1))) ≥ (rd x1 x12) then (some (([] : List Int),1)) else (varint_PutList.l0 k x0 x1 x11 (wrap64 (x12 + 1)))) else (none)) else (none)) else (varint_PutList.l0 k x0 x1 x11 (wrap64 (x12 + 1))))) else (none)) else (none)) else ((varint_Put.f x0 (x1.length : Int)).bind fun t220 => (varint_PutList.l1 k x1 t220 0 (x1.length : Int) 0))
def varint_PutList.l1 : Nat → List Int → List Int → Int → Int → Int → Option (List Int × Int)
|0,_,_,_,_,_ => none
|k + 1,x1,x7,x8,x42,x43 => if x43 < x42 then (if 0 ≤ x43 then (if x43 < (x1.length : Int) then ((varint_Put.f x7 (wrap64 ((rd x1 x43) - x8))).bind fun t224 => (varint_PutList.l1 k x1 t224 (rd x1 x43) x42 (wrap64 (x43 + 1)))) else (none)) else (none)) else (some (x7,0))
end
def varint_PutList.f (k : Nat) (l0 : List Int) (l1 : List Int) : Option (List Int × Int) := varint_PutList.l0 k l0 l1 (l1.length : Int) 0
theorem varint_PutList.mono_l : ∀ k, (∀ y0 y1 y2 y3, LeO (varint_PutList.l0 k y0 y1 y2 y3) (varint_PutList.l0 (k + 1) y0 y1 y2 y3)) ∧ (∀ y0 y1 y2 y3 y4, LeO (varint_PutList.l1 k y0 y1 y2 y3 y4) (varint_PutList.l1 (k + 1) y0 y1 y2 y3 y4))
|0 => ⟨fun _ _ _ _ r h => by simp [varint_PutList.l0] at h,fun _ _ _ _ _ r h => by simp [varint_PutList.l1] at h⟩
|k + 1 => by
  obtain ⟨ih0,ih1⟩ := varint_PutList.mono_l k
  refine ⟨?_,?_⟩
  ·intro y0 y1 y2 y3
   unfold varint_PutList.l0
   repeat' (with_reducible first|exact ih0 _ _ _ _|exact ih1 _ _ _ _ _|exact LeO.refl _|exact LeO.none _|refine LeO.ite ?_ ?_|refine LeO.bind ?_ (fun _ => ?_))
  ·intro y0 y1 y2 y3 y4
   unfold varint_PutList.l1
   repeat' (with_reducible first|exact ih1 _ _ _ _ _|exact LeO.refl _|exact LeO.none _|refine LeO.ite ?_ ?_|refine LeO.bind ?_ (fun _ => ?_))
theorem varint_PutList.mono : ∀ a0 a1 k, LeO (varint_PutList.f k a0 a1) (varint_PutList.f (k + 1) a0 a1) := by
 intro a0 a1 k
 obtain ⟨ih0,ih1⟩ := varint_PutList.mono_l k
 unfold varint_PutList.f
 repeat' first
  |(with_reducible exact ih0 _ _ _ _)
  |(with_reducible exact ih1 _ _ _ _ _)
  |(with_reducible exact LeO.refl _)
  |(with_reducible exact LeO.none _)
  |(with_reducible refine LeO.ite ?_ ?_)
  |(with_reducible refine LeO.bind ?_ (fun _ => ?_))
  |exact ih0 _ _ _ _
  |exact ih1 _ _ _ _ _
  |exact LeO.none _
  |refine LeO.ite ?_ ?_
  |refine LeO.bind ?_ (fun _ => ?_)
set_option maxHeartbeats 4000000 in
set_option maxRecDepth 100000 in
theorem varint_PutList.calls (k : Nat) (A0 : Option Addr) (c0 : Nat) (l0 : List Int) (A1 : Option Addr) (c1 : Nat) (l1 : List Int) (r1 : List Int) (r2 : Int) (w : World) (hr0 : Kd.C (Kd.int .u8) w A0 l0.length l0) (hc0 : l0.length ≤ c0) (hr1 : Kd.C (Kd.int .i64) w A1 l1.length l1) (hc1 : l1.length ≤ c1) (h : varint_PutList.f k l0 l1 = some (r1, r2)) :
  Calls Tryz.prog 60 #[.slice A0 l0.length c0,.slice A1 l1.length c1] w fun e w' => ∃ v0_ : Value,e = .returned (.tuple #[v0_,.int .i64 r2]) ∧ Kd.R (Kd.int .u8) 5 w' w.heap.size (fun _ => True) v0_ r1 ∧ Below w.heap.size w w' := by
 have HR0 := aK hr0
 have HC0 := aK hc0
 clear hr0 hc0
 have HR1 := aK hr1
 have HC1 := aK hc1
 clear hr1 hc1
 have HB := aK (Below.refl w.heap.size w)
 have H : (varint_PutList.l0 k l0 l1 (l1.length : Int) 0) = some (r1,r2) := h
 clear h
 have H' := aK H
 clear H
 go_enter Tryz.func60,Tryz.ntmps60
 go_wp2
 repeat (go_quiet (fail);try go_wp2)
 go_loopg [12] k (fun kq v12 w' => ∃ (x12_1 : Int),v12 = .int .i64 x12_1 ∧ Aside0 (varint_PutList.l0 kq l0 l1 (l1.length : Int) x12_1 = some (r1,r2)) ∧ Aside0 (kq ≤ k) ∧ Aside0 (Below w.heap.size w w'))
 case atStart => exact ⟨(0),(by first|rfl|(simp;done)|(simp [*];done)),H',⟨Nat.le_refl _⟩,⟨bM HB.out⟩⟩
 case round =>
  clear H'
  try clear p2
  obtain ⟨x12_1,rfl,HA,HK1,HB⟩ := hrel
  cases gk with
 |zero => exact absurd HA.out (by simp [varint_PutList.l0])
 |succ k1 =>
   have H := HA.out
   clear HA
   simp only [varint_PutList.l0] at H
   by_cases c3 : x12_1 < (l1.length : Int)
   ·rw [if_pos c3] at H
    have c3b0 := decide_eq_true c3
    clear c3
    obtain ⟨c4,H⟩ := iS H
    have c4b0 := decide_eq_true c4
    clear c4
    obtain ⟨c5,H⟩ := iS H
    have c5b0 := decide_eq_true c5
    clear c5
    by_cases c6 : (rd l1 x12_1) < 0
    ·rw [if_pos c6] at H
     have c6b0 := decide_eq_true c6
     clear c6
     simp only [Option.some.injEq,Prod.mk.injEq] at H
     obtain ⟨rfl,rfl⟩ := H
     have p217 : 0 ≤ (x12_1 : Int) := of_decide_eq_true (by assumption)
     have q217 : x12_1 < (l1.length : Int) := of_decide_eq_true (by assumption)
     obtain ⟨ad217,e217,hx217_0⟩ := Kd.at_int HR1.out x12_1 p217 q217
     cases e217
     replace hx217_0 := xM HB hx217_0
     replace p217 := eq_true p217
     replace q217 := eq_true q217
     go_wp2
     repeat (go_quiet (fail);try go_wp2)
     go_ret2
     exact ⟨_,by first|rfl|(simp [errW_none,errW_some] <;> rfl)|(simp [*,errW_none,errW_some] <;> rfl),by first|exact Kd.R_nil _ _ _ _ _|exact Kd.N_nil _ _ _ _ _|exact Kd.V_nil _ _ _ _ _|exact Kd.Q_nil _ _ _ _ _|exact Kd.S_nil _ _ _ _ _,bM HB.out⟩
    ·rw [if_neg c6] at H
     have c6b0 := decide_eq_false c6
     clear c6
     by_cases c7 : x12_1 > 0
     ·rw [if_pos c7] at H
      have c7b0 := decide_eq_true c7
      clear c7
      obtain ⟨ji8,hji8⟩ : ∃ j_ : Int,(wrap64 (x12_1 - 1)) = j_ := ⟨_,rfl⟩
      replace H : (if 0 ≤ (ji8) then (if (ji8) < (l1.length : Int) then (if (rd l1 (ji8)) ≥ (rd l1 x12_1) then (some (([] : List Int),1)) else (varint_PutList.l0 k1 l0 l1 (l1.length : Int) (wrap64 (x12_1 + 1)))) else (none)) else (none)) = some (r1,r2) := by first|(rw [hji8] at H;exact H)|(simp only [hji8] at H ⊢;exact H)
      have hji8w : (IntKind.i64.wrap (x12_1 - 1)) = ji8 := (i64_w _).trans hji8
      obtain ⟨c9,H⟩ := iS H
      have c9b0 := decide_eq_true c9
      clear c9
      obtain ⟨c10,H⟩ := iS H
      have c10b0 := decide_eq_true c10
      clear c10
      by_cases c11 : (rd l1 (ji8)) ≥ (rd l1 x12_1)
      ·rw [if_pos c11] at H
       have c11b0 := decide_eq_true c11
       clear c11
       simp only [Option.some.injEq,Prod.mk.injEq] at H
       obtain ⟨rfl,rfl⟩ := H
       have p217 : 0 ≤ (x12_1 : Int) := of_decide_eq_true (by assumption)
       have q217 : x12_1 < (l1.length : Int) := of_decide_eq_true (by assumption)
       obtain ⟨ad217,e217,hx217_0⟩ := Kd.at_int HR1.out x12_1 p217 q217
       cases e217
       replace hx217_0 := xM HB hx217_0
       replace p217 := eq_true p217
       replace q217 := eq_true q217
       have p218 : 0 ≤ ((ji8) : Int) := of_decide_eq_true (by assumption)
       have q218 : (ji8) < (l1.length : Int) := of_decide_eq_true (by assumption)
       obtain ⟨ad218,e218,hx218_0⟩ := Kd.at_int HR1.out (ji8) p218 q218
       obtain rfl : ad217 = ad218 := (by injection e218)
       replace hx218_0 := xM HB hx218_0
       replace p218 := eq_true p218
       replace q218 := eq_true q218
       have p219 : 0 ≤ (x12_1 : Int) := of_decide_eq_true (by assumption)
       have q219 : x12_1 < (l1.length : Int) := of_decide_eq_true (by assumption)
       obtain ⟨ad219,e219,hx219_0⟩ := Kd.at_int HR1.out x12_1 p219 q219
       obtain rfl : ad217 = ad219 := (by injection e219)
       replace hx219_0 := xM HB hx219_0
       replace p219 := eq_true p219
       replace q219 := eq_true q219
       go_wp2
       repeat (go_quiet (fail);try go_wp2)
       go_ret2
       exact ⟨_,by first|rfl|(simp [errW_none,errW_some] <;> rfl)|(simp only [← hji8];first|rfl|(simp [errW_none,errW_some] <;> rfl))|(simp [*,errW_none,errW_some] <;> rfl),by first|exact Kd.R_nil _ _ _ _ _|exact Kd.N_nil _ _ _ _ _|exact Kd.V_nil _ _ _ _ _|exact Kd.Q_nil _ _ _ _ _|exact Kd.S_nil _ _ _ _ _,bM HB.out⟩
      ·rw [if_neg c11] at H
       have c11b0 := decide_eq_false c11
       clear c11
       have H' := aK H
       clear H
       have p217 : 0 ≤ (x12_1 : Int) := of_decide_eq_true (by assumption)
       have q217 : x12_1 < (l1.length : Int) := of_decide_eq_true (by assumption)
       obtain ⟨ad217,e217,hx217_0⟩ := Kd.at_int HR1.out x12_1 p217 q217
       cases e217
       replace hx217_0 := xM HB hx217_0
       replace p217 := eq_true p217
       replace q217 := eq_true q217
       have p218 : 0 ≤ ((ji8) : Int) := of_decide_eq_true (by assumption)
       have q218 : (ji8) < (l1.length : Int) := of_decide_eq_true (by assumption)
       obtain ⟨ad218,e218,hx218_0⟩ := Kd.at_int HR1.out (ji8) p218 q218
       obtain rfl : ad217 = ad218 := (by injection e218)
       replace hx218_0 := xM HB hx218_0
       replace p218 := eq_true p218
       replace q218 := eq_true q218
       have p219 : 0 ≤ (x12_1 : Int) := of_decide_eq_true (by assumption)
       have q219 : x12_1 < (l1.length : Int) := of_decide_eq_true (by assumption)
       obtain ⟨ad219,e219,hx219_0⟩ := Kd.at_int HR1.out x12_1 p219 q219
       obtain rfl : ad217 = ad219 := (by injection e219)
       replace hx219_0 := xM HB hx219_0
       replace p219 := eq_true p219
       replace q219 := eq_true q219
       go_wp2
       repeat (go_quiet (fail);try go_wp2)
       go_roundg k1
       case measure => have := HK1.out;omega
       case rel => exact ⟨(wrap64 (x12_1 + 1)),(by first|rfl|(simp;done)|(simp [*];done)),H',⟨by have := HK1.out;omega⟩,⟨bM HB.out⟩⟩
     ·rw [if_neg c7] at H
      have c7b0 := decide_eq_false c7
      clear c7
      have H' := aK H
      clear H
      have p217 : 0 ≤ (x12_1 : Int) := of_decide_eq_true (by assumption)
      have q217 : x12_1 < (l1.length : Int) := of_decide_eq_true (by assumption)
      obtain ⟨ad217,e217,hx217_0⟩ := Kd.at_int HR1.out x12_1 p217 q217
      cases e217
      replace hx217_0 := xM HB hx217_0
      replace p217 := eq_true p217
      replace q217 := eq_true q217
      go_wp2
      repeat (go_quiet (fail);try go_wp2)
      go_roundg k1
      case measure => have := HK1.out;omega
      case rel => exact ⟨(wrap64 (x12_1 + 1)),(by first|rfl|(simp;done)|(simp [*];done)),H',⟨by have := HK1.out;omega⟩,⟨bM HB.out⟩⟩
   ·rw [if_neg c3] at H
    have c3b0 := decide_eq_false c3
    clear c3
    replace H := Option.bind_eq_some_iff.mp H
    obtain ⟨t220,A120,H⟩ := H
    have A12 := aK A120
    clear A120
    have H' := aK H
    clear H
    go_wp2_with (first|(go_at_call 41;(with_reducible refine (varint_Put.calls _ _ l0 (l1.length : Int) t220 _ ?side1 ?side2 A12.out).mono ?_);(case side1 => exact cM (Kd.C_below HR0.out HB.out));(case side2 => exact HC0.out);rintro e w13 ⟨v221,rfl,ho0,hb⟩;have HO222 := aK (Kd.R_lower ho0 (below_size (bM HB.out)));replace HB := aK (below_step (bM HB.out) hb);(try clear hb);(try clear hk);(try clear ho0)))
    repeat (go_quiet (first|(go_at_call 41;(with_reducible refine (varint_Put.calls _ _ l0 (l1.length : Int) t220 _ ?side1 ?side2 A12.out).mono ?_);(case side1 => exact cM (Kd.C_below HR0.out HB.out));(case side2 => exact HC0.out);rintro e w13 ⟨v221,rfl,ho0,hb⟩;have HO222 := aK (Kd.R_lower ho0 (below_size (bM HB.out)));replace HB := aK (below_step (bM HB.out) hb);(try clear hb);(try clear hk);(try clear ho0)));try go_wp2_with (first|(go_at_call 41;(with_reducible refine (varint_Put.calls _ _ l0 (l1.length : Int) t220 _ ?side1 ?side2 A12.out).mono ?_);(case side1 => exact cM (Kd.C_below HR0.out HB.out));(case side2 => exact HC0.out);rintro e w13 ⟨v221,rfl,ho0,hb⟩;have HO222 := aK (Kd.R_lower ho0 (below_size (bM HB.out)));replace HB := aK (below_step (bM HB.out) hb);(try clear hb);(try clear hk);(try clear ho0))))
    go_loopg [7,8,43] k1 (fun kq v7 v8 v43 w' => ∃ (x7_2 : List Int) (x8_2 : Int) (x43_2 : Int),v8 = .int .i64 x8_2 ∧ v43 = .int .i64 x43_2 ∧ Aside0 (varint_PutList.l1 kq l1 x7_2 x8_2 (l1.length : Int) x43_2 = some (r1,r2)) ∧ Aside0 (kq ≤ k1) ∧ Aside0 (Kd.R (Kd.int .u8) 5 w' w.heap.size (fun _ => True) v7 x7_2) ∧ Aside0 (Below w.heap.size w w'))
    case atStart => exact ⟨(t220),(0),(0),(by first|rfl|(simp;done)|(simp [*];done)),(by first|rfl|(simp;done)|(simp [*];done)),H',⟨Nat.le_refl _⟩,⟨rM HO222.out⟩,⟨bM HB.out⟩⟩
    case round =>
     clear H'
     try clear p2
     try clear q2
     try clear hx2
     try clear c3
     try clear c3b0
     try clear p6
     try clear hx217_0
     try clear hx218_0
     try clear hx219_0
     try clear p2
     try clear p217
     try clear p218
     try clear p219
     try clear q217
     try clear q218
     try clear q219
     obtain ⟨x7_2,x8_2,x43_2,rfl,rfl,HA,HK2,HO_7,HB⟩ := hrel
     cases gk with
    |zero => exact absurd HA.out (by simp [varint_PutList.l1])
    |succ k2 =>
      have H := HA.out
      clear HA
      simp only [varint_PutList.l1] at H
      by_cases c14 : x43_2 < (l1.length : Int)
      ·rw [if_pos c14] at H
       have c14b0 := decide_eq_true c14
       clear c14
       obtain ⟨c15,H⟩ := iS H
       have c15b0 := decide_eq_true c15
       clear c15
       obtain ⟨c16,H⟩ := iS H
       have c16b0 := decide_eq_true c16
       clear c16
       replace H := Option.bind_eq_some_iff.mp H
       obtain ⟨t224,A170,H⟩ := H
       have A17 := aK A170
       clear A170
       have H' := aK H
       clear H
       have p223 : 0 ≤ (x43_2 : Int) := of_decide_eq_true (by assumption)
       have q223 : x43_2 < (l1.length : Int) := of_decide_eq_true (by assumption)
       obtain ⟨ad223,e223,hx223_0⟩ := Kd.at_int HR1.out x43_2 p223 q223
       cases e223
       replace hx223_0 := xM HB hx223_0
       replace p223 := eq_true p223
       replace q223 := eq_true q223
       obtain ⟨Ao18,co18,eo18⟩ := Kd.R_slice HO_7.out
       subst eo18
       go_wp2_with (first|(go_at_call 41;(with_reducible refine (varint_Put.calls _ _ x7_2 (wrap64 ((rd l1 x43_2) - x8_2)) t224 _ ?side1 ?side2 A17.out).mono ?_);(case side1 => exact cM (Kd.R_reads' HO_7.out).2.2);(case side2 => exact (Kd.R_reads' HO_7.out).2.1);rintro e w19 ⟨v225,rfl,ho0,hb⟩;have HO226 := aK (Kd.R_lower (Kd.R_new' ho0 (Kd.R_lt (rM HO_7.out))) (below_size (bM HB.out)));replace HO_7 := aK (Kd.R_elder' (rM HO_7.out) (Kd.R_base ho0) hb);replace HB := aK (below_step (bM HB.out) hb);(try clear hb);(try clear hk);(try clear ho0);have p227 : 0 ≤ (x43_2 : Int) := of_decide_eq_true (by assumption);have q227 : x43_2 < (l1.length : Int) := of_decide_eq_true (by assumption);obtain ⟨ad227,e227,hx227_0⟩ := Kd.at_int HR1.out x43_2 p227 q227;obtain rfl : ad223 = ad227 := (by injection e227);replace hx227_0 := xM HB hx227_0;replace p227 := eq_true p227;replace q227 := eq_true q227))
       repeat (go_quiet (first|(go_at_call 41;(with_reducible refine (varint_Put.calls _ _ x7_2 (wrap64 ((rd l1 x43_2) - x8_2)) t224 _ ?side1 ?side2 A17.out).mono ?_);(case side1 => exact cM (Kd.R_reads' HO_7.out).2.2);(case side2 => exact (Kd.R_reads' HO_7.out).2.1);rintro e w19 ⟨v225,rfl,ho0,hb⟩;have HO226 := aK (Kd.R_lower (Kd.R_new' ho0 (Kd.R_lt (rM HO_7.out))) (below_size (bM HB.out)));replace HO_7 := aK (Kd.R_elder' (rM HO_7.out) (Kd.R_base ho0) hb);replace HB := aK (below_step (bM HB.out) hb);(try clear hb);(try clear hk);(try clear ho0);have p227 : 0 ≤ (x43_2 : Int) := of_decide_eq_true (by assumption);have q227 : x43_2 < (l1.length : Int) := of_decide_eq_true (by assumption);obtain ⟨ad227,e227,hx227_0⟩ := Kd.at_int HR1.out x43_2 p227 q227;obtain rfl : ad223 = ad227 := (by injection e227);replace hx227_0 := xM HB hx227_0;replace p227 := eq_true p227;replace q227 := eq_true q227));try go_wp2_with (first|(go_at_call 41;(with_reducible refine (varint_Put.calls _ _ x7_2 (wrap64 ((rd l1 x43_2) - x8_2)) t224 _ ?side1 ?side2 A17.out).mono ?_);(case side1 => exact cM (Kd.R_reads' HO_7.out).2.2);(case side2 => exact (Kd.R_reads' HO_7.out).2.1);rintro e w19 ⟨v225,rfl,ho0,hb⟩;have HO226 := aK (Kd.R_lower (Kd.R_new' ho0 (Kd.R_lt (rM HO_7.out))) (below_size (bM HB.out)));replace HO_7 := aK (Kd.R_elder' (rM HO_7.out) (Kd.R_base ho0) hb);replace HB := aK (below_step (bM HB.out) hb);(try clear hb);(try clear hk);(try clear ho0);have p227 : 0 ≤ (x43_2 : Int) := of_decide_eq_true (by assumption);have q227 : x43_2 < (l1.length : Int) := of_decide_eq_true (by assumption);obtain ⟨ad227,e227,hx227_0⟩ := Kd.at_int HR1.out x43_2 p227 q227;obtain rfl : ad223 = ad227 := (by injection e227);replace hx227_0 := xM HB hx227_0;replace p227 := eq_true p227;replace q227 := eq_true q227)))
       go_roundg k2
       case measure => have := HK1.out;have := HK2.out;omega
       case rel => exact ⟨(t224),(rd l1 x43_2),(wrap64 (x43_2 + 1)),(by first|rfl|(simp;done)|(simp [*];done)),(by first|rfl|(simp;done)|(simp [*];done)),H',⟨by have := HK1.out;have := HK2.out;omega⟩,⟨rM (Kd.R_mono HO226.out (fun _ hk => trivial))⟩,⟨bM HB.out⟩⟩
      ·rw [if_neg c14] at H
       have c14b0 := decide_eq_false c14
       clear c14
       simp only [Option.some.injEq,Prod.mk.injEq] at H
       obtain ⟨rfl,rfl⟩ := H
       go_wp2
       repeat (go_quiet (fail);try go_wp2)
       go_ret2
       exact ⟨_,by first|rfl|(simp [errW_none,errW_some] <;> rfl)|(simp [*,errW_none,errW_some] <;> rfl),rM HO_7.out,bM HB.out⟩

/-! ### manifest_list: function 42 -/
def manifest_list.f (k : Nat) (l0 : List Int) (l1 : List Int) : Option (List Int) := (varint_PutList.f k l0 l1).bind fun bt228 => (if bt228.2 = 0 then (some bt228.1) else ((varint_Put.f l0 0).bind fun t232 => (some t232)))
theorem manifest_list.mono : ∀ a0 a1 k, LeO (manifest_list.f k a0 a1) (manifest_list.f (k + 1) a0 a1) := by
 intro a0 a1 k
 unfold manifest_list.f
 repeat' first
  |(with_reducible exact varint_PutList.mono _ _ _)
  |(with_reducible exact LeO.refl _)
  |(with_reducible exact LeO.none _)
  |(with_reducible refine LeO.ite ?_ ?_)
  |(with_reducible refine LeO.bind ?_ (fun _ => ?_))
  |exact varint_PutList.mono _ _ _
  |exact LeO.none _
  |refine LeO.ite ?_ ?_
  |refine LeO.bind ?_ (fun _ => ?_)
set_option maxHeartbeats 4000000 in
set_option maxRecDepth 100000 in
theorem manifest_list.calls (k : Nat) (A0 : Option Addr) (c0 : Nat) (l0 : List Int) (A1 : Option Addr) (c1 : Nat) (l1 : List Int) (r : List Int) (w : World) (hr0 : Kd.C (Kd.int .u8) w A0 l0.length l0) (hc0 : l0.length ≤ c0) (hr1 : Kd.C (Kd.int .i64) w A1 l1.length l1) (hc1 : l1.length ≤ c1) (h : manifest_list.f k l0 l1 = some r) :
  Calls Tryz.prog 42 #[.slice A0 l0.length c0,.slice A1 l1.length c1] w fun e w' => ∃ v0_ : Value,e = .returned (v0_) ∧ Kd.R (Kd.int .u8) 5 w' w.heap.size (fun _ => True) v0_ r ∧ Below w.heap.size w w' := by
 have HR0 := aK hr0
 have HC0 := aK hc0
 clear hr0 hc0
 have HR1 := aK hr1
 have HC1 := aK hc1
 clear hr1 hc1
 have HB := aK (Below.refl w.heap.size w)
 have H : ((varint_PutList.f k l0 l1).bind fun bt228 => (if bt228.2 = 0 then (some bt228.1) else ((varint_Put.f l0 0).bind fun t232 => (some t232)))) = some r := h
 clear h
 replace H := Option.bind_eq_some_iff.mp H
 obtain ⟨⟨t228,t229⟩,A30,H⟩ := H
 replace H : (if t229 = 0 then (some t228) else ((varint_Put.f l0 0).bind fun t232 => (some t232))) = some r := H
 have A3 := aK A30
 clear A30
 by_cases c4 : t229 = 0
 ·rw [if_pos c4] at H
  have c4b0 := beq_iff_eq.mpr c4
  have c4b1 := bne_eq_false_iff_eq.mpr c4
  clear c4
  obtain rfl := Option.some.inj H
  go_enter Tryz.func42,Tryz.ntmps42
  go_wp2_with (first|((with_reducible refine gate_callee (f := 60) rfl ?_);refine goesL_ (some 10) rfl rfl Tryz.func60 (by kernel_rfl) rfl #[.slice A0 l0.length c0,.slice A1 l1.length c1] rfl (by (try simp only [List.map_toArray,List.map_cons,List.map_nil]);first|done|rfl|(simp only [List.length_drop,List.length_take];rfl)) ?_;(with_reducible refine (varint_PutList.calls k _ _ l0 _ _ l1 t228 t229 _ ?side1 ?side2 ?side3 ?side4 A3.out).mono ?_);(case side1 => exact cM HR0.out);(case side2 => exact HC0.out);(case side3 => exact cM HR1.out);(case side4 => exact HC1.out);rintro e w5 ⟨v230,rfl,ho0,hb⟩;refine ⟨_,rfl,?_⟩;have HO231 := aK (Kd.R_lower ho0 (below_size (bM HB.out)));replace HB := aK (below_step (bM HB.out) hb);(try clear hb);(try clear hk);(try clear ho0)))
  go_ret
  exact ⟨_,by first|rfl|(simp [errW_none,errW_some] <;> rfl)|(simp [*,errW_none,errW_some] <;> rfl),rM HO231.out,bM HB.out⟩
 ·rw [if_neg c4] at H
  have c4b0 := beq_eq_false_iff_ne.mpr c4
  have c4b1 := bne_iff_ne.mpr c4
  replace H := Option.bind_eq_some_iff.mp H
  obtain ⟨t232,A60,H⟩ := H
  have A6 := aK A60
  clear A60
  obtain rfl := Option.some.inj H
  go_enter Tryz.func42,Tryz.ntmps42
  go_wp2_with (first|((with_reducible refine gate_callee (f := 60) rfl ?_);refine goesL_ (some 10) rfl rfl Tryz.func60 (by kernel_rfl) rfl #[.slice A0 l0.length c0,.slice A1 l1.length c1] rfl (by (try simp only [List.map_toArray,List.map_cons,List.map_nil]);first|done|rfl|(simp only [List.length_drop,List.length_take];rfl)) ?_;(with_reducible refine (varint_PutList.calls k _ _ l0 _ _ l1 t228 t229 _ ?side1 ?side2 ?side3 ?side4 A3.out).mono ?_);(case side1 => exact cM HR0.out);(case side2 => exact HC0.out);(case side3 => exact cM HR1.out);(case side4 => exact HC1.out);rintro e w7 ⟨v230,rfl,ho0,hb⟩;refine ⟨_,rfl,?_⟩;have HO231 := aK (Kd.R_lower ho0 (below_size (bM HB.out)));replace HB := aK (below_step (bM HB.out) hb);(try clear hb);(try clear hk);(try clear ho0))|((with_reducible refine gate_callee (f := 41) rfl ?_);refine goesL_ (some 16) rfl rfl Tryz.func41 (by kernel_rfl) rfl #[.slice A0 l0.length c0,.int .i64 0] rfl (by (try simp only [List.map_toArray,List.map_cons,List.map_nil]);first|done|rfl|(simp only [List.length_drop,List.length_take];rfl)) ?_;(with_reducible refine (varint_Put.calls _ _ l0 0 t232 _ ?side1 ?side2 A6.out).mono ?_);(case side1 => exact cM (Kd.C_below HR0.out HB.out));(case side2 => exact HC0.out);rintro e w8 ⟨v233,rfl,ho0,hb⟩;refine ⟨_,rfl,?_⟩;have HO234 := aK (Kd.R_lower (Kd.R_new' ho0 (Kd.R_lt (rM HO231.out))) (below_size (bM HB.out)));replace HB := aK (below_step (bM HB.out) hb);(try clear hb);(try clear hk);(try clear ho0)))
  go_ret
  exact ⟨_,by first|rfl|(simp [errW_none,errW_some] <;> rfl)|(simp [*,errW_none,errW_some] <;> rfl),rM (Kd.R_mono HO234.out (fun _ hk => trivial)),bM HB.out⟩

/-! ### varint_PutString: function 43 -/
def varint_PutString.f (l0 : List Int) (a1 : ByteArray) : Option (List Int) := (varint_Put.f l0 (a1.size : Int)).bind fun t235 => (if t235.length + a1.size < 140737488355328 then (some (t235 ++ bytesOf a1)) else (none))
set_option maxHeartbeats 4000000 in
set_option maxRecDepth 100000 in
theorem varint_PutString.calls (A0 : Option Addr) (c0 : Nat) (l0 : List Int) (a1 : ByteArray) (r : List Int) (w : World) (hr0 : Kd.C (Kd.int .u8) w A0 l0.length l0) (hc0 : l0.length ≤ c0) (h : varint_PutString.f l0 a1 = some r) :
  Calls Tryz.prog 43 #[.slice A0 l0.length c0,.string a1] w fun e w' => ∃ v0_ : Value,e = .returned (v0_) ∧ Kd.R (Kd.int .u8) 5 w' w.heap.size (fun _ => True) v0_ r ∧ Below w.heap.size w w' := by
 have HR0 := aK hr0
 have HC0 := aK hc0
 clear hr0 hc0
 have HB := aK (Below.refl w.heap.size w)
 have H : ((varint_Put.f l0 (a1.size : Int)).bind fun t235 => (if t235.length + a1.size < 140737488355328 then (some (t235 ++ bytesOf a1)) else (none))) = some r := h
 clear h
 replace H := Option.bind_eq_some_iff.mp H
 obtain ⟨t235,A30,H⟩ := H
 have A3 := aK A30
 clear A30
 by_cases c4 : t235.length + a1.size < 140737488355328
 ·rw [if_pos c4] at H
  have LMc4 := aK c4
  clear c4
  obtain ⟨y238,hy238⟩ : ∃ y_ : List Int,y_ = (t235 ++ bytesOf a1) := ⟨_,rfl⟩
  replace H : (some y238) = some r := by first|(rw [hy238];with_reducible exact H)|(have H2_ := (Option.bind_some _ _).symm.trans H;rw [hy238];with_reducible exact H2_)|(have H2_ := (Option.bind_some _ _).symm.trans H;with_reducible exact H2_)|with_reducible exact H|(rw [hy238];exact H)|exact H
  have Ny238 := aK hy238
  clear hy238
  obtain rfl := Option.some.inj H
  go_enter Tryz.func43,Tryz.ntmps43
  go_wp2_with (first|((with_reducible refine gate_callee (f := 41) rfl ?_);refine goesL_ (some 8) rfl rfl Tryz.func41 (by kernel_rfl) rfl #[.slice A0 l0.length c0,.int .i64 (a1.size : Int)] rfl (by (try simp only [List.map_toArray,List.map_cons,List.map_nil]);first|done|rfl|(simp only [List.length_drop,List.length_take];rfl)) ?_;(with_reducible refine (varint_Put.calls _ _ l0 (a1.size : Int) t235 _ ?side1 ?side2 A3.out).mono ?_);(case side1 => exact cM HR0.out);(case side2 => exact HC0.out);rintro e w5 ⟨v236,rfl,ho0,hb⟩;refine ⟨_,rfl,?_⟩;have HO237 := aK (Kd.R_lower ho0 (below_size (bM HB.out)));replace HB := aK (below_step (bM HB.out) hb);(try clear hb);(try clear ho0))|(at_builtin;refine print_append_str (w0 := w) w.heap.size rfl (.tmp 8) _ 31 9 5 rfl Tryz.underlying31 Tryz.underlying9 info5 v236 t235 a1 rfl rfl ?aO ?aB ?aS ?aL ?_;(case aB => exact (bM HB.out));(case aO => exact (Kd.own_of_R (rM HO237.out)));(case aS => exact (below_size (bM HB.out)));(case aL => have := LMc4.out;omega);intro v239 w6 ho0 hb hg;have ho := Kd.R_of_own (h1 := fun _ => rfl) (ok := fun _ => True) ho0 (fun _ _ => trivial);clear ho0;have hat := True.intro;rw [← Ny238.out] at ho;change Kd.R (Kd.int .u8) 5 w6 w.heap.size (fun _ => True) v239 y238 at ho;replace HB := aK (hb);have HO240 := aK (ho);clear ho hb hg hat))
  go_ret
  exact ⟨_,by first|rfl|(simp [errW_none,errW_some] <;> rfl)|(simp [*,errW_none,errW_some] <;> rfl),rM HO240.out,bM HB.out⟩
 ·rw [if_neg c4] at H
  exact absurd H (by simp)

/-! ### manifest_Encode: function 12 -/
def manifest_Encode.l0 : Nat → List Int → List ByteArray → Int → Int → Option (List Int)
|0,_,_,_,_ => none
|k + 1,x3,x31,x32,x33 => if x33 < x32 then (if 0 ≤ x33 then (if x33 < (x31.length : Int) then ((varint_PutString.f x3 (rdOf ByteArray.empty x31 x33)).bind fun t261 => (manifest_Encode.l0 k t261 x31 x32 (wrap64 (x33 + 1)))) else (none)) else (none)) else (some x3)
def manifest_Encode.f (k : Nat) (a0_0 : Int) (a0_1 : Int) (a0_2 : Int) (l0_3 : List Int) (l0_4 : List Int) (l0_5 : List ByteArray) : Option (List Int) := (varint_Put.f ([] : List Int) a0_0).bind fun t242 => ((varint_Put.f t242 a0_1).bind fun t245 => ((varint_Put.f t245 a0_2).bind fun t248 => ((manifest_list.f k t248 l0_3).bind fun t251 => ((manifest_list.f k t251 l0_4).bind fun t254 => ((varint_Put.f t254 (l0_5.length : Int)).bind fun t257 => (manifest_Encode.l0 k t257 l0_5 (l0_5.length : Int) 0))))))
theorem manifest_Encode.mono_l : ∀ k, (∀ y0 y1 y2 y3, LeO (manifest_Encode.l0 k y0 y1 y2 y3) (manifest_Encode.l0 (k + 1) y0 y1 y2 y3))
|0 => fun _ _ _ _ r h => by simp [manifest_Encode.l0] at h
|k + 1 => by
  have ih0 := manifest_Encode.mono_l k
  ·intro y0 y1 y2 y3
   unfold manifest_Encode.l0
   repeat' (with_reducible first|exact ih0 _ _ _ _|exact LeO.refl _|exact LeO.none _|refine LeO.ite ?_ ?_|refine LeO.bind ?_ (fun _ => ?_))
theorem manifest_Encode.mono : ∀ a0 a1 a2 a3 a4 a5 k, LeO (manifest_Encode.f k a0 a1 a2 a3 a4 a5) (manifest_Encode.f (k + 1) a0 a1 a2 a3 a4 a5) := by
 intro a0 a1 a2 a3 a4 a5 k
 have ih0 := manifest_Encode.mono_l k
 unfold manifest_Encode.f
 repeat' first
  |(with_reducible exact ih0 _ _ _ _)
  |(with_reducible exact manifest_list.mono _ _ _)
  |(with_reducible exact LeO.refl _)
  |(with_reducible exact LeO.none _)
  |(with_reducible refine LeO.ite ?_ ?_)
  |(with_reducible refine LeO.bind ?_ (fun _ => ?_))
  |exact ih0 _ _ _ _
  |exact manifest_list.mono _ _ _
  |exact LeO.none _
  |refine LeO.ite ?_ ?_
  |refine LeO.bind ?_ (fun _ => ?_)
set_option maxHeartbeats 4000000 in
set_option maxRecDepth 100000 in
theorem manifest_Encode.calls (k : Nat) (a0_0 : Int) (a0_1 : Int) (a0_2 : Int) (A0_3 : Option Addr) (c0_3 : Nat) (l0_3 : List Int) (A0_4 : Option Addr) (c0_4 : Nat) (l0_4 : List Int) (A0_5 : Option Addr) (c0_5 : Nat) (l0_5 : List ByteArray) (r : List Int) (w : World) (hr0_3 : Kd.C (Kd.int .i64) w A0_3 l0_3.length l0_3) (hc0_3 : l0_3.length ≤ c0_3) (hr0_4 : Kd.C (Kd.int .i64) w A0_4 l0_4.length l0_4) (hc0_4 : l0_4.length ≤ c0_4) (hr0_5 : Kd.C Kd.string w A0_5 l0_5.length l0_5) (hc0_5 : l0_5.length ≤ c0_5) (h : manifest_Encode.f k a0_0 a0_1 a0_2 l0_3 l0_4 l0_5 = some r) :
  Calls Tryz.prog 12 #[.agg #[.int .i64 a0_0,.int .i64 a0_1,.int .i64 a0_2,.slice A0_3 l0_3.length c0_3,.slice A0_4 l0_4.length c0_4,.slice A0_5 l0_5.length c0_5]] w fun e w' => ∃ v0_ : Value,e = .returned (v0_) ∧ Kd.R (Kd.int .u8) 5 w' w.heap.size (fun _ => True) v0_ r ∧ Below w.heap.size w w' := by
 have hu30 := Tryz.underlying30
 have HR0_3 := aK hr0_3
 have HC0_3 := aK hc0_3
 clear hr0_3 hc0_3
 have HR0_4 := aK hr0_4
 have HC0_4 := aK hc0_4
 clear hr0_4 hc0_4
 have HR0_5 := aK hr0_5
 have HC0_5 := aK hc0_5
 clear hr0_5 hc0_5
 have HB := aK (Below.refl w.heap.size w)
 unfold manifest_Encode.f at h
 have H := h
 clear h
 replace H := Option.bind_eq_some_iff.mp H
 obtain ⟨t242,A20,H⟩ := H
 have A2 := aK A20
 clear A20
 replace H := Option.bind_eq_some_iff.mp H
 obtain ⟨t245,A30,H⟩ := H
 have A3 := aK A30
 clear A30
 replace H := Option.bind_eq_some_iff.mp H
 obtain ⟨t248,A40,H⟩ := H
 have A4 := aK A40
 clear A40
 replace H := Option.bind_eq_some_iff.mp H
 obtain ⟨t251,A50,H⟩ := H
 have A5 := aK A50
 clear A50
 replace H := Option.bind_eq_some_iff.mp H
 obtain ⟨t254,A60,H⟩ := H
 have A6 := aK A60
 clear A60
 replace H := Option.bind_eq_some_iff.mp H
 obtain ⟨t257,A70,H⟩ := H
 have A7 := aK A70
 clear A70
 have H' := aK H
 clear H
 go_enter Tryz.func12,Tryz.ntmps12
 go_wp2_with (first|((with_reducible refine gate_dst (N := 1) rfl ?_);refine box_event ?hg (N := 1) ?hd (cs := #[.int .i64 a0_0,.int .i64 a0_1,.int .i64 a0_2,.slice A0_3 l0_3.length c0_3,.slice A0_4 l0_4.length c0_4,.slice A0_5 l0_5.length c0_5]) (t := 30) ?hr ?_;(case hd => rfl);(case hg => rfl);(case hr => first|(go_simp;done)|(go_simp;rfl));intro gb241 hg w8 hbox hb;have BK241 := aK (hbox);have GW241 := aK ((by rw [hg];exact (below_size (bM HB.out)) : w.heap.size ≤ gb241));have GJ241 := Ge.mk GW241.out;have GE241 := aK ((by rw [hg];exact (below_size (bM HB.out)) : w.heap.size ≤ gb241));have GI241 := Ge.mk GE241.out;replace HB := aK (below_step (bM HB.out) hb);clear hb hbox hg;obtain ⟨hcz9_0,hcz9_1,hcz9_2,hcz9_3,hcz9_4,hcz9_5,hfz9_0,hfz9_1,hfz9_2,hfz9_3,hfz9_4,hfz9_5⟩ := bk6_ BK241.out)|(go_at_call 41;refine calls_of_args (args' := #[.slice none ([] : List Int).length 0,.int .i64 a0_0]) (by first|with_reducible rfl|(simp only [List.length_nil];done)|(simp only [List.length_nil];with_reducible rfl)) ?_;(with_reducible refine (varint_Put.calls _ _ ([] : List Int) a0_0 t242 _ ?side1 ?side2 A2.out).mono ?_);(case side1 => exact Kd.C_nil _ _);(case side2 => exact Nat.le_refl _);rintro e w10 ⟨v243,rfl,ho0,hb⟩;have HO244 := aK (Kd.R_lower ho0 (below_size (bG HB.out)));replace BK241 := aK (blk_below (kM BK241.out) hb);replace HB := aK (below_step (bG HB.out) hb);(try clear hb);(try clear hk);(try clear ho0);obtain ⟨hcz11_0,hcz11_1,hcz11_2,hcz11_3,hcz11_4,hcz11_5,hfz11_0,hfz11_1,hfz11_2,hfz11_3,hfz11_4,hfz11_5⟩ := bk6_ BK241.out;obtain ⟨Ao12,co12,eo12⟩ := Kd.R_slice HO244.out;subst eo12)|((with_reducible refine gate_callee (f := 41) rfl ?_);refine goesL_ (some 12) rfl rfl Tryz.func41 (by kernel_rfl) rfl #[.slice Ao12 t242.length co12,.int .i64 a0_1] rfl (by (try simp only [List.map_toArray,List.map_cons,List.map_nil]);first|done|rfl|(simp only [List.length_drop,List.length_take];rfl)) ?_;(with_reducible refine (varint_Put.calls _ _ t242 a0_1 t245 _ ?side1 ?side2 A3.out).mono ?_);(case side1 => exact cM (Kd.R_reads' HO244.out).2.2);(case side2 => exact (Kd.R_reads' HO244.out).2.1);rintro e w13 ⟨v246,rfl,ho0,hb⟩;refine ⟨_,rfl,?_⟩;have HO247 := aK (Kd.R_lower (Kd.R_new' ho0 (Kd.R_lt (rM HO244.out))) (below_size (bG HB.out)));replace HO244 := aK (Kd.R_elder' (rM HO244.out) (Kd.R_base ho0) hb);replace BK241 := aK (blk_below (kM BK241.out) hb);replace HB := aK (below_step (bG HB.out) hb);(try clear hb);(try clear hk);(try clear ho0);obtain ⟨hcz14_0,hcz14_1,hcz14_2,hcz14_3,hcz14_4,hcz14_5,hfz14_0,hfz14_1,hfz14_2,hfz14_3,hfz14_4,hfz14_5⟩ := bk6_ BK241.out;obtain ⟨Ao15,co15,eo15⟩ := Kd.R_slice HO247.out;subst eo15)|((with_reducible refine gate_callee (f := 41) rfl ?_);refine goesL_ (some 16) rfl rfl Tryz.func41 (by kernel_rfl) rfl #[.slice Ao15 t245.length co15,.int .i64 a0_2] rfl (by (try simp only [List.map_toArray,List.map_cons,List.map_nil]);first|done|rfl|(simp only [List.length_drop,List.length_take];rfl)) ?_;(with_reducible refine (varint_Put.calls _ _ t245 a0_2 t248 _ ?side1 ?side2 A4.out).mono ?_);(case side1 => exact cM (Kd.R_reads' HO247.out).2.2);(case side2 => exact (Kd.R_reads' HO247.out).2.1);rintro e w16 ⟨v249,rfl,ho0,hb⟩;refine ⟨_,rfl,?_⟩;have HO250 := aK (Kd.R_lower (Kd.R_new' (Kd.R_new' ho0 (Kd.R_lt (rM HO244.out))) (Kd.R_lt (rM HO247.out))) (below_size (bG HB.out)));replace HO244 := aK (Kd.R_elder' (rM HO244.out) (Kd.R_base ho0) hb);replace HO247 := aK (Kd.R_elder' (rM HO247.out) (Kd.R_base ho0) hb);replace BK241 := aK (blk_below (kM BK241.out) hb);replace HB := aK (below_step (bG HB.out) hb);(try clear hb);(try clear hk);(try clear ho0);obtain ⟨hcz17_0,hcz17_1,hcz17_2,hcz17_3,hcz17_4,hcz17_5,hfz17_0,hfz17_1,hfz17_2,hfz17_3,hfz17_4,hfz17_5⟩ := bk6_ BK241.out;obtain ⟨Ao18,co18,eo18⟩ := Kd.R_slice HO250.out;subst eo18)|((with_reducible refine gate_callee (f := 42) rfl ?_);refine goesL_ (some 20) rfl rfl Tryz.func42 (by kernel_rfl) rfl #[.slice Ao18 t248.length co18,.slice A0_3 l0_3.length c0_3] rfl (by (try simp only [List.map_toArray,List.map_cons,List.map_nil]);first|done|rfl|(simp only [List.length_drop,List.length_take];rfl)) ?_;(with_reducible refine (manifest_list.calls k _ _ t248 _ _ l0_3 t251 _ ?side1 ?side2 ?side3 ?side4 A5.out).mono ?_);(case side1 => exact cM (Kd.R_reads' HO250.out).2.2);(case side2 => exact (Kd.R_reads' HO250.out).2.1);(case side3 => exact cM (Kd.C_below HR0_3.out HB.out));(case side4 => exact HC0_3.out);rintro e w19 ⟨v252,rfl,ho0,hb⟩;refine ⟨_,rfl,?_⟩;have HO253 := aK (Kd.R_lower (Kd.R_new' (Kd.R_new' (Kd.R_new' ho0 (Kd.R_lt (rM HO244.out))) (Kd.R_lt (rM HO247.out))) (Kd.R_lt (rM HO250.out))) (below_size (bG HB.out)));replace HO244 := aK (Kd.R_elder' (rM HO244.out) (Kd.R_base ho0) hb);replace HO247 := aK (Kd.R_elder' (rM HO247.out) (Kd.R_base ho0) hb);replace HO250 := aK (Kd.R_elder' (rM HO250.out) (Kd.R_base ho0) hb);replace BK241 := aK (blk_below (kM BK241.out) hb);replace HB := aK (below_step (bG HB.out) hb);(try clear hb);(try clear hk);(try clear ho0);obtain ⟨hcz20_0,hcz20_1,hcz20_2,hcz20_3,hcz20_4,hcz20_5,hfz20_0,hfz20_1,hfz20_2,hfz20_3,hfz20_4,hfz20_5⟩ := bk6_ BK241.out;obtain ⟨Ao21,co21,eo21⟩ := Kd.R_slice HO253.out;subst eo21)|((with_reducible refine gate_callee (f := 42) rfl ?_);refine goesL_ (some 24) rfl rfl Tryz.func42 (by kernel_rfl) rfl #[.slice Ao21 t251.length co21,.slice A0_4 l0_4.length c0_4] rfl (by (try simp only [List.map_toArray,List.map_cons,List.map_nil]);first|done|rfl|(simp only [List.length_drop,List.length_take];rfl)) ?_;(with_reducible refine (manifest_list.calls k _ _ t251 _ _ l0_4 t254 _ ?side1 ?side2 ?side3 ?side4 A6.out).mono ?_);(case side1 => exact cM (Kd.R_reads' HO253.out).2.2);(case side2 => exact (Kd.R_reads' HO253.out).2.1);(case side3 => exact cM (Kd.C_below HR0_4.out HB.out));(case side4 => exact HC0_4.out);rintro e w22 ⟨v255,rfl,ho0,hb⟩;refine ⟨_,rfl,?_⟩;have HO256 := aK (Kd.R_lower (Kd.R_new' (Kd.R_new' (Kd.R_new' (Kd.R_new' ho0 (Kd.R_lt (rM HO244.out))) (Kd.R_lt (rM HO247.out))) (Kd.R_lt (rM HO250.out))) (Kd.R_lt (rM HO253.out))) (below_size (bG HB.out)));replace HO244 := aK (Kd.R_elder' (rM HO244.out) (Kd.R_base ho0) hb);replace HO247 := aK (Kd.R_elder' (rM HO247.out) (Kd.R_base ho0) hb);replace HO250 := aK (Kd.R_elder' (rM HO250.out) (Kd.R_base ho0) hb);replace HO253 := aK (Kd.R_elder' (rM HO253.out) (Kd.R_base ho0) hb);replace BK241 := aK (blk_below (kM BK241.out) hb);replace HB := aK (below_step (bG HB.out) hb);(try clear hb);(try clear hk);(try clear ho0);obtain ⟨hcz23_0,hcz23_1,hcz23_2,hcz23_3,hcz23_4,hcz23_5,hfz23_0,hfz23_1,hfz23_2,hfz23_3,hfz23_4,hfz23_5⟩ := bk6_ BK241.out;obtain ⟨Ao24,co24,eo24⟩ := Kd.R_slice HO256.out;subst eo24)|((with_reducible refine gate_callee (f := 41) rfl ?_);refine goesL_ (some 29) rfl rfl Tryz.func41 (by kernel_rfl) rfl #[.slice Ao24 t254.length co24,.int .i64 (l0_5.length : Int)] rfl (by (try simp only [List.map_toArray,List.map_cons,List.map_nil]);first|done|rfl|(simp only [List.length_drop,List.length_take];rfl)) ?_;(with_reducible refine (varint_Put.calls _ _ t254 (l0_5.length : Int) t257 _ ?side1 ?side2 A7.out).mono ?_);(case side1 => exact cM (Kd.R_reads' HO256.out).2.2);(case side2 => exact (Kd.R_reads' HO256.out).2.1);rintro e w25 ⟨v258,rfl,ho0,hb⟩;refine ⟨_,rfl,?_⟩;have HO259 := aK (Kd.R_lower (Kd.R_new' (Kd.R_new' (Kd.R_new' (Kd.R_new' (Kd.R_new' ho0 (Kd.R_lt (rM HO244.out))) (Kd.R_lt (rM HO247.out))) (Kd.R_lt (rM HO250.out))) (Kd.R_lt (rM HO253.out))) (Kd.R_lt (rM HO256.out))) (below_size (bG HB.out)));replace BK241 := aK (blk_below (kM BK241.out) hb);replace HB := aK (below_step (bG HB.out) hb);(try clear hb);(try clear hk);(try clear ho0);obtain ⟨hcz26_0,hcz26_1,hcz26_2,hcz26_3,hcz26_4,hcz26_5,hfz26_0,hfz26_1,hfz26_2,hfz26_3,hfz26_4,hfz26_5⟩ := bk6_ BK241.out))
 go_loopg [3,33] k (fun kq v3 v33 w' => ∃ (x3_1 : List Int) (x33_1 : Int),v33 = .int .i64 x33_1 ∧ Aside0 (manifest_Encode.l0 kq x3_1 l0_5 (l0_5.length : Int) x33_1 = some r) ∧ Aside0 (kq ≤ k) ∧ Aside0 (Kd.R (Kd.int .u8) 5 w' w.heap.size (fun _ => True) v3 x3_1) ∧ Aside0 (w'.heap[gb241]? = some (.cells #[.int .i64 a0_0,.int .i64 a0_1,.int .i64 a0_2,(.slice A0_3 l0_3.length c0_3),(.slice A0_4 l0_4.length c0_4),(.slice A0_5 l0_5.length c0_5)] 30 (0,0))) ∧ Aside0 (Below w.heap.size w w'))
 case atStart => exact ⟨(t257),(0),(by first|rfl|(simp;done)|(simp [*];done)),H',⟨Nat.le_refl _⟩,⟨rM (Kd.R_mono HO259.out (fun _ hk => trivial))⟩,⟨kM BK241.out⟩,⟨bG HB.out⟩⟩
 case round =>
  clear H'
  try clear p2
  try clear hcz11_0
  try clear hcz11_1
  try clear hcz11_2
  try clear hcz11_3
  try clear hcz11_4
  try clear hcz11_5
  try clear hcz14_0
  try clear hcz14_1
  try clear hcz14_2
  try clear hcz14_3
  try clear hcz14_4
  try clear hcz14_5
  try clear hcz17_0
  try clear hcz17_1
  try clear hcz17_2
  try clear hcz17_3
  try clear hcz17_4
  try clear hcz17_5
  try clear hcz20_0
  try clear hcz20_1
  try clear hcz20_2
  try clear hcz20_3
  try clear hcz20_4
  try clear hcz20_5
  try clear hcz23_0
  try clear hcz23_1
  try clear hcz23_2
  try clear hcz23_3
  try clear hcz23_4
  try clear hcz23_5
  try clear hcz26_0
  try clear hcz26_1
  try clear hcz26_2
  try clear hcz26_3
  try clear hcz26_4
  try clear hcz26_5
  try clear hcz9_0
  try clear hcz9_1
  try clear hcz9_2
  try clear hcz9_3
  try clear hcz9_4
  try clear hcz9_5
  try clear hfz11_0
  try clear hfz11_1
  try clear hfz11_2
  try clear hfz11_3
  try clear hfz11_4
  try clear hfz11_5
  try clear hfz14_0
  try clear hfz14_1
  try clear hfz14_2
  try clear hfz14_3
  try clear hfz14_4
  try clear hfz14_5
  try clear hfz17_0
  try clear hfz17_1
  try clear hfz17_2
  try clear hfz17_3
  try clear hfz17_4
  try clear hfz17_5
  try clear hfz20_0
  try clear hfz20_1
  try clear hfz20_2
  try clear hfz20_3
  try clear hfz20_4
  try clear hfz20_5
  try clear hfz23_0
  try clear hfz23_1
  try clear hfz23_2
  try clear hfz23_3
  try clear hfz23_4
  try clear hfz23_5
  try clear hfz26_0
  try clear hfz26_1
  try clear hfz26_2
  try clear hfz26_3
  try clear hfz26_4
  try clear hfz26_5
  try clear hfz9_0
  try clear hfz9_1
  try clear hfz9_2
  try clear hfz9_3
  try clear hfz9_4
  try clear hfz9_5
  obtain ⟨x3_1,x33_1,rfl,HA,HK1,HO_3,BK241,HB⟩ := hrel
  cases gk with
 |zero => exact absurd HA.out (by simp [manifest_Encode.l0])
 |succ k1 =>
   have H := HA.out
   clear HA
   simp only [manifest_Encode.l0] at H
   by_cases c27 : x33_1 < (l0_5.length : Int)
   ·rw [if_pos c27] at H
    have c27b0 := decide_eq_true c27
    clear c27
    obtain ⟨c28,H⟩ := iS H
    have c28b0 := decide_eq_true c28
    clear c28
    obtain ⟨c29,H⟩ := iS H
    have c29b0 := decide_eq_true c29
    clear c29
    replace H := Option.bind_eq_some_iff.mp H
    obtain ⟨t261,A300,H⟩ := H
    have A30 := aK A300
    clear A300
    have H' := aK H
    clear H
    have p260 : 0 ≤ (x33_1 : Int) := of_decide_eq_true (by assumption)
    have q260 : x33_1 < (l0_5.length : Int) := of_decide_eq_true (by assumption)
    obtain ⟨ad260,e260,hx260_0⟩ := Kd.at_string HR0_5.out x33_1 p260 q260
    cases e260
    replace hx260_0 := xM HB hx260_0
    replace p260 := eq_true p260
    replace q260 := eq_true q260
    obtain ⟨Ao31,co31,eo31⟩ := Kd.R_slice HO_3.out
    subst eo31
    go_wp2_with (first|((with_reducible refine gate_callee (f := 43) rfl ?_);refine goesL_ (some 39) rfl rfl Tryz.func43 (by kernel_rfl) rfl #[.slice Ao31 x3_1.length co31,.string (rdOf ByteArray.empty l0_5 x33_1)] rfl (by (try simp only [List.map_toArray,List.map_cons,List.map_nil]);first|done|rfl|(simp only [List.length_drop,List.length_take];rfl)) ?_;(with_reducible refine (varint_PutString.calls _ _ x3_1 (rdOf ByteArray.empty l0_5 x33_1) t261 _ ?side1 ?side2 A30.out).mono ?_);(case side1 => exact cM (Kd.R_reads' HO_3.out).2.2);(case side2 => exact (Kd.R_reads' HO_3.out).2.1);rintro e w32 ⟨v262,rfl,ho0,hb⟩;refine ⟨_,rfl,?_⟩;have HO263 := aK (Kd.R_lower (Kd.R_new' ho0 (Kd.R_lt (rM HO_3.out))) (below_size (bG HB.out)));replace HO_3 := aK (Kd.R_elder' (rM HO_3.out) (Kd.R_base ho0) hb);replace BK241 := aK (blk_below (kM BK241.out) hb);replace HB := aK (below_step (bG HB.out) hb);(try clear hb);(try clear hk);(try clear ho0)))
    go_roundg k1
    case measure => have := HK1.out;omega
    case rel => exact ⟨(t261),(wrap64 (x33_1 + 1)),(by first|rfl|(simp;done)|(simp [*];done)),H',⟨by have := HK1.out;omega⟩,⟨rM (Kd.R_mono HO263.out (fun _ hk => trivial))⟩,⟨kM BK241.out⟩,⟨bG HB.out⟩⟩
   ·rw [if_neg c27] at H
    have c27b0 := decide_eq_false c27
    clear c27
    obtain rfl := Option.some.inj H
    go_wp2
    go_ret
    exact ⟨_,by first|rfl|(simp [errW_none,errW_some] <;> rfl)|(simp [*,errW_none,errW_some] <;> rfl),rM HO_3.out,bG HB.out⟩

end Go.Proofs.YtmgliocboeifdaaGreatDoor.R
