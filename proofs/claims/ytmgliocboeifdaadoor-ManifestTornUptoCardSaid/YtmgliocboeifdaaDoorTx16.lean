-- Written by hp.py, a program of this session, over the kit's print of the translation. Not trusted: Lean checks it.
import Derived.Test.YtmgliocboeifdaaDoorTx0
namespace Go.Proofs.YtmgliocboeifdaaDoor.T
open Go.RowKit Go.Proofs.YtmgliocboeifdaaDoorW.PrintWords Go.Proofs.YtmgliocboeifdaaDoorW.PrintLast Go.Proofs.YtmgliocboeifdaaDoorW.PrintMore
attribute [local go_sem] max2_int min2_int max_two min_two max_three min_three max_four min_four   -- for this text's walks alone
set_option linter.unusedVariables false
set_option linter.unusedSimpArgs false

/-! ### codesearchlaw33_rising: function 26 -/
def codesearchlaw33_rising.l0 : Nat → List Int → Int → Option (Bool)
|0,_,_ => none
|k + 1,x0,x3 => if x3 < (x0.length : Int) then (if 0 ≤ x3 then (if (rd x0 x3) < 0 then (some false) else (if (rd x0 x3) > 4611686018427387904 then (some false) else (if x3 > 0 then (if 0 ≤ (wrap64 (x3 - 1)) then (if (wrap64 (x3 - 1)) < (x0.length : Int) then (if (rd x0 x3) ≤ (rd x0 (wrap64 (x3 - 1))) then (some false) else (codesearchlaw33_rising.l0 k x0 (wrap64 (x3 + 1)))) else (none)) else (none)) else (codesearchlaw33_rising.l0 k x0 (wrap64 (x3 + 1)))))) else (none)) else (some true)
def codesearchlaw33_rising.f (k : Nat) (l0 : List Int) : Option (Bool) := codesearchlaw33_rising.l0 k l0 0
theorem codesearchlaw33_rising.mono_l : ∀ k, (∀ y0 y1, LeO (codesearchlaw33_rising.l0 k y0 y1) (codesearchlaw33_rising.l0 (k + 1) y0 y1))
|0 => fun _ _ r h => by simp [codesearchlaw33_rising.l0] at h
|k + 1 => by
  have ih0 := codesearchlaw33_rising.mono_l k
  ·intro y0 y1
   unfold codesearchlaw33_rising.l0
   repeat' (with_reducible first|exact ih0 _ _|exact LeO.refl _|exact LeO.none _|refine LeO.ite ?_ ?_|refine LeO.bind ?_ (fun _ => ?_))
theorem codesearchlaw33_rising.mono : ∀ a0 k, LeO (codesearchlaw33_rising.f k a0) (codesearchlaw33_rising.f (k + 1) a0) := by
 intro a0 k
 have ih0 := codesearchlaw33_rising.mono_l k
 unfold codesearchlaw33_rising.f
 repeat' first
  |(with_reducible exact ih0 _ _)
  |(with_reducible exact LeO.refl _)
  |(with_reducible exact LeO.none _)
  |(with_reducible refine LeO.ite ?_ ?_)
  |(with_reducible refine LeO.bind ?_ (fun _ => ?_))
  |exact ih0 _ _
  |exact LeO.none _
  |refine LeO.ite ?_ ?_
  |refine LeO.bind ?_ (fun _ => ?_)
set_option maxHeartbeats 4000000 in
set_option maxRecDepth 100000 in
theorem codesearchlaw33_rising.calls (k : Nat) (A0 : Option Addr) (c0 : Nat) (l0 : List Int) (r : Bool) (w : World) (hr0 : Kd.C (Kd.int .i64) w A0 l0.length l0) (hc0 : l0.length ≤ c0) (h : codesearchlaw33_rising.f k l0 = some r) :
  Calls Tryd.prog 26 #[.slice A0 l0.length c0] w fun e w' => e = .returned (.bool r) ∧ Drawn0 w w' := by
 have HR0 := aK hr0
 have HC0 := aK hc0
 clear hr0 hc0
 have H : (codesearchlaw33_rising.l0 k l0 0) = some r := h
 clear h
 have H' := aK H
 clear H
 go_enter Tryd.func26,Tryd.ntmps26
 go_wp2
 repeat (go_quiet (fail);try go_wp2)
 go_loopg [3] k (fun kq v3 w' => ∃ (x3_1 : Int),v3 = .int .i64 x3_1 ∧ Aside0 (codesearchlaw33_rising.l0 kq l0 x3_1 = some r) ∧ Aside0 (kq ≤ k) ∧ Drawn0 w w')
 case atStart => exact ⟨(0),(by first|rfl|(simp;done)|(simp [*];done)),H',⟨Nat.le_refl _⟩,by repeat (first|exact Drawn0.refl _|apply Drawn0.step)⟩
 case round =>
  clear H'
  obtain ⟨x3_1,rfl,HA,HK1,⟨m1,rfl⟩⟩ := hrel
  cases gk with
 |zero => exact absurd HA.out (by simp [codesearchlaw33_rising.l0])
 |succ k1 =>
   have H := HA.out
   clear HA
   simp only [codesearchlaw33_rising.l0] at H
   by_cases c2 : x3_1 < (l0.length : Int)
   ·rw [if_pos c2] at H
    have c2b0 := decide_eq_true c2
    clear c2
    obtain ⟨c3,H⟩ := iS H
    have c3b0 := decide_eq_true c3
    clear c3
    by_cases c4 : (rd l0 x3_1) < 0
    ·rw [if_pos c4] at H
     have c4b0 := decide_eq_true c4
     clear c4
     obtain rfl := Option.some.inj H
     have p447 : 0 ≤ (x3_1 : Int) := of_decide_eq_true (by assumption)
     have q447 : x3_1 < (l0.length : Int) := of_decide_eq_true (by assumption)
     obtain ⟨ad447,e447,hx447_0⟩ := Kd.at_int HR0.out x3_1 p447 q447
     cases e447
     replace p447 := eq_true p447
     replace q447 := eq_true q447
     go_wp2
     repeat (go_quiet (fail);try go_wp2)
     go_ret
     exact ⟨by first|rfl|(simp;done)|(simp [*];done),by repeat (first|exact Drawn0.refl _|apply Drawn0.step)⟩
    ·rw [if_neg c4] at H
     have c4b0 := decide_eq_false c4
     clear c4
     by_cases c5 : (rd l0 x3_1) > 4611686018427387904
     ·rw [if_pos c5] at H
      have c5b0 := decide_eq_true c5
      clear c5
      obtain rfl := Option.some.inj H
      have p447 : 0 ≤ (x3_1 : Int) := of_decide_eq_true (by assumption)
      have q447 : x3_1 < (l0.length : Int) := of_decide_eq_true (by assumption)
      obtain ⟨ad447,e447,hx447_0⟩ := Kd.at_int HR0.out x3_1 p447 q447
      cases e447
      replace p447 := eq_true p447
      replace q447 := eq_true q447
      have p448 : 0 ≤ (x3_1 : Int) := of_decide_eq_true (by assumption)
      have q448 : x3_1 < (l0.length : Int) := of_decide_eq_true (by assumption)
      obtain ⟨ad448,e448,hx448_0⟩ := Kd.at_int HR0.out x3_1 p448 q448
      obtain rfl : ad447 = ad448 := (by injection e448)
      replace p448 := eq_true p448
      replace q448 := eq_true q448
      go_wp2
      repeat (go_quiet (fail);try go_wp2)
      go_ret
      exact ⟨by first|rfl|(simp;done)|(simp [*];done),by repeat (first|exact Drawn0.refl _|apply Drawn0.step)⟩
     ·rw [if_neg c5] at H
      have c5b0 := decide_eq_false c5
      clear c5
      by_cases c6 : x3_1 > 0
      ·rw [if_pos c6] at H
       have c6b0 := decide_eq_true c6
       clear c6
       obtain ⟨ji7,hji7⟩ : ∃ j_ : Int,(wrap64 (x3_1 - 1)) = j_ := ⟨_,rfl⟩
       replace H : (if 0 ≤ (ji7) then (if (ji7) < (l0.length : Int) then (if (rd l0 x3_1) ≤ (rd l0 (ji7)) then (some false) else (codesearchlaw33_rising.l0 k1 l0 (wrap64 (x3_1 + 1)))) else (none)) else (none)) = some r := by first|(rw [hji7] at H;exact H)|(simp only [hji7] at H ⊢;exact H)
       have hji7w : (IntKind.i64.wrap (x3_1 - 1)) = ji7 := (i64_w _).trans hji7
       obtain ⟨c8,H⟩ := iS H
       have c8b0 := decide_eq_true c8
       clear c8
       obtain ⟨c9,H⟩ := iS H
       have c9b0 := decide_eq_true c9
       clear c9
       by_cases c10 : (rd l0 x3_1) ≤ (rd l0 (ji7))
       ·rw [if_pos c10] at H
        have c10b0 := decide_eq_true c10
        clear c10
        obtain rfl := Option.some.inj H
        have p447 : 0 ≤ (x3_1 : Int) := of_decide_eq_true (by assumption)
        have q447 : x3_1 < (l0.length : Int) := of_decide_eq_true (by assumption)
        obtain ⟨ad447,e447,hx447_0⟩ := Kd.at_int HR0.out x3_1 p447 q447
        cases e447
        replace p447 := eq_true p447
        replace q447 := eq_true q447
        have p448 : 0 ≤ (x3_1 : Int) := of_decide_eq_true (by assumption)
        have q448 : x3_1 < (l0.length : Int) := of_decide_eq_true (by assumption)
        obtain ⟨ad448,e448,hx448_0⟩ := Kd.at_int HR0.out x3_1 p448 q448
        obtain rfl : ad447 = ad448 := (by injection e448)
        replace p448 := eq_true p448
        replace q448 := eq_true q448
        have p449 : 0 ≤ (x3_1 : Int) := of_decide_eq_true (by assumption)
        have q449 : x3_1 < (l0.length : Int) := of_decide_eq_true (by assumption)
        obtain ⟨ad449,e449,hx449_0⟩ := Kd.at_int HR0.out x3_1 p449 q449
        obtain rfl : ad447 = ad449 := (by injection e449)
        replace p449 := eq_true p449
        replace q449 := eq_true q449
        have p450 : 0 ≤ ((ji7) : Int) := of_decide_eq_true (by assumption)
        have q450 : (ji7) < (l0.length : Int) := of_decide_eq_true (by assumption)
        obtain ⟨ad450,e450,hx450_0⟩ := Kd.at_int HR0.out (ji7) p450 q450
        obtain rfl : ad447 = ad450 := (by injection e450)
        replace p450 := eq_true p450
        replace q450 := eq_true q450
        go_wp2
        repeat (go_quiet (fail);try go_wp2)
        go_ret
        exact ⟨by first|rfl|(simp;done)|(rw [Int.tdiv_eq_ediv_of_nonneg (by assumption)];done)|(rw [Int.tmod_eq_emod_of_nonneg (by assumption)];done)|(simp only [← hji7] <;> (first|rfl|simp))|(simp [*];done),by repeat (first|exact Drawn0.refl _|apply Drawn0.step)⟩
       ·rw [if_neg c10] at H
        have c10b0 := decide_eq_false c10
        clear c10
        have H' := aK H
        clear H
        have p447 : 0 ≤ (x3_1 : Int) := of_decide_eq_true (by assumption)
        have q447 : x3_1 < (l0.length : Int) := of_decide_eq_true (by assumption)
        obtain ⟨ad447,e447,hx447_0⟩ := Kd.at_int HR0.out x3_1 p447 q447
        cases e447
        replace p447 := eq_true p447
        replace q447 := eq_true q447
        have p448 : 0 ≤ (x3_1 : Int) := of_decide_eq_true (by assumption)
        have q448 : x3_1 < (l0.length : Int) := of_decide_eq_true (by assumption)
        obtain ⟨ad448,e448,hx448_0⟩ := Kd.at_int HR0.out x3_1 p448 q448
        obtain rfl : ad447 = ad448 := (by injection e448)
        replace p448 := eq_true p448
        replace q448 := eq_true q448
        have p449 : 0 ≤ (x3_1 : Int) := of_decide_eq_true (by assumption)
        have q449 : x3_1 < (l0.length : Int) := of_decide_eq_true (by assumption)
        obtain ⟨ad449,e449,hx449_0⟩ := Kd.at_int HR0.out x3_1 p449 q449
        obtain rfl : ad447 = ad449 := (by injection e449)
        replace p449 := eq_true p449
        replace q449 := eq_true q449
        have p450 : 0 ≤ ((ji7) : Int) := of_decide_eq_true (by assumption)
        have q450 : (ji7) < (l0.length : Int) := of_decide_eq_true (by assumption)
        obtain ⟨ad450,e450,hx450_0⟩ := Kd.at_int HR0.out (ji7) p450 q450
        obtain rfl : ad447 = ad450 := (by injection e450)
        replace p450 := eq_true p450
        replace q450 := eq_true q450
        go_wp2
        repeat (go_quiet (fail);try go_wp2)
        go_roundg k1
        case measure => have := HK1.out;omega
        case rel => exact ⟨(wrap64 (x3_1 + 1)),(by first|rfl|(simp;done)|(simp [*];done)),H',⟨by have := HK1.out;omega⟩,by repeat (first|exact Drawn0.refl _|apply Drawn0.step)⟩
      ·rw [if_neg c6] at H
       have c6b0 := decide_eq_false c6
       clear c6
       have H' := aK H
       clear H
       have p447 : 0 ≤ (x3_1 : Int) := of_decide_eq_true (by assumption)
       have q447 : x3_1 < (l0.length : Int) := of_decide_eq_true (by assumption)
       obtain ⟨ad447,e447,hx447_0⟩ := Kd.at_int HR0.out x3_1 p447 q447
       cases e447
       replace p447 := eq_true p447
       replace q447 := eq_true q447
       have p448 : 0 ≤ (x3_1 : Int) := of_decide_eq_true (by assumption)
       have q448 : x3_1 < (l0.length : Int) := of_decide_eq_true (by assumption)
       obtain ⟨ad448,e448,hx448_0⟩ := Kd.at_int HR0.out x3_1 p448 q448
       obtain rfl : ad447 = ad448 := (by injection e448)
       replace p448 := eq_true p448
       replace q448 := eq_true q448
       go_wp2
       repeat (go_quiet (fail);try go_wp2)
       go_roundg k1
       case measure => have := HK1.out;omega
       case rel => exact ⟨(wrap64 (x3_1 + 1)),(by first|rfl|(simp;done)|(simp [*];done)),H',⟨by have := HK1.out;omega⟩,by repeat (first|exact Drawn0.refl _|apply Drawn0.step)⟩
   ·rw [if_neg c2] at H
    have c2b0 := decide_eq_false c2
    clear c2
    obtain rfl := Option.some.inj H
    go_wp2
    repeat (go_quiet (fail);try go_wp2)
    go_ret
    exact ⟨by first|rfl|(simp;done)|(simp [*];done),by repeat (first|exact Drawn0.refl _|apply Drawn0.step)⟩

end Go.Proofs.YtmgliocboeifdaaDoor.T
