-- Written by hp.py, a program of this session, over the kit's print of the translation. Not trusted: Lean checks it.
import Derived.Test.YtknpmknkkofnjaaPx0
namespace Go.Proofs.Ytknpmknkkofnjaa.P
open Go.RowKit Go.Proofs.YtknpmknkkofnjaaW.PrintWords Go.Proofs.YtknpmknkkofnjaaW.PrintLast Go.Proofs.YtknpmknkkofnjaaW.PrintMore
attribute [local go_sem] max2_int min2_int max_two min_two max_three min_three max_four min_four   -- for this text's walks alone
set_option linter.unusedVariables false
set_option linter.unusedSimpArgs false

/-! ### codesearchref03_Get: function 46 -/
mutual
def codesearchref03_Get.j0 : Nat → List Int → Int → Bool → Option (Int × Int × Int)
|0,_,_,_ => none
|k + 1,x0,x1,x17 => if x17 = true then (some (0,0,2)) else (codesearchref03_Get.l0 k x0 x1 x1)
def codesearchref03_Get.j2 : Nat → List Int → Int → Int → Option (Int × Int × Int)
|0,_,_,_ => none
|k + 1,x0,x1,x7 => if x7 = (x0.length : Int) then (some (0,0,5)) else (if (wrap64 (x7 - x1)) > 8 then (some (0,0,4)) else (codesearchref03_Get.l1 k x0 x1 x7 0 x7))
def codesearchref03_Get.l1 : Nat → List Int → Int → Int → Int → Int → Option (Int × Int × Int)
|0,_,_,_,_,_ => none
|k + 1,x0,x1,x7,x8,x9 => if x9 ≥ x1 then (if 0 ≤ x9 then (if x9 < (x0.length : Int) then (codesearchref03_Get.l1 k x0 x1 x7 (wrap64 ((wrap64 (x8 * 128)) + (Int.tmod (wrap64 (rd x0 x9)) 128))) (wrap64 (x9 - 1))) else (none)) else (none)) else (if x8 > 4611686018427387904 then (some (0,0,4)) else (if x7 > x1 then (if 0 ≤ x7 then (if x7 < (x0.length : Int) then (if (rd x0 x7) = 0 then (some (0,0,3)) else (some (x8,wrap64 (x7 + 1),0))) else (none)) else (none)) else (some (x8,wrap64 (x7 + 1),0))))
def codesearchref03_Get.l0 : Nat → List Int → Int → Int → Option (Int × Int × Int)
|0,_,_,_ => none
|k + 1,x0,x1,x7 => if x7 < (x0.length : Int) then (if 0 ≤ x7 then (if (rd x0 x7) ≥ 128 then (codesearchref03_Get.l0 k x0 x1 (wrap64 (x7 + 1))) else (codesearchref03_Get.j2 k x0 x1 x7)) else (none)) else (codesearchref03_Get.j2 k x0 x1 x7)
end
def codesearchref03_Get.f (k : Nat) (l0 : List Int) (a1 : Int) : Option (Int × Int × Int) := if a1 < 0 then (codesearchref03_Get.j0 k l0 a1 true) else (codesearchref03_Get.j0 k l0 a1 (decide (a1 > (l0.length : Int))))
theorem codesearchref03_Get.mono_l : ∀ k, (∀ y0 y1 y2, LeO (codesearchref03_Get.j0 k y0 y1 y2) (codesearchref03_Get.j0 (k + 1) y0 y1 y2)) ∧ (∀ y0 y1 y2, LeO (codesearchref03_Get.j2 k y0 y1 y2) (codesearchref03_Get.j2 (k + 1) y0 y1 y2)) ∧ (∀ y0 y1 y2 y3 y4, LeO (codesearchref03_Get.l1 k y0 y1 y2 y3 y4) (codesearchref03_Get.l1 (k + 1) y0 y1 y2 y3 y4)) ∧ (∀ y0 y1 y2, LeO (codesearchref03_Get.l0 k y0 y1 y2) (codesearchref03_Get.l0 (k + 1) y0 y1 y2))
|0 => ⟨fun _ _ _ r h => by simp [codesearchref03_Get.j0] at h,fun _ _ _ r h => by simp [codesearchref03_Get.j2] at h,fun _ _ _ _ _ r h => by simp [codesearchref03_Get.l1] at h,fun _ _ _ r h => by simp [codesearchref03_Get.l0] at h⟩
|k + 1 => by
  obtain ⟨ih0,ih1,ih2,ih3⟩ := codesearchref03_Get.mono_l k
  refine ⟨?_,?_,?_,?_⟩
  ·intro y0 y1 y2
   unfold codesearchref03_Get.j0
   repeat' first
  |(with_reducible exact ih0 _ _ _)
  |(with_reducible exact ih1 _ _ _)
  |(with_reducible exact ih2 _ _ _ _ _)
  |(with_reducible exact ih3 _ _ _)
  |(with_reducible exact LeO.refl _)
  |(with_reducible exact LeO.none _)
  |(with_reducible refine LeO.ite ?_ ?_)
  |(with_reducible refine LeO.bind ?_ (fun _ => ?_))
  |exact ih0 _ _ _
  |exact ih1 _ _ _
  |exact ih2 _ _ _ _ _
  |exact ih3 _ _ _
  |exact LeO.none _
  |refine LeO.ite ?_ ?_
  |refine LeO.bind ?_ (fun _ => ?_)
  ·intro y0 y1 y2
   unfold codesearchref03_Get.j2
   repeat' first
  |(with_reducible exact ih0 _ _ _)
  |(with_reducible exact ih1 _ _ _)
  |(with_reducible exact ih2 _ _ _ _ _)
  |(with_reducible exact ih3 _ _ _)
  |(with_reducible exact LeO.refl _)
  |(with_reducible exact LeO.none _)
  |(with_reducible refine LeO.ite ?_ ?_)
  |(with_reducible refine LeO.bind ?_ (fun _ => ?_))
  |exact ih0 _ _ _
  |exact ih1 _ _ _
  |exact ih2 _ _ _ _ _
  |exact ih3 _ _ _
  |exact LeO.none _
  |refine LeO.ite ?_ ?_
  |refine LeO.bind ?_ (fun _ => ?_)
  ·intro y0 y1 y2 y3 y4
   unfold codesearchref03_Get.l1
   repeat' first
  |(with_reducible exact ih0 _ _ _)
  |(with_reducible exact ih1 _ _ _)
  |(with_reducible exact ih2 _ _ _ _ _)
  |(with_reducible exact ih3 _ _ _)
  |(with_reducible exact LeO.refl _)
  |(with_reducible exact LeO.none _)
  |(with_reducible refine LeO.ite ?_ ?_)
  |(with_reducible refine LeO.bind ?_ (fun _ => ?_))
  |exact ih0 _ _ _
  |exact ih1 _ _ _
  |exact ih2 _ _ _ _ _
  |exact ih3 _ _ _
  |exact LeO.none _
  |refine LeO.ite ?_ ?_
  |refine LeO.bind ?_ (fun _ => ?_)
  ·intro y0 y1 y2
   unfold codesearchref03_Get.l0
   repeat' first
  |(with_reducible exact ih0 _ _ _)
  |(with_reducible exact ih1 _ _ _)
  |(with_reducible exact ih2 _ _ _ _ _)
  |(with_reducible exact ih3 _ _ _)
  |(with_reducible exact LeO.refl _)
  |(with_reducible exact LeO.none _)
  |(with_reducible refine LeO.ite ?_ ?_)
  |(with_reducible refine LeO.bind ?_ (fun _ => ?_))
  |exact ih0 _ _ _
  |exact ih1 _ _ _
  |exact ih2 _ _ _ _ _
  |exact ih3 _ _ _
  |exact LeO.none _
  |refine LeO.ite ?_ ?_
  |refine LeO.bind ?_ (fun _ => ?_)
theorem codesearchref03_Get.mono : ∀ a0 a1 k, LeO (codesearchref03_Get.f k a0 a1) (codesearchref03_Get.f (k + 1) a0 a1) := by
 intro a0 a1 k
 obtain ⟨ih0,ih1,ih2,ih3⟩ := codesearchref03_Get.mono_l k
 unfold codesearchref03_Get.f
 repeat' first
  |(with_reducible exact ih0 _ _ _)
  |(with_reducible exact ih1 _ _ _)
  |(with_reducible exact ih2 _ _ _ _ _)
  |(with_reducible exact ih3 _ _ _)
  |(with_reducible exact LeO.refl _)
  |(with_reducible exact LeO.none _)
  |(with_reducible refine LeO.ite ?_ ?_)
  |(with_reducible refine LeO.bind ?_ (fun _ => ?_))
  |exact ih0 _ _ _
  |exact ih1 _ _ _
  |exact ih2 _ _ _ _ _
  |exact ih3 _ _ _
  |exact LeO.none _
  |refine LeO.ite ?_ ?_
  |refine LeO.bind ?_ (fun _ => ?_)
set_option maxHeartbeats 4000000 in
set_option maxRecDepth 100000 in
theorem codesearchref03_Get.calls (k : Nat) (A0 : Option Addr) (c0 : Nat) (l0 : List Int) (a1 : Int) (r1 : Int) (r2 : Int) (r3 : Int) (w : World) (hr0 : Kd.C (Kd.int .u8) w A0 l0.length l0) (hc0 : l0.length ≤ c0) (h : codesearchref03_Get.f k l0 a1 = some (r1, r2, r3)) :
  Calls Try.prog 46 #[.slice A0 l0.length c0,.int .i64 a1] w fun e w' => e = .returned (.tuple #[.int .i64 r1,.int .i64 r2,.int .i64 r3]) ∧ Drawn0 w w' := by
 have HR0 := Aside0.mk hr0
 have HC0 := Aside0.mk hc0
 clear hr0 hc0
 have H : (if a1 < 0 then (codesearchref03_Get.j0 k l0 a1 true) else (codesearchref03_Get.j0 k l0 a1 (decide (a1 > (l0.length : Int))))) = some (r1,r2,r3) := h
 clear h
 have HC3 := Aside0.mk H
 clear H
 go_enter Try.func46,Try.ntmps46
 go_upto_region 1 with (fail)
 go_cut [17] (fun v17 wc => ∃ (kq : Nat) (x17_2 : Bool),v17 = .bool x17_2 ∧ Aside0 (codesearchref03_Get.j0 kq l0 a1 x17_2 = some (r1,r2,r3)) ∧ Aside0 (kq ≤ k) ∧ Drawn0 w wc)
 case first =>
  have H := HC3.out
  clear HC3
  by_cases c4 : a1 < 0
  ·rw [if_pos c4] at H
   have c4b0 : decide (a1 < 0) = true := decide_eq_true c4
   clear c4
   (first|rw [c4b0]|(simp only [i64_w,i32_w];rw [c4b0])|skip)
   have H' := Aside0.mk H
   clear H
   go_wp2
   go_meet
   case rel => exact ⟨_,(true),(by first|rfl|(simp;done)|(simp [*];done)),H',⟨by first|omega|exact Nat.le_refl _⟩,by repeat (first|exact Drawn0.refl _|apply Drawn0.step)⟩
  ·rw [if_neg c4] at H
   have c4b0 : decide (a1 < 0) = false := decide_eq_false c4
   clear c4
   (first|rw [c4b0]|(simp only [i64_w,i32_w];rw [c4b0])|skip)
   have H' := Aside0.mk H
   clear H
   go_wp2
   go_meet
   case rel => exact ⟨_,(decide (a1 > (l0.length : Int))),(by first|rfl|(simp;done)|(simp [*];done)),H',⟨by first|omega|exact Nat.le_refl _⟩,by repeat (first|exact Drawn0.refl _|apply Drawn0.step)⟩
 case rest =>
  clear HC3
  try clear p2
  try clear c4
  try clear c4b0
  obtain ⟨kq,x17_2,rfl,HA,HJ2,⟨mc2,rfl⟩⟩ := hcut
  cases kq with
 |zero => exact absurd HA.out (by simp [codesearchref03_Get.j0])
 |succ kj2 =>
   have H := HA.out
   clear HA
   simp only [codesearchref03_Get.j0] at H
   by_cases c5 : x17_2 = true
   ·subst c5
    have H1 : (some (0,0,2)) = some (r1,r2,r3) := by rw [if_pos rfl] at H;exact H
    clear H
    have H := H1
    clear H1
    simp only [Option.some.injEq,Prod.mk.injEq] at H
    obtain ⟨rfl,rfl,rfl⟩ := H
    go_wp2
    go_ret3
    exact ⟨by first|rfl|(simp;done)|(simp [*];done),by repeat (first|exact Drawn0.refl _|apply Drawn0.step)⟩
   ·replace c5 := Bool.eq_false_iff.mpr c5
    subst c5
    have H1 : (codesearchref03_Get.l0 kj2 l0 a1 a1) = some (r1,r2,r3) := by rw [if_neg (show ¬ (false = true) by decide)] at H;exact H
    clear H
    have H := H1
    clear H1
    have HC6 := Aside0.mk H
    clear H
    go_upto_block 0 with (fail)
    go_cut [7] (fun v7 wc => ∃ (kq : Nat) (x7_5 : Int),v7 = .int .i64 x7_5 ∧ Aside0 (codesearchref03_Get.j2 kq l0 a1 x7_5 = some (r1,r2,r3)) ∧ Aside0 (kq ≤ kj2) ∧ Drawn0 w wc)
    case first =>
     have H := HC6.out
     clear HC6
     have H' := Aside0.mk H
     clear H
     go_wp2
     go_loopg [7] kj2 (fun kq v7 w' => ∃ (x7_2 : Int),v7 = .int .i64 x7_2 ∧ Aside0 (codesearchref03_Get.l0 kq l0 a1 x7_2 = some (r1,r2,r3)) ∧ Aside0 (kq ≤ kj2) ∧ Drawn0 w w')
     case atStart => exact ⟨(a1),(by first|rfl|(simp;done)|(simp [*];done)),H',⟨Nat.le_refl _⟩,by repeat (first|exact Drawn0.refl _|apply Drawn0.step)⟩
     case round =>
      clear H'
      try clear c2
      try clear p2
      try clear c4
      try clear c4b0
      try clear c5
      try clear p2
      obtain ⟨x7_2,rfl,HA,HK2,⟨m2,rfl⟩⟩ := hrel
      cases gk with
     |zero => exact absurd HA.out (by simp [codesearchref03_Get.l0])
     |succ k2 =>
       have H := HA.out
       clear HA
       simp only [codesearchref03_Get.l0] at H
       by_cases c7 : x7_2 < (l0.length : Int)
       ·rw [if_pos c7] at H
        have c7b0 : decide (x7_2 < (l0.length : Int)) = true := decide_eq_true c7
        clear c7
        (first|rw [c7b0]|(simp only [i64_w,i32_w];rw [c7b0])|skip)
        by_cases c8 : 0 ≤ x7_2
        ·rw [if_pos c8] at H
         have c8b0 : decide (0 ≤ x7_2) = true := decide_eq_true c8
         clear c8
         by_cases c9 : (rd l0 x7_2) ≥ 128
         ·rw [if_pos c9] at H
          have c9b0 : decide (128 ≤ (rd l0 x7_2)) = true := decide_eq_true c9
          clear c9
          have H' := Aside0.mk H
          clear H
          have p497 : 0 ≤ (x7_2 : Int) := of_decide_eq_true (by first|(with_reducible assumption)|assumption)
          have q497 : x7_2 < (l0.length : Int) := of_decide_eq_true (by first|(with_reducible assumption)|assumption)
          obtain ⟨ad497,e497,hx497_0⟩ := Kd.at_int HR0.out x7_2 p497 q497
          cases e497
          replace p497 := eq_true p497
          replace q497 := eq_true q497
          go_wp2
          go_roundg k2
          case measure => have := HJ2.out;have := HK2.out;omega
          case rel => exact ⟨(wrap64 (x7_2 + 1)),(by first|rfl|(simp;done)|(simp [*];done)),H',⟨by have := HJ2.out;have := HK2.out;omega⟩,by repeat (first|exact Drawn0.refl _|apply Drawn0.step)⟩
         ·rw [if_neg c9] at H
          have c9b0 : decide (128 ≤ (rd l0 x7_2)) = false := decide_eq_false c9
          clear c9
          have H' := Aside0.mk H
          clear H
          have p497 : 0 ≤ (x7_2 : Int) := of_decide_eq_true (by first|(with_reducible assumption)|assumption)
          have q497 : x7_2 < (l0.length : Int) := of_decide_eq_true (by first|(with_reducible assumption)|assumption)
          obtain ⟨ad497,e497,hx497_0⟩ := Kd.at_int HR0.out x7_2 p497 q497
          cases e497
          replace p497 := eq_true p497
          replace q497 := eq_true q497
          go_wp2
          go_meet
          case rel => exact ⟨_,(x7_2),(by first|rfl|(simp;done)|(simp [*];done)),H',⟨by have := HJ2.out;have := HK2.out;first|omega|exact Nat.le_refl _⟩,by repeat (first|exact Drawn0.refl _|apply Drawn0.step)⟩
        ·rw [if_neg c8] at H
         exact absurd H (by simp)
       ·rw [if_neg c7] at H
        have c7b0 : decide (x7_2 < (l0.length : Int)) = false := decide_eq_false c7
        clear c7
        (first|rw [c7b0]|(simp only [i64_w,i32_w];rw [c7b0])|skip)
        have H' := Aside0.mk H
        clear H
        go_wp2
        go_meet
        case rel => exact ⟨_,(x7_2),(by first|rfl|(simp;done)|(simp [*];done)),H',⟨by have := HJ2.out;have := HK2.out;first|omega|exact Nat.le_refl _⟩,by repeat (first|exact Drawn0.refl _|apply Drawn0.step)⟩
    case rest =>
     clear HC6
     try clear c2
     try clear p2
     try clear c4
     try clear c4b0
     try clear p4
     try clear q4
     try clear hx4
     try clear c5
     try clear p6
     try clear c7
     try clear c7b0
     try clear c8
     try clear c8b0
     try clear c9
     try clear c9b0
     try clear hx497_0
     try clear p2
     try clear p497
     try clear q497
     obtain ⟨kq,x7_5,rfl,HA,HJ5,⟨mc5,rfl⟩⟩ := hcut
     cases kq with
    |zero => exact absurd HA.out (by simp [codesearchref03_Get.j2])
    |succ kj5 =>
      have H := HA.out
      clear HA
      simp only [codesearchref03_Get.j2] at H
      by_cases c10 : x7_5 = (l0.length : Int)
      ·rw [if_pos c10] at H
       have c10b0 : (x7_5 == (l0.length : Int)) = true := beq_iff_eq.mpr c10
       have c10b1 : (x7_5 != (l0.length : Int)) = false := bne_eq_false_iff_eq.mpr c10
       clear c10
       simp only [Option.some.injEq,Prod.mk.injEq] at H
       obtain ⟨rfl,rfl,rfl⟩ := H
       go_wp2
       go_ret3
       exact ⟨by first|rfl|(simp;done)|(simp [*];done),by repeat (first|exact Drawn0.refl _|apply Drawn0.step)⟩
      ·rw [if_neg c10] at H
       have c10b0 : (x7_5 == (l0.length : Int)) = false := beq_eq_false_iff_ne.mpr c10
       have c10b1 : (x7_5 != (l0.length : Int)) = true := bne_iff_ne.mpr c10
       by_cases c11 : (wrap64 (x7_5 - a1)) > 8
       ·rw [if_pos c11] at H
        have c11b0 : decide (8 < (wrap64 (x7_5 - a1))) = true := decide_eq_true c11
        clear c11
        simp only [Option.some.injEq,Prod.mk.injEq] at H
        obtain ⟨rfl,rfl,rfl⟩ := H
        go_wp2
        go_ret3
        exact ⟨by first|rfl|(simp;done)|(simp [*];done),by repeat (first|exact Drawn0.refl _|apply Drawn0.step)⟩
       ·rw [if_neg c11] at H
        have c11b0 : decide (8 < (wrap64 (x7_5 - a1))) = false := decide_eq_false c11
        clear c11
        have H' := Aside0.mk H
        clear H
        go_wp2
        go_loopg [8,9] kj5 (fun kq v8 v9 w' => ∃ (x8_3 : Int) (x9_3 : Int),v8 = .int .i64 x8_3 ∧ v9 = .int .i64 x9_3 ∧ Aside0 (codesearchref03_Get.l1 kq l0 a1 x7_5 x8_3 x9_3 = some (r1,r2,r3)) ∧ Aside0 (kq ≤ kj5) ∧ Drawn0 w w')
        case atStart => exact ⟨(0),(x7_5),(by first|rfl|(simp;done)|(simp [*];done)),(by first|rfl|(simp;done)|(simp [*];done)),H',⟨Nat.le_refl _⟩,by repeat (first|exact Drawn0.refl _|apply Drawn0.step)⟩
        case round =>
         clear H'
         try clear c1
         try clear c2
         try clear p2
         try clear c4
         try clear c4b0
         try clear p4
         try clear q4
         try clear hx4
         try clear c5
         try clear p6
         try clear c7
         try clear c7b0
         try clear c8
         try clear c8b0
         try clear c9
         try clear c9b0
         try clear c10
         try clear c10b0
         try clear c10b1
         try clear c11
         try clear c11b0
         try clear hx497_0
         try clear p2
         try clear p4
         try clear p497
         try clear p6
         try clear q4
         try clear q497
         obtain ⟨x8_3,x9_3,rfl,rfl,HA,HK3,⟨m3,rfl⟩⟩ := hrel
         cases gk with
        |zero => exact absurd HA.out (by simp [codesearchref03_Get.l1])
        |succ k3 =>
          have H := HA.out
          clear HA
          simp only [codesearchref03_Get.l1] at H
          by_cases c12 : x9_3 ≥ a1
          ·rw [if_pos c12] at H
           have c12b0 : decide (a1 ≤ x9_3) = true := decide_eq_true c12
           clear c12
           by_cases c13 : 0 ≤ x9_3
           ·rw [if_pos c13] at H
            have c13b0 : decide (0 ≤ x9_3) = true := decide_eq_true c13
            clear c13
            by_cases c14 : x9_3 < (l0.length : Int)
            ·rw [if_pos c14] at H
             have c14b0 : decide (x9_3 < (l0.length : Int)) = true := decide_eq_true c14
             clear c14
             have H' := Aside0.mk H
             clear H
             have p498 : 0 ≤ (x9_3 : Int) := of_decide_eq_true (by first|(with_reducible assumption)|assumption)
             have q498 : x9_3 < (l0.length : Int) := of_decide_eq_true (by first|(with_reducible assumption)|assumption)
             obtain ⟨ad498,e498,hx498_0⟩ := Kd.at_int HR0.out x9_3 p498 q498
             cases e498
             replace p498 := eq_true p498
             replace q498 := eq_true q498
             go_wp2
             go_roundg k3
             case measure => have := HJ2.out;have := HJ5.out;have := HK3.out;omega
             case rel => exact ⟨(wrap64 ((wrap64 (x8_3 * 128)) + (Int.tmod (wrap64 (rd l0 x9_3)) 128))),(wrap64 (x9_3 - 1)),(by first|rfl|(simp;done)|(simp [*];done)),(by first|rfl|(simp;done)|(simp [*];done)),H',⟨by have := HJ2.out;have := HJ5.out;have := HK3.out;omega⟩,by repeat (first|exact Drawn0.refl _|apply Drawn0.step)⟩
            ·rw [if_neg c14] at H
             exact absurd H (by simp)
           ·rw [if_neg c13] at H
            exact absurd H (by simp)
          ·rw [if_neg c12] at H
           have c12b0 : decide (a1 ≤ x9_3) = false := decide_eq_false c12
           clear c12
           by_cases c15 : x8_3 > 4611686018427387904
           ·rw [if_pos c15] at H
            have c15b0 : decide (4611686018427387904 < x8_3) = true := decide_eq_true c15
            clear c15
            simp only [Option.some.injEq,Prod.mk.injEq] at H
            obtain ⟨rfl,rfl,rfl⟩ := H
            go_wp2
            go_ret3
            exact ⟨by first|rfl|(simp;done)|(simp [*];done),by repeat (first|exact Drawn0.refl _|apply Drawn0.step)⟩
           ·rw [if_neg c15] at H
            have c15b0 : decide (4611686018427387904 < x8_3) = false := decide_eq_false c15
            clear c15
            by_cases c16 : x7_5 > a1
            ·rw [if_pos c16] at H
             have c16b0 : decide (a1 < x7_5) = true := decide_eq_true c16
             clear c16
             by_cases c17 : 0 ≤ x7_5
             ·rw [if_pos c17] at H
              have c17b0 : decide (0 ≤ x7_5) = true := decide_eq_true c17
              clear c17
              by_cases c18 : x7_5 < (l0.length : Int)
              ·rw [if_pos c18] at H
               have c18b0 : decide (x7_5 < (l0.length : Int)) = true := decide_eq_true c18
               clear c18
               by_cases c19 : (rd l0 x7_5) = 0
               ·rw [if_pos c19] at H
                have c19b0 : ((rd l0 x7_5) == 0) = true := beq_iff_eq.mpr c19
                have c19b1 : ((rd l0 x7_5) != 0) = false := bne_eq_false_iff_eq.mpr c19
                clear c19
                simp only [Option.some.injEq,Prod.mk.injEq] at H
                obtain ⟨rfl,rfl,rfl⟩ := H
                have p499 : 0 ≤ (x7_5 : Int) := of_decide_eq_true (by first|(with_reducible assumption)|assumption)
                have q499 : x7_5 < (l0.length : Int) := of_decide_eq_true (by first|(with_reducible assumption)|assumption)
                obtain ⟨ad499,e499,hx499_0⟩ := Kd.at_int HR0.out x7_5 p499 q499
                cases e499
                replace p499 := eq_true p499
                replace q499 := eq_true q499
                go_wp2
                go_ret3
                exact ⟨by first|rfl|(simp;done)|(simp [*];done),by repeat (first|exact Drawn0.refl _|apply Drawn0.step)⟩
               ·rw [if_neg c19] at H
                have c19b0 : ((rd l0 x7_5) == 0) = false := beq_eq_false_iff_ne.mpr c19
                have c19b1 : ((rd l0 x7_5) != 0) = true := bne_iff_ne.mpr c19
                simp only [Option.some.injEq,Prod.mk.injEq] at H
                obtain ⟨rfl,rfl,rfl⟩ := H
                have p499 : 0 ≤ (x7_5 : Int) := of_decide_eq_true (by first|(with_reducible assumption)|assumption)
                have q499 : x7_5 < (l0.length : Int) := of_decide_eq_true (by first|(with_reducible assumption)|assumption)
                obtain ⟨ad499,e499,hx499_0⟩ := Kd.at_int HR0.out x7_5 p499 q499
                cases e499
                replace p499 := eq_true p499
                replace q499 := eq_true q499
                go_wp2
                go_ret3
                exact ⟨by first|rfl|(simp;done)|(simp [*];done),by repeat (first|exact Drawn0.refl _|apply Drawn0.step)⟩
              ·rw [if_neg c18] at H
               exact absurd H (by simp)
             ·rw [if_neg c17] at H
              exact absurd H (by simp)
            ·rw [if_neg c16] at H
             have c16b0 : decide (a1 < x7_5) = false := decide_eq_false c16
             clear c16
             simp only [Option.some.injEq,Prod.mk.injEq] at H
             obtain ⟨rfl,rfl,rfl⟩ := H
             go_wp2
             go_ret3
             exact ⟨by first|rfl|(simp;done)|(simp [*];done),by repeat (first|exact Drawn0.refl _|apply Drawn0.step)⟩

/-! ### codesearchref05_skip: function 47 -/
def codesearchref05_skip.l0 : Nat → List Int → Int → Int → Int → Option (Int)
|0,_,_,_,_ => none
|k + 1,x0,x1,x2,x7 => if x7 < x2 then ((codesearchref03_Get.f k x0 x1).bind fun bt500 => (if bt500.2.2 = 0 then (codesearchref05_skip.l0 k x0 bt500.2.1 x2 (wrap64 (x7 + 1))) else (some (-1)))) else (some x1)
def codesearchref05_skip.f (k : Nat) (l0 : List Int) (a1 : Int) (a2 : Int) : Option (Int) := codesearchref05_skip.l0 k l0 a1 a2 0
theorem codesearchref05_skip.mono_l : ∀ k, (∀ y0 y1 y2 y3, LeO (codesearchref05_skip.l0 k y0 y1 y2 y3) (codesearchref05_skip.l0 (k + 1) y0 y1 y2 y3))
|0 => fun _ _ _ _ r h => by simp [codesearchref05_skip.l0] at h
|k + 1 => by
  have ih0 := codesearchref05_skip.mono_l k
  ·intro y0 y1 y2 y3
   unfold codesearchref05_skip.l0
   repeat' first
  |(with_reducible exact ih0 _ _ _ _)
  |(with_reducible exact codesearchref03_Get.mono _ _ _)
  |(with_reducible exact LeO.refl _)
  |(with_reducible exact LeO.none _)
  |(with_reducible refine LeO.ite ?_ ?_)
  |(with_reducible refine LeO.bind ?_ (fun _ => ?_))
  |exact ih0 _ _ _ _
  |exact codesearchref03_Get.mono _ _ _
  |exact LeO.none _
  |refine LeO.ite ?_ ?_
  |refine LeO.bind ?_ (fun _ => ?_)
theorem codesearchref05_skip.mono : ∀ a0 a1 a2 k, LeO (codesearchref05_skip.f k a0 a1 a2) (codesearchref05_skip.f (k + 1) a0 a1 a2) := by
 intro a0 a1 a2 k
 have ih0 := codesearchref05_skip.mono_l k
 unfold codesearchref05_skip.f
 repeat' first
  |(with_reducible exact ih0 _ _ _ _)
  |(with_reducible exact codesearchref03_Get.mono _ _ _)
  |(with_reducible exact LeO.refl _)
  |(with_reducible exact LeO.none _)
  |(with_reducible refine LeO.ite ?_ ?_)
  |(with_reducible refine LeO.bind ?_ (fun _ => ?_))
  |exact ih0 _ _ _ _
  |exact codesearchref03_Get.mono _ _ _
  |exact LeO.none _
  |refine LeO.ite ?_ ?_
  |refine LeO.bind ?_ (fun _ => ?_)
set_option maxHeartbeats 4000000 in
set_option maxRecDepth 100000 in
theorem codesearchref05_skip.calls (k : Nat) (A0 : Option Addr) (c0 : Nat) (l0 : List Int) (a1 : Int) (a2 : Int) (r : Int) (w : World) (hr0 : Kd.C (Kd.int .u8) w A0 l0.length l0) (hc0 : l0.length ≤ c0) (h : codesearchref05_skip.f k l0 a1 a2 = some r) :
  Calls Try.prog 47 #[.slice A0 l0.length c0,.int .i64 a1,.int .i64 a2] w fun e w' => e = .returned (.int .i64 r) ∧ Drawn0 w w' := by
 have HR0 := Aside0.mk hr0
 have HC0 := Aside0.mk hc0
 clear hr0 hc0
 have H : (codesearchref05_skip.l0 k l0 a1 a2 0) = some r := h
 clear h
 have H' := Aside0.mk H
 clear H
 go_enter Try.func47,Try.ntmps47
 go_wp2
 go_loopg [1,7] k (fun kq v1 v7 w' => ∃ (x1_1 : Int) (x7_1 : Int),v1 = .int .i64 x1_1 ∧ v7 = .int .i64 x7_1 ∧ Aside0 (codesearchref05_skip.l0 kq l0 x1_1 a2 x7_1 = some r) ∧ Aside0 (kq ≤ k) ∧ Drawn0 w w')
 case atStart => exact ⟨(a1),(0),(by first|rfl|(simp;done)|(simp [*];done)),(by first|rfl|(simp;done)|(simp [*];done)),H',⟨Nat.le_refl _⟩,by repeat (first|exact Drawn0.refl _|apply Drawn0.step)⟩
 case round =>
  clear H'
  try clear p2
  obtain ⟨x1_1,x7_1,rfl,rfl,HA,HK1,⟨m1,rfl⟩⟩ := hrel
  cases gk with
 |zero => exact absurd HA.out (by simp [codesearchref05_skip.l0])
 |succ k1 =>
   have H := HA.out
   clear HA
   simp only [codesearchref05_skip.l0] at H
   by_cases c4 : x7_1 < a2
   ·rw [if_pos c4] at H
    have c4b0 : decide (x7_1 < a2) = true := decide_eq_true c4
    clear c4
    replace H := Option.bind_eq_some_iff.mp H
    obtain ⟨⟨t500,t501,t502⟩,A50,H⟩ := H
    replace H : (if t502 = 0 then (codesearchref05_skip.l0 k1 l0 t501 a2 (wrap64 (x7_1 + 1))) else (some (-1))) = some r := H
    have A5 := Aside0.mk A50
    clear A50
    by_cases c6 : t502 = 0
    ·rw [if_pos c6] at H
     have c6b0 : (t502 == 0) = true := beq_iff_eq.mpr c6
     have c6b1 : (t502 != 0) = false := bne_eq_false_iff_eq.mpr c6
     clear c6
     have H' := Aside0.mk H
     clear H
     go_wp2_with (first|((with_reducible refine gate_callee (f := 46) rfl ?_);refine goesL_ (some 19) rfl rfl Try.func46 (by kernel_rfl) rfl #[.slice A0 l0.length c0,.int .i64 x1_1] rfl (by (try simp only [List.map_toArray,List.map_cons,List.map_nil]);first|done|rfl|(simp only [List.length_drop,List.length_take];rfl)) ?_;(with_reducible refine (codesearchref03_Get.calls k1 _ _ l0 x1_1 t500 t501 t502 _ ?side1 ?side2 A5.out).mono ?_);(case side1 => exact cM HR0.out);(case side2 => exact HC0.out);rintro e w' ⟨rfl,⟨nd,rfl⟩⟩;refine ⟨_,rfl,?_⟩))
     go_roundg k1
     case measure => have := HK1.out;omega
     case rel => exact ⟨(t501),(wrap64 (x7_1 + 1)),(by first|rfl|(simp;done)|(simp [*];done)),(by first|rfl|(simp;done)|(simp [*];done)),H',⟨by have := HK1.out;omega⟩,by repeat (first|exact Drawn0.refl _|apply Drawn0.step)⟩
    ·rw [if_neg c6] at H
     have c6b0 : (t502 == 0) = false := beq_eq_false_iff_ne.mpr c6
     have c6b1 : (t502 != 0) = true := bne_iff_ne.mpr c6
     obtain rfl := Option.some.inj H
     go_wp2_with (first|((with_reducible refine gate_callee (f := 46) rfl ?_);refine goesL_ (some 19) rfl rfl Try.func46 (by kernel_rfl) rfl #[.slice A0 l0.length c0,.int .i64 x1_1] rfl (by (try simp only [List.map_toArray,List.map_cons,List.map_nil]);first|done|rfl|(simp only [List.length_drop,List.length_take];rfl)) ?_;(with_reducible refine (codesearchref03_Get.calls k1 _ _ l0 x1_1 t500 t501 t502 _ ?side1 ?side2 A5.out).mono ?_);(case side1 => exact cM HR0.out);(case side2 => exact HC0.out);rintro e w' ⟨rfl,⟨nd,rfl⟩⟩;refine ⟨_,rfl,?_⟩))
     go_ret
     exact ⟨by first|rfl|(simp;done)|(simp [*];done),by repeat (first|exact Drawn0.refl _|apply Drawn0.step)⟩
   ·rw [if_neg c4] at H
    have c4b0 : decide (x7_1 < a2) = false := decide_eq_false c4
    clear c4
    obtain rfl := Option.some.inj H
    go_wp2
    go_ret
    exact ⟨by first|rfl|(simp;done)|(simp [*];done),by repeat (first|exact Drawn0.refl _|apply Drawn0.step)⟩

end Go.Proofs.Ytknpmknkkofnjaa.P
