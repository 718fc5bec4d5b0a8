-- Written by hp.py, a program of this session, over the kit's print of the translation. Not trusted: Lean checks it.
import Derived.Test.YtpnhamfodjfacaaDoorMx0
import Derived.Test.YtpnhamfodjfacaaDoorMx9
namespace Go.Proofs.YtpnhamfodjfacaaDoor.M
open Go.RowKit Go.Proofs.YtpnhamfodjfacaaDoorW.PrintWords Go.Proofs.YtpnhamfodjfacaaDoorW.PrintLast Go.Proofs.YtpnhamfodjfacaaDoorW.PrintMore
attribute [local go_sem] max2_int min2_int max_two min_two max_three min_three max_four min_four   -- for this text's walks alone
set_option linter.unusedVariables false
set_option linter.unusedSimpArgs false

/-! ### codesearchref25_Right: function 13 -/
mutual
def codesearchref25_Right.l0 : Nat → List (S45) → Int → Option (Int)
|0,_,_ => none
|k + 1,x0,x3 => if x3 < (x0.length : Int) then (if 0 ≤ x3 then ((codesearchref02_ValidPath.f k ((rd_T45 x0 x3).f0)).bind fun t238 => (if t238 = true then (if ((rd_T45 x0 x3).f1) < 1 then (codesearchref25_Right.j1 k x0 x3 true) else (codesearchref25_Right.j1 k x0 x3 (decide (((rd_T45 x0 x3).f1) > 9999)))) else (some 3))) else (none)) else (some 0)
def codesearchref25_Right.j1 : Nat → List (S45) → Int → Bool → Option (Int)
|0,_,_,_ => none
|k + 1,x0,x3,x34 => if x34 = true then (some 2) else (if x3 > 0 then (if 0 ≤ x3 then (if x3 < (x0.length : Int) then (if 0 ≤ (wrap64 (x3 - 1)) then (if (wrap64 (x3 - 1)) < (x0.length : Int) then (codesearchref25_Right.j2 k x0 x3 (!(Op.bytesLess (((rd_T45 x0 (wrap64 (x3 - 1))).f0).toList) (((rd_T45 x0 x3).f0).toList)))) else (none)) else (none)) else (none)) else (none)) else (codesearchref25_Right.j2 k x0 x3 false))
def codesearchref25_Right.j2 : Nat → List (S45) → Int → Bool → Option (Int)
|0,_,_,_ => none
|k + 1,x0,x3,x50 => if x50 = true then (some 7) else (codesearchref25_Right.l1 k x0 x3 0)
def codesearchref25_Right.l1 : Nat → List (S45) → Int → Int → Option (Int)
|0,_,_,_ => none
|k + 1,x0,x3,x4 => if x4 < (x0.length : Int) then (if x4 = x3 then (codesearchref25_Right.l1 k x0 x3 (wrap64 (x4 + 1))) else (if 0 ≤ x3 then (if x3 < (x0.length : Int) then (if 0 ≤ x4 then ((codesearchref02_Under.f ((rd_T45 x0 x3).f0) ((rd_T45 x0 x4).f0)).bind fun t245 => (if t245 = true then (some 14) else (codesearchref25_Right.l1 k x0 x3 (wrap64 (x4 + 1))))) else (none)) else (none)) else (none))) else (codesearchref25_Right.l0 k x0 (wrap64 (x3 + 1)))
end
def codesearchref25_Right.f (k : Nat) (l0 : List (S45)) : Option (Int) := if (l0.length : Int) > 32 then (some 4) else (codesearchref25_Right.l0 k l0 0)
theorem codesearchref25_Right.mono_l : ∀ k, (∀ y0 y1, LeO (codesearchref25_Right.l0 k y0 y1) (codesearchref25_Right.l0 (k + 1) y0 y1)) ∧ (∀ y0 y1 y2, LeO (codesearchref25_Right.j1 k y0 y1 y2) (codesearchref25_Right.j1 (k + 1) y0 y1 y2)) ∧ (∀ y0 y1 y2, LeO (codesearchref25_Right.j2 k y0 y1 y2) (codesearchref25_Right.j2 (k + 1) y0 y1 y2)) ∧ (∀ y0 y1 y2, LeO (codesearchref25_Right.l1 k y0 y1 y2) (codesearchref25_Right.l1 (k + 1) y0 y1 y2))
|0 => ⟨fun _ _ r h => by simp [codesearchref25_Right.l0] at h,fun _ _ _ r h => by simp [codesearchref25_Right.j1] at h,fun _ _ _ r h => by simp [codesearchref25_Right.j2] at h,fun _ _ _ r h => by simp [codesearchref25_Right.l1] at h⟩
|k + 1 => by
  obtain ⟨ih0,ih1,ih2,ih3⟩ := codesearchref25_Right.mono_l k
  refine ⟨?_,?_,?_,?_⟩
  ·intro y0 y1
   unfold codesearchref25_Right.l0
   repeat' first
  |(with_reducible exact ih0 _ _)
  |(with_reducible exact ih1 _ _ _)
  |(with_reducible exact ih2 _ _ _)
  |(with_reducible exact ih3 _ _ _)
  |(with_reducible exact codesearchref02_ValidPath.mono _ _)
  |(with_reducible exact LeO.refl _)
  |(with_reducible exact LeO.none _)
  |(with_reducible refine LeO.ite ?_ ?_)
  |(with_reducible refine LeO.bind ?_ (fun _ => ?_))
  |exact ih0 _ _
  |exact ih1 _ _ _
  |exact ih2 _ _ _
  |exact ih3 _ _ _
  |exact codesearchref02_ValidPath.mono _ _
  |exact LeO.none _
  |refine LeO.ite ?_ ?_
  |refine LeO.bind ?_ (fun _ => ?_)
  ·intro y0 y1 y2
   unfold codesearchref25_Right.j1
   repeat' first
  |(with_reducible exact ih0 _ _)
  |(with_reducible exact ih1 _ _ _)
  |(with_reducible exact ih2 _ _ _)
  |(with_reducible exact ih3 _ _ _)
  |(with_reducible exact codesearchref02_ValidPath.mono _ _)
  |(with_reducible exact LeO.refl _)
  |(with_reducible exact LeO.none _)
  |(with_reducible refine LeO.ite ?_ ?_)
  |(with_reducible refine LeO.bind ?_ (fun _ => ?_))
  |exact ih0 _ _
  |exact ih1 _ _ _
  |exact ih2 _ _ _
  |exact ih3 _ _ _
  |exact codesearchref02_ValidPath.mono _ _
  |exact LeO.none _
  |refine LeO.ite ?_ ?_
  |refine LeO.bind ?_ (fun _ => ?_)
  ·intro y0 y1 y2
   unfold codesearchref25_Right.j2
   repeat' first
  |(with_reducible exact ih0 _ _)
  |(with_reducible exact ih1 _ _ _)
  |(with_reducible exact ih2 _ _ _)
  |(with_reducible exact ih3 _ _ _)
  |(with_reducible exact codesearchref02_ValidPath.mono _ _)
  |(with_reducible exact LeO.refl _)
  |(with_reducible exact LeO.none _)
  |(with_reducible refine LeO.ite ?_ ?_)
  |(with_reducible refine LeO.bind ?_ (fun _ => ?_))
  |exact ih0 _ _
  |exact ih1 _ _ _
  |exact ih2 _ _ _
  |exact ih3 _ _ _
  |exact codesearchref02_ValidPath.mono _ _
  |exact LeO.none _
  |refine LeO.ite ?_ ?_
  |refine LeO.bind ?_ (fun _ => ?_)
  ·intro y0 y1 y2
   unfold codesearchref25_Right.l1
   repeat' first
  |(with_reducible exact ih0 _ _)
  |(with_reducible exact ih1 _ _ _)
  |(with_reducible exact ih2 _ _ _)
  |(with_reducible exact ih3 _ _ _)
  |(with_reducible exact codesearchref02_ValidPath.mono _ _)
  |(with_reducible exact LeO.refl _)
  |(with_reducible exact LeO.none _)
  |(with_reducible refine LeO.ite ?_ ?_)
  |(with_reducible refine LeO.bind ?_ (fun _ => ?_))
  |exact ih0 _ _
  |exact ih1 _ _ _
  |exact ih2 _ _ _
  |exact ih3 _ _ _
  |exact codesearchref02_ValidPath.mono _ _
  |exact LeO.none _
  |refine LeO.ite ?_ ?_
  |refine LeO.bind ?_ (fun _ => ?_)
theorem codesearchref25_Right.mono : ∀ a0 k, LeO (codesearchref25_Right.f k a0) (codesearchref25_Right.f (k + 1) a0) := by
 intro a0 k
 obtain ⟨ih0,ih1,ih2,ih3⟩ := codesearchref25_Right.mono_l k
 unfold codesearchref25_Right.f
 repeat' first
  |(with_reducible exact ih0 _ _)
  |(with_reducible exact ih1 _ _ _)
  |(with_reducible exact ih2 _ _ _)
  |(with_reducible exact ih3 _ _ _)
  |(with_reducible exact codesearchref02_ValidPath.mono _ _)
  |(with_reducible exact LeO.refl _)
  |(with_reducible exact LeO.none _)
  |(with_reducible refine LeO.ite ?_ ?_)
  |(with_reducible refine LeO.bind ?_ (fun _ => ?_))
  |exact ih0 _ _
  |exact ih1 _ _ _
  |exact ih2 _ _ _
  |exact ih3 _ _ _
  |exact codesearchref02_ValidPath.mono _ _
  |exact LeO.none _
  |refine LeO.ite ?_ ?_
  |refine LeO.bind ?_ (fun _ => ?_)
set_option maxHeartbeats 4000000 in
set_option maxRecDepth 100000 in
theorem codesearchref25_Right.calls (k : Nat) (A0 : Option Addr) (c0 : Nat) (l0 : List (S45)) (r : Int) (w : World) (hr0 : Kd.C k45 w A0 l0.length l0) (hc0 : l0.length ≤ c0) (h : codesearchref25_Right.f k l0 = some r) :
  Calls Tryd.prog 13 #[.slice A0 l0.length c0] w fun e w' => e = .returned (.int .i64 r) ∧ Drawn0 w w' := by
 have HR0 := Aside0.mk hr0
 have HC0 := Aside0.mk hc0
 clear hr0 hc0
 have H : (if (l0.length : Int) > 32 then (some 4) else (codesearchref25_Right.l0 k l0 0)) = some r := h
 clear h
 by_cases c2 : (l0.length : Int) > 32
 ·rw [if_pos c2] at H
  have c2b0 : decide (32 < (l0.length : Int)) = true := decide_eq_true c2
  have c2b1 : decide (32 < l0.length) = true := decide_eq_true (by omega)
  clear c2
  obtain rfl := Option.some.inj H
  go_enter Tryd.func13,Tryd.ntmps13
  go_wp2
  repeat (go_quiet (fail);try go_wp2)
  go_ret
  exact ⟨by first|rfl|(simp;done)|(simp [*];done),by repeat (first|exact Drawn0.refl _|apply Drawn0.step)⟩
 ·rw [if_neg c2] at H
  have c2b0 : decide (32 < (l0.length : Int)) = false := decide_eq_false c2
  have c2b1 : decide (32 < l0.length) = false := decide_eq_false (by omega)
  clear c2
  have H' := Aside0.mk H
  clear H
  go_enter Tryd.func13,Tryd.ntmps13
  go_wp2
  repeat (go_quiet (fail);try go_wp2)
  go_loopg [3] k (fun kq v3 w' => ∃ (x3_1 : Int),v3 = .int .i64 x3_1 ∧ Aside0 (codesearchref25_Right.l0 kq l0 x3_1 = some r) ∧ Aside0 (kq ≤ k) ∧ Drawn0 w w')
  case atStart => exact ⟨(0),(by first|rfl|(simp;done)|(simp [*];done)),H',⟨Nat.le_refl _⟩,by repeat (first|exact Drawn0.refl _|apply Drawn0.step)⟩
  case round =>
   clear H'
   try clear c1
   try clear c2
   try clear c2b0
   try clear c2b1
   try clear p2
   obtain ⟨x3_1,rfl,HA,HK1,⟨m1,rfl⟩⟩ := hrel
   cases gk with
  |zero => exact absurd HA.out (by simp [codesearchref25_Right.l0])
  |succ k1 =>
    have H := HA.out
    clear HA
    simp only [codesearchref25_Right.l0] at H
    by_cases c3 : x3_1 < (l0.length : Int)
    ·rw [if_pos c3] at H
     have c3b0 : decide (x3_1 < (l0.length : Int)) = true := decide_eq_true c3
     clear c3
     by_cases c4 : 0 ≤ x3_1
     ·rw [if_pos c4] at H
      have c4b0 : decide (0 ≤ x3_1) = true := decide_eq_true c4
      clear c4
      replace H := Option.bind_eq_some_iff.mp H
      obtain ⟨t238,A50,H⟩ := H
      replace H : (if t238 = true then (if ((rd_T45 l0 x3_1).f1) < 1 then (codesearchref25_Right.j1 k1 l0 x3_1 true) else (codesearchref25_Right.j1 k1 l0 x3_1 (decide (((rd_T45 l0 x3_1).f1) > 9999)))) else (some 3)) = some r := H
      have A5 := Aside0.mk A50
      clear A50
      by_cases c6 : t238 = true
      ·subst c6
       have H1 : (if ((rd_T45 l0 x3_1).f1) < 1 then (codesearchref25_Right.j1 k1 l0 x3_1 true) else (codesearchref25_Right.j1 k1 l0 x3_1 (decide (((rd_T45 l0 x3_1).f1) > 9999)))) = some r := by rw [if_pos rfl] at H;exact H
       clear H
       have H := H1
       clear H1
       have HC7 := Aside0.mk H
       clear H
       have p237 : 0 ≤ (x3_1 : Int) := of_decide_eq_true (by first|(with_reducible assumption)|assumption)
       have q237 : x3_1 < (l0.length : Int) := of_decide_eq_true (by first|(with_reducible assumption)|assumption)
       obtain ⟨ad237,e237,hx237_0,hx237_1⟩ := at_T45 HR0.out x3_1 p237 q237
       cases e237
       replace p237 := eq_true p237
       replace q237 := eq_true q237
       go_upto_region 8 with (first|(go_at_call 33;(with_reducible refine (codesearchref02_ValidPath.calls k1 ((rd_T45 l0 x3_1).f0) true _ A5.out).mono ?_);rintro e w' ⟨rfl,⟨nd,rfl⟩⟩;(try first|exact ⟨rfl,_,World.drewN_drewN _ _ _⟩|exact ⟨rfl,_,Eq.trans (World.drewN_drewN _ _ _) (congrArg (World.drewN _) (Nat.add_assoc _ _ _))⟩)))
       repeat (go_quiet (first|(go_at_call 33;(with_reducible refine (codesearchref02_ValidPath.calls k1 ((rd_T45 l0 x3_1).f0) true _ A5.out).mono ?_);rintro e w' ⟨rfl,⟨nd,rfl⟩⟩;(try first|exact ⟨rfl,_,World.drewN_drewN _ _ _⟩|exact ⟨rfl,_,Eq.trans (World.drewN_drewN _ _ _) (congrArg (World.drewN _) (Nat.add_assoc _ _ _))⟩)));go_upto_region 8 with (first|(go_at_call 33;(with_reducible refine (codesearchref02_ValidPath.calls k1 ((rd_T45 l0 x3_1).f0) true _ A5.out).mono ?_);rintro e w' ⟨rfl,⟨nd,rfl⟩⟩;(try first|exact ⟨rfl,_,World.drewN_drewN _ _ _⟩|exact ⟨rfl,_,Eq.trans (World.drewN_drewN _ _ _) (congrArg (World.drewN _) (Nat.add_assoc _ _ _))⟩))))
       (try simp only [Act.put,List.setIfInBounds_toArray,List.set_cons_zero,List.set_cons_succ])
       go_cut [34] (fun v34 wc => ∃ (kq : Nat) (x34_6 : Bool),v34 = .bool x34_6 ∧ Aside0 (codesearchref25_Right.j1 kq l0 x3_1 x34_6 = some r) ∧ Aside0 (kq ≤ k1) ∧ Drawn0 w wc)
       case first =>
        have H := HC7.out
        clear HC7
        by_cases c8 : ((rd_T45 l0 x3_1).f1) < 1
        ·rw [if_pos c8] at H
         have c8b0 : decide (((rd_T45 l0 x3_1).f1) < 1) = true := decide_eq_true c8
         clear c8
         (first|rw [c8b0]|(simp only [i64_w,i32_w];rw [c8b0])|rw [c8b1]|skip)
         have H' := Aside0.mk H
         clear H
         have p239 : 0 ≤ (x3_1 : Int) := of_decide_eq_true (by first|(with_reducible assumption)|assumption)
         have q239 : x3_1 < (l0.length : Int) := of_decide_eq_true (by first|(with_reducible assumption)|assumption)
         obtain ⟨ad239,e239,hx239_0,hx239_1⟩ := at_T45 HR0.out x3_1 p239 q239
         obtain rfl : ad237 = ad239 := (by injection e239)
         replace p239 := eq_true p239
         replace q239 := eq_true q239
         go_wp2
         repeat (go_quiet (fail);try go_wp2)
         go_meet
         case rel => exact ⟨_,(true),(by first|rfl|(simp;done)|(simp [*];done)),H',⟨by have := HK1.out;first|omega|exact Nat.le_refl _⟩,by repeat (first|exact Drawn0.refl _|apply Drawn0.step)⟩
        ·rw [if_neg c8] at H
         have c8b0 : decide (((rd_T45 l0 x3_1).f1) < 1) = false := decide_eq_false c8
         clear c8
         (first|rw [c8b0]|(simp only [i64_w,i32_w];rw [c8b0])|rw [c8b1]|skip)
         have H' := Aside0.mk H
         clear H
         have p239 : 0 ≤ (x3_1 : Int) := of_decide_eq_true (by first|(with_reducible assumption)|assumption)
         have q239 : x3_1 < (l0.length : Int) := of_decide_eq_true (by first|(with_reducible assumption)|assumption)
         obtain ⟨ad239,e239,hx239_0,hx239_1⟩ := at_T45 HR0.out x3_1 p239 q239
         obtain rfl : ad237 = ad239 := (by injection e239)
         replace p239 := eq_true p239
         replace q239 := eq_true q239
         have p240 : 0 ≤ (x3_1 : Int) := of_decide_eq_true (by first|(with_reducible assumption)|assumption)
         have q240 : x3_1 < (l0.length : Int) := of_decide_eq_true (by first|(with_reducible assumption)|assumption)
         obtain ⟨ad240,e240,hx240_0,hx240_1⟩ := at_T45 HR0.out x3_1 p240 q240
         obtain rfl : ad237 = ad240 := (by injection e240)
         replace p240 := eq_true p240
         replace q240 := eq_true q240
         go_wp2
         repeat (go_quiet (fail);try go_wp2)
         go_meet
         case rel => exact ⟨_,(decide (((rd_T45 l0 x3_1).f1) > 9999)),(by first|rfl|(simp;done)|(simp [*];done)),H',⟨by have := HK1.out;first|omega|exact Nat.le_refl _⟩,by repeat (first|exact Drawn0.refl _|apply Drawn0.step)⟩
       case rest =>
        clear HC7
        try clear c1
        try clear c2
        try clear c2b0
        try clear c2b1
        try clear p2
        try clear q2
        try clear hx2
        try clear c3
        try clear c3b0
        try clear c4
        try clear c4b0
        try clear c6
        try clear c8
        try clear c8b0
        try clear hx237_0
        try clear hx237_1
        try clear hx239_0
        try clear hx239_1
        try clear hx240_0
        try clear hx240_1
        try clear p2
        try clear p237
        try clear p239
        try clear p240
        try clear q237
        try clear q239
        try clear q240
        obtain ⟨kq,x34_6,rfl,HA,HJ6,⟨mc6,rfl⟩⟩ := hcut
        cases kq with
       |zero => exact absurd HA.out (by simp [codesearchref25_Right.j1])
       |succ kj6 =>
         have H := HA.out
         clear HA
         simp only [codesearchref25_Right.j1] at H
         by_cases c9 : x34_6 = true
         ·subst c9
          have H1 : (some 2) = some r := by rw [if_pos rfl] at H;exact H
          clear H
          have H := H1
          clear H1
          obtain rfl := Option.some.inj H
          go_wp2
          repeat (go_quiet (fail);try go_wp2)
          go_ret
          exact ⟨by first|rfl|(simp;done)|(simp [*];done),by repeat (first|exact Drawn0.refl _|apply Drawn0.step)⟩
         ·replace c9 := Bool.eq_false_iff.mpr c9
          subst c9
          have H1 : (if x3_1 > 0 then (if 0 ≤ x3_1 then (if x3_1 < (l0.length : Int) then (if 0 ≤ (wrap64 (x3_1 - 1)) then (if (wrap64 (x3_1 - 1)) < (l0.length : Int) then (codesearchref25_Right.j2 kj6 l0 x3_1 (!(Op.bytesLess (((rd_T45 l0 (wrap64 (x3_1 - 1))).f0).toList) (((rd_T45 l0 x3_1).f0).toList)))) else (none)) else (none)) else (none)) else (none)) else (codesearchref25_Right.j2 kj6 l0 x3_1 false)) = some r := by rw [if_neg (show ¬ (false = true) by decide)] at H;exact H
          clear H
          have H := H1
          clear H1
          have HC10 := Aside0.mk H
          clear H
          go_upto_region 10 with (fail)
          repeat (go_quiet (fail);go_upto_region 10 with (fail))
          go_cut [50] (fun v50 wc => ∃ (kq : Nat) (x50_9 : Bool),v50 = .bool x50_9 ∧ Aside0 (codesearchref25_Right.j2 kq l0 x3_1 x50_9 = some r) ∧ Aside0 (kq ≤ kj6) ∧ Drawn0 w wc)
          case first =>
           have H := HC10.out
           clear HC10
           by_cases c11 : x3_1 > 0
           ·rw [if_pos c11] at H
            have c11b0 : decide (0 < x3_1) = true := decide_eq_true c11
            clear c11
            (first|rw [c11b0]|(simp only [i64_w,i32_w];rw [c11b0])|rw [c11b1]|skip)
            by_cases c12 : 0 ≤ x3_1
            ·rw [if_pos c12] at H
             have c12b0 : decide (0 ≤ x3_1) = true := decide_eq_true c12
             clear c12
             by_cases c13 : x3_1 < (l0.length : Int)
             ·rw [if_pos c13] at H
              have c13b0 : decide (x3_1 < (l0.length : Int)) = true := decide_eq_true c13
              clear c13
              obtain ⟨ji14,hji14⟩ : ∃ j_ : Int,(wrap64 (x3_1 - 1)) = j_ := ⟨_,rfl⟩
              replace H : (if 0 ≤ (ji14) then (if (ji14) < (l0.length : Int) then (codesearchref25_Right.j2 kj6 l0 x3_1 (!(Op.bytesLess (((rd_T45 l0 (ji14)).f0).toList) (((rd_T45 l0 x3_1).f0).toList)))) else (none)) else (none)) = some r := by first|(rw [hji14] at H;exact H)|(simp only [hji14] at H ⊢;exact H)
              have hji14w : (IntKind.i64.wrap (x3_1 - 1)) = ji14 := (i64_w _).trans hji14
              by_cases c15 : 0 ≤ (ji14)
              ·rw [if_pos c15] at H
               have c15b0 : decide (0 ≤ (ji14)) = true := decide_eq_true c15
               clear c15
               by_cases c16 : (ji14) < (l0.length : Int)
               ·rw [if_pos c16] at H
                have c16b0 : decide ((ji14) < (l0.length : Int)) = true := decide_eq_true c16
                clear c16
                have H' := Aside0.mk H
                clear H
                have p241 : 0 ≤ (x3_1 : Int) := of_decide_eq_true (by first|(with_reducible assumption)|assumption)
                have q241 : x3_1 < (l0.length : Int) := of_decide_eq_true (by first|(with_reducible assumption)|assumption)
                obtain ⟨ad241,e241,hx241_0,hx241_1⟩ := at_T45 HR0.out x3_1 p241 q241
                obtain rfl : ad237 = ad241 := (by injection e241)
                replace p241 := eq_true p241
                replace q241 := eq_true q241
                have p242 : 0 ≤ ((ji14) : Int) := of_decide_eq_true (by first|(with_reducible assumption)|assumption)
                have q242 : (ji14) < (l0.length : Int) := of_decide_eq_true (by first|(with_reducible assumption)|assumption)
                obtain ⟨ad242,e242,hx242_0,hx242_1⟩ := at_T45 HR0.out (ji14) p242 q242
                obtain rfl : ad237 = ad242 := (by injection e242)
                replace p242 := eq_true p242
                replace q242 := eq_true q242
                go_wp2
                repeat (go_quiet (fail);try go_wp2)
                go_meet
                case rel => exact ⟨_,(!(Op.bytesLess (((rd_T45 l0 (ji14)).f0).toList) (((rd_T45 l0 x3_1).f0).toList))),(by first|rfl|(simp;done)|(rw [Int.tdiv_eq_ediv_of_nonneg (by assumption)];done)|(rw [Int.tmod_eq_emod_of_nonneg (by assumption)];done)|(simp only [← hji14] <;> (first|rfl|simp))|(simp [*];done)),H',⟨by have := HK1.out;have := HJ6.out;first|omega|exact Nat.le_refl _⟩,by repeat (first|exact Drawn0.refl _|apply Drawn0.step)⟩
               ·rw [if_neg c16] at H
                exact absurd H (by simp)
              ·rw [if_neg c15] at H
               exact absurd H (by simp)
             ·rw [if_neg c13] at H
              exact absurd H (by simp)
            ·rw [if_neg c12] at H
             exact absurd H (by simp)
           ·rw [if_neg c11] at H
            have c11b0 : decide (0 < x3_1) = false := decide_eq_false c11
            clear c11
            (first|rw [c11b0]|(simp only [i64_w,i32_w];rw [c11b0])|rw [c11b1]|skip)
            have H' := Aside0.mk H
            clear H
            go_wp2
            repeat (go_quiet (fail);try go_wp2)
            go_meet
            case rel => exact ⟨_,(false),(by first|rfl|(simp;done)|(simp [*];done)),H',⟨by have := HK1.out;have := HJ6.out;first|omega|exact Nat.le_refl _⟩,by repeat (first|exact Drawn0.refl _|apply Drawn0.step)⟩
          case rest =>
           clear HC10
           try clear c1
           try clear c2
           try clear c2b0
           try clear c2b1
           try clear p2
           try clear q2
           try clear hx2
           try clear c3
           try clear c3b0
           try clear c4
           try clear c4b0
           try clear c6
           try clear p6
           try clear c8
           try clear c8b0
           try clear c9
           try clear c11
           try clear c11b0
           try clear c12
           try clear c12b0
           try clear c13
           try clear c13b0
           try clear c15
           try clear c15b0
           try clear c16
           try clear c16b0
           try clear hx237_0
           try clear hx237_1
           try clear hx239_0
           try clear hx239_1
           try clear hx240_0
           try clear hx240_1
           try clear hx241_0
           try clear hx241_1
           try clear hx242_0
           try clear hx242_1
           try clear p2
           try clear p237
           try clear p239
           try clear p240
           try clear p241
           try clear p242
           try clear q2
           try clear q237
           try clear q239
           try clear q240
           try clear q241
           try clear q242
           obtain ⟨kq,x50_9,rfl,HA,HJ9,⟨mc9,rfl⟩⟩ := hcut
           cases kq with
          |zero => exact absurd HA.out (by simp [codesearchref25_Right.j2])
          |succ kj9 =>
            have H := HA.out
            clear HA
            simp only [codesearchref25_Right.j2] at H
            by_cases c17 : x50_9 = true
            ·subst c17
             have H1 : (some 7) = some r := by rw [if_pos rfl] at H;exact H
             clear H
             have H := H1
             clear H1
             obtain rfl := Option.some.inj H
             go_wp2
             repeat (go_quiet (fail);try go_wp2)
             go_ret
             exact ⟨by first|rfl|(simp;done)|(simp [*];done),by repeat (first|exact Drawn0.refl _|apply Drawn0.step)⟩
            ·replace c17 := Bool.eq_false_iff.mpr c17
             subst c17
             have H1 : (codesearchref25_Right.l1 kj9 l0 x3_1 0) = some r := by rw [if_neg (show ¬ (false = true) by decide)] at H;exact H
             clear H
             have H := H1
             clear H1
             have H' := Aside0.mk H
             clear H
             go_wp2
             repeat (go_quiet (fail);try go_wp2)
             go_loopg [4] kj9 (fun kq v4 w' => ∃ (x4_4 : Int),v4 = .int .i64 x4_4 ∧ Aside0 (codesearchref25_Right.l1 kq l0 x3_1 x4_4 = some r) ∧ Aside0 (kq ≤ kj9) ∧ Drawn0 w w')
             case atStart => exact ⟨(0),(by first|rfl|(simp;done)|(simp [*];done)),H',⟨Nat.le_refl _⟩,by repeat (first|exact Drawn0.refl _|apply Drawn0.step)⟩
             case round =>
              clear H'
              try clear c1
              try clear c2
              try clear c2b0
              try clear c2b1
              try clear p2
              try clear q2
              try clear hx2
              try clear c3
              try clear c3b0
              try clear c4
              try clear c4b0
              try clear c6
              try clear p6
              try clear c8
              try clear c8b0
              try clear c9
              try clear c11
              try clear c11b0
              try clear c12
              try clear c12b0
              try clear c13
              try clear c13b0
              try clear c15
              try clear c15b0
              try clear c16
              try clear c16b0
              try clear c17
              try clear hx237_0
              try clear hx237_1
              try clear hx239_0
              try clear hx239_1
              try clear hx240_0
              try clear hx240_1
              try clear hx241_0
              try clear hx241_1
              try clear hx242_0
              try clear hx242_1
              try clear p2
              try clear p237
              try clear p239
              try clear p240
              try clear p241
              try clear p242
              try clear p6
              try clear q2
              try clear q237
              try clear q239
              try clear q240
              try clear q241
              try clear q242
              obtain ⟨x4_4,rfl,HA,HK4,⟨m4,rfl⟩⟩ := hrel
              cases gk with
             |zero => exact absurd HA.out (by simp [codesearchref25_Right.l1])
             |succ k4 =>
               have H := HA.out
               clear HA
               simp only [codesearchref25_Right.l1] at H
               by_cases c18 : x4_4 < (l0.length : Int)
               ·rw [if_pos c18] at H
                have c18b0 : decide (x4_4 < (l0.length : Int)) = true := decide_eq_true c18
                clear c18
                by_cases c19 : x4_4 = x3_1
                ·rw [if_pos c19] at H
                 have c19b0 : (x4_4 == x3_1) = true := beq_iff_eq.mpr c19
                 have c19b1 : (x4_4 != x3_1) = false := bne_eq_false_iff_eq.mpr c19
                 clear c19
                 have H' := Aside0.mk H
                 clear H
                 go_wp2
                 repeat (go_quiet (fail);try go_wp2)
                 go_roundg k4
                 case measure => have := HK1.out;have := HJ6.out;have := HJ9.out;have := HK4.out;omega
                 case rel => exact ⟨(wrap64 (x4_4 + 1)),(by first|rfl|(simp;done)|(simp [*];done)),H',⟨by have := HK1.out;have := HJ6.out;have := HJ9.out;have := HK4.out;omega⟩,by repeat (first|exact Drawn0.refl _|apply Drawn0.step)⟩
                ·rw [if_neg c19] at H
                 have c19b0 : (x4_4 == x3_1) = false := beq_eq_false_iff_ne.mpr c19
                 have c19b1 : (x4_4 != x3_1) = true := bne_iff_ne.mpr c19
                 by_cases c20 : 0 ≤ x3_1
                 ·rw [if_pos c20] at H
                  have c20b0 : decide (0 ≤ x3_1) = true := decide_eq_true c20
                  clear c20
                  by_cases c21 : x3_1 < (l0.length : Int)
                  ·rw [if_pos c21] at H
                   have c21b0 : decide (x3_1 < (l0.length : Int)) = true := decide_eq_true c21
                   clear c21
                   by_cases c22 : 0 ≤ x4_4
                   ·rw [if_pos c22] at H
                    have c22b0 : decide (0 ≤ x4_4) = true := decide_eq_true c22
                    clear c22
                    replace H := Option.bind_eq_some_iff.mp H
                    obtain ⟨t245,A230,H⟩ := H
                    replace H : (if t245 = true then (some 14) else (codesearchref25_Right.l1 k4 l0 x3_1 (wrap64 (x4_4 + 1)))) = some r := H
                    have A23 := Aside0.mk A230
                    clear A230
                    by_cases c24 : t245 = true
                    ·subst c24
                     have H1 : (some 14) = some r := by rw [if_pos rfl] at H;exact H
                     clear H
                     have H := H1
                     clear H1
                     obtain rfl := Option.some.inj H
                     have p243 : 0 ≤ (x3_1 : Int) := of_decide_eq_true (by first|(with_reducible assumption)|assumption)
                     have q243 : x3_1 < (l0.length : Int) := of_decide_eq_true (by first|(with_reducible assumption)|assumption)
                     obtain ⟨ad243,e243,hx243_0,hx243_1⟩ := at_T45 HR0.out x3_1 p243 q243
                     obtain rfl : ad237 = ad243 := (by injection e243)
                     replace p243 := eq_true p243
                     replace q243 := eq_true q243
                     have p244 : 0 ≤ (x4_4 : Int) := of_decide_eq_true (by first|(with_reducible assumption)|assumption)
                     have q244 : x4_4 < (l0.length : Int) := of_decide_eq_true (by first|(with_reducible assumption)|assumption)
                     obtain ⟨ad244,e244,hx244_0,hx244_1⟩ := at_T45 HR0.out x4_4 p244 q244
                     obtain rfl : ad237 = ad244 := (by injection e244)
                     replace p244 := eq_true p244
                     replace q244 := eq_true q244
                     go_wp2_with (first|(go_at_call 34;(with_reducible refine (codesearchref02_Under.calls ((rd_T45 l0 x3_1).f0) ((rd_T45 l0 x4_4).f0) true _ A23.out).mono ?_);rintro e w' ⟨rfl,⟨nd,rfl⟩⟩;(try first|exact ⟨rfl,_,World.drewN_drewN _ _ _⟩|exact ⟨rfl,_,Eq.trans (World.drewN_drewN _ _ _) (congrArg (World.drewN _) (Nat.add_assoc _ _ _))⟩)))
                     repeat (go_quiet (first|(go_at_call 34;(with_reducible refine (codesearchref02_Under.calls ((rd_T45 l0 x3_1).f0) ((rd_T45 l0 x4_4).f0) true _ A23.out).mono ?_);rintro e w' ⟨rfl,⟨nd,rfl⟩⟩;(try first|exact ⟨rfl,_,World.drewN_drewN _ _ _⟩|exact ⟨rfl,_,Eq.trans (World.drewN_drewN _ _ _) (congrArg (World.drewN _) (Nat.add_assoc _ _ _))⟩)));try go_wp2_with (first|(go_at_call 34;(with_reducible refine (codesearchref02_Under.calls ((rd_T45 l0 x3_1).f0) ((rd_T45 l0 x4_4).f0) true _ A23.out).mono ?_);rintro e w' ⟨rfl,⟨nd,rfl⟩⟩;(try first|exact ⟨rfl,_,World.drewN_drewN _ _ _⟩|exact ⟨rfl,_,Eq.trans (World.drewN_drewN _ _ _) (congrArg (World.drewN _) (Nat.add_assoc _ _ _))⟩))))
                     go_ret
                     exact ⟨by first|rfl|(simp;done)|(simp [*];done),by repeat (first|exact Drawn0.refl _|apply Drawn0.step)⟩
                    ·replace c24 := Bool.eq_false_iff.mpr c24
                     subst c24
                     have H1 : (codesearchref25_Right.l1 k4 l0 x3_1 (wrap64 (x4_4 + 1))) = some r := by rw [if_neg (show ¬ (false = true) by decide)] at H;exact H
                     clear H
                     have H := H1
                     clear H1
                     have H' := Aside0.mk H
                     clear H
                     have p243 : 0 ≤ (x3_1 : Int) := of_decide_eq_true (by first|(with_reducible assumption)|assumption)
                     have q243 : x3_1 < (l0.length : Int) := of_decide_eq_true (by first|(with_reducible assumption)|assumption)
                     obtain ⟨ad243,e243,hx243_0,hx243_1⟩ := at_T45 HR0.out x3_1 p243 q243
                     obtain rfl : ad237 = ad243 := (by injection e243)
                     replace p243 := eq_true p243
                     replace q243 := eq_true q243
                     have p244 : 0 ≤ (x4_4 : Int) := of_decide_eq_true (by first|(with_reducible assumption)|assumption)
                     have q244 : x4_4 < (l0.length : Int) := of_decide_eq_true (by first|(with_reducible assumption)|assumption)
                     obtain ⟨ad244,e244,hx244_0,hx244_1⟩ := at_T45 HR0.out x4_4 p244 q244
                     obtain rfl : ad237 = ad244 := (by injection e244)
                     replace p244 := eq_true p244
                     replace q244 := eq_true q244
                     go_wp2_with (first|(go_at_call 34;(with_reducible refine (codesearchref02_Under.calls ((rd_T45 l0 x3_1).f0) ((rd_T45 l0 x4_4).f0) false _ A23.out).mono ?_);rintro e w' ⟨rfl,⟨nd,rfl⟩⟩;(try first|exact ⟨rfl,_,World.drewN_drewN _ _ _⟩|exact ⟨rfl,_,Eq.trans (World.drewN_drewN _ _ _) (congrArg (World.drewN _) (Nat.add_assoc _ _ _))⟩)))
                     repeat (go_quiet (first|(go_at_call 34;(with_reducible refine (codesearchref02_Under.calls ((rd_T45 l0 x3_1).f0) ((rd_T45 l0 x4_4).f0) false _ A23.out).mono ?_);rintro e w' ⟨rfl,⟨nd,rfl⟩⟩;(try first|exact ⟨rfl,_,World.drewN_drewN _ _ _⟩|exact ⟨rfl,_,Eq.trans (World.drewN_drewN _ _ _) (congrArg (World.drewN _) (Nat.add_assoc _ _ _))⟩)));try go_wp2_with (first|(go_at_call 34;(with_reducible refine (codesearchref02_Under.calls ((rd_T45 l0 x3_1).f0) ((rd_T45 l0 x4_4).f0) false _ A23.out).mono ?_);rintro e w' ⟨rfl,⟨nd,rfl⟩⟩;(try first|exact ⟨rfl,_,World.drewN_drewN _ _ _⟩|exact ⟨rfl,_,Eq.trans (World.drewN_drewN _ _ _) (congrArg (World.drewN _) (Nat.add_assoc _ _ _))⟩))))
                     go_roundg k4
                     case measure => have := HK1.out;have := HJ6.out;have := HJ9.out;have := HK4.out;omega
                     case rel => exact ⟨(wrap64 (x4_4 + 1)),(by first|rfl|(simp;done)|(simp [*];done)),H',⟨by have := HK1.out;have := HJ6.out;have := HJ9.out;have := HK4.out;omega⟩,by repeat (first|exact Drawn0.refl _|apply Drawn0.step)⟩
                   ·rw [if_neg c22] at H
                    exact absurd H (by simp)
                  ·rw [if_neg c21] at H
                   exact absurd H (by simp)
                 ·rw [if_neg c20] at H
                  exact absurd H (by simp)
               ·rw [if_neg c18] at H
                have c18b0 : decide (x4_4 < (l0.length : Int)) = false := decide_eq_false c18
                clear c18
                have H' := Aside0.mk H
                clear H
                go_wp2
                repeat (go_quiet (fail);try go_wp2)
                go_roundg k4
                case measure => have := HK1.out;have := HJ6.out;have := HJ9.out;have := HK4.out;omega
                case rel => exact ⟨(wrap64 (x3_1 + 1)),(by first|rfl|(simp;done)|(simp [*];done)),H',⟨by have := HK1.out;have := HJ6.out;have := HJ9.out;have := HK4.out;omega⟩,by repeat (first|exact Drawn0.refl _|apply Drawn0.step)⟩
      ·replace c6 := Bool.eq_false_iff.mpr c6
       subst c6
       have H1 : (some 3) = some r := by rw [if_neg (show ¬ (false = true) by decide)] at H;exact H
       clear H
       have H := H1
       clear H1
       obtain rfl := Option.some.inj H
       have p237 : 0 ≤ (x3_1 : Int) := of_decide_eq_true (by first|(with_reducible assumption)|assumption)
       have q237 : x3_1 < (l0.length : Int) := of_decide_eq_true (by first|(with_reducible assumption)|assumption)
       obtain ⟨ad237,e237,hx237_0,hx237_1⟩ := at_T45 HR0.out x3_1 p237 q237
       cases e237
       replace p237 := eq_true p237
       replace q237 := eq_true q237
       go_wp2_with (first|(go_at_call 33;(with_reducible refine (codesearchref02_ValidPath.calls k1 ((rd_T45 l0 x3_1).f0) false _ A5.out).mono ?_);rintro e w' ⟨rfl,⟨nd,rfl⟩⟩;(try first|exact ⟨rfl,_,World.drewN_drewN _ _ _⟩|exact ⟨rfl,_,Eq.trans (World.drewN_drewN _ _ _) (congrArg (World.drewN _) (Nat.add_assoc _ _ _))⟩)))
       repeat (go_quiet (first|(go_at_call 33;(with_reducible refine (codesearchref02_ValidPath.calls k1 ((rd_T45 l0 x3_1).f0) false _ A5.out).mono ?_);rintro e w' ⟨rfl,⟨nd,rfl⟩⟩;(try first|exact ⟨rfl,_,World.drewN_drewN _ _ _⟩|exact ⟨rfl,_,Eq.trans (World.drewN_drewN _ _ _) (congrArg (World.drewN _) (Nat.add_assoc _ _ _))⟩)));try go_wp2_with (first|(go_at_call 33;(with_reducible refine (codesearchref02_ValidPath.calls k1 ((rd_T45 l0 x3_1).f0) false _ A5.out).mono ?_);rintro e w' ⟨rfl,⟨nd,rfl⟩⟩;(try first|exact ⟨rfl,_,World.drewN_drewN _ _ _⟩|exact ⟨rfl,_,Eq.trans (World.drewN_drewN _ _ _) (congrArg (World.drewN _) (Nat.add_assoc _ _ _))⟩))))
       go_ret
       exact ⟨by first|rfl|(simp;done)|(simp [*];done),by repeat (first|exact Drawn0.refl _|apply Drawn0.step)⟩
     ·rw [if_neg c4] at H
      exact absurd H (by simp)
    ·rw [if_neg c3] at H
     have c3b0 : decide (x3_1 < (l0.length : Int)) = false := decide_eq_false c3
     clear c3
     obtain rfl := Option.some.inj H
     go_wp2
     repeat (go_quiet (fail);try go_wp2)
     go_ret
     exact ⟨by first|rfl|(simp;done)|(simp [*];done),by repeat (first|exact Drawn0.refl _|apply Drawn0.step)⟩

/-! ### codesearchlaw25_trees: function 19 -/
def codesearchlaw25_trees.f (k : Nat) (l0 : List (S45)) (l1 : List (S45)) (l2 : List (S45)) : Option (Bool) := (codesearchref25_Right.f k l0).bind fun t246 => (if t246 = 0 then ((codesearchref25_Right.f k l1).bind fun t247 => (if t247 = 0 then ((codesearchref25_Right.f k l2).bind fun t248 => (some (t248 == 0))) else (some false))) else (some false))
theorem codesearchlaw25_trees.mono : ∀ a0 a1 a2 k, LeO (codesearchlaw25_trees.f k a0 a1 a2) (codesearchlaw25_trees.f (k + 1) a0 a1 a2) := by
 intro a0 a1 a2 k
 unfold codesearchlaw25_trees.f
 repeat' first
  |(with_reducible exact codesearchref25_Right.mono _ _)
  |(with_reducible exact LeO.refl _)
  |(with_reducible exact LeO.none _)
  |(with_reducible refine LeO.ite ?_ ?_)
  |(with_reducible refine LeO.bind ?_ (fun _ => ?_))
  |exact codesearchref25_Right.mono _ _
  |exact LeO.none _
  |refine LeO.ite ?_ ?_
  |refine LeO.bind ?_ (fun _ => ?_)
set_option maxHeartbeats 4000000 in
set_option maxRecDepth 100000 in
theorem codesearchlaw25_trees.calls (k : Nat) (A0 : Option Addr) (c0 : Nat) (l0 : List (S45)) (A1 : Option Addr) (c1 : Nat) (l1 : List (S45)) (A2 : Option Addr) (c2 : Nat) (l2 : List (S45)) (r : Bool) (w : World) (hr0 : Kd.C k45 w A0 l0.length l0) (hc0 : l0.length ≤ c0) (hr1 : Kd.C k45 w A1 l1.length l1) (hc1 : l1.length ≤ c1) (hr2 : Kd.C k45 w A2 l2.length l2) (hc2 : l2.length ≤ c2) (h : codesearchlaw25_trees.f k l0 l1 l2 = some r) :
  Calls Tryd.prog 19 #[.slice A0 l0.length c0,.slice A1 l1.length c1,.slice A2 l2.length c2] w fun e w' => e = .returned (.bool r) ∧ Drawn0 w w' := by
 have HR0 := Aside0.mk hr0
 have HC0 := Aside0.mk hc0
 clear hr0 hc0
 have HR1 := Aside0.mk hr1
 have HC1 := Aside0.mk hc1
 clear hr1 hc1
 have HR2 := Aside0.mk hr2
 have HC2 := Aside0.mk hc2
 clear hr2 hc2
 have H : ((codesearchref25_Right.f k l0).bind fun t246 => (if t246 = 0 then ((codesearchref25_Right.f k l1).bind fun t247 => (if t247 = 0 then ((codesearchref25_Right.f k l2).bind fun t248 => (some (t248 == 0))) else (some false))) else (some false))) = some r := h
 clear h
 replace H := Option.bind_eq_some_iff.mp H
 obtain ⟨t246,A40,H⟩ := H
 replace H : (if t246 = 0 then ((codesearchref25_Right.f k l1).bind fun t247 => (if t247 = 0 then ((codesearchref25_Right.f k l2).bind fun t248 => (some (t248 == 0))) else (some false))) else (some false)) = some r := H
 have A4 := Aside0.mk A40
 clear A40
 by_cases c5 : t246 = 0
 ·rw [if_pos c5] at H
  have c5b0 : (t246 == 0) = true := beq_iff_eq.mpr c5
  have c5b1 : (t246 != 0) = false := bne_eq_false_iff_eq.mpr c5
  clear c5
  replace H := Option.bind_eq_some_iff.mp H
  obtain ⟨t247,A60,H⟩ := H
  replace H : (if t247 = 0 then ((codesearchref25_Right.f k l2).bind fun t248 => (some (t248 == 0))) else (some false)) = some r := H
  have A6 := Aside0.mk A60
  clear A60
  by_cases c7 : t247 = 0
  ·rw [if_pos c7] at H
   have c7b0 : (t247 == 0) = true := beq_iff_eq.mpr c7
   have c7b1 : (t247 != 0) = false := bne_eq_false_iff_eq.mpr c7
   clear c7
   replace H := Option.bind_eq_some_iff.mp H
   obtain ⟨t248,A80,H⟩ := H
   replace H : (some (t248 == 0)) = some r := H
   have A8 := Aside0.mk A80
   clear A80
   obtain rfl := Option.some.inj H
   go_enter Tryd.func19,Tryd.ntmps19
   go_wp2_with (first|((with_reducible refine gate_callee (f := 13) rfl ?_);refine goesL_ (some 8) rfl rfl Tryd.func13 (by kernel_rfl) rfl #[.slice A0 l0.length c0] rfl (by (try simp only [List.map_toArray,List.map_cons,List.map_nil]);first|done|rfl|(simp only [List.length_drop,List.length_take];rfl)) ?_;(with_reducible refine (codesearchref25_Right.calls k _ _ l0 t246 _ ?side1 ?side2 A4.out).mono ?_);(case side1 => exact cM HR0.out);(case side2 => exact HC0.out);rintro e w' ⟨rfl,⟨nd,rfl⟩⟩;refine ⟨_,rfl,?_⟩)|(go_at_call 13;(with_reducible refine (codesearchref25_Right.calls k _ _ l1 t247 _ ?side1 ?side2 A6.out).mono ?_);(case side1 => exact cM HR1.out);(case side2 => exact HC1.out);rintro e w' ⟨rfl,⟨nd,rfl⟩⟩)|(go_at_call 13;(with_reducible refine (codesearchref25_Right.calls k _ _ l2 t248 _ ?side1 ?side2 A8.out).mono ?_);(case side1 => exact cM HR2.out);(case side2 => exact HC2.out);rintro e w' ⟨rfl,⟨nd,rfl⟩⟩))
   go_ret
   exact ⟨by first|rfl|(simp;done)|(simp [*];done),by repeat (first|exact Drawn0.refl _|apply Drawn0.step)⟩
  ·rw [if_neg c7] at H
   have c7b0 : (t247 == 0) = false := beq_eq_false_iff_ne.mpr c7
   have c7b1 : (t247 != 0) = true := bne_iff_ne.mpr c7
   obtain rfl := Option.some.inj H
   go_enter Tryd.func19,Tryd.ntmps19
   go_wp2_with (first|((with_reducible refine gate_callee (f := 13) rfl ?_);refine goesL_ (some 8) rfl rfl Tryd.func13 (by kernel_rfl) rfl #[.slice A0 l0.length c0] rfl (by (try simp only [List.map_toArray,List.map_cons,List.map_nil]);first|done|rfl|(simp only [List.length_drop,List.length_take];rfl)) ?_;(with_reducible refine (codesearchref25_Right.calls k _ _ l0 t246 _ ?side1 ?side2 A4.out).mono ?_);(case side1 => exact cM HR0.out);(case side2 => exact HC0.out);rintro e w' ⟨rfl,⟨nd,rfl⟩⟩;refine ⟨_,rfl,?_⟩)|(go_at_call 13;(with_reducible refine (codesearchref25_Right.calls k _ _ l1 t247 _ ?side1 ?side2 A6.out).mono ?_);(case side1 => exact cM HR1.out);(case side2 => exact HC1.out);rintro e w' ⟨rfl,⟨nd,rfl⟩⟩))
   go_ret
   exact ⟨by first|rfl|(simp;done)|(simp [*];done),by repeat (first|exact Drawn0.refl _|apply Drawn0.step)⟩
 ·rw [if_neg c5] at H
  have c5b0 : (t246 == 0) = false := beq_eq_false_iff_ne.mpr c5
  have c5b1 : (t246 != 0) = true := bne_iff_ne.mpr c5
  obtain rfl := Option.some.inj H
  go_enter Tryd.func19,Tryd.ntmps19
  go_wp2_with (first|((with_reducible refine gate_callee (f := 13) rfl ?_);refine goesL_ (some 8) rfl rfl Tryd.func13 (by kernel_rfl) rfl #[.slice A0 l0.length c0] rfl (by (try simp only [List.map_toArray,List.map_cons,List.map_nil]);first|done|rfl|(simp only [List.length_drop,List.length_take];rfl)) ?_;(with_reducible refine (codesearchref25_Right.calls k _ _ l0 t246 _ ?side1 ?side2 A4.out).mono ?_);(case side1 => exact cM HR0.out);(case side2 => exact HC0.out);rintro e w' ⟨rfl,⟨nd,rfl⟩⟩;refine ⟨_,rfl,?_⟩))
  go_ret
  exact ⟨by first|rfl|(simp;done)|(simp [*];done),by repeat (first|exact Drawn0.refl _|apply Drawn0.step)⟩

/-! ### codesearchref25_blob: function 35 -/
def codesearchref25_blob.l0 : Nat → List (S45) → ByteArray → Int → Option (Int)
|0,_,_,_ => none
|k + 1,x0,x1,x5 => if x5 < (x0.length : Int) then (if 0 ≤ x5 then (if ((rd_T45 x0 x5).f0).toList = x1.toList then (some ((rd_T45 x0 x5).f1)) else (codesearchref25_blob.l0 k x0 x1 (wrap64 (x5 + 1)))) else (none)) else (some 0)
def codesearchref25_blob.f (k : Nat) (l0 : List (S45)) (a1 : ByteArray) : Option (Int) := codesearchref25_blob.l0 k l0 a1 0
theorem codesearchref25_blob.mono_l : ∀ k, (∀ y0 y1 y2, LeO (codesearchref25_blob.l0 k y0 y1 y2) (codesearchref25_blob.l0 (k + 1) y0 y1 y2))
|0 => fun _ _ _ r h => by simp [codesearchref25_blob.l0] at h
|k + 1 => by
  have ih0 := codesearchref25_blob.mono_l k
  ·intro y0 y1 y2
   unfold codesearchref25_blob.l0
   repeat' first
  |(with_reducible exact ih0 _ _ _)
  |(with_reducible exact LeO.refl _)
  |(with_reducible exact LeO.none _)
  |(with_reducible refine LeO.ite ?_ ?_)
  |(with_reducible refine LeO.bind ?_ (fun _ => ?_))
  |exact ih0 _ _ _
  |exact LeO.none _
  |refine LeO.ite ?_ ?_
  |refine LeO.bind ?_ (fun _ => ?_)
theorem codesearchref25_blob.mono : ∀ a0 a1 k, LeO (codesearchref25_blob.f k a0 a1) (codesearchref25_blob.f (k + 1) a0 a1) := by
 intro a0 a1 k
 have ih0 := codesearchref25_blob.mono_l k
 unfold codesearchref25_blob.f
 repeat' first
  |(with_reducible exact ih0 _ _ _)
  |(with_reducible exact LeO.refl _)
  |(with_reducible exact LeO.none _)
  |(with_reducible refine LeO.ite ?_ ?_)
  |(with_reducible refine LeO.bind ?_ (fun _ => ?_))
  |exact ih0 _ _ _
  |exact LeO.none _
  |refine LeO.ite ?_ ?_
  |refine LeO.bind ?_ (fun _ => ?_)
set_option maxHeartbeats 4000000 in
set_option maxRecDepth 100000 in
theorem codesearchref25_blob.calls (k : Nat) (A0 : Option Addr) (c0 : Nat) (l0 : List (S45)) (a1 : ByteArray) (r : Int) (w : World) (hr0 : Kd.C k45 w A0 l0.length l0) (hc0 : l0.length ≤ c0) (h : codesearchref25_blob.f k l0 a1 = some r) :
  Calls Tryd.prog 35 #[.slice A0 l0.length c0,.string a1] w fun e w' => e = .returned (.int .i64 r) ∧ Drawn0 w w' := by
 have HR0 := Aside0.mk hr0
 have HC0 := Aside0.mk hc0
 clear hr0 hc0
 have H : (codesearchref25_blob.l0 k l0 a1 0) = some r := h
 clear h
 have H' := Aside0.mk H
 clear H
 go_enter Tryd.func35,Tryd.ntmps35
 go_wp2
 go_loopg [5] k (fun kq v5 w' => ∃ (x5_1 : Int),v5 = .int .i64 x5_1 ∧ Aside0 (codesearchref25_blob.l0 kq l0 a1 x5_1 = some r) ∧ Aside0 (kq ≤ k) ∧ Drawn0 w w')
 case atStart => exact ⟨(0),(by first|rfl|(simp;done)|(simp [*];done)),H',⟨Nat.le_refl _⟩,by repeat (first|exact Drawn0.refl _|apply Drawn0.step)⟩
 case round =>
  clear H'
  try clear p2
  obtain ⟨x5_1,rfl,HA,HK1,⟨m1,rfl⟩⟩ := hrel
  cases gk with
 |zero => exact absurd HA.out (by simp [codesearchref25_blob.l0])
 |succ k1 =>
   have H := HA.out
   clear HA
   simp only [codesearchref25_blob.l0] at H
   by_cases c3 : x5_1 < (l0.length : Int)
   ·rw [if_pos c3] at H
    have c3b0 : decide (x5_1 < (l0.length : Int)) = true := decide_eq_true c3
    clear c3
    by_cases c4 : 0 ≤ x5_1
    ·rw [if_pos c4] at H
     have c4b0 : decide (0 ≤ x5_1) = true := decide_eq_true c4
     clear c4
     by_cases c5 : ((rd_T45 l0 x5_1).f0).toList = a1.toList
     ·rw [if_pos c5] at H
      have c5b0 : (((rd_T45 l0 x5_1).f0).toList == a1.toList) = true := beq_iff_eq.mpr c5
      have c5b1 : (((rd_T45 l0 x5_1).f0).toList != a1.toList) = false := bne_eq_false_iff_eq.mpr c5
      clear c5
      obtain rfl := Option.some.inj H
      have p249 : 0 ≤ (x5_1 : Int) := of_decide_eq_true (by first|(with_reducible assumption)|assumption)
      have q249 : x5_1 < (l0.length : Int) := of_decide_eq_true (by first|(with_reducible assumption)|assumption)
      obtain ⟨ad249,e249,hx249_0,hx249_1⟩ := at_T45 HR0.out x5_1 p249 q249
      cases e249
      replace p249 := eq_true p249
      replace q249 := eq_true q249
      have p250 : 0 ≤ (x5_1 : Int) := of_decide_eq_true (by first|(with_reducible assumption)|assumption)
      have q250 : x5_1 < (l0.length : Int) := of_decide_eq_true (by first|(with_reducible assumption)|assumption)
      obtain ⟨ad250,e250,hx250_0,hx250_1⟩ := at_T45 HR0.out x5_1 p250 q250
      obtain rfl : ad249 = ad250 := (by injection e250)
      replace p250 := eq_true p250
      replace q250 := eq_true q250
      go_wp2
      go_ret
      exact ⟨by first|rfl|(simp;done)|(simp [*];done),by repeat (first|exact Drawn0.refl _|apply Drawn0.step)⟩
     ·rw [if_neg c5] at H
      have c5b0 : (((rd_T45 l0 x5_1).f0).toList == a1.toList) = false := beq_eq_false_iff_ne.mpr c5
      have c5b1 : (((rd_T45 l0 x5_1).f0).toList != a1.toList) = true := bne_iff_ne.mpr c5
      have H' := Aside0.mk H
      clear H
      have p249 : 0 ≤ (x5_1 : Int) := of_decide_eq_true (by first|(with_reducible assumption)|assumption)
      have q249 : x5_1 < (l0.length : Int) := of_decide_eq_true (by first|(with_reducible assumption)|assumption)
      obtain ⟨ad249,e249,hx249_0,hx249_1⟩ := at_T45 HR0.out x5_1 p249 q249
      cases e249
      replace p249 := eq_true p249
      replace q249 := eq_true q249
      go_wp2
      go_roundg k1
      case measure => have := HK1.out;omega
      case rel => exact ⟨(wrap64 (x5_1 + 1)),(by first|rfl|(simp;done)|(simp [*];done)),H',⟨by have := HK1.out;omega⟩,by repeat (first|exact Drawn0.refl _|apply Drawn0.step)⟩
    ·rw [if_neg c4] at H
     exact absurd H (by simp)
   ·rw [if_neg c3] at H
    have c3b0 : decide (x5_1 < (l0.length : Int)) = false := decide_eq_false c3
    clear c3
    obtain rfl := Option.some.inj H
    go_wp2
    go_ret
    exact ⟨by first|rfl|(simp;done)|(simp [*];done),by repeat (first|exact Drawn0.refl _|apply Drawn0.step)⟩

end Go.Proofs.YtpnhamfodjfacaaDoor.M
