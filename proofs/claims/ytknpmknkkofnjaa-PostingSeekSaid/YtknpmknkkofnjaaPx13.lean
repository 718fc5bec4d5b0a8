-- Written by hp.py, a program of this session, over the kit's print of the translation. Not trusted: Lean checks it.
import Derived.Test.YtknpmknkkofnjaaPx0
import Derived.Test.YtknpmknkkofnjaaPx11
import Derived.Test.YtknpmknkkofnjaaPx12
namespace Go.Proofs.Ytknpmknkkofnjaa.P
open Go.RowKit Go.Proofs.YtknpmknkkofnjaaW.PrintWords Go.Proofs.YtknpmknkkofnjaaW.PrintLast Go.Proofs.YtknpmknkkofnjaaW.PrintMore
attribute [local go_sem] max2_int min2_int max_two min_two max_three min_three max_four min_four   -- for this text's walks alone
set_option linter.unusedVariables false
set_option linter.unusedSimpArgs false

/-! ### codesearchref03_GetList: function 48 -/
mutual
def codesearchref03_GetList.l0 : Nat → List Int → Int → Int → List Int → Int → Option (List Int × Int × Int)
|0,_,_,_,_,_ => none
|k + 1,x0,x9,x10,x12,x13 => if x13 < x9 then ((codesearchref03_Get.f k x0 x10).bind fun bt506 => (if bt506.2.2 = 0 then (if x13 > 0 then (codesearchref03_GetList.j1 k x0 x9 x12 x13 bt506.1 bt506.2.1 (bt506.1 == 0)) else (codesearchref03_GetList.j1 k x0 x9 x12 x13 bt506.1 bt506.2.1 false)) else (some (([] : List Int),0,bt506.2.2)))) else (some (x12,x10,0))
def codesearchref03_GetList.j1 : Nat → List Int → Int → List Int → Int → Int → Int → Bool → Option (List Int × Int × Int)
|0,_,_,_,_,_,_,_ => none
|k + 1,x0,x9,x12,x13,x14,x15,x50 => if x50 = true then (some (([] : List Int),0,3)) else (if x13 > 0 then (if 0 ≤ (wrap64 (x13 - 1)) then (if (wrap64 (x13 - 1)) < (x12.length : Int) then (codesearchref03_GetList.j2 k x0 x9 x12 x13 x14 x15 (decide (x14 > (wrap64 (4611686018427387904 - (rd x12 (wrap64 (x13 - 1)))))))) else (none)) else (none)) else (codesearchref03_GetList.j2 k x0 x9 x12 x13 x14 x15 false))
def codesearchref03_GetList.j2 : Nat → List Int → Int → List Int → Int → Int → Int → Bool → Option (List Int × Int × Int)
|0,_,_,_,_,_,_,_ => none
|k + 1,x0,x9,x12,x13,x14,x15,x62 => if x62 = true then (some (([] : List Int),0,4)) else (if x13 > 0 then (if 0 ≤ (wrap64 (x13 - 1)) then (if (wrap64 (x13 - 1)) < (x12.length : Int) then (if x12.length < 17592186044416 then (codesearchref03_GetList.l0 k x0 x9 x15 (x12 ++ [wrap64 (x14 + (rd x12 (wrap64 (x13 - 1))))]) (wrap64 (x13 + 1))) else (none)) else (none)) else (none)) else (if x12.length < 17592186044416 then (codesearchref03_GetList.l0 k x0 x9 x15 (x12 ++ [x14]) (wrap64 (x13 + 1))) else (none)))
end
def codesearchref03_GetList.f (k : Nat) (l0 : List Int) (a1 : Int) (a2 : Int) : Option (List Int × Int × Int) := (codesearchref03_Get.f k l0 a1).bind fun bt503 => (if bt503.2.2 = 0 then (if bt503.1 > a2 then (some (([] : List Int), 0, 4)) else (codesearchref03_GetList.l0 k l0 bt503.1 bt503.2.1 ([] : List Int) 0)) else (some (([] : List Int), 0, bt503.2.2)))
theorem codesearchref03_GetList.mono_l : ∀ k, (∀ y0 y1 y2 y3 y4, LeO (codesearchref03_GetList.l0 k y0 y1 y2 y3 y4) (codesearchref03_GetList.l0 (k + 1) y0 y1 y2 y3 y4)) ∧ (∀ y0 y1 y2 y3 y4 y5 y6, LeO (codesearchref03_GetList.j1 k y0 y1 y2 y3 y4 y5 y6) (codesearchref03_GetList.j1 (k + 1) y0 y1 y2 y3 y4 y5 y6)) ∧ (∀ y0 y1 y2 y3 y4 y5 y6, LeO (codesearchref03_GetList.j2 k y0 y1 y2 y3 y4 y5 y6) (codesearchref03_GetList.j2 (k + 1) y0 y1 y2 y3 y4 y5 y6))
|0 => ⟨fun _ _ _ _ _ r h => by simp [codesearchref03_GetList.l0] at h,fun _ _ _ _ _ _ _ r h => by simp [codesearchref03_GetList.j1] at h,fun _ _ _ _ _ _ _ r h => by simp [codesearchref03_GetList.j2] at h⟩
|k + 1 => by
  obtain ⟨ih0,ih1,ih2⟩ := codesearchref03_GetList.mono_l k
  refine ⟨?_,?_,?_⟩
  ·intro y0 y1 y2 y3 y4
   unfold codesearchref03_GetList.l0
   repeat' first
  |(with_reducible exact ih0 _ _ _ _ _)
  |(with_reducible exact ih1 _ _ _ _ _ _ _)
  |(with_reducible exact ih2 _ _ _ _ _ _ _)
  |(with_reducible exact codesearchref03_Get.mono _ _ _)
  |(with_reducible exact LeO.refl _)
  |(with_reducible exact LeO.none _)
  |(with_reducible refine LeO.ite ?_ ?_)
  |(with_reducible refine LeO.bind ?_ (fun _ => ?_))
  |exact ih0 _ _ _ _ _
  |exact ih1 _ _ _ _ _ _ _
  |exact ih2 _ _ _ _ _ _ _
  |exact codesearchref03_Get.mono _ _ _
  |exact LeO.none _
  |refine LeO.ite ?_ ?_
  |refine LeO.bind ?_ (fun _ => ?_)
  ·intro y0 y1 y2 y3 y4 y5 y6
   unfold codesearchref03_GetList.j1
   repeat' first
  |(with_reducible exact ih0 _ _ _ _ _)
  |(with_reducible exact ih1 _ _ _ _ _ _ _)
  |(with_reducible exact ih2 _ _ _ _ _ _ _)
  |(with_reducible exact codesearchref03_Get.mono _ _ _)
  |(with_reducible exact LeO.refl _)
  |(with_reducible exact LeO.none _)
  |(with_reducible refine LeO.ite ?_ ?_)
  |(with_reducible refine LeO.bind ?_ (fun _ => ?_))
  |exact ih0 _ _ _ _ _
  |exact ih1 _ _ _ _ _ _ _
  |exact ih2 _ _ _ _ _ _ _
  |exact codesearchref03_Get.mono _ _ _
  |exact LeO.none _
  |refine LeO.ite ?_ ?_
  |refine LeO.bind ?_ (fun _ => ?_)
  ·intro y0 y1 y2 y3 y4 y5 y6
   unfold codesearchref03_GetList.j2
   repeat' first
  |(with_reducible exact ih0 _ _ _ _ _)
  |(with_reducible exact ih1 _ _ _ _ _ _ _)
  |(with_reducible exact ih2 _ _ _ _ _ _ _)
  |(with_reducible exact codesearchref03_Get.mono _ _ _)
  |(with_reducible exact LeO.refl _)
  |(with_reducible exact LeO.none _)
  |(with_reducible refine LeO.ite ?_ ?_)
  |(with_reducible refine LeO.bind ?_ (fun _ => ?_))
  |exact ih0 _ _ _ _ _
  |exact ih1 _ _ _ _ _ _ _
  |exact ih2 _ _ _ _ _ _ _
  |exact codesearchref03_Get.mono _ _ _
  |exact LeO.none _
  |refine LeO.ite ?_ ?_
  |refine LeO.bind ?_ (fun _ => ?_)
theorem codesearchref03_GetList.mono : ∀ a0 a1 a2 k, LeO (codesearchref03_GetList.f k a0 a1 a2) (codesearchref03_GetList.f (k + 1) a0 a1 a2) := by
 intro a0 a1 a2 k
 obtain ⟨ih0,ih1,ih2⟩ := codesearchref03_GetList.mono_l k
 unfold codesearchref03_GetList.f
 repeat' first
  |(with_reducible exact ih0 _ _ _ _ _)
  |(with_reducible exact ih1 _ _ _ _ _ _ _)
  |(with_reducible exact ih2 _ _ _ _ _ _ _)
  |(with_reducible exact codesearchref03_Get.mono _ _ _)
  |(with_reducible exact LeO.refl _)
  |(with_reducible exact LeO.none _)
  |(with_reducible refine LeO.ite ?_ ?_)
  |(with_reducible refine LeO.bind ?_ (fun _ => ?_))
  |exact ih0 _ _ _ _ _
  |exact ih1 _ _ _ _ _ _ _
  |exact ih2 _ _ _ _ _ _ _
  |exact codesearchref03_Get.mono _ _ _
  |exact LeO.none _
  |refine LeO.ite ?_ ?_
  |refine LeO.bind ?_ (fun _ => ?_)
set_option maxHeartbeats 4000000 in
set_option maxRecDepth 100000 in
theorem codesearchref03_GetList.calls (k : Nat) (A0 : Option Addr) (c0 : Nat) (l0 : List Int) (a1 : Int) (a2 : Int) (r1 : List Int) (r2 : Int) (r3 : Int) (w : World) (hr0 : Kd.C (Kd.int .u8) w A0 l0.length l0) (hc0 : l0.length ≤ c0) (h : codesearchref03_GetList.f k l0 a1 a2 = some (r1, r2, r3)) :
  Calls Try.prog 48 #[.slice A0 l0.length c0,.int .i64 a1,.int .i64 a2] w fun e w' => ∃ v0_ : Value,e = .returned (.tuple #[v0_,.int .i64 r2,.int .i64 r3]) ∧ Kd.R (Kd.int .i64) 3 w' w.heap.size (fun _ => True) v0_ r1 ∧ Below w.heap.size w w' := by
 have HR0 := Aside0.mk hr0
 have HC0 := Aside0.mk hc0
 clear hr0 hc0
 have HB := Aside0.mk (Below.refl w.heap.size w)
 have H : ((codesearchref03_Get.f k l0 a1).bind fun bt503 => (if bt503.2.2 = 0 then (if bt503.1 > a2 then (some (([] : List Int),0,4)) else (codesearchref03_GetList.l0 k l0 bt503.1 bt503.2.1 ([] : List Int) 0)) else (some (([] : List Int),0,bt503.2.2)))) = some (r1,r2,r3) := h
 clear h
 replace H := Option.bind_eq_some_iff.mp H
 obtain ⟨⟨t503,t504,t505⟩,A40,H⟩ := H
 replace H : (if t505 = 0 then (if t503 > a2 then (some (([] : List Int),0,4)) else (codesearchref03_GetList.l0 k l0 t503 t504 ([] : List Int) 0)) else (some (([] : List Int),0,t505))) = some (r1,r2,r3) := H
 have A4 := Aside0.mk A40
 clear A40
 by_cases c5 : t505 = 0
 ·rw [if_pos c5] at H
  have c5b0 : (t505 == 0) = true := beq_iff_eq.mpr c5
  have c5b1 : (t505 != 0) = false := bne_eq_false_iff_eq.mpr c5
  clear c5
  by_cases c6 : t503 > a2
  ·rw [if_pos c6] at H
   have c6b0 : decide (a2 < t503) = true := decide_eq_true c6
   clear c6
   simp only [Option.some.injEq,Prod.mk.injEq] at H
   obtain ⟨rfl,rfl,rfl⟩ := H
   go_enter Try.func48,Try.ntmps48
   go_wp2_with (first|((with_reducible refine gate_callee (f := 46) rfl ?_);refine goesL_ (some 20) rfl rfl Try.func46 (by kernel_rfl) rfl #[.slice A0 l0.length c0,.int .i64 a1] rfl (by (try simp only [List.map_toArray,List.map_cons,List.map_nil]);first|done|rfl|(simp only [List.length_drop,List.length_take];rfl)) ?_;(with_reducible refine (codesearchref03_Get.calls k _ _ l0 a1 t503 t504 t505 _ ?side1 ?side2 A4.out).mono ?_);(case side1 => exact cM HR0.out);(case side2 => exact HC0.out);rintro e w' ⟨rfl,⟨nd,rfl⟩⟩;refine ⟨_,rfl,?_⟩))
   go_ret3
   exact ⟨_,by first|rfl|(simp [errW_none,errW_some] <;> rfl)|(simp [*,errW_none,errW_some] <;> rfl),by first|exact Kd.R_nil _ _ _ _ _|exact Kd.N_nil _ _ _ _ _|exact Kd.V_nil _ _ _ _ _|exact Kd.Q_nil _ _ _ _ _|exact Kd.S_nil _ _ _ _ _,bM HB.out⟩
  ·rw [if_neg c6] at H
   have c6b0 : decide (a2 < t503) = false := decide_eq_false c6
   clear c6
   have H' := Aside0.mk H
   clear H
   go_enter Try.func48,Try.ntmps48
   go_wp2_with (first|((with_reducible refine gate_callee (f := 46) rfl ?_);refine goesL_ (some 20) rfl rfl Try.func46 (by kernel_rfl) rfl #[.slice A0 l0.length c0,.int .i64 a1] rfl (by (try simp only [List.map_toArray,List.map_cons,List.map_nil]);first|done|rfl|(simp only [List.length_drop,List.length_take];rfl)) ?_;(with_reducible refine (codesearchref03_Get.calls k _ _ l0 a1 t503 t504 t505 _ ?side1 ?side2 A4.out).mono ?_);(case side1 => exact cM HR0.out);(case side2 => exact HC0.out);rintro e w' ⟨rfl,⟨nd,rfl⟩⟩;refine ⟨_,rfl,?_⟩))
   go_loopg [10,12,13] k (fun kq v10 v12 v13 w' => ∃ (x10_1 : Int) (x12_1 : List Int) (x13_1 : Int),v10 = .int .i64 x10_1 ∧ v13 = .int .i64 x13_1 ∧ Aside0 (codesearchref03_GetList.l0 kq l0 t503 x10_1 x12_1 x13_1 = some (r1,r2,r3)) ∧ Aside0 (kq ≤ k) ∧ Aside0 (Kd.R (Kd.int .i64) 3 w' w.heap.size (fun _ => True) v12 x12_1) ∧ Aside0 (Below w.heap.size w w'))
   case atStart => exact ⟨(t504),(([] : List Int)),(0),(by first|rfl|(simp;done)|(simp [*];done)),(by first|rfl|(simp;done)|(simp [*];done)),H',⟨Nat.le_refl _⟩,⟨by first|exact Kd.R_nil _ _ _ _ _|exact Kd.N_nil _ _ _ _ _|exact Kd.V_nil _ _ _ _ _|exact Kd.Q_nil _ _ _ _ _|exact Kd.S_nil _ _ _ _ _⟩,⟨bM HB.out⟩⟩
   case round =>
    clear H'
    try clear p2
    try clear c4
    try clear c5
    try clear c5b0
    try clear c5b1
    try clear c6
    try clear c6b0
    obtain ⟨x10_1,x12_1,x13_1,rfl,rfl,HA,HK1,HO_12,HB⟩ := hrel
    cases gk with
   |zero => exact absurd HA.out (by simp [codesearchref03_GetList.l0])
   |succ k1 =>
     have H := HA.out
     clear HA
     simp only [codesearchref03_GetList.l0] at H
     by_cases c7 : x13_1 < t503
     ·rw [if_pos c7] at H
      have c7b0 : decide (x13_1 < t503) = true := decide_eq_true c7
      clear c7
      replace H := Option.bind_eq_some_iff.mp H
      obtain ⟨⟨t506,t507,t508⟩,A80,H⟩ := H
      replace H : (if t508 = 0 then (if x13_1 > 0 then (codesearchref03_GetList.j1 k1 l0 t503 x12_1 x13_1 t506 t507 (t506 == 0)) else (codesearchref03_GetList.j1 k1 l0 t503 x12_1 x13_1 t506 t507 false)) else (some (([] : List Int),0,t508))) = some (r1,r2,r3) := H
      have A8 := Aside0.mk A80
      clear A80
      by_cases c9 : t508 = 0
      ·rw [if_pos c9] at H
       have c9b0 : (t508 == 0) = true := beq_iff_eq.mpr c9
       have c9b1 : (t508 != 0) = false := bne_eq_false_iff_eq.mpr c9
       clear c9
       have HC10 := Aside0.mk H
       clear H
       go_upto_region 13 with (first|((with_reducible refine gate_callee (f := 46) rfl ?_);refine goesL_ (some 38) rfl rfl Try.func46 (by kernel_rfl) rfl #[.slice A0 l0.length c0,.int .i64 x10_1] rfl (by (try simp only [List.map_toArray,List.map_cons,List.map_nil]);first|done|rfl|(simp only [List.length_drop,List.length_take];rfl)) ?_;(with_reducible refine (codesearchref03_Get.calls k1 _ _ l0 x10_1 t506 t507 t508 _ ?side1 ?side2 A8.out).mono ?_);(case side1 => exact cM (Kd.C_below HR0.out HB.out));(case side2 => exact HC0.out);rintro e w' ⟨rfl,⟨nd,rfl⟩⟩;refine ⟨_,rfl,?_⟩))
       (try simp only [Act.put,List.setIfInBounds_toArray,List.set_cons_zero,List.set_cons_succ])
       go_cut [50] (fun v50 wc => ∃ (kq : Nat) (x50_9 : Bool),v50 = .bool x50_9 ∧ Aside0 (codesearchref03_GetList.j1 kq l0 t503 x12_1 x13_1 t506 t507 x50_9 = some (r1,r2,r3)) ∧ Aside0 (kq ≤ k1) ∧ Aside0 (Kd.R (Kd.int .i64) 3 wc w.heap.size (fun _ => True) u12 x12_1) ∧ Aside0 (Below w.heap.size w wc))
       case first =>
        have H := HC10.out
        clear HC10
        by_cases c11 : x13_1 > 0
        ·rw [if_pos c11] at H
         have c11b0 : decide (0 < x13_1) = true := decide_eq_true c11
         clear c11
         (first|rw [c11b0]|(simp only [i64_w,i32_w];rw [c11b0])|skip)
         have H' := Aside0.mk H
         clear H
         go_wp2
         go_meet
         case rel => exact ⟨_,((t506 == 0)),(by first|rfl|(simp;done)|(simp [*];done)),H',⟨by have := HK1.out;first|omega|exact Nat.le_refl _⟩,⟨rM HO_12.out⟩,⟨bM HB.out⟩⟩
        ·rw [if_neg c11] at H
         have c11b0 : decide (0 < x13_1) = false := decide_eq_false c11
         clear c11
         (first|rw [c11b0]|(simp only [i64_w,i32_w];rw [c11b0])|skip)
         have H' := Aside0.mk H
         clear H
         go_wp2
         go_meet
         case rel => exact ⟨_,(false),(by first|rfl|(simp;done)|(simp [*];done)),H',⟨by have := HK1.out;first|omega|exact Nat.le_refl _⟩,⟨rM HO_12.out⟩,⟨bM HB.out⟩⟩
       case rest =>
        clear HC10
        try clear c1
        try clear p2
        try clear c4
        try clear c5
        try clear c5b0
        try clear c5b1
        try clear c6
        try clear c6b0
        try clear c7
        try clear c7b0
        try clear c9
        try clear c9b0
        try clear c9b1
        try clear c11
        try clear c11b0
        try clear p2
        obtain ⟨kq,x50_9,rfl,HA,HJ9,HO_12,HB⟩ := hcut
        cases kq with
       |zero => exact absurd HA.out (by simp [codesearchref03_GetList.j1])
       |succ kj9 =>
         have H := HA.out
         clear HA
         simp only [codesearchref03_GetList.j1] at H
         by_cases c12 : x50_9 = true
         ·subst c12
          have H1 : (some (([] : List Int),0,3)) = some (r1,r2,r3) := by rw [if_pos rfl] at H;exact H
          clear H
          have H := H1
          clear H1
          simp only [Option.some.injEq,Prod.mk.injEq] at H
          obtain ⟨rfl,rfl,rfl⟩ := H
          go_wp2
          go_ret3
          exact ⟨_,by first|rfl|(simp [errW_none,errW_some] <;> rfl)|(simp [*,errW_none,errW_some] <;> rfl),by first|exact Kd.R_nil _ _ _ _ _|exact Kd.N_nil _ _ _ _ _|exact Kd.V_nil _ _ _ _ _|exact Kd.Q_nil _ _ _ _ _|exact Kd.S_nil _ _ _ _ _,bM HB.out⟩
         ·replace c12 := Bool.eq_false_iff.mpr c12
          subst c12
          have H1 : (if x13_1 > 0 then (if 0 ≤ (wrap64 (x13_1 - 1)) then (if (wrap64 (x13_1 - 1)) < (x12_1.length : Int) then (codesearchref03_GetList.j2 kj9 l0 t503 x12_1 x13_1 t506 t507 (decide (t506 > (wrap64 (4611686018427387904 - (rd x12_1 (wrap64 (x13_1 - 1)))))))) else (none)) else (none)) else (codesearchref03_GetList.j2 kj9 l0 t503 x12_1 x13_1 t506 t507 false)) = some (r1,r2,r3) := by rw [if_neg (show ¬ (false = true) by decide)] at H;exact H
          clear H
          have H := H1
          clear H1
          have HC13 := Aside0.mk H
          clear H
          go_upto_region 15 with (fail)
          go_cut [62] (fun v62 wc => ∃ (kq : Nat) (x62_12 : Bool),v62 = .bool x62_12 ∧ Aside0 (codesearchref03_GetList.j2 kq l0 t503 x12_1 x13_1 t506 t507 x62_12 = some (r1,r2,r3)) ∧ Aside0 (kq ≤ kj9) ∧ Aside0 (Kd.R (Kd.int .i64) 3 wc w.heap.size (fun _ => True) u12 x12_1) ∧ Aside0 (Below w.heap.size w wc))
          case first =>
           have H := HC13.out
           clear HC13
           by_cases c14 : x13_1 > 0
           ·rw [if_pos c14] at H
            have c14b0 : decide (0 < x13_1) = true := decide_eq_true c14
            clear c14
            (first|rw [c14b0]|(simp only [i64_w,i32_w];rw [c14b0])|skip)
            obtain ⟨ji15,hji15⟩ : ∃ j_ : Int,(wrap64 (x13_1 - 1)) = j_ := ⟨_,rfl⟩
            replace H : (if 0 ≤ (ji15) then (if (ji15) < (x12_1.length : Int) then (codesearchref03_GetList.j2 kj9 l0 t503 x12_1 x13_1 t506 t507 (decide (t506 > (wrap64 (4611686018427387904 - (rd x12_1 (ji15))))))) else (none)) else (none)) = some (r1,r2,r3) := by first|(rw [hji15] at H;exact H)|(simp only [hji15] at H ⊢;exact H)
            have hji15w : (IntKind.i64.wrap (x13_1 - 1)) = ji15 := (i64_w _).trans hji15
            by_cases c16 : 0 ≤ (ji15)
            ·rw [if_pos c16] at H
             have c16b0 : decide (0 ≤ (ji15)) = true := decide_eq_true c16
             clear c16
             by_cases c17 : (ji15) < (x12_1.length : Int)
             ·rw [if_pos c17] at H
              have c17b0 : decide ((ji15) < (x12_1.length : Int)) = true := decide_eq_true c17
              clear c17
              have H' := Aside0.mk H
              clear H
              obtain ⟨Ao18,co18,eo18⟩ := Kd.R_slice HO_12.out
              subst eo18
              have p509 : 0 ≤ ((ji15) : Int) := of_decide_eq_true (by first|(with_reducible assumption)|assumption)
              have q509 : (ji15) < (x12_1.length : Int) := of_decide_eq_true (by first|(with_reducible assumption)|assumption)
              obtain ⟨ad509,e509,hx509_0⟩ := Kd.at_int (Kd.R_reads' HO_12.out).2.2 (ji15) p509 q509
              cases e509
              replace p509 := eq_true p509
              replace q509 := eq_true q509
              go_wp2
              go_meet
              case rel => exact ⟨_,(decide (t506 > (wrap64 (4611686018427387904 - (rd x12_1 (ji15)))))),(by first|rfl|(simp;done)|(rw [Int.tdiv_eq_ediv_of_nonneg (by assumption)];done)|(rw [Int.tmod_eq_emod_of_nonneg (by assumption)];done)|(simp only [← hji15] <;> (first|rfl|simp))|(simp [*];done)),H',⟨by have := HK1.out;have := HJ9.out;first|omega|exact Nat.le_refl _⟩,⟨rM HO_12.out⟩,⟨bM HB.out⟩⟩
             ·rw [if_neg c17] at H
              exact absurd H (by simp)
            ·rw [if_neg c16] at H
             exact absurd H (by simp)
           ·rw [if_neg c14] at H
            have c14b0 : decide (0 < x13_1) = false := decide_eq_false c14
            clear c14
            (first|rw [c14b0]|(simp only [i64_w,i32_w];rw [c14b0])|skip)
            have H' := Aside0.mk H
            clear H
            go_wp2
            go_meet
            case rel => exact ⟨_,(false),(by first|rfl|(simp;done)|(simp [*];done)),H',⟨by have := HK1.out;have := HJ9.out;first|omega|exact Nat.le_refl _⟩,⟨rM HO_12.out⟩,⟨bM HB.out⟩⟩
          case rest =>
           clear HC13
           try clear c1
           try clear p2
           try clear c4
           try clear c5
           try clear c5b0
           try clear c5b1
           try clear p5
           try clear q5
           try clear hx5
           try clear c6
           try clear c6b0
           try clear p6
           try clear c7
           try clear c7b0
           try clear c9
           try clear c9b0
           try clear c9b1
           try clear c11
           try clear c11b0
           try clear c12
           try clear c14
           try clear c14b0
           try clear c16
           try clear c16b0
           try clear c17
           try clear c17b0
           try clear hx509_0
           try clear p2
           try clear p509
           try clear q509
           obtain ⟨kq,x62_12,rfl,HA,HJ12,HO_12,HB⟩ := hcut
           cases kq with
          |zero => exact absurd HA.out (by simp [codesearchref03_GetList.j2])
          |succ kj12 =>
            have H := HA.out
            clear HA
            simp only [codesearchref03_GetList.j2] at H
            by_cases c19 : x62_12 = true
            ·subst c19
             have H1 : (some (([] : List Int),0,4)) = some (r1,r2,r3) := by rw [if_pos rfl] at H;exact H
             clear H
             have H := H1
             clear H1
             simp only [Option.some.injEq,Prod.mk.injEq] at H
             obtain ⟨rfl,rfl,rfl⟩ := H
             go_wp2
             go_ret3
             exact ⟨_,by first|rfl|(simp [errW_none,errW_some] <;> rfl)|(simp [*,errW_none,errW_some] <;> rfl),by first|exact Kd.R_nil _ _ _ _ _|exact Kd.N_nil _ _ _ _ _|exact Kd.V_nil _ _ _ _ _|exact Kd.Q_nil _ _ _ _ _|exact Kd.S_nil _ _ _ _ _,bM HB.out⟩
            ·replace c19 := Bool.eq_false_iff.mpr c19
             subst c19
             have H1 : (if x13_1 > 0 then (if 0 ≤ (wrap64 (x13_1 - 1)) then (if (wrap64 (x13_1 - 1)) < (x12_1.length : Int) then (if x12_1.length < 17592186044416 then (codesearchref03_GetList.l0 kj12 l0 t503 t507 (x12_1 ++ [wrap64 (t506 + (rd x12_1 (wrap64 (x13_1 - 1))))]) (wrap64 (x13_1 + 1))) else (none)) else (none)) else (none)) else (if x12_1.length < 17592186044416 then (codesearchref03_GetList.l0 kj12 l0 t503 t507 (x12_1 ++ [t506]) (wrap64 (x13_1 + 1))) else (none))) = some (r1,r2,r3) := by rw [if_neg (show ¬ (false = true) by decide)] at H;exact H
             clear H
             have H := H1
             clear H1
             by_cases c20 : x13_1 > 0
             ·rw [if_pos c20] at H
              have c20b0 : decide (0 < x13_1) = true := decide_eq_true c20
              clear c20
              obtain ⟨ji21,hji21⟩ : ∃ j_ : Int,(wrap64 (x13_1 - 1)) = j_ := ⟨_,rfl⟩
              replace H : (if 0 ≤ (ji21) then (if (ji21) < (x12_1.length : Int) then (if x12_1.length < 17592186044416 then (codesearchref03_GetList.l0 kj12 l0 t503 t507 (x12_1 ++ [wrap64 (t506 + (rd x12_1 (ji21)))]) (wrap64 (x13_1 + 1))) else (none)) else (none)) else (none)) = some (r1,r2,r3) := by first|(rw [hji21] at H;exact H)|(simp only [hji21] at H ⊢;exact H)
              have hji21w : (IntKind.i64.wrap (x13_1 - 1)) = ji21 := (i64_w _).trans hji21
              by_cases c22 : 0 ≤ (ji21)
              ·rw [if_pos c22] at H
               have c22b0 : decide (0 ≤ (ji21)) = true := decide_eq_true c22
               clear c22
               by_cases c23 : (ji21) < (x12_1.length : Int)
               ·rw [if_pos c23] at H
                have c23b0 : decide ((ji21) < (x12_1.length : Int)) = true := decide_eq_true c23
                clear c23
                by_cases c24 : x12_1.length < 17592186044416
                ·rw [if_pos c24] at H
                 have LMc24 := Aside0.mk c24
                 clear c24
                 obtain ⟨y511,hy511⟩ : ∃ y_ : List Int,y_ = (x12_1 ++ [wrap64 (t506 + (rd x12_1 (ji21)))]) := ⟨_,rfl⟩
                 replace H : (codesearchref03_GetList.l0 kj12 l0 t503 t507 y511 (wrap64 (x13_1 + 1))) = some (r1,r2,r3) := by first|(rw [hy511];with_reducible exact H)|(have H2_ := (Option.bind_some _ _).symm.trans H;rw [hy511];with_reducible exact H2_)|(have H2_ := (Option.bind_some _ _).symm.trans H;with_reducible exact H2_)|with_reducible exact H|(rw [hy511];exact H)|exact H
                 have Ny511 := Aside0.mk hy511
                 clear hy511
                 have H' := Aside0.mk H
                 clear H
                 obtain ⟨Ao25,co25,eo25⟩ := Kd.R_slice HO_12.out
                 subst eo25
                 have p510 : 0 ≤ ((ji21) : Int) := of_decide_eq_true (by first|(with_reducible assumption)|assumption)
                 have q510 : (ji21) < (x12_1.length : Int) := of_decide_eq_true (by first|(with_reducible assumption)|assumption)
                 obtain ⟨ad510,e510,hx510_0⟩ := Kd.at_int (Kd.R_reads' HO_12.out).2.2 (ji21) p510 q510
                 cases e510
                 replace p510 := eq_true p510
                 replace q510 := eq_true q510
                 go_wp2_with (first|((with_reducible refine gate_builtin (b := .append) (xs := #[.tmp 72,.tmp 74]) rfl ?_);at_builtin;refine Kd.R_append (Kd.int .i64) (w0 := w) w.heap.size rfl (.tmp 72) (.tmp 74) 22 3 (.int .i64 0) 8 rfl Try.underlying22 info3 rfl (by decide) (by omega) (.slice (some ad510) x12_1.length co25) x12_1 (wrap64 (t506 + (rd x12_1 (ji21)))) [.int .i64 (wrap64 (t506 + (rd x12_1 (ji21))))] (fun _ => True) (fun _ => False) rfl rfl ?aP (fun _ hk => hk.elim) ?aF ?aO ?aB ?aS ?aL ?_;(case aP => exact rfl);(case aB => exact (bM HB.out));(case aF => exact (fun _ _ => trivial));(case aO => exact (rM HO_12.out));(case aS => exact (below_size (bM HB.out)));(case aL => have := LMc24.out;omega);intro v512 w26 ho hb hg hat;rw [← Ny511.out] at ho;have n0_ := Aside0.mk (hb);have n1_ := Aside0.mk (ho);clear HB;clear HO_12;have HB := n0_;have HO513 := n1_;clear n0_ n1_;clear ho hb hg hat))
                 go_roundg kj12
                 case measure => have := HK1.out;have := HJ9.out;have := HJ12.out;omega
                 case rel => exact ⟨(t507),(y511),(wrap64 (x13_1 + 1)),(by first|rfl|(simp;done)|(simp [*];done)),(by first|rfl|(simp;done)|(simp [*];done)),H',⟨by have := HK1.out;have := HJ9.out;have := HJ12.out;omega⟩,⟨rM HO513.out⟩,⟨bM HB.out⟩⟩
                ·rw [if_neg c24] at H
                 exact absurd H (by simp)
               ·rw [if_neg c23] at H
                exact absurd H (by simp)
              ·rw [if_neg c22] at H
               exact absurd H (by simp)
             ·rw [if_neg c20] at H
              have c20b0 : decide (0 < x13_1) = false := decide_eq_false c20
              clear c20
              by_cases c27 : x12_1.length < 17592186044416
              ·rw [if_pos c27] at H
               have LMc27 := Aside0.mk c27
               clear c27
               obtain ⟨y514,hy514⟩ : ∃ y_ : List Int,y_ = (x12_1 ++ [t506]) := ⟨_,rfl⟩
               replace H : (codesearchref03_GetList.l0 kj12 l0 t503 t507 y514 (wrap64 (x13_1 + 1))) = some (r1,r2,r3) := by first|(rw [hy514];with_reducible exact H)|(have H2_ := (Option.bind_some _ _).symm.trans H;rw [hy514];with_reducible exact H2_)|(have H2_ := (Option.bind_some _ _).symm.trans H;with_reducible exact H2_)|with_reducible exact H|(rw [hy514];exact H)|exact H
               have Ny514 := Aside0.mk hy514
               clear hy514
               have H' := Aside0.mk H
               clear H
               go_wp2_with (first|((with_reducible refine gate_builtin (b := .append) (xs := #[.tmp 72,.tmp 74]) rfl ?_);at_builtin;refine Kd.R_append (Kd.int .i64) (w0 := w) w.heap.size rfl (.tmp 72) (.tmp 74) 22 3 (.int .i64 0) 8 rfl Try.underlying22 info3 rfl (by decide) (by omega) u12 x12_1 t506 [.int .i64 t506] (fun _ => True) (fun _ => False) rfl rfl ?aP (fun _ hk => hk.elim) ?aF ?aO ?aB ?aS ?aL ?_;(case aP => exact rfl);(case aB => exact (bM HB.out));(case aF => exact (fun _ _ => trivial));(case aO => exact (rM HO_12.out));(case aS => exact (below_size (bM HB.out)));(case aL => have := LMc27.out;omega);intro v515 w28 ho hb hg hat;rw [← Ny514.out] at ho;have n0_ := Aside0.mk (hb);have n1_ := Aside0.mk (ho);clear HB;clear HO_12;have HB := n0_;have HO516 := n1_;clear n0_ n1_;clear ho hb hg hat))
               go_roundg kj12
               case measure => have := HK1.out;have := HJ9.out;have := HJ12.out;omega
               case rel => exact ⟨(t507),(y514),(wrap64 (x13_1 + 1)),(by first|rfl|(simp;done)|(simp [*];done)),(by first|rfl|(simp;done)|(simp [*];done)),H',⟨by have := HK1.out;have := HJ9.out;have := HJ12.out;omega⟩,⟨rM HO516.out⟩,⟨bM HB.out⟩⟩
              ·rw [if_neg c27] at H
               exact absurd H (by simp)
      ·rw [if_neg c9] at H
       have c9b0 : (t508 == 0) = false := beq_eq_false_iff_ne.mpr c9
       have c9b1 : (t508 != 0) = true := bne_iff_ne.mpr c9
       simp only [Option.some.injEq,Prod.mk.injEq] at H
       obtain ⟨rfl,rfl,rfl⟩ := H
       go_wp2_with (first|((with_reducible refine gate_callee (f := 46) rfl ?_);refine goesL_ (some 38) rfl rfl Try.func46 (by kernel_rfl) rfl #[.slice A0 l0.length c0,.int .i64 x10_1] rfl (by (try simp only [List.map_toArray,List.map_cons,List.map_nil]);first|done|rfl|(simp only [List.length_drop,List.length_take];rfl)) ?_;(with_reducible refine (codesearchref03_Get.calls k1 _ _ l0 x10_1 t506 t507 t508 _ ?side1 ?side2 A8.out).mono ?_);(case side1 => exact cM (Kd.C_below HR0.out HB.out));(case side2 => exact HC0.out);rintro e w' ⟨rfl,⟨nd,rfl⟩⟩;refine ⟨_,rfl,?_⟩))
       go_ret3
       exact ⟨_,by first|rfl|(simp [errW_none,errW_some] <;> rfl)|(simp [*,errW_none,errW_some] <;> rfl),by first|exact Kd.R_nil _ _ _ _ _|exact Kd.N_nil _ _ _ _ _|exact Kd.V_nil _ _ _ _ _|exact Kd.Q_nil _ _ _ _ _|exact Kd.S_nil _ _ _ _ _,bM HB.out⟩
     ·rw [if_neg c7] at H
      have c7b0 : decide (x13_1 < t503) = false := decide_eq_false c7
      clear c7
      simp only [Option.some.injEq,Prod.mk.injEq] at H
      obtain ⟨rfl,rfl,rfl⟩ := H
      go_wp2
      go_ret3
      exact ⟨_,by first|rfl|(simp [errW_none,errW_some] <;> rfl)|(simp [*,errW_none,errW_some] <;> rfl),rM HO_12.out,bM HB.out⟩
 ·rw [if_neg c5] at H
  have c5b0 : (t505 == 0) = false := beq_eq_false_iff_ne.mpr c5
  have c5b1 : (t505 != 0) = true := bne_iff_ne.mpr c5
  simp only [Option.some.injEq,Prod.mk.injEq] at H
  obtain ⟨rfl,rfl,rfl⟩ := H
  go_enter Try.func48,Try.ntmps48
  go_wp2_with (first|((with_reducible refine gate_callee (f := 46) rfl ?_);refine goesL_ (some 20) rfl rfl Try.func46 (by kernel_rfl) rfl #[.slice A0 l0.length c0,.int .i64 a1] rfl (by (try simp only [List.map_toArray,List.map_cons,List.map_nil]);first|done|rfl|(simp only [List.length_drop,List.length_take];rfl)) ?_;(with_reducible refine (codesearchref03_Get.calls k _ _ l0 a1 t503 t504 t505 _ ?side1 ?side2 A4.out).mono ?_);(case side1 => exact cM HR0.out);(case side2 => exact HC0.out);rintro e w' ⟨rfl,⟨nd,rfl⟩⟩;refine ⟨_,rfl,?_⟩))
  go_ret3
  exact ⟨_,by first|rfl|(simp [errW_none,errW_some] <;> rfl)|(simp [*,errW_none,errW_some] <;> rfl),by first|exact Kd.R_nil _ _ _ _ _|exact Kd.N_nil _ _ _ _ _|exact Kd.V_nil _ _ _ _ _|exact Kd.Q_nil _ _ _ _ _|exact Kd.S_nil _ _ _ _ _,bM HB.out⟩

/-! ### codesearchref05_Unpack: function 28 -/
mutual
def codesearchref05_Unpack.j0 : Nat → List Int → Int → Int → Bool → Option (List Int × Int)
|0,_,_,_,_ => none
|k + 1,x0,x4,x5,x26 => if x26 = true then (some (([] : List Int),3)) else ((codesearchref05_skip.f k x0 x5 (wrap64 (2 * (wrap64 (Int.tdiv (wrap64 ((wrap64 (x4 + 16)) - 1)) 16))))).bind fun t520 => (if t520 < 0 then (some (([] : List Int),3)) else (codesearchref05_Unpack.l0 k x0 t520 (wrap64 (Int.tdiv (wrap64 ((wrap64 (x4 + 16)) - 1)) 16)) (([] : List Int)) 0)))
def codesearchref05_Unpack.l0 : Nat → List Int → Int → Int → List Int → Int → Option (List Int × Int)
|0,_,_,_,_,_ => none
|k + 1,x0,x5,x7,x8,x9 => if x9 < x7 then ((codesearchref03_GetList.f k x0 x5 16).bind fun bt524 => (if bt524.2.2 = 0 then (if x8.length + bt524.1.length < 17592186044416 then (codesearchref05_Unpack.l0 k x0 bt524.2.1 x7 (x8 ++ bt524.1) (wrap64 (x9 + 1))) else (none)) else (some (([] : List Int),3)))) else ((codesearchref05_Pack.f k x8).bind fun bt532 => (if bt532.2 = 0 then (if (strOfNums bt532.1).toList = (strOfNums x0).toList then (some (x8,0)) else (some (([] : List Int),3))) else (some (([] : List Int),3))))
end
def codesearchref05_Unpack.f (k : Nat) (l0 : List Int) : Option (List Int × Int) := (codesearchref03_Get.f k l0 0).bind fun bt517 => (if bt517.2.2 = 0 then (codesearchref05_Unpack.j0 k l0 bt517.1 bt517.2.1 (decide (bt517.1 > 10000))) else (codesearchref05_Unpack.j0 k l0 bt517.1 bt517.2.1 true))
theorem codesearchref05_Unpack.mono_l : ∀ k, (∀ y0 y1 y2 y3, LeO (codesearchref05_Unpack.j0 k y0 y1 y2 y3) (codesearchref05_Unpack.j0 (k + 1) y0 y1 y2 y3)) ∧ (∀ y0 y1 y2 y3 y4, LeO (codesearchref05_Unpack.l0 k y0 y1 y2 y3 y4) (codesearchref05_Unpack.l0 (k + 1) y0 y1 y2 y3 y4))
|0 => ⟨fun _ _ _ _ r h => by simp [codesearchref05_Unpack.j0] at h,fun _ _ _ _ _ r h => by simp [codesearchref05_Unpack.l0] at h⟩
|k + 1 => by
  obtain ⟨ih0,ih1⟩ := codesearchref05_Unpack.mono_l k
  refine ⟨?_,?_⟩
  ·intro y0 y1 y2 y3
   unfold codesearchref05_Unpack.j0
   repeat' first
  |(with_reducible exact ih0 _ _ _ _)
  |(with_reducible exact ih1 _ _ _ _ _)
  |(with_reducible exact codesearchref03_Get.mono _ _ _)
  |(with_reducible exact codesearchref03_GetList.mono _ _ _ _)
  |(with_reducible exact codesearchref05_Pack.mono _ _)
  |(with_reducible exact codesearchref05_skip.mono _ _ _ _)
  |(with_reducible exact LeO.refl _)
  |(with_reducible exact LeO.none _)
  |(with_reducible refine LeO.ite ?_ ?_)
  |(with_reducible refine LeO.bind ?_ (fun _ => ?_))
  |exact ih0 _ _ _ _
  |exact ih1 _ _ _ _ _
  |exact codesearchref03_Get.mono _ _ _
  |exact codesearchref03_GetList.mono _ _ _ _
  |exact codesearchref05_Pack.mono _ _
  |exact codesearchref05_skip.mono _ _ _ _
  |exact LeO.none _
  |refine LeO.ite ?_ ?_
  |refine LeO.bind ?_ (fun _ => ?_)
  ·intro y0 y1 y2 y3 y4
   unfold codesearchref05_Unpack.l0
   repeat' first
  |(with_reducible exact ih0 _ _ _ _)
  |(with_reducible exact ih1 _ _ _ _ _)
  |(with_reducible exact codesearchref03_Get.mono _ _ _)
  |(with_reducible exact codesearchref03_GetList.mono _ _ _ _)
  |(with_reducible exact codesearchref05_Pack.mono _ _)
  |(with_reducible exact codesearchref05_skip.mono _ _ _ _)
  |(with_reducible exact LeO.refl _)
  |(with_reducible exact LeO.none _)
  |(with_reducible refine LeO.ite ?_ ?_)
  |(with_reducible refine LeO.bind ?_ (fun _ => ?_))
  |exact ih0 _ _ _ _
  |exact ih1 _ _ _ _ _
  |exact codesearchref03_Get.mono _ _ _
  |exact codesearchref03_GetList.mono _ _ _ _
  |exact codesearchref05_Pack.mono _ _
  |exact codesearchref05_skip.mono _ _ _ _
  |exact LeO.none _
  |refine LeO.ite ?_ ?_
  |refine LeO.bind ?_ (fun _ => ?_)
theorem codesearchref05_Unpack.mono : ∀ a0 k, LeO (codesearchref05_Unpack.f k a0) (codesearchref05_Unpack.f (k + 1) a0) := by
 intro a0 k
 obtain ⟨ih0,ih1⟩ := codesearchref05_Unpack.mono_l k
 unfold codesearchref05_Unpack.f
 repeat' first
  |(with_reducible exact ih0 _ _ _ _)
  |(with_reducible exact ih1 _ _ _ _ _)
  |(with_reducible exact codesearchref03_Get.mono _ _ _)
  |(with_reducible exact codesearchref03_GetList.mono _ _ _ _)
  |(with_reducible exact codesearchref05_Pack.mono _ _)
  |(with_reducible exact codesearchref05_skip.mono _ _ _ _)
  |(with_reducible exact LeO.refl _)
  |(with_reducible exact LeO.none _)
  |(with_reducible refine LeO.ite ?_ ?_)
  |(with_reducible refine LeO.bind ?_ (fun _ => ?_))
  |exact ih0 _ _ _ _
  |exact ih1 _ _ _ _ _
  |exact codesearchref03_Get.mono _ _ _
  |exact codesearchref03_GetList.mono _ _ _ _
  |exact codesearchref05_Pack.mono _ _
  |exact codesearchref05_skip.mono _ _ _ _
  |exact LeO.none _
  |refine LeO.ite ?_ ?_
  |refine LeO.bind ?_ (fun _ => ?_)
set_option maxHeartbeats 4000000 in
set_option maxRecDepth 100000 in
theorem codesearchref05_Unpack.calls (k : Nat) (A0 : Option Addr) (c0 : Nat) (l0 : List Int) (r1 : List Int) (r2 : Int) (w : World) (hr0 : Kd.C (Kd.int .u8) w A0 l0.length l0) (hc0 : l0.length ≤ c0) (h : codesearchref05_Unpack.f k l0 = some (r1, r2)) :
  Calls Try.prog 28 #[.slice A0 l0.length c0] w fun e w' => ∃ v0_ : Value,e = .returned (.tuple #[v0_,.int .i64 r2]) ∧ Kd.R (Kd.int .i64) 3 w' w.heap.size (fun _ => True) v0_ r1 ∧ Below w.heap.size w w' := by
 have HR0 := Aside0.mk hr0
 have HC0 := Aside0.mk hc0
 clear hr0 hc0
 have HB := Aside0.mk (Below.refl w.heap.size w)
 have H : ((codesearchref03_Get.f k l0 0).bind fun bt517 => (if bt517.2.2 = 0 then (codesearchref05_Unpack.j0 k l0 bt517.1 bt517.2.1 (decide (bt517.1 > 10000))) else (codesearchref05_Unpack.j0 k l0 bt517.1 bt517.2.1 true))) = some (r1,r2) := h
 clear h
 replace H := Option.bind_eq_some_iff.mp H
 obtain ⟨⟨t517,t518,t519⟩,A20,H⟩ := H
 replace H : (if t519 = 0 then (codesearchref05_Unpack.j0 k l0 t517 t518 (decide (t517 > 10000))) else (codesearchref05_Unpack.j0 k l0 t517 t518 true)) = some (r1,r2) := H
 have A2 := Aside0.mk A20
 clear A20
 have HC3 := Aside0.mk H
 clear H
 go_enter Try.func28,Try.ntmps28
 go_upto_region 2 with (first|((with_reducible refine gate_callee (f := 46) rfl ?_);refine goesL_ (some 17) rfl rfl Try.func46 (by kernel_rfl) rfl #[.slice A0 l0.length c0,.int .i64 0] rfl (by (try simp only [List.map_toArray,List.map_cons,List.map_nil]);first|done|rfl|(simp only [List.length_drop,List.length_take];rfl)) ?_;(with_reducible refine (codesearchref03_Get.calls k _ _ l0 0 t517 t518 t519 _ ?side1 ?side2 A2.out).mono ?_);(case side1 => exact cM HR0.out);(case side2 => exact HC0.out);rintro e w' ⟨rfl,⟨nd,rfl⟩⟩;refine ⟨_,rfl,?_⟩))
 (try simp only [Act.put,List.setIfInBounds_toArray,List.set_cons_zero,List.set_cons_succ])
 go_cut [26] (fun v26 wc => ∃ (kq : Nat) (x26_2 : Bool),v26 = .bool x26_2 ∧ Aside0 (codesearchref05_Unpack.j0 kq l0 t517 t518 x26_2 = some (r1,r2)) ∧ Aside0 (kq ≤ k) ∧ Aside0 (Below w.heap.size w wc))
 case first =>
  have H := HC3.out
  clear HC3
  by_cases c4 : t519 = 0
  ·rw [if_pos c4] at H
   have c4b0 : (t519 == 0) = true := beq_iff_eq.mpr c4
   have c4b1 : (t519 != 0) = false := bne_eq_false_iff_eq.mpr c4
   clear c4
   (first|rw [c4b0]|(simp only [i64_w,i32_w];rw [c4b0])|skip)
   have H' := Aside0.mk H
   clear H
   go_wp2
   go_meet
   case rel => exact ⟨_,(decide (t517 > 10000)),(by first|rfl|(simp;done)|(simp [*];done)),H',⟨by first|omega|exact Nat.le_refl _⟩,⟨bM HB.out⟩⟩
  ·rw [if_neg c4] at H
   have c4b0 : (t519 == 0) = false := beq_eq_false_iff_ne.mpr c4
   have c4b1 : (t519 != 0) = true := bne_iff_ne.mpr c4
   (first|rw [c4b0]|(simp only [i64_w,i32_w];rw [c4b0])|skip)
   have H' := Aside0.mk H
   clear H
   go_wp2
   go_meet
   case rel => exact ⟨_,(true),(by first|rfl|(simp;done)|(simp [*];done)),H',⟨by first|omega|exact Nat.le_refl _⟩,⟨bM HB.out⟩⟩
 case rest =>
  clear HC3
  try clear c2
  try clear p2
  try clear c4
  try clear c4b0
  try clear c4b1
  obtain ⟨kq,x26_2,rfl,HA,HJ2,HB⟩ := hcut
  cases kq with
 |zero => exact absurd HA.out (by simp [codesearchref05_Unpack.j0])
 |succ kj2 =>
   have H := HA.out
   clear HA
   simp only [codesearchref05_Unpack.j0] at H
   by_cases c5 : x26_2 = true
   ·subst c5
    have H1 : (some (([] : List Int),3)) = some (r1,r2) := by rw [if_pos rfl] at H;exact H
    clear H
    have H := H1
    clear H1
    simp only [Option.some.injEq,Prod.mk.injEq] at H
    obtain ⟨rfl,rfl⟩ := H
    go_wp2
    go_ret2
    exact ⟨_,by first|rfl|(simp [errW_none,errW_some] <;> rfl)|(simp [*,errW_none,errW_some] <;> rfl),by first|exact Kd.R_nil _ _ _ _ _|exact Kd.N_nil _ _ _ _ _|exact Kd.V_nil _ _ _ _ _|exact Kd.Q_nil _ _ _ _ _|exact Kd.S_nil _ _ _ _ _,bM HB.out⟩
   ·replace c5 := Bool.eq_false_iff.mpr c5
    subst c5
    have H1 : ((codesearchref05_skip.f kj2 l0 t518 (wrap64 (2 * (wrap64 (Int.tdiv (wrap64 ((wrap64 (t517 + 16)) - 1)) 16))))).bind fun t520 => (if t520 < 0 then (some (([] : List Int),3)) else (codesearchref05_Unpack.l0 kj2 l0 t520 (wrap64 (Int.tdiv (wrap64 ((wrap64 (t517 + 16)) - 1)) 16)) (([] : List Int)) 0))) = some (r1,r2) := by rw [if_neg (show ¬ (false = true) by decide)] at H;exact H
    clear H
    have H := H1
    clear H1
    replace H := Option.bind_eq_some_iff.mp H
    obtain ⟨t520,A60,H⟩ := H
    replace H : (if t520 < 0 then (some (([] : List Int),3)) else (codesearchref05_Unpack.l0 kj2 l0 t520 (wrap64 (Int.tdiv (wrap64 ((wrap64 (t517 + 16)) - 1)) 16)) (([] : List Int)) 0)) = some (r1,r2) := H
    have A6 := Aside0.mk A60
    clear A60
    by_cases c7 : t520 < 0
    ·rw [if_pos c7] at H
     have c7b0 : decide (t520 < 0) = true := decide_eq_true c7
     clear c7
     simp only [Option.some.injEq,Prod.mk.injEq] at H
     obtain ⟨rfl,rfl⟩ := H
     go_wp2_with (first|((with_reducible refine gate_callee (f := 47) rfl ?_);refine goesL_ (some 35) rfl rfl Try.func47 (by kernel_rfl) rfl #[.slice A0 l0.length c0,.int .i64 t518,.int .i64 (wrap64 (2 * (wrap64 (Int.tdiv (wrap64 ((wrap64 (t517 + 16)) - 1)) 16))))] rfl (by (try simp only [List.map_toArray,List.map_cons,List.map_nil]);first|done|rfl|(simp only [List.length_drop,List.length_take];rfl)) ?_;(with_reducible refine (codesearchref05_skip.calls kj2 _ _ l0 t518 (wrap64 (2 * (wrap64 (Int.tdiv (wrap64 ((wrap64 (t517 + 16)) - 1)) 16)))) t520 _ ?side1 ?side2 A6.out).mono ?_);(case side1 => exact cM (Kd.C_below HR0.out HB.out));(case side2 => exact HC0.out);rintro e w' ⟨rfl,⟨nd,rfl⟩⟩;refine ⟨_,rfl,?_⟩))
     go_ret2
     exact ⟨_,by first|rfl|(simp [errW_none,errW_some] <;> rfl)|(simp [*,errW_none,errW_some] <;> rfl),by first|exact Kd.R_nil _ _ _ _ _|exact Kd.N_nil _ _ _ _ _|exact Kd.V_nil _ _ _ _ _|exact Kd.Q_nil _ _ _ _ _|exact Kd.S_nil _ _ _ _ _,bM HB.out⟩
    ·rw [if_neg c7] at H
     have c7b0 : decide (t520 < 0) = false := decide_eq_false c7
     clear c7
     obtain ⟨y521,hy521⟩ : ∃ y_ : List Int,y_ = (([] : List Int)) := ⟨_,rfl⟩
     replace H : (codesearchref05_Unpack.l0 kj2 l0 t520 (wrap64 (Int.tdiv (wrap64 ((wrap64 (t517 + 16)) - 1)) 16)) y521 0) = some (r1,r2) := by first|(rw [hy521];with_reducible exact H)|(have H2_ := (Option.bind_some _ _).symm.trans H;rw [hy521];with_reducible exact H2_)|(have H2_ := (Option.bind_some _ _).symm.trans H;with_reducible exact H2_)|with_reducible exact H|(rw [hy521];exact H)|exact H
     have Ny521 := Aside0.mk hy521
     clear hy521
     have H' := Aside0.mk H
     clear H
     go_wp2_with (first|((with_reducible refine gate_callee (f := 47) rfl ?_);refine goesL_ (some 35) rfl rfl Try.func47 (by kernel_rfl) rfl #[.slice A0 l0.length c0,.int .i64 t518,.int .i64 (wrap64 (2 * (wrap64 (Int.tdiv (wrap64 ((wrap64 (t517 + 16)) - 1)) 16))))] rfl (by (try simp only [List.map_toArray,List.map_cons,List.map_nil]);first|done|rfl|(simp only [List.length_drop,List.length_take];rfl)) ?_;(with_reducible refine (codesearchref05_skip.calls kj2 _ _ l0 t518 (wrap64 (2 * (wrap64 (Int.tdiv (wrap64 ((wrap64 (t517 + 16)) - 1)) 16)))) t520 _ ?side1 ?side2 A6.out).mono ?_);(case side1 => exact cM (Kd.C_below HR0.out HB.out));(case side2 => exact HC0.out);rintro e w' ⟨rfl,⟨nd,rfl⟩⟩;refine ⟨_,rfl,?_⟩)|((with_reducible refine gate_dst (N := 38) rfl ?_);refine Kd.R_lit (Kd.int .i64) _ 3 ?hg (N := 38) ?hd (xs := ([] : List Int)) (inner := []) (ok := fun _ => True) (okp := fun _ => True) ?hr ?hp (fun _ hk => hk) trivial (Below.refl _ _) (Nat.le_refl _) (by simp) ?_;(case hd => rfl);(case hg => rfl);(case hr => first|(go_simp;done)|(go_simp;rfl));(case hp => exact (Reps.none _ _));intro v522 w8 ho9 hb hg_ hnew_;clear hg_ hnew_;(first|rw [← Ny521.out] at ho9|(simp only [Int.reduceToNat] at ho9;rw [← Ny521.out] at ho9));have n0_ := Aside0.mk (Kd.R_lower ho9 (below_size (bM HB.out)));have n1_ := Aside0.mk (below_step (bM HB.out) hb);clear HB;have HO523 := n0_;have HB := n1_;clear n0_ n1_;clear hb ho9))
     go_loopg [5,8,9] kj2 (fun kq v5 v8 v9 w' => ∃ (x5_2 : Int) (x8_2 : List Int) (x9_2 : Int),v5 = .int .i64 x5_2 ∧ v9 = .int .i64 x9_2 ∧ Aside0 (codesearchref05_Unpack.l0 kq l0 x5_2 (wrap64 (Int.tdiv (wrap64 ((wrap64 (t517 + 16)) - 1)) 16)) x8_2 x9_2 = some (r1,r2)) ∧ Aside0 (kq ≤ kj2) ∧ Aside0 (Kd.R (Kd.int .i64) 3 w' w.heap.size (fun _ => True) v8 x8_2) ∧ Aside0 (Below w.heap.size w w'))
     case atStart => exact ⟨(t520),(y521),(0),(by first|rfl|(simp;done)|(simp [*];done)),(by first|rfl|(simp;done)|(simp [*];done)),H',⟨Nat.le_refl _⟩,⟨rM HO523.out⟩,⟨bM HB.out⟩⟩
     case round =>
      clear H'
      try clear c2
      try clear p2
      try clear c4
      try clear c4b0
      try clear c4b1
      try clear c5
      try clear p6
      try clear c7
      try clear c7b0
      try clear p2
      obtain ⟨x5_2,x8_2,x9_2,rfl,rfl,HA,HK2,HO_8,HB⟩ := hrel
      cases gk with
     |zero => exact absurd HA.out (by simp [codesearchref05_Unpack.l0])
     |succ k2 =>
       have H := HA.out
       clear HA
       simp only [codesearchref05_Unpack.l0] at H
       by_cases c10 : x9_2 < (wrap64 (Int.tdiv (wrap64 ((wrap64 (t517 + 16)) - 1)) 16))
       ·rw [if_pos c10] at H
        have c10b0 : decide (x9_2 < (wrap64 (Int.tdiv (wrap64 ((wrap64 (t517 + 16)) - 1)) 16))) = true := decide_eq_true c10
        clear c10
        replace H := Option.bind_eq_some_iff.mp H
        obtain ⟨⟨t524,t525,t526⟩,A110,H⟩ := H
        replace H : (if t526 = 0 then (if x8_2.length + t524.length < 17592186044416 then (codesearchref05_Unpack.l0 k2 l0 t525 (wrap64 (Int.tdiv (wrap64 ((wrap64 (t517 + 16)) - 1)) 16)) (x8_2 ++ t524) (wrap64 (x9_2 + 1))) else (none)) else (some (([] : List Int),3))) = some (r1,r2) := H
        have A11 := Aside0.mk A110
        clear A110
        by_cases c12 : t526 = 0
        ·rw [if_pos c12] at H
         have c12b0 : (t526 == 0) = true := beq_iff_eq.mpr c12
         have c12b1 : (t526 != 0) = false := bne_eq_false_iff_eq.mpr c12
         clear c12
         by_cases c13 : x8_2.length + t524.length < 17592186044416
         ·rw [if_pos c13] at H
          have LMc13 := Aside0.mk c13
          clear c13
          obtain ⟨y529,hy529⟩ : ∃ y_ : List Int,y_ = (x8_2 ++ t524) := ⟨_,rfl⟩
          replace H : (codesearchref05_Unpack.l0 k2 l0 t525 (wrap64 (Int.tdiv (wrap64 ((wrap64 (t517 + 16)) - 1)) 16)) y529 (wrap64 (x9_2 + 1))) = some (r1,r2) := by first|(rw [hy529];with_reducible exact H)|(have H2_ := (Option.bind_some _ _).symm.trans H;rw [hy529];with_reducible exact H2_)|(have H2_ := (Option.bind_some _ _).symm.trans H;with_reducible exact H2_)|with_reducible exact H|(rw [hy529];exact H)|exact H
          have Ny529 := Aside0.mk hy529
          clear hy529
          have H' := Aside0.mk H
          clear H
          go_wp2_with (first|((with_reducible refine gate_callee (f := 48) rfl ?_);refine goesL_ (some 47) rfl rfl Try.func48 (by kernel_rfl) rfl #[.slice A0 l0.length c0,.int .i64 x5_2,.int .i64 16] rfl (by (try simp only [List.map_toArray,List.map_cons,List.map_nil]);first|done|rfl|(simp only [List.length_drop,List.length_take];rfl)) ?_;(with_reducible refine (codesearchref03_GetList.calls k2 _ _ l0 x5_2 16 t524 t525 t526 _ ?side1 ?side2 A11.out).mono ?_);(case side1 => exact cM (Kd.C_below HR0.out HB.out));(case side2 => exact HC0.out);rintro e w14 ⟨v527,rfl,ho0,hb⟩;refine ⟨_,rfl,?_⟩;have n0_ := Aside0.mk (Kd.R_elder' (rM HO_8.out) (Kd.R_base ho0) hb);have n1_ := Aside0.mk (Kd.R_lower (Kd.R_new' ho0 (Kd.R_lt (rM HO_8.out))) (below_size (bM HB.out)));have n2_ := Aside0.mk (below_step (bM HB.out) hb);clear HO_8;clear HB;have HO_8 := n0_;have HO528 := n1_;have HB := n2_;clear n0_ n1_ n2_;(try clear hb);(try clear hb2);(try clear hk);(try clear hi);(try clear ho0);obtain ⟨Ao16,co16,eo16⟩ := Kd.R_slice HO528.out;subst eo16)|((with_reducible refine gate_builtin (b := .append) (xs := #[.tmp 53,.tmp 54]) rfl ?_);at_builtin;refine Kd.R_append_rows (Kd.int .i64) (w0 := w) w.heap.size rfl (.tmp 53) (.tmp 54) 22 3 (.int .i64 0) 8 rfl Try.underlying22 info3 rfl (by decide) (by omega) u8 x8_2 t524 _ _ _ (fun k_ => some k_ ≠ (.slice Ao16 t524.length co16 : Value).ownBlock) (fun _ => False) rfl rfl ?aO ?aR (fun _ _ h => h) (fun _ h => h.elim) ?aF ?aB ?aS ?aL ?_;(case aR => exact cM (Kd.R_reads' HO528.out).2.2);(case aB => exact (bM HB.out));(case aF => exact (fun k_ hk => Kd.fresh' (Kd.R_lt (rM HO528.out)) k_ hk));(case aO => exact (by (with_reducible repeat (first|apply Kd.R_alloc|apply Kd.R_drewN|apply Kd.R_drew));exact Kd.R_mono HO_8.out (fun _ hk => hk.2)));(case aS => exact (below_size (bM HB.out)));(case aL => have := LMc13.out;omega);intro v530 w15 ho hb hg hat;rw [← Ny529.out] at ho;have n0_ := Aside0.mk (Kd.R_after (ok := (fun _ => True)) (rM HO528.out) hg hat);have n1_ := Aside0.mk (hb);have n2_ := Aside0.mk (ho);clear HO528;clear HB;clear HO_8;have HO528 := n0_;have HB := n1_;have HO531 := n2_;clear n0_ n1_ n2_;clear ho hb hg hat))
          go_roundg k2
          case measure => have := HJ2.out;have := HK2.out;omega
          case rel => exact ⟨(t525),(y529),(wrap64 (x9_2 + 1)),(by first|rfl|(simp;done)|(simp [*];done)),(by first|rfl|(simp;done)|(simp [*];done)),H',⟨by have := HJ2.out;have := HK2.out;omega⟩,⟨rM (Kd.R_mono HO531.out (fun _ hk => trivial))⟩,⟨bM HB.out⟩⟩
         ·rw [if_neg c13] at H
          exact absurd H (by simp)
        ·rw [if_neg c12] at H
         have c12b0 : (t526 == 0) = false := beq_eq_false_iff_ne.mpr c12
         have c12b1 : (t526 != 0) = true := bne_iff_ne.mpr c12
         simp only [Option.some.injEq,Prod.mk.injEq] at H
         obtain ⟨rfl,rfl⟩ := H
         go_wp2_with (first|((with_reducible refine gate_callee (f := 48) rfl ?_);refine goesL_ (some 47) rfl rfl Try.func48 (by kernel_rfl) rfl #[.slice A0 l0.length c0,.int .i64 x5_2,.int .i64 16] rfl (by (try simp only [List.map_toArray,List.map_cons,List.map_nil]);first|done|rfl|(simp only [List.length_drop,List.length_take];rfl)) ?_;(with_reducible refine (codesearchref03_GetList.calls k2 _ _ l0 x5_2 16 t524 t525 t526 _ ?side1 ?side2 A11.out).mono ?_);(case side1 => exact cM (Kd.C_below HR0.out HB.out));(case side2 => exact HC0.out);rintro e w17 ⟨v527,rfl,ho0,hb⟩;refine ⟨_,rfl,?_⟩;have n0_ := Aside0.mk (Kd.R_elder' (rM HO_8.out) (Kd.R_base ho0) hb);have n1_ := Aside0.mk (Kd.R_lower (Kd.R_new' ho0 (Kd.R_lt (rM HO_8.out))) (below_size (bM HB.out)));have n2_ := Aside0.mk (below_step (bM HB.out) hb);clear HO_8;clear HB;have HO_8 := n0_;have HO528 := n1_;have HB := n2_;clear n0_ n1_ n2_;(try clear hb);(try clear hb2);(try clear hk);(try clear hi);(try clear ho0)))
         go_ret2
         exact ⟨_,by first|rfl|(simp [errW_none,errW_some] <;> rfl)|(simp [*,errW_none,errW_some] <;> rfl),by first|exact Kd.R_nil _ _ _ _ _|exact Kd.N_nil _ _ _ _ _|exact Kd.V_nil _ _ _ _ _|exact Kd.Q_nil _ _ _ _ _|exact Kd.S_nil _ _ _ _ _,bM HB.out⟩
       ·rw [if_neg c10] at H
        have c10b0 : decide (x9_2 < (wrap64 (Int.tdiv (wrap64 ((wrap64 (t517 + 16)) - 1)) 16))) = false := decide_eq_false c10
        clear c10
        replace H := Option.bind_eq_some_iff.mp H
        obtain ⟨⟨t532,t533⟩,A180,H⟩ := H
        replace H : (if t533 = 0 then (if (strOfNums t532).toList = (strOfNums l0).toList then (some (x8_2,0)) else (some (([] : List Int),3))) else (some (([] : List Int),3))) = some (r1,r2) := H
        have A18 := Aside0.mk A180
        clear A180
        by_cases c19 : t533 = 0
        ·rw [if_pos c19] at H
         have c19b0 : (t533 == 0) = true := beq_iff_eq.mpr c19
         have c19b1 : (t533 != 0) = false := bne_eq_false_iff_eq.mpr c19
         clear c19
         by_cases c20 : (strOfNums t532).toList = (strOfNums l0).toList
         ·rw [if_pos c20] at H
          have c20b0 : ((strOfNums t532).toList == (strOfNums l0).toList) = true := beq_iff_eq.mpr c20
          have c20b1 : ((strOfNums t532).toList != (strOfNums l0).toList) = false := bne_eq_false_iff_eq.mpr c20
          clear c20
          simp only [Option.some.injEq,Prod.mk.injEq] at H
          obtain ⟨rfl,rfl⟩ := H
          obtain ⟨Ao21,co21,eo21⟩ := Kd.R_slice HO_8.out
          subst eo21
          go_wp2_with (first|((with_reducible refine gate_callee (f := 23) rfl ?_);refine goesL_ (some 59) rfl rfl Try.func23 (by kernel_rfl) rfl #[.slice Ao21 x8_2.length co21] rfl (by (try simp only [List.map_toArray,List.map_cons,List.map_nil]);first|done|rfl|(simp only [List.length_drop,List.length_take];rfl)) ?_;(with_reducible refine (codesearchref05_Pack.calls k2 _ _ x8_2 t532 t533 _ ?side1 ?side2 A18.out).mono ?_);(case side1 => exact cM (Kd.R_reads' HO_8.out).2.2);(case side2 => exact (Kd.R_reads' HO_8.out).2.1);rintro e w22 ⟨v534,rfl,ho0,hb⟩;refine ⟨_,rfl,?_⟩;have n0_ := Aside0.mk (Kd.R_below (rM HO_8.out) hb);have n1_ := Aside0.mk (Kd.R_lower ho0 (below_size (bM HB.out)));have n2_ := Aside0.mk (below_step (bM HB.out) hb);clear HO_8;clear HB;have HO_8 := n0_;have HO535 := n1_;have HB := n2_;clear n0_ n1_ n2_;(try clear hb);(try clear hb2);(try clear hk);(try clear hi);(try clear ho0);have hcv23 := own_string (P := Try.prog) Try.underlying30 Try.underlying5 Try.underlying9 (Kd.own_of_R HO535.out);have hcv24 := Kd.C_string (P := Try.prog) (A := A0) (c := c0) Try.underlying30 Try.underlying5 Try.underlying9 (Kd.C_below HR0.out HB.out);have hcv24d := fun n_ : Nat => Kd.C_string (P := Try.prog) (A := A0) (c := c0) Try.underlying30 Try.underlying5 Try.underlying9 (Kd.C_drewN (Kd.C_below HR0.out HB.out) n_)))
          go_ret2
          exact ⟨_,by first|rfl|(simp [errW_none,errW_some] <;> rfl)|(simp [*,errW_none,errW_some] <;> rfl),rM HO_8.out,bM HB.out⟩
         ·rw [if_neg c20] at H
          have c20b0 : ((strOfNums t532).toList == (strOfNums l0).toList) = false := beq_eq_false_iff_ne.mpr c20
          have c20b1 : ((strOfNums t532).toList != (strOfNums l0).toList) = true := bne_iff_ne.mpr c20
          simp only [Option.some.injEq,Prod.mk.injEq] at H
          obtain ⟨rfl,rfl⟩ := H
          obtain ⟨Ao25,co25,eo25⟩ := Kd.R_slice HO_8.out
          subst eo25
          go_wp2_with (first|((with_reducible refine gate_callee (f := 23) rfl ?_);refine goesL_ (some 59) rfl rfl Try.func23 (by kernel_rfl) rfl #[.slice Ao25 x8_2.length co25] rfl (by (try simp only [List.map_toArray,List.map_cons,List.map_nil]);first|done|rfl|(simp only [List.length_drop,List.length_take];rfl)) ?_;(with_reducible refine (codesearchref05_Pack.calls k2 _ _ x8_2 t532 t533 _ ?side1 ?side2 A18.out).mono ?_);(case side1 => exact cM (Kd.R_reads' HO_8.out).2.2);(case side2 => exact (Kd.R_reads' HO_8.out).2.1);rintro e w26 ⟨v534,rfl,ho0,hb⟩;refine ⟨_,rfl,?_⟩;have n0_ := Aside0.mk (Kd.R_below (rM HO_8.out) hb);have n1_ := Aside0.mk (Kd.R_lower ho0 (below_size (bM HB.out)));have n2_ := Aside0.mk (below_step (bM HB.out) hb);clear HO_8;clear HB;have HO_8 := n0_;have HO535 := n1_;have HB := n2_;clear n0_ n1_ n2_;(try clear hb);(try clear hb2);(try clear hk);(try clear hi);(try clear ho0);have hcv27 := own_string (P := Try.prog) Try.underlying30 Try.underlying5 Try.underlying9 (Kd.own_of_R HO535.out);have hcv28 := Kd.C_string (P := Try.prog) (A := A0) (c := c0) Try.underlying30 Try.underlying5 Try.underlying9 (Kd.C_below HR0.out HB.out);have hcv28d := fun n_ : Nat => Kd.C_string (P := Try.prog) (A := A0) (c := c0) Try.underlying30 Try.underlying5 Try.underlying9 (Kd.C_drewN (Kd.C_below HR0.out HB.out) n_)))
          go_ret2
          exact ⟨_,by first|rfl|(simp [errW_none,errW_some] <;> rfl)|(simp [*,errW_none,errW_some] <;> rfl),by first|exact Kd.R_nil _ _ _ _ _|exact Kd.N_nil _ _ _ _ _|exact Kd.V_nil _ _ _ _ _|exact Kd.Q_nil _ _ _ _ _|exact Kd.S_nil _ _ _ _ _,bM HB.out⟩
        ·rw [if_neg c19] at H
         have c19b0 : (t533 == 0) = false := beq_eq_false_iff_ne.mpr c19
         have c19b1 : (t533 != 0) = true := bne_iff_ne.mpr c19
         simp only [Option.some.injEq,Prod.mk.injEq] at H
         obtain ⟨rfl,rfl⟩ := H
         obtain ⟨Ao29,co29,eo29⟩ := Kd.R_slice HO_8.out
         subst eo29
         go_wp2_with (first|((with_reducible refine gate_callee (f := 23) rfl ?_);refine goesL_ (some 59) rfl rfl Try.func23 (by kernel_rfl) rfl #[.slice Ao29 x8_2.length co29] rfl (by (try simp only [List.map_toArray,List.map_cons,List.map_nil]);first|done|rfl|(simp only [List.length_drop,List.length_take];rfl)) ?_;(with_reducible refine (codesearchref05_Pack.calls k2 _ _ x8_2 t532 t533 _ ?side1 ?side2 A18.out).mono ?_);(case side1 => exact cM (Kd.R_reads' HO_8.out).2.2);(case side2 => exact (Kd.R_reads' HO_8.out).2.1);rintro e w30 ⟨v534,rfl,ho0,hb⟩;refine ⟨_,rfl,?_⟩;have n0_ := Aside0.mk (Kd.R_below (rM HO_8.out) hb);have n1_ := Aside0.mk (Kd.R_lower ho0 (below_size (bM HB.out)));have n2_ := Aside0.mk (below_step (bM HB.out) hb);clear HO_8;clear HB;have HO_8 := n0_;have HO535 := n1_;have HB := n2_;clear n0_ n1_ n2_;(try clear hb);(try clear hb2);(try clear hk);(try clear hi);(try clear ho0)))
         go_ret2
         exact ⟨_,by first|rfl|(simp [errW_none,errW_some] <;> rfl)|(simp [*,errW_none,errW_some] <;> rfl),by first|exact Kd.R_nil _ _ _ _ _|exact Kd.N_nil _ _ _ _ _|exact Kd.V_nil _ _ _ _ _|exact Kd.Q_nil _ _ _ _ _|exact Kd.S_nil _ _ _ _ _,bM HB.out⟩

/-! ### codesearchref05_Seek: function 30 -/
def codesearchref05_Seek.l0 : Nat → Int → List Int → Int → Option (Int × Bool)
|0,_,_,_ => none
|k + 1,x1,x6,x8 => if x8 < (x6.length : Int) then (if 0 ≤ x8 then (if (rd x6 x8) ≥ x1 then (some (rd x6 x8,true)) else (codesearchref05_Seek.l0 k x1 x6 (wrap64 (x8 + 1)))) else (none)) else (some (0,false))
def codesearchref05_Seek.f (k : Nat) (l0 : List Int) (a1 : Int) : Option (Int × Bool) := (codesearchref05_Unpack.f k l0).bind fun bt536 => (if bt536.2 = 0 then (codesearchref05_Seek.l0 k a1 bt536.1 0) else (some (0, false)))
theorem codesearchref05_Seek.mono_l : ∀ k, (∀ y0 y1 y2, LeO (codesearchref05_Seek.l0 k y0 y1 y2) (codesearchref05_Seek.l0 (k + 1) y0 y1 y2))
|0 => fun _ _ _ r h => by simp [codesearchref05_Seek.l0] at h
|k + 1 => by
  have ih0 := codesearchref05_Seek.mono_l k
  ·intro y0 y1 y2
   unfold codesearchref05_Seek.l0
   repeat' first
  |(with_reducible exact ih0 _ _ _)
  |(with_reducible exact codesearchref05_Unpack.mono _ _)
  |(with_reducible exact LeO.refl _)
  |(with_reducible exact LeO.none _)
  |(with_reducible refine LeO.ite ?_ ?_)
  |(with_reducible refine LeO.bind ?_ (fun _ => ?_))
  |exact ih0 _ _ _
  |exact codesearchref05_Unpack.mono _ _
  |exact LeO.none _
  |refine LeO.ite ?_ ?_
  |refine LeO.bind ?_ (fun _ => ?_)
theorem codesearchref05_Seek.mono : ∀ a0 a1 k, LeO (codesearchref05_Seek.f k a0 a1) (codesearchref05_Seek.f (k + 1) a0 a1) := by
 intro a0 a1 k
 have ih0 := codesearchref05_Seek.mono_l k
 unfold codesearchref05_Seek.f
 repeat' first
  |(with_reducible exact ih0 _ _ _)
  |(with_reducible exact codesearchref05_Unpack.mono _ _)
  |(with_reducible exact LeO.refl _)
  |(with_reducible exact LeO.none _)
  |(with_reducible refine LeO.ite ?_ ?_)
  |(with_reducible refine LeO.bind ?_ (fun _ => ?_))
  |exact ih0 _ _ _
  |exact codesearchref05_Unpack.mono _ _
  |exact LeO.none _
  |refine LeO.ite ?_ ?_
  |refine LeO.bind ?_ (fun _ => ?_)
set_option maxHeartbeats 4000000 in
set_option maxRecDepth 100000 in
theorem codesearchref05_Seek.calls (k : Nat) (A0 : Option Addr) (c0 : Nat) (l0 : List Int) (a1 : Int) (r1 : Int) (r2 : Bool) (w : World) (hr0 : Kd.C (Kd.int .u8) w A0 l0.length l0) (hc0 : l0.length ≤ c0) (h : codesearchref05_Seek.f k l0 a1 = some (r1, r2)) :
  Calls Try.prog 30 #[.slice A0 l0.length c0,.int .i64 a1] w fun e w' => e = .returned (.tuple #[.int .i64 r1,.bool r2]) ∧ Below w.heap.size w w' := by
 have HR0 := Aside0.mk hr0
 have HC0 := Aside0.mk hc0
 clear hr0 hc0
 have HB := Aside0.mk (Below.refl w.heap.size w)
 have H : ((codesearchref05_Unpack.f k l0).bind fun bt536 => (if bt536.2 = 0 then (codesearchref05_Seek.l0 k a1 bt536.1 0) else (some (0,false)))) = some (r1,r2) := h
 clear h
 replace H := Option.bind_eq_some_iff.mp H
 obtain ⟨⟨t536,t537⟩,A30,H⟩ := H
 replace H : (if t537 = 0 then (codesearchref05_Seek.l0 k a1 t536 0) else (some (0,false))) = some (r1,r2) := H
 have A3 := Aside0.mk A30
 clear A30
 by_cases c4 : t537 = 0
 ·rw [if_pos c4] at H
  have c4b0 : (t537 == 0) = true := beq_iff_eq.mpr c4
  have c4b1 : (t537 != 0) = false := bne_eq_false_iff_eq.mpr c4
  clear c4
  have H' := Aside0.mk H
  clear H
  go_enter Try.func30,Try.ntmps30
  go_wp2_with (first|((with_reducible refine gate_callee (f := 28) rfl ?_);refine goesL_ (some 11) rfl rfl Try.func28 (by kernel_rfl) rfl #[.slice A0 l0.length c0] rfl (by (try simp only [List.map_toArray,List.map_cons,List.map_nil]);first|done|rfl|(simp only [List.length_drop,List.length_take];rfl)) ?_;(with_reducible refine (codesearchref05_Unpack.calls k _ _ l0 t536 t537 _ ?side1 ?side2 A3.out).mono ?_);(case side1 => exact cM HR0.out);(case side2 => exact HC0.out);rintro e w5 ⟨v538,rfl,ho0,hb⟩;refine ⟨_,rfl,?_⟩;have n0_ := Aside0.mk (Kd.R_lower ho0 (below_size (bM HB.out)));have n1_ := Aside0.mk (below_step (bM HB.out) hb);clear HB;have HO539 := n0_;have HB := n1_;clear n0_ n1_;(try clear hb);(try clear hb2);(try clear hk);(try clear hi);(try clear ho0)))
  go_loopg [8] k (fun kq v8 w' => ∃ (x8_1 : Int),v8 = .int .i64 x8_1 ∧ Aside0 (codesearchref05_Seek.l0 kq a1 t536 x8_1 = some (r1,r2)) ∧ Aside0 (kq ≤ k) ∧ Aside0 (Kd.R (Kd.int .i64) 3 w' w.heap.size (fun _ => True) v538 t536) ∧ Aside0 (Below w.heap.size w w'))
  case atStart => exact ⟨(0),(by first|rfl|(simp;done)|(simp [*];done)),H',⟨Nat.le_refl _⟩,⟨rM HO539.out⟩,⟨bM HB.out⟩⟩
  case round =>
   clear H'
   try clear c2
   try clear p2
   try clear c3
   try clear c4
   try clear c4b0
   try clear c4b1
   obtain ⟨x8_1,rfl,HA,HK1,HO_6,HB⟩ := hrel
   cases gk with
  |zero => exact absurd HA.out (by simp [codesearchref05_Seek.l0])
  |succ k1 =>
    have H := HA.out
    clear HA
    simp only [codesearchref05_Seek.l0] at H
    by_cases c6 : x8_1 < (t536.length : Int)
    ·rw [if_pos c6] at H
     have c6b0 : decide (x8_1 < (t536.length : Int)) = true := decide_eq_true c6
     clear c6
     by_cases c7 : 0 ≤ x8_1
     ·rw [if_pos c7] at H
      have c7b0 : decide (0 ≤ x8_1) = true := decide_eq_true c7
      clear c7
      by_cases c8 : (rd t536 x8_1) ≥ a1
      ·rw [if_pos c8] at H
       have c8b0 : decide (a1 ≤ (rd t536 x8_1)) = true := decide_eq_true c8
       clear c8
       simp only [Option.some.injEq,Prod.mk.injEq] at H
       obtain ⟨rfl,rfl⟩ := H
       obtain ⟨Ao9,co9,eo9⟩ := Kd.R_slice HO_6.out
       subst eo9
       have p540 : 0 ≤ (x8_1 : Int) := of_decide_eq_true (by first|(with_reducible assumption)|assumption)
       have q540 : x8_1 < (t536.length : Int) := of_decide_eq_true (by first|(with_reducible assumption)|assumption)
       obtain ⟨ad540,e540,hx540_0⟩ := Kd.at_int (Kd.R_reads' HO_6.out).2.2 x8_1 p540 q540
       cases e540
       replace p540 := eq_true p540
       replace q540 := eq_true q540
       have p541 : 0 ≤ (x8_1 : Int) := of_decide_eq_true (by first|(with_reducible assumption)|assumption)
       have q541 : x8_1 < (t536.length : Int) := of_decide_eq_true (by first|(with_reducible assumption)|assumption)
       obtain ⟨ad541,e541,hx541_0⟩ := Kd.at_int (Kd.R_reads' HO_6.out).2.2 x8_1 p541 q541
       obtain rfl : ad540 = ad541 := (by injection e541)
       replace p541 := eq_true p541
       replace q541 := eq_true q541
       go_wp2
       go_ret2
       exact ⟨by first|rfl|(simp [errW_none,errW_some] <;> rfl)|(simp [*,errW_none,errW_some] <;> rfl),bM HB.out⟩
      ·rw [if_neg c8] at H
       have c8b0 : decide (a1 ≤ (rd t536 x8_1)) = false := decide_eq_false c8
       clear c8
       have H' := Aside0.mk H
       clear H
       obtain ⟨Ao10,co10,eo10⟩ := Kd.R_slice HO_6.out
       subst eo10
       have p540 : 0 ≤ (x8_1 : Int) := of_decide_eq_true (by first|(with_reducible assumption)|assumption)
       have q540 : x8_1 < (t536.length : Int) := of_decide_eq_true (by first|(with_reducible assumption)|assumption)
       obtain ⟨ad540,e540,hx540_0⟩ := Kd.at_int (Kd.R_reads' HO_6.out).2.2 x8_1 p540 q540
       cases e540
       replace p540 := eq_true p540
       replace q540 := eq_true q540
       go_wp2
       go_roundg k1
       case measure => have := HK1.out;omega
       case rel => exact ⟨(wrap64 (x8_1 + 1)),(by first|rfl|(simp;done)|(simp [*];done)),H',⟨by have := HK1.out;omega⟩,⟨rM HO_6.out⟩,⟨bM HB.out⟩⟩
     ·rw [if_neg c7] at H
      exact absurd H (by simp)
    ·rw [if_neg c6] at H
     have c6b0 : decide (x8_1 < (t536.length : Int)) = false := decide_eq_false c6
     clear c6
     simp only [Option.some.injEq,Prod.mk.injEq] at H
     obtain ⟨rfl,rfl⟩ := H
     obtain ⟨Ao11,co11,eo11⟩ := Kd.R_slice HO_6.out
     subst eo11
     go_wp2
     go_ret2
     exact ⟨by first|rfl|(simp [errW_none,errW_some] <;> rfl)|(simp [*,errW_none,errW_some] <;> rfl),bM HB.out⟩
 ·rw [if_neg c4] at H
  have c4b0 : (t537 == 0) = false := beq_eq_false_iff_ne.mpr c4
  have c4b1 : (t537 != 0) = true := bne_iff_ne.mpr c4
  simp only [Option.some.injEq,Prod.mk.injEq] at H
  obtain ⟨rfl,rfl⟩ := H
  go_enter Try.func30,Try.ntmps30
  go_wp2_with (first|((with_reducible refine gate_callee (f := 28) rfl ?_);refine goesL_ (some 11) rfl rfl Try.func28 (by kernel_rfl) rfl #[.slice A0 l0.length c0] rfl (by (try simp only [List.map_toArray,List.map_cons,List.map_nil]);first|done|rfl|(simp only [List.length_drop,List.length_take];rfl)) ?_;(with_reducible refine (codesearchref05_Unpack.calls k _ _ l0 t536 t537 _ ?side1 ?side2 A3.out).mono ?_);(case side1 => exact cM HR0.out);(case side2 => exact HC0.out);rintro e w12 ⟨v538,rfl,ho0,hb⟩;refine ⟨_,rfl,?_⟩;have n0_ := Aside0.mk (Kd.R_lower ho0 (below_size (bM HB.out)));have n1_ := Aside0.mk (below_step (bM HB.out) hb);clear HB;have HO539 := n0_;have HB := n1_;clear n0_ n1_;(try clear hb);(try clear hb2);(try clear hk);(try clear hi);(try clear ho0)))
  go_ret2
  exact ⟨by first|rfl|(simp [errW_none,errW_some] <;> rfl)|(simp [*,errW_none,errW_some] <;> rfl),bM HB.out⟩

end Go.Proofs.Ytknpmknkkofnjaa.P
