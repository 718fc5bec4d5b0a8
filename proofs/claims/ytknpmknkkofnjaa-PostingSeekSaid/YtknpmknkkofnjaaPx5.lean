-- Written by hp.py, a program of this session, over the kit's print of the translation. Not trusted: Lean checks it.
import Derived.Test.YtknpmknkkofnjaaPx0
import Derived.Test.YtknpmknkkofnjaaPx1
import Derived.Test.YtknpmknkkofnjaaPx3
import Derived.Test.YtknpmknkkofnjaaPx4
namespace Go.Proofs.Ytknpmknkkofnjaa.P
open Go.RowKit Go.Proofs.YtknpmknkkofnjaaW.PrintWords Go.Proofs.YtknpmknkkofnjaaW.PrintLast Go.Proofs.YtknpmknkkofnjaaW.PrintMore
attribute [local go_sem] max2_int min2_int max_two min_two max_three min_three max_four min_four   -- for this text's walks alone
set_option linter.unusedVariables false
set_option linter.unusedSimpArgs false

/-! ### posting_Unpack: function 27 -/
mutual
def posting_Unpack.j0 : Nat → List Int → Int → Int → Bool → Option (List Int × Int)
|0,_,_,_,_ => none
|k + 1,x0,x4,x5,x23 => if x23 = true then (some (([] : List Int),3)) else (posting_Unpack.l0 k x0 x5 (wrap64 (Int.tdiv (wrap64 ((wrap64 (x4 + 16)) - 1)) 16)) (wrap64 (2 * (wrap64 (Int.tdiv (wrap64 ((wrap64 (x4 + 16)) - 1)) 16)))) 0)
def posting_Unpack.l0 : Nat → List Int → Int → Int → Int → Int → Option (List Int × Int)
|0,_,_,_,_,_ => none
|k + 1,x0,x5,x7,x29,x30 => if x30 < x29 then ((varint_Get.f k x0 x5).bind fun bt213 => (if bt213.2.2 = 0 then (posting_Unpack.l0 k x0 bt213.2.1 x7 x29 (wrap64 (x30 + 1))) else (some (([] : List Int),3)))) else (posting_Unpack.l1 k x0 x5 ([] : List Int) x7 0)
def posting_Unpack.l1 : Nat → List Int → Int → List Int → Int → Int → Option (List Int × Int)
|0,_,_,_,_,_ => none
|k + 1,x0,x5,x8,x42,x43 => if x43 < x42 then ((varint_GetList.f k x0 x5 16).bind fun bt216 => (if bt216.2.2 = 0 then (if x8.length + bt216.1.length < 17592186044416 then (posting_Unpack.l1 k x0 bt216.2.1 (x8 ++ bt216.1) x42 (wrap64 (x43 + 1))) else (none)) else (some (([] : List Int),3)))) else ((posting_Pack.f k x8).bind fun bt224 => (if bt224.2 = 0 then (if (strOfNums bt224.1).toList = (strOfNums x0).toList then (some (x8,0)) else (some (([] : List Int),3))) else (some (([] : List Int),3))))
end
def posting_Unpack.f (k : Nat) (l0 : List Int) : Option (List Int × Int) := (varint_Get.f k l0 0).bind fun bt210 => (if bt210.2.2 = 0 then (posting_Unpack.j0 k l0 bt210.1 bt210.2.1 (decide (bt210.1 > 10000))) else (posting_Unpack.j0 k l0 bt210.1 bt210.2.1 true))
theorem posting_Unpack.mono_l : ∀ k, (∀ y0 y1 y2 y3, LeO (posting_Unpack.j0 k y0 y1 y2 y3) (posting_Unpack.j0 (k + 1) y0 y1 y2 y3)) ∧ (∀ y0 y1 y2 y3 y4, LeO (posting_Unpack.l0 k y0 y1 y2 y3 y4) (posting_Unpack.l0 (k + 1) y0 y1 y2 y3 y4)) ∧ (∀ y0 y1 y2 y3 y4, LeO (posting_Unpack.l1 k y0 y1 y2 y3 y4) (posting_Unpack.l1 (k + 1) y0 y1 y2 y3 y4))
|0 => ⟨fun _ _ _ _ r h => by simp [posting_Unpack.j0] at h,fun _ _ _ _ _ r h => by simp [posting_Unpack.l0] at h,fun _ _ _ _ _ r h => by simp [posting_Unpack.l1] at h⟩
|k + 1 => by
  obtain ⟨ih0,ih1,ih2⟩ := posting_Unpack.mono_l k
  refine ⟨?_,?_,?_⟩
  ·intro y0 y1 y2 y3
   unfold posting_Unpack.j0
   repeat' first
  |(with_reducible exact ih0 _ _ _ _)
  |(with_reducible exact ih1 _ _ _ _ _)
  |(with_reducible exact ih2 _ _ _ _ _)
  |(with_reducible exact posting_Pack.mono _ _)
  |(with_reducible exact varint_Get.mono _ _ _)
  |(with_reducible exact varint_GetList.mono _ _ _ _)
  |(with_reducible exact LeO.refl _)
  |(with_reducible exact LeO.none _)
  |(with_reducible refine LeO.ite ?_ ?_)
  |(with_reducible refine LeO.bind ?_ (fun _ => ?_))
  |exact ih0 _ _ _ _
  |exact ih1 _ _ _ _ _
  |exact ih2 _ _ _ _ _
  |exact posting_Pack.mono _ _
  |exact varint_Get.mono _ _ _
  |exact varint_GetList.mono _ _ _ _
  |exact LeO.none _
  |refine LeO.ite ?_ ?_
  |refine LeO.bind ?_ (fun _ => ?_)
  ·intro y0 y1 y2 y3 y4
   unfold posting_Unpack.l0
   repeat' first
  |(with_reducible exact ih0 _ _ _ _)
  |(with_reducible exact ih1 _ _ _ _ _)
  |(with_reducible exact ih2 _ _ _ _ _)
  |(with_reducible exact posting_Pack.mono _ _)
  |(with_reducible exact varint_Get.mono _ _ _)
  |(with_reducible exact varint_GetList.mono _ _ _ _)
  |(with_reducible exact LeO.refl _)
  |(with_reducible exact LeO.none _)
  |(with_reducible refine LeO.ite ?_ ?_)
  |(with_reducible refine LeO.bind ?_ (fun _ => ?_))
  |exact ih0 _ _ _ _
  |exact ih1 _ _ _ _ _
  |exact ih2 _ _ _ _ _
  |exact posting_Pack.mono _ _
  |exact varint_Get.mono _ _ _
  |exact varint_GetList.mono _ _ _ _
  |exact LeO.none _
  |refine LeO.ite ?_ ?_
  |refine LeO.bind ?_ (fun _ => ?_)
  ·intro y0 y1 y2 y3 y4
   unfold posting_Unpack.l1
   repeat' first
  |(with_reducible exact ih0 _ _ _ _)
  |(with_reducible exact ih1 _ _ _ _ _)
  |(with_reducible exact ih2 _ _ _ _ _)
  |(with_reducible exact posting_Pack.mono _ _)
  |(with_reducible exact varint_Get.mono _ _ _)
  |(with_reducible exact varint_GetList.mono _ _ _ _)
  |(with_reducible exact LeO.refl _)
  |(with_reducible exact LeO.none _)
  |(with_reducible refine LeO.ite ?_ ?_)
  |(with_reducible refine LeO.bind ?_ (fun _ => ?_))
  |exact ih0 _ _ _ _
  |exact ih1 _ _ _ _ _
  |exact ih2 _ _ _ _ _
  |exact posting_Pack.mono _ _
  |exact varint_Get.mono _ _ _
  |exact varint_GetList.mono _ _ _ _
  |exact LeO.none _
  |refine LeO.ite ?_ ?_
  |refine LeO.bind ?_ (fun _ => ?_)
theorem posting_Unpack.mono : ∀ a0 k, LeO (posting_Unpack.f k a0) (posting_Unpack.f (k + 1) a0) := by
 intro a0 k
 obtain ⟨ih0,ih1,ih2⟩ := posting_Unpack.mono_l k
 unfold posting_Unpack.f
 repeat' first
  |(with_reducible exact ih0 _ _ _ _)
  |(with_reducible exact ih1 _ _ _ _ _)
  |(with_reducible exact ih2 _ _ _ _ _)
  |(with_reducible exact posting_Pack.mono _ _)
  |(with_reducible exact varint_Get.mono _ _ _)
  |(with_reducible exact varint_GetList.mono _ _ _ _)
  |(with_reducible exact LeO.refl _)
  |(with_reducible exact LeO.none _)
  |(with_reducible refine LeO.ite ?_ ?_)
  |(with_reducible refine LeO.bind ?_ (fun _ => ?_))
  |exact ih0 _ _ _ _
  |exact ih1 _ _ _ _ _
  |exact ih2 _ _ _ _ _
  |exact posting_Pack.mono _ _
  |exact varint_Get.mono _ _ _
  |exact varint_GetList.mono _ _ _ _
  |exact LeO.none _
  |refine LeO.ite ?_ ?_
  |refine LeO.bind ?_ (fun _ => ?_)
set_option maxHeartbeats 4000000 in
set_option maxRecDepth 100000 in
theorem posting_Unpack.calls (k : Nat) (A0 : Option Addr) (c0 : Nat) (l0 : List Int) (r1 : List Int) (r2 : Int) (w : World) (hr0 : Kd.C (Kd.int .u8) w A0 l0.length l0) (hc0 : l0.length ≤ c0) (h : posting_Unpack.f k l0 = some (r1, r2)) :
  Calls Try.prog 27 #[.slice A0 l0.length c0] w fun e w' => ∃ v0_ : Value,e = .returned (.tuple #[v0_,.int .i64 r2]) ∧ Kd.R (Kd.int .i64) 3 w' w.heap.size (fun _ => True) v0_ r1 ∧ Below w.heap.size w w' := by
 have HR0 := Aside0.mk hr0
 have HC0 := Aside0.mk hc0
 clear hr0 hc0
 have HB := Aside0.mk (Below.refl w.heap.size w)
 have H : ((varint_Get.f k l0 0).bind fun bt210 => (if bt210.2.2 = 0 then (posting_Unpack.j0 k l0 bt210.1 bt210.2.1 (decide (bt210.1 > 10000))) else (posting_Unpack.j0 k l0 bt210.1 bt210.2.1 true))) = some (r1,r2) := h
 clear h
 replace H := Option.bind_eq_some_iff.mp H
 obtain ⟨⟨t210,t211,t212⟩,A20,H⟩ := H
 replace H : (if t212 = 0 then (posting_Unpack.j0 k l0 t210 t211 (decide (t210 > 10000))) else (posting_Unpack.j0 k l0 t210 t211 true)) = some (r1,r2) := H
 have A2 := Aside0.mk A20
 clear A20
 have HC3 := Aside0.mk H
 clear H
 go_enter Try.func27,Try.ntmps27
 go_upto_region 2 with (first|((with_reducible refine gate_callee (f := 44) rfl ?_);refine goesL_ (some 14) rfl rfl Try.func44 (by kernel_rfl) rfl #[.slice A0 l0.length c0,.int .i64 0] rfl (by (try simp only [List.map_toArray,List.map_cons,List.map_nil]);first|done|rfl|(simp only [List.length_drop,List.length_take];rfl)) ?_;(with_reducible refine (varint_Get.calls k _ _ l0 0 t210 t211 t212 _ ?side1 ?side2 A2.out).mono ?_);(case side1 => exact cM HR0.out);(case side2 => exact HC0.out);rintro e w' ⟨rfl,⟨nd,rfl⟩⟩;refine ⟨_,rfl,?_⟩))
 (try simp only [Act.put,List.setIfInBounds_toArray,List.set_cons_zero,List.set_cons_succ])
 go_cut [23] (fun v23 wc => ∃ (kq : Nat) (x23_2 : Bool),v23 = .bool x23_2 ∧ Aside0 (posting_Unpack.j0 kq l0 t210 t211 x23_2 = some (r1,r2)) ∧ Aside0 (kq ≤ k) ∧ Aside0 (Below w.heap.size w wc))
 case first =>
  have H := HC3.out
  clear HC3
  by_cases c4 : t212 = 0
  ·rw [if_pos c4] at H
   have c4b0 : (t212 == 0) = true := beq_iff_eq.mpr c4
   have c4b1 : (t212 != 0) = false := bne_eq_false_iff_eq.mpr c4
   clear c4
   (first|rw [c4b0]|(simp only [i64_w,i32_w];rw [c4b0])|skip)
   have H' := Aside0.mk H
   clear H
   go_wp2
   go_meet
   case rel => exact ⟨_,(decide (t210 > 10000)),(by first|rfl|(simp;done)|(simp [*];done)),H',⟨by first|omega|exact Nat.le_refl _⟩,⟨bM HB.out⟩⟩
  ·rw [if_neg c4] at H
   have c4b0 : (t212 == 0) = false := beq_eq_false_iff_ne.mpr c4
   have c4b1 : (t212 != 0) = true := bne_iff_ne.mpr c4
   (first|rw [c4b0]|(simp only [i64_w,i32_w];rw [c4b0])|skip)
   have H' := Aside0.mk H
   clear H
   go_wp2
   go_meet
   case rel => exact ⟨_,(true),(by first|rfl|(simp;done)|(simp [*];done)),H',⟨by first|omega|exact Nat.le_refl _⟩,⟨bM HB.out⟩⟩
 case rest =>
  clear HC3
  try clear c2
  try clear p2
  try clear c4
  try clear c4b0
  try clear c4b1
  obtain ⟨kq,x23_2,rfl,HA,HJ2,HB⟩ := hcut
  cases kq with
 |zero => exact absurd HA.out (by simp [posting_Unpack.j0])
 |succ kj2 =>
   have H := HA.out
   clear HA
   simp only [posting_Unpack.j0] at H
   by_cases c5 : x23_2 = true
   ·subst c5
    have H1 : (some (([] : List Int),3)) = some (r1,r2) := by rw [if_pos rfl] at H;exact H
    clear H
    have H := H1
    clear H1
    simp only [Option.some.injEq,Prod.mk.injEq] at H
    obtain ⟨rfl,rfl⟩ := H
    go_wp2
    go_ret2
    exact ⟨_,by first|rfl|(simp [errW_none,errW_some] <;> rfl)|(simp [*,errW_none,errW_some] <;> rfl),by first|exact Kd.R_nil _ _ _ _ _|exact Kd.N_nil _ _ _ _ _|exact Kd.V_nil _ _ _ _ _|exact Kd.Q_nil _ _ _ _ _|exact Kd.S_nil _ _ _ _ _,bM HB.out⟩
   ·replace c5 := Bool.eq_false_iff.mpr c5
    subst c5
    have H1 : (posting_Unpack.l0 kj2 l0 t211 (wrap64 (Int.tdiv (wrap64 ((wrap64 (t210 + 16)) - 1)) 16)) (wrap64 (2 * (wrap64 (Int.tdiv (wrap64 ((wrap64 (t210 + 16)) - 1)) 16)))) 0) = some (r1,r2) := by rw [if_neg (show ¬ (false = true) by decide)] at H;exact H
    clear H
    have H := H1
    clear H1
    have H' := Aside0.mk H
    clear H
    go_wp2
    go_loopg [5,30] kj2 (fun kq v5 v30 w' => ∃ (x5_2 : Int) (x30_2 : Int),v5 = .int .i64 x5_2 ∧ v30 = .int .i64 x30_2 ∧ Aside0 (posting_Unpack.l0 kq l0 x5_2 (wrap64 (Int.tdiv (wrap64 ((wrap64 (t210 + 16)) - 1)) 16)) (wrap64 (2 * (wrap64 (Int.tdiv (wrap64 ((wrap64 (t210 + 16)) - 1)) 16)))) x30_2 = some (r1,r2)) ∧ Aside0 (kq ≤ kj2) ∧ Aside0 (Below w.heap.size w w'))
    case atStart => exact ⟨(t211),(0),(by first|rfl|(simp;done)|(simp [*];done)),(by first|rfl|(simp;done)|(simp [*];done)),H',⟨Nat.le_refl _⟩,⟨bM HB.out⟩⟩
    case round =>
     clear H'
     try clear c2
     try clear p2
     try clear c4
     try clear c4b0
     try clear c4b1
     try clear c5
     try clear p2
     obtain ⟨x5_2,x30_2,rfl,rfl,HA,HK2,HB⟩ := hrel
     cases gk with
    |zero => exact absurd HA.out (by simp [posting_Unpack.l0])
    |succ k2 =>
      have H := HA.out
      clear HA
      simp only [posting_Unpack.l0] at H
      by_cases c6 : x30_2 < (wrap64 (2 * (wrap64 (Int.tdiv (wrap64 ((wrap64 (t210 + 16)) - 1)) 16))))
      ·rw [if_pos c6] at H
       have c6b0 : decide (x30_2 < (wrap64 (2 * (wrap64 (Int.tdiv (wrap64 ((wrap64 (t210 + 16)) - 1)) 16))))) = true := decide_eq_true c6
       clear c6
       replace H := Option.bind_eq_some_iff.mp H
       obtain ⟨⟨t213,t214,t215⟩,A70,H⟩ := H
       replace H : (if t215 = 0 then (posting_Unpack.l0 k2 l0 t214 (wrap64 (Int.tdiv (wrap64 ((wrap64 (t210 + 16)) - 1)) 16)) (wrap64 (2 * (wrap64 (Int.tdiv (wrap64 ((wrap64 (t210 + 16)) - 1)) 16)))) (wrap64 (x30_2 + 1))) else (some (([] : List Int),3))) = some (r1,r2) := H
       have A7 := Aside0.mk A70
       clear A70
       by_cases c8 : t215 = 0
       ·rw [if_pos c8] at H
        have c8b0 : (t215 == 0) = true := beq_iff_eq.mpr c8
        have c8b1 : (t215 != 0) = false := bne_eq_false_iff_eq.mpr c8
        clear c8
        have H' := Aside0.mk H
        clear H
        go_wp2_with (first|((with_reducible refine gate_callee (f := 44) rfl ?_);refine goesL_ (some 35) rfl rfl Try.func44 (by kernel_rfl) rfl #[.slice A0 l0.length c0,.int .i64 x5_2] rfl (by (try simp only [List.map_toArray,List.map_cons,List.map_nil]);first|done|rfl|(simp only [List.length_drop,List.length_take];rfl)) ?_;(with_reducible refine (varint_Get.calls k2 _ _ l0 x5_2 t213 t214 t215 _ ?side1 ?side2 A7.out).mono ?_);(case side1 => exact cM (Kd.C_below HR0.out HB.out));(case side2 => exact HC0.out);rintro e w' ⟨rfl,⟨nd,rfl⟩⟩;refine ⟨_,rfl,?_⟩))
        go_roundg k2
        case measure => have := HJ2.out;have := HK2.out;omega
        case rel => exact ⟨(t214),(wrap64 (x30_2 + 1)),(by first|rfl|(simp;done)|(simp [*];done)),(by first|rfl|(simp;done)|(simp [*];done)),H',⟨by have := HJ2.out;have := HK2.out;omega⟩,⟨bM HB.out⟩⟩
       ·rw [if_neg c8] at H
        have c8b0 : (t215 == 0) = false := beq_eq_false_iff_ne.mpr c8
        have c8b1 : (t215 != 0) = true := bne_iff_ne.mpr c8
        simp only [Option.some.injEq,Prod.mk.injEq] at H
        obtain ⟨rfl,rfl⟩ := H
        go_wp2_with (first|((with_reducible refine gate_callee (f := 44) rfl ?_);refine goesL_ (some 35) rfl rfl Try.func44 (by kernel_rfl) rfl #[.slice A0 l0.length c0,.int .i64 x5_2] rfl (by (try simp only [List.map_toArray,List.map_cons,List.map_nil]);first|done|rfl|(simp only [List.length_drop,List.length_take];rfl)) ?_;(with_reducible refine (varint_Get.calls k2 _ _ l0 x5_2 t213 t214 t215 _ ?side1 ?side2 A7.out).mono ?_);(case side1 => exact cM (Kd.C_below HR0.out HB.out));(case side2 => exact HC0.out);rintro e w' ⟨rfl,⟨nd,rfl⟩⟩;refine ⟨_,rfl,?_⟩))
        go_ret2
        exact ⟨_,by first|rfl|(simp [errW_none,errW_some] <;> rfl)|(simp [*,errW_none,errW_some] <;> rfl),by first|exact Kd.R_nil _ _ _ _ _|exact Kd.N_nil _ _ _ _ _|exact Kd.V_nil _ _ _ _ _|exact Kd.Q_nil _ _ _ _ _|exact Kd.S_nil _ _ _ _ _,bM HB.out⟩
      ·rw [if_neg c6] at H
       have c6b0 : decide (x30_2 < (wrap64 (2 * (wrap64 (Int.tdiv (wrap64 ((wrap64 (t210 + 16)) - 1)) 16))))) = false := decide_eq_false c6
       clear c6
       have H' := Aside0.mk H
       clear H
       go_wp2
       go_loopg [5,8,43] k2 (fun kq v5 v8 v43 w' => ∃ (x5_3 : Int) (x8_3 : List Int) (x43_3 : Int),v5 = .int .i64 x5_3 ∧ v43 = .int .i64 x43_3 ∧ Aside0 (posting_Unpack.l1 kq l0 x5_3 x8_3 (wrap64 (Int.tdiv (wrap64 ((wrap64 (t210 + 16)) - 1)) 16)) x43_3 = some (r1,r2)) ∧ Aside0 (kq ≤ k2) ∧ Aside0 (Kd.R (Kd.int .i64) 3 w' w.heap.size (fun _ => True) v8 x8_3) ∧ Aside0 (Below w.heap.size w w'))
       case atStart => exact ⟨(x5_2),(([] : List Int)),(0),(by first|rfl|(simp;done)|(simp [*];done)),(by first|rfl|(simp;done)|(simp [*];done)),H',⟨Nat.le_refl _⟩,⟨by first|exact Kd.R_nil _ _ _ _ _|exact Kd.N_nil _ _ _ _ _|exact Kd.V_nil _ _ _ _ _|exact Kd.Q_nil _ _ _ _ _|exact Kd.S_nil _ _ _ _ _⟩,⟨bM HB.out⟩⟩
       case round =>
        clear H'
        try clear c2
        try clear p2
        try clear c4
        try clear c4b0
        try clear c4b1
        try clear c5
        try clear c6
        try clear c6b0
        try clear p6
        try clear c8
        try clear c8b0
        try clear c8b1
        try clear p2
        obtain ⟨x5_3,x8_3,x43_3,rfl,rfl,HA,HK3,HO_8,HB⟩ := hrel
        cases gk with
       |zero => exact absurd HA.out (by simp [posting_Unpack.l1])
       |succ k3 =>
         have H := HA.out
         clear HA
         simp only [posting_Unpack.l1] at H
         by_cases c9 : x43_3 < (wrap64 (Int.tdiv (wrap64 ((wrap64 (t210 + 16)) - 1)) 16))
         ·rw [if_pos c9] at H
          have c9b0 : decide (x43_3 < (wrap64 (Int.tdiv (wrap64 ((wrap64 (t210 + 16)) - 1)) 16))) = true := decide_eq_true c9
          clear c9
          replace H := Option.bind_eq_some_iff.mp H
          obtain ⟨⟨t216,t217,t218⟩,A100,H⟩ := H
          replace H : (if t218 = 0 then (if x8_3.length + t216.length < 17592186044416 then (posting_Unpack.l1 k3 l0 t217 (x8_3 ++ t216) (wrap64 (Int.tdiv (wrap64 ((wrap64 (t210 + 16)) - 1)) 16)) (wrap64 (x43_3 + 1))) else (none)) else (some (([] : List Int),3))) = some (r1,r2) := H
          have A10 := Aside0.mk A100
          clear A100
          by_cases c11 : t218 = 0
          ·rw [if_pos c11] at H
           have c11b0 : (t218 == 0) = true := beq_iff_eq.mpr c11
           have c11b1 : (t218 != 0) = false := bne_eq_false_iff_eq.mpr c11
           clear c11
           by_cases c12 : x8_3.length + t216.length < 17592186044416
           ·rw [if_pos c12] at H
            have LMc12 := Aside0.mk c12
            clear c12
            obtain ⟨y221,hy221⟩ : ∃ y_ : List Int,y_ = (x8_3 ++ t216) := ⟨_,rfl⟩
            replace H : (posting_Unpack.l1 k3 l0 t217 y221 (wrap64 (Int.tdiv (wrap64 ((wrap64 (t210 + 16)) - 1)) 16)) (wrap64 (x43_3 + 1))) = some (r1,r2) := by first|(rw [hy221];with_reducible exact H)|(have H2_ := (Option.bind_some _ _).symm.trans H;rw [hy221];with_reducible exact H2_)|(have H2_ := (Option.bind_some _ _).symm.trans H;with_reducible exact H2_)|with_reducible exact H|(rw [hy221];exact H)|exact H
            have Ny221 := Aside0.mk hy221
            clear hy221
            have H' := Aside0.mk H
            clear H
            go_wp2_with (first|((with_reducible refine gate_callee (f := 45) rfl ?_);refine goesL_ (some 48) rfl rfl Try.func45 (by kernel_rfl) rfl #[.slice A0 l0.length c0,.int .i64 x5_3,.int .i64 16] rfl (by (try simp only [List.map_toArray,List.map_cons,List.map_nil]);first|done|rfl|(simp only [List.length_drop,List.length_take];rfl)) ?_;(with_reducible refine (varint_GetList.calls k3 _ _ l0 x5_3 16 t216 t217 t218 _ ?side1 ?side2 A10.out).mono ?_);(case side1 => exact cM (Kd.C_below HR0.out HB.out));(case side2 => exact HC0.out);rintro e w13 ⟨v219,rfl,ho0,hb⟩;refine ⟨_,rfl,?_⟩;have n0_ := Aside0.mk (Kd.R_elder' (rM HO_8.out) (Kd.R_base ho0) hb);have n1_ := Aside0.mk (Kd.R_lower (Kd.R_new' ho0 (Kd.R_lt (rM HO_8.out))) (below_size (bM HB.out)));have n2_ := Aside0.mk (below_step (bM HB.out) hb);clear HO_8;clear HB;have HO_8 := n0_;have HO220 := n1_;have HB := n2_;clear n0_ n1_ n2_;(try clear hb);(try clear hb2);(try clear hk);(try clear hi);(try clear ho0);obtain ⟨Ao15,co15,eo15⟩ := Kd.R_slice HO220.out;subst eo15)|((with_reducible refine gate_builtin (b := .append) (xs := #[.tmp 54,.tmp 55]) rfl ?_);at_builtin;refine Kd.R_append_rows (Kd.int .i64) (w0 := w) w.heap.size rfl (.tmp 54) (.tmp 55) 22 3 (.int .i64 0) 8 rfl Try.underlying22 info3 rfl (by decide) (by omega) u8 x8_3 t216 _ _ _ (fun k_ => some k_ ≠ (.slice Ao15 t216.length co15 : Value).ownBlock) (fun _ => False) rfl rfl ?aO ?aR (fun _ _ h => h) (fun _ h => h.elim) ?aF ?aB ?aS ?aL ?_;(case aR => exact cM (Kd.R_reads' HO220.out).2.2);(case aB => exact (bM HB.out));(case aF => exact (fun k_ hk => Kd.fresh' (Kd.R_lt (rM HO220.out)) k_ hk));(case aO => exact (by (with_reducible repeat (first|apply Kd.R_alloc|apply Kd.R_drewN|apply Kd.R_drew));exact Kd.R_mono HO_8.out (fun _ hk => hk.2)));(case aS => exact (below_size (bM HB.out)));(case aL => have := LMc12.out;omega);intro v222 w14 ho hb hg hat;rw [← Ny221.out] at ho;have n0_ := Aside0.mk (Kd.R_after (ok := (fun _ => True)) (rM HO220.out) hg hat);have n1_ := Aside0.mk (hb);have n2_ := Aside0.mk (ho);clear HO220;clear HB;clear HO_8;have HO220 := n0_;have HB := n1_;have HO223 := n2_;clear n0_ n1_ n2_;clear ho hb hg hat))
            go_roundg k3
            case measure => have := HJ2.out;have := HK2.out;have := HK3.out;omega
            case rel => exact ⟨(t217),(y221),(wrap64 (x43_3 + 1)),(by first|rfl|(simp;done)|(simp [*];done)),(by first|rfl|(simp;done)|(simp [*];done)),H',⟨by have := HJ2.out;have := HK2.out;have := HK3.out;omega⟩,⟨rM (Kd.R_mono HO223.out (fun _ hk => trivial))⟩,⟨bM HB.out⟩⟩
           ·rw [if_neg c12] at H
            exact absurd H (by simp)
          ·rw [if_neg c11] at H
           have c11b0 : (t218 == 0) = false := beq_eq_false_iff_ne.mpr c11
           have c11b1 : (t218 != 0) = true := bne_iff_ne.mpr c11
           simp only [Option.some.injEq,Prod.mk.injEq] at H
           obtain ⟨rfl,rfl⟩ := H
           go_wp2_with (first|((with_reducible refine gate_callee (f := 45) rfl ?_);refine goesL_ (some 48) rfl rfl Try.func45 (by kernel_rfl) rfl #[.slice A0 l0.length c0,.int .i64 x5_3,.int .i64 16] rfl (by (try simp only [List.map_toArray,List.map_cons,List.map_nil]);first|done|rfl|(simp only [List.length_drop,List.length_take];rfl)) ?_;(with_reducible refine (varint_GetList.calls k3 _ _ l0 x5_3 16 t216 t217 t218 _ ?side1 ?side2 A10.out).mono ?_);(case side1 => exact cM (Kd.C_below HR0.out HB.out));(case side2 => exact HC0.out);rintro e w16 ⟨v219,rfl,ho0,hb⟩;refine ⟨_,rfl,?_⟩;have n0_ := Aside0.mk (Kd.R_elder' (rM HO_8.out) (Kd.R_base ho0) hb);have n1_ := Aside0.mk (Kd.R_lower (Kd.R_new' ho0 (Kd.R_lt (rM HO_8.out))) (below_size (bM HB.out)));have n2_ := Aside0.mk (below_step (bM HB.out) hb);clear HO_8;clear HB;have HO_8 := n0_;have HO220 := n1_;have HB := n2_;clear n0_ n1_ n2_;(try clear hb);(try clear hb2);(try clear hk);(try clear hi);(try clear ho0)))
           go_ret2
           exact ⟨_,by first|rfl|(simp [errW_none,errW_some] <;> rfl)|(simp [*,errW_none,errW_some] <;> rfl),by first|exact Kd.R_nil _ _ _ _ _|exact Kd.N_nil _ _ _ _ _|exact Kd.V_nil _ _ _ _ _|exact Kd.Q_nil _ _ _ _ _|exact Kd.S_nil _ _ _ _ _,bM HB.out⟩
         ·rw [if_neg c9] at H
          have c9b0 : decide (x43_3 < (wrap64 (Int.tdiv (wrap64 ((wrap64 (t210 + 16)) - 1)) 16))) = false := decide_eq_false c9
          clear c9
          replace H := Option.bind_eq_some_iff.mp H
          obtain ⟨⟨t224,t227⟩,A170,H⟩ := H
          replace H : (if t227 = 0 then (if (strOfNums t224).toList = (strOfNums l0).toList then (some (x8_3,0)) else (some (([] : List Int),3))) else (some (([] : List Int),3))) = some (r1,r2) := H
          have A17 := Aside0.mk A170
          clear A170
          by_cases c18 : t227 = 0
          ·rw [if_pos c18] at H
           have c18b0 : (t227 == 0) = true := beq_iff_eq.mpr c18
           have c18b1 : (t227 != 0) = false := bne_eq_false_iff_eq.mpr c18
           clear c18
           by_cases c19 : (strOfNums t224).toList = (strOfNums l0).toList
           ·rw [if_pos c19] at H
            have c19b0 : ((strOfNums t224).toList == (strOfNums l0).toList) = true := beq_iff_eq.mpr c19
            have c19b1 : ((strOfNums t224).toList != (strOfNums l0).toList) = false := bne_eq_false_iff_eq.mpr c19
            clear c19
            simp only [Option.some.injEq,Prod.mk.injEq] at H
            obtain ⟨rfl,rfl⟩ := H
            obtain ⟨Ao20,co20,eo20⟩ := Kd.R_slice HO_8.out
            subst eo20
            go_wp2_with (first|((with_reducible refine gate_callee (f := 22) rfl ?_);refine goesL_ (some 60) rfl rfl Try.func22 (by kernel_rfl) rfl #[.slice Ao20 x8_3.length co20] rfl (by (try simp only [List.map_toArray,List.map_cons,List.map_nil]);first|done|rfl|(simp only [List.length_drop,List.length_take];rfl)) ?_;(with_reducible refine (posting_Pack.calls k3 (fun k_ => some k_ = (.slice Ao20 x8_3.length co20 : Value).ownBlock) _ _ x8_3 t224 t227 _ ?side1 A17.out).mono ?_);(case side1 => exact Kd.R_V (Kd.R_tight rfl (HO_8.out)));rintro e w21 ⟨v225,rfl,ho0,hb⟩;refine ⟨_,rfl,?_⟩;have n0_ := Aside0.mk (Kd.R_below (rM HO_8.out) hb);have n1_ := Aside0.mk (Kd.R_lower (Kd.R_mono (ok' := fun k_ => True) ho0 (fun _ hk_ => trivial)) (below_size (bM HB.out)));have n2_ := Aside0.mk (below_step (bM HB.out) hb);clear HO_8;clear HB;have HO_8 := n0_;have HO226 := n1_;have HB := n2_;clear n0_ n1_ n2_;(try clear hb);(try clear hb2);(try clear hk);(try clear hi);(try clear ho0);have hcv22 := own_string (P := Try.prog) Try.underlying30 Try.underlying5 Try.underlying9 (Kd.own_of_R HO226.out);have hcv23 := Kd.C_string (P := Try.prog) (A := A0) (c := c0) Try.underlying30 Try.underlying5 Try.underlying9 (Kd.C_below HR0.out HB.out);have hcv23d := fun n_ : Nat => Kd.C_string (P := Try.prog) (A := A0) (c := c0) Try.underlying30 Try.underlying5 Try.underlying9 (Kd.C_drewN (Kd.C_below HR0.out HB.out) n_)))
            go_ret2
            exact ⟨_,by first|rfl|(simp [errW_none,errW_some] <;> rfl)|(simp [*,errW_none,errW_some] <;> rfl),rM HO_8.out,bM HB.out⟩
           ·rw [if_neg c19] at H
            have c19b0 : ((strOfNums t224).toList == (strOfNums l0).toList) = false := beq_eq_false_iff_ne.mpr c19
            have c19b1 : ((strOfNums t224).toList != (strOfNums l0).toList) = true := bne_iff_ne.mpr c19
            simp only [Option.some.injEq,Prod.mk.injEq] at H
            obtain ⟨rfl,rfl⟩ := H
            obtain ⟨Ao24,co24,eo24⟩ := Kd.R_slice HO_8.out
            subst eo24
            go_wp2_with (first|((with_reducible refine gate_callee (f := 22) rfl ?_);refine goesL_ (some 60) rfl rfl Try.func22 (by kernel_rfl) rfl #[.slice Ao24 x8_3.length co24] rfl (by (try simp only [List.map_toArray,List.map_cons,List.map_nil]);first|done|rfl|(simp only [List.length_drop,List.length_take];rfl)) ?_;(with_reducible refine (posting_Pack.calls k3 (fun k_ => some k_ = (.slice Ao24 x8_3.length co24 : Value).ownBlock) _ _ x8_3 t224 t227 _ ?side1 A17.out).mono ?_);(case side1 => exact Kd.R_V (Kd.R_tight rfl (HO_8.out)));rintro e w25 ⟨v225,rfl,ho0,hb⟩;refine ⟨_,rfl,?_⟩;have n0_ := Aside0.mk (Kd.R_below (rM HO_8.out) hb);have n1_ := Aside0.mk (Kd.R_lower (Kd.R_mono (ok' := fun k_ => True) ho0 (fun _ hk_ => trivial)) (below_size (bM HB.out)));have n2_ := Aside0.mk (below_step (bM HB.out) hb);clear HO_8;clear HB;have HO_8 := n0_;have HO226 := n1_;have HB := n2_;clear n0_ n1_ n2_;(try clear hb);(try clear hb2);(try clear hk);(try clear hi);(try clear ho0);have hcv26 := own_string (P := Try.prog) Try.underlying30 Try.underlying5 Try.underlying9 (Kd.own_of_R HO226.out);have hcv27 := Kd.C_string (P := Try.prog) (A := A0) (c := c0) Try.underlying30 Try.underlying5 Try.underlying9 (Kd.C_below HR0.out HB.out);have hcv27d := fun n_ : Nat => Kd.C_string (P := Try.prog) (A := A0) (c := c0) Try.underlying30 Try.underlying5 Try.underlying9 (Kd.C_drewN (Kd.C_below HR0.out HB.out) n_)))
            go_ret2
            exact ⟨_,by first|rfl|(simp [errW_none,errW_some] <;> rfl)|(simp [*,errW_none,errW_some] <;> rfl),by first|exact Kd.R_nil _ _ _ _ _|exact Kd.N_nil _ _ _ _ _|exact Kd.V_nil _ _ _ _ _|exact Kd.Q_nil _ _ _ _ _|exact Kd.S_nil _ _ _ _ _,bM HB.out⟩
          ·rw [if_neg c18] at H
           have c18b0 : (t227 == 0) = false := beq_eq_false_iff_ne.mpr c18
           have c18b1 : (t227 != 0) = true := bne_iff_ne.mpr c18
           simp only [Option.some.injEq,Prod.mk.injEq] at H
           obtain ⟨rfl,rfl⟩ := H
           obtain ⟨Ao28,co28,eo28⟩ := Kd.R_slice HO_8.out
           subst eo28
           go_wp2_with (first|((with_reducible refine gate_callee (f := 22) rfl ?_);refine goesL_ (some 60) rfl rfl Try.func22 (by kernel_rfl) rfl #[.slice Ao28 x8_3.length co28] rfl (by (try simp only [List.map_toArray,List.map_cons,List.map_nil]);first|done|rfl|(simp only [List.length_drop,List.length_take];rfl)) ?_;(with_reducible refine (posting_Pack.calls k3 (fun k_ => some k_ = (.slice Ao28 x8_3.length co28 : Value).ownBlock) _ _ x8_3 t224 t227 _ ?side1 A17.out).mono ?_);(case side1 => exact Kd.R_V (Kd.R_tight rfl (HO_8.out)));rintro e w29 ⟨v225,rfl,ho0,hb⟩;refine ⟨_,rfl,?_⟩;have n0_ := Aside0.mk (Kd.R_below (rM HO_8.out) hb);have n1_ := Aside0.mk (Kd.R_lower (Kd.R_mono (ok' := fun k_ => True) ho0 (fun _ hk_ => trivial)) (below_size (bM HB.out)));have n2_ := Aside0.mk (below_step (bM HB.out) hb);clear HO_8;clear HB;have HO_8 := n0_;have HO226 := n1_;have HB := n2_;clear n0_ n1_ n2_;(try clear hb);(try clear hb2);(try clear hk);(try clear hi);(try clear ho0)))
           go_ret2
           exact ⟨_,by first|rfl|(simp [errW_none,errW_some] <;> rfl)|(simp [*,errW_none,errW_some] <;> rfl),by first|exact Kd.R_nil _ _ _ _ _|exact Kd.N_nil _ _ _ _ _|exact Kd.V_nil _ _ _ _ _|exact Kd.Q_nil _ _ _ _ _|exact Kd.S_nil _ _ _ _ _,bM HB.out⟩

/-! ### slices_isNaN_int: function 60 -/
def slices_isNaN_int.f (a0 : Int) : Option (Bool) := some (a0 != a0)
set_option maxHeartbeats 4000000 in
set_option maxRecDepth 100000 in
theorem slices_isNaN_int.calls (a0 : Int) (r : Bool) (w : World) (h : slices_isNaN_int.f a0 = some r) :
  Calls Try.prog 60 #[.int .i64 a0] w fun e w' => e = .returned (.bool r) ∧ Drawn0 w w' := by
 have H : (some (a0 != a0)) = some r := h
 clear h
 obtain rfl := Option.some.inj H
 go_enter Try.func60,Try.ntmps60
 go_wp2
 go_ret
 exact ⟨by first|rfl|(simp;done)|(simp [*];done),by repeat (first|exact Drawn0.refl _|apply Drawn0.step)⟩

/-! ### slices_BinarySearch_int_int: function 49 -/
def slices_BinarySearch_int_int.l0 : Nat → List Int → Int → Int → Int → Int → Option (Int × Bool)
|0,_,_,_,_,_ => none
|k + 1,x0,x1,x6,x7,x8 => if x7 < x8 then (if 0 ≤ (wrap64 ((IntKind.u64.wrap (wrap64 (x7 + x8))) / 2)) then (if (wrap64 ((IntKind.u64.wrap (wrap64 (x7 + x8))) / 2)) < (x0.length : Int) then ((cmp_Less_int.f (rd x0 (wrap64 ((IntKind.u64.wrap (wrap64 (x7 + x8))) / 2))) x1).bind fun t229 => (if t229 = true then (slices_BinarySearch_int_int.l0 k x0 x1 x6 (wrap64 ((wrap64 ((IntKind.u64.wrap (wrap64 (x7 + x8))) / 2)) + 1)) x8) else (slices_BinarySearch_int_int.l0 k x0 x1 x6 x7 (wrap64 ((IntKind.u64.wrap (wrap64 (x7 + x8))) / 2))))) else (none)) else (none)) else (if x7 < x6 then (if 0 ≤ x7 then (if x7 < (x0.length : Int) then (if (rd x0 x7) = x1 then (some (x7,true)) else ((slices_isNaN_int.f (rd x0 x7)).bind fun t232 => (if t232 = true then ((slices_isNaN_int.f x1).bind fun t233 => (some (x7,t233))) else (some (x7,false))))) else (none)) else (none)) else (some (x7,false)))
def slices_BinarySearch_int_int.f (k : Nat) (l0 : List Int) (a1 : Int) : Option (Int × Bool) := slices_BinarySearch_int_int.l0 k l0 a1 (l0.length : Int) 0 (l0.length : Int)
theorem slices_BinarySearch_int_int.mono_l : ∀ k, (∀ y0 y1 y2 y3 y4, LeO (slices_BinarySearch_int_int.l0 k y0 y1 y2 y3 y4) (slices_BinarySearch_int_int.l0 (k + 1) y0 y1 y2 y3 y4))
|0 => fun _ _ _ _ _ r h => by simp [slices_BinarySearch_int_int.l0] at h
|k + 1 => by
  have ih0 := slices_BinarySearch_int_int.mono_l k
  ·intro y0 y1 y2 y3 y4
   unfold slices_BinarySearch_int_int.l0
   repeat' first
  |(with_reducible exact ih0 _ _ _ _ _)
  |(with_reducible exact LeO.refl _)
  |(with_reducible exact LeO.none _)
  |(with_reducible refine LeO.ite ?_ ?_)
  |(with_reducible refine LeO.bind ?_ (fun _ => ?_))
  |exact ih0 _ _ _ _ _
  |exact LeO.none _
  |refine LeO.ite ?_ ?_
  |refine LeO.bind ?_ (fun _ => ?_)
theorem slices_BinarySearch_int_int.mono : ∀ a0 a1 k, LeO (slices_BinarySearch_int_int.f k a0 a1) (slices_BinarySearch_int_int.f (k + 1) a0 a1) := by
 intro a0 a1 k
 have ih0 := slices_BinarySearch_int_int.mono_l k
 unfold slices_BinarySearch_int_int.f
 repeat' first
  |(with_reducible exact ih0 _ _ _ _ _)
  |(with_reducible exact LeO.refl _)
  |(with_reducible exact LeO.none _)
  |(with_reducible refine LeO.ite ?_ ?_)
  |(with_reducible refine LeO.bind ?_ (fun _ => ?_))
  |exact ih0 _ _ _ _ _
  |exact LeO.none _
  |refine LeO.ite ?_ ?_
  |refine LeO.bind ?_ (fun _ => ?_)
set_option maxHeartbeats 4000000 in
set_option maxRecDepth 100000 in
theorem slices_BinarySearch_int_int.calls (k : Nat) (A0 : Option Addr) (c0 : Nat) (l0 : List Int) (a1 : Int) (r1 : Int) (r2 : Bool) (w : World) (hr0 : Kd.C (Kd.int .i64) w A0 l0.length l0) (hc0 : l0.length ≤ c0) (h : slices_BinarySearch_int_int.f k l0 a1 = some (r1, r2)) :
  Calls Try.prog 49 #[.slice A0 l0.length c0,.int .i64 a1] w fun e w' => e = .returned (.tuple #[.int .i64 r1,.bool r2]) ∧ Drawn0 w w' := by
 have HR0 := Aside0.mk hr0
 have HC0 := Aside0.mk hc0
 clear hr0 hc0
 have H : (slices_BinarySearch_int_int.l0 k l0 a1 (l0.length : Int) 0 (l0.length : Int)) = some (r1,r2) := h
 clear h
 have H' := Aside0.mk H
 clear H
 go_enter Try.func49,Try.ntmps49
 go_wp2
 go_loopg [7,8] k (fun kq v7 v8 w' => ∃ (x7_1 : Int) (x8_1 : Int),v7 = .int .i64 x7_1 ∧ v8 = .int .i64 x8_1 ∧ Aside0 (slices_BinarySearch_int_int.l0 kq l0 a1 (l0.length : Int) x7_1 x8_1 = some (r1,r2)) ∧ Aside0 (kq ≤ k) ∧ Drawn0 w w')
 case atStart => exact ⟨(0),((l0.length : Int)),(by first|rfl|(simp;done)|(simp [*];done)),(by first|rfl|(simp;done)|(simp [*];done)),H',⟨Nat.le_refl _⟩,by repeat (first|exact Drawn0.refl _|apply Drawn0.step)⟩
 case round =>
  clear H'
  try clear p2
  obtain ⟨x7_1,x8_1,rfl,rfl,HA,HK1,⟨m1,rfl⟩⟩ := hrel
  cases gk with
 |zero => exact absurd HA.out (by simp [slices_BinarySearch_int_int.l0])
 |succ k1 =>
   have H := HA.out
   clear HA
   simp only [slices_BinarySearch_int_int.l0] at H
   by_cases c3 : x7_1 < x8_1
   ·rw [if_pos c3] at H
    have c3b0 : decide (x7_1 < x8_1) = true := decide_eq_true c3
    clear c3
    obtain ⟨ji4,hji4⟩ : ∃ j_ : Int,(wrap64 ((IntKind.u64.wrap (wrap64 (x7_1 + x8_1))) / 2)) = j_ := ⟨_,rfl⟩
    replace H : (if 0 ≤ (ji4) then (if (ji4) < (l0.length : Int) then ((cmp_Less_int.f (rd l0 (ji4)) a1).bind fun t229 => (if t229 = true then (slices_BinarySearch_int_int.l0 k1 l0 a1 (l0.length : Int) (wrap64 ((ji4) + 1)) x8_1) else (slices_BinarySearch_int_int.l0 k1 l0 a1 (l0.length : Int) x7_1 ji4))) else (none)) else (none)) = some (r1,r2) := by first|(rw [hji4] at H;exact H)|(simp only [hji4] at H ⊢;exact H)
    have hji4w : (IntKind.i64.wrap ((IntKind.u64.wrap (wrap64 (x7_1 + x8_1))) / 2)) = ji4 := (i64_w _).trans hji4
    by_cases c5 : 0 ≤ (ji4)
    ·rw [if_pos c5] at H
     have c5b0 : decide (0 ≤ (ji4)) = true := decide_eq_true c5
     clear c5
     by_cases c6 : (ji4) < (l0.length : Int)
     ·rw [if_pos c6] at H
      have c6b0 : decide ((ji4) < (l0.length : Int)) = true := decide_eq_true c6
      clear c6
      replace H := Option.bind_eq_some_iff.mp H
      obtain ⟨t229,A70,H⟩ := H
      replace H : (if t229 = true then (slices_BinarySearch_int_int.l0 k1 l0 a1 (l0.length : Int) (wrap64 ((ji4) + 1)) x8_1) else (slices_BinarySearch_int_int.l0 k1 l0 a1 (l0.length : Int) x7_1 ji4)) = some (r1,r2) := H
      have A7 := Aside0.mk A70
      clear A70
      by_cases c8 : t229 = true
      ·subst c8
       have H1 : (slices_BinarySearch_int_int.l0 k1 l0 a1 (l0.length : Int) (wrap64 ((ji4) + 1)) x8_1) = some (r1,r2) := by rw [if_pos rfl] at H;exact H
       clear H
       have H := H1
       clear H1
       have H' := Aside0.mk H
       clear H
       have p228 : 0 ≤ ((ji4) : Int) := of_decide_eq_true (by first|(with_reducible assumption)|assumption)
       have q228 : (ji4) < (l0.length : Int) := of_decide_eq_true (by first|(with_reducible assumption)|assumption)
       obtain ⟨ad228,e228,hx228_0⟩ := Kd.at_int HR0.out (ji4) p228 q228
       cases e228
       replace p228 := eq_true p228
       replace q228 := eq_true q228
       go_wp2_with (first|((with_reducible refine gate_callee (f := 59) rfl ?_);refine goesL_ (some 27) rfl rfl Try.func59 (by kernel_rfl) rfl #[.int .i64 (rd l0 (ji4)),.int .i64 a1] rfl (by (try simp only [List.map_toArray,List.map_cons,List.map_nil]);first|done|(simp only [hji4];rfl)|rfl|(simp only [List.length_drop,List.length_take];rfl)) ?_;(with_reducible refine (cmp_Less_int.calls (rd l0 (ji4)) a1 true _ A7.out).mono ?_);rintro e w' ⟨rfl,⟨nd,rfl⟩⟩;refine ⟨_,rfl,?_⟩))
       go_roundg k1
       case measure => have := HK1.out;omega
       case rel => exact ⟨(wrap64 ((ji4) + 1)),(x8_1),(by first|rfl|(simp;done)|(rw [Int.tdiv_eq_ediv_of_nonneg (by assumption)];done)|(rw [Int.tmod_eq_emod_of_nonneg (by assumption)];done)|(simp only [← hji4] <;> (first|rfl|simp))|(simp [*];done)),(by first|rfl|(simp;done)|(simp [*];done)),H',⟨by have := HK1.out;omega⟩,by repeat (first|exact Drawn0.refl _|apply Drawn0.step)⟩
      ·replace c8 := Bool.eq_false_iff.mpr c8
       subst c8
       have H1 : (slices_BinarySearch_int_int.l0 k1 l0 a1 (l0.length : Int) x7_1 ji4) = some (r1,r2) := by rw [if_neg (show ¬ (false = true) by decide)] at H;exact H
       clear H
       have H := H1
       clear H1
       have H' := Aside0.mk H
       clear H
       have p228 : 0 ≤ ((ji4) : Int) := of_decide_eq_true (by first|(with_reducible assumption)|assumption)
       have q228 : (ji4) < (l0.length : Int) := of_decide_eq_true (by first|(with_reducible assumption)|assumption)
       obtain ⟨ad228,e228,hx228_0⟩ := Kd.at_int HR0.out (ji4) p228 q228
       cases e228
       replace p228 := eq_true p228
       replace q228 := eq_true q228
       go_wp2_with (first|((with_reducible refine gate_callee (f := 59) rfl ?_);refine goesL_ (some 27) rfl rfl Try.func59 (by kernel_rfl) rfl #[.int .i64 (rd l0 (ji4)),.int .i64 a1] rfl (by (try simp only [List.map_toArray,List.map_cons,List.map_nil]);first|done|(simp only [hji4];rfl)|rfl|(simp only [List.length_drop,List.length_take];rfl)) ?_;(with_reducible refine (cmp_Less_int.calls (rd l0 (ji4)) a1 false _ A7.out).mono ?_);rintro e w' ⟨rfl,⟨nd,rfl⟩⟩;refine ⟨_,rfl,?_⟩))
       go_roundg k1
       case measure => have := HK1.out;omega
       case rel => exact ⟨(x7_1),(ji4),(by first|rfl|(simp;done)|(simp [*];done)),(by first|rfl|(simp;done)|(rw [Int.tdiv_eq_ediv_of_nonneg (by assumption)];done)|(rw [Int.tmod_eq_emod_of_nonneg (by assumption)];done)|(simp only [← hji4] <;> (first|rfl|simp))|(simp [*];done)),H',⟨by have := HK1.out;omega⟩,by repeat (first|exact Drawn0.refl _|apply Drawn0.step)⟩
     ·rw [if_neg c6] at H
      exact absurd H (by simp)
    ·rw [if_neg c5] at H
     exact absurd H (by simp)
   ·rw [if_neg c3] at H
    have c3b0 : decide (x7_1 < x8_1) = false := decide_eq_false c3
    clear c3
    by_cases c9 : x7_1 < (l0.length : Int)
    ·rw [if_pos c9] at H
     have c9b0 : decide (x7_1 < (l0.length : Int)) = true := decide_eq_true c9
     clear c9
     by_cases c10 : 0 ≤ x7_1
     ·rw [if_pos c10] at H
      have c10b0 : decide (0 ≤ x7_1) = true := decide_eq_true c10
      clear c10
      by_cases c11 : x7_1 < (l0.length : Int)
      ·rw [if_pos c11] at H
       have c11b0 : decide (x7_1 < (l0.length : Int)) = true := decide_eq_true c11
       clear c11
       by_cases c12 : (rd l0 x7_1) = a1
       ·rw [if_pos c12] at H
        have c12b0 : ((rd l0 x7_1) == a1) = true := beq_iff_eq.mpr c12
        have c12b1 : ((rd l0 x7_1) != a1) = false := bne_eq_false_iff_eq.mpr c12
        clear c12
        simp only [Option.some.injEq,Prod.mk.injEq] at H
        obtain ⟨rfl,rfl⟩ := H
        have p230 : 0 ≤ (x7_1 : Int) := of_decide_eq_true (by first|(with_reducible assumption)|assumption)
        have q230 : x7_1 < (l0.length : Int) := of_decide_eq_true (by first|(with_reducible assumption)|assumption)
        obtain ⟨ad230,e230,hx230_0⟩ := Kd.at_int HR0.out x7_1 p230 q230
        cases e230
        replace p230 := eq_true p230
        replace q230 := eq_true q230
        go_wp2
        go_ret2
        exact ⟨by first|rfl|(simp;done)|(simp [*];done),by repeat (first|exact Drawn0.refl _|apply Drawn0.step)⟩
       ·rw [if_neg c12] at H
        have c12b0 : ((rd l0 x7_1) == a1) = false := beq_eq_false_iff_ne.mpr c12
        have c12b1 : ((rd l0 x7_1) != a1) = true := bne_iff_ne.mpr c12
        replace H := Option.bind_eq_some_iff.mp H
        obtain ⟨t232,A130,H⟩ := H
        replace H : (if t232 = true then ((slices_isNaN_int.f a1).bind fun t233 => (some (x7_1,t233))) else (some (x7_1,false))) = some (r1,r2) := H
        have A13 := Aside0.mk A130
        clear A130
        by_cases c14 : t232 = true
        ·subst c14
         have H1 : ((slices_isNaN_int.f a1).bind fun t233 => (some (x7_1,t233))) = some (r1,r2) := by rw [if_pos rfl] at H;exact H
         clear H
         have H := H1
         clear H1
         replace H := Option.bind_eq_some_iff.mp H
         obtain ⟨t233,A150,H⟩ := H
         replace H : (some (x7_1,t233)) = some (r1,r2) := H
         have A15 := Aside0.mk A150
         clear A150
         simp only [Option.some.injEq,Prod.mk.injEq] at H
         obtain ⟨rfl,rfl⟩ := H
         have p230 : 0 ≤ (x7_1 : Int) := of_decide_eq_true (by first|(with_reducible assumption)|assumption)
         have q230 : x7_1 < (l0.length : Int) := of_decide_eq_true (by first|(with_reducible assumption)|assumption)
         obtain ⟨ad230,e230,hx230_0⟩ := Kd.at_int HR0.out x7_1 p230 q230
         cases e230
         replace p230 := eq_true p230
         replace q230 := eq_true q230
         have p231 : 0 ≤ (x7_1 : Int) := of_decide_eq_true (by first|(with_reducible assumption)|assumption)
         have q231 : x7_1 < (l0.length : Int) := of_decide_eq_true (by first|(with_reducible assumption)|assumption)
         obtain ⟨ad231,e231,hx231_0⟩ := Kd.at_int HR0.out x7_1 p231 q231
         obtain rfl : ad230 = ad231 := (by injection e231)
         replace p231 := eq_true p231
         replace q231 := eq_true q231
         go_wp2_with (first|(go_at_call 60;(with_reducible refine (slices_isNaN_int.calls (rd l0 x7_1) true _ A13.out).mono ?_);rintro e w' ⟨rfl,⟨nd,rfl⟩⟩)|(go_at_call 60;(with_reducible refine (slices_isNaN_int.calls a1 t233 _ A15.out).mono ?_);rintro e w' ⟨rfl,⟨nd,rfl⟩⟩))
         go_ret2
         exact ⟨by first|rfl|(simp;done)|(simp [*];done),by repeat (first|exact Drawn0.refl _|apply Drawn0.step)⟩
        ·replace c14 := Bool.eq_false_iff.mpr c14
         subst c14
         have H1 : (some (x7_1,false)) = some (r1,r2) := by rw [if_neg (show ¬ (false = true) by decide)] at H;exact H
         clear H
         have H := H1
         clear H1
         simp only [Option.some.injEq,Prod.mk.injEq] at H
         obtain ⟨rfl,rfl⟩ := H
         have p230 : 0 ≤ (x7_1 : Int) := of_decide_eq_true (by first|(with_reducible assumption)|assumption)
         have q230 : x7_1 < (l0.length : Int) := of_decide_eq_true (by first|(with_reducible assumption)|assumption)
         obtain ⟨ad230,e230,hx230_0⟩ := Kd.at_int HR0.out x7_1 p230 q230
         cases e230
         replace p230 := eq_true p230
         replace q230 := eq_true q230
         have p231 : 0 ≤ (x7_1 : Int) := of_decide_eq_true (by first|(with_reducible assumption)|assumption)
         have q231 : x7_1 < (l0.length : Int) := of_decide_eq_true (by first|(with_reducible assumption)|assumption)
         obtain ⟨ad231,e231,hx231_0⟩ := Kd.at_int HR0.out x7_1 p231 q231
         obtain rfl : ad230 = ad231 := (by injection e231)
         replace p231 := eq_true p231
         replace q231 := eq_true q231
         go_wp2_with (first|(go_at_call 60;(with_reducible refine (slices_isNaN_int.calls (rd l0 x7_1) false _ A13.out).mono ?_);rintro e w' ⟨rfl,⟨nd,rfl⟩⟩))
         go_ret2
         exact ⟨by first|rfl|(simp;done)|(simp [*];done),by repeat (first|exact Drawn0.refl _|apply Drawn0.step)⟩
      ·rw [if_neg c11] at H
       exact absurd H (by simp)
     ·rw [if_neg c10] at H
      exact absurd H (by simp)
    ·rw [if_neg c9] at H
     have c9b0 : decide (x7_1 < (l0.length : Int)) = false := decide_eq_false c9
     clear c9
     simp only [Option.some.injEq,Prod.mk.injEq] at H
     obtain ⟨rfl,rfl⟩ := H
     go_wp2
     go_ret2
     exact ⟨by first|rfl|(simp;done)|(simp [*];done),by repeat (first|exact Drawn0.refl _|apply Drawn0.step)⟩

/-! ### posting_Seek: function 29 -/
def posting_Seek.f (k : Nat) (l0 : List Int) (a1 : Int) : Option (Int × Bool) := (posting_Unpack.f k l0).bind fun bt234 => (if bt234.2 = 0 then ((slices_BinarySearch_int_int.f k bt234.1 a1).bind fun bt238 => (if bt238.1 = (bt234.1.length : Int) then (some (0, false)) else (if 0 ≤ bt238.1 then (if bt238.1 < (bt234.1.length : Int) then (some (rd bt234.1 bt238.1, true)) else (none)) else (none)))) else (some (0, false)))
theorem posting_Seek.mono : ∀ a0 a1 k, LeO (posting_Seek.f k a0 a1) (posting_Seek.f (k + 1) a0 a1) := by
 intro a0 a1 k
 unfold posting_Seek.f
 repeat' first
  |(with_reducible exact posting_Unpack.mono _ _)
  |(with_reducible exact slices_BinarySearch_int_int.mono _ _ _)
  |(with_reducible exact LeO.refl _)
  |(with_reducible exact LeO.none _)
  |(with_reducible refine LeO.ite ?_ ?_)
  |(with_reducible refine LeO.bind ?_ (fun _ => ?_))
  |exact posting_Unpack.mono _ _
  |exact slices_BinarySearch_int_int.mono _ _ _
  |exact LeO.none _
  |refine LeO.ite ?_ ?_
  |refine LeO.bind ?_ (fun _ => ?_)
set_option maxHeartbeats 4000000 in
set_option maxRecDepth 100000 in
theorem posting_Seek.calls (k : Nat) (A0 : Option Addr) (c0 : Nat) (l0 : List Int) (a1 : Int) (r1 : Int) (r2 : Bool) (w : World) (hr0 : Kd.C (Kd.int .u8) w A0 l0.length l0) (hc0 : l0.length ≤ c0) (h : posting_Seek.f k l0 a1 = some (r1, r2)) :
  Calls Try.prog 29 #[.slice A0 l0.length c0,.int .i64 a1] w fun e w' => e = .returned (.tuple #[.int .i64 r1,.bool r2]) ∧ Below w.heap.size w w' := by
 have HR0 := Aside0.mk hr0
 have HC0 := Aside0.mk hc0
 clear hr0 hc0
 have HB := Aside0.mk (Below.refl w.heap.size w)
 have H : ((posting_Unpack.f k l0).bind fun bt234 => (if bt234.2 = 0 then ((slices_BinarySearch_int_int.f k bt234.1 a1).bind fun bt238 => (if bt238.1 = (bt234.1.length : Int) then (some (0,false)) else (if 0 ≤ bt238.1 then (if bt238.1 < (bt234.1.length : Int) then (some (rd bt234.1 bt238.1,true)) else (none)) else (none)))) else (some (0,false)))) = some (r1,r2) := h
 clear h
 replace H := Option.bind_eq_some_iff.mp H
 obtain ⟨⟨t234,t235⟩,A30,H⟩ := H
 replace H : (if t235 = 0 then ((slices_BinarySearch_int_int.f k t234 a1).bind fun bt238 => (if bt238.1 = (t234.length : Int) then (some (0,false)) else (if 0 ≤ bt238.1 then (if bt238.1 < (t234.length : Int) then (some (rd t234 bt238.1,true)) else (none)) else (none)))) else (some (0,false))) = some (r1,r2) := H
 have A3 := Aside0.mk A30
 clear A30
 by_cases c4 : t235 = 0
 ·rw [if_pos c4] at H
  have c4b0 : (t235 == 0) = true := beq_iff_eq.mpr c4
  have c4b1 : (t235 != 0) = false := bne_eq_false_iff_eq.mpr c4
  clear c4
  replace H := Option.bind_eq_some_iff.mp H
  obtain ⟨⟨t238,t239⟩,A50,H⟩ := H
  replace H : (if t238 = (t234.length : Int) then (some (0,false)) else (if 0 ≤ t238 then (if t238 < (t234.length : Int) then (some (rd t234 t238,true)) else (none)) else (none))) = some (r1,r2) := H
  have A5 := Aside0.mk A50
  clear A50
  by_cases c6 : t238 = (t234.length : Int)
  ·rw [if_pos c6] at H
   have c6b0 : (t238 == (t234.length : Int)) = true := beq_iff_eq.mpr c6
   have c6b1 : (t238 != (t234.length : Int)) = false := bne_eq_false_iff_eq.mpr c6
   clear c6
   simp only [Option.some.injEq,Prod.mk.injEq] at H
   obtain ⟨rfl,rfl⟩ := H
   go_enter Try.func29,Try.ntmps29
   go_wp2_with (first|((with_reducible refine gate_callee (f := 27) rfl ?_);refine goesL_ (some 12) rfl rfl Try.func27 (by kernel_rfl) rfl #[.slice A0 l0.length c0] rfl (by (try simp only [List.map_toArray,List.map_cons,List.map_nil]);first|done|rfl|(simp only [List.length_drop,List.length_take];rfl)) ?_;(with_reducible refine (posting_Unpack.calls k _ _ l0 t234 t235 _ ?side1 ?side2 A3.out).mono ?_);(case side1 => exact cM HR0.out);(case side2 => exact HC0.out);rintro e w7 ⟨v236,rfl,ho0,hb⟩;refine ⟨_,rfl,?_⟩;have n0_ := Aside0.mk (Kd.R_lower ho0 (below_size (bM HB.out)));have n1_ := Aside0.mk (below_step (bM HB.out) hb);clear HB;have HO237 := n0_;have HB := n1_;clear n0_ n1_;(try clear hb);(try clear hb2);(try clear hk);(try clear hi);(try clear ho0);obtain ⟨Ao8,co8,eo8⟩ := Kd.R_slice HO237.out;subst eo8)|((with_reducible refine gate_callee (f := 49) rfl ?_);refine goesL_ (some 20) rfl rfl Try.func49 (by kernel_rfl) rfl #[.slice Ao8 t234.length co8,.int .i64 a1] rfl (by (try simp only [List.map_toArray,List.map_cons,List.map_nil]);first|done|rfl|(simp only [List.length_drop,List.length_take];rfl)) ?_;(with_reducible refine (slices_BinarySearch_int_int.calls k _ _ t234 a1 t238 t239 _ ?side1 ?side2 A5.out).mono ?_);(case side1 => exact cM (Kd.R_reads' HO237.out).2.2);(case side2 => exact (Kd.R_reads' HO237.out).2.1);rintro e w' ⟨rfl,⟨nd,rfl⟩⟩;refine ⟨_,rfl,?_⟩))
   go_ret2
   exact ⟨by first|rfl|(simp [errW_none,errW_some] <;> rfl)|(simp [*,errW_none,errW_some] <;> rfl),bM HB.out⟩
  ·rw [if_neg c6] at H
   have c6b0 : (t238 == (t234.length : Int)) = false := beq_eq_false_iff_ne.mpr c6
   have c6b1 : (t238 != (t234.length : Int)) = true := bne_iff_ne.mpr c6
   by_cases c9 : 0 ≤ t238
   ·rw [if_pos c9] at H
    have c9b0 : decide (0 ≤ t238) = true := decide_eq_true c9
    clear c9
    by_cases c10 : t238 < (t234.length : Int)
    ·rw [if_pos c10] at H
     have c10b0 : decide (t238 < (t234.length : Int)) = true := decide_eq_true c10
     clear c10
     simp only [Option.some.injEq,Prod.mk.injEq] at H
     obtain ⟨rfl,rfl⟩ := H
     go_enter Try.func29,Try.ntmps29
     go_wp2_with (first|((with_reducible refine gate_callee (f := 27) rfl ?_);refine goesL_ (some 12) rfl rfl Try.func27 (by kernel_rfl) rfl #[.slice A0 l0.length c0] rfl (by (try simp only [List.map_toArray,List.map_cons,List.map_nil]);first|done|rfl|(simp only [List.length_drop,List.length_take];rfl)) ?_;(with_reducible refine (posting_Unpack.calls k _ _ l0 t234 t235 _ ?side1 ?side2 A3.out).mono ?_);(case side1 => exact cM HR0.out);(case side2 => exact HC0.out);rintro e w11 ⟨v236,rfl,ho0,hb⟩;refine ⟨_,rfl,?_⟩;have n0_ := Aside0.mk (Kd.R_lower ho0 (below_size (bM HB.out)));have n1_ := Aside0.mk (below_step (bM HB.out) hb);clear HB;have HO237 := n0_;have HB := n1_;clear n0_ n1_;(try clear hb);(try clear hb2);(try clear hk);(try clear hi);(try clear ho0);obtain ⟨Ao12,co12,eo12⟩ := Kd.R_slice HO237.out;subst eo12)|((with_reducible refine gate_callee (f := 49) rfl ?_);refine goesL_ (some 20) rfl rfl Try.func49 (by kernel_rfl) rfl #[.slice Ao12 t234.length co12,.int .i64 a1] rfl (by (try simp only [List.map_toArray,List.map_cons,List.map_nil]);first|done|rfl|(simp only [List.length_drop,List.length_take];rfl)) ?_;(with_reducible refine (slices_BinarySearch_int_int.calls k _ _ t234 a1 t238 t239 _ ?side1 ?side2 A5.out).mono ?_);(case side1 => exact cM (Kd.R_reads' HO237.out).2.2);(case side2 => exact (Kd.R_reads' HO237.out).2.1);rintro e w' ⟨rfl,⟨nd,rfl⟩⟩;refine ⟨_,rfl,?_⟩;have p240 : 0 ≤ (t238 : Int) := of_decide_eq_true (by first|(with_reducible assumption)|assumption);have q240 : t238 < (t234.length : Int) := of_decide_eq_true (by first|(with_reducible assumption)|assumption);obtain ⟨ad240,e240,hx240_0⟩ := Kd.at_int (Kd.R_reads' HO237.out).2.2 t238 p240 q240;cases e240;replace p240 := eq_true p240;replace q240 := eq_true q240))
     go_ret2
     exact ⟨by first|rfl|(simp [errW_none,errW_some] <;> rfl)|(simp [*,errW_none,errW_some] <;> rfl),bM HB.out⟩
    ·rw [if_neg c10] at H
     exact absurd H (by simp)
   ·rw [if_neg c9] at H
    exact absurd H (by simp)
 ·rw [if_neg c4] at H
  have c4b0 : (t235 == 0) = false := beq_eq_false_iff_ne.mpr c4
  have c4b1 : (t235 != 0) = true := bne_iff_ne.mpr c4
  simp only [Option.some.injEq,Prod.mk.injEq] at H
  obtain ⟨rfl,rfl⟩ := H
  go_enter Try.func29,Try.ntmps29
  go_wp2_with (first|((with_reducible refine gate_callee (f := 27) rfl ?_);refine goesL_ (some 12) rfl rfl Try.func27 (by kernel_rfl) rfl #[.slice A0 l0.length c0] rfl (by (try simp only [List.map_toArray,List.map_cons,List.map_nil]);first|done|rfl|(simp only [List.length_drop,List.length_take];rfl)) ?_;(with_reducible refine (posting_Unpack.calls k _ _ l0 t234 t235 _ ?side1 ?side2 A3.out).mono ?_);(case side1 => exact cM HR0.out);(case side2 => exact HC0.out);rintro e w13 ⟨v236,rfl,ho0,hb⟩;refine ⟨_,rfl,?_⟩;have n0_ := Aside0.mk (Kd.R_lower ho0 (below_size (bM HB.out)));have n1_ := Aside0.mk (below_step (bM HB.out) hb);clear HB;have HO237 := n0_;have HB := n1_;clear n0_ n1_;(try clear hb);(try clear hb2);(try clear hk);(try clear hi);(try clear ho0)))
  go_ret2
  exact ⟨by first|rfl|(simp [errW_none,errW_some] <;> rfl)|(simp [*,errW_none,errW_some] <;> rfl),bM HB.out⟩

end Go.Proofs.Ytknpmknkkofnjaa.P
