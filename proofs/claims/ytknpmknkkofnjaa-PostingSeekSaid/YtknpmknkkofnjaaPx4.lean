-- Written by hp.py, a program of this session, over the kit's print of the translation. Not trusted: Lean checks it.
import Derived.Test.YtknpmknkkofnjaaPx0
namespace Go.Proofs.Ytknpmknkkofnjaa.P
open Go.RowKit Go.Proofs.YtknpmknkkofnjaaW.PrintWords Go.Proofs.YtknpmknkkofnjaaW.PrintLast Go.Proofs.YtknpmknkkofnjaaW.PrintMore
attribute [local go_sem] max2_int min2_int max_two min_two max_three min_three max_four min_four   -- for this text's walks alone
set_option linter.unusedVariables false
set_option linter.unusedSimpArgs false

/-! ### varint_width: function 58 -/
def varint_width.l0 : Nat → List Int → Int → Int → Option (Int)
|0,_,_,_ => none
|k + 1,x0,x5,x6 => if x6 < x5 then (if 0 ≤ x6 then (if x6 < (x0.length : Int) then (if (rd x0 x6) < 128 then (some (wrap64 (x6 + 1))) else (varint_width.l0 k x0 x5 (wrap64 (x6 + 1)))) else (none)) else (none)) else (some 0)
def varint_width.f (k : Nat) (l0 : List Int) : Option (Int) := varint_width.l0 k l0 (l0.length : Int) 0
theorem varint_width.mono_l : ∀ k, (∀ y0 y1 y2, LeO (varint_width.l0 k y0 y1 y2) (varint_width.l0 (k + 1) y0 y1 y2))
|0 => fun _ _ _ r h => by simp [varint_width.l0] at h
|k + 1 => by
  have ih0 := varint_width.mono_l k
  ·intro y0 y1 y2
   unfold varint_width.l0
   repeat' first
  |(with_reducible exact ih0 _ _ _)
  |(with_reducible exact LeO.refl _)
  |(with_reducible exact LeO.none _)
  |(with_reducible refine LeO.ite ?_ ?_)
  |(with_reducible refine LeO.bind ?_ (fun _ => ?_))
  |exact ih0 _ _ _
  |exact LeO.none _
  |refine LeO.ite ?_ ?_
  |refine LeO.bind ?_ (fun _ => ?_)
theorem varint_width.mono : ∀ a0 k, LeO (varint_width.f k a0) (varint_width.f (k + 1) a0) := by
 intro a0 k
 have ih0 := varint_width.mono_l k
 unfold varint_width.f
 repeat' first
  |(with_reducible exact ih0 _ _ _)
  |(with_reducible exact LeO.refl _)
  |(with_reducible exact LeO.none _)
  |(with_reducible refine LeO.ite ?_ ?_)
  |(with_reducible refine LeO.bind ?_ (fun _ => ?_))
  |exact ih0 _ _ _
  |exact LeO.none _
  |refine LeO.ite ?_ ?_
  |refine LeO.bind ?_ (fun _ => ?_)
set_option maxHeartbeats 4000000 in
set_option maxRecDepth 100000 in
theorem varint_width.calls (k : Nat) (A0 : Option Addr) (c0 : Nat) (l0 : List Int) (r : Int) (w : World) (hr0 : Kd.C (Kd.int .u8) w A0 l0.length l0) (hc0 : l0.length ≤ c0) (h : varint_width.f k l0 = some r) :
  Calls Try.prog 58 #[.slice A0 l0.length c0] w fun e w' => e = .returned (.int .i64 r) ∧ Drawn0 w w' := by
 have HR0 := Aside0.mk hr0
 have HC0 := Aside0.mk hc0
 clear hr0 hc0
 have H : (varint_width.l0 k l0 (l0.length : Int) 0) = some r := h
 clear h
 have H' := Aside0.mk H
 clear H
 go_enter Try.func58,Try.ntmps58
 go_wp2
 go_loopg [6] k (fun kq v6 w' => ∃ (x6_1 : Int),v6 = .int .i64 x6_1 ∧ Aside0 (varint_width.l0 kq l0 (l0.length : Int) x6_1 = some r) ∧ Aside0 (kq ≤ k) ∧ Drawn0 w w')
 case atStart => exact ⟨(0),(by first|rfl|(simp;done)|(simp [*];done)),H',⟨Nat.le_refl _⟩,by repeat (first|exact Drawn0.refl _|apply Drawn0.step)⟩
 case round =>
  clear H'
  obtain ⟨x6_1,rfl,HA,HK1,⟨m1,rfl⟩⟩ := hrel
  cases gk with
 |zero => exact absurd HA.out (by simp [varint_width.l0])
 |succ k1 =>
   have H := HA.out
   clear HA
   simp only [varint_width.l0] at H
   by_cases c2 : x6_1 < (l0.length : Int)
   ·rw [if_pos c2] at H
    have c2b0 : decide (x6_1 < (l0.length : Int)) = true := decide_eq_true c2
    clear c2
    by_cases c3 : 0 ≤ x6_1
    ·rw [if_pos c3] at H
     have c3b0 : decide (0 ≤ x6_1) = true := decide_eq_true c3
     clear c3
     by_cases c4 : x6_1 < (l0.length : Int)
     ·rw [if_pos c4] at H
      have c4b0 : decide (x6_1 < (l0.length : Int)) = true := decide_eq_true c4
      clear c4
      by_cases c5 : (rd l0 x6_1) < 128
      ·rw [if_pos c5] at H
       have c5b0 : decide ((rd l0 x6_1) < 128) = true := decide_eq_true c5
       clear c5
       obtain rfl := Option.some.inj H
       have p196 : 0 ≤ (x6_1 : Int) := of_decide_eq_true (by first|(with_reducible assumption)|assumption)
       have q196 : x6_1 < (l0.length : Int) := of_decide_eq_true (by first|(with_reducible assumption)|assumption)
       obtain ⟨ad196,e196,hx196_0⟩ := Kd.at_int HR0.out x6_1 p196 q196
       cases e196
       replace p196 := eq_true p196
       replace q196 := eq_true q196
       go_wp2
       go_ret
       exact ⟨by first|rfl|(simp;done)|(simp [*];done),by repeat (first|exact Drawn0.refl _|apply Drawn0.step)⟩
      ·rw [if_neg c5] at H
       have c5b0 : decide ((rd l0 x6_1) < 128) = false := decide_eq_false c5
       clear c5
       have H' := Aside0.mk H
       clear H
       have p196 : 0 ≤ (x6_1 : Int) := of_decide_eq_true (by first|(with_reducible assumption)|assumption)
       have q196 : x6_1 < (l0.length : Int) := of_decide_eq_true (by first|(with_reducible assumption)|assumption)
       obtain ⟨ad196,e196,hx196_0⟩ := Kd.at_int HR0.out x6_1 p196 q196
       cases e196
       replace p196 := eq_true p196
       replace q196 := eq_true q196
       go_wp2
       go_roundg k1
       case measure => have := HK1.out;omega
       case rel => exact ⟨(wrap64 (x6_1 + 1)),(by first|rfl|(simp;done)|(simp [*];done)),H',⟨by have := HK1.out;omega⟩,by repeat (first|exact Drawn0.refl _|apply Drawn0.step)⟩
     ·rw [if_neg c4] at H
      exact absurd H (by simp)
    ·rw [if_neg c3] at H
     exact absurd H (by simp)
   ·rw [if_neg c2] at H
    have c2b0 : decide (x6_1 < (l0.length : Int)) = false := decide_eq_false c2
    clear c2
    obtain rfl := Option.some.inj H
    go_wp2
    go_ret
    exact ⟨by first|rfl|(simp;done)|(simp [*];done),by repeat (first|exact Drawn0.refl _|apply Drawn0.step)⟩

/-! ### varint_Get: function 44 -/
mutual
def varint_Get.j0 : Nat → List Int → Int → Bool → Option (Int × Int × Int)
|0,_,_,_ => none
|k + 1,x0,x1,x17 => if x17 = true then (some (0,0,2)) else (if 0 ≤ x1 then (if x1 ≤ (x0.length : Int) then ((varint_width.f k (x0.drop (x1 : Int).toNat)).bind fun t198 => (if t198 = 0 then (some (0,0,5)) else (if t198 > 9 then (some (0,0,4)) else (varint_Get.l0 k x0 x1 t198 0 t198 0)))) else (none)) else (none))
def varint_Get.l0 : Nat → List Int → Int → Int → Int → Int → Int → Option (Int × Int × Int)
|0,_,_,_,_,_,_ => none
|k + 1,x0,x1,x7,x8,x26,x27 => if x27 < x26 then (if 0 ≤ (wrap64 (x1 + x27)) then (if (wrap64 (x1 + x27)) < (x0.length : Int) then (if 0 ≤ (wrap64 (7 * x27)) then (varint_Get.l0 k x0 x1 x7 (Go.bits .or .u64 x8 (shl .u64 (IntKind.u64.wrap (Go.bits .and .u8 (rd x0 (wrap64 (x1 + x27))) 127)) (wrap64 (7 * x27)))) x26 (wrap64 (x27 + 1))) else (none)) else (none)) else (none)) else (if x8 > 4611686018427387904 then (some (0,0,4)) else (if x7 > 1 then (if 0 ≤ (wrap64 ((wrap64 (x1 + x7)) - 1)) then (if (wrap64 ((wrap64 (x1 + x7)) - 1)) < (x0.length : Int) then (if (rd x0 (wrap64 ((wrap64 (x1 + x7)) - 1))) = 0 then (some (0,0,3)) else (some (wrap64 (x8),wrap64 (x1 + x7),0))) else (none)) else (none)) else (some (wrap64 (x8),wrap64 (x1 + x7),0))))
end
def varint_Get.f (k : Nat) (l0 : List Int) (a1 : Int) : Option (Int × Int × Int) := if a1 < 0 then (varint_Get.j0 k l0 a1 true) else (varint_Get.j0 k l0 a1 (decide (a1 > (l0.length : Int))))
theorem varint_Get.mono_l : ∀ k, (∀ y0 y1 y2, LeO (varint_Get.j0 k y0 y1 y2) (varint_Get.j0 (k + 1) y0 y1 y2)) ∧ (∀ y0 y1 y2 y3 y4 y5, LeO (varint_Get.l0 k y0 y1 y2 y3 y4 y5) (varint_Get.l0 (k + 1) y0 y1 y2 y3 y4 y5))
|0 => ⟨fun _ _ _ r h => by simp [varint_Get.j0] at h,fun _ _ _ _ _ _ r h => by simp [varint_Get.l0] at h⟩
|k + 1 => by
  obtain ⟨ih0,ih1⟩ := varint_Get.mono_l k
  refine ⟨?_,?_⟩
  ·intro y0 y1 y2
   unfold varint_Get.j0
   repeat' first
  |(with_reducible exact ih0 _ _ _)
  |(with_reducible exact ih1 _ _ _ _ _ _)
  |(with_reducible exact varint_width.mono _ _)
  |(with_reducible exact LeO.refl _)
  |(with_reducible exact LeO.none _)
  |(with_reducible refine LeO.ite ?_ ?_)
  |(with_reducible refine LeO.bind ?_ (fun _ => ?_))
  |exact ih0 _ _ _
  |exact ih1 _ _ _ _ _ _
  |exact varint_width.mono _ _
  |exact LeO.none _
  |refine LeO.ite ?_ ?_
  |refine LeO.bind ?_ (fun _ => ?_)
  ·intro y0 y1 y2 y3 y4 y5
   unfold varint_Get.l0
   repeat' first
  |(with_reducible exact ih0 _ _ _)
  |(with_reducible exact ih1 _ _ _ _ _ _)
  |(with_reducible exact varint_width.mono _ _)
  |(with_reducible exact LeO.refl _)
  |(with_reducible exact LeO.none _)
  |(with_reducible refine LeO.ite ?_ ?_)
  |(with_reducible refine LeO.bind ?_ (fun _ => ?_))
  |exact ih0 _ _ _
  |exact ih1 _ _ _ _ _ _
  |exact varint_width.mono _ _
  |exact LeO.none _
  |refine LeO.ite ?_ ?_
  |refine LeO.bind ?_ (fun _ => ?_)
theorem varint_Get.mono : ∀ a0 a1 k, LeO (varint_Get.f k a0 a1) (varint_Get.f (k + 1) a0 a1) := by
 intro a0 a1 k
 obtain ⟨ih0,ih1⟩ := varint_Get.mono_l k
 unfold varint_Get.f
 repeat' first
  |(with_reducible exact ih0 _ _ _)
  |(with_reducible exact ih1 _ _ _ _ _ _)
  |(with_reducible exact varint_width.mono _ _)
  |(with_reducible exact LeO.refl _)
  |(with_reducible exact LeO.none _)
  |(with_reducible refine LeO.ite ?_ ?_)
  |(with_reducible refine LeO.bind ?_ (fun _ => ?_))
  |exact ih0 _ _ _
  |exact ih1 _ _ _ _ _ _
  |exact varint_width.mono _ _
  |exact LeO.none _
  |refine LeO.ite ?_ ?_
  |refine LeO.bind ?_ (fun _ => ?_)
set_option maxHeartbeats 4000000 in
set_option maxRecDepth 100000 in
theorem varint_Get.calls (k : Nat) (A0 : Option Addr) (c0 : Nat) (l0 : List Int) (a1 : Int) (r1 : Int) (r2 : Int) (r3 : Int) (w : World) (hr0 : Kd.C (Kd.int .u8) w A0 l0.length l0) (hc0 : l0.length ≤ c0) (h : varint_Get.f k l0 a1 = some (r1, r2, r3)) :
  Calls Try.prog 44 #[.slice A0 l0.length c0,.int .i64 a1] w fun e w' => e = .returned (.tuple #[.int .i64 r1,.int .i64 r2,.int .i64 r3]) ∧ Drawn0 w w' := by
 have HR0 := Aside0.mk hr0
 have HC0 := Aside0.mk hc0
 clear hr0 hc0
 have H : (if a1 < 0 then (varint_Get.j0 k l0 a1 true) else (varint_Get.j0 k l0 a1 (decide (a1 > (l0.length : Int))))) = some (r1,r2,r3) := h
 clear h
 have HC3 := Aside0.mk H
 clear H
 go_enter Try.func44,Try.ntmps44
 go_upto_region 1 with (fail)
 go_cut [17] (fun v17 wc => ∃ (kq : Nat) (x17_2 : Bool),v17 = .bool x17_2 ∧ Aside0 (varint_Get.j0 kq l0 a1 x17_2 = some (r1,r2,r3)) ∧ Aside0 (kq ≤ k) ∧ Drawn0 w wc)
 case first =>
  have H := HC3.out
  clear HC3
  by_cases c4 : a1 < 0
  ·rw [if_pos c4] at H
   have c4b0 : decide (a1 < 0) = true := decide_eq_true c4
   clear c4
   (first|rw [c4b0]|(simp only [i64_w,i32_w];rw [c4b0])|skip)
   have H' := Aside0.mk H
   clear H
   go_wp2
   go_meet
   case rel => exact ⟨_,(true),(by first|rfl|(simp;done)|(simp [*];done)),H',⟨by first|omega|exact Nat.le_refl _⟩,by repeat (first|exact Drawn0.refl _|apply Drawn0.step)⟩
  ·rw [if_neg c4] at H
   have c4b0 : decide (a1 < 0) = false := decide_eq_false c4
   clear c4
   (first|rw [c4b0]|(simp only [i64_w,i32_w];rw [c4b0])|skip)
   have H' := Aside0.mk H
   clear H
   go_wp2
   go_meet
   case rel => exact ⟨_,(decide (a1 > (l0.length : Int))),(by first|rfl|(simp;done)|(simp [*];done)),H',⟨by first|omega|exact Nat.le_refl _⟩,by repeat (first|exact Drawn0.refl _|apply Drawn0.step)⟩
 case rest =>
  clear HC3
  try clear p2
  try clear c4
  try clear c4b0
  obtain ⟨kq,x17_2,rfl,HA,HJ2,⟨mc2,rfl⟩⟩ := hcut
  cases kq with
 |zero => exact absurd HA.out (by simp [varint_Get.j0])
 |succ kj2 =>
   have H := HA.out
   clear HA
   simp only [varint_Get.j0] at H
   by_cases c5 : x17_2 = true
   ·subst c5
    have H1 : (some (0,0,2)) = some (r1,r2,r3) := by rw [if_pos rfl] at H;exact H
    clear H
    have H := H1
    clear H1
    simp only [Option.some.injEq,Prod.mk.injEq] at H
    obtain ⟨rfl,rfl,rfl⟩ := H
    go_wp2
    go_ret3
    exact ⟨by first|rfl|(simp;done)|(simp [*];done),by repeat (first|exact Drawn0.refl _|apply Drawn0.step)⟩
   ·replace c5 := Bool.eq_false_iff.mpr c5
    subst c5
    have H1 : (if 0 ≤ a1 then (if a1 ≤ (l0.length : Int) then ((varint_width.f kj2 (l0.drop (a1 : Int).toNat)).bind fun t198 => (if t198 = 0 then (some (0,0,5)) else (if t198 > 9 then (some (0,0,4)) else (varint_Get.l0 kj2 l0 a1 t198 0 t198 0)))) else (none)) else (none)) = some (r1,r2,r3) := by rw [if_neg (show ¬ (false = true) by decide)] at H;exact H
    clear H
    have H := H1
    clear H1
    by_cases c6 : 0 ≤ a1
    ·rw [if_pos c6] at H
     have c6b0 := eq_true c6
     have c6b1 : decide (0 ≤ a1) = true := decide_eq_true c6
     clear c6
     by_cases c7 : a1 ≤ (l0.length : Int)
     ·rw [if_pos c7] at H
      have c7b0 := eq_true c7
      have c7b1 : decide (a1 ≤ (l0.length : Int)) = true := decide_eq_true c7
      clear c7
      replace H := Option.bind_eq_some_iff.mp H
      obtain ⟨t198,A80,H⟩ := H
      replace H : (if t198 = 0 then (some (0,0,5)) else (if t198 > 9 then (some (0,0,4)) else (varint_Get.l0 kj2 l0 a1 t198 0 t198 0))) = some (r1,r2,r3) := H
      have A8 := Aside0.mk A80
      clear A80
      by_cases c9 : t198 = 0
      ·rw [if_pos c9] at H
       have c9b0 : (t198 == 0) = true := beq_iff_eq.mpr c9
       have c9b1 : (t198 != 0) = false := bne_eq_false_iff_eq.mpr c9
       clear c9
       simp only [Option.some.injEq,Prod.mk.injEq] at H
       obtain ⟨rfl,rfl,rfl⟩ := H
       obtain ⟨i010,hi010,_,hsz10,_⟩ := info_parts info5
       obtain ⟨A10,hcut10,hA10,hC10⟩ := print_drop_of (P := Try.prog) (Value.int .u8) 0 30 5 .i64 Try.underlying30 hi010 hsz10 A0 c0 l0 a1 (of_decide_eq_true (by first|(with_reducible assumption)|assumption)) (of_decide_eq_true (by first|(with_reducible assumption)|assumption)) HC0.out
       have HR197 := Aside0.mk (Kd.C_of_reads (h1 := fun _ => rfl) (hA10 _ (Kd.reads_of_C HR0.out)))
       have HC197 := Aside0.mk hC10
       clear hA10 hC10 hi010 hsz10
       go_wp2_with (first|((with_reducible refine gate_callee (f := 58) rfl ?_);refine goesL_ (some 21) rfl rfl Try.func58 (by kernel_rfl) rfl #[.slice A10 (l0.drop (a1 : Int).toNat).length (c0 - a1.toNat)] rfl (by (try simp only [List.map_toArray,List.map_cons,List.map_nil]);first|done|(rw [show (l0.drop (a1 : Int).toNat).length = (l0.length - a1.toNat) from List.length_drop] <;> rfl)|rfl|(simp only [List.length_drop,List.length_take];rfl)) ?_;(with_reducible refine (varint_width.calls kj2 _ _ (l0.drop (a1 : Int).toNat) t198 _ ?side1 ?side2 A8.out).mono ?_);(case side1 => exact cM HR197.out);(case side2 => exact HC197.out);rintro e w' ⟨rfl,⟨nd,rfl⟩⟩;refine ⟨_,rfl,?_⟩))
       go_ret3
       exact ⟨by first|rfl|(simp;done)|(simp [*];done),by repeat (first|exact Drawn0.refl _|apply Drawn0.step)⟩
      ·rw [if_neg c9] at H
       have c9b0 : (t198 == 0) = false := beq_eq_false_iff_ne.mpr c9
       have c9b1 : (t198 != 0) = true := bne_iff_ne.mpr c9
       by_cases c11 : t198 > 9
       ·rw [if_pos c11] at H
        have c11b0 : decide (9 < t198) = true := decide_eq_true c11
        clear c11
        simp only [Option.some.injEq,Prod.mk.injEq] at H
        obtain ⟨rfl,rfl,rfl⟩ := H
        obtain ⟨i012,hi012,_,hsz12,_⟩ := info_parts info5
        obtain ⟨A12,hcut12,hA12,hC12⟩ := print_drop_of (P := Try.prog) (Value.int .u8) 0 30 5 .i64 Try.underlying30 hi012 hsz12 A0 c0 l0 a1 (of_decide_eq_true (by first|(with_reducible assumption)|assumption)) (of_decide_eq_true (by first|(with_reducible assumption)|assumption)) HC0.out
        have HR197 := Aside0.mk (Kd.C_of_reads (h1 := fun _ => rfl) (hA12 _ (Kd.reads_of_C HR0.out)))
        have HC197 := Aside0.mk hC12
        clear hA12 hC12 hi012 hsz12
        go_wp2_with (first|((with_reducible refine gate_callee (f := 58) rfl ?_);refine goesL_ (some 21) rfl rfl Try.func58 (by kernel_rfl) rfl #[.slice A12 (l0.drop (a1 : Int).toNat).length (c0 - a1.toNat)] rfl (by (try simp only [List.map_toArray,List.map_cons,List.map_nil]);first|done|(rw [show (l0.drop (a1 : Int).toNat).length = (l0.length - a1.toNat) from List.length_drop] <;> rfl)|rfl|(simp only [List.length_drop,List.length_take];rfl)) ?_;(with_reducible refine (varint_width.calls kj2 _ _ (l0.drop (a1 : Int).toNat) t198 _ ?side1 ?side2 A8.out).mono ?_);(case side1 => exact cM HR197.out);(case side2 => exact HC197.out);rintro e w' ⟨rfl,⟨nd,rfl⟩⟩;refine ⟨_,rfl,?_⟩))
        go_ret3
        exact ⟨by first|rfl|(simp;done)|(simp [*];done),by repeat (first|exact Drawn0.refl _|apply Drawn0.step)⟩
       ·rw [if_neg c11] at H
        have c11b0 : decide (9 < t198) = false := decide_eq_false c11
        clear c11
        have H' := Aside0.mk H
        clear H
        obtain ⟨i013,hi013,_,hsz13,_⟩ := info_parts info5
        obtain ⟨A13,hcut13,hA13,hC13⟩ := print_drop_of (P := Try.prog) (Value.int .u8) 0 30 5 .i64 Try.underlying30 hi013 hsz13 A0 c0 l0 a1 (of_decide_eq_true (by first|(with_reducible assumption)|assumption)) (of_decide_eq_true (by first|(with_reducible assumption)|assumption)) HC0.out
        have HR197 := Aside0.mk (Kd.C_of_reads (h1 := fun _ => rfl) (hA13 _ (Kd.reads_of_C HR0.out)))
        have HC197 := Aside0.mk hC13
        clear hA13 hC13 hi013 hsz13
        go_wp2_with (first|((with_reducible refine gate_callee (f := 58) rfl ?_);refine goesL_ (some 21) rfl rfl Try.func58 (by kernel_rfl) rfl #[.slice A13 (l0.drop (a1 : Int).toNat).length (c0 - a1.toNat)] rfl (by (try simp only [List.map_toArray,List.map_cons,List.map_nil]);first|done|(rw [show (l0.drop (a1 : Int).toNat).length = (l0.length - a1.toNat) from List.length_drop] <;> rfl)|rfl|(simp only [List.length_drop,List.length_take];rfl)) ?_;(with_reducible refine (varint_width.calls kj2 _ _ (l0.drop (a1 : Int).toNat) t198 _ ?side1 ?side2 A8.out).mono ?_);(case side1 => exact cM HR197.out);(case side2 => exact HC197.out);rintro e w' ⟨rfl,⟨nd,rfl⟩⟩;refine ⟨_,rfl,?_⟩))
        go_loopg [8,27] kj2 (fun kq v8 v27 w' => ∃ (x8_2 : Int) (x27_2 : Int),v8 = .int .u64 x8_2 ∧ v27 = .int .i64 x27_2 ∧ Aside0 (varint_Get.l0 kq l0 a1 t198 x8_2 t198 x27_2 = some (r1,r2,r3)) ∧ Aside0 (kq ≤ kj2) ∧ Drawn0 w w')
        case atStart => exact ⟨(0),(0),(by first|rfl|(simp;done)|(simp [*];done)),(by first|rfl|(simp;done)|(simp [*];done)),H',⟨Nat.le_refl _⟩,by repeat (first|exact Drawn0.refl _|apply Drawn0.step)⟩
        case round =>
         clear H'
         try clear c1
         try clear c2
         try clear p2
         try clear c4
         try clear c4b0
         try clear c5
         try clear c6
         try clear c6b0
         try clear c6b1
         try clear c7
         try clear c7b0
         try clear c7b1
         try clear c9
         try clear c9b0
         try clear c9b1
         try clear c11
         try clear c11b0
         try clear p2
         obtain ⟨x8_2,x27_2,rfl,rfl,HA,HK2,⟨m2,rfl⟩⟩ := hrel
         cases gk with
        |zero => exact absurd HA.out (by simp [varint_Get.l0])
        |succ k2 =>
          have H := HA.out
          clear HA
          simp only [varint_Get.l0] at H
          by_cases c14 : x27_2 < t198
          ·rw [if_pos c14] at H
           have c14b0 : decide (x27_2 < t198) = true := decide_eq_true c14
           clear c14
           obtain ⟨ji15,hji15⟩ : ∃ j_ : Int,(wrap64 (a1 + x27_2)) = j_ := ⟨_,rfl⟩
           replace H : (if 0 ≤ (ji15) then (if (ji15) < (l0.length : Int) then (if 0 ≤ (wrap64 (7 * x27_2)) then (varint_Get.l0 k2 l0 a1 t198 (Go.bits .or .u64 x8_2 (shl .u64 (IntKind.u64.wrap (Go.bits .and .u8 (rd l0 (ji15)) 127)) (wrap64 (7 * x27_2)))) t198 (wrap64 (x27_2 + 1))) else (none)) else (none)) else (none)) = some (r1,r2,r3) := by first|(rw [hji15] at H;exact H)|(simp only [hji15] at H ⊢;exact H)
           have hji15w : (IntKind.i64.wrap (a1 + x27_2)) = ji15 := (i64_w _).trans hji15
           by_cases c16 : 0 ≤ (ji15)
           ·rw [if_pos c16] at H
            have c16b0 : decide (0 ≤ (ji15)) = true := decide_eq_true c16
            clear c16
            by_cases c17 : (ji15) < (l0.length : Int)
            ·rw [if_pos c17] at H
             have c17b0 : decide ((ji15) < (l0.length : Int)) = true := decide_eq_true c17
             clear c17
             obtain ⟨ji18,hji18⟩ : ∃ j_ : Int,(wrap64 (7 * x27_2)) = j_ := ⟨_,rfl⟩
             replace H : (if 0 ≤ (ji18) then (varint_Get.l0 k2 l0 a1 t198 (Go.bits .or .u64 x8_2 (shl .u64 (IntKind.u64.wrap (Go.bits .and .u8 (rd l0 (ji15)) 127)) (ji18))) t198 (wrap64 (x27_2 + 1))) else (none)) = some (r1,r2,r3) := by first|(rw [hji18] at H;exact H)|(simp only [hji18] at H ⊢;exact H)
             have hji18w : (IntKind.i64.wrap (7 * x27_2)) = ji18 := (i64_w _).trans hji18
             by_cases c19 : 0 ≤ (ji18)
             ·rw [if_pos c19] at H
              have c19b0 := eq_true c19
              have c19b1 : decide (0 ≤ (ji18)) = true := decide_eq_true c19
              clear c19
              obtain ⟨ji20,hji20⟩ : ∃ j_ : Int,(shl .u64 (IntKind.u64.wrap (Go.bits .and .u8 (rd l0 (ji15)) 127)) (ji18)) = j_ := ⟨_,rfl⟩
              replace H : (varint_Get.l0 k2 l0 a1 t198 (Go.bits .or .u64 x8_2 (ji20)) t198 (wrap64 (x27_2 + 1))) = some (r1,r2,r3) := by first|(rw [hji20] at H;exact H)|(simp only [hji20] at H ⊢;exact H)
              have hji20_ : (IntKind.u64.wrap ((IntKind.u64.wrap (Go.bits .and .u8 (rd l0 (ji15)) 127)) * 2 ^ min (ji18).toNat 64)) = ji20 := hji20
              have hji20z : (ji18) ≤ 64 → (IntKind.u64.wrap ((IntKind.u64.wrap (Go.bits .and .u8 (rd l0 (ji15)) 127)) * 2 ^ (ji18).toNat)) = ji20 := shl_small hji20
              have H' := Aside0.mk H
              clear H
              have p199 : 0 ≤ ((ji15) : Int) := of_decide_eq_true (by first|(with_reducible assumption)|assumption)
              have q199 : (ji15) < (l0.length : Int) := of_decide_eq_true (by first|(with_reducible assumption)|assumption)
              obtain ⟨ad199,e199,hx199_0⟩ := Kd.at_int HR0.out (ji15) p199 q199
              cases e199
              replace p199 := eq_true p199
              replace q199 := eq_true q199
              go_wp2
              go_roundg k2
              case measure => have := HJ2.out;have := HK2.out;omega
              case rel => exact ⟨(Go.bits .or .u64 x8_2 (ji20)),(wrap64 (x27_2 + 1)),(by first|rfl|(simp;done)|(rw [Int.tdiv_eq_ediv_of_nonneg (by assumption)];done)|(rw [Int.tmod_eq_emod_of_nonneg (by assumption)];done)|(simp only [← hji20] <;> (first|rfl|simp))|(simp [*];done)),(by first|rfl|(simp;done)|(simp [*];done)),H',⟨by have := HJ2.out;have := HK2.out;omega⟩,by repeat (first|exact Drawn0.refl _|apply Drawn0.step)⟩
             ·rw [if_neg c19] at H
              exact absurd H (by simp)
            ·rw [if_neg c17] at H
             exact absurd H (by simp)
           ·rw [if_neg c16] at H
            exact absurd H (by simp)
          ·rw [if_neg c14] at H
           have c14b0 : decide (x27_2 < t198) = false := decide_eq_false c14
           clear c14
           by_cases c21 : x8_2 > 4611686018427387904
           ·rw [if_pos c21] at H
            have c21b0 : decide (4611686018427387904 < x8_2) = true := decide_eq_true c21
            clear c21
            simp only [Option.some.injEq,Prod.mk.injEq] at H
            obtain ⟨rfl,rfl,rfl⟩ := H
            go_wp2
            go_ret3
            exact ⟨by first|rfl|(simp;done)|(simp [*];done),by repeat (first|exact Drawn0.refl _|apply Drawn0.step)⟩
           ·rw [if_neg c21] at H
            have c21b0 : decide (4611686018427387904 < x8_2) = false := decide_eq_false c21
            clear c21
            by_cases c22 : t198 > 1
            ·rw [if_pos c22] at H
             have c22b0 : decide (1 < t198) = true := decide_eq_true c22
             clear c22
             obtain ⟨ji23,hji23⟩ : ∃ j_ : Int,(wrap64 ((wrap64 (a1 + t198)) - 1)) = j_ := ⟨_,rfl⟩
             replace H : (if 0 ≤ (ji23) then (if (ji23) < (l0.length : Int) then (if (rd l0 (ji23)) = 0 then (some (0,0,3)) else (some (wrap64 (x8_2),wrap64 (a1 + t198),0))) else (none)) else (none)) = some (r1,r2,r3) := by first|(rw [hji23] at H;exact H)|(simp only [hji23] at H ⊢;exact H)
             have hji23w : (IntKind.i64.wrap ((wrap64 (a1 + t198)) - 1)) = ji23 := (i64_w _).trans hji23
             by_cases c24 : 0 ≤ (ji23)
             ·rw [if_pos c24] at H
              have c24b0 : decide (0 ≤ (ji23)) = true := decide_eq_true c24
              clear c24
              by_cases c25 : (ji23) < (l0.length : Int)
              ·rw [if_pos c25] at H
               have c25b0 : decide ((ji23) < (l0.length : Int)) = true := decide_eq_true c25
               clear c25
               by_cases c26 : (rd l0 (ji23)) = 0
               ·rw [if_pos c26] at H
                have c26b0 : ((rd l0 (ji23)) == 0) = true := beq_iff_eq.mpr c26
                have c26b1 : ((rd l0 (ji23)) != 0) = false := bne_eq_false_iff_eq.mpr c26
                clear c26
                simp only [Option.some.injEq,Prod.mk.injEq] at H
                obtain ⟨rfl,rfl,rfl⟩ := H
                have p200 : 0 ≤ ((ji23) : Int) := of_decide_eq_true (by first|(with_reducible assumption)|assumption)
                have q200 : (ji23) < (l0.length : Int) := of_decide_eq_true (by first|(with_reducible assumption)|assumption)
                obtain ⟨ad200,e200,hx200_0⟩ := Kd.at_int HR0.out (ji23) p200 q200
                cases e200
                replace p200 := eq_true p200
                replace q200 := eq_true q200
                go_wp2
                go_ret3
                exact ⟨by first|rfl|(simp;done)|(rw [Int.tdiv_eq_ediv_of_nonneg (by assumption)];done)|(rw [Int.tmod_eq_emod_of_nonneg (by assumption)];done)|(simp only [← hji23] <;> (first|rfl|simp))|(simp [*];done),by repeat (first|exact Drawn0.refl _|apply Drawn0.step)⟩
               ·rw [if_neg c26] at H
                have c26b0 : ((rd l0 (ji23)) == 0) = false := beq_eq_false_iff_ne.mpr c26
                have c26b1 : ((rd l0 (ji23)) != 0) = true := bne_iff_ne.mpr c26
                simp only [Option.some.injEq,Prod.mk.injEq] at H
                obtain ⟨rfl,rfl,rfl⟩ := H
                have p200 : 0 ≤ ((ji23) : Int) := of_decide_eq_true (by first|(with_reducible assumption)|assumption)
                have q200 : (ji23) < (l0.length : Int) := of_decide_eq_true (by first|(with_reducible assumption)|assumption)
                obtain ⟨ad200,e200,hx200_0⟩ := Kd.at_int HR0.out (ji23) p200 q200
                cases e200
                replace p200 := eq_true p200
                replace q200 := eq_true q200
                go_wp2
                go_ret3
                exact ⟨by first|rfl|(simp;done)|(rw [Int.tdiv_eq_ediv_of_nonneg (by assumption)];done)|(rw [Int.tmod_eq_emod_of_nonneg (by assumption)];done)|(simp only [← hji23] <;> (first|rfl|simp))|(simp [*];done),by repeat (first|exact Drawn0.refl _|apply Drawn0.step)⟩
              ·rw [if_neg c25] at H
               exact absurd H (by simp)
             ·rw [if_neg c24] at H
              exact absurd H (by simp)
            ·rw [if_neg c22] at H
             have c22b0 : decide (1 < t198) = false := decide_eq_false c22
             clear c22
             simp only [Option.some.injEq,Prod.mk.injEq] at H
             obtain ⟨rfl,rfl,rfl⟩ := H
             go_wp2
             go_ret3
             exact ⟨by first|rfl|(simp;done)|(simp [*];done),by repeat (first|exact Drawn0.refl _|apply Drawn0.step)⟩
     ·rw [if_neg c7] at H
      exact absurd H (by simp)
    ·rw [if_neg c6] at H
     exact absurd H (by simp)

/-! ### varint_GetList: function 45 -/
mutual
def varint_GetList.l0 : Nat → List Int → Int → List Int → Int → Int → Int → Option (List Int × Int × Int)
|0,_,_,_,_,_,_ => none
|k + 1,x0,x10,x12,x13,x31,x32 => if x32 < x31 then ((varint_Get.f k x0 x10).bind fun bt204 => (if bt204.2.2 = 0 then (if x32 > 0 then (varint_GetList.j1 k x0 x12 x13 bt204.1 bt204.2.1 x31 x32 (bt204.1 == 0)) else (varint_GetList.j1 k x0 x12 x13 bt204.1 bt204.2.1 x31 x32 false)) else (some (([] : List Int),0,bt204.2.2)))) else (some (x12,x10,0))
def varint_GetList.j1 : Nat → List Int → List Int → Int → Int → Int → Int → Int → Bool → Option (List Int × Int × Int)
|0,_,_,_,_,_,_,_,_ => none
|k + 1,x0,x12,x13,x15,x16,x31,x32,x50 => if x50 = true then (some (([] : List Int),0,3)) else (if x15 > (wrap64 (4611686018427387904 - x13)) then (some (([] : List Int),0,4)) else (if x12.length < 17592186044416 then (varint_GetList.l0 k x0 x16 (x12 ++ [wrap64 (x13 + x15)]) (wrap64 (x13 + x15)) x31 (wrap64 (x32 + 1))) else (none)))
end
def varint_GetList.f (k : Nat) (l0 : List Int) (a1 : Int) (a2 : Int) : Option (List Int × Int × Int) := (varint_Get.f k l0 a1).bind fun bt201 => (if bt201.2.2 = 0 then (if bt201.1 > a2 then (some (([] : List Int), 0, 4)) else (varint_GetList.l0 k l0 bt201.2.1 ([] : List Int) 0 bt201.1 0)) else (some (([] : List Int), 0, bt201.2.2)))
theorem varint_GetList.mono_l : ∀ k, (∀ y0 y1 y2 y3 y4 y5, LeO (varint_GetList.l0 k y0 y1 y2 y3 y4 y5) (varint_GetList.l0 (k + 1) y0 y1 y2 y3 y4 y5)) ∧ (∀ y0 y1 y2 y3 y4 y5 y6 y7, LeO (varint_GetList.j1 k y0 y1 y2 y3 y4 y5 y6 y7) (varint_GetList.j1 (k + 1) y0 y1 y2 y3 y4 y5 y6 y7))
|0 => ⟨fun _ _ _ _ _ _ r h => by simp [varint_GetList.l0] at h,fun _ _ _ _ _ _ _ _ r h => by simp [varint_GetList.j1] at h⟩
|k + 1 => by
  obtain ⟨ih0,ih1⟩ := varint_GetList.mono_l k
  refine ⟨?_,?_⟩
  ·intro y0 y1 y2 y3 y4 y5
   unfold varint_GetList.l0
   repeat' first
  |(with_reducible exact ih0 _ _ _ _ _ _)
  |(with_reducible exact ih1 _ _ _ _ _ _ _ _)
  |(with_reducible exact varint_Get.mono _ _ _)
  |(with_reducible exact LeO.refl _)
  |(with_reducible exact LeO.none _)
  |(with_reducible refine LeO.ite ?_ ?_)
  |(with_reducible refine LeO.bind ?_ (fun _ => ?_))
  |exact ih0 _ _ _ _ _ _
  |exact ih1 _ _ _ _ _ _ _ _
  |exact varint_Get.mono _ _ _
  |exact LeO.none _
  |refine LeO.ite ?_ ?_
  |refine LeO.bind ?_ (fun _ => ?_)
  ·intro y0 y1 y2 y3 y4 y5 y6 y7
   unfold varint_GetList.j1
   repeat' first
  |(with_reducible exact ih0 _ _ _ _ _ _)
  |(with_reducible exact ih1 _ _ _ _ _ _ _ _)
  |(with_reducible exact varint_Get.mono _ _ _)
  |(with_reducible exact LeO.refl _)
  |(with_reducible exact LeO.none _)
  |(with_reducible refine LeO.ite ?_ ?_)
  |(with_reducible refine LeO.bind ?_ (fun _ => ?_))
  |exact ih0 _ _ _ _ _ _
  |exact ih1 _ _ _ _ _ _ _ _
  |exact varint_Get.mono _ _ _
  |exact LeO.none _
  |refine LeO.ite ?_ ?_
  |refine LeO.bind ?_ (fun _ => ?_)
theorem varint_GetList.mono : ∀ a0 a1 a2 k, LeO (varint_GetList.f k a0 a1 a2) (varint_GetList.f (k + 1) a0 a1 a2) := by
 intro a0 a1 a2 k
 obtain ⟨ih0,ih1⟩ := varint_GetList.mono_l k
 unfold varint_GetList.f
 repeat' first
  |(with_reducible exact ih0 _ _ _ _ _ _)
  |(with_reducible exact ih1 _ _ _ _ _ _ _ _)
  |(with_reducible exact varint_Get.mono _ _ _)
  |(with_reducible exact LeO.refl _)
  |(with_reducible exact LeO.none _)
  |(with_reducible refine LeO.ite ?_ ?_)
  |(with_reducible refine LeO.bind ?_ (fun _ => ?_))
  |exact ih0 _ _ _ _ _ _
  |exact ih1 _ _ _ _ _ _ _ _
  |exact varint_Get.mono _ _ _
  |exact LeO.none _
  |refine LeO.ite ?_ ?_
  |refine LeO.bind ?_ (fun _ => ?_)
set_option maxHeartbeats 4000000 in
set_option maxRecDepth 100000 in
theorem varint_GetList.calls (k : Nat) (A0 : Option Addr) (c0 : Nat) (l0 : List Int) (a1 : Int) (a2 : Int) (r1 : List Int) (r2 : Int) (r3 : Int) (w : World) (hr0 : Kd.C (Kd.int .u8) w A0 l0.length l0) (hc0 : l0.length ≤ c0) (h : varint_GetList.f k l0 a1 a2 = some (r1, r2, r3)) :
  Calls Try.prog 45 #[.slice A0 l0.length c0,.int .i64 a1,.int .i64 a2] w fun e w' => ∃ v0_ : Value,e = .returned (.tuple #[v0_,.int .i64 r2,.int .i64 r3]) ∧ Kd.R (Kd.int .i64) 3 w' w.heap.size (fun _ => True) v0_ r1 ∧ Below w.heap.size w w' := by
 have HR0 := Aside0.mk hr0
 have HC0 := Aside0.mk hc0
 clear hr0 hc0
 have HB := Aside0.mk (Below.refl w.heap.size w)
 have H : ((varint_Get.f k l0 a1).bind fun bt201 => (if bt201.2.2 = 0 then (if bt201.1 > a2 then (some (([] : List Int),0,4)) else (varint_GetList.l0 k l0 bt201.2.1 ([] : List Int) 0 bt201.1 0)) else (some (([] : List Int),0,bt201.2.2)))) = some (r1,r2,r3) := h
 clear h
 replace H := Option.bind_eq_some_iff.mp H
 obtain ⟨⟨t201,t202,t203⟩,A40,H⟩ := H
 replace H : (if t203 = 0 then (if t201 > a2 then (some (([] : List Int),0,4)) else (varint_GetList.l0 k l0 t202 ([] : List Int) 0 t201 0)) else (some (([] : List Int),0,t203))) = some (r1,r2,r3) := H
 have A4 := Aside0.mk A40
 clear A40
 by_cases c5 : t203 = 0
 ·rw [if_pos c5] at H
  have c5b0 : (t203 == 0) = true := beq_iff_eq.mpr c5
  have c5b1 : (t203 != 0) = false := bne_eq_false_iff_eq.mpr c5
  clear c5
  by_cases c6 : t201 > a2
  ·rw [if_pos c6] at H
   have c6b0 : decide (a2 < t201) = true := decide_eq_true c6
   clear c6
   simp only [Option.some.injEq,Prod.mk.injEq] at H
   obtain ⟨rfl,rfl,rfl⟩ := H
   go_enter Try.func45,Try.ntmps45
   go_wp2_with (first|((with_reducible refine gate_callee (f := 44) rfl ?_);refine goesL_ (some 21) rfl rfl Try.func44 (by kernel_rfl) rfl #[.slice A0 l0.length c0,.int .i64 a1] rfl (by (try simp only [List.map_toArray,List.map_cons,List.map_nil]);first|done|rfl|(simp only [List.length_drop,List.length_take];rfl)) ?_;(with_reducible refine (varint_Get.calls k _ _ l0 a1 t201 t202 t203 _ ?side1 ?side2 A4.out).mono ?_);(case side1 => exact cM HR0.out);(case side2 => exact HC0.out);rintro e w' ⟨rfl,⟨nd,rfl⟩⟩;refine ⟨_,rfl,?_⟩))
   go_ret3
   exact ⟨_,by first|rfl|(simp [errW_none,errW_some] <;> rfl)|(simp [*,errW_none,errW_some] <;> rfl),by first|exact Kd.R_nil _ _ _ _ _|exact Kd.N_nil _ _ _ _ _|exact Kd.V_nil _ _ _ _ _|exact Kd.Q_nil _ _ _ _ _|exact Kd.S_nil _ _ _ _ _,bM HB.out⟩
  ·rw [if_neg c6] at H
   have c6b0 : decide (a2 < t201) = false := decide_eq_false c6
   clear c6
   have H' := Aside0.mk H
   clear H
   go_enter Try.func45,Try.ntmps45
   go_wp2_with (first|((with_reducible refine gate_callee (f := 44) rfl ?_);refine goesL_ (some 21) rfl rfl Try.func44 (by kernel_rfl) rfl #[.slice A0 l0.length c0,.int .i64 a1] rfl (by (try simp only [List.map_toArray,List.map_cons,List.map_nil]);first|done|rfl|(simp only [List.length_drop,List.length_take];rfl)) ?_;(with_reducible refine (varint_Get.calls k _ _ l0 a1 t201 t202 t203 _ ?side1 ?side2 A4.out).mono ?_);(case side1 => exact cM HR0.out);(case side2 => exact HC0.out);rintro e w' ⟨rfl,⟨nd,rfl⟩⟩;refine ⟨_,rfl,?_⟩))
   go_loopg [10,12,13,32] k (fun kq v10 v12 v13 v32 w' => ∃ (x10_1 : Int) (x12_1 : List Int) (x13_1 : Int) (x32_1 : Int),v10 = .int .i64 x10_1 ∧ v13 = .int .i64 x13_1 ∧ v32 = .int .i64 x32_1 ∧ Aside0 (varint_GetList.l0 kq l0 x10_1 x12_1 x13_1 t201 x32_1 = some (r1,r2,r3)) ∧ Aside0 (kq ≤ k) ∧ Aside0 (Kd.R (Kd.int .i64) 3 w' w.heap.size (fun _ => True) v12 x12_1) ∧ Aside0 (Below w.heap.size w w'))
   case atStart => exact ⟨(t202),(([] : List Int)),(0),(0),(by first|rfl|(simp;done)|(simp [*];done)),(by first|rfl|(simp;done)|(simp [*];done)),(by first|rfl|(simp;done)|(simp [*];done)),H',⟨Nat.le_refl _⟩,⟨by first|exact Kd.R_nil _ _ _ _ _|exact Kd.N_nil _ _ _ _ _|exact Kd.V_nil _ _ _ _ _|exact Kd.Q_nil _ _ _ _ _|exact Kd.S_nil _ _ _ _ _⟩,⟨bM HB.out⟩⟩
   case round =>
    clear H'
    try clear p2
    try clear c4
    try clear c5
    try clear c5b0
    try clear c5b1
    try clear c6
    try clear c6b0
    obtain ⟨x10_1,x12_1,x13_1,x32_1,rfl,rfl,rfl,HA,HK1,HO_12,HB⟩ := hrel
    cases gk with
   |zero => exact absurd HA.out (by simp [varint_GetList.l0])
   |succ k1 =>
     have H := HA.out
     clear HA
     simp only [varint_GetList.l0] at H
     by_cases c7 : x32_1 < t201
     ·rw [if_pos c7] at H
      have c7b0 : decide (x32_1 < t201) = true := decide_eq_true c7
      clear c7
      replace H := Option.bind_eq_some_iff.mp H
      obtain ⟨⟨t204,t205,t206⟩,A80,H⟩ := H
      replace H : (if t206 = 0 then (if x32_1 > 0 then (varint_GetList.j1 k1 l0 x12_1 x13_1 t204 t205 t201 x32_1 (t204 == 0)) else (varint_GetList.j1 k1 l0 x12_1 x13_1 t204 t205 t201 x32_1 false)) else (some (([] : List Int),0,t206))) = some (r1,r2,r3) := H
      have A8 := Aside0.mk A80
      clear A80
      by_cases c9 : t206 = 0
      ·rw [if_pos c9] at H
       have c9b0 : (t206 == 0) = true := beq_iff_eq.mpr c9
       have c9b1 : (t206 != 0) = false := bne_eq_false_iff_eq.mpr c9
       clear c9
       have HC10 := Aside0.mk H
       clear H
       go_upto_region 14 with (first|((with_reducible refine gate_callee (f := 44) rfl ?_);refine goesL_ (some 38) rfl rfl Try.func44 (by kernel_rfl) rfl #[.slice A0 l0.length c0,.int .i64 x10_1] rfl (by (try simp only [List.map_toArray,List.map_cons,List.map_nil]);first|done|rfl|(simp only [List.length_drop,List.length_take];rfl)) ?_;(with_reducible refine (varint_Get.calls k1 _ _ l0 x10_1 t204 t205 t206 _ ?side1 ?side2 A8.out).mono ?_);(case side1 => exact cM (Kd.C_below HR0.out HB.out));(case side2 => exact HC0.out);rintro e w' ⟨rfl,⟨nd,rfl⟩⟩;refine ⟨_,rfl,?_⟩))
       (try simp only [Act.put,List.setIfInBounds_toArray,List.set_cons_zero,List.set_cons_succ])
       go_cut [50] (fun v50 wc => ∃ (kq : Nat) (x50_9 : Bool),v50 = .bool x50_9 ∧ Aside0 (varint_GetList.j1 kq l0 x12_1 x13_1 t204 t205 t201 x32_1 x50_9 = some (r1,r2,r3)) ∧ Aside0 (kq ≤ k1) ∧ Aside0 (Kd.R (Kd.int .i64) 3 wc w.heap.size (fun _ => True) u12 x12_1) ∧ Aside0 (Below w.heap.size w wc))
       case first =>
        have H := HC10.out
        clear HC10
        by_cases c11 : x32_1 > 0
        ·rw [if_pos c11] at H
         have c11b0 : decide (0 < x32_1) = true := decide_eq_true c11
         clear c11
         (first|rw [c11b0]|(simp only [i64_w,i32_w];rw [c11b0])|skip)
         have H' := Aside0.mk H
         clear H
         go_wp2
         go_meet
         case rel => exact ⟨_,((t204 == 0)),(by first|rfl|(simp;done)|(simp [*];done)),H',⟨by have := HK1.out;first|omega|exact Nat.le_refl _⟩,⟨rM HO_12.out⟩,⟨bM HB.out⟩⟩
        ·rw [if_neg c11] at H
         have c11b0 : decide (0 < x32_1) = false := decide_eq_false c11
         clear c11
         (first|rw [c11b0]|(simp only [i64_w,i32_w];rw [c11b0])|skip)
         have H' := Aside0.mk H
         clear H
         go_wp2
         go_meet
         case rel => exact ⟨_,(false),(by first|rfl|(simp;done)|(simp [*];done)),H',⟨by have := HK1.out;first|omega|exact Nat.le_refl _⟩,⟨rM HO_12.out⟩,⟨bM HB.out⟩⟩
       case rest =>
        clear HC10
        try clear c1
        try clear p2
        try clear c4
        try clear c5
        try clear c5b0
        try clear c5b1
        try clear c6
        try clear c6b0
        try clear c7
        try clear c7b0
        try clear c9
        try clear c9b0
        try clear c9b1
        try clear c11
        try clear c11b0
        try clear p2
        obtain ⟨kq,x50_9,rfl,HA,HJ9,HO_12,HB⟩ := hcut
        cases kq with
       |zero => exact absurd HA.out (by simp [varint_GetList.j1])
       |succ kj9 =>
         have H := HA.out
         clear HA
         simp only [varint_GetList.j1] at H
         by_cases c12 : x50_9 = true
         ·subst c12
          have H1 : (some (([] : List Int),0,3)) = some (r1,r2,r3) := by rw [if_pos rfl] at H;exact H
          clear H
          have H := H1
          clear H1
          simp only [Option.some.injEq,Prod.mk.injEq] at H
          obtain ⟨rfl,rfl,rfl⟩ := H
          go_wp2
          go_ret3
          exact ⟨_,by first|rfl|(simp [errW_none,errW_some] <;> rfl)|(simp [*,errW_none,errW_some] <;> rfl),by first|exact Kd.R_nil _ _ _ _ _|exact Kd.N_nil _ _ _ _ _|exact Kd.V_nil _ _ _ _ _|exact Kd.Q_nil _ _ _ _ _|exact Kd.S_nil _ _ _ _ _,bM HB.out⟩
         ·replace c12 := Bool.eq_false_iff.mpr c12
          subst c12
          have H1 : (if t204 > (wrap64 (4611686018427387904 - x13_1)) then (some (([] : List Int),0,4)) else (if x12_1.length < 17592186044416 then (varint_GetList.l0 kj9 l0 t205 (x12_1 ++ [wrap64 (x13_1 + t204)]) (wrap64 (x13_1 + t204)) t201 (wrap64 (x32_1 + 1))) else (none))) = some (r1,r2,r3) := by rw [if_neg (show ¬ (false = true) by decide)] at H;exact H
          clear H
          have H := H1
          clear H1
          by_cases c13 : t204 > (wrap64 (4611686018427387904 - x13_1))
          ·rw [if_pos c13] at H
           have c13b0 : decide ((wrap64 (4611686018427387904 - x13_1)) < t204) = true := decide_eq_true c13
           clear c13
           simp only [Option.some.injEq,Prod.mk.injEq] at H
           obtain ⟨rfl,rfl,rfl⟩ := H
           go_wp2
           go_ret3
           exact ⟨_,by first|rfl|(simp [errW_none,errW_some] <;> rfl)|(simp [*,errW_none,errW_some] <;> rfl),by first|exact Kd.R_nil _ _ _ _ _|exact Kd.N_nil _ _ _ _ _|exact Kd.V_nil _ _ _ _ _|exact Kd.Q_nil _ _ _ _ _|exact Kd.S_nil _ _ _ _ _,bM HB.out⟩
          ·rw [if_neg c13] at H
           have c13b0 : decide ((wrap64 (4611686018427387904 - x13_1)) < t204) = false := decide_eq_false c13
           clear c13
           by_cases c14 : x12_1.length < 17592186044416
           ·rw [if_pos c14] at H
            have LMc14 := Aside0.mk c14
            clear c14
            obtain ⟨y207,hy207⟩ : ∃ y_ : List Int,y_ = (x12_1 ++ [wrap64 (x13_1 + t204)]) := ⟨_,rfl⟩
            replace H : (varint_GetList.l0 kj9 l0 t205 y207 (wrap64 (x13_1 + t204)) t201 (wrap64 (x32_1 + 1))) = some (r1,r2,r3) := by first|(rw [hy207];with_reducible exact H)|(have H2_ := (Option.bind_some _ _).symm.trans H;rw [hy207];with_reducible exact H2_)|(have H2_ := (Option.bind_some _ _).symm.trans H;with_reducible exact H2_)|with_reducible exact H|(rw [hy207];exact H)|exact H
            have Ny207 := Aside0.mk hy207
            clear hy207
            have H' := Aside0.mk H
            clear H
            go_wp2_with (first|((with_reducible refine gate_builtin (b := .append) (xs := #[.tmp 58,.tmp 60]) rfl ?_);at_builtin;refine Kd.R_append (Kd.int .i64) (w0 := w) w.heap.size rfl (.tmp 58) (.tmp 60) 22 3 (.int .i64 0) 8 rfl Try.underlying22 info3 rfl (by decide) (by omega) u12 x12_1 (wrap64 (x13_1 + t204)) [.int .i64 (wrap64 (x13_1 + t204))] (fun _ => True) (fun _ => False) rfl rfl ?aP (fun _ hk => hk.elim) ?aF ?aO ?aB ?aS ?aL ?_;(case aP => exact rfl);(case aB => exact (bM HB.out));(case aF => exact (fun _ _ => trivial));(case aO => exact (rM HO_12.out));(case aS => exact (below_size (bM HB.out)));(case aL => have := LMc14.out;omega);intro v208 w15 ho hb hg hat;rw [← Ny207.out] at ho;have n0_ := Aside0.mk (hb);have n1_ := Aside0.mk (ho);clear HB;clear HO_12;have HB := n0_;have HO209 := n1_;clear n0_ n1_;clear ho hb hg hat))
            go_roundg kj9
            case measure => have := HK1.out;have := HJ9.out;omega
            case rel => exact ⟨(t205),(y207),(wrap64 (x13_1 + t204)),(wrap64 (x32_1 + 1)),(by first|rfl|(simp;done)|(simp [*];done)),(by first|rfl|(simp;done)|(simp [*];done)),(by first|rfl|(simp;done)|(simp [*];done)),H',⟨by have := HK1.out;have := HJ9.out;omega⟩,⟨rM HO209.out⟩,⟨bM HB.out⟩⟩
           ·rw [if_neg c14] at H
            exact absurd H (by simp)
      ·rw [if_neg c9] at H
       have c9b0 : (t206 == 0) = false := beq_eq_false_iff_ne.mpr c9
       have c9b1 : (t206 != 0) = true := bne_iff_ne.mpr c9
       simp only [Option.some.injEq,Prod.mk.injEq] at H
       obtain ⟨rfl,rfl,rfl⟩ := H
       go_wp2_with (first|((with_reducible refine gate_callee (f := 44) rfl ?_);refine goesL_ (some 38) rfl rfl Try.func44 (by kernel_rfl) rfl #[.slice A0 l0.length c0,.int .i64 x10_1] rfl (by (try simp only [List.map_toArray,List.map_cons,List.map_nil]);first|done|rfl|(simp only [List.length_drop,List.length_take];rfl)) ?_;(with_reducible refine (varint_Get.calls k1 _ _ l0 x10_1 t204 t205 t206 _ ?side1 ?side2 A8.out).mono ?_);(case side1 => exact cM (Kd.C_below HR0.out HB.out));(case side2 => exact HC0.out);rintro e w' ⟨rfl,⟨nd,rfl⟩⟩;refine ⟨_,rfl,?_⟩))
       go_ret3
       exact ⟨_,by first|rfl|(simp [errW_none,errW_some] <;> rfl)|(simp [*,errW_none,errW_some] <;> rfl),by first|exact Kd.R_nil _ _ _ _ _|exact Kd.N_nil _ _ _ _ _|exact Kd.V_nil _ _ _ _ _|exact Kd.Q_nil _ _ _ _ _|exact Kd.S_nil _ _ _ _ _,bM HB.out⟩
     ·rw [if_neg c7] at H
      have c7b0 : decide (x32_1 < t201) = false := decide_eq_false c7
      clear c7
      simp only [Option.some.injEq,Prod.mk.injEq] at H
      obtain ⟨rfl,rfl,rfl⟩ := H
      go_wp2
      go_ret3
      exact ⟨_,by first|rfl|(simp [errW_none,errW_some] <;> rfl)|(simp [*,errW_none,errW_some] <;> rfl),rM HO_12.out,bM HB.out⟩
 ·rw [if_neg c5] at H
  have c5b0 : (t203 == 0) = false := beq_eq_false_iff_ne.mpr c5
  have c5b1 : (t203 != 0) = true := bne_iff_ne.mpr c5
  simp only [Option.some.injEq,Prod.mk.injEq] at H
  obtain ⟨rfl,rfl,rfl⟩ := H
  go_enter Try.func45,Try.ntmps45
  go_wp2_with (first|((with_reducible refine gate_callee (f := 44) rfl ?_);refine goesL_ (some 21) rfl rfl Try.func44 (by kernel_rfl) rfl #[.slice A0 l0.length c0,.int .i64 a1] rfl (by (try simp only [List.map_toArray,List.map_cons,List.map_nil]);first|done|rfl|(simp only [List.length_drop,List.length_take];rfl)) ?_;(with_reducible refine (varint_Get.calls k _ _ l0 a1 t201 t202 t203 _ ?side1 ?side2 A4.out).mono ?_);(case side1 => exact cM HR0.out);(case side2 => exact HC0.out);rintro e w' ⟨rfl,⟨nd,rfl⟩⟩;refine ⟨_,rfl,?_⟩))
  go_ret3
  exact ⟨_,by first|rfl|(simp [errW_none,errW_some] <;> rfl)|(simp [*,errW_none,errW_some] <;> rfl),by first|exact Kd.R_nil _ _ _ _ _|exact Kd.N_nil _ _ _ _ _|exact Kd.V_nil _ _ _ _ _|exact Kd.Q_nil _ _ _ _ _|exact Kd.S_nil _ _ _ _ _,bM HB.out⟩

end Go.Proofs.Ytknpmknkkofnjaa.P
