-- Written by hp.py, a program of this session, over the kit's print of the translation. Not trusted: Lean checks it.
import Derived.Test.YtknpmknkkofnjaaPx0
import Derived.Test.YtknpmknkkofnjaaPx2
namespace Go.Proofs.Ytknpmknkkofnjaa.P
open Go.RowKit Go.Proofs.YtknpmknkkofnjaaW.PrintWords Go.Proofs.YtknpmknkkofnjaaW.PrintLast Go.Proofs.YtknpmknkkofnjaaW.PrintMore
attribute [local go_sem] max2_int min2_int max_two min_two max_three min_three max_four min_four   -- for this text's walks alone
set_option linter.unusedVariables false
set_option linter.unusedSimpArgs false

/-! ### varint_PutList: function 40 -/
mutual
def varint_PutList.l0 : Nat → List Int → List Int → Int → Int → Option (List Int × Int)
|0,_,_,_,_ => none
|k + 1,x0,x1,x11,x12 => if x12 < x11 then (if 0 ≤ x12 then (if x12 < (x1.length : Int) then (if (rd x1 x12) < 0 then (some (([] : List Int),1)) else (if x12 > 0 then (if 0 ≤ (wrap64 (x12 - 1)) then (if (wrap64 (x12 - 1)) < (x1.length : Int) then (if (rd x1 (wrap64 (x12 - 1))) ≥ (rd x1 x12) then (some (([] : List Int),1)) else (varint_PutList.l0 k x0 x1 x11 (wrap64 (x12 + 1)))) else (none)) else (none)) else (varint_PutList.l0 k x0 x1 x11 (wrap64 (x12 + 1))))) else (none)) else (none)) else ((varint_Put.f x0 (x1.length : Int)).bind fun t153 => (varint_PutList.l1 k x1 t153 0 (x1.length : Int) 0))
def varint_PutList.l1 : Nat → List Int → List Int → Int → Int → Int → Option (List Int × Int)
|0,_,_,_,_,_ => none
|k + 1,x1,x7,x8,x42,x43 => if x43 < x42 then (if 0 ≤ x43 then (if x43 < (x1.length : Int) then ((varint_Put.f x7 (wrap64 ((rd x1 x43) - x8))).bind fun t157 => (varint_PutList.l1 k x1 t157 (rd x1 x43) x42 (wrap64 (x43 + 1)))) else (none)) else (none)) else (some (x7,0))
end
def varint_PutList.f (k : Nat) (l0 : List Int) (l1 : List Int) : Option (List Int × Int) := varint_PutList.l0 k l0 l1 (l1.length : Int) 0
theorem varint_PutList.mono_l : ∀ k, (∀ y0 y1 y2 y3, LeO (varint_PutList.l0 k y0 y1 y2 y3) (varint_PutList.l0 (k + 1) y0 y1 y2 y3)) ∧ (∀ y0 y1 y2 y3 y4, LeO (varint_PutList.l1 k y0 y1 y2 y3 y4) (varint_PutList.l1 (k + 1) y0 y1 y2 y3 y4))
|0 => ⟨fun _ _ _ _ r h => by simp [varint_PutList.l0] at h,fun _ _ _ _ _ r h => by simp [varint_PutList.l1] at h⟩
|k + 1 => by
  obtain ⟨ih0,ih1⟩ := varint_PutList.mono_l k
  refine ⟨?_,?_⟩
  ·intro y0 y1 y2 y3
   unfold varint_PutList.l0
   repeat' first
  |(with_reducible exact ih0 _ _ _ _)
  |(with_reducible exact ih1 _ _ _ _ _)
  |(with_reducible exact LeO.refl _)
  |(with_reducible exact LeO.none _)
  |(with_reducible refine LeO.ite ?_ ?_)
  |(with_reducible refine LeO.bind ?_ (fun _ => ?_))
  |exact ih0 _ _ _ _
  |exact ih1 _ _ _ _ _
  |exact LeO.none _
  |refine LeO.ite ?_ ?_
  |refine LeO.bind ?_ (fun _ => ?_)
  ·intro y0 y1 y2 y3 y4
   unfold varint_PutList.l1
   repeat' first
  |(with_reducible exact ih0 _ _ _ _)
  |(with_reducible exact ih1 _ _ _ _ _)
  |(with_reducible exact LeO.refl _)
  |(with_reducible exact LeO.none _)
  |(with_reducible refine LeO.ite ?_ ?_)
  |(with_reducible refine LeO.bind ?_ (fun _ => ?_))
  |exact ih0 _ _ _ _
  |exact ih1 _ _ _ _ _
  |exact LeO.none _
  |refine LeO.ite ?_ ?_
  |refine LeO.bind ?_ (fun _ => ?_)
theorem varint_PutList.mono : ∀ a0 a1 k, LeO (varint_PutList.f k a0 a1) (varint_PutList.f (k + 1) a0 a1) := by
 intro a0 a1 k
 obtain ⟨ih0,ih1⟩ := varint_PutList.mono_l k
 unfold varint_PutList.f
 repeat' first
  |(with_reducible exact ih0 _ _ _ _)
  |(with_reducible exact ih1 _ _ _ _ _)
  |(with_reducible exact LeO.refl _)
  |(with_reducible exact LeO.none _)
  |(with_reducible refine LeO.ite ?_ ?_)
  |(with_reducible refine LeO.bind ?_ (fun _ => ?_))
  |exact ih0 _ _ _ _
  |exact ih1 _ _ _ _ _
  |exact LeO.none _
  |refine LeO.ite ?_ ?_
  |refine LeO.bind ?_ (fun _ => ?_)
set_option maxHeartbeats 4000000 in
set_option maxRecDepth 100000 in
theorem varint_PutList.calls (k : Nat) (A0 : Option Addr) (c0 : Nat) (l0 : List Int) (A1 : Option Addr) (c1 : Nat) (l1 : List Int) (r1 : List Int) (r2 : Int) (w : World) (hr0 : Kd.C (Kd.int .u8) w A0 l0.length l0) (hc0 : l0.length ≤ c0) (hr1 : Kd.C (Kd.int .i64) w A1 l1.length l1) (hc1 : l1.length ≤ c1) (h : varint_PutList.f k l0 l1 = some (r1, r2)) :
  Calls Try.prog 40 #[.slice A0 l0.length c0,.slice A1 l1.length c1] w fun e w' => ∃ v0_ : Value,e = .returned (.tuple #[v0_,.int .i64 r2]) ∧ Kd.R (Kd.int .u8) 5 w' w.heap.size (fun _ => True) v0_ r1 ∧ Below w.heap.size w w' := by
 have HR0 := Aside0.mk hr0
 have HC0 := Aside0.mk hc0
 clear hr0 hc0
 have HR1 := Aside0.mk hr1
 have HC1 := Aside0.mk hc1
 clear hr1 hc1
 have HB := Aside0.mk (Below.refl w.heap.size w)
 have H : (varint_PutList.l0 k l0 l1 (l1.length : Int) 0) = some (r1,r2) := h
 clear h
 have H' := Aside0.mk H
 clear H
 go_enter Try.func40,Try.ntmps40
 go_wp2
 repeat (go_quiet (fail);try go_wp2)
 go_loopg [12] k (fun kq v12 w' => ∃ (x12_1 : Int),v12 = .int .i64 x12_1 ∧ Aside0 (varint_PutList.l0 kq l0 l1 (l1.length : Int) x12_1 = some (r1,r2)) ∧ Aside0 (kq ≤ k) ∧ Aside0 (Below w.heap.size w w'))
 case atStart => exact ⟨(0),(by first|rfl|(simp;done)|(simp [*];done)),H',⟨Nat.le_refl _⟩,⟨bM HB.out⟩⟩
 case round =>
  clear H'
  try clear c1
  try clear p2
  obtain ⟨x12_1,rfl,HA,HK1,HB⟩ := hrel
  cases gk with
 |zero => exact absurd HA.out (by simp [varint_PutList.l0])
 |succ k1 =>
   have H := HA.out
   clear HA
   simp only [varint_PutList.l0] at H
   by_cases c3 : x12_1 < (l1.length : Int)
   ·rw [if_pos c3] at H
    have c3b0 : decide (x12_1 < (l1.length : Int)) = true := decide_eq_true c3
    clear c3
    by_cases c4 : 0 ≤ x12_1
    ·rw [if_pos c4] at H
     have c4b0 : decide (0 ≤ x12_1) = true := decide_eq_true c4
     clear c4
     by_cases c5 : x12_1 < (l1.length : Int)
     ·rw [if_pos c5] at H
      have c5b0 : decide (x12_1 < (l1.length : Int)) = true := decide_eq_true c5
      clear c5
      by_cases c6 : (rd l1 x12_1) < 0
      ·rw [if_pos c6] at H
       have c6b0 : decide ((rd l1 x12_1) < 0) = true := decide_eq_true c6
       clear c6
       simp only [Option.some.injEq,Prod.mk.injEq] at H
       obtain ⟨rfl,rfl⟩ := H
       have p150 : 0 ≤ (x12_1 : Int) := of_decide_eq_true (by first|(with_reducible assumption)|assumption)
       have q150 : x12_1 < (l1.length : Int) := of_decide_eq_true (by first|(with_reducible assumption)|assumption)
       obtain ⟨ad150,e150,hx150_0⟩ := Kd.at_int HR1.out x12_1 p150 q150
       cases e150
       replace hx150_0 := (HB.out.cell (World.block_lt_of_cell? w _ hx150_0)).trans hx150_0
       replace p150 := eq_true p150
       replace q150 := eq_true q150
       go_wp2
       repeat (go_quiet (fail);try go_wp2)
       go_ret2
       exact ⟨_,by first|rfl|(simp [errW_none,errW_some] <;> rfl)|(simp [*,errW_none,errW_some] <;> rfl),by first|exact Kd.R_nil _ _ _ _ _|exact Kd.N_nil _ _ _ _ _|exact Kd.V_nil _ _ _ _ _|exact Kd.Q_nil _ _ _ _ _|exact Kd.S_nil _ _ _ _ _,bM HB.out⟩
      ·rw [if_neg c6] at H
       have c6b0 : decide ((rd l1 x12_1) < 0) = false := decide_eq_false c6
       clear c6
       by_cases c7 : x12_1 > 0
       ·rw [if_pos c7] at H
        have c7b0 : decide (0 < x12_1) = true := decide_eq_true c7
        clear c7
        obtain ⟨ji8,hji8⟩ : ∃ j_ : Int,(wrap64 (x12_1 - 1)) = j_ := ⟨_,rfl⟩
        replace H : (if 0 ≤ (ji8) then (if (ji8) < (l1.length : Int) then (if (rd l1 (ji8)) ≥ (rd l1 x12_1) then (some (([] : List Int),1)) else (varint_PutList.l0 k1 l0 l1 (l1.length : Int) (wrap64 (x12_1 + 1)))) else (none)) else (none)) = some (r1,r2) := by first|(rw [hji8] at H;exact H)|(simp only [hji8] at H ⊢;exact H)
        have hji8w : (IntKind.i64.wrap (x12_1 - 1)) = ji8 := (i64_w _).trans hji8
        by_cases c9 : 0 ≤ (ji8)
        ·rw [if_pos c9] at H
         have c9b0 : decide (0 ≤ (ji8)) = true := decide_eq_true c9
         clear c9
         by_cases c10 : (ji8) < (l1.length : Int)
         ·rw [if_pos c10] at H
          have c10b0 : decide ((ji8) < (l1.length : Int)) = true := decide_eq_true c10
          clear c10
          by_cases c11 : (rd l1 (ji8)) ≥ (rd l1 x12_1)
          ·rw [if_pos c11] at H
           have c11b0 : decide ((rd l1 x12_1) ≤ (rd l1 (ji8))) = true := decide_eq_true c11
           clear c11
           simp only [Option.some.injEq,Prod.mk.injEq] at H
           obtain ⟨rfl,rfl⟩ := H
           have p150 : 0 ≤ (x12_1 : Int) := of_decide_eq_true (by first|(with_reducible assumption)|assumption)
           have q150 : x12_1 < (l1.length : Int) := of_decide_eq_true (by first|(with_reducible assumption)|assumption)
           obtain ⟨ad150,e150,hx150_0⟩ := Kd.at_int HR1.out x12_1 p150 q150
           cases e150
           replace hx150_0 := (HB.out.cell (World.block_lt_of_cell? w _ hx150_0)).trans hx150_0
           replace p150 := eq_true p150
           replace q150 := eq_true q150
           have p151 : 0 ≤ ((ji8) : Int) := of_decide_eq_true (by first|(with_reducible assumption)|assumption)
           have q151 : (ji8) < (l1.length : Int) := of_decide_eq_true (by first|(with_reducible assumption)|assumption)
           obtain ⟨ad151,e151,hx151_0⟩ := Kd.at_int HR1.out (ji8) p151 q151
           obtain rfl : ad150 = ad151 := (by injection e151)
           replace hx151_0 := (HB.out.cell (World.block_lt_of_cell? w _ hx151_0)).trans hx151_0
           replace p151 := eq_true p151
           replace q151 := eq_true q151
           have p152 : 0 ≤ (x12_1 : Int) := of_decide_eq_true (by first|(with_reducible assumption)|assumption)
           have q152 : x12_1 < (l1.length : Int) := of_decide_eq_true (by first|(with_reducible assumption)|assumption)
           obtain ⟨ad152,e152,hx152_0⟩ := Kd.at_int HR1.out x12_1 p152 q152
           obtain rfl : ad150 = ad152 := (by injection e152)
           replace hx152_0 := (HB.out.cell (World.block_lt_of_cell? w _ hx152_0)).trans hx152_0
           replace p152 := eq_true p152
           replace q152 := eq_true q152
           go_wp2
           repeat (go_quiet (fail);try go_wp2)
           go_ret2
           exact ⟨_,by first|rfl|(simp [errW_none,errW_some] <;> rfl)|(simp only [← hji8];first|rfl|(simp [errW_none,errW_some] <;> rfl))|(simp [*,errW_none,errW_some] <;> rfl),by first|exact Kd.R_nil _ _ _ _ _|exact Kd.N_nil _ _ _ _ _|exact Kd.V_nil _ _ _ _ _|exact Kd.Q_nil _ _ _ _ _|exact Kd.S_nil _ _ _ _ _,bM HB.out⟩
          ·rw [if_neg c11] at H
           have c11b0 : decide ((rd l1 x12_1) ≤ (rd l1 (ji8))) = false := decide_eq_false c11
           clear c11
           have H' := Aside0.mk H
           clear H
           have p150 : 0 ≤ (x12_1 : Int) := of_decide_eq_true (by first|(with_reducible assumption)|assumption)
           have q150 : x12_1 < (l1.length : Int) := of_decide_eq_true (by first|(with_reducible assumption)|assumption)
           obtain ⟨ad150,e150,hx150_0⟩ := Kd.at_int HR1.out x12_1 p150 q150
           cases e150
           replace hx150_0 := (HB.out.cell (World.block_lt_of_cell? w _ hx150_0)).trans hx150_0
           replace p150 := eq_true p150
           replace q150 := eq_true q150
           have p151 : 0 ≤ ((ji8) : Int) := of_decide_eq_true (by first|(with_reducible assumption)|assumption)
           have q151 : (ji8) < (l1.length : Int) := of_decide_eq_true (by first|(with_reducible assumption)|assumption)
           obtain ⟨ad151,e151,hx151_0⟩ := Kd.at_int HR1.out (ji8) p151 q151
           obtain rfl : ad150 = ad151 := (by injection e151)
           replace hx151_0 := (HB.out.cell (World.block_lt_of_cell? w _ hx151_0)).trans hx151_0
           replace p151 := eq_true p151
           replace q151 := eq_true q151
           have p152 : 0 ≤ (x12_1 : Int) := of_decide_eq_true (by first|(with_reducible assumption)|assumption)
           have q152 : x12_1 < (l1.length : Int) := of_decide_eq_true (by first|(with_reducible assumption)|assumption)
           obtain ⟨ad152,e152,hx152_0⟩ := Kd.at_int HR1.out x12_1 p152 q152
           obtain rfl : ad150 = ad152 := (by injection e152)
           replace hx152_0 := (HB.out.cell (World.block_lt_of_cell? w _ hx152_0)).trans hx152_0
           replace p152 := eq_true p152
           replace q152 := eq_true q152
           go_wp2
           repeat (go_quiet (fail);try go_wp2)
           go_roundg k1
           case measure => have := HK1.out;omega
           case rel => exact ⟨(wrap64 (x12_1 + 1)),(by first|rfl|(simp;done)|(simp [*];done)),H',⟨by have := HK1.out;omega⟩,⟨bM HB.out⟩⟩
         ·rw [if_neg c10] at H
          exact absurd H (by simp)
        ·rw [if_neg c9] at H
         exact absurd H (by simp)
       ·rw [if_neg c7] at H
        have c7b0 : decide (0 < x12_1) = false := decide_eq_false c7
        clear c7
        have H' := Aside0.mk H
        clear H
        have p150 : 0 ≤ (x12_1 : Int) := of_decide_eq_true (by first|(with_reducible assumption)|assumption)
        have q150 : x12_1 < (l1.length : Int) := of_decide_eq_true (by first|(with_reducible assumption)|assumption)
        obtain ⟨ad150,e150,hx150_0⟩ := Kd.at_int HR1.out x12_1 p150 q150
        cases e150
        replace hx150_0 := (HB.out.cell (World.block_lt_of_cell? w _ hx150_0)).trans hx150_0
        replace p150 := eq_true p150
        replace q150 := eq_true q150
        go_wp2
        repeat (go_quiet (fail);try go_wp2)
        go_roundg k1
        case measure => have := HK1.out;omega
        case rel => exact ⟨(wrap64 (x12_1 + 1)),(by first|rfl|(simp;done)|(simp [*];done)),H',⟨by have := HK1.out;omega⟩,⟨bM HB.out⟩⟩
     ·rw [if_neg c5] at H
      exact absurd H (by simp)
    ·rw [if_neg c4] at H
     exact absurd H (by simp)
   ·rw [if_neg c3] at H
    have c3b0 : decide (x12_1 < (l1.length : Int)) = false := decide_eq_false c3
    clear c3
    replace H := Option.bind_eq_some_iff.mp H
    obtain ⟨t153,A120,H⟩ := H
    replace H : (varint_PutList.l1 k1 l1 t153 0 (l1.length : Int) 0) = some (r1,r2) := H
    have A12 := Aside0.mk A120
    clear A120
    have H' := Aside0.mk H
    clear H
    go_wp2_with (first|(go_at_call 39;(with_reducible refine (varint_Put.calls _ _ l0 (l1.length : Int) t153 _ ?side1 ?side2 A12.out).mono ?_);(case side1 => exact cM (Kd.C_below HR0.out HB.out));(case side2 => exact HC0.out);rintro e w13 ⟨v154,rfl,ho0,hb⟩;have n0_ := Aside0.mk (Kd.R_lower ho0 (below_size (bM HB.out)));have n1_ := Aside0.mk (below_step (bM HB.out) hb);clear HB;have HO155 := n0_;have HB := n1_;clear n0_ n1_;(try clear hb);(try clear hb2);(try clear hk);(try clear hi);(try clear ho0)))
    repeat (go_quiet (first|(go_at_call 39;(with_reducible refine (varint_Put.calls _ _ l0 (l1.length : Int) t153 _ ?side1 ?side2 A12.out).mono ?_);(case side1 => exact cM (Kd.C_below HR0.out HB.out));(case side2 => exact HC0.out);rintro e w13 ⟨v154,rfl,ho0,hb⟩;have n0_ := Aside0.mk (Kd.R_lower ho0 (below_size (bM HB.out)));have n1_ := Aside0.mk (below_step (bM HB.out) hb);clear HB;have HO155 := n0_;have HB := n1_;clear n0_ n1_;(try clear hb);(try clear hb2);(try clear hk);(try clear hi);(try clear ho0)));try go_wp2_with (first|(go_at_call 39;(with_reducible refine (varint_Put.calls _ _ l0 (l1.length : Int) t153 _ ?side1 ?side2 A12.out).mono ?_);(case side1 => exact cM (Kd.C_below HR0.out HB.out));(case side2 => exact HC0.out);rintro e w13 ⟨v154,rfl,ho0,hb⟩;have n0_ := Aside0.mk (Kd.R_lower ho0 (below_size (bM HB.out)));have n1_ := Aside0.mk (below_step (bM HB.out) hb);clear HB;have HO155 := n0_;have HB := n1_;clear n0_ n1_;(try clear hb);(try clear hb2);(try clear hk);(try clear hi);(try clear ho0))))
    go_loopg [7,8,43] k1 (fun kq v7 v8 v43 w' => ∃ (x7_2 : List Int) (x8_2 : Int) (x43_2 : Int),v8 = .int .i64 x8_2 ∧ v43 = .int .i64 x43_2 ∧ Aside0 (varint_PutList.l1 kq l1 x7_2 x8_2 (l1.length : Int) x43_2 = some (r1,r2)) ∧ Aside0 (kq ≤ k1) ∧ Aside0 (Kd.R (Kd.int .u8) 5 w' w.heap.size (fun _ => True) v7 x7_2) ∧ Aside0 (Below w.heap.size w w'))
    case atStart => exact ⟨(t153),(0),(0),(by first|rfl|(simp;done)|(simp [*];done)),(by first|rfl|(simp;done)|(simp [*];done)),H',⟨Nat.le_refl _⟩,⟨rM HO155.out⟩,⟨bM HB.out⟩⟩
    case round =>
     clear H'
     try clear c1
     try clear p1
     try clear q1
     try clear hx1
     try clear p2
     try clear c3
     try clear c3b0
     try clear c4
     try clear c4b0
     try clear c5
     try clear c5b0
     try clear c6
     try clear c6b0
     try clear p6
     try clear c7
     try clear c7b0
     try clear c9
     try clear c9b0
     try clear c10
     try clear c10b0
     try clear c11
     try clear c11b0
     try clear hx150_0
     try clear hx151_0
     try clear hx152_0
     try clear p150
     try clear p151
     try clear p152
     try clear p2
     try clear q150
     try clear q151
     try clear q152
     obtain ⟨x7_2,x8_2,x43_2,rfl,rfl,HA,HK2,HO_7,HB⟩ := hrel
     cases gk with
    |zero => exact absurd HA.out (by simp [varint_PutList.l1])
    |succ k2 =>
      have H := HA.out
      clear HA
      simp only [varint_PutList.l1] at H
      by_cases c14 : x43_2 < (l1.length : Int)
      ·rw [if_pos c14] at H
       have c14b0 : decide (x43_2 < (l1.length : Int)) = true := decide_eq_true c14
       clear c14
       by_cases c15 : 0 ≤ x43_2
       ·rw [if_pos c15] at H
        have c15b0 : decide (0 ≤ x43_2) = true := decide_eq_true c15
        clear c15
        by_cases c16 : x43_2 < (l1.length : Int)
        ·rw [if_pos c16] at H
         have c16b0 : decide (x43_2 < (l1.length : Int)) = true := decide_eq_true c16
         clear c16
         replace H := Option.bind_eq_some_iff.mp H
         obtain ⟨t157,A170,H⟩ := H
         replace H : (varint_PutList.l1 k2 l1 t157 (rd l1 x43_2) (l1.length : Int) (wrap64 (x43_2 + 1))) = some (r1,r2) := H
         have A17 := Aside0.mk A170
         clear A170
         have H' := Aside0.mk H
         clear H
         have p156 : 0 ≤ (x43_2 : Int) := of_decide_eq_true (by first|(with_reducible assumption)|assumption)
         have q156 : x43_2 < (l1.length : Int) := of_decide_eq_true (by first|(with_reducible assumption)|assumption)
         obtain ⟨ad156,e156,hx156_0⟩ := Kd.at_int HR1.out x43_2 p156 q156
         cases e156
         replace hx156_0 := (HB.out.cell (World.block_lt_of_cell? w _ hx156_0)).trans hx156_0
         replace p156 := eq_true p156
         replace q156 := eq_true q156
         obtain ⟨Ao18,co18,eo18⟩ := Kd.R_slice HO_7.out
         subst eo18
         go_wp2_with (first|(go_at_call 39;(with_reducible refine (varint_Put.calls _ _ x7_2 (wrap64 ((rd l1 x43_2) - x8_2)) t157 _ ?side1 ?side2 A17.out).mono ?_);(case side1 => exact cM (Kd.R_reads' HO_7.out).2.2);(case side2 => exact (Kd.R_reads' HO_7.out).2.1);rintro e w19 ⟨v158,rfl,ho0,hb⟩;have n0_ := Aside0.mk (Kd.R_elder' (rM HO_7.out) (Kd.R_base ho0) hb);have n1_ := Aside0.mk (Kd.R_lower (Kd.R_new' ho0 (Kd.R_lt (rM HO_7.out))) (below_size (bM HB.out)));have n2_ := Aside0.mk (below_step (bM HB.out) hb);clear HO_7;clear HB;have HO_7 := n0_;have HO159 := n1_;have HB := n2_;clear n0_ n1_ n2_;(try clear hb);(try clear hb2);(try clear hk);(try clear hi);(try clear ho0);have p160 : 0 ≤ (x43_2 : Int) := of_decide_eq_true (by first|(with_reducible assumption)|assumption);have q160 : x43_2 < (l1.length : Int) := of_decide_eq_true (by first|(with_reducible assumption)|assumption);obtain ⟨ad160,e160,hx160_0⟩ := Kd.at_int HR1.out x43_2 p160 q160;obtain rfl : ad156 = ad160 := (by injection e160);replace hx160_0 := (HB.out.cell (World.block_lt_of_cell? w _ hx160_0)).trans hx160_0;replace p160 := eq_true p160;replace q160 := eq_true q160))
         repeat (go_quiet (first|(go_at_call 39;(with_reducible refine (varint_Put.calls _ _ x7_2 (wrap64 ((rd l1 x43_2) - x8_2)) t157 _ ?side1 ?side2 A17.out).mono ?_);(case side1 => exact cM (Kd.R_reads' HO_7.out).2.2);(case side2 => exact (Kd.R_reads' HO_7.out).2.1);rintro e w19 ⟨v158,rfl,ho0,hb⟩;have n0_ := Aside0.mk (Kd.R_elder' (rM HO_7.out) (Kd.R_base ho0) hb);have n1_ := Aside0.mk (Kd.R_lower (Kd.R_new' ho0 (Kd.R_lt (rM HO_7.out))) (below_size (bM HB.out)));have n2_ := Aside0.mk (below_step (bM HB.out) hb);clear HO_7;clear HB;have HO_7 := n0_;have HO159 := n1_;have HB := n2_;clear n0_ n1_ n2_;(try clear hb);(try clear hb2);(try clear hk);(try clear hi);(try clear ho0);have p160 : 0 ≤ (x43_2 : Int) := of_decide_eq_true (by first|(with_reducible assumption)|assumption);have q160 : x43_2 < (l1.length : Int) := of_decide_eq_true (by first|(with_reducible assumption)|assumption);obtain ⟨ad160,e160,hx160_0⟩ := Kd.at_int HR1.out x43_2 p160 q160;obtain rfl : ad156 = ad160 := (by injection e160);replace hx160_0 := (HB.out.cell (World.block_lt_of_cell? w _ hx160_0)).trans hx160_0;replace p160 := eq_true p160;replace q160 := eq_true q160));try go_wp2_with (first|(go_at_call 39;(with_reducible refine (varint_Put.calls _ _ x7_2 (wrap64 ((rd l1 x43_2) - x8_2)) t157 _ ?side1 ?side2 A17.out).mono ?_);(case side1 => exact cM (Kd.R_reads' HO_7.out).2.2);(case side2 => exact (Kd.R_reads' HO_7.out).2.1);rintro e w19 ⟨v158,rfl,ho0,hb⟩;have n0_ := Aside0.mk (Kd.R_elder' (rM HO_7.out) (Kd.R_base ho0) hb);have n1_ := Aside0.mk (Kd.R_lower (Kd.R_new' ho0 (Kd.R_lt (rM HO_7.out))) (below_size (bM HB.out)));have n2_ := Aside0.mk (below_step (bM HB.out) hb);clear HO_7;clear HB;have HO_7 := n0_;have HO159 := n1_;have HB := n2_;clear n0_ n1_ n2_;(try clear hb);(try clear hb2);(try clear hk);(try clear hi);(try clear ho0);have p160 : 0 ≤ (x43_2 : Int) := of_decide_eq_true (by first|(with_reducible assumption)|assumption);have q160 : x43_2 < (l1.length : Int) := of_decide_eq_true (by first|(with_reducible assumption)|assumption);obtain ⟨ad160,e160,hx160_0⟩ := Kd.at_int HR1.out x43_2 p160 q160;obtain rfl : ad156 = ad160 := (by injection e160);replace hx160_0 := (HB.out.cell (World.block_lt_of_cell? w _ hx160_0)).trans hx160_0;replace p160 := eq_true p160;replace q160 := eq_true q160)))
         go_roundg k2
         case measure => have := HK1.out;have := HK2.out;omega
         case rel => exact ⟨(t157),(rd l1 x43_2),(wrap64 (x43_2 + 1)),(by first|rfl|(simp;done)|(simp [*];done)),(by first|rfl|(simp;done)|(simp [*];done)),H',⟨by have := HK1.out;have := HK2.out;omega⟩,⟨rM (Kd.R_mono HO159.out (fun _ hk => trivial))⟩,⟨bM HB.out⟩⟩
        ·rw [if_neg c16] at H
         exact absurd H (by simp)
       ·rw [if_neg c15] at H
        exact absurd H (by simp)
      ·rw [if_neg c14] at H
       have c14b0 : decide (x43_2 < (l1.length : Int)) = false := decide_eq_false c14
       clear c14
       simp only [Option.some.injEq,Prod.mk.injEq] at H
       obtain ⟨rfl,rfl⟩ := H
       go_wp2
       repeat (go_quiet (fail);try go_wp2)
       go_ret2
       exact ⟨_,by first|rfl|(simp [errW_none,errW_some] <;> rfl)|(simp [*,errW_none,errW_some] <;> rfl),rM HO_7.out,bM HB.out⟩

/-! ### posting_Pack: function 22 -/
def posting_Pack.l0 : Nat → List Int → List Int → List Int → Option (List Int × Int)
|0,_,_,_ => none
|k + 1,x0,x4,x5 => if (x0.length : Int) > 0 then (if 0 ≤ (mn 16 (x0.length : Int)) then (if (mn 16 (x0.length : Int)) ≤ (x0.length : Int) then ((varint_PutList.f k ([] : List Int) (x0.take ((mn 16 (x0.length : Int)) : Int).toNat)).bind fun bt173 => (if bt173.2 = 0 then (if 0 ≤ ((mn 16 (x0.length : Int)) - 1) then (if ((mn 16 (x0.length : Int)) - 1) < (x0.length : Int) then ((varint_Put.f x4 (rd x0 ((mn 16 (x0.length : Int)) - 1))).bind fun t178 => ((varint_Put.f t178 (bt173.1.length : Int)).bind fun t181 => (if x5.length + bt173.1.length < 140737488355328 then (posting_Pack.l0 k (x0.drop ((mn 16 (x0.length : Int)) : Int).toNat) t181 (x5 ++ bt173.1)) else (none)))) else (none)) else (none)) else (some (([] : List Int),bt173.2)))) else (none)) else (none)) else (if x4.length + x5.length < 140737488355328 then (some ((x4 ++ x5),0)) else (none))
def posting_Pack.f (k : Nat) (l0 : List Int) : Option (List Int × Int) := (posting_Valid.f k l0).bind fun t161 => (if t161 = true then ((varint_Put.f ([] : List Int) (l0.length : Int)).bind fun t162 => (posting_Pack.l0 k l0 t162 ([] : List Int))) else (some (([] : List Int), 1)))
theorem posting_Pack.mono_l : ∀ k, (∀ y0 y1 y2, LeO (posting_Pack.l0 k y0 y1 y2) (posting_Pack.l0 (k + 1) y0 y1 y2))
|0 => fun _ _ _ r h => by simp [posting_Pack.l0] at h
|k + 1 => by
  have ih0 := posting_Pack.mono_l k
  ·intro y0 y1 y2
   unfold posting_Pack.l0
   repeat' first
  |(with_reducible exact ih0 _ _ _)
  |(with_reducible exact posting_Valid.mono _ _)
  |(with_reducible exact varint_PutList.mono _ _ _)
  |(with_reducible exact LeO.refl _)
  |(with_reducible exact LeO.none _)
  |(with_reducible refine LeO.ite ?_ ?_)
  |(with_reducible refine LeO.bind ?_ (fun _ => ?_))
  |exact ih0 _ _ _
  |exact posting_Valid.mono _ _
  |exact varint_PutList.mono _ _ _
  |exact LeO.none _
  |refine LeO.ite ?_ ?_
  |refine LeO.bind ?_ (fun _ => ?_)
theorem posting_Pack.mono : ∀ a0 k, LeO (posting_Pack.f k a0) (posting_Pack.f (k + 1) a0) := by
 intro a0 k
 have ih0 := posting_Pack.mono_l k
 unfold posting_Pack.f
 repeat' first
  |(with_reducible exact ih0 _ _ _)
  |(with_reducible exact posting_Valid.mono _ _)
  |(with_reducible exact varint_PutList.mono _ _ _)
  |(with_reducible exact LeO.refl _)
  |(with_reducible exact LeO.none _)
  |(with_reducible refine LeO.ite ?_ ?_)
  |(with_reducible refine LeO.bind ?_ (fun _ => ?_))
  |exact ih0 _ _ _
  |exact posting_Valid.mono _ _
  |exact varint_PutList.mono _ _ _
  |exact LeO.none _
  |refine LeO.ite ?_ ?_
  |refine LeO.bind ?_ (fun _ => ?_)
set_option maxHeartbeats 4000000 in
set_option maxRecDepth 100000 in
theorem posting_Pack.calls (k : Nat) (P0_ : Nat → Prop) (A0 : Option Addr) (c0 : Nat) (l0 : List Int) (r1 : List Int) (r2 : Int) (w : World) (hs0 : Kd.V (Kd.int .i64) 3 w w.heap.size (fun k_ => P0_ k_) (.slice A0 l0.length c0) l0) (h : posting_Pack.f k l0 = some (r1, r2)) :
  Calls Try.prog 22 #[.slice A0 l0.length c0] w fun e w' => ∃ v0_ : Value,e = .returned (.tuple #[v0_,.int .i64 r2]) ∧ Kd.R (Kd.int .u8) 5 w' w.heap.size (fun k_ => (w.heap.size ≤ k_)) v0_ r1 ∧ Below w.heap.size w w' := by
 have HO0 := Aside0.mk (show Kd.V (Kd.int .i64) 3 w w.heap.size (fun k_ => (P0_ k_ ∨ w.heap.size ≤ k_)) (.slice A0 l0.length c0) l0 from Kd.V_mono hs0 (fun k_ hk => .inl hk))
 have HB := Aside0.mk (Below.refl w.heap.size w)
 have H : ((posting_Valid.f k l0).bind fun t161 => (if t161 = true then ((varint_Put.f ([] : List Int) (l0.length : Int)).bind fun t162 => (posting_Pack.l0 k l0 t162 ([] : List Int))) else (some (([] : List Int),1)))) = some (r1,r2) := h
 clear h
 replace H := Option.bind_eq_some_iff.mp H
 obtain ⟨t161,A20,H⟩ := H
 replace H : (if t161 = true then ((varint_Put.f ([] : List Int) (l0.length : Int)).bind fun t162 => (posting_Pack.l0 k l0 t162 ([] : List Int))) else (some (([] : List Int),1))) = some (r1,r2) := H
 have A2 := Aside0.mk A20
 clear A20
 by_cases c3 : t161 = true
 ·subst c3
  have H1 : ((varint_Put.f ([] : List Int) (l0.length : Int)).bind fun t162 => (posting_Pack.l0 k l0 t162 ([] : List Int))) = some (r1,r2) := by rw [if_pos rfl] at H;exact H
  clear H
  have H := H1
  clear H1
  replace H := Option.bind_eq_some_iff.mp H
  obtain ⟨t162,A40,H⟩ := H
  replace H : (posting_Pack.l0 k l0 t162 ([] : List Int)) = some (r1,r2) := H
  have A4 := Aside0.mk A40
  clear A40
  have H' := Aside0.mk H
  clear H
  go_enter Try.func22,Try.ntmps22
  go_wp2_with (first|((with_reducible refine gate_callee (f := 11) rfl ?_);refine goesL_ (some 10) rfl rfl Try.func11 (by kernel_rfl) rfl #[.slice A0 l0.length c0] rfl (by (try simp only [List.map_toArray,List.map_cons,List.map_nil]);first|done|rfl|(simp only [List.length_drop,List.length_take];rfl)) ?_;(with_reducible refine (posting_Valid.calls k _ _ l0 true _ ?side1 ?side2 A2.out).mono ?_);(case side1 => repeat (first|exact (Kd.V_reads' HO0.out).2.2|(with_reducible refine Kd.C_alloc ?_ _)|(with_reducible refine Kd.C_drewN ?_ _)|(with_reducible refine Kd.C_drew ?_)));(case side2 => exact (Kd.V_reads' HO0.out).2.1);rintro e w' ⟨rfl,⟨nd,rfl⟩⟩;refine ⟨_,rfl,?_⟩)|(go_at_call 39;refine calls_of_args (args' := #[.slice none ([] : List Int).length 0,.int .i64 (l0.length : Int)]) (by first|with_reducible rfl|(simp only [List.length_nil];done)|(simp only [List.length_nil];with_reducible rfl)) ?_;(with_reducible refine (varint_Put.calls _ _ ([] : List Int) (l0.length : Int) t162 _ ?side1 ?side2 A4.out).mono ?_);(case side1 => exact Kd.C_nil _ _);(case side2 => exact Nat.le_refl _);rintro e w5 ⟨v163,rfl,ho0,hb⟩;have n0_ := Aside0.mk (Kd.V_elder' (by (with_reducible repeat (first|apply Kd.V_alloc|apply Kd.V_drewN|apply Kd.V_drew));exact HO0.out) (Kd.R_base ho0) hb);have n1_ := Aside0.mk (Kd.R_lower (Kd.R_newM (M := fun k_ => (w.heap.size ≤ k_)) ho0 (below_size (bM HB.out)) (fun k_ h_ => h_)) (below_size (bM HB.out)));have n2_ := Aside0.mk (below_step (bM HB.out) hb);clear HO0;clear HB;have HO0 := n0_;have HO164 := n1_;have HB := n2_;clear n0_ n1_ n2_;(try clear hb);(try clear hb2);(try clear hk);(try clear hi);(try clear ho0)))
  go_loopg [0,4,5] k (fun kq v0 v4 v5 w' => ∃ (x0_1 : List Int) (x4_1 : List Int) (x5_1 : List Int),Aside0 (posting_Pack.l0 kq x0_1 x4_1 x5_1 = some (r1,r2)) ∧ Aside0 (kq ≤ k) ∧ Aside0 (Kd.V (Kd.int .i64) 3 w' w.heap.size (fun k_ => (P0_ k_ ∨ w.heap.size ≤ k_) ∧ some k_ ≠ (v4 : Value).ownBlock ∧ some k_ ≠ (v5 : Value).ownBlock) v0 x0_1) ∧ Aside0 (Kd.R (Kd.int .u8) 5 w' w.heap.size (fun k_ => (w.heap.size ≤ k_) ∧ some k_ ≠ (v5 : Value).ownBlock) v4 x4_1) ∧ Aside0 (Kd.R (Kd.int .u8) 5 w' w.heap.size (fun k_ => (w.heap.size ≤ k_) ∧ some k_ ≠ (v4 : Value).ownBlock) v5 x5_1) ∧ Aside0 (Below w.heap.size w w'))
  case atStart => exact ⟨(l0),(t162),(([] : List Int)),H',⟨Nat.le_refl _⟩,⟨by (with_reducible repeat (first|apply Kd.V_alloc|apply Kd.V_drewN|apply Kd.V_drew));exact Kd.V_mono HO0.out (fun _ hk => ⟨hk.1,⟨hk.2,(by simp [Value.ownBlock])⟩⟩)⟩,⟨by (with_reducible repeat (first|apply Kd.R_alloc|apply Kd.R_drewN|apply Kd.R_drew));exact Kd.R_mono HO164.out (fun _ hk => ⟨hk.1,(by simp [Value.ownBlock])⟩)⟩,⟨by first|exact Kd.R_nil _ _ _ _ _|exact Kd.N_nil _ _ _ _ _|exact Kd.V_nil _ _ _ _ _|exact Kd.Q_nil _ _ _ _ _|exact Kd.S_nil _ _ _ _ _⟩,⟨bM HB.out⟩⟩
  case round =>
   clear H'
   try clear c1
   try clear c2
   try clear p2
   try clear c3
   obtain ⟨x0_1,x4_1,x5_1,HA,HK1,HO_0,HO_4,HO_5,HB⟩ := hrel
   cases gk with
  |zero => exact absurd HA.out (by simp [posting_Pack.l0])
  |succ k1 =>
    have H := HA.out
    clear HA
    simp only [posting_Pack.l0] at H
    by_cases c6 : (x0_1.length : Int) > 0
    ·rw [if_pos c6] at H
     have c6b0 : decide (0 < (x0_1.length : Int)) = true := decide_eq_true c6
     have c6b1 : decide (0 < x0_1.length) = true := decide_eq_true (by omega)
     clear c6
     obtain ⟨ji7,hji7⟩ : ∃ j_ : Int,(mn 16 (x0_1.length : Int)) = j_ := ⟨_,rfl⟩
     replace H : (if 0 ≤ (ji7) then (if (ji7) ≤ (x0_1.length : Int) then ((varint_PutList.f k1 ([] : List Int) (x0_1.take ((ji7) : Int).toNat)).bind fun bt173 => (if bt173.2 = 0 then (if 0 ≤ ((ji7) - 1) then (if ((ji7) - 1) < (x0_1.length : Int) then ((varint_Put.f x4_1 (rd x0_1 ((ji7) - 1))).bind fun t178 => ((varint_Put.f t178 (bt173.1.length : Int)).bind fun t181 => (if x5_1.length + bt173.1.length < 140737488355328 then (posting_Pack.l0 k1 (x0_1.drop ((ji7) : Int).toNat) t181 (x5_1 ++ bt173.1)) else (none)))) else (none)) else (none)) else (some (([] : List Int),bt173.2)))) else (none)) else (none)) = some (r1,r2) := by first|(rw [hji7] at H;exact H)|(simp only [hji7] at H ⊢;exact H)
     have hji7_ : (if (x0_1.length : Int) < 16 then (x0_1.length : Int) else 16) = ji7 := hji7
     by_cases c8 : 0 ≤ (ji7)
     ·rw [if_pos c8] at H
      have c8b0 := eq_true c8
      have c8b1 : decide (0 ≤ (ji7)) = true := decide_eq_true c8
      clear c8
      by_cases c9 : (ji7) ≤ (x0_1.length : Int)
      ·rw [if_pos c9] at H
       have c9b0 := eq_true c9
       have c9b1 : decide ((ji7) ≤ (x0_1.length : Int)) = true := decide_eq_true c9
       clear c9
       obtain ⟨y168,hy168⟩ : ∃ y_ : List Int,y_ = (x0_1.take ((ji7) : Int).toNat) := ⟨_,rfl⟩
       replace H : ((varint_PutList.f k1 ([] : List Int) y168).bind fun bt173 => (if bt173.2 = 0 then (if 0 ≤ ((ji7) - 1) then (if ((ji7) - 1) < (x0_1.length : Int) then ((varint_Put.f x4_1 (rd x0_1 ((ji7) - 1))).bind fun t178 => ((varint_Put.f t178 (bt173.1.length : Int)).bind fun t181 => (if x5_1.length + bt173.1.length < 140737488355328 then (posting_Pack.l0 k1 (x0_1.drop ((ji7) : Int).toNat) t181 (x5_1 ++ bt173.1)) else (none)))) else (none)) else (none)) else (some (([] : List Int),bt173.2)))) = some (r1,r2) := by first|(rw [hy168];with_reducible exact H)|(have H2_ := (Option.bind_some _ _).symm.trans H;rw [hy168];with_reducible exact H2_)|(have H2_ := (Option.bind_some _ _).symm.trans H;with_reducible exact H2_)|with_reducible exact H|(rw [hy168];exact H)|exact H
       have Ny168 := Aside0.mk hy168
       clear hy168
       replace H := Option.bind_eq_some_iff.mp H
       obtain ⟨⟨t173,t174⟩,A100,H⟩ := H
       replace H : (if t174 = 0 then (if 0 ≤ ((ji7) - 1) then (if ((ji7) - 1) < (x0_1.length : Int) then ((varint_Put.f x4_1 (rd x0_1 ((ji7) - 1))).bind fun t178 => ((varint_Put.f t178 (t173.length : Int)).bind fun t181 => (if x5_1.length + t173.length < 140737488355328 then (posting_Pack.l0 k1 (x0_1.drop ((ji7) : Int).toNat) t181 (x5_1 ++ t173)) else (none)))) else (none)) else (none)) else (some (([] : List Int),t174))) = some (r1,r2) := H
       have A10 := Aside0.mk A100
       clear A100
       by_cases c11 : t174 = 0
       ·rw [if_pos c11] at H
        have c11b0 : (t174 == 0) = true := beq_iff_eq.mpr c11
        have c11b1 : (t174 != 0) = false := bne_eq_false_iff_eq.mpr c11
        clear c11
        obtain ⟨ji12,hji12⟩ : ∃ j_ : Int,((ji7) - 1) = j_ := ⟨_,rfl⟩
        replace H : (if 0 ≤ (ji12) then (if (ji12) < (x0_1.length : Int) then ((varint_Put.f x4_1 (rd x0_1 (ji12))).bind fun t178 => ((varint_Put.f t178 (t173.length : Int)).bind fun t181 => (if x5_1.length + t173.length < 140737488355328 then (posting_Pack.l0 k1 (x0_1.drop ((ji7) : Int).toNat) t181 (x5_1 ++ t173)) else (none)))) else (none)) else (none)) = some (r1,r2) := by first|(rw [hji12] at H;exact H)|(simp only [hji12] at H ⊢;exact H)
        (try rw [hji12] at A10)
        by_cases c13 : 0 ≤ (ji12)
        ·rw [if_pos c13] at H
         have c13b0 : decide (0 ≤ (ji12)) = true := decide_eq_true c13
         clear c13
         by_cases c14 : (ji12) < (x0_1.length : Int)
         ·rw [if_pos c14] at H
          have c14b0 : decide ((ji12) < (x0_1.length : Int)) = true := decide_eq_true c14
          clear c14
          replace H := Option.bind_eq_some_iff.mp H
          obtain ⟨t178,A150,H⟩ := H
          replace H : ((varint_Put.f t178 (t173.length : Int)).bind fun t181 => (if x5_1.length + t173.length < 140737488355328 then (posting_Pack.l0 k1 (x0_1.drop ((ji7) : Int).toNat) t181 (x5_1 ++ t173)) else (none))) = some (r1,r2) := H
          have A15 := Aside0.mk A150
          clear A150
          replace H := Option.bind_eq_some_iff.mp H
          obtain ⟨t181,A160,H⟩ := H
          replace H : (if x5_1.length + t173.length < 140737488355328 then (posting_Pack.l0 k1 (x0_1.drop ((ji7) : Int).toNat) t181 (x5_1 ++ t173)) else (none)) = some (r1,r2) := H
          have A16 := Aside0.mk A160
          clear A160
          by_cases c17 : x5_1.length + t173.length < 140737488355328
          ·rw [if_pos c17] at H
           have LMc17 := Aside0.mk c17
           clear c17
           obtain ⟨y184,hy184⟩ : ∃ y_ : List Int,y_ = (x5_1 ++ t173) := ⟨_,rfl⟩
           replace H : (posting_Pack.l0 k1 (x0_1.drop ((ji7) : Int).toNat) t181 y184) = some (r1,r2) := by first|(rw [hy184];with_reducible exact H)|(have H2_ := (Option.bind_some _ _).symm.trans H;rw [hy184];with_reducible exact H2_)|(have H2_ := (Option.bind_some _ _).symm.trans H;with_reducible exact H2_)|with_reducible exact H|(rw [hy184];exact H)|exact H
           have Ny184 := Aside0.mk hy184
           clear hy184
           have c18b0 := eq_true (of_decide_eq_true (by first|(with_reducible assumption)|assumption) : 0 ≤ (ji7))
           have c19b0 := eq_true (of_decide_eq_true (by first|(with_reducible assumption)|assumption) : (ji7) ≤ (x0_1.length : Int))
           obtain ⟨y187,hy187⟩ : ∃ y_ : List Int,y_ = (x0_1.drop ((ji7) : Int).toNat) := ⟨_,rfl⟩
           replace H : (posting_Pack.l0 k1 y187 t181 y184) = some (r1,r2) := by first|(rw [hy187];with_reducible exact H)|(have H2_ := (Option.bind_some _ _).symm.trans H;rw [hy187];with_reducible exact H2_)|(have H2_ := (Option.bind_some _ _).symm.trans H;with_reducible exact H2_)|with_reducible exact H|(rw [hy187];exact H)|exact H
           have Ny187 := Aside0.mk hy187
           clear hy187
           have H' := Aside0.mk H
           clear H
           obtain ⟨Ao20,co20,eo20⟩ := Kd.V_slice HO_0.out
           subst eo20
           have q21 : ((ji7) : Int) ≤ ((x0_1.length : Int) : Int) := of_decide_eq_true (by first|(with_reducible assumption)|assumption)
           obtain ⟨i021,hi021,_,hsz21,_⟩ := info_parts info3
           have hroom21 : x0_1.length ≤ co20 := (Kd.V_reads' HO_0.out).2.1
           have hC21 : Kd.F (Kd.int .i64) _ _ Ao20 x0_1.length x0_1 := (Kd.V_at (base := w.heap.size) HO_0.out).2.2
           have hcut21 := cut_to (P := Try.prog) 22 3 .i64 Try.underlying22 hi021 Ao20 x0_1.length co20 (ji7) (of_decide_eq_true (by first|(with_reducible assumption)|assumption)) q21 hroom21
           have hr21 := Kd.F_take (m := ((ji7) : Int).toNat) hC21 (by omega)
           have hy21 : y168.length = ((ji7) : Int).toNat := (by rw [Ny168.out,List.length_take];omega)
           rw [← Ny168.out] at hr21
           rw [← hy21] at hcut21
           have HO172 := Aside0.mk (show Kd.V (Kd.int .i64) 3 _ w.heap.size _ (.slice Ao20 y168.length co20) y168 from Kd.V_mk (by omega) hr21)
           have HC172 := Aside0.mk (show y168.length ≤ co20 from by omega)
           clear hr21 hC21 hroom21 hi021 hsz21
           have KY21 := Aside0.mk hy21
           clear hy21
           replace q21 := eq_true q21
           go_wp2_with (first|(go_at_call 40;refine calls_of_args (args' := #[.slice none ([] : List Int).length 0,.slice Ao20 y168.length co20]) (by first|with_reducible rfl|(simp only [List.length_nil];done)|(simp only [List.length_nil];with_reducible rfl)) ?_;(with_reducible refine (varint_PutList.calls k1 _ _ ([] : List Int) _ _ y168 t173 t174 _ ?side1 ?side2 ?side3 ?side4 A10.out).mono ?_);(case side1 => exact Kd.C_nil _ _);(case side2 => exact Nat.le_refl _);(case side3 => repeat (first|exact (Kd.V_reads' HO172.out).2.2|(with_reducible refine Kd.C_alloc ?_ _)|(with_reducible refine Kd.C_drewN ?_ _)|(with_reducible refine Kd.C_drew ?_)));(case side4 => exact (Kd.V_reads' HO172.out).2.1);rintro e w22 ⟨v175,rfl,ho0,hb⟩;have n0_ := Aside0.mk (Kd.V_elder' (by (with_reducible repeat (first|apply Kd.V_alloc|apply Kd.V_drewN|apply Kd.V_drew));exact HO_0.out) (Kd.R_base ho0) hb);have n1_ := Aside0.mk (Kd.R_elder' (rM HO_4.out) (Kd.R_base ho0) hb);have n2_ := Aside0.mk (Kd.R_elder' (rM HO_5.out) (Kd.R_base ho0) hb);have n3_ := Aside0.mk (Kd.V_elder' (by (with_reducible repeat (first|apply Kd.V_alloc|apply Kd.V_drewN|apply Kd.V_drew));exact HO172.out) (Kd.R_base ho0) hb);have n4_ := Aside0.mk (Kd.R_lower (Kd.R_new' (Kd.R_new' (Kd.R_newM (M := fun k_ => (w.heap.size ≤ k_)) ho0 (below_size (bM HB.out)) (fun k_ h_ => h_)) (Kd.R_lt (rM HO_4.out))) (Kd.R_lt (rM HO_5.out))) (below_size (bM HB.out)));have n5_ := Aside0.mk (below_step (bM HB.out) hb);clear HO_0;clear HO_4;clear HO_5;clear HO172;clear HB;have HO_0 := n0_;have HO_4 := n1_;have HO_5 := n2_;have HO172 := n3_;have HO176 := n4_;have HB := n5_;clear n0_ n1_ n2_ n3_ n4_ n5_;(try clear hb);(try clear hb2);(try clear hk);(try clear hi);(try clear ho0);have p177 : 0 ≤ ((ji12) : Int) := of_decide_eq_true (by first|(with_reducible assumption)|assumption);have q177 : (ji12) < (x0_1.length : Int) := of_decide_eq_true (by first|(with_reducible assumption)|assumption);obtain ⟨ad177,e177,hx177_0⟩ := Kd.at_int (Kd.V_reads' HO_0.out).2.2 (ji12) p177 q177;cases e177;replace p177 := eq_true p177;replace q177 := eq_true q177;obtain ⟨Ao23,co23,eo23⟩ := Kd.R_slice HO_4.out;subst eo23)|((with_reducible refine gate_callee (f := 39) rfl ?_);refine goesL_ (some 37) rfl rfl Try.func39 (by kernel_rfl) rfl #[.slice Ao23 x4_1.length co23,.int .i64 (rd x0_1 (ji12))] rfl (by (try simp only [List.map_toArray,List.map_cons,List.map_nil]);first|done|(simp only [hji12];rfl)|rfl|(simp only [List.length_drop,List.length_take];rfl)) ?_;(with_reducible refine (varint_Put.calls _ _ x4_1 (rd x0_1 (ji12)) t178 _ ?side1 ?side2 A15.out).mono ?_);(case side1 => exact cM (Kd.R_reads' HO_4.out).2.2);(case side2 => exact (Kd.R_reads' HO_4.out).2.1);rintro e w24 ⟨v179,rfl,ho0,hb⟩;refine ⟨_,rfl,?_⟩;have n0_ := Aside0.mk (Kd.V_elder' (by (with_reducible repeat (first|apply Kd.V_alloc|apply Kd.V_drewN|apply Kd.V_drew));exact HO_0.out) (Kd.R_base ho0) hb);have n1_ := Aside0.mk (Kd.R_elder' (rM HO_4.out) (Kd.R_base ho0) hb);have n2_ := Aside0.mk (Kd.R_elder' (rM HO_5.out) (Kd.R_base ho0) hb);have n3_ := Aside0.mk (Kd.V_elder' (by (with_reducible repeat (first|apply Kd.V_alloc|apply Kd.V_drewN|apply Kd.V_drew));exact HO172.out) (Kd.R_base ho0) hb);have n4_ := Aside0.mk (Kd.R_elder' (rM HO176.out) (Kd.R_base ho0) hb);have n5_ := Aside0.mk (Kd.R_lower (Kd.R_new' (Kd.R_new' (Kd.R_new' (Kd.R_newM (M := fun k_ => (w.heap.size ≤ k_)) ho0 (below_size (bM HB.out)) (fun k_ h_ => h_)) (Kd.R_lt (rM HO_4.out))) (Kd.R_lt (rM HO_5.out))) (Kd.R_lt (rM HO176.out))) (below_size (bM HB.out)));have n6_ := Aside0.mk (below_step (bM HB.out) hb);clear HO_0;clear HO_4;clear HO_5;clear HO172;clear HO176;clear HB;have HO_0 := n0_;have HO_4 := n1_;have HO_5 := n2_;have HO172 := n3_;have HO176 := n4_;have HO180 := n5_;have HB := n6_;clear n0_ n1_ n2_ n3_ n4_ n5_ n6_;(try clear hb);(try clear hb2);(try clear hk);(try clear hi);(try clear ho0);obtain ⟨Ao25,co25,eo25⟩ := Kd.R_slice HO176.out;subst eo25;obtain ⟨Ao26,co26,eo26⟩ := Kd.R_slice HO180.out;subst eo26)|((with_reducible refine gate_callee (f := 39) rfl ?_);refine goesL_ (some 40) rfl rfl Try.func39 (by kernel_rfl) rfl #[.slice Ao26 t178.length co26,.int .i64 (t173.length : Int)] rfl (by (try simp only [List.map_toArray,List.map_cons,List.map_nil]);first|done|rfl|(simp only [List.length_drop,List.length_take];rfl)) ?_;(with_reducible refine (varint_Put.calls _ _ t178 (t173.length : Int) t181 _ ?side1 ?side2 A16.out).mono ?_);(case side1 => exact cM (Kd.R_reads' HO180.out).2.2);(case side2 => exact (Kd.R_reads' HO180.out).2.1);rintro e w27 ⟨v182,rfl,ho0,hb⟩;refine ⟨_,rfl,?_⟩;have n0_ := Aside0.mk (Kd.V_elder' (by (with_reducible repeat (first|apply Kd.V_alloc|apply Kd.V_drewN|apply Kd.V_drew));exact HO_0.out) (Kd.R_base ho0) hb);have n1_ := Aside0.mk (Kd.R_elder' (rM HO_4.out) (Kd.R_base ho0) hb);have n2_ := Aside0.mk (Kd.R_elder' (rM HO_5.out) (Kd.R_base ho0) hb);have n3_ := Aside0.mk (Kd.V_elder' (by (with_reducible repeat (first|apply Kd.V_alloc|apply Kd.V_drewN|apply Kd.V_drew));exact HO172.out) (Kd.R_base ho0) hb);have n4_ := Aside0.mk (Kd.R_elder' (rM HO176.out) (Kd.R_base ho0) hb);have n5_ := Aside0.mk (Kd.R_elder' (rM HO180.out) (Kd.R_base ho0) hb);have n6_ := Aside0.mk (Kd.R_lower (Kd.R_new' (Kd.R_new' (Kd.R_new' (Kd.R_new' (Kd.R_newM (M := fun k_ => (w.heap.size ≤ k_)) ho0 (below_size (bM HB.out)) (fun k_ h_ => h_)) (Kd.R_lt (rM HO_4.out))) (Kd.R_lt (rM HO_5.out))) (Kd.R_lt (rM HO176.out))) (Kd.R_lt (rM HO180.out))) (below_size (bM HB.out)));have n7_ := Aside0.mk (below_step (bM HB.out) hb);clear HO_0;clear HO_4;clear HO_5;clear HO172;clear HO176;clear HO180;clear HB;have HO_0 := n0_;have HO_4 := n1_;have HO_5 := n2_;have HO172 := n3_;have HO176 := n4_;have HO180 := n5_;have HO183 := n6_;have HB := n7_;clear n0_ n1_ n2_ n3_ n4_ n5_ n6_ n7_;(try clear hb);(try clear hb2);(try clear hk);(try clear hi);(try clear ho0))|((with_reducible refine gate_builtin (b := .append) (xs := #[.tmp 41,.tmp 42]) rfl ?_);at_builtin;refine Kd.R_append_rows (Kd.int .u8) (w0 := w) w.heap.size rfl (.tmp 41) (.tmp 42) 30 5 (.int .u8 0) 1 rfl Try.underlying30 info5 rfl (by decide) (by omega) u5 x5_1 t173 _ _ _ (fun k_ => (w.heap.size ≤ k_) ∧ some k_ ≠ (.slice Ao23 x4_1.length co23 : Value).ownBlock ∧ some k_ ≠ (.slice Ao25 t173.length co25 : Value).ownBlock ∧ some k_ ≠ (.slice Ao26 t178.length co26 : Value).ownBlock ∧ some k_ ≠ (v182 : Value).ownBlock) (fun _ => False) rfl rfl ?aO ?aR (fun _ _ h => h) (fun _ h => h.elim) ?aF ?aB ?aS ?aL ?_;(case aR => exact cM (Kd.R_reads' HO176.out).2.2);(case aB => exact (bM HB.out));(case aF => exact (fun k_ hk => ⟨(Nat.le_trans (below_size (bM HB.out)) hk),Kd.fresh' (Kd.R_lt (rM HO_4.out)) k_ hk,Kd.fresh' (Kd.R_lt (rM HO176.out)) k_ hk,Kd.fresh' (Kd.R_lt (rM HO180.out)) k_ hk,Kd.fresh' (Kd.R_lt (rM HO183.out)) k_ hk⟩));(case aO => exact (by (with_reducible repeat (first|apply Kd.R_alloc|apply Kd.R_drewN|apply Kd.R_drew));exact Kd.R_mono HO_5.out (fun _ hk => ⟨hk.1.1.1.1,⟨hk.1.1.1.2,⟨hk.1.1.2,⟨hk.1.2,hk.2⟩⟩⟩⟩)));(case aS => exact (below_size (bM HB.out)));(case aL => have := LMc17.out;omega);intro v185 w28 ho hb hg hat;rw [← Ny184.out] at ho;have n0_ := Aside0.mk (Kd.V_afterv (ok := (fun k_ => (P0_ k_ ∨ w.heap.size ≤ k_) ∧ some k_ ≠ (.slice Ao23 x4_1.length co23 : Value).ownBlock ∧ some k_ ≠ (.slice Ao25 t173.length co25 : Value).ownBlock ∧ some k_ ≠ (.slice Ao26 t178.length co26 : Value).ownBlock ∧ some k_ ≠ (v182 : Value).ownBlock)) (by (with_reducible repeat (first|apply Kd.V_alloc|apply Kd.V_drewN|apply Kd.V_drew));exact Kd.V_mono HO_0.out (fun _ hk => ⟨⟨hk.1.1.1.1,⟨hk.1.1.1.2.1,⟨hk.1.1.2,⟨hk.1.2,hk.2⟩⟩⟩⟩,hk.1.1.1.2.2⟩)) hg hat);have n1_ := Aside0.mk (Kd.R_after (ok := (fun k_ => (w.heap.size ≤ k_) ∧ some k_ ≠ (.slice Ao25 t173.length co25 : Value).ownBlock ∧ some k_ ≠ (.slice Ao26 t178.length co26 : Value).ownBlock ∧ some k_ ≠ (v182 : Value).ownBlock)) (by (with_reducible repeat (first|apply Kd.R_alloc|apply Kd.R_drewN|apply Kd.R_drew));exact Kd.R_mono HO_4.out (fun _ hk => ⟨⟨hk.1.1.1.1,⟨hk.1.1.2,⟨hk.1.2,hk.2⟩⟩⟩,hk.1.1.1.2⟩)) hg hat);have n2_ := Aside0.mk (Kd.V_afterv (ok := (fun k_ => (P0_ k_ ∨ w.heap.size ≤ k_) ∧ some k_ ≠ (.slice Ao23 x4_1.length co23 : Value).ownBlock ∧ some k_ ≠ (.slice Ao25 t173.length co25 : Value).ownBlock ∧ some k_ ≠ (.slice Ao26 t178.length co26 : Value).ownBlock ∧ some k_ ≠ (v182 : Value).ownBlock)) (by (with_reducible repeat (first|apply Kd.V_alloc|apply Kd.V_drewN|apply Kd.V_drew));exact Kd.V_mono HO172.out (fun _ hk => ⟨⟨hk.1.1.1.1,⟨hk.1.1.1.2.1,⟨hk.1.1.2,⟨hk.1.2,hk.2⟩⟩⟩⟩,hk.1.1.1.2.2⟩)) hg hat);have n3_ := Aside0.mk (Kd.R_after (ok := (fun k_ => (w.heap.size ≤ k_) ∧ some k_ ≠ (.slice Ao23 x4_1.length co23 : Value).ownBlock ∧ some k_ ≠ (.slice Ao26 t178.length co26 : Value).ownBlock ∧ some k_ ≠ (v182 : Value).ownBlock)) (by (with_reducible repeat (first|apply Kd.R_alloc|apply Kd.R_drewN|apply Kd.R_drew));exact Kd.R_mono HO176.out (fun _ hk => ⟨⟨hk.1.1.1.1.1,⟨hk.1.1.1.2,⟨hk.1.2,hk.2⟩⟩⟩,hk.1.1.2⟩)) hg hat);have n4_ := Aside0.mk (Kd.R_after (ok := (fun k_ => (w.heap.size ≤ k_) ∧ some k_ ≠ (.slice Ao23 x4_1.length co23 : Value).ownBlock ∧ some k_ ≠ (.slice Ao25 t173.length co25 : Value).ownBlock ∧ some k_ ≠ (v182 : Value).ownBlock)) (by (with_reducible repeat (first|apply Kd.R_alloc|apply Kd.R_drewN|apply Kd.R_drew));exact Kd.R_mono HO180.out (fun _ hk => ⟨⟨hk.1.1.1.1.1,⟨hk.1.1.1.2,⟨hk.1.2,hk.2⟩⟩⟩,hk.1.1.2⟩)) hg hat);have n5_ := Aside0.mk (Kd.R_after (ok := (fun k_ => (w.heap.size ≤ k_) ∧ some k_ ≠ (.slice Ao23 x4_1.length co23 : Value).ownBlock ∧ some k_ ≠ (.slice Ao25 t173.length co25 : Value).ownBlock ∧ some k_ ≠ (.slice Ao26 t178.length co26 : Value).ownBlock)) (by (with_reducible repeat (first|apply Kd.R_alloc|apply Kd.R_drewN|apply Kd.R_drew));exact Kd.R_mono HO183.out (fun _ hk => ⟨⟨hk.1.1.1.1.1,⟨hk.1.1.1.2,⟨hk.1.2,hk.2⟩⟩⟩,hk.1.1.2⟩)) hg hat);have n6_ := Aside0.mk (hb);have n7_ := Aside0.mk (ho);clear HO_0;clear HO_4;clear HO172;clear HO176;clear HO180;clear HO183;clear HB;clear HO_5;have HO_0 := n0_;have HO_4 := n1_;have HO172 := n2_;have HO176 := n3_;have HO180 := n4_;have HO183 := n5_;have HB := n6_;have HO186 := n7_;clear n0_ n1_ n2_ n3_ n4_ n5_ n6_ n7_;clear ho hb hg hat;have q29 : ((ji7) : Int) ≤ ((x0_1.length : Int) : Int) := of_decide_eq_true (by first|(with_reducible assumption)|assumption);obtain ⟨i029,hi029,_,hsz29,_⟩ := info_parts info3;have hroom29 : x0_1.length ≤ co20 := (Kd.V_reads' HO_0.out).2.1;have hC29 : Kd.F (Kd.int .i64) _ _ (some ad177) x0_1.length x0_1 := (Kd.V_at (base := w.heap.size) HO_0.out).2.2;have q029 : (0 : Int) ≤ ((ji7) : Int) := of_decide_eq_true (by first|(with_reducible assumption)|assumption);have hcut29 := cut_from (P := Try.prog) 22 3 .i64 Try.underlying22 hi029 1 hsz29 (some ad177) x0_1.length co20 (ji7) q029 q29;have hr29 := Kd.F_cut (m := ((ji7) : Int).toNat) (c := co20) hC29 (by omega) hroom29;obtain ⟨A29,hA29⟩ : ∃ A1,A1 = (if co20 = ((ji7) : Int).toNat then (some ad177) else ((some ad177) : Option Addr).map (·.add (((ji7) : Int).toNat * 1))) := ⟨_,rfl⟩;obtain ⟨c29,hc29⟩ : ∃ c1,c1 = co20 - ((ji7) : Int).toNat := ⟨_,rfl⟩;have hy29 : y187.length = x0_1.length - ((ji7) : Int).toNat := (by rw [Ny187.out,List.length_drop] <;> omega);rw [show (x0_1).drop ((ji7) : Int).toNat = y187 from Ny187.out.symm] at hr29;replace hr29 : Kd.F (Kd.int .i64) _ _ A29 y187.length y187 := (by rw [hA29];exact hr29);rw [← hy29,← hA29,← hc29] at hcut29;have HO191 := Aside0.mk (show Kd.V (Kd.int .i64) 3 _ w.heap.size _ (.slice A29 y187.length c29) y187 from Kd.V_mk (by rw [hy29,hc29];exact Nat.sub_le_sub_right hroom29 _) hr29);have HC191 := Aside0.mk (show y187.length ≤ c29 from by rw [hy29,hc29];exact Nat.sub_le_sub_right hroom29 _);clear hr29 hC29 hroom29 hi029 hsz29 hc29;have KY29 := Aside0.mk hy29;have KA29 := Aside0.mk hA29;clear hy29 hA29;replace q29 := eq_true q29))
           go_roundg k1
           case measure => have := HK1.out;omega
           case rel => exact ⟨(y187),(t181),(y184),H',⟨by have := HK1.out;omega⟩,⟨by (with_reducible repeat (first|apply Kd.V_alloc|apply Kd.V_drewN|apply Kd.V_drew));exact Kd.V_mono HO191.out (fun _ hk => ⟨hk.1.1,⟨hk.1.2.2.2.2,hk.2⟩⟩)⟩,⟨by (with_reducible repeat (first|apply Kd.R_alloc|apply Kd.R_drewN|apply Kd.R_drew));exact Kd.R_mono HO183.out (fun _ hk => ⟨hk.1.1,hk.2⟩)⟩,⟨by (with_reducible repeat (first|apply Kd.R_alloc|apply Kd.R_drewN|apply Kd.R_drew));exact Kd.R_mono HO186.out (fun _ hk => ⟨hk.1,hk.2.2.2.2⟩)⟩,⟨bM HB.out⟩⟩
          ·rw [if_neg c17] at H
           exact absurd H (by simp)
         ·rw [if_neg c14] at H
          exact absurd H (by simp)
        ·rw [if_neg c13] at H
         exact absurd H (by simp)
       ·rw [if_neg c11] at H
        have c11b0 : (t174 == 0) = false := beq_eq_false_iff_ne.mpr c11
        have c11b1 : (t174 != 0) = true := bne_iff_ne.mpr c11
        simp only [Option.some.injEq,Prod.mk.injEq] at H
        obtain ⟨rfl,rfl⟩ := H
        obtain ⟨Ao30,co30,eo30⟩ := Kd.V_slice HO_0.out
        subst eo30
        have q31 : ((ji7) : Int) ≤ ((x0_1.length : Int) : Int) := of_decide_eq_true (by first|(with_reducible assumption)|assumption)
        obtain ⟨i031,hi031,_,hsz31,_⟩ := info_parts info3
        have hroom31 : x0_1.length ≤ co30 := (Kd.V_reads' HO_0.out).2.1
        have hC31 : Kd.F (Kd.int .i64) _ _ Ao30 x0_1.length x0_1 := (Kd.V_at (base := w.heap.size) HO_0.out).2.2
        have hcut31 := cut_to (P := Try.prog) 22 3 .i64 Try.underlying22 hi031 Ao30 x0_1.length co30 (ji7) (of_decide_eq_true (by first|(with_reducible assumption)|assumption)) q31 hroom31
        have hr31 := Kd.F_take (m := ((ji7) : Int).toNat) hC31 (by omega)
        have hy31 : y168.length = ((ji7) : Int).toNat := (by rw [Ny168.out,List.length_take];omega)
        rw [← Ny168.out] at hr31
        rw [← hy31] at hcut31
        have HO172 := Aside0.mk (show Kd.V (Kd.int .i64) 3 _ w.heap.size _ (.slice Ao30 y168.length co30) y168 from Kd.V_mk (by omega) hr31)
        have HC172 := Aside0.mk (show y168.length ≤ co30 from by omega)
        clear hr31 hC31 hroom31 hi031 hsz31
        have KY31 := Aside0.mk hy31
        clear hy31
        replace q31 := eq_true q31
        go_wp2_with (first|(go_at_call 40;refine calls_of_args (args' := #[.slice none ([] : List Int).length 0,.slice Ao30 y168.length co30]) (by first|with_reducible rfl|(simp only [List.length_nil];done)|(simp only [List.length_nil];with_reducible rfl)) ?_;(with_reducible refine (varint_PutList.calls k1 _ _ ([] : List Int) _ _ y168 t173 t174 _ ?side1 ?side2 ?side3 ?side4 A10.out).mono ?_);(case side1 => exact Kd.C_nil _ _);(case side2 => exact Nat.le_refl _);(case side3 => repeat (first|exact (Kd.V_reads' HO172.out).2.2|(with_reducible refine Kd.C_alloc ?_ _)|(with_reducible refine Kd.C_drewN ?_ _)|(with_reducible refine Kd.C_drew ?_)));(case side4 => exact (Kd.V_reads' HO172.out).2.1);rintro e w32 ⟨v175,rfl,ho0,hb⟩;have n0_ := Aside0.mk (Kd.V_elder' (by (with_reducible repeat (first|apply Kd.V_alloc|apply Kd.V_drewN|apply Kd.V_drew));exact HO_0.out) (Kd.R_base ho0) hb);have n1_ := Aside0.mk (Kd.R_elder' (rM HO_4.out) (Kd.R_base ho0) hb);have n2_ := Aside0.mk (Kd.R_elder' (rM HO_5.out) (Kd.R_base ho0) hb);have n3_ := Aside0.mk (Kd.V_elder' (by (with_reducible repeat (first|apply Kd.V_alloc|apply Kd.V_drewN|apply Kd.V_drew));exact HO172.out) (Kd.R_base ho0) hb);have n4_ := Aside0.mk (Kd.R_lower (Kd.R_new' (Kd.R_new' (Kd.R_newM (M := fun k_ => (w.heap.size ≤ k_)) ho0 (below_size (bM HB.out)) (fun k_ h_ => h_)) (Kd.R_lt (rM HO_4.out))) (Kd.R_lt (rM HO_5.out))) (below_size (bM HB.out)));have n5_ := Aside0.mk (below_step (bM HB.out) hb);clear HO_0;clear HO_4;clear HO_5;clear HO172;clear HB;have HO_0 := n0_;have HO_4 := n1_;have HO_5 := n2_;have HO172 := n3_;have HO176 := n4_;have HB := n5_;clear n0_ n1_ n2_ n3_ n4_ n5_;(try clear hb);(try clear hb2);(try clear hk);(try clear hi);(try clear ho0)))
        go_ret2
        exact ⟨_,by first|rfl|(simp [errW_none,errW_some] <;> rfl)|(simp only [← hji7];first|rfl|(simp [errW_none,errW_some] <;> rfl))|(simp [*,errW_none,errW_some] <;> rfl),by first|exact Kd.R_nil _ _ _ _ _|exact Kd.N_nil _ _ _ _ _|exact Kd.V_nil _ _ _ _ _|exact Kd.Q_nil _ _ _ _ _|exact Kd.S_nil _ _ _ _ _,bM HB.out⟩
      ·rw [if_neg c9] at H
       exact absurd H (by simp)
     ·rw [if_neg c8] at H
      exact absurd H (by simp)
    ·rw [if_neg c6] at H
     have c6b0 : decide (0 < (x0_1.length : Int)) = false := decide_eq_false c6
     have c6b1 : decide (0 < x0_1.length) = false := decide_eq_false (by omega)
     clear c6
     by_cases c33 : x4_1.length + x5_1.length < 140737488355328
     ·rw [if_pos c33] at H
      have LMc33 := Aside0.mk c33
      clear c33
      obtain ⟨y165,hy165⟩ : ∃ y_ : List Int,y_ = (x4_1 ++ x5_1) := ⟨_,rfl⟩
      replace H : (some (y165,0)) = some (r1,r2) := by first|(rw [hy165];with_reducible exact H)|(have H2_ := (Option.bind_some _ _).symm.trans H;rw [hy165];with_reducible exact H2_)|(have H2_ := (Option.bind_some _ _).symm.trans H;with_reducible exact H2_)|with_reducible exact H|(rw [hy165];exact H)|exact H
      have Ny165 := Aside0.mk hy165
      clear hy165
      simp only [Option.some.injEq,Prod.mk.injEq] at H
      obtain ⟨rfl,rfl⟩ := H
      obtain ⟨Ao34,co34,eo34⟩ := Kd.V_slice HO_0.out
      subst eo34
      obtain ⟨Ao36,co36,eo36⟩ := Kd.R_slice HO_5.out
      subst eo36
      go_wp2_with (first|((with_reducible refine gate_builtin (b := .append) (xs := #[.tmp 47,.tmp 48]) rfl ?_);at_builtin;refine Kd.R_append_rows (Kd.int .u8) (w0 := w) w.heap.size rfl (.tmp 47) (.tmp 48) 30 5 (.int .u8 0) 1 rfl Try.underlying30 info5 rfl (by decide) (by omega) u4 x4_1 x5_1 _ _ _ (fun k_ => (w.heap.size ≤ k_) ∧ some k_ ≠ (.slice Ao36 x5_1.length co36 : Value).ownBlock) (fun _ => False) rfl rfl ?aO ?aR (fun _ _ h => h) (fun _ h => h.elim) ?aF ?aB ?aS ?aL ?_;(case aR => exact cM (Kd.R_reads' HO_5.out).2.2);(case aB => exact (bM HB.out));(case aF => exact (fun k_ hk => ⟨(Nat.le_trans (below_size (bM HB.out)) hk),Kd.fresh' (Kd.R_lt (rM HO_5.out)) k_ hk⟩));(case aO => exact (rM HO_4.out));(case aS => exact (below_size (bM HB.out)));(case aL => have := LMc33.out;omega);intro v166 w35 ho hb hg hat;rw [← Ny165.out] at ho;have n0_ := Aside0.mk (Kd.V_afterv (ok := (fun k_ => (P0_ k_ ∨ w.heap.size ≤ k_) ∧ some k_ ≠ (.slice Ao36 x5_1.length co36 : Value).ownBlock)) (by (with_reducible repeat (first|apply Kd.V_alloc|apply Kd.V_drewN|apply Kd.V_drew));exact Kd.V_mono HO_0.out (fun _ hk => ⟨⟨hk.1,hk.2.2⟩,hk.2.1⟩)) hg hat);have n1_ := Aside0.mk (Kd.R_after (ok := (fun k_ => (w.heap.size ≤ k_))) (rM HO_5.out) hg hat);have n2_ := Aside0.mk (hb);have n3_ := Aside0.mk (ho);clear HO_0;clear HO_5;clear HB;clear HO_4;have HO_0 := n0_;have HO_5 := n1_;have HB := n2_;have HO167 := n3_;clear n0_ n1_ n2_ n3_;clear ho hb hg hat))
      go_ret2
      exact ⟨_,by first|rfl|(simp [errW_none,errW_some] <;> rfl)|(simp [*,errW_none,errW_some] <;> rfl),by (with_reducible repeat (first|apply Kd.R_alloc|apply Kd.R_drewN|apply Kd.R_drew));exact Kd.R_mono HO167.out (fun _ hk => hk.1),bM HB.out⟩
     ·rw [if_neg c33] at H
      exact absurd H (by simp)
 ·replace c3 := Bool.eq_false_iff.mpr c3
  subst c3
  have H1 : (some (([] : List Int),1)) = some (r1,r2) := by rw [if_neg (show ¬ (false = true) by decide)] at H;exact H
  clear H
  have H := H1
  clear H1
  simp only [Option.some.injEq,Prod.mk.injEq] at H
  obtain ⟨rfl,rfl⟩ := H
  go_enter Try.func22,Try.ntmps22
  go_wp2_with (first|((with_reducible refine gate_callee (f := 11) rfl ?_);refine goesL_ (some 10) rfl rfl Try.func11 (by kernel_rfl) rfl #[.slice A0 l0.length c0] rfl (by (try simp only [List.map_toArray,List.map_cons,List.map_nil]);first|done|rfl|(simp only [List.length_drop,List.length_take];rfl)) ?_;(with_reducible refine (posting_Valid.calls k _ _ l0 false _ ?side1 ?side2 A2.out).mono ?_);(case side1 => repeat (first|exact (Kd.V_reads' HO0.out).2.2|(with_reducible refine Kd.C_alloc ?_ _)|(with_reducible refine Kd.C_drewN ?_ _)|(with_reducible refine Kd.C_drew ?_)));(case side2 => exact (Kd.V_reads' HO0.out).2.1);rintro e w' ⟨rfl,⟨nd,rfl⟩⟩;refine ⟨_,rfl,?_⟩))
  go_ret2
  exact ⟨_,by first|rfl|(simp [errW_none,errW_some] <;> rfl)|(simp [*,errW_none,errW_some] <;> rfl),by first|exact Kd.R_nil _ _ _ _ _|exact Kd.N_nil _ _ _ _ _|exact Kd.V_nil _ _ _ _ _|exact Kd.Q_nil _ _ _ _ _|exact Kd.S_nil _ _ _ _ _,bM HB.out⟩

/-! ### codesearchlaw05_sameBytes: function 24 -/
def codesearchlaw05_sameBytes.f (l0 : List Int) (l1 : List Int) : Option (Bool) := some ((strOfNums l0).toList == (strOfNums l1).toList)
set_option maxHeartbeats 4000000 in
set_option maxRecDepth 100000 in
theorem codesearchlaw05_sameBytes.calls (A0 : Option Addr) (c0 : Nat) (l0 : List Int) (A1 : Option Addr) (c1 : Nat) (l1 : List Int) (r : Bool) (w : World) (hr0 : Kd.C (Kd.int .u8) w A0 l0.length l0) (hc0 : l0.length ≤ c0) (hr1 : Kd.C (Kd.int .u8) w A1 l1.length l1) (hc1 : l1.length ≤ c1) (h : codesearchlaw05_sameBytes.f l0 l1 = some r) :
  Calls Try.prog 24 #[.slice A0 l0.length c0,.slice A1 l1.length c1] w fun e w' => e = .returned (.bool r) ∧ Drawn0 w w' := by
 have HR0 := Aside0.mk hr0
 have HC0 := Aside0.mk hc0
 clear hr0 hc0
 have HR1 := Aside0.mk hr1
 have HC1 := Aside0.mk hc1
 clear hr1 hc1
 have H : (some ((strOfNums l0).toList == (strOfNums l1).toList)) = some r := h
 clear h
 obtain rfl := Option.some.inj H
 have hcv3 := Kd.C_string (P := Try.prog) (A := A0) (c := c0) Try.underlying30 Try.underlying5 Try.underlying9 HR0.out
 have hcv3d := fun n_ : Nat => Kd.C_string (P := Try.prog) (A := A0) (c := c0) Try.underlying30 Try.underlying5 Try.underlying9 (Kd.C_drewN HR0.out n_)
 have hcv4 := Kd.C_string (P := Try.prog) (A := A1) (c := c1) Try.underlying30 Try.underlying5 Try.underlying9 HR1.out
 have hcv4d := fun n_ : Nat => Kd.C_string (P := Try.prog) (A := A1) (c := c1) Try.underlying30 Try.underlying5 Try.underlying9 (Kd.C_drewN HR1.out n_)
 go_enter Try.func24,Try.ntmps24
 go_wp2
 go_ret
 exact ⟨by first|rfl|(simp;done)|(simp [*];done),by repeat (first|exact Drawn0.refl _|apply Drawn0.step)⟩

/-! ### slices_Index_int_int: function 57 -/
def slices_Index_int_int.l0 : Nat → List Int → Int → Int → Int → Option (Int)
|0,_,_,_,_ => none
|k + 1,x0,x1,x7,x8 => if x8 < x7 then (if 0 ≤ x8 then (if x8 < (x0.length : Int) then (if x1 = (rd x0 x8) then (some x8) else (slices_Index_int_int.l0 k x0 x1 x7 (wrap64 (x8 + 1)))) else (none)) else (none)) else (some (-1))
def slices_Index_int_int.f (k : Nat) (l0 : List Int) (a1 : Int) : Option (Int) := slices_Index_int_int.l0 k l0 a1 (l0.length : Int) 0
theorem slices_Index_int_int.mono_l : ∀ k, (∀ y0 y1 y2 y3, LeO (slices_Index_int_int.l0 k y0 y1 y2 y3) (slices_Index_int_int.l0 (k + 1) y0 y1 y2 y3))
|0 => fun _ _ _ _ r h => by simp [slices_Index_int_int.l0] at h
|k + 1 => by
  have ih0 := slices_Index_int_int.mono_l k
  ·intro y0 y1 y2 y3
   unfold slices_Index_int_int.l0
   repeat' first
  |(with_reducible exact ih0 _ _ _ _)
  |(with_reducible exact LeO.refl _)
  |(with_reducible exact LeO.none _)
  |(with_reducible refine LeO.ite ?_ ?_)
  |(with_reducible refine LeO.bind ?_ (fun _ => ?_))
  |exact ih0 _ _ _ _
  |exact LeO.none _
  |refine LeO.ite ?_ ?_
  |refine LeO.bind ?_ (fun _ => ?_)
theorem slices_Index_int_int.mono : ∀ a0 a1 k, LeO (slices_Index_int_int.f k a0 a1) (slices_Index_int_int.f (k + 1) a0 a1) := by
 intro a0 a1 k
 have ih0 := slices_Index_int_int.mono_l k
 unfold slices_Index_int_int.f
 repeat' first
  |(with_reducible exact ih0 _ _ _ _)
  |(with_reducible exact LeO.refl _)
  |(with_reducible exact LeO.none _)
  |(with_reducible refine LeO.ite ?_ ?_)
  |(with_reducible refine LeO.bind ?_ (fun _ => ?_))
  |exact ih0 _ _ _ _
  |exact LeO.none _
  |refine LeO.ite ?_ ?_
  |refine LeO.bind ?_ (fun _ => ?_)
set_option maxHeartbeats 4000000 in
set_option maxRecDepth 100000 in
theorem slices_Index_int_int.calls (k : Nat) (A0 : Option Addr) (c0 : Nat) (l0 : List Int) (a1 : Int) (r : Int) (w : World) (hr0 : Kd.C (Kd.int .i64) w A0 l0.length l0) (hc0 : l0.length ≤ c0) (h : slices_Index_int_int.f k l0 a1 = some r) :
  Calls Try.prog 57 #[.slice A0 l0.length c0,.int .i64 a1] w fun e w' => e = .returned (.int .i64 r) ∧ Drawn0 w w' := by
 have HR0 := Aside0.mk hr0
 have HC0 := Aside0.mk hc0
 clear hr0 hc0
 have H : (slices_Index_int_int.l0 k l0 a1 (l0.length : Int) 0) = some r := h
 clear h
 have H' := Aside0.mk H
 clear H
 go_enter Try.func57,Try.ntmps57
 go_wp2
 go_loopg [8] k (fun kq v8 w' => ∃ (x8_1 : Int),v8 = .int .i64 x8_1 ∧ Aside0 (slices_Index_int_int.l0 kq l0 a1 (l0.length : Int) x8_1 = some r) ∧ Aside0 (kq ≤ k) ∧ Drawn0 w w')
 case atStart => exact ⟨(0),(by first|rfl|(simp;done)|(simp [*];done)),H',⟨Nat.le_refl _⟩,by repeat (first|exact Drawn0.refl _|apply Drawn0.step)⟩
 case round =>
  clear H'
  try clear p2
  obtain ⟨x8_1,rfl,HA,HK1,⟨m1,rfl⟩⟩ := hrel
  cases gk with
 |zero => exact absurd HA.out (by simp [slices_Index_int_int.l0])
 |succ k1 =>
   have H := HA.out
   clear HA
   simp only [slices_Index_int_int.l0] at H
   by_cases c3 : x8_1 < (l0.length : Int)
   ·rw [if_pos c3] at H
    have c3b0 : decide (x8_1 < (l0.length : Int)) = true := decide_eq_true c3
    clear c3
    by_cases c4 : 0 ≤ x8_1
    ·rw [if_pos c4] at H
     have c4b0 : decide (0 ≤ x8_1) = true := decide_eq_true c4
     clear c4
     by_cases c5 : x8_1 < (l0.length : Int)
     ·rw [if_pos c5] at H
      have c5b0 : decide (x8_1 < (l0.length : Int)) = true := decide_eq_true c5
      clear c5
      by_cases c6 : a1 = (rd l0 x8_1)
      ·rw [if_pos c6] at H
       have c6b0 : (a1 == (rd l0 x8_1)) = true := beq_iff_eq.mpr c6
       have c6b1 : (a1 != (rd l0 x8_1)) = false := bne_eq_false_iff_eq.mpr c6
       clear c6
       obtain rfl := Option.some.inj H
       have p192 : 0 ≤ (x8_1 : Int) := of_decide_eq_true (by first|(with_reducible assumption)|assumption)
       have q192 : x8_1 < (l0.length : Int) := of_decide_eq_true (by first|(with_reducible assumption)|assumption)
       obtain ⟨ad192,e192,hx192_0⟩ := Kd.at_int HR0.out x8_1 p192 q192
       cases e192
       replace p192 := eq_true p192
       replace q192 := eq_true q192
       go_wp2
       go_ret
       exact ⟨by first|rfl|(simp;done)|(simp [*];done),by repeat (first|exact Drawn0.refl _|apply Drawn0.step)⟩
      ·rw [if_neg c6] at H
       have c6b0 : (a1 == (rd l0 x8_1)) = false := beq_eq_false_iff_ne.mpr c6
       have c6b1 : (a1 != (rd l0 x8_1)) = true := bne_iff_ne.mpr c6
       have H' := Aside0.mk H
       clear H
       have p192 : 0 ≤ (x8_1 : Int) := of_decide_eq_true (by first|(with_reducible assumption)|assumption)
       have q192 : x8_1 < (l0.length : Int) := of_decide_eq_true (by first|(with_reducible assumption)|assumption)
       obtain ⟨ad192,e192,hx192_0⟩ := Kd.at_int HR0.out x8_1 p192 q192
       cases e192
       replace p192 := eq_true p192
       replace q192 := eq_true q192
       go_wp2
       go_roundg k1
       case measure => have := HK1.out;omega
       case rel => exact ⟨(wrap64 (x8_1 + 1)),(by first|rfl|(simp;done)|(simp [*];done)),H',⟨by have := HK1.out;omega⟩,by repeat (first|exact Drawn0.refl _|apply Drawn0.step)⟩
     ·rw [if_neg c5] at H
      exact absurd H (by simp)
    ·rw [if_neg c4] at H
     exact absurd H (by simp)
   ·rw [if_neg c3] at H
    have c3b0 : decide (x8_1 < (l0.length : Int)) = false := decide_eq_false c3
    clear c3
    obtain rfl := Option.some.inj H
    go_wp2
    go_ret
    exact ⟨by first|rfl|(simp;done)|(simp [*];done),by repeat (first|exact Drawn0.refl _|apply Drawn0.step)⟩

/-! ### slices_Contains_int_int: function 43 -/
def slices_Contains_int_int.f (k : Nat) (l0 : List Int) (a1 : Int) : Option (Bool) := (slices_Index_int_int.f k l0 a1).bind fun t193 => (some (decide (t193 ≥ 0)))
theorem slices_Contains_int_int.mono : ∀ a0 a1 k, LeO (slices_Contains_int_int.f k a0 a1) (slices_Contains_int_int.f (k + 1) a0 a1) := by
 intro a0 a1 k
 unfold slices_Contains_int_int.f
 repeat' first
  |(with_reducible exact slices_Index_int_int.mono _ _ _)
  |(with_reducible exact LeO.refl _)
  |(with_reducible exact LeO.none _)
  |(with_reducible refine LeO.ite ?_ ?_)
  |(with_reducible refine LeO.bind ?_ (fun _ => ?_))
  |exact slices_Index_int_int.mono _ _ _
  |exact LeO.none _
  |refine LeO.ite ?_ ?_
  |refine LeO.bind ?_ (fun _ => ?_)
set_option maxHeartbeats 4000000 in
set_option maxRecDepth 100000 in
theorem slices_Contains_int_int.calls (k : Nat) (A0 : Option Addr) (c0 : Nat) (l0 : List Int) (a1 : Int) (r : Bool) (w : World) (hr0 : Kd.C (Kd.int .i64) w A0 l0.length l0) (hc0 : l0.length ≤ c0) (h : slices_Contains_int_int.f k l0 a1 = some r) :
  Calls Try.prog 43 #[.slice A0 l0.length c0,.int .i64 a1] w fun e w' => e = .returned (.bool r) ∧ Drawn0 w w' := by
 have HR0 := Aside0.mk hr0
 have HC0 := Aside0.mk hc0
 clear hr0 hc0
 have H : ((slices_Index_int_int.f k l0 a1).bind fun t193 => (some (decide (t193 ≥ 0)))) = some r := h
 clear h
 replace H := Option.bind_eq_some_iff.mp H
 obtain ⟨t193,A30,H⟩ := H
 replace H : (some (decide (t193 ≥ 0))) = some r := H
 have A3 := Aside0.mk A30
 clear A30
 obtain rfl := Option.some.inj H
 go_enter Try.func43,Try.ntmps43
 go_wp2_with (first|((with_reducible refine gate_callee (f := 57) rfl ?_);refine goesL_ (some 7) rfl rfl Try.func57 (by kernel_rfl) rfl #[.slice A0 l0.length c0,.int .i64 a1] rfl (by (try simp only [List.map_toArray,List.map_cons,List.map_nil]);first|done|rfl|(simp only [List.length_drop,List.length_take];rfl)) ?_;(with_reducible refine (slices_Index_int_int.calls k _ _ l0 a1 t193 _ ?side1 ?side2 A3.out).mono ?_);(case side1 => exact cM HR0.out);(case side2 => exact HC0.out);rintro e w' ⟨rfl,⟨nd,rfl⟩⟩;refine ⟨_,rfl,?_⟩))
 go_ret
 exact ⟨by first|rfl|(simp;done)|(simp [*];done),by repeat (first|exact Drawn0.refl _|apply Drawn0.step)⟩

/-! ### posting_Has: function 25 -/
def posting_Has.f (k : Nat) (l0 : List Int) (a1 : Int) : Option (Bool) := (posting_Valid.f k l0).bind fun t194 => (if t194 = true then ((slices_Contains_int_int.f k l0 a1).bind fun t195 => (some t195)) else (some false))
theorem posting_Has.mono : ∀ a0 a1 k, LeO (posting_Has.f k a0 a1) (posting_Has.f (k + 1) a0 a1) := by
 intro a0 a1 k
 unfold posting_Has.f
 repeat' first
  |(with_reducible exact posting_Valid.mono _ _)
  |(with_reducible exact slices_Contains_int_int.mono _ _ _)
  |(with_reducible exact LeO.refl _)
  |(with_reducible exact LeO.none _)
  |(with_reducible refine LeO.ite ?_ ?_)
  |(with_reducible refine LeO.bind ?_ (fun _ => ?_))
  |exact posting_Valid.mono _ _
  |exact slices_Contains_int_int.mono _ _ _
  |exact LeO.none _
  |refine LeO.ite ?_ ?_
  |refine LeO.bind ?_ (fun _ => ?_)
set_option maxHeartbeats 4000000 in
set_option maxRecDepth 100000 in
theorem posting_Has.calls (k : Nat) (A0 : Option Addr) (c0 : Nat) (l0 : List Int) (a1 : Int) (r : Bool) (w : World) (hr0 : Kd.C (Kd.int .i64) w A0 l0.length l0) (hc0 : l0.length ≤ c0) (h : posting_Has.f k l0 a1 = some r) :
  Calls Try.prog 25 #[.slice A0 l0.length c0,.int .i64 a1] w fun e w' => e = .returned (.bool r) ∧ Drawn0 w w' := by
 have HR0 := Aside0.mk hr0
 have HC0 := Aside0.mk hc0
 clear hr0 hc0
 have H : ((posting_Valid.f k l0).bind fun t194 => (if t194 = true then ((slices_Contains_int_int.f k l0 a1).bind fun t195 => (some t195)) else (some false))) = some r := h
 clear h
 replace H := Option.bind_eq_some_iff.mp H
 obtain ⟨t194,A30,H⟩ := H
 replace H : (if t194 = true then ((slices_Contains_int_int.f k l0 a1).bind fun t195 => (some t195)) else (some false)) = some r := H
 have A3 := Aside0.mk A30
 clear A30
 by_cases c4 : t194 = true
 ·subst c4
  have H1 : ((slices_Contains_int_int.f k l0 a1).bind fun t195 => (some t195)) = some r := by rw [if_pos rfl] at H;exact H
  clear H
  have H := H1
  clear H1
  replace H := Option.bind_eq_some_iff.mp H
  obtain ⟨t195,A50,H⟩ := H
  replace H : (some t195) = some r := H
  have A5 := Aside0.mk A50
  clear A50
  obtain rfl := Option.some.inj H
  go_enter Try.func25,Try.ntmps25
  go_wp2_with (first|((with_reducible refine gate_callee (f := 11) rfl ?_);refine goesL_ (some 6) rfl rfl Try.func11 (by kernel_rfl) rfl #[.slice A0 l0.length c0] rfl (by (try simp only [List.map_toArray,List.map_cons,List.map_nil]);first|done|rfl|(simp only [List.length_drop,List.length_take];rfl)) ?_;(with_reducible refine (posting_Valid.calls k _ _ l0 true _ ?side1 ?side2 A3.out).mono ?_);(case side1 => exact cM HR0.out);(case side2 => exact HC0.out);rintro e w' ⟨rfl,⟨nd,rfl⟩⟩;refine ⟨_,rfl,?_⟩)|(go_at_call 43;(with_reducible refine (slices_Contains_int_int.calls k _ _ l0 a1 t195 _ ?side1 ?side2 A5.out).mono ?_);(case side1 => exact cM HR0.out);(case side2 => exact HC0.out);rintro e w' ⟨rfl,⟨nd,rfl⟩⟩))
  go_ret
  exact ⟨by first|rfl|(simp;done)|(simp [*];done),by repeat (first|exact Drawn0.refl _|apply Drawn0.step)⟩
 ·replace c4 := Bool.eq_false_iff.mpr c4
  subst c4
  have H1 : (some false) = some r := by rw [if_neg (show ¬ (false = true) by decide)] at H;exact H
  clear H
  have H := H1
  clear H1
  obtain rfl := Option.some.inj H
  go_enter Try.func25,Try.ntmps25
  go_wp2_with (first|((with_reducible refine gate_callee (f := 11) rfl ?_);refine goesL_ (some 6) rfl rfl Try.func11 (by kernel_rfl) rfl #[.slice A0 l0.length c0] rfl (by (try simp only [List.map_toArray,List.map_cons,List.map_nil]);first|done|rfl|(simp only [List.length_drop,List.length_take];rfl)) ?_;(with_reducible refine (posting_Valid.calls k _ _ l0 false _ ?side1 ?side2 A3.out).mono ?_);(case side1 => exact cM HR0.out);(case side2 => exact HC0.out);rintro e w' ⟨rfl,⟨nd,rfl⟩⟩;refine ⟨_,rfl,?_⟩))
  go_ret
  exact ⟨by first|rfl|(simp;done)|(simp [*];done),by repeat (first|exact Drawn0.refl _|apply Drawn0.step)⟩

end Go.Proofs.Ytknpmknkkofnjaa.P
