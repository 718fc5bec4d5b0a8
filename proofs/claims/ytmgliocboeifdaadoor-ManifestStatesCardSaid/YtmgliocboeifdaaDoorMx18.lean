-- Written by hp.py, a program of this session, over the kit's print of the translation. Not trusted: Lean checks it.
import Derived.Test.YtmgliocboeifdaaDoorMx0
import Derived.Test.YtmgliocboeifdaaDoorMx2
import Derived.Test.YtmgliocboeifdaaDoorMx3
import Derived.Test.YtmgliocboeifdaaDoorMx15
import Derived.Test.YtmgliocboeifdaaDoorMx16
import Derived.Test.YtmgliocboeifdaaDoorMx17
namespace Go.Proofs.YtmgliocboeifdaaDoor.M
open Go.RowKit Go.Proofs.YtmgliocboeifdaaDoorW.PrintWords Go.Proofs.YtmgliocboeifdaaDoorW.PrintLast Go.Proofs.YtmgliocboeifdaaDoorW.PrintMore
attribute [local go_sem] max2_int min2_int max_two min_two max_three min_three max_four min_four   -- for this text's walks alone
set_option linter.unusedVariables false
set_option linter.unusedSimpArgs false

/-! ### codesearchref33_Dead: function 13 -/
mutual
def codesearchref33_Dead.l0 : Nat → List (S37) → List Int → Int → Option (List Int)
|0,_,_,_ => none
|k + 1,x0,x3,x4 => if x4 < (x0.length : Int) then (if 0 ≤ x4 then (if ((rd_T37 x0 x4).f1) = 3 then (codesearchref33_Dead.j1 k x0 ([] : List Int) x4) else (codesearchref33_Dead.j1 k x0 x3 x4)) else (none)) else (some x3)
def codesearchref33_Dead.j1 : Nat → List (S37) → List Int → Int → Option (List Int)
|0,_,_,_ => none
|k + 1,x0,x3,x4 => codesearchref33_Dead.l1 k x0 x3 x4 0
def codesearchref33_Dead.l1 : Nat → List (S37) → List Int → Int → Int → Option (List Int)
|0,_,_,_,_ => none
|k + 1,x0,x3,x4,x5 => if 0 ≤ x4 then (if x4 < (x0.length : Int) then (if ((rd_T37 x0 x4).f1) = 2 then (if x5 < (((rd_T37 x0 x4).f3).length : Int) then (if 0 ≤ x5 then ((codesearchref33_with.f k x3 (rd ((rd_T37 x0 x4).f3) x5)).bind fun t497 => (codesearchref33_Dead.l1 k x0 t497 x4 (wrap64 (x5 + 1)))) else (none)) else (codesearchref33_Dead.l0 k x0 x3 (wrap64 (x4 + 1)))) else (codesearchref33_Dead.l0 k x0 x3 (wrap64 (x4 + 1)))) else (none)) else (none)
end
def codesearchref33_Dead.f (k : Nat) (l0 : List (S37)) : Option (List Int) := codesearchref33_Dead.l0 k l0 ([] : List Int) 0
theorem codesearchref33_Dead.mono_l : ∀ k, (∀ y0 y1 y2, LeO (codesearchref33_Dead.l0 k y0 y1 y2) (codesearchref33_Dead.l0 (k + 1) y0 y1 y2)) ∧ (∀ y0 y1 y2, LeO (codesearchref33_Dead.j1 k y0 y1 y2) (codesearchref33_Dead.j1 (k + 1) y0 y1 y2)) ∧ (∀ y0 y1 y2 y3, LeO (codesearchref33_Dead.l1 k y0 y1 y2 y3) (codesearchref33_Dead.l1 (k + 1) y0 y1 y2 y3))
|0 => ⟨fun _ _ _ r h => by simp [codesearchref33_Dead.l0] at h,fun _ _ _ r h => by simp [codesearchref33_Dead.j1] at h,fun _ _ _ _ r h => by simp [codesearchref33_Dead.l1] at h⟩
|k + 1 => by
  obtain ⟨ih0,ih1,ih2⟩ := codesearchref33_Dead.mono_l k
  refine ⟨?_,?_,?_⟩
  ·intro y0 y1 y2
   unfold codesearchref33_Dead.l0
   repeat' (with_reducible first|exact ih1 _ _ _|exact LeO.refl _|exact LeO.none _|refine LeO.ite ?_ ?_|refine LeO.bind ?_ (fun _ => ?_))
  ·intro y0 y1 y2
   unfold codesearchref33_Dead.j1
   repeat' (with_reducible first|exact ih2 _ _ _ _|exact LeO.refl _|exact LeO.none _|refine LeO.ite ?_ ?_|refine LeO.bind ?_ (fun _ => ?_))
  ·intro y0 y1 y2 y3
   unfold codesearchref33_Dead.l1
   repeat' (with_reducible first|exact ih0 _ _ _|exact ih2 _ _ _ _|exact codesearchref33_with.mono _ _ _|exact LeO.refl _|exact LeO.none _|refine LeO.ite ?_ ?_|refine LeO.bind ?_ (fun _ => ?_))
theorem codesearchref33_Dead.mono : ∀ a0 k, LeO (codesearchref33_Dead.f k a0) (codesearchref33_Dead.f (k + 1) a0) := by
 intro a0 k
 obtain ⟨ih0,ih1,ih2⟩ := codesearchref33_Dead.mono_l k
 unfold codesearchref33_Dead.f
 repeat' first
  |(with_reducible exact ih0 _ _ _)
  |(with_reducible exact ih1 _ _ _)
  |(with_reducible exact ih2 _ _ _ _)
  |(with_reducible exact codesearchref33_with.mono _ _ _)
  |(with_reducible exact LeO.refl _)
  |(with_reducible exact LeO.none _)
  |(with_reducible refine LeO.ite ?_ ?_)
  |(with_reducible refine LeO.bind ?_ (fun _ => ?_))
  |exact ih0 _ _ _
  |exact ih1 _ _ _
  |exact ih2 _ _ _ _
  |exact codesearchref33_with.mono _ _ _
  |exact LeO.none _
  |refine LeO.ite ?_ ?_
  |refine LeO.bind ?_ (fun _ => ?_)
set_option maxHeartbeats 4000000 in
set_option maxRecDepth 100000 in
theorem codesearchref33_Dead.calls (k : Nat) (A0 : Option Addr) (c0 : Nat) (l0 : List (S37)) (r : List Int) (w : World) (hr0 : Kd.C k37 w A0 l0.length l0) (hc0 : l0.length ≤ c0) (h : codesearchref33_Dead.f k l0 = some r) :
  Calls Tryd.prog 13 #[.slice A0 l0.length c0] w fun e w' => ∃ v0_ : Value,e = .returned (v0_) ∧ Kd.R (Kd.int .i64) 3 w' w.heap.size (fun _ => True) v0_ r ∧ Below w.heap.size w w' := by
 have HR0 := aK hr0
 have HC0 := aK hc0
 clear hr0 hc0
 have HB := aK (Below.refl w.heap.size w)
 have H : (codesearchref33_Dead.l0 k l0 ([] : List Int) 0) = some r := h
 clear h
 have H' := aK H
 clear H
 go_enter Tryd.func13,Tryd.ntmps13
 go_wp2
 go_loopg [3,4] k (fun kq v3 v4 w' => ∃ (x3_1 : List Int) (x4_1 : Int),v4 = .int .i64 x4_1 ∧ Aside0 (codesearchref33_Dead.l0 kq l0 x3_1 x4_1 = some r) ∧ Aside0 (kq ≤ k) ∧ Aside0 (Kd.R (Kd.int .i64) 3 w' w.heap.size (fun _ => True) v3 x3_1) ∧ Aside0 (Below w.heap.size w w'))
 case atStart => exact ⟨(([] : List Int)),(0),(by first|rfl|(simp;done)|(simp [*];done)),H',⟨Nat.le_refl _⟩,⟨by first|exact Kd.R_nil _ _ _ _ _|exact Kd.N_nil _ _ _ _ _|exact Kd.V_nil _ _ _ _ _|exact Kd.Q_nil _ _ _ _ _|exact Kd.S_nil _ _ _ _ _⟩,⟨bM HB.out⟩⟩
 case round =>
  clear H'
  try clear c1
  obtain ⟨x3_1,x4_1,rfl,HA,HK1,HO_3,HB⟩ := hrel
  cases gk with
 |zero => exact absurd HA.out (by simp [codesearchref33_Dead.l0])
 |succ k1 =>
   have H := HA.out
   clear HA
   simp only [codesearchref33_Dead.l0] at H
   by_cases c2 : x4_1 < (l0.length : Int)
   ·rw [if_pos c2] at H
    have c2b0 : decide (x4_1 < (l0.length : Int)) = true := decide_eq_true c2
    clear c2
    by_cases c3 : 0 ≤ x4_1
    ·rw [if_pos c3] at H
     have c3b0 : decide (0 ≤ x4_1) = true := decide_eq_true c3
     clear c3
     have HC4 := aK H
     clear H
     have p492 : 0 ≤ (x4_1 : Int) := of_decide_eq_true (by first|(with_reducible assumption)|assumption)
     have q492 : x4_1 < (l0.length : Int) := of_decide_eq_true (by first|(with_reducible assumption)|assumption)
     obtain ⟨ad492,A492_3,c492_3,A492_4,c492_4,A492_5,c492_5,e492,hx492_0,hx492_1,hx492_2,hx492_3,hx492_4,hx492_5,hl492_3,hi492_3,hl492_4,hi492_4,hl492_5,hi492_5⟩ := at_T37 HR0.out x4_1 p492 q492
     cases e492
     replace hx492_0 := (HB.out.cell (World.block_lt_of_cell? w _ hx492_0)).trans hx492_0
     replace hx492_1 := (HB.out.cell (World.block_lt_of_cell? w _ hx492_1)).trans hx492_1
     replace hx492_2 := (HB.out.cell (World.block_lt_of_cell? w _ hx492_2)).trans hx492_2
     replace hx492_3 := (HB.out.cell (World.block_lt_of_cell? w _ hx492_3)).trans hx492_3
     replace hx492_4 := (HB.out.cell (World.block_lt_of_cell? w _ hx492_4)).trans hx492_4
     replace hx492_5 := (HB.out.cell (World.block_lt_of_cell? w _ hx492_5)).trans hx492_5
     have HR492_3 := aK hi492_3
     have HC492_3 := aK hl492_3
     clear hi492_3 hl492_3
     have HR492_4 := aK hi492_4
     have HC492_4 := aK hl492_4
     clear hi492_4 hl492_4
     have HR492_5 := aK hi492_5
     have HC492_5 := aK hl492_5
     clear hi492_5 hl492_5
     replace p492 := eq_true p492
     replace q492 := eq_true q492
     go_upto_if 17 with (fail)
     go_cut [3] (fun v3 wc => ∃ (kq : Nat) (x3_3 : List Int),Aside0 (codesearchref33_Dead.j1 kq l0 x3_3 x4_1 = some r) ∧ Aside0 (kq ≤ k1) ∧ Aside0 (Kd.R (Kd.int .i64) 3 wc w.heap.size (fun _ => True) v3 x3_3) ∧ Aside0 (Below w.heap.size w wc))
     case first =>
      have H := HC4.out
      clear HC4
      by_cases c5 : ((rd_T37 l0 x4_1).f1) = 3
      ·rw [if_pos c5] at H
       have c5b0 : (((rd_T37 l0 x4_1).f1) == 3) = true := beq_iff_eq.mpr c5
       have c5b1 : (((rd_T37 l0 x4_1).f1) != 3) = false := bne_eq_false_iff_eq.mpr c5
       clear c5
       (first|rw [c5b0]|(simp only [i64_w,i32_w];rw [c5b0])|rw [c5b1]|skip)
       have H' := aK H
       clear H
       go_wp2
       go_meet
       case rel => exact ⟨_,(([] : List Int)),H',⟨by have := HK1.out;first|omega|exact Nat.le_refl _⟩,⟨by first|exact Kd.R_nil _ _ _ _ _|exact Kd.N_nil _ _ _ _ _|exact Kd.V_nil _ _ _ _ _|exact Kd.Q_nil _ _ _ _ _|exact Kd.S_nil _ _ _ _ _⟩,⟨bM HB.out⟩⟩
      ·rw [if_neg c5] at H
       have c5b0 : (((rd_T37 l0 x4_1).f1) == 3) = false := beq_eq_false_iff_ne.mpr c5
       have c5b1 : (((rd_T37 l0 x4_1).f1) != 3) = true := bne_iff_ne.mpr c5
       (first|rw [c5b0]|(simp only [i64_w,i32_w];rw [c5b0])|rw [c5b1]|skip)
       have H' := aK H
       clear H
       go_wp2
       go_meet
       case rel => exact ⟨_,(x3_1),H',⟨by have := HK1.out;first|omega|exact Nat.le_refl _⟩,⟨rM HO_3.out⟩,⟨bM HB.out⟩⟩
     case rest =>
      clear HC4
      try clear c1
      try clear c2
      try clear c2b0
      try clear p2
      try clear c3
      try clear c3b0
      try clear c4
      try clear p4
      try clear q4
      try clear hx4
      try clear c5
      try clear c5b0
      try clear c5b1
      try clear hx492_0
      try clear hx492_1
      try clear hx492_2
      try clear hx492_3
      try clear hx492_4
      try clear hx492_5
      try clear p492
      try clear q492
      obtain ⟨kq,x3_3,HA,HJ3,HO_3,HB⟩ := hcut
      cases kq with
     |zero => exact absurd HA.out (by simp [codesearchref33_Dead.j1])
     |succ kj3 =>
       have H := HA.out
       clear HA
       simp only [codesearchref33_Dead.j1] at H
       have H' := aK H
       clear H
       go_wp2
       go_loopg [3,5] kj3 (fun kq v3 v5 w' => ∃ (x3_3 : List Int) (x5_3 : Int),v5 = .int .i64 x5_3 ∧ Aside0 (codesearchref33_Dead.l1 kq l0 x3_3 x4_1 x5_3 = some r) ∧ Aside0 (kq ≤ kj3) ∧ Aside0 (Kd.R (Kd.int .i64) 3 w' w.heap.size (fun _ => True) v3 x3_3) ∧ Aside0 (Below w.heap.size w w'))
       case atStart => exact ⟨(x3_3),(0),(by first|rfl|(simp;done)|(simp [*];done)),H',⟨Nat.le_refl _⟩,⟨rM HO_3.out⟩,⟨bM HB.out⟩⟩
       case round =>
        clear H'
        try clear c1
        try clear c2
        try clear c2b0
        try clear p2
        try clear c3
        try clear c3b0
        try clear c4
        try clear p4
        try clear q4
        try clear hx4
        try clear c5
        try clear c5b0
        try clear c5b1
        try clear hx492_0
        try clear hx492_1
        try clear hx492_2
        try clear hx492_3
        try clear hx492_4
        try clear hx492_5
        try clear p2
        try clear p4
        try clear p492
        try clear q4
        try clear q492
        obtain ⟨x3_3,x5_3,rfl,HA,HK3,HO_3,HB⟩ := hrel
        cases gk with
       |zero => exact absurd HA.out (by simp [codesearchref33_Dead.l1])
       |succ k3 =>
         have H := HA.out
         clear HA
         simp only [codesearchref33_Dead.l1] at H
         by_cases c6 : 0 ≤ x4_1
         ·rw [if_pos c6] at H
          have c6b0 : decide (0 ≤ x4_1) = true := decide_eq_true c6
          clear c6
          by_cases c7 : x4_1 < (l0.length : Int)
          ·rw [if_pos c7] at H
           have c7b0 : decide (x4_1 < (l0.length : Int)) = true := decide_eq_true c7
           clear c7
           by_cases c8 : ((rd_T37 l0 x4_1).f1) = 2
           ·rw [if_pos c8] at H
            have c8b0 : (((rd_T37 l0 x4_1).f1) == 2) = true := beq_iff_eq.mpr c8
            have c8b1 : (((rd_T37 l0 x4_1).f1) != 2) = false := bne_eq_false_iff_eq.mpr c8
            clear c8
            by_cases c9 : x5_3 < (((rd_T37 l0 x4_1).f3).length : Int)
            ·rw [if_pos c9] at H
             have c9b0 : decide (x5_3 < (((rd_T37 l0 x4_1).f3).length : Int)) = true := decide_eq_true c9
             clear c9
             by_cases c10 : 0 ≤ x5_3
             ·rw [if_pos c10] at H
              have c10b0 : decide (0 ≤ x5_3) = true := decide_eq_true c10
              clear c10
              replace H := Option.bind_eq_some_iff.mp H
              obtain ⟨t497,A110,H⟩ := H
              have A11 := aK A110
              clear A110
              have H' := aK H
              clear H
              have p493 : 0 ≤ (x4_1 : Int) := of_decide_eq_true (by first|(with_reducible assumption)|assumption)
              have q493 : x4_1 < (l0.length : Int) := of_decide_eq_true (by first|(with_reducible assumption)|assumption)
              obtain ⟨ad493,A493_3,c493_3,A493_4,c493_4,A493_5,c493_5,e493,hx493_0,hx493_1,hx493_2,hx493_3,hx493_4,hx493_5,hl493_3,hi493_3,hl493_4,hi493_4,hl493_5,hi493_5⟩ := at_T37 HR0.out x4_1 p493 q493
              obtain rfl : ad492 = ad493 := (by injection e493)
              replace hx493_0 := (HB.out.cell (World.block_lt_of_cell? w _ hx493_0)).trans hx493_0
              replace hx493_1 := (HB.out.cell (World.block_lt_of_cell? w _ hx493_1)).trans hx493_1
              replace hx493_2 := (HB.out.cell (World.block_lt_of_cell? w _ hx493_2)).trans hx493_2
              replace hx493_3 := (HB.out.cell (World.block_lt_of_cell? w _ hx493_3)).trans hx493_3
              replace hx493_4 := (HB.out.cell (World.block_lt_of_cell? w _ hx493_4)).trans hx493_4
              replace hx493_5 := (HB.out.cell (World.block_lt_of_cell? w _ hx493_5)).trans hx493_5
              have HR493_3 := aK hi493_3
              have HC493_3 := aK hl493_3
              clear hi493_3 hl493_3
              have HR493_4 := aK hi493_4
              have HC493_4 := aK hl493_4
              clear hi493_4 hl493_4
              have HR493_5 := aK hi493_5
              have HC493_5 := aK hl493_5
              clear hi493_5 hl493_5
              replace p493 := eq_true p493
              replace q493 := eq_true q493
              have p494 : 0 ≤ (x4_1 : Int) := of_decide_eq_true (by first|(with_reducible assumption)|assumption)
              have q494 : x4_1 < (l0.length : Int) := of_decide_eq_true (by first|(with_reducible assumption)|assumption)
              obtain ⟨ad494,A494_3,c494_3,A494_4,c494_4,A494_5,c494_5,e494,hx494_0,hx494_1,hx494_2,hx494_3,hx494_4,hx494_5,hl494_3,hi494_3,hl494_4,hi494_4,hl494_5,hi494_5⟩ := at_T37 HR0.out x4_1 p494 q494
              obtain rfl : ad492 = ad494 := (by injection e494)
              replace hx494_0 := (HB.out.cell (World.block_lt_of_cell? w _ hx494_0)).trans hx494_0
              replace hx494_1 := (HB.out.cell (World.block_lt_of_cell? w _ hx494_1)).trans hx494_1
              replace hx494_2 := (HB.out.cell (World.block_lt_of_cell? w _ hx494_2)).trans hx494_2
              replace hx494_3 := (HB.out.cell (World.block_lt_of_cell? w _ hx494_3)).trans hx494_3
              replace hx494_4 := (HB.out.cell (World.block_lt_of_cell? w _ hx494_4)).trans hx494_4
              replace hx494_5 := (HB.out.cell (World.block_lt_of_cell? w _ hx494_5)).trans hx494_5
              have HR494_3 := aK hi494_3
              have HC494_3 := aK hl494_3
              clear hi494_3 hl494_3
              have HR494_4 := aK hi494_4
              have HC494_4 := aK hl494_4
              clear hi494_4 hl494_4
              have HR494_5 := aK hi494_5
              have HC494_5 := aK hl494_5
              clear hi494_5 hl494_5
              replace p494 := eq_true p494
              replace q494 := eq_true q494
              have ea_ := Option.some.inj (hx493_3.symm.trans hx494_3)
              injection ea_ with ea_ en_ ec_
              subst ea_
              subst ec_
              clear en_
              have ea_ := Option.some.inj (hx493_4.symm.trans hx494_4)
              injection ea_ with ea_ en_ ec_
              subst ea_
              subst ec_
              clear en_
              have ea_ := Option.some.inj (hx493_5.symm.trans hx494_5)
              injection ea_ with ea_ en_ ec_
              subst ea_
              subst ec_
              clear en_
              have p495 : 0 ≤ (x4_1 : Int) := of_decide_eq_true (by first|(with_reducible assumption)|assumption)
              have q495 : x4_1 < (l0.length : Int) := of_decide_eq_true (by first|(with_reducible assumption)|assumption)
              obtain ⟨ad495,A495_3,c495_3,A495_4,c495_4,A495_5,c495_5,e495,hx495_0,hx495_1,hx495_2,hx495_3,hx495_4,hx495_5,hl495_3,hi495_3,hl495_4,hi495_4,hl495_5,hi495_5⟩ := at_T37 HR0.out x4_1 p495 q495
              obtain rfl : ad492 = ad495 := (by injection e495)
              replace hx495_0 := (HB.out.cell (World.block_lt_of_cell? w _ hx495_0)).trans hx495_0
              replace hx495_1 := (HB.out.cell (World.block_lt_of_cell? w _ hx495_1)).trans hx495_1
              replace hx495_2 := (HB.out.cell (World.block_lt_of_cell? w _ hx495_2)).trans hx495_2
              replace hx495_3 := (HB.out.cell (World.block_lt_of_cell? w _ hx495_3)).trans hx495_3
              replace hx495_4 := (HB.out.cell (World.block_lt_of_cell? w _ hx495_4)).trans hx495_4
              replace hx495_5 := (HB.out.cell (World.block_lt_of_cell? w _ hx495_5)).trans hx495_5
              have HR495_3 := aK hi495_3
              have HC495_3 := aK hl495_3
              clear hi495_3 hl495_3
              have HR495_4 := aK hi495_4
              have HC495_4 := aK hl495_4
              clear hi495_4 hl495_4
              have HR495_5 := aK hi495_5
              have HC495_5 := aK hl495_5
              clear hi495_5 hl495_5
              replace p495 := eq_true p495
              replace q495 := eq_true q495
              have ea_ := Option.some.inj (hx493_3.symm.trans hx495_3)
              injection ea_ with ea_ en_ ec_
              subst ea_
              subst ec_
              clear en_
              have ea_ := Option.some.inj (hx493_4.symm.trans hx495_4)
              injection ea_ with ea_ en_ ec_
              subst ea_
              subst ec_
              clear en_
              have ea_ := Option.some.inj (hx493_5.symm.trans hx495_5)
              injection ea_ with ea_ en_ ec_
              subst ea_
              subst ec_
              clear en_
              have p496 : 0 ≤ (x5_3 : Int) := of_decide_eq_true (by first|(with_reducible assumption)|assumption)
              have q496 : x5_3 < (((rd_T37 l0 x4_1).f3).length : Int) := of_decide_eq_true (by first|(with_reducible assumption)|assumption)
              obtain ⟨ad496,e496,hx496_0⟩ := Kd.at_int HR495_3.out x5_3 p496 q496
              cases e496
              replace hx496_0 := (HB.out.cell (World.block_lt_of_cell? w _ hx496_0)).trans hx496_0
              replace p496 := eq_true p496
              replace q496 := eq_true q496
              obtain ⟨Ao12,co12,eo12⟩ := Kd.R_slice HO_3.out
              subst eo12
              go_wp2_with (first|((with_reducible refine gate_callee (f := 25) rfl ?_);refine goesL_ (some 45) rfl rfl Tryd.func25 (by kernel_rfl) rfl #[.slice Ao12 x3_3.length co12,.int .i64 (rd ((rd_T37 l0 x4_1).f3) x5_3)] rfl (by (try simp only [List.map_toArray,List.map_cons,List.map_nil]);first|done|rfl|(simp only [List.length_drop,List.length_take];rfl)) ?_;(with_reducible refine (codesearchref33_with.calls k3 (fun k_ => some k_ = (.slice Ao12 x3_3.length co12 : Value).ownBlock) (.slice Ao12 x3_3.length co12) x3_3 (rd ((rd_T37 l0 x4_1).f3) x5_3) t497 w _ ?side1 ?side2 A11.out).mono ?_);(case side1 => repeat (first|(with_reducible first|exact HB.out|apply below_alloc|apply pw_below_drewN|apply below_drew1)|exact HB.out));(case side2 => exact Kd.R_tight rfl HO_3.out);rintro e w13 ⟨v498,rfl,ho0,hb,hkp⟩;refine ⟨_,rfl,?_⟩;have HO499 := aK (Kd.R_mono (ok' := fun k_ => True) ho0 (fun k_ hk_ => trivial));replace HB := aK (hb);(try clear hb);(try clear hkp);(try clear ho0)))
              go_roundg k3
              case measure => have := HK1.out;have := HJ3.out;have := HK3.out;omega
              case rel => exact ⟨(t497),(wrap64 (x5_3 + 1)),(by first|rfl|(simp;done)|(simp [*];done)),H',⟨by have := HK1.out;have := HJ3.out;have := HK3.out;omega⟩,⟨rM HO499.out⟩,⟨bM HB.out⟩⟩
             ·rw [if_neg c10] at H
              exact absurd H (by simp)
            ·rw [if_neg c9] at H
             have c9b0 : decide (x5_3 < (((rd_T37 l0 x4_1).f3).length : Int)) = false := decide_eq_false c9
             clear c9
             have H' := aK H
             clear H
             have p493 : 0 ≤ (x4_1 : Int) := of_decide_eq_true (by first|(with_reducible assumption)|assumption)
             have q493 : x4_1 < (l0.length : Int) := of_decide_eq_true (by first|(with_reducible assumption)|assumption)
             obtain ⟨ad493,A493_3,c493_3,A493_4,c493_4,A493_5,c493_5,e493,hx493_0,hx493_1,hx493_2,hx493_3,hx493_4,hx493_5,hl493_3,hi493_3,hl493_4,hi493_4,hl493_5,hi493_5⟩ := at_T37 HR0.out x4_1 p493 q493
             obtain rfl : ad492 = ad493 := (by injection e493)
             replace hx493_0 := (HB.out.cell (World.block_lt_of_cell? w _ hx493_0)).trans hx493_0
             replace hx493_1 := (HB.out.cell (World.block_lt_of_cell? w _ hx493_1)).trans hx493_1
             replace hx493_2 := (HB.out.cell (World.block_lt_of_cell? w _ hx493_2)).trans hx493_2
             replace hx493_3 := (HB.out.cell (World.block_lt_of_cell? w _ hx493_3)).trans hx493_3
             replace hx493_4 := (HB.out.cell (World.block_lt_of_cell? w _ hx493_4)).trans hx493_4
             replace hx493_5 := (HB.out.cell (World.block_lt_of_cell? w _ hx493_5)).trans hx493_5
             have HR493_3 := aK hi493_3
             have HC493_3 := aK hl493_3
             clear hi493_3 hl493_3
             have HR493_4 := aK hi493_4
             have HC493_4 := aK hl493_4
             clear hi493_4 hl493_4
             have HR493_5 := aK hi493_5
             have HC493_5 := aK hl493_5
             clear hi493_5 hl493_5
             replace p493 := eq_true p493
             replace q493 := eq_true q493
             have p494 : 0 ≤ (x4_1 : Int) := of_decide_eq_true (by first|(with_reducible assumption)|assumption)
             have q494 : x4_1 < (l0.length : Int) := of_decide_eq_true (by first|(with_reducible assumption)|assumption)
             obtain ⟨ad494,A494_3,c494_3,A494_4,c494_4,A494_5,c494_5,e494,hx494_0,hx494_1,hx494_2,hx494_3,hx494_4,hx494_5,hl494_3,hi494_3,hl494_4,hi494_4,hl494_5,hi494_5⟩ := at_T37 HR0.out x4_1 p494 q494
             obtain rfl : ad492 = ad494 := (by injection e494)
             replace hx494_0 := (HB.out.cell (World.block_lt_of_cell? w _ hx494_0)).trans hx494_0
             replace hx494_1 := (HB.out.cell (World.block_lt_of_cell? w _ hx494_1)).trans hx494_1
             replace hx494_2 := (HB.out.cell (World.block_lt_of_cell? w _ hx494_2)).trans hx494_2
             replace hx494_3 := (HB.out.cell (World.block_lt_of_cell? w _ hx494_3)).trans hx494_3
             replace hx494_4 := (HB.out.cell (World.block_lt_of_cell? w _ hx494_4)).trans hx494_4
             replace hx494_5 := (HB.out.cell (World.block_lt_of_cell? w _ hx494_5)).trans hx494_5
             have HR494_3 := aK hi494_3
             have HC494_3 := aK hl494_3
             clear hi494_3 hl494_3
             have HR494_4 := aK hi494_4
             have HC494_4 := aK hl494_4
             clear hi494_4 hl494_4
             have HR494_5 := aK hi494_5
             have HC494_5 := aK hl494_5
             clear hi494_5 hl494_5
             replace p494 := eq_true p494
             replace q494 := eq_true q494
             have ea_ := Option.some.inj (hx493_3.symm.trans hx494_3)
             injection ea_ with ea_ en_ ec_
             subst ea_
             subst ec_
             clear en_
             have ea_ := Option.some.inj (hx493_4.symm.trans hx494_4)
             injection ea_ with ea_ en_ ec_
             subst ea_
             subst ec_
             clear en_
             have ea_ := Option.some.inj (hx493_5.symm.trans hx494_5)
             injection ea_ with ea_ en_ ec_
             subst ea_
             subst ec_
             clear en_
             go_wp2
             go_roundg k3
             case measure => have := HK1.out;have := HJ3.out;have := HK3.out;omega
             case rel => exact ⟨(x3_3),(wrap64 (x4_1 + 1)),(by first|rfl|(simp;done)|(simp [*];done)),H',⟨by have := HK1.out;have := HJ3.out;have := HK3.out;omega⟩,⟨rM HO_3.out⟩,⟨bM HB.out⟩⟩
           ·rw [if_neg c8] at H
            have c8b0 : (((rd_T37 l0 x4_1).f1) == 2) = false := beq_eq_false_iff_ne.mpr c8
            have c8b1 : (((rd_T37 l0 x4_1).f1) != 2) = true := bne_iff_ne.mpr c8
            have H' := aK H
            clear H
            have p493 : 0 ≤ (x4_1 : Int) := of_decide_eq_true (by first|(with_reducible assumption)|assumption)
            have q493 : x4_1 < (l0.length : Int) := of_decide_eq_true (by first|(with_reducible assumption)|assumption)
            obtain ⟨ad493,A493_3,c493_3,A493_4,c493_4,A493_5,c493_5,e493,hx493_0,hx493_1,hx493_2,hx493_3,hx493_4,hx493_5,hl493_3,hi493_3,hl493_4,hi493_4,hl493_5,hi493_5⟩ := at_T37 HR0.out x4_1 p493 q493
            obtain rfl : ad492 = ad493 := (by injection e493)
            replace hx493_0 := (HB.out.cell (World.block_lt_of_cell? w _ hx493_0)).trans hx493_0
            replace hx493_1 := (HB.out.cell (World.block_lt_of_cell? w _ hx493_1)).trans hx493_1
            replace hx493_2 := (HB.out.cell (World.block_lt_of_cell? w _ hx493_2)).trans hx493_2
            replace hx493_3 := (HB.out.cell (World.block_lt_of_cell? w _ hx493_3)).trans hx493_3
            replace hx493_4 := (HB.out.cell (World.block_lt_of_cell? w _ hx493_4)).trans hx493_4
            replace hx493_5 := (HB.out.cell (World.block_lt_of_cell? w _ hx493_5)).trans hx493_5
            have HR493_3 := aK hi493_3
            have HC493_3 := aK hl493_3
            clear hi493_3 hl493_3
            have HR493_4 := aK hi493_4
            have HC493_4 := aK hl493_4
            clear hi493_4 hl493_4
            have HR493_5 := aK hi493_5
            have HC493_5 := aK hl493_5
            clear hi493_5 hl493_5
            replace p493 := eq_true p493
            replace q493 := eq_true q493
            go_wp2
            go_roundg k3
            case measure => have := HK1.out;have := HJ3.out;have := HK3.out;omega
            case rel => exact ⟨(x3_3),(wrap64 (x4_1 + 1)),(by first|rfl|(simp;done)|(simp [*];done)),H',⟨by have := HK1.out;have := HJ3.out;have := HK3.out;omega⟩,⟨rM HO_3.out⟩,⟨bM HB.out⟩⟩
          ·rw [if_neg c7] at H
           exact absurd H (by simp)
         ·rw [if_neg c6] at H
          exact absurd H (by simp)
    ·rw [if_neg c3] at H
     exact absurd H (by simp)
   ·rw [if_neg c2] at H
    have c2b0 : decide (x4_1 < (l0.length : Int)) = false := decide_eq_false c2
    clear c2
    obtain rfl := Option.some.inj H
    go_wp2
    go_ret
    exact ⟨_,by first|rfl|(simp [errW_none,errW_some] <;> rfl)|(simp [*,errW_none,errW_some] <;> rfl),rM HO_3.out,bM HB.out⟩

/-! ### codesearchlaw33_ManifestStates: function 3 -/
def codesearchlaw33_ManifestStates.f (k : Nat) (l0 : List (S37)) : Option (Bool) := (codesearchlaw33_alive.f k).bind fun t500 => (if t500 = true then ((codesearchlaw33_small.f k l0).bind fun t501 => (if t501 = true then ((manifest_Live.f k l0).bind fun t502 => ((codesearchref33_Live.f k l0).bind fun t505 => ((codesearchref33_SameInts.f k t502 t505).bind fun t508 => (if t508 = true then ((manifest_Dead.f k l0).bind fun t509 => ((codesearchref33_Dead.f k l0).bind fun t512 => ((codesearchref33_SameInts.f k t509 t512).bind fun t515 => (some t515)))) else (some false))))) else (some true))) else (some false))
theorem codesearchlaw33_ManifestStates.mono : ∀ a0 k, LeO (codesearchlaw33_ManifestStates.f k a0) (codesearchlaw33_ManifestStates.f (k + 1) a0) := by
 intro a0 k
 unfold codesearchlaw33_ManifestStates.f
 repeat' first
  |(with_reducible exact codesearchlaw33_alive.mono _)
  |(with_reducible exact codesearchlaw33_small.mono _ _)
  |(with_reducible exact codesearchref33_Dead.mono _ _)
  |(with_reducible exact codesearchref33_Live.mono _ _)
  |(with_reducible exact codesearchref33_SameInts.mono _ _ _)
  |(with_reducible exact manifest_Dead.mono _ _)
  |(with_reducible exact manifest_Live.mono _ _)
  |(with_reducible exact LeO.refl _)
  |(with_reducible exact LeO.none _)
  |(with_reducible refine LeO.ite ?_ ?_)
  |(with_reducible refine LeO.bind ?_ (fun _ => ?_))
  |exact codesearchlaw33_alive.mono _
  |exact codesearchlaw33_small.mono _ _
  |exact codesearchref33_Dead.mono _ _
  |exact codesearchref33_Live.mono _ _
  |exact codesearchref33_SameInts.mono _ _ _
  |exact manifest_Dead.mono _ _
  |exact manifest_Live.mono _ _
  |exact LeO.none _
  |refine LeO.ite ?_ ?_
  |refine LeO.bind ?_ (fun _ => ?_)
set_option maxHeartbeats 4000000 in
set_option maxRecDepth 100000 in
theorem codesearchlaw33_ManifestStates.calls (k : Nat) (A0 : Option Addr) (c0 : Nat) (l0 : List (S37)) (r : Bool) (w : World) (hr0 : Kd.C k37 w A0 l0.length l0) (hc0 : l0.length ≤ c0) (h : codesearchlaw33_ManifestStates.f k l0 = some r) :
  Calls Tryd.prog 3 #[.slice A0 l0.length c0] w fun e w' => e = .returned (.bool r) ∧ Below w.heap.size w w' := by
 have HR0 := aK hr0
 have HC0 := aK hc0
 clear hr0 hc0
 have HB := aK (Below.refl w.heap.size w)
 unfold codesearchlaw33_ManifestStates.f at h
 have H := h
 clear h
 replace H := Option.bind_eq_some_iff.mp H
 obtain ⟨t500,A20,H⟩ := H
 have A2 := aK A20
 clear A20
 by_cases c3 : t500 = true
 ·subst c3
  rw [if_pos rfl] at H
  replace H := Option.bind_eq_some_iff.mp H
  obtain ⟨t501,A40,H⟩ := H
  have A4 := aK A40
  clear A40
  by_cases c5 : t501 = true
  ·subst c5
   rw [if_pos rfl] at H
   replace H := Option.bind_eq_some_iff.mp H
   obtain ⟨t502,A60,H⟩ := H
   have A6 := aK A60
   clear A60
   replace H := Option.bind_eq_some_iff.mp H
   obtain ⟨t505,A70,H⟩ := H
   have A7 := aK A70
   clear A70
   replace H := Option.bind_eq_some_iff.mp H
   obtain ⟨t508,A80,H⟩ := H
   have A8 := aK A80
   clear A80
   by_cases c9 : t508 = true
   ·subst c9
    rw [if_pos rfl] at H
    replace H := Option.bind_eq_some_iff.mp H
    obtain ⟨t509,A100,H⟩ := H
    have A10 := aK A100
    clear A100
    replace H := Option.bind_eq_some_iff.mp H
    obtain ⟨t512,A110,H⟩ := H
    have A11 := aK A110
    clear A110
    replace H := Option.bind_eq_some_iff.mp H
    obtain ⟨t515,A120,H⟩ := H
    have A12 := aK A120
    clear A120
    obtain rfl := Option.some.inj H
    go_enter Tryd.func3,Tryd.ntmps3
    go_wp2_with (first|((with_reducible refine gate_callee (f := 7) rfl ?_);refine goesL_ (some 3) rfl rfl Tryd.func7 (by kernel_rfl) rfl #[] rfl (by (try simp only [List.map_toArray,List.map_cons,List.map_nil]);first|done|rfl|(simp only [List.length_drop,List.length_take];rfl)) ?_;(with_reducible refine (codesearchlaw33_alive.calls k  true _ A2.out).mono ?_);rintro e w13 ⟨rfl,hb⟩;refine ⟨_,rfl,?_⟩;replace HB := aK (below_step (bM HB.out) hb);(try clear hb))|((with_reducible refine gate_callee (f := 8) rfl ?_);refine goesL_ (some 6) rfl rfl Tryd.func8 (by kernel_rfl) rfl #[.slice A0 l0.length c0] rfl (by (try simp only [List.map_toArray,List.map_cons,List.map_nil]);first|done|rfl|(simp only [List.length_drop,List.length_take];rfl)) ?_;(with_reducible refine (codesearchlaw33_small.calls k _ _ l0 true _ ?side1 ?side2 A4.out).mono ?_);(case side1 => exact cM (Kd.C_below HR0.out HB.out));(case side2 => exact HC0.out);rintro e w' ⟨rfl,⟨nd,rfl⟩⟩;refine ⟨_,rfl,?_⟩)|(go_at_call 10;(with_reducible refine (manifest_Live.calls k _ _ l0 t502 _ ?side1 ?side2 A6.out).mono ?_);(case side1 => exact Kd.C_below HR0.out (bM HB.out));(case side2 => exact HC0.out);rintro e w14 ⟨v503,rfl,ho0,hb⟩;have HO504 := aK (Kd.R_lower ho0 (below_size (bM HB.out)));replace HB := aK (below_step (bM HB.out) hb);(try clear hb);(try clear ho0))|(go_at_call 11;(with_reducible refine (codesearchref33_Live.calls k _ _ l0 t505 _ ?side1 ?side2 A7.out).mono ?_);(case side1 => exact cM (Kd.C_below HR0.out HB.out));(case side2 => exact HC0.out);rintro e w15 ⟨v506,rfl,ho0,hb⟩;have HO507 := aK (Kd.R_lower (Kd.R_new' ho0 (Kd.R_lt (rM HO504.out))) (below_size (bM HB.out)));replace HO504 := aK (Kd.R_elder' (rM HO504.out) (Kd.R_base ho0) hb);replace HB := aK (below_step (bM HB.out) hb);(try clear hb);(try clear ho0);obtain ⟨Ao16,co16,eo16⟩ := Kd.R_slice HO504.out;subst eo16;obtain ⟨Ao17,co17,eo17⟩ := Kd.R_slice HO507.out;subst eo17)|(go_at_call 9;(with_reducible refine (codesearchref33_SameInts.calls k _ _ t502 _ _ t505 true _ ?side1 ?side2 ?side3 ?side4 A8.out).mono ?_);(case side1 => exact cM (Kd.R_reads' HO504.out).2.2);(case side2 => exact (Kd.R_reads' HO504.out).2.1);(case side3 => exact cM (Kd.R_reads' HO507.out).2.2);(case side4 => exact (Kd.R_reads' HO507.out).2.1);rintro e w' ⟨rfl,⟨nd,rfl⟩⟩)|(go_at_call 12;(with_reducible refine (manifest_Dead.calls k _ _ l0 t509 _ ?side1 ?side2 A10.out).mono ?_);(case side1 => exact Kd.C_below HR0.out (bM HB.out));(case side2 => exact HC0.out);rintro e w18 ⟨v510,rfl,ho0,hb⟩;have HO511 := aK (Kd.R_lower (Kd.R_new' (Kd.R_new' ho0 (Kd.R_lt (rM HO504.out))) (Kd.R_lt (rM HO507.out))) (below_size (bM HB.out)));replace HO504 := aK (Kd.R_elder' (rM HO504.out) (Kd.R_base ho0) hb);replace HO507 := aK (Kd.R_elder' (rM HO507.out) (Kd.R_base ho0) hb);replace HB := aK (below_step (bM HB.out) hb);(try clear hb);(try clear ho0))|(go_at_call 13;(with_reducible refine (codesearchref33_Dead.calls k _ _ l0 t512 _ ?side1 ?side2 A11.out).mono ?_);(case side1 => exact cM (Kd.C_below HR0.out HB.out));(case side2 => exact HC0.out);rintro e w19 ⟨v513,rfl,ho0,hb⟩;have HO514 := aK (Kd.R_lower (Kd.R_new' (Kd.R_new' (Kd.R_new' ho0 (Kd.R_lt (rM HO504.out))) (Kd.R_lt (rM HO507.out))) (Kd.R_lt (rM HO511.out))) (below_size (bM HB.out)));replace HO504 := aK (Kd.R_elder' (rM HO504.out) (Kd.R_base ho0) hb);replace HO507 := aK (Kd.R_elder' (rM HO507.out) (Kd.R_base ho0) hb);replace HO511 := aK (Kd.R_elder' (rM HO511.out) (Kd.R_base ho0) hb);replace HB := aK (below_step (bM HB.out) hb);(try clear hb);(try clear ho0);obtain ⟨Ao20,co20,eo20⟩ := Kd.R_slice HO511.out;subst eo20;obtain ⟨Ao21,co21,eo21⟩ := Kd.R_slice HO514.out;subst eo21)|(go_at_call 9;(with_reducible refine (codesearchref33_SameInts.calls k _ _ t509 _ _ t512 t515 _ ?side1 ?side2 ?side3 ?side4 A12.out).mono ?_);(case side1 => exact cM (Kd.R_reads' HO511.out).2.2);(case side2 => exact (Kd.R_reads' HO511.out).2.1);(case side3 => exact cM (Kd.R_reads' HO514.out).2.2);(case side4 => exact (Kd.R_reads' HO514.out).2.1);rintro e w' ⟨rfl,⟨nd,rfl⟩⟩))
    go_ret
    exact ⟨by first|rfl|(simp [errW_none,errW_some] <;> rfl)|(simp [*,errW_none,errW_some] <;> rfl),bM HB.out⟩
   ·replace c9 := Bool.eq_false_iff.mpr c9
    subst c9
    rw [if_neg (show ¬ (false = true) by decide)] at H
    obtain rfl := Option.some.inj H
    go_enter Tryd.func3,Tryd.ntmps3
    go_wp2_with (first|((with_reducible refine gate_callee (f := 7) rfl ?_);refine goesL_ (some 3) rfl rfl Tryd.func7 (by kernel_rfl) rfl #[] rfl (by (try simp only [List.map_toArray,List.map_cons,List.map_nil]);first|done|rfl|(simp only [List.length_drop,List.length_take];rfl)) ?_;(with_reducible refine (codesearchlaw33_alive.calls k  true _ A2.out).mono ?_);rintro e w22 ⟨rfl,hb⟩;refine ⟨_,rfl,?_⟩;replace HB := aK (below_step (bM HB.out) hb);(try clear hb))|((with_reducible refine gate_callee (f := 8) rfl ?_);refine goesL_ (some 6) rfl rfl Tryd.func8 (by kernel_rfl) rfl #[.slice A0 l0.length c0] rfl (by (try simp only [List.map_toArray,List.map_cons,List.map_nil]);first|done|rfl|(simp only [List.length_drop,List.length_take];rfl)) ?_;(with_reducible refine (codesearchlaw33_small.calls k _ _ l0 true _ ?side1 ?side2 A4.out).mono ?_);(case side1 => exact cM (Kd.C_below HR0.out HB.out));(case side2 => exact HC0.out);rintro e w' ⟨rfl,⟨nd,rfl⟩⟩;refine ⟨_,rfl,?_⟩)|(go_at_call 10;(with_reducible refine (manifest_Live.calls k _ _ l0 t502 _ ?side1 ?side2 A6.out).mono ?_);(case side1 => exact Kd.C_below HR0.out (bM HB.out));(case side2 => exact HC0.out);rintro e w23 ⟨v503,rfl,ho0,hb⟩;have HO504 := aK (Kd.R_lower ho0 (below_size (bM HB.out)));replace HB := aK (below_step (bM HB.out) hb);(try clear hb);(try clear ho0))|(go_at_call 11;(with_reducible refine (codesearchref33_Live.calls k _ _ l0 t505 _ ?side1 ?side2 A7.out).mono ?_);(case side1 => exact cM (Kd.C_below HR0.out HB.out));(case side2 => exact HC0.out);rintro e w24 ⟨v506,rfl,ho0,hb⟩;have HO507 := aK (Kd.R_lower (Kd.R_new' ho0 (Kd.R_lt (rM HO504.out))) (below_size (bM HB.out)));replace HO504 := aK (Kd.R_elder' (rM HO504.out) (Kd.R_base ho0) hb);replace HB := aK (below_step (bM HB.out) hb);(try clear hb);(try clear ho0);obtain ⟨Ao25,co25,eo25⟩ := Kd.R_slice HO504.out;subst eo25;obtain ⟨Ao26,co26,eo26⟩ := Kd.R_slice HO507.out;subst eo26)|(go_at_call 9;(with_reducible refine (codesearchref33_SameInts.calls k _ _ t502 _ _ t505 false _ ?side1 ?side2 ?side3 ?side4 A8.out).mono ?_);(case side1 => exact cM (Kd.R_reads' HO504.out).2.2);(case side2 => exact (Kd.R_reads' HO504.out).2.1);(case side3 => exact cM (Kd.R_reads' HO507.out).2.2);(case side4 => exact (Kd.R_reads' HO507.out).2.1);rintro e w' ⟨rfl,⟨nd,rfl⟩⟩))
    go_ret
    exact ⟨by first|rfl|(simp [errW_none,errW_some] <;> rfl)|(simp [*,errW_none,errW_some] <;> rfl),bM HB.out⟩
  ·replace c5 := Bool.eq_false_iff.mpr c5
   subst c5
   rw [if_neg (show ¬ (false = true) by decide)] at H
   obtain rfl := Option.some.inj H
   go_enter Tryd.func3,Tryd.ntmps3
   go_wp2_with (first|((with_reducible refine gate_callee (f := 7) rfl ?_);refine goesL_ (some 3) rfl rfl Tryd.func7 (by kernel_rfl) rfl #[] rfl (by (try simp only [List.map_toArray,List.map_cons,List.map_nil]);first|done|rfl|(simp only [List.length_drop,List.length_take];rfl)) ?_;(with_reducible refine (codesearchlaw33_alive.calls k  true _ A2.out).mono ?_);rintro e w27 ⟨rfl,hb⟩;refine ⟨_,rfl,?_⟩;replace HB := aK (below_step (bM HB.out) hb);(try clear hb))|((with_reducible refine gate_callee (f := 8) rfl ?_);refine goesL_ (some 6) rfl rfl Tryd.func8 (by kernel_rfl) rfl #[.slice A0 l0.length c0] rfl (by (try simp only [List.map_toArray,List.map_cons,List.map_nil]);first|done|rfl|(simp only [List.length_drop,List.length_take];rfl)) ?_;(with_reducible refine (codesearchlaw33_small.calls k _ _ l0 false _ ?side1 ?side2 A4.out).mono ?_);(case side1 => exact cM (Kd.C_below HR0.out HB.out));(case side2 => exact HC0.out);rintro e w' ⟨rfl,⟨nd,rfl⟩⟩;refine ⟨_,rfl,?_⟩))
   go_ret
   exact ⟨by first|rfl|(simp [errW_none,errW_some] <;> rfl)|(simp [*,errW_none,errW_some] <;> rfl),bM HB.out⟩
 ·replace c3 := Bool.eq_false_iff.mpr c3
  subst c3
  rw [if_neg (show ¬ (false = true) by decide)] at H
  obtain rfl := Option.some.inj H
  go_enter Tryd.func3,Tryd.ntmps3
  go_wp2_with (first|((with_reducible refine gate_callee (f := 7) rfl ?_);refine goesL_ (some 3) rfl rfl Tryd.func7 (by kernel_rfl) rfl #[] rfl (by (try simp only [List.map_toArray,List.map_cons,List.map_nil]);first|done|rfl|(simp only [List.length_drop,List.length_take];rfl)) ?_;(with_reducible refine (codesearchlaw33_alive.calls k  false _ A2.out).mono ?_);rintro e w28 ⟨rfl,hb⟩;refine ⟨_,rfl,?_⟩;replace HB := aK (below_step (bM HB.out) hb);(try clear hb)))
  go_ret
  exact ⟨by first|rfl|(simp [errW_none,errW_some] <;> rfl)|(simp [*,errW_none,errW_some] <;> rfl),bM HB.out⟩

/-! ### codesearchlaw33_rising: function 26 -/
def codesearchlaw33_rising.l0 : Nat → List Int → Int → Option (Bool)
|0,_,_ => none
|k + 1,x0,x3 => if x3 < (x0.length : Int) then (if 0 ≤ x3 then (if (rd x0 x3) < 0 then (some false) else (if (rd x0 x3) > 4611686018427387904 then (some false) else (if x3 > 0 then (if 0 ≤ (wrap64 (x3 - 1)) then (if (wrap64 (x3 - 1)) < (x0.length : Int) then (if (rd x0 x3) ≤ (rd x0 (wrap64 (x3 - 1))) then (some false) else (codesearchlaw33_rising.l0 k x0 (wrap64 (x3 + 1)))) else (none)) else (none)) else (codesearchlaw33_rising.l0 k x0 (wrap64 (x3 + 1)))))) else (none)) else (some true)
def codesearchlaw33_rising.f (k : Nat) (l0 : List Int) : Option (Bool) := codesearchlaw33_rising.l0 k l0 0
theorem codesearchlaw33_rising.mono_l : ∀ k, (∀ y0 y1, LeO (codesearchlaw33_rising.l0 k y0 y1) (codesearchlaw33_rising.l0 (k + 1) y0 y1))
|0 => fun _ _ r h => by simp [codesearchlaw33_rising.l0] at h
|k + 1 => by
  have ih0 := codesearchlaw33_rising.mono_l k
  ·intro y0 y1
   unfold codesearchlaw33_rising.l0
   repeat' (with_reducible first|exact ih0 _ _|exact LeO.refl _|exact LeO.none _|refine LeO.ite ?_ ?_|refine LeO.bind ?_ (fun _ => ?_))
theorem codesearchlaw33_rising.mono : ∀ a0 k, LeO (codesearchlaw33_rising.f k a0) (codesearchlaw33_rising.f (k + 1) a0) := by
 intro a0 k
 have ih0 := codesearchlaw33_rising.mono_l k
 unfold codesearchlaw33_rising.f
 repeat' first
  |(with_reducible exact ih0 _ _)
  |(with_reducible exact LeO.refl _)
  |(with_reducible exact LeO.none _)
  |(with_reducible refine LeO.ite ?_ ?_)
  |(with_reducible refine LeO.bind ?_ (fun _ => ?_))
  |exact ih0 _ _
  |exact LeO.none _
  |refine LeO.ite ?_ ?_
  |refine LeO.bind ?_ (fun _ => ?_)
set_option maxHeartbeats 4000000 in
set_option maxRecDepth 100000 in
theorem codesearchlaw33_rising.calls (k : Nat) (A0 : Option Addr) (c0 : Nat) (l0 : List Int) (r : Bool) (w : World) (hr0 : Kd.C (Kd.int .i64) w A0 l0.length l0) (hc0 : l0.length ≤ c0) (h : codesearchlaw33_rising.f k l0 = some r) :
  Calls Tryd.prog 26 #[.slice A0 l0.length c0] w fun e w' => e = .returned (.bool r) ∧ Drawn0 w w' := by
 have HR0 := aK hr0
 have HC0 := aK hc0
 clear hr0 hc0
 have H : (codesearchlaw33_rising.l0 k l0 0) = some r := h
 clear h
 have H' := aK H
 clear H
 go_enter Tryd.func26,Tryd.ntmps26
 go_wp2
 repeat (go_quiet (fail);try go_wp2)
 go_loopg [3] k (fun kq v3 w' => ∃ (x3_1 : Int),v3 = .int .i64 x3_1 ∧ Aside0 (codesearchlaw33_rising.l0 kq l0 x3_1 = some r) ∧ Aside0 (kq ≤ k) ∧ Drawn0 w w')
 case atStart => exact ⟨(0),(by first|rfl|(simp;done)|(simp [*];done)),H',⟨Nat.le_refl _⟩,by repeat (first|exact Drawn0.refl _|apply Drawn0.step)⟩
 case round =>
  clear H'
  obtain ⟨x3_1,rfl,HA,HK1,⟨m1,rfl⟩⟩ := hrel
  cases gk with
 |zero => exact absurd HA.out (by simp [codesearchlaw33_rising.l0])
 |succ k1 =>
   have H := HA.out
   clear HA
   simp only [codesearchlaw33_rising.l0] at H
   by_cases c2 : x3_1 < (l0.length : Int)
   ·rw [if_pos c2] at H
    have c2b0 : decide (x3_1 < (l0.length : Int)) = true := decide_eq_true c2
    clear c2
    by_cases c3 : 0 ≤ x3_1
    ·rw [if_pos c3] at H
     have c3b0 : decide (0 ≤ x3_1) = true := decide_eq_true c3
     clear c3
     by_cases c4 : (rd l0 x3_1) < 0
     ·rw [if_pos c4] at H
      have c4b0 : decide ((rd l0 x3_1) < 0) = true := decide_eq_true c4
      clear c4
      obtain rfl := Option.some.inj H
      have p516 : 0 ≤ (x3_1 : Int) := of_decide_eq_true (by first|(with_reducible assumption)|assumption)
      have q516 : x3_1 < (l0.length : Int) := of_decide_eq_true (by first|(with_reducible assumption)|assumption)
      obtain ⟨ad516,e516,hx516_0⟩ := Kd.at_int HR0.out x3_1 p516 q516
      cases e516
      replace p516 := eq_true p516
      replace q516 := eq_true q516
      go_wp2
      repeat (go_quiet (fail);try go_wp2)
      go_ret
      exact ⟨by first|rfl|(simp;done)|(simp [*];done),by repeat (first|exact Drawn0.refl _|apply Drawn0.step)⟩
     ·rw [if_neg c4] at H
      have c4b0 : decide ((rd l0 x3_1) < 0) = false := decide_eq_false c4
      clear c4
      by_cases c5 : (rd l0 x3_1) > 4611686018427387904
      ·rw [if_pos c5] at H
       have c5b0 : decide (4611686018427387904 < (rd l0 x3_1)) = true := decide_eq_true c5
       clear c5
       obtain rfl := Option.some.inj H
       have p516 : 0 ≤ (x3_1 : Int) := of_decide_eq_true (by first|(with_reducible assumption)|assumption)
       have q516 : x3_1 < (l0.length : Int) := of_decide_eq_true (by first|(with_reducible assumption)|assumption)
       obtain ⟨ad516,e516,hx516_0⟩ := Kd.at_int HR0.out x3_1 p516 q516
       cases e516
       replace p516 := eq_true p516
       replace q516 := eq_true q516
       have p517 : 0 ≤ (x3_1 : Int) := of_decide_eq_true (by first|(with_reducible assumption)|assumption)
       have q517 : x3_1 < (l0.length : Int) := of_decide_eq_true (by first|(with_reducible assumption)|assumption)
       obtain ⟨ad517,e517,hx517_0⟩ := Kd.at_int HR0.out x3_1 p517 q517
       obtain rfl : ad516 = ad517 := (by injection e517)
       replace p517 := eq_true p517
       replace q517 := eq_true q517
       go_wp2
       repeat (go_quiet (fail);try go_wp2)
       go_ret
       exact ⟨by first|rfl|(simp;done)|(simp [*];done),by repeat (first|exact Drawn0.refl _|apply Drawn0.step)⟩
      ·rw [if_neg c5] at H
       have c5b0 : decide (4611686018427387904 < (rd l0 x3_1)) = false := decide_eq_false c5
       clear c5
       by_cases c6 : x3_1 > 0
       ·rw [if_pos c6] at H
        have c6b0 : decide (0 < x3_1) = true := decide_eq_true c6
        clear c6
        obtain ⟨ji7,hji7⟩ : ∃ j_ : Int,(wrap64 (x3_1 - 1)) = j_ := ⟨_,rfl⟩
        replace H : (if 0 ≤ (ji7) then (if (ji7) < (l0.length : Int) then (if (rd l0 x3_1) ≤ (rd l0 (ji7)) then (some false) else (codesearchlaw33_rising.l0 k1 l0 (wrap64 (x3_1 + 1)))) else (none)) else (none)) = some r := by first|(rw [hji7] at H;exact H)|(simp only [hji7] at H ⊢;exact H)
        have hji7w : (IntKind.i64.wrap (x3_1 - 1)) = ji7 := (i64_w _).trans hji7
        by_cases c8 : 0 ≤ (ji7)
        ·rw [if_pos c8] at H
         have c8b0 : decide (0 ≤ (ji7)) = true := decide_eq_true c8
         clear c8
         by_cases c9 : (ji7) < (l0.length : Int)
         ·rw [if_pos c9] at H
          have c9b0 : decide ((ji7) < (l0.length : Int)) = true := decide_eq_true c9
          clear c9
          by_cases c10 : (rd l0 x3_1) ≤ (rd l0 (ji7))
          ·rw [if_pos c10] at H
           have c10b0 : decide ((rd l0 x3_1) ≤ (rd l0 (ji7))) = true := decide_eq_true c10
           clear c10
           obtain rfl := Option.some.inj H
           have p516 : 0 ≤ (x3_1 : Int) := of_decide_eq_true (by first|(with_reducible assumption)|assumption)
           have q516 : x3_1 < (l0.length : Int) := of_decide_eq_true (by first|(with_reducible assumption)|assumption)
           obtain ⟨ad516,e516,hx516_0⟩ := Kd.at_int HR0.out x3_1 p516 q516
           cases e516
           replace p516 := eq_true p516
           replace q516 := eq_true q516
           have p517 : 0 ≤ (x3_1 : Int) := of_decide_eq_true (by first|(with_reducible assumption)|assumption)
           have q517 : x3_1 < (l0.length : Int) := of_decide_eq_true (by first|(with_reducible assumption)|assumption)
           obtain ⟨ad517,e517,hx517_0⟩ := Kd.at_int HR0.out x3_1 p517 q517
           obtain rfl : ad516 = ad517 := (by injection e517)
           replace p517 := eq_true p517
           replace q517 := eq_true q517
           have p518 : 0 ≤ (x3_1 : Int) := of_decide_eq_true (by first|(with_reducible assumption)|assumption)
           have q518 : x3_1 < (l0.length : Int) := of_decide_eq_true (by first|(with_reducible assumption)|assumption)
           obtain ⟨ad518,e518,hx518_0⟩ := Kd.at_int HR0.out x3_1 p518 q518
           obtain rfl : ad516 = ad518 := (by injection e518)
           replace p518 := eq_true p518
           replace q518 := eq_true q518
           have p519 : 0 ≤ ((ji7) : Int) := of_decide_eq_true (by first|(with_reducible assumption)|assumption)
           have q519 : (ji7) < (l0.length : Int) := of_decide_eq_true (by first|(with_reducible assumption)|assumption)
           obtain ⟨ad519,e519,hx519_0⟩ := Kd.at_int HR0.out (ji7) p519 q519
           obtain rfl : ad516 = ad519 := (by injection e519)
           replace p519 := eq_true p519
           replace q519 := eq_true q519
           go_wp2
           repeat (go_quiet (fail);try go_wp2)
           go_ret
           exact ⟨by first|rfl|(simp;done)|(rw [Int.tdiv_eq_ediv_of_nonneg (by assumption)];done)|(rw [Int.tmod_eq_emod_of_nonneg (by assumption)];done)|(simp only [← hji7] <;> (first|rfl|simp))|(simp [*];done),by repeat (first|exact Drawn0.refl _|apply Drawn0.step)⟩
          ·rw [if_neg c10] at H
           have c10b0 : decide ((rd l0 x3_1) ≤ (rd l0 (ji7))) = false := decide_eq_false c10
           clear c10
           have H' := aK H
           clear H
           have p516 : 0 ≤ (x3_1 : Int) := of_decide_eq_true (by first|(with_reducible assumption)|assumption)
           have q516 : x3_1 < (l0.length : Int) := of_decide_eq_true (by first|(with_reducible assumption)|assumption)
           obtain ⟨ad516,e516,hx516_0⟩ := Kd.at_int HR0.out x3_1 p516 q516
           cases e516
           replace p516 := eq_true p516
           replace q516 := eq_true q516
           have p517 : 0 ≤ (x3_1 : Int) := of_decide_eq_true (by first|(with_reducible assumption)|assumption)
           have q517 : x3_1 < (l0.length : Int) := of_decide_eq_true (by first|(with_reducible assumption)|assumption)
           obtain ⟨ad517,e517,hx517_0⟩ := Kd.at_int HR0.out x3_1 p517 q517
           obtain rfl : ad516 = ad517 := (by injection e517)
           replace p517 := eq_true p517
           replace q517 := eq_true q517
           have p518 : 0 ≤ (x3_1 : Int) := of_decide_eq_true (by first|(with_reducible assumption)|assumption)
           have q518 : x3_1 < (l0.length : Int) := of_decide_eq_true (by first|(with_reducible assumption)|assumption)
           obtain ⟨ad518,e518,hx518_0⟩ := Kd.at_int HR0.out x3_1 p518 q518
           obtain rfl : ad516 = ad518 := (by injection e518)
           replace p518 := eq_true p518
           replace q518 := eq_true q518
           have p519 : 0 ≤ ((ji7) : Int) := of_decide_eq_true (by first|(with_reducible assumption)|assumption)
           have q519 : (ji7) < (l0.length : Int) := of_decide_eq_true (by first|(with_reducible assumption)|assumption)
           obtain ⟨ad519,e519,hx519_0⟩ := Kd.at_int HR0.out (ji7) p519 q519
           obtain rfl : ad516 = ad519 := (by injection e519)
           replace p519 := eq_true p519
           replace q519 := eq_true q519
           go_wp2
           repeat (go_quiet (fail);try go_wp2)
           go_roundg k1
           case measure => have := HK1.out;omega
           case rel => exact ⟨(wrap64 (x3_1 + 1)),(by first|rfl|(simp;done)|(simp [*];done)),H',⟨by have := HK1.out;omega⟩,by repeat (first|exact Drawn0.refl _|apply Drawn0.step)⟩
         ·rw [if_neg c9] at H
          exact absurd H (by simp)
        ·rw [if_neg c8] at H
         exact absurd H (by simp)
       ·rw [if_neg c6] at H
        have c6b0 : decide (0 < x3_1) = false := decide_eq_false c6
        clear c6
        have H' := aK H
        clear H
        have p516 : 0 ≤ (x3_1 : Int) := of_decide_eq_true (by first|(with_reducible assumption)|assumption)
        have q516 : x3_1 < (l0.length : Int) := of_decide_eq_true (by first|(with_reducible assumption)|assumption)
        obtain ⟨ad516,e516,hx516_0⟩ := Kd.at_int HR0.out x3_1 p516 q516
        cases e516
        replace p516 := eq_true p516
        replace q516 := eq_true q516
        have p517 : 0 ≤ (x3_1 : Int) := of_decide_eq_true (by first|(with_reducible assumption)|assumption)
        have q517 : x3_1 < (l0.length : Int) := of_decide_eq_true (by first|(with_reducible assumption)|assumption)
        obtain ⟨ad517,e517,hx517_0⟩ := Kd.at_int HR0.out x3_1 p517 q517
        obtain rfl : ad516 = ad517 := (by injection e517)
        replace p517 := eq_true p517
        replace q517 := eq_true q517
        go_wp2
        repeat (go_quiet (fail);try go_wp2)
        go_roundg k1
        case measure => have := HK1.out;omega
        case rel => exact ⟨(wrap64 (x3_1 + 1)),(by first|rfl|(simp;done)|(simp [*];done)),H',⟨by have := HK1.out;omega⟩,by repeat (first|exact Drawn0.refl _|apply Drawn0.step)⟩
    ·rw [if_neg c3] at H
     exact absurd H (by simp)
   ·rw [if_neg c2] at H
    have c2b0 : decide (x3_1 < (l0.length : Int)) = false := decide_eq_false c2
    clear c2
    obtain rfl := Option.some.inj H
    go_wp2
    repeat (go_quiet (fail);try go_wp2)
    go_ret
    exact ⟨by first|rfl|(simp;done)|(simp [*];done),by repeat (first|exact Drawn0.refl _|apply Drawn0.step)⟩

end Go.Proofs.YtmgliocboeifdaaDoor.M
