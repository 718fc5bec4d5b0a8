-- Written by hp.py, a program of this session, over the kit's print of the translation. Not trusted: Lean checks it.
import Derived.Test.YtmgliocboeifdaaDoorMx0
import Derived.Test.YtmgliocboeifdaaDoorMx16
namespace Go.Proofs.YtmgliocboeifdaaDoor.M
open Go.RowKit Go.Proofs.YtmgliocboeifdaaDoorW.PrintWords Go.Proofs.YtmgliocboeifdaaDoorW.PrintLast Go.Proofs.YtmgliocboeifdaaDoorW.PrintMore
attribute [local go_sem] max2_int min2_int max_two min_two max_three min_three max_four min_four   -- for this text's walks alone
set_option linter.unusedVariables false
set_option linter.unusedSimpArgs false

/-! ### codesearchref33_Live: function 11 -/
mutual
def codesearchref33_Live.l0 : Nat → List (S37) → List Int → Int → Option (List Int)
|0,_,_,_ => none
|k + 1,x0,x3,x4 => if x4 < (x0.length : Int) then (if 0 ≤ x4 then (if ((rd_T37 x0 x4).f1) = 3 then (codesearchref33_Live.l1 k x0 x3 x4 ([] : List Int) 0) else (if ((rd_T37 x0 x4).f1) = 1 then ((codesearchref33_with.f k x3 ((rd_T37 x0 x4).f2)).bind fun t488 => (codesearchref33_Live.l0 k x0 t488 (wrap64 (x4 + 1)))) else (codesearchref33_Live.l0 k x0 x3 (wrap64 (x4 + 1))))) else (none)) else (some x3)
def codesearchref33_Live.l1 : Nat → List (S37) → List Int → Int → List Int → Int → Option (List Int)
|0,_,_,_,_,_ => none
|k + 1,x0,x3,x4,x5,x6 => if x6 < (x3.length : Int) then (if 0 ≤ x4 then (if x4 < (x0.length : Int) then (if 0 ≤ x6 then ((codesearchref33_has.f k ((rd_T37 x0 x4).f4) (rd x3 x6)).bind fun t471 => (if t471 = true then (codesearchref33_Live.l1 k x0 x3 x4 x5 (wrap64 (x6 + 1))) else (if x5.length < 17592186044416 then (codesearchref33_Live.l1 k x0 x3 x4 (x5 ++ [rd x3 x6]) (wrap64 (x6 + 1))) else (none)))) else (none)) else (none)) else (none)) else (if 0 ≤ x4 then (if x4 < (x0.length : Int) then (if ((rd_T37 x0 x4).f1) = 1 then ((codesearchref33_with.f k x5 ((rd_T37 x0 x4).f2)).bind fun t478 => (codesearchref33_Live.l0 k x0 t478 (wrap64 (x4 + 1)))) else (if ((rd_T37 x0 x4).f1) = 3 then ((codesearchref33_with.f k x5 ((rd_T37 x0 x4).f2)).bind fun t483 => (codesearchref33_Live.l0 k x0 t483 (wrap64 (x4 + 1)))) else (codesearchref33_Live.l0 k x0 x5 (wrap64 (x4 + 1))))) else (none)) else (none))
end
def codesearchref33_Live.f (k : Nat) (l0 : List (S37)) : Option (List Int) := codesearchref33_Live.l0 k l0 ([] : List Int) 0
theorem codesearchref33_Live.mono_l : ∀ k, (∀ y0 y1 y2, LeO (codesearchref33_Live.l0 k y0 y1 y2) (codesearchref33_Live.l0 (k + 1) y0 y1 y2)) ∧ (∀ y0 y1 y2 y3 y4, LeO (codesearchref33_Live.l1 k y0 y1 y2 y3 y4) (codesearchref33_Live.l1 (k + 1) y0 y1 y2 y3 y4))
|0 => ⟨fun _ _ _ r h => by simp [codesearchref33_Live.l0] at h,fun _ _ _ _ _ r h => by simp [codesearchref33_Live.l1] at h⟩
|k + 1 => by
  obtain ⟨ih0,ih1⟩ := codesearchref33_Live.mono_l k
  refine ⟨?_,?_⟩
  ·intro y0 y1 y2
   unfold codesearchref33_Live.l0
   repeat' (with_reducible first|exact ih0 _ _ _|exact ih1 _ _ _ _ _|exact codesearchref33_with.mono _ _ _|exact LeO.refl _|exact LeO.none _|refine LeO.ite ?_ ?_|refine LeO.bind ?_ (fun _ => ?_))
  ·intro y0 y1 y2 y3 y4
   unfold codesearchref33_Live.l1
   repeat' (with_reducible first|exact ih0 _ _ _|exact ih1 _ _ _ _ _|exact codesearchref33_has.mono _ _ _|exact codesearchref33_with.mono _ _ _|exact LeO.refl _|exact LeO.none _|refine LeO.ite ?_ ?_|refine LeO.bind ?_ (fun _ => ?_))
theorem codesearchref33_Live.mono : ∀ a0 k, LeO (codesearchref33_Live.f k a0) (codesearchref33_Live.f (k + 1) a0) := by
 intro a0 k
 obtain ⟨ih0,ih1⟩ := codesearchref33_Live.mono_l k
 unfold codesearchref33_Live.f
 repeat' first
  |(with_reducible exact ih0 _ _ _)
  |(with_reducible exact ih1 _ _ _ _ _)
  |(with_reducible exact codesearchref33_has.mono _ _ _)
  |(with_reducible exact codesearchref33_with.mono _ _ _)
  |(with_reducible exact LeO.refl _)
  |(with_reducible exact LeO.none _)
  |(with_reducible refine LeO.ite ?_ ?_)
  |(with_reducible refine LeO.bind ?_ (fun _ => ?_))
  |exact ih0 _ _ _
  |exact ih1 _ _ _ _ _
  |exact codesearchref33_has.mono _ _ _
  |exact codesearchref33_with.mono _ _ _
  |exact LeO.none _
  |refine LeO.ite ?_ ?_
  |refine LeO.bind ?_ (fun _ => ?_)
set_option maxHeartbeats 4000000 in
set_option maxRecDepth 100000 in
theorem codesearchref33_Live.calls (k : Nat) (A0 : Option Addr) (c0 : Nat) (l0 : List (S37)) (r : List Int) (w : World) (hr0 : Kd.C k37 w A0 l0.length l0) (hc0 : l0.length ≤ c0) (h : codesearchref33_Live.f k l0 = some r) :
  Calls Tryd.prog 11 #[.slice A0 l0.length c0] w fun e w' => ∃ v0_ : Value,e = .returned (v0_) ∧ Kd.R (Kd.int .i64) 3 w' w.heap.size (fun _ => True) v0_ r ∧ Below w.heap.size w w' := by
 have HR0 := aK hr0
 have HC0 := aK hc0
 clear hr0 hc0
 have HB := aK (Below.refl w.heap.size w)
 have H : (codesearchref33_Live.l0 k l0 ([] : List Int) 0) = some r := h
 clear h
 have H' := aK H
 clear H
 go_enter Tryd.func11,Tryd.ntmps11
 go_wp2
 repeat (go_quiet (fail);try go_wp2)
 go_loopg [3,4] k (fun kq v3 v4 w' => ∃ (x3_1 : List Int) (x4_1 : Int),v4 = .int .i64 x4_1 ∧ Aside0 (codesearchref33_Live.l0 kq l0 x3_1 x4_1 = some r) ∧ Aside0 (kq ≤ k) ∧ Aside0 (Kd.R (Kd.int .i64) 3 w' w.heap.size (fun _ => True) v3 x3_1) ∧ Aside0 (Below w.heap.size w w'))
 case atStart => exact ⟨(([] : List Int)),(0),(by first|rfl|(simp;done)|(simp [*];done)),H',⟨Nat.le_refl _⟩,⟨by first|exact Kd.R_nil _ _ _ _ _|exact Kd.N_nil _ _ _ _ _|exact Kd.V_nil _ _ _ _ _|exact Kd.Q_nil _ _ _ _ _|exact Kd.S_nil _ _ _ _ _⟩,⟨bM HB.out⟩⟩
 case round =>
  clear H'
  try clear c1
  obtain ⟨x3_1,x4_1,rfl,HA,HK1,HO_3,HB⟩ := hrel
  cases gk with
 |zero => exact absurd HA.out (by simp [codesearchref33_Live.l0])
 |succ k1 =>
   have H := HA.out
   clear HA
   simp only [codesearchref33_Live.l0] at H
   by_cases c2 : x4_1 < (l0.length : Int)
   ·rw [if_pos c2] at H
    have c2b0 : decide (x4_1 < (l0.length : Int)) = true := decide_eq_true c2
    clear c2
    by_cases c3 : 0 ≤ x4_1
    ·rw [if_pos c3] at H
     have c3b0 : decide (0 ≤ x4_1) = true := decide_eq_true c3
     clear c3
     by_cases c4 : ((rd_T37 l0 x4_1).f1) = 3
     ·rw [if_pos c4] at H
      have c4b0 : (((rd_T37 l0 x4_1).f1) == 3) = true := beq_iff_eq.mpr c4
      have c4b1 : (((rd_T37 l0 x4_1).f1) != 3) = false := bne_eq_false_iff_eq.mpr c4
      clear c4
      have H' := aK H
      clear H
      have p468 : 0 ≤ (x4_1 : Int) := of_decide_eq_true (by first|(with_reducible assumption)|assumption)
      have q468 : x4_1 < (l0.length : Int) := of_decide_eq_true (by first|(with_reducible assumption)|assumption)
      obtain ⟨ad468,A468_3,c468_3,A468_4,c468_4,A468_5,c468_5,e468,hx468_0,hx468_1,hx468_2,hx468_3,hx468_4,hx468_5,hl468_3,hi468_3,hl468_4,hi468_4,hl468_5,hi468_5⟩ := at_T37 HR0.out x4_1 p468 q468
      cases e468
      replace hx468_0 := (HB.out.cell (World.block_lt_of_cell? w _ hx468_0)).trans hx468_0
      replace hx468_1 := (HB.out.cell (World.block_lt_of_cell? w _ hx468_1)).trans hx468_1
      replace hx468_2 := (HB.out.cell (World.block_lt_of_cell? w _ hx468_2)).trans hx468_2
      replace hx468_3 := (HB.out.cell (World.block_lt_of_cell? w _ hx468_3)).trans hx468_3
      replace hx468_4 := (HB.out.cell (World.block_lt_of_cell? w _ hx468_4)).trans hx468_4
      replace hx468_5 := (HB.out.cell (World.block_lt_of_cell? w _ hx468_5)).trans hx468_5
      have HR468_3 := aK hi468_3
      have HC468_3 := aK hl468_3
      clear hi468_3 hl468_3
      have HR468_4 := aK hi468_4
      have HC468_4 := aK hl468_4
      clear hi468_4 hl468_4
      have HR468_5 := aK hi468_5
      have HC468_5 := aK hl468_5
      clear hi468_5 hl468_5
      replace p468 := eq_true p468
      replace q468 := eq_true q468
      go_wp2
      repeat (go_quiet (fail);try go_wp2)
      go_loopg [5,6] k1 (fun kq v5 v6 w' => ∃ (x5_2 : List Int) (x6_2 : Int),v6 = .int .i64 x6_2 ∧ Aside0 (codesearchref33_Live.l1 kq l0 x3_1 x4_1 x5_2 x6_2 = some r) ∧ Aside0 (kq ≤ k1) ∧ Aside0 (Kd.R (Kd.int .i64) 3 w' w.heap.size (fun k_ => some k_ ≠ (v5 : Value).ownBlock) u3 x3_1) ∧ Aside0 (Kd.R (Kd.int .i64) 3 w' w.heap.size (fun k_ => some k_ ≠ (u3 : Value).ownBlock) v5 x5_2) ∧ Aside0 (Below w.heap.size w w'))
      case atStart => exact ⟨(([] : List Int)),(0),(by first|rfl|(simp;done)|(simp [*];done)),H',⟨Nat.le_refl _⟩,⟨rM (Kd.R_mono HO_3.out (fun _ hk => (by simp [Value.ownBlock])))⟩,⟨by first|exact Kd.R_nil _ _ _ _ _|exact Kd.N_nil _ _ _ _ _|exact Kd.V_nil _ _ _ _ _|exact Kd.Q_nil _ _ _ _ _|exact Kd.S_nil _ _ _ _ _⟩,⟨bM HB.out⟩⟩
      case round =>
       clear H'
       try clear c1
       try clear c2
       try clear c2b0
       try clear p2
       try clear c3
       try clear c3b0
       try clear c4
       try clear c4b0
       try clear c4b1
       try clear p4
       try clear q4
       try clear hx4
       try clear hx468_0
       try clear hx468_1
       try clear hx468_2
       try clear hx468_3
       try clear hx468_4
       try clear hx468_5
       try clear p468
       try clear q468
       obtain ⟨x5_2,x6_2,rfl,HA,HK2,HO_3,HO_5,HB⟩ := hrel
       cases gk with
      |zero => exact absurd HA.out (by simp [codesearchref33_Live.l1])
      |succ k2 =>
        have H := HA.out
        clear HA
        simp only [codesearchref33_Live.l1] at H
        by_cases c5 : x6_2 < (x3_1.length : Int)
        ·rw [if_pos c5] at H
         have c5b0 : decide (x6_2 < (x3_1.length : Int)) = true := decide_eq_true c5
         clear c5
         by_cases c6 : 0 ≤ x4_1
         ·rw [if_pos c6] at H
          have c6b0 : decide (0 ≤ x4_1) = true := decide_eq_true c6
          clear c6
          by_cases c7 : x4_1 < (l0.length : Int)
          ·rw [if_pos c7] at H
           have c7b0 : decide (x4_1 < (l0.length : Int)) = true := decide_eq_true c7
           clear c7
           by_cases c8 : 0 ≤ x6_2
           ·rw [if_pos c8] at H
            have c8b0 : decide (0 ≤ x6_2) = true := decide_eq_true c8
            clear c8
            replace H := Option.bind_eq_some_iff.mp H
            obtain ⟨t471,A90,H⟩ := H
            have A9 := aK A90
            clear A90
            by_cases c10 : t471 = true
            ·subst c10
             rw [if_pos rfl] at H
             have H' := aK H
             clear H
             obtain ⟨Ao11,co11,eo11⟩ := Kd.R_slice HO_3.out
             subst eo11
             have p469 : 0 ≤ (x4_1 : Int) := of_decide_eq_true (by first|(with_reducible assumption)|assumption)
             have q469 : x4_1 < (l0.length : Int) := of_decide_eq_true (by first|(with_reducible assumption)|assumption)
             obtain ⟨ad469,A469_3,c469_3,A469_4,c469_4,A469_5,c469_5,e469,hx469_0,hx469_1,hx469_2,hx469_3,hx469_4,hx469_5,hl469_3,hi469_3,hl469_4,hi469_4,hl469_5,hi469_5⟩ := at_T37 HR0.out x4_1 p469 q469
             obtain rfl : ad468 = ad469 := (by injection e469)
             replace hx469_0 := (HB.out.cell (World.block_lt_of_cell? w _ hx469_0)).trans hx469_0
             replace hx469_1 := (HB.out.cell (World.block_lt_of_cell? w _ hx469_1)).trans hx469_1
             replace hx469_2 := (HB.out.cell (World.block_lt_of_cell? w _ hx469_2)).trans hx469_2
             replace hx469_3 := (HB.out.cell (World.block_lt_of_cell? w _ hx469_3)).trans hx469_3
             replace hx469_4 := (HB.out.cell (World.block_lt_of_cell? w _ hx469_4)).trans hx469_4
             replace hx469_5 := (HB.out.cell (World.block_lt_of_cell? w _ hx469_5)).trans hx469_5
             have HR469_3 := aK hi469_3
             have HC469_3 := aK hl469_3
             clear hi469_3 hl469_3
             have HR469_4 := aK hi469_4
             have HC469_4 := aK hl469_4
             clear hi469_4 hl469_4
             have HR469_5 := aK hi469_5
             have HC469_5 := aK hl469_5
             clear hi469_5 hl469_5
             replace p469 := eq_true p469
             replace q469 := eq_true q469
             have p470 : 0 ≤ (x6_2 : Int) := of_decide_eq_true (by first|(with_reducible assumption)|assumption)
             have q470 : x6_2 < (x3_1.length : Int) := of_decide_eq_true (by first|(with_reducible assumption)|assumption)
             obtain ⟨ad470,e470,hx470_0⟩ := Kd.at_int (Kd.R_reads' HO_3.out).2.2 x6_2 p470 q470
             cases e470
             replace p470 := eq_true p470
             replace q470 := eq_true q470
             go_wp2_with (first|(go_at_call 24;(with_reducible refine (codesearchref33_has.calls k2 _ _ ((rd_T37 l0 x4_1).f4) (rd x3_1 x6_2) true _ ?side1 ?side2 A9.out).mono ?_);(case side1 => exact cM (Kd.C_below HR469_4.out HB.out));(case side2 => exact HC469_4.out);rintro e w' ⟨rfl,⟨nd,rfl⟩⟩;(try first|exact ⟨rfl,_,World.drewN_drewN _ _ _⟩|exact ⟨rfl,_,Eq.trans (World.drewN_drewN _ _ _) (congrArg (World.drewN _) (Nat.add_assoc _ _ _))⟩)))
             repeat (go_quiet (first|(go_at_call 24;(with_reducible refine (codesearchref33_has.calls k2 _ _ ((rd_T37 l0 x4_1).f4) (rd x3_1 x6_2) true _ ?side1 ?side2 A9.out).mono ?_);(case side1 => exact cM (Kd.C_below HR469_4.out HB.out));(case side2 => exact HC469_4.out);rintro e w' ⟨rfl,⟨nd,rfl⟩⟩;(try first|exact ⟨rfl,_,World.drewN_drewN _ _ _⟩|exact ⟨rfl,_,Eq.trans (World.drewN_drewN _ _ _) (congrArg (World.drewN _) (Nat.add_assoc _ _ _))⟩)));try go_wp2_with (first|(go_at_call 24;(with_reducible refine (codesearchref33_has.calls k2 _ _ ((rd_T37 l0 x4_1).f4) (rd x3_1 x6_2) true _ ?side1 ?side2 A9.out).mono ?_);(case side1 => exact cM (Kd.C_below HR469_4.out HB.out));(case side2 => exact HC469_4.out);rintro e w' ⟨rfl,⟨nd,rfl⟩⟩;(try first|exact ⟨rfl,_,World.drewN_drewN _ _ _⟩|exact ⟨rfl,_,Eq.trans (World.drewN_drewN _ _ _) (congrArg (World.drewN _) (Nat.add_assoc _ _ _))⟩))))
             go_roundg k2
             case measure => have := HK1.out;have := HK2.out;omega
             case rel => exact ⟨(x5_2),(wrap64 (x6_2 + 1)),(by first|rfl|(simp;done)|(simp [*];done)),H',⟨by have := HK1.out;have := HK2.out;omega⟩,⟨rM HO_3.out⟩,⟨rM HO_5.out⟩,⟨bM HB.out⟩⟩
            ·replace c10 := Bool.eq_false_iff.mpr c10
             subst c10
             rw [if_neg (show ¬ (false = true) by decide)] at H
             by_cases c12 : x5_2.length < 17592186044416
             ·rw [if_pos c12] at H
              have LMc12 := aK c12
              clear c12
              obtain ⟨y473,hy473⟩ : ∃ y_ : List Int,y_ = (x5_2 ++ [rd x3_1 x6_2]) := ⟨_,rfl⟩
              replace H : (codesearchref33_Live.l1 k2 l0 x3_1 x4_1 y473 (wrap64 (x6_2 + 1))) = some r := by first|(rw [hy473];with_reducible exact H)|(have H2_ := (Option.bind_some _ _).symm.trans H;rw [hy473];with_reducible exact H2_)|(have H2_ := (Option.bind_some _ _).symm.trans H;with_reducible exact H2_)|with_reducible exact H|(rw [hy473];exact H)|exact H
              have Ny473 := aK hy473
              clear hy473
              have H' := aK H
              clear H
              obtain ⟨Ao13,co13,eo13⟩ := Kd.R_slice HO_3.out
              subst eo13
              have p469 : 0 ≤ (x4_1 : Int) := of_decide_eq_true (by first|(with_reducible assumption)|assumption)
              have q469 : x4_1 < (l0.length : Int) := of_decide_eq_true (by first|(with_reducible assumption)|assumption)
              obtain ⟨ad469,A469_3,c469_3,A469_4,c469_4,A469_5,c469_5,e469,hx469_0,hx469_1,hx469_2,hx469_3,hx469_4,hx469_5,hl469_3,hi469_3,hl469_4,hi469_4,hl469_5,hi469_5⟩ := at_T37 HR0.out x4_1 p469 q469
              obtain rfl : ad468 = ad469 := (by injection e469)
              replace hx469_0 := (HB.out.cell (World.block_lt_of_cell? w _ hx469_0)).trans hx469_0
              replace hx469_1 := (HB.out.cell (World.block_lt_of_cell? w _ hx469_1)).trans hx469_1
              replace hx469_2 := (HB.out.cell (World.block_lt_of_cell? w _ hx469_2)).trans hx469_2
              replace hx469_3 := (HB.out.cell (World.block_lt_of_cell? w _ hx469_3)).trans hx469_3
              replace hx469_4 := (HB.out.cell (World.block_lt_of_cell? w _ hx469_4)).trans hx469_4
              replace hx469_5 := (HB.out.cell (World.block_lt_of_cell? w _ hx469_5)).trans hx469_5
              have HR469_3 := aK hi469_3
              have HC469_3 := aK hl469_3
              clear hi469_3 hl469_3
              have HR469_4 := aK hi469_4
              have HC469_4 := aK hl469_4
              clear hi469_4 hl469_4
              have HR469_5 := aK hi469_5
              have HC469_5 := aK hl469_5
              clear hi469_5 hl469_5
              replace p469 := eq_true p469
              replace q469 := eq_true q469
              have p470 : 0 ≤ (x6_2 : Int) := of_decide_eq_true (by first|(with_reducible assumption)|assumption)
              have q470 : x6_2 < (x3_1.length : Int) := of_decide_eq_true (by first|(with_reducible assumption)|assumption)
              obtain ⟨ad470,e470,hx470_0⟩ := Kd.at_int (Kd.R_reads' HO_3.out).2.2 x6_2 p470 q470
              cases e470
              replace p470 := eq_true p470
              replace q470 := eq_true q470
              go_wp2_with (first|(go_at_call 24;(with_reducible refine (codesearchref33_has.calls k2 _ _ ((rd_T37 l0 x4_1).f4) (rd x3_1 x6_2) false _ ?side1 ?side2 A9.out).mono ?_);(case side1 => exact cM (Kd.C_below HR469_4.out HB.out));(case side2 => exact HC469_4.out);rintro e w' ⟨rfl,⟨nd,rfl⟩⟩;(try first|exact ⟨rfl,_,World.drewN_drewN _ _ _⟩|exact ⟨rfl,_,Eq.trans (World.drewN_drewN _ _ _) (congrArg (World.drewN _) (Nat.add_assoc _ _ _))⟩);have p472 : 0 ≤ (x6_2 : Int) := of_decide_eq_true (by first|(with_reducible assumption)|assumption);have q472 : x6_2 < (x3_1.length : Int) := of_decide_eq_true (by first|(with_reducible assumption)|assumption);obtain ⟨ad472,e472,hx472_0⟩ := Kd.at_int (Kd.R_reads' HO_3.out).2.2 x6_2 p472 q472;obtain rfl : ad470 = ad472 := (by injection e472);replace p472 := eq_true p472;replace q472 := eq_true q472)|((with_reducible refine gate_builtin (b := .append) (xs := #[.tmp 36,.tmp 41]) rfl ?_);at_builtin;refine Kd.R_append (Kd.int .i64) (w0 := w) w.heap.size rfl (.tmp 36) (.tmp 41) 26 3 (.int .i64 0) 8 rfl Tryd.underlying26 info3 rfl (by decide) (by omega) u5 x5_2 (rd x3_1 x6_2) [.int .i64 (rd x3_1 x6_2)] (fun k_ => some k_ ≠ (.slice (some ad470) x3_1.length co13 : Value).ownBlock) (fun _ => False) rfl rfl ?aP (fun _ hk => hk.elim) ?aF ?aO ?aB ?aS ?aL ?_;(case aP => exact rfl);(case aB => exact (bM HB.out));(case aF => exact (fun k_ hk => Kd.fresh' (Kd.R_lt (rM HO_3.out)) k_ hk));(case aO => exact (rM HO_5.out));(case aS => exact (below_size (bM HB.out)));(case aL => have := LMc12.out;omega);intro v474 w14 ho hb hg hat;rw [← Ny473.out] at ho;replace HO_3 := aK (Kd.R_after (ok := (fun _ => True)) (by (with_reducible repeat (first|apply Kd.R_alloc|apply Kd.R_drewN|apply Kd.R_drew));exact Kd.R_mono HO_3.out (fun _ hk => ⟨trivial,hk⟩)) hg hat);replace HB := aK (hb);have HO475 := aK (ho);clear ho hb hg hat))
              repeat (go_quiet (first|(go_at_call 24;(with_reducible refine (codesearchref33_has.calls k2 _ _ ((rd_T37 l0 x4_1).f4) (rd x3_1 x6_2) false _ ?side1 ?side2 A9.out).mono ?_);(case side1 => exact cM (Kd.C_below HR469_4.out HB.out));(case side2 => exact HC469_4.out);rintro e w' ⟨rfl,⟨nd,rfl⟩⟩;(try first|exact ⟨rfl,_,World.drewN_drewN _ _ _⟩|exact ⟨rfl,_,Eq.trans (World.drewN_drewN _ _ _) (congrArg (World.drewN _) (Nat.add_assoc _ _ _))⟩);have p472 : 0 ≤ (x6_2 : Int) := of_decide_eq_true (by first|(with_reducible assumption)|assumption);have q472 : x6_2 < (x3_1.length : Int) := of_decide_eq_true (by first|(with_reducible assumption)|assumption);obtain ⟨ad472,e472,hx472_0⟩ := Kd.at_int (Kd.R_reads' HO_3.out).2.2 x6_2 p472 q472;obtain rfl : ad470 = ad472 := (by injection e472);replace p472 := eq_true p472;replace q472 := eq_true q472)|((with_reducible refine gate_builtin (b := .append) (xs := #[.tmp 36,.tmp 41]) rfl ?_);at_builtin;refine Kd.R_append (Kd.int .i64) (w0 := w) w.heap.size rfl (.tmp 36) (.tmp 41) 26 3 (.int .i64 0) 8 rfl Tryd.underlying26 info3 rfl (by decide) (by omega) u5 x5_2 (rd x3_1 x6_2) [.int .i64 (rd x3_1 x6_2)] (fun k_ => some k_ ≠ (.slice (some ad470) x3_1.length co13 : Value).ownBlock) (fun _ => False) rfl rfl ?aP (fun _ hk => hk.elim) ?aF ?aO ?aB ?aS ?aL ?_;(case aP => exact rfl);(case aB => exact (bM HB.out));(case aF => exact (fun k_ hk => Kd.fresh' (Kd.R_lt (rM HO_3.out)) k_ hk));(case aO => exact (rM HO_5.out));(case aS => exact (below_size (bM HB.out)));(case aL => have := LMc12.out;omega);intro v474 w14 ho hb hg hat;rw [← Ny473.out] at ho;replace HO_3 := aK (Kd.R_after (ok := (fun _ => True)) (by (with_reducible repeat (first|apply Kd.R_alloc|apply Kd.R_drewN|apply Kd.R_drew));exact Kd.R_mono HO_3.out (fun _ hk => ⟨trivial,hk⟩)) hg hat);replace HB := aK (hb);have HO475 := aK (ho);clear ho hb hg hat));try go_wp2_with (first|(go_at_call 24;(with_reducible refine (codesearchref33_has.calls k2 _ _ ((rd_T37 l0 x4_1).f4) (rd x3_1 x6_2) false _ ?side1 ?side2 A9.out).mono ?_);(case side1 => exact cM (Kd.C_below HR469_4.out HB.out));(case side2 => exact HC469_4.out);rintro e w' ⟨rfl,⟨nd,rfl⟩⟩;(try first|exact ⟨rfl,_,World.drewN_drewN _ _ _⟩|exact ⟨rfl,_,Eq.trans (World.drewN_drewN _ _ _) (congrArg (World.drewN _) (Nat.add_assoc _ _ _))⟩);have p472 : 0 ≤ (x6_2 : Int) := of_decide_eq_true (by first|(with_reducible assumption)|assumption);have q472 : x6_2 < (x3_1.length : Int) := of_decide_eq_true (by first|(with_reducible assumption)|assumption);obtain ⟨ad472,e472,hx472_0⟩ := Kd.at_int (Kd.R_reads' HO_3.out).2.2 x6_2 p472 q472;obtain rfl : ad470 = ad472 := (by injection e472);replace p472 := eq_true p472;replace q472 := eq_true q472)|((with_reducible refine gate_builtin (b := .append) (xs := #[.tmp 36,.tmp 41]) rfl ?_);at_builtin;refine Kd.R_append (Kd.int .i64) (w0 := w) w.heap.size rfl (.tmp 36) (.tmp 41) 26 3 (.int .i64 0) 8 rfl Tryd.underlying26 info3 rfl (by decide) (by omega) u5 x5_2 (rd x3_1 x6_2) [.int .i64 (rd x3_1 x6_2)] (fun k_ => some k_ ≠ (.slice (some ad470) x3_1.length co13 : Value).ownBlock) (fun _ => False) rfl rfl ?aP (fun _ hk => hk.elim) ?aF ?aO ?aB ?aS ?aL ?_;(case aP => exact rfl);(case aB => exact (bM HB.out));(case aF => exact (fun k_ hk => Kd.fresh' (Kd.R_lt (rM HO_3.out)) k_ hk));(case aO => exact (rM HO_5.out));(case aS => exact (below_size (bM HB.out)));(case aL => have := LMc12.out;omega);intro v474 w14 ho hb hg hat;rw [← Ny473.out] at ho;replace HO_3 := aK (Kd.R_after (ok := (fun _ => True)) (by (with_reducible repeat (first|apply Kd.R_alloc|apply Kd.R_drewN|apply Kd.R_drew));exact Kd.R_mono HO_3.out (fun _ hk => ⟨trivial,hk⟩)) hg hat);replace HB := aK (hb);have HO475 := aK (ho);clear ho hb hg hat)))
              go_roundg k2
              case measure => have := HK1.out;have := HK2.out;omega
              case rel => exact ⟨(y473),(wrap64 (x6_2 + 1)),(by first|rfl|(simp;done)|(simp [*];done)),H',⟨by have := HK1.out;have := HK2.out;omega⟩,⟨by (with_reducible repeat (first|apply Kd.R_alloc|apply Kd.R_drewN|apply Kd.R_drew));exact Kd.R_mono HO_3.out (fun _ hk => hk.2)⟩,⟨rM HO475.out⟩,⟨bM HB.out⟩⟩
             ·rw [if_neg c12] at H
              exact absurd H (by simp)
           ·rw [if_neg c8] at H
            exact absurd H (by simp)
          ·rw [if_neg c7] at H
           exact absurd H (by simp)
         ·rw [if_neg c6] at H
          exact absurd H (by simp)
        ·rw [if_neg c5] at H
         have c5b0 : decide (x6_2 < (x3_1.length : Int)) = false := decide_eq_false c5
         clear c5
         by_cases c15 : 0 ≤ x4_1
         ·rw [if_pos c15] at H
          have c15b0 : decide (0 ≤ x4_1) = true := decide_eq_true c15
          clear c15
          by_cases c16 : x4_1 < (l0.length : Int)
          ·rw [if_pos c16] at H
           have c16b0 : decide (x4_1 < (l0.length : Int)) = true := decide_eq_true c16
           clear c16
           by_cases c17 : ((rd_T37 l0 x4_1).f1) = 1
           ·rw [if_pos c17] at H
            have c17b0 : (((rd_T37 l0 x4_1).f1) == 1) = true := beq_iff_eq.mpr c17
            have c17b1 : (((rd_T37 l0 x4_1).f1) != 1) = false := bne_eq_false_iff_eq.mpr c17
            clear c17
            replace H := Option.bind_eq_some_iff.mp H
            obtain ⟨t478,A180,H⟩ := H
            have A18 := aK A180
            clear A180
            have H' := aK H
            clear H
            obtain ⟨Ao19,co19,eo19⟩ := Kd.R_slice HO_3.out
            subst eo19
            have p476 : 0 ≤ (x4_1 : Int) := of_decide_eq_true (by first|(with_reducible assumption)|assumption)
            have q476 : x4_1 < (l0.length : Int) := of_decide_eq_true (by first|(with_reducible assumption)|assumption)
            obtain ⟨ad476,A476_3,c476_3,A476_4,c476_4,A476_5,c476_5,e476,hx476_0,hx476_1,hx476_2,hx476_3,hx476_4,hx476_5,hl476_3,hi476_3,hl476_4,hi476_4,hl476_5,hi476_5⟩ := at_T37 HR0.out x4_1 p476 q476
            obtain rfl : ad468 = ad476 := (by injection e476)
            replace hx476_0 := (HB.out.cell (World.block_lt_of_cell? w _ hx476_0)).trans hx476_0
            replace hx476_1 := (HB.out.cell (World.block_lt_of_cell? w _ hx476_1)).trans hx476_1
            replace hx476_2 := (HB.out.cell (World.block_lt_of_cell? w _ hx476_2)).trans hx476_2
            replace hx476_3 := (HB.out.cell (World.block_lt_of_cell? w _ hx476_3)).trans hx476_3
            replace hx476_4 := (HB.out.cell (World.block_lt_of_cell? w _ hx476_4)).trans hx476_4
            replace hx476_5 := (HB.out.cell (World.block_lt_of_cell? w _ hx476_5)).trans hx476_5
            have HR476_3 := aK hi476_3
            have HC476_3 := aK hl476_3
            clear hi476_3 hl476_3
            have HR476_4 := aK hi476_4
            have HC476_4 := aK hl476_4
            clear hi476_4 hl476_4
            have HR476_5 := aK hi476_5
            have HC476_5 := aK hl476_5
            clear hi476_5 hl476_5
            replace p476 := eq_true p476
            replace q476 := eq_true q476
            have p477 : 0 ≤ (x4_1 : Int) := of_decide_eq_true (by first|(with_reducible assumption)|assumption)
            have q477 : x4_1 < (l0.length : Int) := of_decide_eq_true (by first|(with_reducible assumption)|assumption)
            obtain ⟨ad477,A477_3,c477_3,A477_4,c477_4,A477_5,c477_5,e477,hx477_0,hx477_1,hx477_2,hx477_3,hx477_4,hx477_5,hl477_3,hi477_3,hl477_4,hi477_4,hl477_5,hi477_5⟩ := at_T37 HR0.out x4_1 p477 q477
            obtain rfl : ad468 = ad477 := (by injection e477)
            replace hx477_0 := (HB.out.cell (World.block_lt_of_cell? w _ hx477_0)).trans hx477_0
            replace hx477_1 := (HB.out.cell (World.block_lt_of_cell? w _ hx477_1)).trans hx477_1
            replace hx477_2 := (HB.out.cell (World.block_lt_of_cell? w _ hx477_2)).trans hx477_2
            replace hx477_3 := (HB.out.cell (World.block_lt_of_cell? w _ hx477_3)).trans hx477_3
            replace hx477_4 := (HB.out.cell (World.block_lt_of_cell? w _ hx477_4)).trans hx477_4
            replace hx477_5 := (HB.out.cell (World.block_lt_of_cell? w _ hx477_5)).trans hx477_5
            have HR477_3 := aK hi477_3
            have HC477_3 := aK hl477_3
            clear hi477_3 hl477_3
            have HR477_4 := aK hi477_4
            have HC477_4 := aK hl477_4
            clear hi477_4 hl477_4
            have HR477_5 := aK hi477_5
            have HC477_5 := aK hl477_5
            clear hi477_5 hl477_5
            replace p477 := eq_true p477
            replace q477 := eq_true q477
            have ea_ := Option.some.inj (hx476_3.symm.trans hx477_3)
            injection ea_ with ea_ en_ ec_
            subst ea_
            subst ec_
            clear en_
            have ea_ := Option.some.inj (hx476_4.symm.trans hx477_4)
            injection ea_ with ea_ en_ ec_
            subst ea_
            subst ec_
            clear en_
            have ea_ := Option.some.inj (hx476_5.symm.trans hx477_5)
            injection ea_ with ea_ en_ ec_
            subst ea_
            subst ec_
            clear en_
            obtain ⟨Ao20,co20,eo20⟩ := Kd.R_slice HO_5.out
            subst eo20
            go_wp2_with (first|(go_at_call 25;(with_reducible refine (codesearchref33_with.calls k2 (fun k_ => some k_ = (.slice Ao20 x5_2.length co20 : Value).ownBlock) (.slice Ao20 x5_2.length co20) x5_2 ((rd_T37 l0 x4_1).f2) t478 w _ ?side1 ?side2 A18.out).mono ?_);(case side1 => repeat (first|(with_reducible first|exact HB.out|apply below_alloc|apply pw_below_drewN|apply below_drew1)|exact HB.out));(case side2 => exact Kd.R_tight rfl HO_5.out);rintro e w21 ⟨v479,rfl,ho0,hb,hkp⟩;have HO480 := aK (Kd.R_mono (ok' := fun k_ => some k_ ≠ (.slice Ao19 x3_1.length co19 : Value).ownBlock) ho0 (fun k_ hk_ => Or.elim hk_ (fun hs_ => fun e_ => (((HO_3.out).1 k_ e_.symm)) hs_) (fun hn_ => (Kd.fresh' (Kd.R_lt (rM HO_3.out)) k_ hn_))));replace HO_3 := aK (Kd.R_mono (ok' := fun k_ => some k_ ≠ (v479 : Value).ownBlock) (Kd.R_keptB (HO_3.out) hkp (fun k_ hk_ hs_ => (hk_) hs_)) (fun k_ hk_ => fun e_ => Or.elim (ho0.1 k_ e_.symm) (fun hs_ => hk_.2.1 hs_) (fun hn_ => Nat.not_le.2 hk_.2.2 hn_)));replace HB := aK (hb);(try clear hb);(try clear hkp);(try clear ho0)))
            repeat (go_quiet (first|(go_at_call 25;(with_reducible refine (codesearchref33_with.calls k2 (fun k_ => some k_ = (.slice Ao20 x5_2.length co20 : Value).ownBlock) (.slice Ao20 x5_2.length co20) x5_2 ((rd_T37 l0 x4_1).f2) t478 w _ ?side1 ?side2 A18.out).mono ?_);(case side1 => repeat (first|(with_reducible first|exact HB.out|apply below_alloc|apply pw_below_drewN|apply below_drew1)|exact HB.out));(case side2 => exact Kd.R_tight rfl HO_5.out);rintro e w21 ⟨v479,rfl,ho0,hb,hkp⟩;have HO480 := aK (Kd.R_mono (ok' := fun k_ => some k_ ≠ (.slice Ao19 x3_1.length co19 : Value).ownBlock) ho0 (fun k_ hk_ => Or.elim hk_ (fun hs_ => fun e_ => (((HO_3.out).1 k_ e_.symm)) hs_) (fun hn_ => (Kd.fresh' (Kd.R_lt (rM HO_3.out)) k_ hn_))));replace HO_3 := aK (Kd.R_mono (ok' := fun k_ => some k_ ≠ (v479 : Value).ownBlock) (Kd.R_keptB (HO_3.out) hkp (fun k_ hk_ hs_ => (hk_) hs_)) (fun k_ hk_ => fun e_ => Or.elim (ho0.1 k_ e_.symm) (fun hs_ => hk_.2.1 hs_) (fun hn_ => Nat.not_le.2 hk_.2.2 hn_)));replace HB := aK (hb);(try clear hb);(try clear hkp);(try clear ho0)));try go_wp2_with (first|(go_at_call 25;(with_reducible refine (codesearchref33_with.calls k2 (fun k_ => some k_ = (.slice Ao20 x5_2.length co20 : Value).ownBlock) (.slice Ao20 x5_2.length co20) x5_2 ((rd_T37 l0 x4_1).f2) t478 w _ ?side1 ?side2 A18.out).mono ?_);(case side1 => repeat (first|(with_reducible first|exact HB.out|apply below_alloc|apply pw_below_drewN|apply below_drew1)|exact HB.out));(case side2 => exact Kd.R_tight rfl HO_5.out);rintro e w21 ⟨v479,rfl,ho0,hb,hkp⟩;have HO480 := aK (Kd.R_mono (ok' := fun k_ => some k_ ≠ (.slice Ao19 x3_1.length co19 : Value).ownBlock) ho0 (fun k_ hk_ => Or.elim hk_ (fun hs_ => fun e_ => (((HO_3.out).1 k_ e_.symm)) hs_) (fun hn_ => (Kd.fresh' (Kd.R_lt (rM HO_3.out)) k_ hn_))));replace HO_3 := aK (Kd.R_mono (ok' := fun k_ => some k_ ≠ (v479 : Value).ownBlock) (Kd.R_keptB (HO_3.out) hkp (fun k_ hk_ hs_ => (hk_) hs_)) (fun k_ hk_ => fun e_ => Or.elim (ho0.1 k_ e_.symm) (fun hs_ => hk_.2.1 hs_) (fun hn_ => Nat.not_le.2 hk_.2.2 hn_)));replace HB := aK (hb);(try clear hb);(try clear hkp);(try clear ho0))))
            go_roundg k2
            case measure => have := HK1.out;have := HK2.out;omega
            case rel => exact ⟨(t478),(wrap64 (x4_1 + 1)),(by first|rfl|(simp;done)|(simp [*];done)),H',⟨by have := HK1.out;have := HK2.out;omega⟩,⟨rM (Kd.R_mono HO480.out (fun _ hk => trivial))⟩,⟨bM HB.out⟩⟩
           ·rw [if_neg c17] at H
            have c17b0 : (((rd_T37 l0 x4_1).f1) == 1) = false := beq_eq_false_iff_ne.mpr c17
            have c17b1 : (((rd_T37 l0 x4_1).f1) != 1) = true := bne_iff_ne.mpr c17
            by_cases c22 : ((rd_T37 l0 x4_1).f1) = 3
            ·rw [if_pos c22] at H
             have c22b0 : (((rd_T37 l0 x4_1).f1) == 3) = true := beq_iff_eq.mpr c22
             have c22b1 : (((rd_T37 l0 x4_1).f1) != 3) = false := bne_eq_false_iff_eq.mpr c22
             clear c22
             replace H := Option.bind_eq_some_iff.mp H
             obtain ⟨t483,A230,H⟩ := H
             have A23 := aK A230
             clear A230
             have H' := aK H
             clear H
             obtain ⟨Ao24,co24,eo24⟩ := Kd.R_slice HO_3.out
             subst eo24
             have p476 : 0 ≤ (x4_1 : Int) := of_decide_eq_true (by first|(with_reducible assumption)|assumption)
             have q476 : x4_1 < (l0.length : Int) := of_decide_eq_true (by first|(with_reducible assumption)|assumption)
             obtain ⟨ad476,A476_3,c476_3,A476_4,c476_4,A476_5,c476_5,e476,hx476_0,hx476_1,hx476_2,hx476_3,hx476_4,hx476_5,hl476_3,hi476_3,hl476_4,hi476_4,hl476_5,hi476_5⟩ := at_T37 HR0.out x4_1 p476 q476
             obtain rfl : ad468 = ad476 := (by injection e476)
             replace hx476_0 := (HB.out.cell (World.block_lt_of_cell? w _ hx476_0)).trans hx476_0
             replace hx476_1 := (HB.out.cell (World.block_lt_of_cell? w _ hx476_1)).trans hx476_1
             replace hx476_2 := (HB.out.cell (World.block_lt_of_cell? w _ hx476_2)).trans hx476_2
             replace hx476_3 := (HB.out.cell (World.block_lt_of_cell? w _ hx476_3)).trans hx476_3
             replace hx476_4 := (HB.out.cell (World.block_lt_of_cell? w _ hx476_4)).trans hx476_4
             replace hx476_5 := (HB.out.cell (World.block_lt_of_cell? w _ hx476_5)).trans hx476_5
             have HR476_3 := aK hi476_3
             have HC476_3 := aK hl476_3
             clear hi476_3 hl476_3
             have HR476_4 := aK hi476_4
             have HC476_4 := aK hl476_4
             clear hi476_4 hl476_4
             have HR476_5 := aK hi476_5
             have HC476_5 := aK hl476_5
             clear hi476_5 hl476_5
             replace p476 := eq_true p476
             replace q476 := eq_true q476
             have p481 : 0 ≤ (x4_1 : Int) := of_decide_eq_true (by first|(with_reducible assumption)|assumption)
             have q481 : x4_1 < (l0.length : Int) := of_decide_eq_true (by first|(with_reducible assumption)|assumption)
             obtain ⟨ad481,A481_3,c481_3,A481_4,c481_4,A481_5,c481_5,e481,hx481_0,hx481_1,hx481_2,hx481_3,hx481_4,hx481_5,hl481_3,hi481_3,hl481_4,hi481_4,hl481_5,hi481_5⟩ := at_T37 HR0.out x4_1 p481 q481
             obtain rfl : ad468 = ad481 := (by injection e481)
             replace hx481_0 := (HB.out.cell (World.block_lt_of_cell? w _ hx481_0)).trans hx481_0
             replace hx481_1 := (HB.out.cell (World.block_lt_of_cell? w _ hx481_1)).trans hx481_1
             replace hx481_2 := (HB.out.cell (World.block_lt_of_cell? w _ hx481_2)).trans hx481_2
             replace hx481_3 := (HB.out.cell (World.block_lt_of_cell? w _ hx481_3)).trans hx481_3
             replace hx481_4 := (HB.out.cell (World.block_lt_of_cell? w _ hx481_4)).trans hx481_4
             replace hx481_5 := (HB.out.cell (World.block_lt_of_cell? w _ hx481_5)).trans hx481_5
             have HR481_3 := aK hi481_3
             have HC481_3 := aK hl481_3
             clear hi481_3 hl481_3
             have HR481_4 := aK hi481_4
             have HC481_4 := aK hl481_4
             clear hi481_4 hl481_4
             have HR481_5 := aK hi481_5
             have HC481_5 := aK hl481_5
             clear hi481_5 hl481_5
             replace p481 := eq_true p481
             replace q481 := eq_true q481
             have ea_ := Option.some.inj (hx476_3.symm.trans hx481_3)
             injection ea_ with ea_ en_ ec_
             subst ea_
             subst ec_
             clear en_
             have ea_ := Option.some.inj (hx476_4.symm.trans hx481_4)
             injection ea_ with ea_ en_ ec_
             subst ea_
             subst ec_
             clear en_
             have ea_ := Option.some.inj (hx476_5.symm.trans hx481_5)
             injection ea_ with ea_ en_ ec_
             subst ea_
             subst ec_
             clear en_
             have p482 : 0 ≤ (x4_1 : Int) := of_decide_eq_true (by first|(with_reducible assumption)|assumption)
             have q482 : x4_1 < (l0.length : Int) := of_decide_eq_true (by first|(with_reducible assumption)|assumption)
             obtain ⟨ad482,A482_3,c482_3,A482_4,c482_4,A482_5,c482_5,e482,hx482_0,hx482_1,hx482_2,hx482_3,hx482_4,hx482_5,hl482_3,hi482_3,hl482_4,hi482_4,hl482_5,hi482_5⟩ := at_T37 HR0.out x4_1 p482 q482
             obtain rfl : ad468 = ad482 := (by injection e482)
             replace hx482_0 := (HB.out.cell (World.block_lt_of_cell? w _ hx482_0)).trans hx482_0
             replace hx482_1 := (HB.out.cell (World.block_lt_of_cell? w _ hx482_1)).trans hx482_1
             replace hx482_2 := (HB.out.cell (World.block_lt_of_cell? w _ hx482_2)).trans hx482_2
             replace hx482_3 := (HB.out.cell (World.block_lt_of_cell? w _ hx482_3)).trans hx482_3
             replace hx482_4 := (HB.out.cell (World.block_lt_of_cell? w _ hx482_4)).trans hx482_4
             replace hx482_5 := (HB.out.cell (World.block_lt_of_cell? w _ hx482_5)).trans hx482_5
             have HR482_3 := aK hi482_3
             have HC482_3 := aK hl482_3
             clear hi482_3 hl482_3
             have HR482_4 := aK hi482_4
             have HC482_4 := aK hl482_4
             clear hi482_4 hl482_4
             have HR482_5 := aK hi482_5
             have HC482_5 := aK hl482_5
             clear hi482_5 hl482_5
             replace p482 := eq_true p482
             replace q482 := eq_true q482
             have ea_ := Option.some.inj (hx476_3.symm.trans hx482_3)
             injection ea_ with ea_ en_ ec_
             subst ea_
             subst ec_
             clear en_
             have ea_ := Option.some.inj (hx476_4.symm.trans hx482_4)
             injection ea_ with ea_ en_ ec_
             subst ea_
             subst ec_
             clear en_
             have ea_ := Option.some.inj (hx476_5.symm.trans hx482_5)
             injection ea_ with ea_ en_ ec_
             subst ea_
             subst ec_
             clear en_
             obtain ⟨Ao25,co25,eo25⟩ := Kd.R_slice HO_5.out
             subst eo25
             go_wp2_with (first|(go_at_call 25;(with_reducible refine (codesearchref33_with.calls k2 (fun k_ => some k_ = (.slice Ao25 x5_2.length co25 : Value).ownBlock) (.slice Ao25 x5_2.length co25) x5_2 ((rd_T37 l0 x4_1).f2) t483 w _ ?side1 ?side2 A23.out).mono ?_);(case side1 => repeat (first|(with_reducible first|exact HB.out|apply below_alloc|apply pw_below_drewN|apply below_drew1)|exact HB.out));(case side2 => exact Kd.R_tight rfl HO_5.out);rintro e w26 ⟨v484,rfl,ho0,hb,hkp⟩;have HO485 := aK (Kd.R_mono (ok' := fun k_ => some k_ ≠ (.slice Ao24 x3_1.length co24 : Value).ownBlock) ho0 (fun k_ hk_ => Or.elim hk_ (fun hs_ => fun e_ => (((HO_3.out).1 k_ e_.symm)) hs_) (fun hn_ => (Kd.fresh' (Kd.R_lt (rM HO_3.out)) k_ hn_))));replace HO_3 := aK (Kd.R_mono (ok' := fun k_ => some k_ ≠ (v484 : Value).ownBlock) (Kd.R_keptB (HO_3.out) hkp (fun k_ hk_ hs_ => (hk_) hs_)) (fun k_ hk_ => fun e_ => Or.elim (ho0.1 k_ e_.symm) (fun hs_ => hk_.2.1 hs_) (fun hn_ => Nat.not_le.2 hk_.2.2 hn_)));replace HB := aK (hb);(try clear hb);(try clear hkp);(try clear ho0)))
             repeat (go_quiet (first|(go_at_call 25;(with_reducible refine (codesearchref33_with.calls k2 (fun k_ => some k_ = (.slice Ao25 x5_2.length co25 : Value).ownBlock) (.slice Ao25 x5_2.length co25) x5_2 ((rd_T37 l0 x4_1).f2) t483 w _ ?side1 ?side2 A23.out).mono ?_);(case side1 => repeat (first|(with_reducible first|exact HB.out|apply below_alloc|apply pw_below_drewN|apply below_drew1)|exact HB.out));(case side2 => exact Kd.R_tight rfl HO_5.out);rintro e w26 ⟨v484,rfl,ho0,hb,hkp⟩;have HO485 := aK (Kd.R_mono (ok' := fun k_ => some k_ ≠ (.slice Ao24 x3_1.length co24 : Value).ownBlock) ho0 (fun k_ hk_ => Or.elim hk_ (fun hs_ => fun e_ => (((HO_3.out).1 k_ e_.symm)) hs_) (fun hn_ => (Kd.fresh' (Kd.R_lt (rM HO_3.out)) k_ hn_))));replace HO_3 := aK (Kd.R_mono (ok' := fun k_ => some k_ ≠ (v484 : Value).ownBlock) (Kd.R_keptB (HO_3.out) hkp (fun k_ hk_ hs_ => (hk_) hs_)) (fun k_ hk_ => fun e_ => Or.elim (ho0.1 k_ e_.symm) (fun hs_ => hk_.2.1 hs_) (fun hn_ => Nat.not_le.2 hk_.2.2 hn_)));replace HB := aK (hb);(try clear hb);(try clear hkp);(try clear ho0)));try go_wp2_with (first|(go_at_call 25;(with_reducible refine (codesearchref33_with.calls k2 (fun k_ => some k_ = (.slice Ao25 x5_2.length co25 : Value).ownBlock) (.slice Ao25 x5_2.length co25) x5_2 ((rd_T37 l0 x4_1).f2) t483 w _ ?side1 ?side2 A23.out).mono ?_);(case side1 => repeat (first|(with_reducible first|exact HB.out|apply below_alloc|apply pw_below_drewN|apply below_drew1)|exact HB.out));(case side2 => exact Kd.R_tight rfl HO_5.out);rintro e w26 ⟨v484,rfl,ho0,hb,hkp⟩;have HO485 := aK (Kd.R_mono (ok' := fun k_ => some k_ ≠ (.slice Ao24 x3_1.length co24 : Value).ownBlock) ho0 (fun k_ hk_ => Or.elim hk_ (fun hs_ => fun e_ => (((HO_3.out).1 k_ e_.symm)) hs_) (fun hn_ => (Kd.fresh' (Kd.R_lt (rM HO_3.out)) k_ hn_))));replace HO_3 := aK (Kd.R_mono (ok' := fun k_ => some k_ ≠ (v484 : Value).ownBlock) (Kd.R_keptB (HO_3.out) hkp (fun k_ hk_ hs_ => (hk_) hs_)) (fun k_ hk_ => fun e_ => Or.elim (ho0.1 k_ e_.symm) (fun hs_ => hk_.2.1 hs_) (fun hn_ => Nat.not_le.2 hk_.2.2 hn_)));replace HB := aK (hb);(try clear hb);(try clear hkp);(try clear ho0))))
             go_roundg k2
             case measure => have := HK1.out;have := HK2.out;omega
             case rel => exact ⟨(t483),(wrap64 (x4_1 + 1)),(by first|rfl|(simp;done)|(simp [*];done)),H',⟨by have := HK1.out;have := HK2.out;omega⟩,⟨rM (Kd.R_mono HO485.out (fun _ hk => trivial))⟩,⟨bM HB.out⟩⟩
            ·rw [if_neg c22] at H
             have c22b0 : (((rd_T37 l0 x4_1).f1) == 3) = false := beq_eq_false_iff_ne.mpr c22
             have c22b1 : (((rd_T37 l0 x4_1).f1) != 3) = true := bne_iff_ne.mpr c22
             have H' := aK H
             clear H
             obtain ⟨Ao27,co27,eo27⟩ := Kd.R_slice HO_3.out
             subst eo27
             have p476 : 0 ≤ (x4_1 : Int) := of_decide_eq_true (by first|(with_reducible assumption)|assumption)
             have q476 : x4_1 < (l0.length : Int) := of_decide_eq_true (by first|(with_reducible assumption)|assumption)
             obtain ⟨ad476,A476_3,c476_3,A476_4,c476_4,A476_5,c476_5,e476,hx476_0,hx476_1,hx476_2,hx476_3,hx476_4,hx476_5,hl476_3,hi476_3,hl476_4,hi476_4,hl476_5,hi476_5⟩ := at_T37 HR0.out x4_1 p476 q476
             obtain rfl : ad468 = ad476 := (by injection e476)
             replace hx476_0 := (HB.out.cell (World.block_lt_of_cell? w _ hx476_0)).trans hx476_0
             replace hx476_1 := (HB.out.cell (World.block_lt_of_cell? w _ hx476_1)).trans hx476_1
             replace hx476_2 := (HB.out.cell (World.block_lt_of_cell? w _ hx476_2)).trans hx476_2
             replace hx476_3 := (HB.out.cell (World.block_lt_of_cell? w _ hx476_3)).trans hx476_3
             replace hx476_4 := (HB.out.cell (World.block_lt_of_cell? w _ hx476_4)).trans hx476_4
             replace hx476_5 := (HB.out.cell (World.block_lt_of_cell? w _ hx476_5)).trans hx476_5
             have HR476_3 := aK hi476_3
             have HC476_3 := aK hl476_3
             clear hi476_3 hl476_3
             have HR476_4 := aK hi476_4
             have HC476_4 := aK hl476_4
             clear hi476_4 hl476_4
             have HR476_5 := aK hi476_5
             have HC476_5 := aK hl476_5
             clear hi476_5 hl476_5
             replace p476 := eq_true p476
             replace q476 := eq_true q476
             have p481 : 0 ≤ (x4_1 : Int) := of_decide_eq_true (by first|(with_reducible assumption)|assumption)
             have q481 : x4_1 < (l0.length : Int) := of_decide_eq_true (by first|(with_reducible assumption)|assumption)
             obtain ⟨ad481,A481_3,c481_3,A481_4,c481_4,A481_5,c481_5,e481,hx481_0,hx481_1,hx481_2,hx481_3,hx481_4,hx481_5,hl481_3,hi481_3,hl481_4,hi481_4,hl481_5,hi481_5⟩ := at_T37 HR0.out x4_1 p481 q481
             obtain rfl : ad468 = ad481 := (by injection e481)
             replace hx481_0 := (HB.out.cell (World.block_lt_of_cell? w _ hx481_0)).trans hx481_0
             replace hx481_1 := (HB.out.cell (World.block_lt_of_cell? w _ hx481_1)).trans hx481_1
             replace hx481_2 := (HB.out.cell (World.block_lt_of_cell? w _ hx481_2)).trans hx481_2
             replace hx481_3 := (HB.out.cell (World.block_lt_of_cell? w _ hx481_3)).trans hx481_3
             replace hx481_4 := (HB.out.cell (World.block_lt_of_cell? w _ hx481_4)).trans hx481_4
             replace hx481_5 := (HB.out.cell (World.block_lt_of_cell? w _ hx481_5)).trans hx481_5
             have HR481_3 := aK hi481_3
             have HC481_3 := aK hl481_3
             clear hi481_3 hl481_3
             have HR481_4 := aK hi481_4
             have HC481_4 := aK hl481_4
             clear hi481_4 hl481_4
             have HR481_5 := aK hi481_5
             have HC481_5 := aK hl481_5
             clear hi481_5 hl481_5
             replace p481 := eq_true p481
             replace q481 := eq_true q481
             have ea_ := Option.some.inj (hx476_3.symm.trans hx481_3)
             injection ea_ with ea_ en_ ec_
             subst ea_
             subst ec_
             clear en_
             have ea_ := Option.some.inj (hx476_4.symm.trans hx481_4)
             injection ea_ with ea_ en_ ec_
             subst ea_
             subst ec_
             clear en_
             have ea_ := Option.some.inj (hx476_5.symm.trans hx481_5)
             injection ea_ with ea_ en_ ec_
             subst ea_
             subst ec_
             clear en_
             go_wp2
             repeat (go_quiet (fail);try go_wp2)
             go_roundg k2
             case measure => have := HK1.out;have := HK2.out;omega
             case rel => exact ⟨(x5_2),(wrap64 (x4_1 + 1)),(by first|rfl|(simp;done)|(simp [*];done)),H',⟨by have := HK1.out;have := HK2.out;omega⟩,⟨rM (Kd.R_mono HO_5.out (fun _ hk => trivial))⟩,⟨bM HB.out⟩⟩
          ·rw [if_neg c16] at H
           exact absurd H (by simp)
         ·rw [if_neg c15] at H
          exact absurd H (by simp)
     ·rw [if_neg c4] at H
      have c4b0 : (((rd_T37 l0 x4_1).f1) == 3) = false := beq_eq_false_iff_ne.mpr c4
      have c4b1 : (((rd_T37 l0 x4_1).f1) != 3) = true := bne_iff_ne.mpr c4
      by_cases c28 : ((rd_T37 l0 x4_1).f1) = 1
      ·rw [if_pos c28] at H
       have c28b0 : (((rd_T37 l0 x4_1).f1) == 1) = true := beq_iff_eq.mpr c28
       have c28b1 : (((rd_T37 l0 x4_1).f1) != 1) = false := bne_eq_false_iff_eq.mpr c28
       clear c28
       replace H := Option.bind_eq_some_iff.mp H
       obtain ⟨t488,A290,H⟩ := H
       have A29 := aK A290
       clear A290
       have H' := aK H
       clear H
       have p468 : 0 ≤ (x4_1 : Int) := of_decide_eq_true (by first|(with_reducible assumption)|assumption)
       have q468 : x4_1 < (l0.length : Int) := of_decide_eq_true (by first|(with_reducible assumption)|assumption)
       obtain ⟨ad468,A468_3,c468_3,A468_4,c468_4,A468_5,c468_5,e468,hx468_0,hx468_1,hx468_2,hx468_3,hx468_4,hx468_5,hl468_3,hi468_3,hl468_4,hi468_4,hl468_5,hi468_5⟩ := at_T37 HR0.out x4_1 p468 q468
       cases e468
       replace hx468_0 := (HB.out.cell (World.block_lt_of_cell? w _ hx468_0)).trans hx468_0
       replace hx468_1 := (HB.out.cell (World.block_lt_of_cell? w _ hx468_1)).trans hx468_1
       replace hx468_2 := (HB.out.cell (World.block_lt_of_cell? w _ hx468_2)).trans hx468_2
       replace hx468_3 := (HB.out.cell (World.block_lt_of_cell? w _ hx468_3)).trans hx468_3
       replace hx468_4 := (HB.out.cell (World.block_lt_of_cell? w _ hx468_4)).trans hx468_4
       replace hx468_5 := (HB.out.cell (World.block_lt_of_cell? w _ hx468_5)).trans hx468_5
       have HR468_3 := aK hi468_3
       have HC468_3 := aK hl468_3
       clear hi468_3 hl468_3
       have HR468_4 := aK hi468_4
       have HC468_4 := aK hl468_4
       clear hi468_4 hl468_4
       have HR468_5 := aK hi468_5
       have HC468_5 := aK hl468_5
       clear hi468_5 hl468_5
       replace p468 := eq_true p468
       replace q468 := eq_true q468
       have p486 : 0 ≤ (x4_1 : Int) := of_decide_eq_true (by first|(with_reducible assumption)|assumption)
       have q486 : x4_1 < (l0.length : Int) := of_decide_eq_true (by first|(with_reducible assumption)|assumption)
       obtain ⟨ad486,A486_3,c486_3,A486_4,c486_4,A486_5,c486_5,e486,hx486_0,hx486_1,hx486_2,hx486_3,hx486_4,hx486_5,hl486_3,hi486_3,hl486_4,hi486_4,hl486_5,hi486_5⟩ := at_T37 HR0.out x4_1 p486 q486
       obtain rfl : ad468 = ad486 := (by injection e486)
       replace hx486_0 := (HB.out.cell (World.block_lt_of_cell? w _ hx486_0)).trans hx486_0
       replace hx486_1 := (HB.out.cell (World.block_lt_of_cell? w _ hx486_1)).trans hx486_1
       replace hx486_2 := (HB.out.cell (World.block_lt_of_cell? w _ hx486_2)).trans hx486_2
       replace hx486_3 := (HB.out.cell (World.block_lt_of_cell? w _ hx486_3)).trans hx486_3
       replace hx486_4 := (HB.out.cell (World.block_lt_of_cell? w _ hx486_4)).trans hx486_4
       replace hx486_5 := (HB.out.cell (World.block_lt_of_cell? w _ hx486_5)).trans hx486_5
       have HR486_3 := aK hi486_3
       have HC486_3 := aK hl486_3
       clear hi486_3 hl486_3
       have HR486_4 := aK hi486_4
       have HC486_4 := aK hl486_4
       clear hi486_4 hl486_4
       have HR486_5 := aK hi486_5
       have HC486_5 := aK hl486_5
       clear hi486_5 hl486_5
       replace p486 := eq_true p486
       replace q486 := eq_true q486
       have ea_ := Option.some.inj (hx468_3.symm.trans hx486_3)
       injection ea_ with ea_ en_ ec_
       subst ea_
       subst ec_
       clear en_
       have ea_ := Option.some.inj (hx468_4.symm.trans hx486_4)
       injection ea_ with ea_ en_ ec_
       subst ea_
       subst ec_
       clear en_
       have ea_ := Option.some.inj (hx468_5.symm.trans hx486_5)
       injection ea_ with ea_ en_ ec_
       subst ea_
       subst ec_
       clear en_
       have p487 : 0 ≤ (x4_1 : Int) := of_decide_eq_true (by first|(with_reducible assumption)|assumption)
       have q487 : x4_1 < (l0.length : Int) := of_decide_eq_true (by first|(with_reducible assumption)|assumption)
       obtain ⟨ad487,A487_3,c487_3,A487_4,c487_4,A487_5,c487_5,e487,hx487_0,hx487_1,hx487_2,hx487_3,hx487_4,hx487_5,hl487_3,hi487_3,hl487_4,hi487_4,hl487_5,hi487_5⟩ := at_T37 HR0.out x4_1 p487 q487
       obtain rfl : ad468 = ad487 := (by injection e487)
       replace hx487_0 := (HB.out.cell (World.block_lt_of_cell? w _ hx487_0)).trans hx487_0
       replace hx487_1 := (HB.out.cell (World.block_lt_of_cell? w _ hx487_1)).trans hx487_1
       replace hx487_2 := (HB.out.cell (World.block_lt_of_cell? w _ hx487_2)).trans hx487_2
       replace hx487_3 := (HB.out.cell (World.block_lt_of_cell? w _ hx487_3)).trans hx487_3
       replace hx487_4 := (HB.out.cell (World.block_lt_of_cell? w _ hx487_4)).trans hx487_4
       replace hx487_5 := (HB.out.cell (World.block_lt_of_cell? w _ hx487_5)).trans hx487_5
       have HR487_3 := aK hi487_3
       have HC487_3 := aK hl487_3
       clear hi487_3 hl487_3
       have HR487_4 := aK hi487_4
       have HC487_4 := aK hl487_4
       clear hi487_4 hl487_4
       have HR487_5 := aK hi487_5
       have HC487_5 := aK hl487_5
       clear hi487_5 hl487_5
       replace p487 := eq_true p487
       replace q487 := eq_true q487
       have ea_ := Option.some.inj (hx468_3.symm.trans hx487_3)
       injection ea_ with ea_ en_ ec_
       subst ea_
       subst ec_
       clear en_
       have ea_ := Option.some.inj (hx468_4.symm.trans hx487_4)
       injection ea_ with ea_ en_ ec_
       subst ea_
       subst ec_
       clear en_
       have ea_ := Option.some.inj (hx468_5.symm.trans hx487_5)
       injection ea_ with ea_ en_ ec_
       subst ea_
       subst ec_
       clear en_
       obtain ⟨Ao30,co30,eo30⟩ := Kd.R_slice HO_3.out
       subst eo30
       go_wp2_with (first|(go_at_call 25;(with_reducible refine (codesearchref33_with.calls k1 (fun k_ => some k_ = (.slice Ao30 x3_1.length co30 : Value).ownBlock) (.slice Ao30 x3_1.length co30) x3_1 ((rd_T37 l0 x4_1).f2) t488 w _ ?side1 ?side2 A29.out).mono ?_);(case side1 => repeat (first|(with_reducible first|exact HB.out|apply below_alloc|apply pw_below_drewN|apply below_drew1)|exact HB.out));(case side2 => exact Kd.R_tight rfl HO_3.out);rintro e w31 ⟨v489,rfl,ho0,hb,hkp⟩;have HO490 := aK (Kd.R_mono (ok' := fun k_ => True) ho0 (fun k_ hk_ => trivial));replace HB := aK (hb);(try clear hb);(try clear hkp);(try clear ho0)))
       repeat (go_quiet (first|(go_at_call 25;(with_reducible refine (codesearchref33_with.calls k1 (fun k_ => some k_ = (.slice Ao30 x3_1.length co30 : Value).ownBlock) (.slice Ao30 x3_1.length co30) x3_1 ((rd_T37 l0 x4_1).f2) t488 w _ ?side1 ?side2 A29.out).mono ?_);(case side1 => repeat (first|(with_reducible first|exact HB.out|apply below_alloc|apply pw_below_drewN|apply below_drew1)|exact HB.out));(case side2 => exact Kd.R_tight rfl HO_3.out);rintro e w31 ⟨v489,rfl,ho0,hb,hkp⟩;have HO490 := aK (Kd.R_mono (ok' := fun k_ => True) ho0 (fun k_ hk_ => trivial));replace HB := aK (hb);(try clear hb);(try clear hkp);(try clear ho0)));try go_wp2_with (first|(go_at_call 25;(with_reducible refine (codesearchref33_with.calls k1 (fun k_ => some k_ = (.slice Ao30 x3_1.length co30 : Value).ownBlock) (.slice Ao30 x3_1.length co30) x3_1 ((rd_T37 l0 x4_1).f2) t488 w _ ?side1 ?side2 A29.out).mono ?_);(case side1 => repeat (first|(with_reducible first|exact HB.out|apply below_alloc|apply pw_below_drewN|apply below_drew1)|exact HB.out));(case side2 => exact Kd.R_tight rfl HO_3.out);rintro e w31 ⟨v489,rfl,ho0,hb,hkp⟩;have HO490 := aK (Kd.R_mono (ok' := fun k_ => True) ho0 (fun k_ hk_ => trivial));replace HB := aK (hb);(try clear hb);(try clear hkp);(try clear ho0))))
       go_roundg k1
       case measure => have := HK1.out;omega
       case rel => exact ⟨(t488),(wrap64 (x4_1 + 1)),(by first|rfl|(simp;done)|(simp [*];done)),H',⟨by have := HK1.out;omega⟩,⟨rM HO490.out⟩,⟨bM HB.out⟩⟩
      ·rw [if_neg c28] at H
       have c28b0 : (((rd_T37 l0 x4_1).f1) == 1) = false := beq_eq_false_iff_ne.mpr c28
       have c28b1 : (((rd_T37 l0 x4_1).f1) != 1) = true := bne_iff_ne.mpr c28
       have H' := aK H
       clear H
       have p468 : 0 ≤ (x4_1 : Int) := of_decide_eq_true (by first|(with_reducible assumption)|assumption)
       have q468 : x4_1 < (l0.length : Int) := of_decide_eq_true (by first|(with_reducible assumption)|assumption)
       obtain ⟨ad468,A468_3,c468_3,A468_4,c468_4,A468_5,c468_5,e468,hx468_0,hx468_1,hx468_2,hx468_3,hx468_4,hx468_5,hl468_3,hi468_3,hl468_4,hi468_4,hl468_5,hi468_5⟩ := at_T37 HR0.out x4_1 p468 q468
       cases e468
       replace hx468_0 := (HB.out.cell (World.block_lt_of_cell? w _ hx468_0)).trans hx468_0
       replace hx468_1 := (HB.out.cell (World.block_lt_of_cell? w _ hx468_1)).trans hx468_1
       replace hx468_2 := (HB.out.cell (World.block_lt_of_cell? w _ hx468_2)).trans hx468_2
       replace hx468_3 := (HB.out.cell (World.block_lt_of_cell? w _ hx468_3)).trans hx468_3
       replace hx468_4 := (HB.out.cell (World.block_lt_of_cell? w _ hx468_4)).trans hx468_4
       replace hx468_5 := (HB.out.cell (World.block_lt_of_cell? w _ hx468_5)).trans hx468_5
       have HR468_3 := aK hi468_3
       have HC468_3 := aK hl468_3
       clear hi468_3 hl468_3
       have HR468_4 := aK hi468_4
       have HC468_4 := aK hl468_4
       clear hi468_4 hl468_4
       have HR468_5 := aK hi468_5
       have HC468_5 := aK hl468_5
       clear hi468_5 hl468_5
       replace p468 := eq_true p468
       replace q468 := eq_true q468
       have p486 : 0 ≤ (x4_1 : Int) := of_decide_eq_true (by first|(with_reducible assumption)|assumption)
       have q486 : x4_1 < (l0.length : Int) := of_decide_eq_true (by first|(with_reducible assumption)|assumption)
       obtain ⟨ad486,A486_3,c486_3,A486_4,c486_4,A486_5,c486_5,e486,hx486_0,hx486_1,hx486_2,hx486_3,hx486_4,hx486_5,hl486_3,hi486_3,hl486_4,hi486_4,hl486_5,hi486_5⟩ := at_T37 HR0.out x4_1 p486 q486
       obtain rfl : ad468 = ad486 := (by injection e486)
       replace hx486_0 := (HB.out.cell (World.block_lt_of_cell? w _ hx486_0)).trans hx486_0
       replace hx486_1 := (HB.out.cell (World.block_lt_of_cell? w _ hx486_1)).trans hx486_1
       replace hx486_2 := (HB.out.cell (World.block_lt_of_cell? w _ hx486_2)).trans hx486_2
       replace hx486_3 := (HB.out.cell (World.block_lt_of_cell? w _ hx486_3)).trans hx486_3
       replace hx486_4 := (HB.out.cell (World.block_lt_of_cell? w _ hx486_4)).trans hx486_4
       replace hx486_5 := (HB.out.cell (World.block_lt_of_cell? w _ hx486_5)).trans hx486_5
       have HR486_3 := aK hi486_3
       have HC486_3 := aK hl486_3
       clear hi486_3 hl486_3
       have HR486_4 := aK hi486_4
       have HC486_4 := aK hl486_4
       clear hi486_4 hl486_4
       have HR486_5 := aK hi486_5
       have HC486_5 := aK hl486_5
       clear hi486_5 hl486_5
       replace p486 := eq_true p486
       replace q486 := eq_true q486
       have ea_ := Option.some.inj (hx468_3.symm.trans hx486_3)
       injection ea_ with ea_ en_ ec_
       subst ea_
       subst ec_
       clear en_
       have ea_ := Option.some.inj (hx468_4.symm.trans hx486_4)
       injection ea_ with ea_ en_ ec_
       subst ea_
       subst ec_
       clear en_
       have ea_ := Option.some.inj (hx468_5.symm.trans hx486_5)
       injection ea_ with ea_ en_ ec_
       subst ea_
       subst ec_
       clear en_
       have p491 : 0 ≤ (x4_1 : Int) := of_decide_eq_true (by first|(with_reducible assumption)|assumption)
       have q491 : x4_1 < (l0.length : Int) := of_decide_eq_true (by first|(with_reducible assumption)|assumption)
       obtain ⟨ad491,A491_3,c491_3,A491_4,c491_4,A491_5,c491_5,e491,hx491_0,hx491_1,hx491_2,hx491_3,hx491_4,hx491_5,hl491_3,hi491_3,hl491_4,hi491_4,hl491_5,hi491_5⟩ := at_T37 HR0.out x4_1 p491 q491
       obtain rfl : ad468 = ad491 := (by injection e491)
       replace hx491_0 := (HB.out.cell (World.block_lt_of_cell? w _ hx491_0)).trans hx491_0
       replace hx491_1 := (HB.out.cell (World.block_lt_of_cell? w _ hx491_1)).trans hx491_1
       replace hx491_2 := (HB.out.cell (World.block_lt_of_cell? w _ hx491_2)).trans hx491_2
       replace hx491_3 := (HB.out.cell (World.block_lt_of_cell? w _ hx491_3)).trans hx491_3
       replace hx491_4 := (HB.out.cell (World.block_lt_of_cell? w _ hx491_4)).trans hx491_4
       replace hx491_5 := (HB.out.cell (World.block_lt_of_cell? w _ hx491_5)).trans hx491_5
       have HR491_3 := aK hi491_3
       have HC491_3 := aK hl491_3
       clear hi491_3 hl491_3
       have HR491_4 := aK hi491_4
       have HC491_4 := aK hl491_4
       clear hi491_4 hl491_4
       have HR491_5 := aK hi491_5
       have HC491_5 := aK hl491_5
       clear hi491_5 hl491_5
       replace p491 := eq_true p491
       replace q491 := eq_true q491
       have ea_ := Option.some.inj (hx468_3.symm.trans hx491_3)
       injection ea_ with ea_ en_ ec_
       subst ea_
       subst ec_
       clear en_
       have ea_ := Option.some.inj (hx468_4.symm.trans hx491_4)
       injection ea_ with ea_ en_ ec_
       subst ea_
       subst ec_
       clear en_
       have ea_ := Option.some.inj (hx468_5.symm.trans hx491_5)
       injection ea_ with ea_ en_ ec_
       subst ea_
       subst ec_
       clear en_
       go_wp2
       repeat (go_quiet (fail);try go_wp2)
       go_roundg k1
       case measure => have := HK1.out;omega
       case rel => exact ⟨(x3_1),(wrap64 (x4_1 + 1)),(by first|rfl|(simp;done)|(simp [*];done)),H',⟨by have := HK1.out;omega⟩,⟨rM HO_3.out⟩,⟨bM HB.out⟩⟩
    ·rw [if_neg c3] at H
     exact absurd H (by simp)
   ·rw [if_neg c2] at H
    have c2b0 : decide (x4_1 < (l0.length : Int)) = false := decide_eq_false c2
    clear c2
    obtain rfl := Option.some.inj H
    go_wp2
    repeat (go_quiet (fail);try go_wp2)
    go_ret
    exact ⟨_,by first|rfl|(simp [errW_none,errW_some] <;> rfl)|(simp [*,errW_none,errW_some] <;> rfl),rM HO_3.out,bM HB.out⟩

end Go.Proofs.YtmgliocboeifdaaDoor.M
