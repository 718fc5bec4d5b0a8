-- Written by hp.py, a program of this session, over the kit's print of the translation. Not trusted: Lean checks it.
import Derived.Test.YtmgliocboeifdaaGreatDoorRx0
import Derived.Test.YtmgliocboeifdaaGreatDoorRx18
namespace Go.Proofs.YtmgliocboeifdaaGreatDoor.R
open Go.RowKit Go.Proofs.YtmgliocboeifdaaGreatDoorW.PrintWords Go.Proofs.YtmgliocboeifdaaGreatDoorW.PrintLast Go.Proofs.YtmgliocboeifdaaGreatDoorW.PrintMore
attribute [local go_sem] max2_int min2_int max_two min_two max_three min_three max_four min_four   -- for this text's walks alone
set_option linter.unusedVariables false
set_option linter.unusedSimpArgs false

/-! ### codesearchref33_Live: function 27 -/
mutual
def codesearchref33_Live.l0 : Nat → List (S30) → List Int → Int → Option (List Int)
|0,_,_,_ => none
|k + 1,x0,x3,x4 => if x4 < (x0.length : Int) then (if 0 ≤ x4 then (if ((rd_T30 x0 x4).f1) = 3 then (codesearchref33_Live.l1 k x0 x3 x4 ([] : List Int) 0) else (if ((rd_T30 x0 x4).f1) = 1 then ((codesearchref33_with.f k x3 ((rd_T30 x0 x4).f2)).bind fun t505 => (codesearchref33_Live.l0 k x0 t505 (wrap64 (x4 + 1)))) else (codesearchref33_Live.l0 k x0 x3 (wrap64 (x4 + 1))))) else (none)) else (some x3)
def codesearchref33_Live.l1 : Nat → List (S30) → List Int → Int → List Int → Int → Option (List Int)
|0,_,_,_,_,_ => none
|k + 1,x0,x3,x4,x5,x6 => if x6 < (x3.length : Int) then (if 0 ≤ x4 then (if x4 < (x0.length : Int) then (if 0 ≤ x6 then ((codesearchref33_has.f k ((rd_T30 x0 x4).f4) (rd x3 x6)).bind fun t488 => (if t488 = true then (codesearchref33_Live.l1 k x0 x3 x4 x5 (wrap64 (x6 + 1))) else (if x5.length < 17592186044416 then (codesearchref33_Live.l1 k x0 x3 x4 (x5 ++ [rd x3 x6]) (wrap64 (x6 + 1))) else (none)))) else (none)) else (none)) else (none)) else (if 0 ≤ x4 then (if x4 < (x0.length : Int) then (if ((rd_T30 x0 x4).f1) = 1 then ((codesearchref33_with.f k x5 ((rd_T30 x0 x4).f2)).bind fun t495 => (codesearchref33_Live.l0 k x0 t495 (wrap64 (x4 + 1)))) else (if ((rd_T30 x0 x4).f1) = 3 then ((codesearchref33_with.f k x5 ((rd_T30 x0 x4).f2)).bind fun t500 => (codesearchref33_Live.l0 k x0 t500 (wrap64 (x4 + 1)))) else (codesearchref33_Live.l0 k x0 x5 (wrap64 (x4 + 1))))) else (none)) else (none))
end
def codesearchref33_Live.f (k : Nat) (l0 : List (S30)) : Option (List Int) := codesearchref33_Live.l0 k l0 ([] : List Int) 0
theorem codesearchref33_Live.mono_l : ∀ k, (∀ y0 y1 y2, LeO (codesearchref33_Live.l0 k y0 y1 y2) (codesearchref33_Live.l0 (k + 1) y0 y1 y2)) ∧ (∀ y0 y1 y2 y3 y4, LeO (codesearchref33_Live.l1 k y0 y1 y2 y3 y4) (codesearchref33_Live.l1 (k + 1) y0 y1 y2 y3 y4))
|0 => ⟨fun _ _ _ r h => by simp [codesearchref33_Live.l0] at h,fun _ _ _ _ _ r h => by simp [codesearchref33_Live.l1] at h⟩
|k + 1 => by
  obtain ⟨ih0,ih1⟩ := codesearchref33_Live.mono_l k
  refine ⟨?_,?_⟩
  ·intro y0 y1 y2
   unfold codesearchref33_Live.l0
   repeat' (with_reducible first|exact ih0 _ _ _|exact ih1 _ _ _ _ _|exact codesearchref33_with.mono _ _ _|exact LeO.refl _|exact LeO.none _|refine LeO.ite ?_ ?_|refine LeO.bind ?_ (fun _ => ?_))
  ·intro y0 y1 y2 y3 y4
   unfold codesearchref33_Live.l1
   repeat' (with_reducible first|exact ih0 _ _ _|exact ih1 _ _ _ _ _|exact codesearchref33_has.mono _ _ _|exact codesearchref33_with.mono _ _ _|exact LeO.refl _|exact LeO.none _|refine LeO.ite ?_ ?_|refine LeO.bind ?_ (fun _ => ?_))
theorem codesearchref33_Live.mono : ∀ a0 k, LeO (codesearchref33_Live.f k a0) (codesearchref33_Live.f (k + 1) a0) := by
 intro a0 k
 obtain ⟨ih0,ih1⟩ := codesearchref33_Live.mono_l k
 unfold codesearchref33_Live.f
 repeat' first
  |(with_reducible exact ih0 _ _ _)
  |(with_reducible exact ih1 _ _ _ _ _)
  |(with_reducible exact codesearchref33_has.mono _ _ _)
  |(with_reducible exact codesearchref33_with.mono _ _ _)
  |(with_reducible exact LeO.refl _)
  |(with_reducible exact LeO.none _)
  |(with_reducible refine LeO.ite ?_ ?_)
  |(with_reducible refine LeO.bind ?_ (fun _ => ?_))
  |exact ih0 _ _ _
  |exact ih1 _ _ _ _ _
  |exact codesearchref33_has.mono _ _ _
  |exact codesearchref33_with.mono _ _ _
  |exact LeO.none _
  |refine LeO.ite ?_ ?_
  |refine LeO.bind ?_ (fun _ => ?_)
set_option maxHeartbeats 4000000 in
set_option maxRecDepth 100000 in
theorem codesearchref33_Live.calls (k : Nat) (A0 : Option Addr) (c0 : Nat) (l0 : List (S30)) (r : List Int) (w : World) (hr0 : Kd.C k30 w A0 l0.length l0) (hc0 : l0.length ≤ c0) (h : codesearchref33_Live.f k l0 = some r) :
  Calls Tryz.prog 27 #[.slice A0 l0.length c0] w fun e w' => ∃ v0_ : Value,e = .returned (v0_) ∧ Kd.R (Kd.int .i64) 3 w' w.heap.size (fun _ => True) v0_ r ∧ Below w.heap.size w w' := by
 have HR0 := aK hr0
 have HC0 := aK hc0
 clear hr0 hc0
 have HB := aK (Below.refl w.heap.size w)
 have H : (codesearchref33_Live.l0 k l0 ([] : List Int) 0) = some r := h
 clear h
 have H' := aK H
 clear H
 go_enter Tryz.func27,Tryz.ntmps27
 go_wp2
 repeat (go_quiet (fail);try go_wp2)
 go_loopg [3,4] k (fun kq v3 v4 w' => ∃ (x3_1 : List Int) (x4_1 : Int),v4 = .int .i64 x4_1 ∧ Aside0 (codesearchref33_Live.l0 kq l0 x3_1 x4_1 = some r) ∧ Aside0 (kq ≤ k) ∧ Aside0 (Kd.R (Kd.int .i64) 3 w' w.heap.size (fun _ => True) v3 x3_1) ∧ Aside0 (Below w.heap.size w w'))
 case atStart => exact ⟨(([] : List Int)),(0),(by first|rfl|(simp;done)|(simp [*];done)),H',⟨Nat.le_refl _⟩,⟨by first|exact Kd.R_nil _ _ _ _ _|exact Kd.N_nil _ _ _ _ _|exact Kd.V_nil _ _ _ _ _|exact Kd.Q_nil _ _ _ _ _|exact Kd.S_nil _ _ _ _ _⟩,⟨bM HB.out⟩⟩
 case round =>
  clear H'
  obtain ⟨x3_1,x4_1,rfl,HA,HK1,HO_3,HB⟩ := hrel
  cases gk with
 |zero => exact absurd HA.out (by simp [codesearchref33_Live.l0])
 |succ k1 =>
   have H := HA.out
   clear HA
   simp only [codesearchref33_Live.l0] at H
   by_cases c2 : x4_1 < (l0.length : Int)
   ·rw [if_pos c2] at H
    have c2b0 := decide_eq_true c2
    clear c2
    obtain ⟨c3,H⟩ := iS H
    have c3b0 := decide_eq_true c3
    clear c3
    by_cases c4 : ((rd_T30 l0 x4_1).f1) = 3
    ·rw [if_pos c4] at H
     have c4b0 := beq_iff_eq.mpr c4
     have c4b1 := bne_eq_false_iff_eq.mpr c4
     clear c4
     have H' := aK H
     clear H
     have p485 : 0 ≤ (x4_1 : Int) := of_decide_eq_true (by assumption)
     have q485 : x4_1 < (l0.length : Int) := of_decide_eq_true (by assumption)
     obtain ⟨ad485,A485_3,c485_3,A485_4,c485_4,A485_5,c485_5,e485,hx485_0,hx485_1,hx485_2,hx485_3,hx485_4,hx485_5,hl485_3,hi485_3,hl485_4,hi485_4,hl485_5,hi485_5⟩ := at_T30 HR0.out x4_1 p485 q485
     cases e485
     replace hx485_0 := xM HB hx485_0
     replace hx485_1 := xM HB hx485_1
     replace hx485_2 := xM HB hx485_2
     replace hx485_3 := xM HB hx485_3
     replace hx485_4 := xM HB hx485_4
     replace hx485_5 := xM HB hx485_5
     have HR485_3 := aK hi485_3
     have HC485_3 := aK hl485_3
     clear hi485_3 hl485_3
     have HR485_4 := aK hi485_4
     have HC485_4 := aK hl485_4
     clear hi485_4 hl485_4
     have HR485_5 := aK hi485_5
     have HC485_5 := aK hl485_5
     clear hi485_5 hl485_5
     replace p485 := eq_true p485
     replace q485 := eq_true q485
     go_wp2
     repeat (go_quiet (fail);try go_wp2)
     go_loopg [5,6] k1 (fun kq v5 v6 w' => ∃ (x5_2 : List Int) (x6_2 : Int),v6 = .int .i64 x6_2 ∧ Aside0 (codesearchref33_Live.l1 kq l0 x3_1 x4_1 x5_2 x6_2 = some r) ∧ Aside0 (kq ≤ k1) ∧ Aside0 (Kd.R (Kd.int .i64) 3 w' w.heap.size (fun k_ => some k_ ≠ (v5 : Value).ownBlock) u3 x3_1) ∧ Aside0 (Kd.R (Kd.int .i64) 3 w' w.heap.size (fun k_ => some k_ ≠ (u3 : Value).ownBlock) v5 x5_2) ∧ Aside0 (Below w.heap.size w w'))
     case atStart => exact ⟨(([] : List Int)),(0),(by first|rfl|(simp;done)|(simp [*];done)),H',⟨Nat.le_refl _⟩,⟨rM (Kd.R_mono HO_3.out (fun _ hk => (by simp [Value.ownBlock])))⟩,⟨by first|exact Kd.R_nil _ _ _ _ _|exact Kd.N_nil _ _ _ _ _|exact Kd.V_nil _ _ _ _ _|exact Kd.Q_nil _ _ _ _ _|exact Kd.S_nil _ _ _ _ _⟩,⟨bM HB.out⟩⟩
     case round =>
      clear H'
      try clear c2
      try clear c2b0
      try clear p2
      try clear c3
      try clear c3b0
      try clear c4
      try clear c4b0
      try clear c4b1
      try clear p4
      try clear q4
      try clear hx4
      try clear hx485_0
      try clear hx485_1
      try clear hx485_2
      try clear hx485_3
      try clear hx485_4
      try clear hx485_5
      try clear p485
      try clear q485
      obtain ⟨x5_2,x6_2,rfl,HA,HK2,HO_3,HO_5,HB⟩ := hrel
      cases gk with
     |zero => exact absurd HA.out (by simp [codesearchref33_Live.l1])
     |succ k2 =>
       have H := HA.out
       clear HA
       simp only [codesearchref33_Live.l1] at H
       by_cases c5 : x6_2 < (x3_1.length : Int)
       ·rw [if_pos c5] at H
        have c5b0 := decide_eq_true c5
        clear c5
        obtain ⟨c6,H⟩ := iS H
        have c6b0 := decide_eq_true c6
        clear c6
        obtain ⟨c7,H⟩ := iS H
        have c7b0 := decide_eq_true c7
        clear c7
        obtain ⟨c8,H⟩ := iS H
        have c8b0 := decide_eq_true c8
        clear c8
        replace H := Option.bind_eq_some_iff.mp H
        obtain ⟨t488,A90,H⟩ := H
        have A9 := aK A90
        clear A90
        by_cases c10 : t488 = true
        ·subst c10
         rw [if_pos rfl] at H
         have H' := aK H
         clear H
         obtain ⟨Ao11,co11,eo11⟩ := Kd.R_slice HO_3.out
         subst eo11
         have p486 : 0 ≤ (x4_1 : Int) := of_decide_eq_true (by assumption)
         have q486 : x4_1 < (l0.length : Int) := of_decide_eq_true (by assumption)
         obtain ⟨ad486,A486_3,c486_3,A486_4,c486_4,A486_5,c486_5,e486,hx486_0,hx486_1,hx486_2,hx486_3,hx486_4,hx486_5,hl486_3,hi486_3,hl486_4,hi486_4,hl486_5,hi486_5⟩ := at_T30 HR0.out x4_1 p486 q486
         obtain rfl : ad485 = ad486 := (by injection e486)
         replace hx486_0 := xM HB hx486_0
         replace hx486_1 := xM HB hx486_1
         replace hx486_2 := xM HB hx486_2
         replace hx486_3 := xM HB hx486_3
         replace hx486_4 := xM HB hx486_4
         replace hx486_5 := xM HB hx486_5
         have HR486_3 := aK hi486_3
         have HC486_3 := aK hl486_3
         clear hi486_3 hl486_3
         have HR486_4 := aK hi486_4
         have HC486_4 := aK hl486_4
         clear hi486_4 hl486_4
         have HR486_5 := aK hi486_5
         have HC486_5 := aK hl486_5
         clear hi486_5 hl486_5
         replace p486 := eq_true p486
         replace q486 := eq_true q486
         have p487 : 0 ≤ (x6_2 : Int) := of_decide_eq_true (by assumption)
         have q487 : x6_2 < (x3_1.length : Int) := of_decide_eq_true (by assumption)
         obtain ⟨ad487,e487,hx487_0⟩ := Kd.at_int (Kd.R_reads' HO_3.out).2.2 x6_2 p487 q487
         cases e487
         replace p487 := eq_true p487
         replace q487 := eq_true q487
         go_wp2_with (first|(go_at_call 28;(with_reducible refine (codesearchref33_has.calls k2 _ _ ((rd_T30 l0 x4_1).f4) (rd x3_1 x6_2) true _ ?side1 ?side2 A9.out).mono ?_);(case side1 => exact cM (Kd.C_below HR486_4.out HB.out));(case side2 => exact HC486_4.out);rintro e w' ⟨rfl,⟨nd,rfl⟩⟩;(try first|exact ⟨rfl,_,World.drewN_drewN _ _ _⟩|exact ⟨rfl,_,Eq.trans (World.drewN_drewN _ _ _) (congrArg (World.drewN _) (Nat.add_assoc _ _ _))⟩)))
         repeat (go_quiet (first|(go_at_call 28;(with_reducible refine (codesearchref33_has.calls k2 _ _ ((rd_T30 l0 x4_1).f4) (rd x3_1 x6_2) true _ ?side1 ?side2 A9.out).mono ?_);(case side1 => exact cM (Kd.C_below HR486_4.out HB.out));(case side2 => exact HC486_4.out);rintro e w' ⟨rfl,⟨nd,rfl⟩⟩;(try first|exact ⟨rfl,_,World.drewN_drewN _ _ _⟩|exact ⟨rfl,_,Eq.trans (World.drewN_drewN _ _ _) (congrArg (World.drewN _) (Nat.add_assoc _ _ _))⟩)));try go_wp2_with (first|(go_at_call 28;(with_reducible refine (codesearchref33_has.calls k2 _ _ ((rd_T30 l0 x4_1).f4) (rd x3_1 x6_2) true _ ?side1 ?side2 A9.out).mono ?_);(case side1 => exact cM (Kd.C_below HR486_4.out HB.out));(case side2 => exact HC486_4.out);rintro e w' ⟨rfl,⟨nd,rfl⟩⟩;(try first|exact ⟨rfl,_,World.drewN_drewN _ _ _⟩|exact ⟨rfl,_,Eq.trans (World.drewN_drewN _ _ _) (congrArg (World.drewN _) (Nat.add_assoc _ _ _))⟩))))
         go_roundg k2
         case measure => have := HK1.out;have := HK2.out;omega
         case rel => exact ⟨(x5_2),(wrap64 (x6_2 + 1)),(by first|rfl|(simp;done)|(simp [*];done)),H',⟨by have := HK1.out;have := HK2.out;omega⟩,⟨rM HO_3.out⟩,⟨rM HO_5.out⟩,⟨bM HB.out⟩⟩
        ·replace c10 := Bool.eq_false_iff.mpr c10
         subst c10
         rw [if_neg (show ¬ (false = true) by decide)] at H
         obtain ⟨c12,H⟩ := iS H
         have LMc12 := aK c12
         clear c12
         obtain ⟨y490,hy490⟩ : ∃ y_ : List Int,y_ = (x5_2 ++ [rd x3_1 x6_2]) := ⟨_,rfl⟩
         replace H : (codesearchref33_Live.l1 k2 l0 x3_1 x4_1 y490 (wrap64 (x6_2 + 1))) = some r := by first|(rw [hy490];with_reducible exact H)|(have H2_ := (Option.bind_some _ _).symm.trans H;rw [hy490];with_reducible exact H2_)|(have H2_ := (Option.bind_some _ _).symm.trans H;with_reducible exact H2_)|with_reducible exact H|(rw [hy490];exact H)|exact H
         have Ny490 := aK hy490
         clear hy490
         have H' := aK H
         clear H
         obtain ⟨Ao13,co13,eo13⟩ := Kd.R_slice HO_3.out
         subst eo13
         have p486 : 0 ≤ (x4_1 : Int) := of_decide_eq_true (by assumption)
         have q486 : x4_1 < (l0.length : Int) := of_decide_eq_true (by assumption)
         obtain ⟨ad486,A486_3,c486_3,A486_4,c486_4,A486_5,c486_5,e486,hx486_0,hx486_1,hx486_2,hx486_3,hx486_4,hx486_5,hl486_3,hi486_3,hl486_4,hi486_4,hl486_5,hi486_5⟩ := at_T30 HR0.out x4_1 p486 q486
         obtain rfl : ad485 = ad486 := (by injection e486)
         replace hx486_0 := xM HB hx486_0
         replace hx486_1 := xM HB hx486_1
         replace hx486_2 := xM HB hx486_2
         replace hx486_3 := xM HB hx486_3
         replace hx486_4 := xM HB hx486_4
         replace hx486_5 := xM HB hx486_5
         have HR486_3 := aK hi486_3
         have HC486_3 := aK hl486_3
         clear hi486_3 hl486_3
         have HR486_4 := aK hi486_4
         have HC486_4 := aK hl486_4
         clear hi486_4 hl486_4
         have HR486_5 := aK hi486_5
         have HC486_5 := aK hl486_5
         clear hi486_5 hl486_5
         replace p486 := eq_true p486
         replace q486 := eq_true q486
         have p487 : 0 ≤ (x6_2 : Int) := of_decide_eq_true (by assumption)
         have q487 : x6_2 < (x3_1.length : Int) := of_decide_eq_true (by assumption)
         obtain ⟨ad487,e487,hx487_0⟩ := Kd.at_int (Kd.R_reads' HO_3.out).2.2 x6_2 p487 q487
         cases e487
         replace p487 := eq_true p487
         replace q487 := eq_true q487
         go_wp2_with (first|(go_at_call 28;(with_reducible refine (codesearchref33_has.calls k2 _ _ ((rd_T30 l0 x4_1).f4) (rd x3_1 x6_2) false _ ?side1 ?side2 A9.out).mono ?_);(case side1 => exact cM (Kd.C_below HR486_4.out HB.out));(case side2 => exact HC486_4.out);rintro e w' ⟨rfl,⟨nd,rfl⟩⟩;(try first|exact ⟨rfl,_,World.drewN_drewN _ _ _⟩|exact ⟨rfl,_,Eq.trans (World.drewN_drewN _ _ _) (congrArg (World.drewN _) (Nat.add_assoc _ _ _))⟩);have p489 : 0 ≤ (x6_2 : Int) := of_decide_eq_true (by assumption);have q489 : x6_2 < (x3_1.length : Int) := of_decide_eq_true (by assumption);obtain ⟨ad489,e489,hx489_0⟩ := Kd.at_int (Kd.R_reads' HO_3.out).2.2 x6_2 p489 q489;obtain rfl : ad487 = ad489 := (by injection e489);replace p489 := eq_true p489;replace q489 := eq_true q489)|((with_reducible refine gate_builtin (b := .append) (xs := #[.tmp 36,.tmp 41]) rfl ?_);at_builtin;refine Kd.R_append (Kd.int .i64) (w0 := w) w.heap.size rfl (.tmp 36) (.tmp 41) 27 3 (.int .i64 0) 8 rfl Tryz.underlying27 info3 rfl (by decide) (by omega) u5 x5_2 (rd x3_1 x6_2) [.int .i64 (rd x3_1 x6_2)] (fun k_ => some k_ ≠ (.slice (some ad487) x3_1.length co13 : Value).ownBlock) (fun _ => False) rfl rfl ?aP (fun _ hk => hk.elim) ?aF ?aO ?aB ?aS ?aL ?_;(case aP => exact rfl);(case aB => exact (bM HB.out));(case aF => exact (fun k_ hk => Kd.fresh' (Kd.R_lt (rM HO_3.out)) k_ hk));(case aO => exact (rM HO_5.out));(case aS => exact (below_size (bM HB.out)));(case aL => have := LMc12.out;omega);intro v491 w14 ho hb hg hat;rw [← Ny490.out] at ho;replace HO_3 := aK (Kd.R_after (ok := (fun _ => True)) (by (with_reducible repeat (first|apply Kd.R_alloc|apply Kd.R_drewN|apply Kd.R_drew));exact Kd.R_mono HO_3.out (fun _ hk => ⟨trivial,hk⟩)) hg hat);replace HB := aK (hb);have HO492 := aK (ho);clear ho hb hg hat))
         repeat (go_quiet (first|(go_at_call 28;(with_reducible refine (codesearchref33_has.calls k2 _ _ ((rd_T30 l0 x4_1).f4) (rd x3_1 x6_2) false _ ?side1 ?side2 A9.out).mono ?_);(case side1 => exact cM (Kd.C_below HR486_4.out HB.out));(case side2 => exact HC486_4.out);rintro e w' ⟨rfl,⟨nd,rfl⟩⟩;(try first|exact ⟨rfl,_,World.drewN_drewN _ _ _⟩|exact ⟨rfl,_,Eq.trans (World.drewN_drewN _ _ _) (congrArg (World.drewN _) (Nat.add_assoc _ _ _))⟩);have p489 : 0 ≤ (x6_2 : Int) := of_decide_eq_true (by assumption);have q489 : x6_2 < (x3_1.length : Int) := of_decide_eq_true (by assumption);obtain ⟨ad489,e489,hx489_0⟩ := Kd.at_int (Kd.R_reads' HO_3.out).2.2 x6_2 p489 q489;obtain rfl : ad487 = ad489 := (by injection e489);replace p489 := eq_true p489;replace q489 := eq_true q489)|((with_reducible refine gate_builtin (b := .append) (xs := #[.tmp 36,.tmp 41]) rfl ?_);at_builtin;refine Kd.R_append (Kd.int .i64) (w0 := w) w.heap.size rfl (.tmp 36) (.tmp 41) 27 3 (.int .i64 0) 8 rfl Tryz.underlying27 info3 rfl (by decide) (by omega) u5 x5_2 (rd x3_1 x6_2) [.int .i64 (rd x3_1 x6_2)] (fun k_ => some k_ ≠ (.slice (some ad487) x3_1.length co13 : Value).ownBlock) (fun _ => False) rfl rfl ?aP (fun _ hk => hk.elim) ?aF ?aO ?aB ?aS ?aL ?_;(case aP => exact rfl);(case aB => exact (bM HB.out));(case aF => exact (fun k_ hk => Kd.fresh' (Kd.R_lt (rM HO_3.out)) k_ hk));(case aO => exact (rM HO_5.out));(case aS => exact (below_size (bM HB.out)));(case aL => have := LMc12.out;omega);intro v491 w14 ho hb hg hat;rw [← Ny490.out] at ho;replace HO_3 := aK (Kd.R_after (ok := (fun _ => True)) (by (with_reducible repeat (first|apply Kd.R_alloc|apply Kd.R_drewN|apply Kd.R_drew));exact Kd.R_mono HO_3.out (fun _ hk => ⟨trivial,hk⟩)) hg hat);replace HB := aK (hb);have HO492 := aK (ho);clear ho hb hg hat));try go_wp2_with (first|(go_at_call 28;(with_reducible refine (codesearchref33_has.calls k2 _ _ ((rd_T30 l0 x4_1).f4) (rd x3_1 x6_2) false _ ?side1 ?side2 A9.out).mono ?_);(case side1 => exact cM (Kd.C_below HR486_4.out HB.out));(case side2 => exact HC486_4.out);rintro e w' ⟨rfl,⟨nd,rfl⟩⟩;(try first|exact ⟨rfl,_,World.drewN_drewN _ _ _⟩|exact ⟨rfl,_,Eq.trans (World.drewN_drewN _ _ _) (congrArg (World.drewN _) (Nat.add_assoc _ _ _))⟩);have p489 : 0 ≤ (x6_2 : Int) := of_decide_eq_true (by assumption);have q489 : x6_2 < (x3_1.length : Int) := of_decide_eq_true (by assumption);obtain ⟨ad489,e489,hx489_0⟩ := Kd.at_int (Kd.R_reads' HO_3.out).2.2 x6_2 p489 q489;obtain rfl : ad487 = ad489 := (by injection e489);replace p489 := eq_true p489;replace q489 := eq_true q489)|((with_reducible refine gate_builtin (b := .append) (xs := #[.tmp 36,.tmp 41]) rfl ?_);at_builtin;refine Kd.R_append (Kd.int .i64) (w0 := w) w.heap.size rfl (.tmp 36) (.tmp 41) 27 3 (.int .i64 0) 8 rfl Tryz.underlying27 info3 rfl (by decide) (by omega) u5 x5_2 (rd x3_1 x6_2) [.int .i64 (rd x3_1 x6_2)] (fun k_ => some k_ ≠ (.slice (some ad487) x3_1.length co13 : Value).ownBlock) (fun _ => False) rfl rfl ?aP (fun _ hk => hk.elim) ?aF ?aO ?aB ?aS ?aL ?_;(case aP => exact rfl);(case aB => exact (bM HB.out));(case aF => exact (fun k_ hk => Kd.fresh' (Kd.R_lt (rM HO_3.out)) k_ hk));(case aO => exact (rM HO_5.out));(case aS => exact (below_size (bM HB.out)));(case aL => have := LMc12.out;omega);intro v491 w14 ho hb hg hat;rw [← Ny490.out] at ho;replace HO_3 := aK (Kd.R_after (ok := (fun _ => True)) (by (with_reducible repeat (first|apply Kd.R_alloc|apply Kd.R_drewN|apply Kd.R_drew));exact Kd.R_mono HO_3.out (fun _ hk => ⟨trivial,hk⟩)) hg hat);replace HB := aK (hb);have HO492 := aK (ho);clear ho hb hg hat)))
         go_roundg k2
         case measure => have := HK1.out;have := HK2.out;omega
         case rel => exact ⟨(y490),(wrap64 (x6_2 + 1)),(by first|rfl|(simp;done)|(simp [*];done)),H',⟨by have := HK1.out;have := HK2.out;omega⟩,⟨by (with_reducible repeat (first|apply Kd.R_alloc|apply Kd.R_drewN|apply Kd.R_drew));exact Kd.R_mono HO_3.out (fun _ hk => hk.2)⟩,⟨rM HO492.out⟩,⟨bM HB.out⟩⟩
       ·rw [if_neg c5] at H
        have c5b0 := decide_eq_false c5
        clear c5
        obtain ⟨c15,H⟩ := iS H
        have c15b0 := decide_eq_true c15
        clear c15
        obtain ⟨c16,H⟩ := iS H
        have c16b0 := decide_eq_true c16
        clear c16
        by_cases c17 : ((rd_T30 l0 x4_1).f1) = 1
        ·rw [if_pos c17] at H
         have c17b0 := beq_iff_eq.mpr c17
         have c17b1 := bne_eq_false_iff_eq.mpr c17
         clear c17
         replace H := Option.bind_eq_some_iff.mp H
         obtain ⟨t495,A180,H⟩ := H
         have A18 := aK A180
         clear A180
         have H' := aK H
         clear H
         obtain ⟨Ao19,co19,eo19⟩ := Kd.R_slice HO_3.out
         subst eo19
         have p493 : 0 ≤ (x4_1 : Int) := of_decide_eq_true (by assumption)
         have q493 : x4_1 < (l0.length : Int) := of_decide_eq_true (by assumption)
         obtain ⟨ad493,A493_3,c493_3,A493_4,c493_4,A493_5,c493_5,e493,hx493_0,hx493_1,hx493_2,hx493_3,hx493_4,hx493_5,hl493_3,hi493_3,hl493_4,hi493_4,hl493_5,hi493_5⟩ := at_T30 HR0.out x4_1 p493 q493
         obtain rfl : ad485 = ad493 := (by injection e493)
         replace hx493_0 := xM HB hx493_0
         replace hx493_1 := xM HB hx493_1
         replace hx493_2 := xM HB hx493_2
         replace hx493_3 := xM HB hx493_3
         replace hx493_4 := xM HB hx493_4
         replace hx493_5 := xM HB hx493_5
         have HR493_3 := aK hi493_3
         have HC493_3 := aK hl493_3
         clear hi493_3 hl493_3
         have HR493_4 := aK hi493_4
         have HC493_4 := aK hl493_4
         clear hi493_4 hl493_4
         have HR493_5 := aK hi493_5
         have HC493_5 := aK hl493_5
         clear hi493_5 hl493_5
         replace p493 := eq_true p493
         replace q493 := eq_true q493
         have p494 : 0 ≤ (x4_1 : Int) := of_decide_eq_true (by assumption)
         have q494 : x4_1 < (l0.length : Int) := of_decide_eq_true (by assumption)
         obtain ⟨ad494,A494_3,c494_3,A494_4,c494_4,A494_5,c494_5,e494,hx494_0,hx494_1,hx494_2,hx494_3,hx494_4,hx494_5,hl494_3,hi494_3,hl494_4,hi494_4,hl494_5,hi494_5⟩ := at_T30 HR0.out x4_1 p494 q494
         obtain rfl : ad485 = ad494 := (by injection e494)
         replace hx494_0 := xM HB hx494_0
         replace hx494_1 := xM HB hx494_1
         replace hx494_2 := xM HB hx494_2
         replace hx494_3 := xM HB hx494_3
         replace hx494_4 := xM HB hx494_4
         replace hx494_5 := xM HB hx494_5
         have HR494_3 := aK hi494_3
         have HC494_3 := aK hl494_3
         clear hi494_3 hl494_3
         have HR494_4 := aK hi494_4
         have HC494_4 := aK hl494_4
         clear hi494_4 hl494_4
         have HR494_5 := aK hi494_5
         have HC494_5 := aK hl494_5
         clear hi494_5 hl494_5
         replace p494 := eq_true p494
         replace q494 := eq_true q494
         have ea_ := Option.some.inj (hx493_3.symm.trans hx494_3)
         injection ea_ with ea_ en_ ec_
         subst ea_
         subst ec_
         clear en_
         have ea_ := Option.some.inj (hx493_4.symm.trans hx494_4)
         injection ea_ with ea_ en_ ec_
         subst ea_
         subst ec_
         clear en_
         have ea_ := Option.some.inj (hx493_5.symm.trans hx494_5)
         injection ea_ with ea_ en_ ec_
         subst ea_
         subst ec_
         clear en_
         obtain ⟨Ao20,co20,eo20⟩ := Kd.R_slice HO_5.out
         subst eo20
         go_wp2_with (first|(go_at_call 58;(with_reducible refine (codesearchref33_with.calls k2 (fun k_ => some k_ = (.slice Ao20 x5_2.length co20 : Value).ownBlock) (.slice Ao20 x5_2.length co20) x5_2 ((rd_T30 l0 x4_1).f2) t495 w _ ?side1 ?side2 A18.out).mono ?_);(case side1 => repeat (first|(with_reducible first|exact HB.out|apply below_alloc|apply pw_below_drewN|apply below_drew1)|exact HB.out));(case side2 => exact Kd.R_tight rfl HO_5.out);rintro e w21 ⟨v496,rfl,ho0,hb,hkp⟩;have HO497 := aK (Kd.R_mono (ok' := fun k_ => some k_ ≠ (.slice Ao19 x3_1.length co19 : Value).ownBlock) ho0 (fun k_ hk_ => Or.elim hk_ (fun hs_ => fun e_ => (((HO_3.out).1 k_ e_.symm)) hs_) (fun hn_ => (Kd.fresh' (Kd.R_lt (rM HO_3.out)) k_ hn_))));replace HO_3 := aK (Kd.R_mono (ok' := fun k_ => some k_ ≠ (v496 : Value).ownBlock) (Kd.R_keptB (HO_3.out) hkp (fun k_ hk_ hs_ => (hk_) hs_)) (fun k_ hk_ => fun e_ => Or.elim (ho0.1 k_ e_.symm) (fun hs_ => hk_.2.1 hs_) (fun hn_ => Nat.not_le.2 hk_.2.2 hn_)));replace HB := aK (hb);(try clear hb);(try clear hkp);(try clear ho0)))
         repeat (go_quiet (first|(go_at_call 58;(with_reducible refine (codesearchref33_with.calls k2 (fun k_ => some k_ = (.slice Ao20 x5_2.length co20 : Value).ownBlock) (.slice Ao20 x5_2.length co20) x5_2 ((rd_T30 l0 x4_1).f2) t495 w _ ?side1 ?side2 A18.out).mono ?_);(case side1 => repeat (first|(with_reducible first|exact HB.out|apply below_alloc|apply pw_below_drewN|apply below_drew1)|exact HB.out));(case side2 => exact Kd.R_tight rfl HO_5.out);rintro e w21 ⟨v496,rfl,ho0,hb,hkp⟩;have HO497 := aK (Kd.R_mono (ok' := fun k_ => some k_ ≠ (.slice Ao19 x3_1.length co19 : Value).ownBlock) ho0 (fun k_ hk_ => Or.elim hk_ (fun hs_ => fun e_ => (((HO_3.out).1 k_ e_.symm)) hs_) (fun hn_ => (Kd.fresh' (Kd.R_lt (rM HO_3.out)) k_ hn_))));replace HO_3 := aK (Kd.R_mono (ok' := fun k_ => some k_ ≠ (v496 : Value).ownBlock) (Kd.R_keptB (HO_3.out) hkp (fun k_ hk_ hs_ => (hk_) hs_)) (fun k_ hk_ => fun e_ => Or.elim (ho0.1 k_ e_.symm) (fun hs_ => hk_.2.1 hs_) (fun hn_ => Nat.not_le.2 hk_.2.2 hn_)));replace HB := aK (hb);(try clear hb);(try clear hkp);(try clear ho0)));try go_wp2_with (first|(go_at_call 58;(with_reducible refine (codesearchref33_with.calls k2 (fun k_ => some k_ = (.slice Ao20 x5_2.length co20 : Value).ownBlock) (.slice Ao20 x5_2.length co20) x5_2 ((rd_T30 l0 x4_1).f2) t495 w _ ?side1 ?side2 A18.out).mono ?_);(case side1 => repeat (first|(with_reducible first|exact HB.out|apply below_alloc|apply pw_below_drewN|apply below_drew1)|exact HB.out));(case side2 => exact Kd.R_tight rfl HO_5.out);rintro e w21 ⟨v496,rfl,ho0,hb,hkp⟩;have HO497 := aK (Kd.R_mono (ok' := fun k_ => some k_ ≠ (.slice Ao19 x3_1.length co19 : Value).ownBlock) ho0 (fun k_ hk_ => Or.elim hk_ (fun hs_ => fun e_ => (((HO_3.out).1 k_ e_.symm)) hs_) (fun hn_ => (Kd.fresh' (Kd.R_lt (rM HO_3.out)) k_ hn_))));replace HO_3 := aK (Kd.R_mono (ok' := fun k_ => some k_ ≠ (v496 : Value).ownBlock) (Kd.R_keptB (HO_3.out) hkp (fun k_ hk_ hs_ => (hk_) hs_)) (fun k_ hk_ => fun e_ => Or.elim (ho0.1 k_ e_.symm) (fun hs_ => hk_.2.1 hs_) (fun hn_ => Nat.not_le.2 hk_.2.2 hn_)));replace HB := aK (hb);(try clear hb);(try clear hkp);(try clear ho0))))
         go_roundg k2
         case measure => have := HK1.out;have := HK2.out;omega
         case rel => exact ⟨(t495),(wrap64 (x4_1 + 1)),(by first|rfl|(simp;done)|(simp [*];done)),H',⟨by have := HK1.out;have := HK2.out;omega⟩,⟨rM (Kd.R_mono HO497.out (fun _ hk => trivial))⟩,⟨bM HB.out⟩⟩
        ·rw [if_neg c17] at H
         have c17b0 := beq_eq_false_iff_ne.mpr c17
         have c17b1 := bne_iff_ne.mpr c17
         by_cases c22 : ((rd_T30 l0 x4_1).f1) = 3
         ·rw [if_pos c22] at H
          have c22b0 := beq_iff_eq.mpr c22
          have c22b1 := bne_eq_false_iff_eq.mpr c22
          clear c22
          replace H := Option.bind_eq_some_iff.mp H
          obtain ⟨t500,A230,H⟩ := H
          have A23 := aK A230
          clear A230
          have H' := aK H
          clear H
          obtain ⟨Ao24,co24,eo24⟩ := Kd.R_slice HO_3.out
          subst eo24
          have p493 : 0 ≤ (x4_1 : Int) := of_decide_eq_true (by assumption)
          have q493 : x4_1 < (l0.length : Int) := of_decide_eq_true (by assumption)
          obtain ⟨ad493,A493_3,c493_3,A493_4,c493_4,A493_5,c493_5,e493,hx493_0,hx493_1,hx493_2,hx493_3,hx493_4,hx493_5,hl493_3,hi493_3,hl493_4,hi493_4,hl493_5,hi493_5⟩ := at_T30 HR0.out x4_1 p493 q493
          obtain rfl : ad485 = ad493 := (by injection e493)
          replace hx493_0 := xM HB hx493_0
          replace hx493_1 := xM HB hx493_1
          replace hx493_2 := xM HB hx493_2
          replace hx493_3 := xM HB hx493_3
          replace hx493_4 := xM HB hx493_4
          replace hx493_5 := xM HB hx493_5
          have HR493_3 := aK hi493_3
          have HC493_3 := aK hl493_3
          clear hi493_3 hl493_3
          have HR493_4 := aK hi493_4
          have HC493_4 := aK hl493_4
          clear hi493_4 hl493_4
          have HR493_5 := aK hi493_5
          have HC493_5 := aK hl493_5
          clear hi493_5 hl493_5
          replace p493 := eq_true p493
          replace q493 := eq_true q493
          have p498 : 0 ≤ (x4_1 : Int) := of_decide_eq_true (by assumption)
          have q498 : x4_1 < (l0.length : Int) := of_decide_eq_true (by assumption)
          obtain ⟨ad498,A498_3,c498_3,A498_4,c498_4,A498_5,c498_5,e498,hx498_0,hx498_1,hx498_2,hx498_3,hx498_4,hx498_5,hl498_3,hi498_3,hl498_4,hi498_4,hl498_5,hi498_5⟩ := at_T30 HR0.out x4_1 p498 q498
          obtain rfl : ad485 = ad498 := (by injection e498)
          replace hx498_0 := xM HB hx498_0
          replace hx498_1 := xM HB hx498_1
          replace hx498_2 := xM HB hx498_2
          replace hx498_3 := xM HB hx498_3
          replace hx498_4 := xM HB hx498_4
          replace hx498_5 := xM HB hx498_5
          have HR498_3 := aK hi498_3
          have HC498_3 := aK hl498_3
          clear hi498_3 hl498_3
          have HR498_4 := aK hi498_4
          have HC498_4 := aK hl498_4
          clear hi498_4 hl498_4
          have HR498_5 := aK hi498_5
          have HC498_5 := aK hl498_5
          clear hi498_5 hl498_5
          replace p498 := eq_true p498
          replace q498 := eq_true q498
          have ea_ := Option.some.inj (hx493_3.symm.trans hx498_3)
          injection ea_ with ea_ en_ ec_
          subst ea_
          subst ec_
          clear en_
          have ea_ := Option.some.inj (hx493_4.symm.trans hx498_4)
          injection ea_ with ea_ en_ ec_
          subst ea_
          subst ec_
          clear en_
          have ea_ := Option.some.inj (hx493_5.symm.trans hx498_5)
          injection ea_ with ea_ en_ ec_
          subst ea_
          subst ec_
          clear en_
          have p499 : 0 ≤ (x4_1 : Int) := of_decide_eq_true (by assumption)
          have q499 : x4_1 < (l0.length : Int) := of_decide_eq_true (by assumption)
          obtain ⟨ad499,A499_3,c499_3,A499_4,c499_4,A499_5,c499_5,e499,hx499_0,hx499_1,hx499_2,hx499_3,hx499_4,hx499_5,hl499_3,hi499_3,hl499_4,hi499_4,hl499_5,hi499_5⟩ := at_T30 HR0.out x4_1 p499 q499
          obtain rfl : ad485 = ad499 := (by injection e499)
          replace hx499_0 := xM HB hx499_0
          replace hx499_1 := xM HB hx499_1
          replace hx499_2 := xM HB hx499_2
          replace hx499_3 := xM HB hx499_3
          replace hx499_4 := xM HB hx499_4
          replace hx499_5 := xM HB hx499_5
          have HR499_3 := aK hi499_3
          have HC499_3 := aK hl499_3
          clear hi499_3 hl499_3
          have HR499_4 := aK hi499_4
          have HC499_4 := aK hl499_4
          clear hi499_4 hl499_4
          have HR499_5 := aK hi499_5
          have HC499_5 := aK hl499_5
          clear hi499_5 hl499_5
          replace p499 := eq_true p499
          replace q499 := eq_true q499
          have ea_ := Option.some.inj (hx493_3.symm.trans hx499_3)
          injection ea_ with ea_ en_ ec_
          subst ea_
          subst ec_
          clear en_
          have ea_ := Option.some.inj (hx493_4.symm.trans hx499_4)
          injection ea_ with ea_ en_ ec_
          subst ea_
          subst ec_
          clear en_
          have ea_ := Option.some.inj (hx493_5.symm.trans hx499_5)
          injection ea_ with ea_ en_ ec_
          subst ea_
          subst ec_
          clear en_
          obtain ⟨Ao25,co25,eo25⟩ := Kd.R_slice HO_5.out
          subst eo25
          go_wp2_with (first|(go_at_call 58;(with_reducible refine (codesearchref33_with.calls k2 (fun k_ => some k_ = (.slice Ao25 x5_2.length co25 : Value).ownBlock) (.slice Ao25 x5_2.length co25) x5_2 ((rd_T30 l0 x4_1).f2) t500 w _ ?side1 ?side2 A23.out).mono ?_);(case side1 => repeat (first|(with_reducible first|exact HB.out|apply below_alloc|apply pw_below_drewN|apply below_drew1)|exact HB.out));(case side2 => exact Kd.R_tight rfl HO_5.out);rintro e w26 ⟨v501,rfl,ho0,hb,hkp⟩;have HO502 := aK (Kd.R_mono (ok' := fun k_ => some k_ ≠ (.slice Ao24 x3_1.length co24 : Value).ownBlock) ho0 (fun k_ hk_ => Or.elim hk_ (fun hs_ => fun e_ => (((HO_3.out).1 k_ e_.symm)) hs_) (fun hn_ => (Kd.fresh' (Kd.R_lt (rM HO_3.out)) k_ hn_))));replace HO_3 := aK (Kd.R_mono (ok' := fun k_ => some k_ ≠ (v501 : Value).ownBlock) (Kd.R_keptB (HO_3.out) hkp (fun k_ hk_ hs_ => (hk_) hs_)) (fun k_ hk_ => fun e_ => Or.elim (ho0.1 k_ e_.symm) (fun hs_ => hk_.2.1 hs_) (fun hn_ => Nat.not_le.2 hk_.2.2 hn_)));replace HB := aK (hb);(try clear hb);(try clear hkp);(try clear ho0)))
          repeat (go_quiet (first|(go_at_call 58;(with_reducible refine (codesearchref33_with.calls k2 (fun k_ => some k_ = (.slice Ao25 x5_2.length co25 : Value).ownBlock) (.slice Ao25 x5_2.length co25) x5_2 ((rd_T30 l0 x4_1).f2) t500 w _ ?side1 ?side2 A23.out).mono ?_);(case side1 => repeat (first|(with_reducible first|exact HB.out|apply below_alloc|apply pw_below_drewN|apply below_drew1)|exact HB.out));(case side2 => exact Kd.R_tight rfl HO_5.out);rintro e w26 ⟨v501,rfl,ho0,hb,hkp⟩;have HO502 := aK (Kd.R_mono (ok' := fun k_ => some k_ ≠ (.slice Ao24 x3_1.length co24 : Value).ownBlock) ho0 (fun k_ hk_ => Or.elim hk_ (fun hs_ => fun e_ => (((HO_3.out).1 k_ e_.symm)) hs_) (fun hn_ => (Kd.fresh' (Kd.R_lt (rM HO_3.out)) k_ hn_))));replace HO_3 := aK (Kd.R_mono (ok' := fun k_ => some k_ ≠ (v501 : Value).ownBlock) (Kd.R_keptB (HO_3.out) hkp (fun k_ hk_ hs_ => (hk_) hs_)) (fun k_ hk_ => fun e_ => Or.elim (ho0.1 k_ e_.symm) (fun hs_ => hk_.2.1 hs_) (fun hn_ => Nat.not_le.2 hk_.2.2 hn_)));replace HB := aK (hb);(try clear hb);(try clear hkp);(try clear ho0)));try go_wp2_with (first|(go_at_call 58;(with_reducible refine (codesearchref33_with.calls k2 (fun k_ => some k_ = (.slice Ao25 x5_2.length co25 : Value).ownBlock) (.slice Ao25 x5_2.length co25) x5_2 ((rd_T30 l0 x4_1).f2) t500 w _ ?side1 ?side2 A23.out).mono ?_);(case side1 => repeat (first|(with_reducible first|exact HB.out|apply below_alloc|apply pw_below_drewN|apply below_drew1)|exact HB.out));(case side2 => exact Kd.R_tight rfl HO_5.out);rintro e w26 ⟨v501,rfl,ho0,hb,hkp⟩;have HO502 := aK (Kd.R_mono (ok' := fun k_ => some k_ ≠ (.slice Ao24 x3_1.length co24 : Value).ownBlock) ho0 (fun k_ hk_ => Or.elim hk_ (fun hs_ => fun e_ => (((HO_3.out).1 k_ e_.symm)) hs_) (fun hn_ => (Kd.fresh' (Kd.R_lt (rM HO_3.out)) k_ hn_))));replace HO_3 := aK (Kd.R_mono (ok' := fun k_ => some k_ ≠ (v501 : Value).ownBlock) (Kd.R_keptB (HO_3.out) hkp (fun k_ hk_ hs_ => (hk_) hs_)) (fun k_ hk_ => fun e_ => Or.elim (ho0.1 k_ e_.symm) (fun hs_ => hk_.2.1 hs_) (fun hn_ => Nat.not_le.2 hk_.2.2 hn_)));replace HB := aK (hb);(try clear hb);(try clear hkp);(try clear ho0))))
          go_roundg k2
          case measure => have := HK1.out;have := HK2.out;omega
          case rel => exact ⟨(t500),(wrap64 (x4_1 + 1)),(by first|rfl|(simp;done)|(simp [*];done)),H',⟨by have := HK1.out;have := HK2.out;omega⟩,⟨rM (Kd.R_mono HO502.out (fun _ hk => trivial))⟩,⟨bM HB.out⟩⟩
         ·rw [if_neg c22] at H
          have c22b0 := beq_eq_false_iff_ne.mpr c22
          have c22b1 := bne_iff_ne.mpr c22
          have H' := aK H
          clear H
          obtain ⟨Ao27,co27,eo27⟩ := Kd.R_slice HO_3.out
          subst eo27
          have p493 : 0 ≤ (x4_1 : Int) := of_decide_eq_true (by assumption)
          have q493 : x4_1 < (l0.length : Int) := of_decide_eq_true (by assumption)
          obtain ⟨ad493,A493_3,c493_3,A493_4,c493_4,A493_5,c493_5,e493,hx493_0,hx493_1,hx493_2,hx493_3,hx493_4,hx493_5,hl493_3,hi493_3,hl493_4,hi493_4,hl493_5,hi493_5⟩ := at_T30 HR0.out x4_1 p493 q493
          obtain rfl : ad485 = ad493 := (by injection e493)
          replace hx493_0 := xM HB hx493_0
          replace hx493_1 := xM HB hx493_1
          replace hx493_2 := xM HB hx493_2
          replace hx493_3 := xM HB hx493_3
          replace hx493_4 := xM HB hx493_4
          replace hx493_5 := xM HB hx493_5
          have HR493_3 := aK hi493_3
          have HC493_3 := aK hl493_3
          clear hi493_3 hl493_3
          have HR493_4 := aK hi493_4
          have HC493_4 := aK hl493_4
          clear hi493_4 hl493_4
          have HR493_5 := aK hi493_5
          have HC493_5 := aK hl493_5
          clear hi493_5 hl493_5
          replace p493 := eq_true p493
          replace q493 := eq_true q493
          have p498 : 0 ≤ (x4_1 : Int) := of_decide_eq_true (by assumption)
          have q498 : x4_1 < (l0.length : Int) := of_decide_eq_true (by assumption)
          obtain ⟨ad498,A498_3,c498_3,A498_4,c498_4,A498_5,c498_5,e498,hx498_0,hx498_1,hx498_2,hx498_3,hx498_4,hx498_5,hl498_3,hi498_3,hl498_4,hi498_4,hl498_5,hi498_5⟩ := at_T30 HR0.out x4_1 p498 q498
          obtain rfl : ad485 = ad498 := (by injection e498)
          replace hx498_0 := xM HB hx498_0
          replace hx498_1 := xM HB hx498_1
          replace hx498_2 := xM HB hx498_2
          replace hx498_3 := xM HB hx498_3
          replace hx498_4 := xM HB hx498_4
          replace hx498_5 := xM HB hx498_5
          have HR498_3 := aK hi498_3
          have HC498_3 := aK hl498_3
          clear hi498_3 hl498_3
          have HR498_4 := aK hi498_4
          have HC498_4 := aK hl498_4
          clear hi498_4 hl498_4
          have HR498_5 := aK hi498_5
          have HC498_5 := aK hl498_5
          clear hi498_5 hl498_5
          replace p498 := eq_true p498
          replace q498 := eq_true q498
          have ea_ := Option.some.inj (hx493_3.symm.trans hx498_3)
          injection ea_ with ea_ en_ ec_
          subst ea_
          subst ec_
          clear en_
          have ea_ := Option.some.inj (hx493_4.symm.trans hx498_4)
          injection ea_ with ea_ en_ ec_
          subst ea_
          subst ec_
          clear en_
          have ea_ := Option.some.inj (hx493_5.symm.trans hx498_5)
          injection ea_ with ea_ en_ ec_
          subst ea_
          subst ec_
          clear en_
          go_wp2
          repeat (go_quiet (fail);try go_wp2)
          go_roundg k2
          case measure => have := HK1.out;have := HK2.out;omega
          case rel => exact ⟨(x5_2),(wrap64 (x4_1 + 1)),(by first|rfl|(simp;done)|(simp [*];done)),H',⟨by have := HK1.out;have := HK2.out;omega⟩,⟨rM (Kd.R_mono HO_5.out (fun _ hk => trivial))⟩,⟨bM HB.out⟩⟩
    ·rw [if_neg c4] at H
     have c4b0 := beq_eq_false_iff_ne.mpr c4
     have c4b1 := bne_iff_ne.mpr c4
     by_cases c28 : ((rd_T30 l0 x4_1).f1) = 1
     ·rw [if_pos c28] at H
      have c28b0 := beq_iff_eq.mpr c28
      have c28b1 := bne_eq_false_iff_eq.mpr c28
      clear c28
      replace H := Option.bind_eq_some_iff.mp H
      obtain ⟨t505,A290,H⟩ := H
      have A29 := aK A290
      clear A290
      have H' := aK H
      clear H
      have p485 : 0 ≤ (x4_1 : Int) := of_decide_eq_true (by assumption)
      have q485 : x4_1 < (l0.length : Int) := of_decide_eq_true (by assumption)
      obtain ⟨ad485,A485_3,c485_3,A485_4,c485_4,A485_5,c485_5,e485,hx485_0,hx485_1,hx485_2,hx485_3,hx485_4,hx485_5,hl485_3,hi485_3,hl485_4,hi485_4,hl485_5,hi485_5⟩ := at_T30 HR0.out x4_1 p485 q485
      cases e485
      replace hx485_0 := xM HB hx485_0
      replace hx485_1 := xM HB hx485_1
      replace hx485_2 := xM HB hx485_2
      replace hx485_3 := xM HB hx485_3
      replace hx485_4 := xM HB hx485_4
      replace hx485_5 := xM HB hx485_5
      have HR485_3 := aK hi485_3
      have HC485_3 := aK hl485_3
      clear hi485_3 hl485_3
      have HR485_4 := aK hi485_4
      have HC485_4 := aK hl485_4
      clear hi485_4 hl485_4
      have HR485_5 := aK hi485_5
      have HC485_5 := aK hl485_5
      clear hi485_5 hl485_5
      replace p485 := eq_true p485
      replace q485 := eq_true q485
      have p503 : 0 ≤ (x4_1 : Int) := of_decide_eq_true (by assumption)
      have q503 : x4_1 < (l0.length : Int) := of_decide_eq_true (by assumption)
      obtain ⟨ad503,A503_3,c503_3,A503_4,c503_4,A503_5,c503_5,e503,hx503_0,hx503_1,hx503_2,hx503_3,hx503_4,hx503_5,hl503_3,hi503_3,hl503_4,hi503_4,hl503_5,hi503_5⟩ := at_T30 HR0.out x4_1 p503 q503
      obtain rfl : ad485 = ad503 := (by injection e503)
      replace hx503_0 := xM HB hx503_0
      replace hx503_1 := xM HB hx503_1
      replace hx503_2 := xM HB hx503_2
      replace hx503_3 := xM HB hx503_3
      replace hx503_4 := xM HB hx503_4
      replace hx503_5 := xM HB hx503_5
      have HR503_3 := aK hi503_3
      have HC503_3 := aK hl503_3
      clear hi503_3 hl503_3
      have HR503_4 := aK hi503_4
      have HC503_4 := aK hl503_4
      clear hi503_4 hl503_4
      have HR503_5 := aK hi503_5
      have HC503_5 := aK hl503_5
      clear hi503_5 hl503_5
      replace p503 := eq_true p503
      replace q503 := eq_true q503
      have ea_ := Option.some.inj (hx485_3.symm.trans hx503_3)
      injection ea_ with ea_ en_ ec_
      subst ea_
      subst ec_
      clear en_
      have ea_ := Option.some.inj (hx485_4.symm.trans hx503_4)
      injection ea_ with ea_ en_ ec_
      subst ea_
      subst ec_
      clear en_
      have ea_ := Option.some.inj (hx485_5.symm.trans hx503_5)
      injection ea_ with ea_ en_ ec_
      subst ea_
      subst ec_
      clear en_
      have p504 : 0 ≤ (x4_1 : Int) := of_decide_eq_true (by assumption)
      have q504 : x4_1 < (l0.length : Int) := of_decide_eq_true (by assumption)
      obtain ⟨ad504,A504_3,c504_3,A504_4,c504_4,A504_5,c504_5,e504,hx504_0,hx504_1,hx504_2,hx504_3,hx504_4,hx504_5,hl504_3,hi504_3,hl504_4,hi504_4,hl504_5,hi504_5⟩ := at_T30 HR0.out x4_1 p504 q504
      obtain rfl : ad485 = ad504 := (by injection e504)
      replace hx504_0 := xM HB hx504_0
      replace hx504_1 := xM HB hx504_1
      replace hx504_2 := xM HB hx504_2
      replace hx504_3 := xM HB hx504_3
      replace hx504_4 := xM HB hx504_4
      replace hx504_5 := xM HB hx504_5
      have HR504_3 := aK hi504_3
      have HC504_3 := aK hl504_3
      clear hi504_3 hl504_3
      have HR504_4 := aK hi504_4
      have HC504_4 := aK hl504_4
      clear hi504_4 hl504_4
      have HR504_5 := aK hi504_5
      have HC504_5 := aK hl504_5
      clear hi504_5 hl504_5
      replace p504 := eq_true p504
      replace q504 := eq_true q504
      have ea_ := Option.some.inj (hx485_3.symm.trans hx504_3)
      injection ea_ with ea_ en_ ec_
      subst ea_
      subst ec_
      clear en_
      have ea_ := Option.some.inj (hx485_4.symm.trans hx504_4)
      injection ea_ with ea_ en_ ec_
      subst ea_
      subst ec_
      clear en_
      have ea_ := Option.some.inj (hx485_5.symm.trans hx504_5)
      injection ea_ with ea_ en_ ec_
      subst ea_
      subst ec_
      clear en_
      obtain ⟨Ao30,co30,eo30⟩ := Kd.R_slice HO_3.out
      subst eo30
      go_wp2_with (first|(go_at_call 58;(with_reducible refine (codesearchref33_with.calls k1 (fun k_ => some k_ = (.slice Ao30 x3_1.length co30 : Value).ownBlock) (.slice Ao30 x3_1.length co30) x3_1 ((rd_T30 l0 x4_1).f2) t505 w _ ?side1 ?side2 A29.out).mono ?_);(case side1 => repeat (first|(with_reducible first|exact HB.out|apply below_alloc|apply pw_below_drewN|apply below_drew1)|exact HB.out));(case side2 => exact Kd.R_tight rfl HO_3.out);rintro e w31 ⟨v506,rfl,ho0,hb,hkp⟩;have HO507 := aK (Kd.R_mono (ok' := fun k_ => True) ho0 (fun k_ hk_ => trivial));replace HB := aK (hb);(try clear hb);(try clear hkp);(try clear ho0)))
      repeat (go_quiet (first|(go_at_call 58;(with_reducible refine (codesearchref33_with.calls k1 (fun k_ => some k_ = (.slice Ao30 x3_1.length co30 : Value).ownBlock) (.slice Ao30 x3_1.length co30) x3_1 ((rd_T30 l0 x4_1).f2) t505 w _ ?side1 ?side2 A29.out).mono ?_);(case side1 => repeat (first|(with_reducible first|exact HB.out|apply below_alloc|apply pw_below_drewN|apply below_drew1)|exact HB.out));(case side2 => exact Kd.R_tight rfl HO_3.out);rintro e w31 ⟨v506,rfl,ho0,hb,hkp⟩;have HO507 := aK (Kd.R_mono (ok' := fun k_ => True) ho0 (fun k_ hk_ => trivial));replace HB := aK (hb);(try clear hb);(try clear hkp);(try clear ho0)));try go_wp2_with (first|(go_at_call 58;(with_reducible refine (codesearchref33_with.calls k1 (fun k_ => some k_ = (.slice Ao30 x3_1.length co30 : Value).ownBlock) (.slice Ao30 x3_1.length co30) x3_1 ((rd_T30 l0 x4_1).f2) t505 w _ ?side1 ?side2 A29.out).mono ?_);(case side1 => repeat (first|(with_reducible first|exact HB.out|apply below_alloc|apply pw_below_drewN|apply below_drew1)|exact HB.out));(case side2 => exact Kd.R_tight rfl HO_3.out);rintro e w31 ⟨v506,rfl,ho0,hb,hkp⟩;have HO507 := aK (Kd.R_mono (ok' := fun k_ => True) ho0 (fun k_ hk_ => trivial));replace HB := aK (hb);(try clear hb);(try clear hkp);(try clear ho0))))
      go_roundg k1
      case measure => have := HK1.out;omega
      case rel => exact ⟨(t505),(wrap64 (x4_1 + 1)),(by first|rfl|(simp;done)|(simp [*];done)),H',⟨by have := HK1.out;omega⟩,⟨rM HO507.out⟩,⟨bM HB.out⟩⟩
     ·rw [if_neg c28] at H
      have c28b0 := beq_eq_false_iff_ne.mpr c28
      have c28b1 := bne_iff_ne.mpr c28
      have H' := aK H
      clear H
      have p485 : 0 ≤ (x4_1 : Int) := of_decide_eq_true (by assumption)
      have q485 : x4_1 < (l0.length : Int) := of_decide_eq_true (by assumption)
      obtain ⟨ad485,A485_3,c485_3,A485_4,c485_4,A485_5,c485_5,e485,hx485_0,hx485_1,hx485_2,hx485_3,hx485_4,hx485_5,hl485_3,hi485_3,hl485_4,hi485_4,hl485_5,hi485_5⟩ := at_T30 HR0.out x4_1 p485 q485
      cases e485
      replace hx485_0 := xM HB hx485_0
      replace hx485_1 := xM HB hx485_1
      replace hx485_2 := xM HB hx485_2
      replace hx485_3 := xM HB hx485_3
      replace hx485_4 := xM HB hx485_4
      replace hx485_5 := xM HB hx485_5
      have HR485_3 := aK hi485_3
      have HC485_3 := aK hl485_3
      clear hi485_3 hl485_3
      have HR485_4 := aK hi485_4
      have HC485_4 := aK hl485_4
      clear hi485_4 hl485_4
      have HR485_5 := aK hi485_5
      have HC485_5 := aK hl485_5
      clear hi485_5 hl485_5
      replace p485 := eq_true p485
      replace q485 := eq_true q485
      have p503 : 0 ≤ (x4_1 : Int) := of_decide_eq_true (by assumption)
      have q503 : x4_1 < (l0.length : Int) := of_decide_eq_true (by assumption)
      obtain ⟨ad503,A503_3,c503_3,A503_4,c503_4,A503_5,c503_5,e503,hx503_0,hx503_1,hx503_2,hx503_3,hx503_4,hx503_5,hl503_3,hi503_3,hl503_4,hi503_4,hl503_5,hi503_5⟩ := at_T30 HR0.out x4_1 p503 q503
      obtain rfl : ad485 = ad503 := (by injection e503)
      replace hx503_0 := xM HB hx503_0
      replace hx503_1 := xM HB hx503_1
      replace hx503_2 := xM HB hx503_2
      replace hx503_3 := xM HB hx503_3
      replace hx503_4 := xM HB hx503_4
      replace hx503_5 := xM HB hx503_5
      have HR503_3 := aK hi503_3
      have HC503_3 := aK hl503_3
      clear hi503_3 hl503_3
      have HR503_4 := aK hi503_4
      have HC503_4 := aK hl503_4
      clear hi503_4 hl503_4
      have HR503_5 := aK hi503_5
      have HC503_5 := aK hl503_5
      clear hi503_5 hl503_5
      replace p503 := eq_true p503
      replace q503 := eq_true q503
      have ea_ := Option.some.inj (hx485_3.symm.trans hx503_3)
      injection ea_ with ea_ en_ ec_
      subst ea_
      subst ec_
      clear en_
      have ea_ := Option.some.inj (hx485_4.symm.trans hx503_4)
      injection ea_ with ea_ en_ ec_
      subst ea_
      subst ec_
      clear en_
      have ea_ := Option.some.inj (hx485_5.symm.trans hx503_5)
      injection ea_ with ea_ en_ ec_
      subst ea_
      subst ec_
      clear en_
      have p508 : 0 ≤ (x4_1 : Int) := of_decide_eq_true (by assumption)
      have q508 : x4_1 < (l0.length : Int) := of_decide_eq_true (by assumption)
      obtain ⟨ad508,A508_3,c508_3,A508_4,c508_4,A508_5,c508_5,e508,hx508_0,hx508_1,hx508_2,hx508_3,hx508_4,hx508_5,hl508_3,hi508_3,hl508_4,hi508_4,hl508_5,hi508_5⟩ := at_T30 HR0.out x4_1 p508 q508
      obtain rfl : ad485 = ad508 := (by injection e508)
      replace hx508_0 := xM HB hx508_0
      replace hx508_1 := xM HB hx508_1
      replace hx508_2 := xM HB hx508_2
      replace hx508_3 := xM HB hx508_3
      replace hx508_4 := xM HB hx508_4
      replace hx508_5 := xM HB hx508_5
      have HR508_3 := aK hi508_3
      have HC508_3 := aK hl508_3
      clear hi508_3 hl508_3
      have HR508_4 := aK hi508_4
      have HC508_4 := aK hl508_4
      clear hi508_4 hl508_4
      have HR508_5 := aK hi508_5
      have HC508_5 := aK hl508_5
      clear hi508_5 hl508_5
      replace p508 := eq_true p508
      replace q508 := eq_true q508
      have ea_ := Option.some.inj (hx485_3.symm.trans hx508_3)
      injection ea_ with ea_ en_ ec_
      subst ea_
      subst ec_
      clear en_
      have ea_ := Option.some.inj (hx485_4.symm.trans hx508_4)
      injection ea_ with ea_ en_ ec_
      subst ea_
      subst ec_
      clear en_
      have ea_ := Option.some.inj (hx485_5.symm.trans hx508_5)
      injection ea_ with ea_ en_ ec_
      subst ea_
      subst ec_
      clear en_
      go_wp2
      repeat (go_quiet (fail);try go_wp2)
      go_roundg k1
      case measure => have := HK1.out;omega
      case rel => exact ⟨(x3_1),(wrap64 (x4_1 + 1)),(by first|rfl|(simp;done)|(simp [*];done)),H',⟨by have := HK1.out;omega⟩,⟨rM HO_3.out⟩,⟨bM HB.out⟩⟩
   ·rw [if_neg c2] at H
    have c2b0 := decide_eq_false c2
    clear c2
    obtain rfl := Option.some.inj H
    go_wp2
    repeat (go_quiet (fail);try go_wp2)
    go_ret
    exact ⟨_,by first|rfl|(simp [errW_none,errW_some] <;> rfl)|(simp [*,errW_none,errW_some] <;> rfl),rM HO_3.out,bM HB.out⟩

end Go.Proofs.YtmgliocboeifdaaGreatDoor.R
