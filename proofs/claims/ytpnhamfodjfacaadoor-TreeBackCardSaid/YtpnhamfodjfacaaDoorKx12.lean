-- Written by hp.py, a program of this session, over the kit's print of the translation. Not trusted: Lean checks it.
import Derived.Test.YtpnhamfodjfacaaDoorKx0
import Derived.Test.YtpnhamfodjfacaaDoorKx6
import Derived.Test.YtpnhamfodjfacaaDoorKx7
import Derived.Test.YtpnhamfodjfacaaDoorKx9
import Derived.Test.YtpnhamfodjfacaaDoorKx11
namespace Go.Proofs.YtpnhamfodjfacaaDoor.K
open Go.RowKit Go.Proofs.YtpnhamfodjfacaaDoorW.PrintWords Go.Proofs.YtpnhamfodjfacaaDoorW.PrintLast Go.Proofs.YtpnhamfodjfacaaDoorW.PrintMore
attribute [local go_sem] max2_int min2_int max_two min_two max_three min_three max_four min_four   -- for this text's walks alone
set_option linter.unusedVariables false
set_option linter.unusedSimpArgs false

/-! ### codesearchlaw25_TreeBack: function 9 -/
mutual
def codesearchlaw25_TreeBack.j0 : Nat → List (S45) → List (S45) → Bool → Option (Bool)
|0,_,_,_ => none
|k + 1,x0,x1,x24 => if x24 = true then (some true) else ((tree_Diff.f x0 x1).bind fun t251 => ((tree_Diff.f x0 x0).bind fun t254 => (if (t254.length : Int) = 0 then ((codesearchref25_Files.f k x0 x1).bind fun t257 => (codesearchlaw25_TreeBack.j1 k x0 x1 t251 (((t251.length : Int) == 0) != t257))) else (codesearchlaw25_TreeBack.j1 k x0 x1 t251 true))))
def codesearchlaw25_TreeBack.j1 : Nat → List (S45) → List (S45) → List (S47) → Bool → Option (Bool)
|0,_,_,_,_ => none
|k + 1,x0,x1,x5,x41 => if x41 = true then (some false) else (codesearchlaw25_TreeBack.l0 k x0 x1 x5 1)
def codesearchlaw25_TreeBack.l0 : Nat → List (S45) → List (S45) → List (S47) → Int → Option (Bool)
|0,_,_,_,_ => none
|k + 1,x0,x1,x5,x6 => if x6 < (x5.length : Int) then (if 0 ≤ x6 then (if 0 ≤ (wrap64 (x6 - 1)) then (if (wrap64 (x6 - 1)) < (x5.length : Int) then (if ((Op.bytesLess (((rd_T47 x5 (wrap64 (x6 - 1))).f0).toList) (((rd_T47 x5 x6).f0).toList)) = true) then (codesearchlaw25_TreeBack.l0 k x0 x1 x5 (wrap64 (x6 + 1))) else (some false)) else (none)) else (none)) else (none)) else (if (x5.length : Int) > 16 then (some true) else ((tree_Apply.f k x0 x5).bind fun bt260 => (if bt260.2 = 0 then ((codesearchref25_Files.f k bt260.1 x1).bind fun t264 => (some t264)) else (some false))))
end
def codesearchlaw25_TreeBack.f (k : Nat) (l0 : List (S45)) (l1 : List (S45)) : Option (Bool) := (codesearchlaw25_alive.f k).bind fun t249 => (if t249 = true then (if (l0.length : Int) > 60 then (codesearchlaw25_TreeBack.j0 k l0 l1 true) else (if (l1.length : Int) > 60 then (codesearchlaw25_TreeBack.j0 k l0 l1 true) else ((codesearchlaw25_trees.f k l0 l1 ([] : List (S45))).bind fun t250 => (codesearchlaw25_TreeBack.j0 k l0 l1 (!t250))))) else (some false))
theorem codesearchlaw25_TreeBack.mono_l : ∀ k, (∀ y0 y1 y2, LeO (codesearchlaw25_TreeBack.j0 k y0 y1 y2) (codesearchlaw25_TreeBack.j0 (k + 1) y0 y1 y2)) ∧ (∀ y0 y1 y2 y3, LeO (codesearchlaw25_TreeBack.j1 k y0 y1 y2 y3) (codesearchlaw25_TreeBack.j1 (k + 1) y0 y1 y2 y3)) ∧ (∀ y0 y1 y2 y3, LeO (codesearchlaw25_TreeBack.l0 k y0 y1 y2 y3) (codesearchlaw25_TreeBack.l0 (k + 1) y0 y1 y2 y3))
|0 => ⟨fun _ _ _ r h => by simp [codesearchlaw25_TreeBack.j0] at h,fun _ _ _ _ r h => by simp [codesearchlaw25_TreeBack.j1] at h,fun _ _ _ _ r h => by simp [codesearchlaw25_TreeBack.l0] at h⟩
|k + 1 => by
  obtain ⟨ih0,ih1,ih2⟩ := codesearchlaw25_TreeBack.mono_l k
  refine ⟨?_,?_,?_⟩
  ·intro y0 y1 y2
   unfold codesearchlaw25_TreeBack.j0
   repeat' first
  |(with_reducible exact ih0 _ _ _)
  |(with_reducible exact ih1 _ _ _ _)
  |(with_reducible exact ih2 _ _ _ _)
  |(with_reducible exact codesearchlaw25_alive.mono _)
  |(with_reducible exact codesearchlaw25_trees.mono _ _ _ _)
  |(with_reducible exact codesearchref25_Files.mono _ _ _)
  |(with_reducible exact tree_Apply.mono _ _ _)
  |(with_reducible exact LeO.refl _)
  |(with_reducible exact LeO.none _)
  |(with_reducible refine LeO.ite ?_ ?_)
  |(with_reducible refine LeO.bind ?_ (fun _ => ?_))
  |exact ih0 _ _ _
  |exact ih1 _ _ _ _
  |exact ih2 _ _ _ _
  |exact codesearchlaw25_alive.mono _
  |exact codesearchlaw25_trees.mono _ _ _ _
  |exact codesearchref25_Files.mono _ _ _
  |exact tree_Apply.mono _ _ _
  |exact LeO.none _
  |refine LeO.ite ?_ ?_
  |refine LeO.bind ?_ (fun _ => ?_)
  ·intro y0 y1 y2 y3
   unfold codesearchlaw25_TreeBack.j1
   repeat' first
  |(with_reducible exact ih0 _ _ _)
  |(with_reducible exact ih1 _ _ _ _)
  |(with_reducible exact ih2 _ _ _ _)
  |(with_reducible exact codesearchlaw25_alive.mono _)
  |(with_reducible exact codesearchlaw25_trees.mono _ _ _ _)
  |(with_reducible exact codesearchref25_Files.mono _ _ _)
  |(with_reducible exact tree_Apply.mono _ _ _)
  |(with_reducible exact LeO.refl _)
  |(with_reducible exact LeO.none _)
  |(with_reducible refine LeO.ite ?_ ?_)
  |(with_reducible refine LeO.bind ?_ (fun _ => ?_))
  |exact ih0 _ _ _
  |exact ih1 _ _ _ _
  |exact ih2 _ _ _ _
  |exact codesearchlaw25_alive.mono _
  |exact codesearchlaw25_trees.mono _ _ _ _
  |exact codesearchref25_Files.mono _ _ _
  |exact tree_Apply.mono _ _ _
  |exact LeO.none _
  |refine LeO.ite ?_ ?_
  |refine LeO.bind ?_ (fun _ => ?_)
  ·intro y0 y1 y2 y3
   unfold codesearchlaw25_TreeBack.l0
   repeat' first
  |(with_reducible exact ih0 _ _ _)
  |(with_reducible exact ih1 _ _ _ _)
  |(with_reducible exact ih2 _ _ _ _)
  |(with_reducible exact codesearchlaw25_alive.mono _)
  |(with_reducible exact codesearchlaw25_trees.mono _ _ _ _)
  |(with_reducible exact codesearchref25_Files.mono _ _ _)
  |(with_reducible exact tree_Apply.mono _ _ _)
  |(with_reducible exact LeO.refl _)
  |(with_reducible exact LeO.none _)
  |(with_reducible refine LeO.ite ?_ ?_)
  |(with_reducible refine LeO.bind ?_ (fun _ => ?_))
  |exact ih0 _ _ _
  |exact ih1 _ _ _ _
  |exact ih2 _ _ _ _
  |exact codesearchlaw25_alive.mono _
  |exact codesearchlaw25_trees.mono _ _ _ _
  |exact codesearchref25_Files.mono _ _ _
  |exact tree_Apply.mono _ _ _
  |exact LeO.none _
  |refine LeO.ite ?_ ?_
  |refine LeO.bind ?_ (fun _ => ?_)
theorem codesearchlaw25_TreeBack.mono : ∀ a0 a1 k, LeO (codesearchlaw25_TreeBack.f k a0 a1) (codesearchlaw25_TreeBack.f (k + 1) a0 a1) := by
 intro a0 a1 k
 obtain ⟨ih0,ih1,ih2⟩ := codesearchlaw25_TreeBack.mono_l k
 unfold codesearchlaw25_TreeBack.f
 repeat' first
  |(with_reducible exact ih0 _ _ _)
  |(with_reducible exact ih1 _ _ _ _)
  |(with_reducible exact ih2 _ _ _ _)
  |(with_reducible exact codesearchlaw25_alive.mono _)
  |(with_reducible exact codesearchlaw25_trees.mono _ _ _ _)
  |(with_reducible exact codesearchref25_Files.mono _ _ _)
  |(with_reducible exact tree_Apply.mono _ _ _)
  |(with_reducible exact LeO.refl _)
  |(with_reducible exact LeO.none _)
  |(with_reducible refine LeO.ite ?_ ?_)
  |(with_reducible refine LeO.bind ?_ (fun _ => ?_))
  |exact ih0 _ _ _
  |exact ih1 _ _ _ _
  |exact ih2 _ _ _ _
  |exact codesearchlaw25_alive.mono _
  |exact codesearchlaw25_trees.mono _ _ _ _
  |exact codesearchref25_Files.mono _ _ _
  |exact tree_Apply.mono _ _ _
  |exact LeO.none _
  |refine LeO.ite ?_ ?_
  |refine LeO.bind ?_ (fun _ => ?_)
set_option maxHeartbeats 4000000 in
set_option maxRecDepth 100000 in
theorem codesearchlaw25_TreeBack.calls (k : Nat) (A0 : Option Addr) (c0 : Nat) (l0 : List (S45)) (A1 : Option Addr) (c1 : Nat) (l1 : List (S45)) (r : Bool) (w : World) (hr0 : Kd.C k45 w A0 l0.length l0) (hc0 : l0.length ≤ c0) (hr1 : Kd.C k45 w A1 l1.length l1) (hc1 : l1.length ≤ c1) (h : codesearchlaw25_TreeBack.f k l0 l1 = some r) :
  Calls Tryd.prog 9 #[.slice A0 l0.length c0,.slice A1 l1.length c1] w fun e w' => e = .returned (.bool r) ∧ Below w.heap.size w w' := by
 have HR0 := Aside0.mk hr0
 have HC0 := Aside0.mk hc0
 clear hr0 hc0
 have HR1 := Aside0.mk hr1
 have HC1 := Aside0.mk hc1
 clear hr1 hc1
 have HB := Aside0.mk (Below.refl w.heap.size w)
 have H : ((codesearchlaw25_alive.f k).bind fun t249 => (if t249 = true then (if (l0.length : Int) > 60 then (codesearchlaw25_TreeBack.j0 k l0 l1 true) else (if (l1.length : Int) > 60 then (codesearchlaw25_TreeBack.j0 k l0 l1 true) else ((codesearchlaw25_trees.f k l0 l1 ([] : List (S45))).bind fun t250 => (codesearchlaw25_TreeBack.j0 k l0 l1 (!t250))))) else (some false))) = some r := h
 clear h
 replace H := Option.bind_eq_some_iff.mp H
 obtain ⟨t249,A30,H⟩ := H
 replace H : (if t249 = true then (if (l0.length : Int) > 60 then (codesearchlaw25_TreeBack.j0 k l0 l1 true) else (if (l1.length : Int) > 60 then (codesearchlaw25_TreeBack.j0 k l0 l1 true) else ((codesearchlaw25_trees.f k l0 l1 ([] : List (S45))).bind fun t250 => (codesearchlaw25_TreeBack.j0 k l0 l1 (!t250))))) else (some false)) = some r := H
 have A3 := Aside0.mk A30
 clear A30
 by_cases c4 : t249 = true
 ·subst c4
  have H1 : (if (l0.length : Int) > 60 then (codesearchlaw25_TreeBack.j0 k l0 l1 true) else (if (l1.length : Int) > 60 then (codesearchlaw25_TreeBack.j0 k l0 l1 true) else ((codesearchlaw25_trees.f k l0 l1 ([] : List (S45))).bind fun t250 => (codesearchlaw25_TreeBack.j0 k l0 l1 (!t250))))) = some r := by rw [if_pos rfl] at H;exact H
  clear H
  have H := H1
  clear H1
  have HC5 := Aside0.mk H
  clear H
  go_enter Tryd.func9,Tryd.ntmps9
  go_upto_region 3 with (first|(go_at_call 11;(with_reducible refine (codesearchlaw25_alive.calls k  true _ A3.out).mono ?_);rintro e w6 ⟨rfl,hb⟩;have n0_ := Aside0.mk (below_step (bM HB.out) hb);clear HB;have HB := n0_;clear n0_;(try clear hb);(try clear hb2);(try clear hk);(try clear hi)))
  repeat (go_quiet (first|(go_at_call 11;(with_reducible refine (codesearchlaw25_alive.calls k  true _ A3.out).mono ?_);rintro e w6 ⟨rfl,hb⟩;have n0_ := Aside0.mk (below_step (bM HB.out) hb);clear HB;have HB := n0_;clear n0_;(try clear hb);(try clear hb2);(try clear hk);(try clear hi)));go_upto_region 3 with (first|(go_at_call 11;(with_reducible refine (codesearchlaw25_alive.calls k  true _ A3.out).mono ?_);rintro e w6 ⟨rfl,hb⟩;have n0_ := Aside0.mk (below_step (bM HB.out) hb);clear HB;have HB := n0_;clear n0_;(try clear hb);(try clear hb2);(try clear hk);(try clear hi))))
  (try simp only [Act.put,List.setIfInBounds_toArray,List.set_cons_zero,List.set_cons_succ])
  go_cut [24] (fun v24 wc => ∃ (kq : Nat) (x24_4 : Bool),v24 = .bool x24_4 ∧ Aside0 (codesearchlaw25_TreeBack.j0 kq l0 l1 x24_4 = some r) ∧ Aside0 (kq ≤ k) ∧ Aside0 (Below w.heap.size w wc))
  case first =>
   have H := HC5.out
   clear HC5
   by_cases c7 : (l0.length : Int) > 60
   ·rw [if_pos c7] at H
    have c7b0 : decide (60 < (l0.length : Int)) = true := decide_eq_true c7
    have c7b1 : decide (60 < l0.length) = true := decide_eq_true (by omega)
    clear c7
    (first|rw [c7b0]|(simp only [i64_w,i32_w];rw [c7b0])|rw [c7b1]|skip)
    have H' := Aside0.mk H
    clear H
    go_wp2
    repeat (go_quiet (fail);try go_wp2)
    go_meet
    case rel => exact ⟨_,(true),(by first|rfl|(simp;done)|(simp [*];done)),H',⟨by first|omega|exact Nat.le_refl _⟩,⟨bM HB.out⟩⟩
   ·rw [if_neg c7] at H
    have c7b0 : decide (60 < (l0.length : Int)) = false := decide_eq_false c7
    have c7b1 : decide (60 < l0.length) = false := decide_eq_false (by omega)
    clear c7
    (first|rw [c7b0]|(simp only [i64_w,i32_w];rw [c7b0])|rw [c7b1]|skip)
    by_cases c8 : (l1.length : Int) > 60
    ·rw [if_pos c8] at H
     have c8b0 : decide (60 < (l1.length : Int)) = true := decide_eq_true c8
     have c8b1 : decide (60 < l1.length) = true := decide_eq_true (by omega)
     clear c8
     have H' := Aside0.mk H
     clear H
     go_wp2
     repeat (go_quiet (fail);try go_wp2)
     go_meet
     case rel => exact ⟨_,(true),(by first|rfl|(simp;done)|(simp [*];done)),H',⟨by first|omega|exact Nat.le_refl _⟩,⟨bM HB.out⟩⟩
    ·rw [if_neg c8] at H
     have c8b0 : decide (60 < (l1.length : Int)) = false := decide_eq_false c8
     have c8b1 : decide (60 < l1.length) = false := decide_eq_false (by omega)
     clear c8
     replace H := Option.bind_eq_some_iff.mp H
     obtain ⟨t250,A90,H⟩ := H
     replace H : (codesearchlaw25_TreeBack.j0 k l0 l1 (!t250)) = some r := H
     have A9 := Aside0.mk A90
     clear A90
     have H' := Aside0.mk H
     clear H
     go_wp2_with (first|(go_at_call 19;refine calls_of_args (args' := #[.slice A0 l0.length c0,.slice A1 l1.length c1,.slice none ([] : List (S45)).length 0]) (by first|with_reducible rfl|(simp only [List.length_nil];done)|(simp only [List.length_nil];with_reducible rfl)) ?_;(with_reducible refine (codesearchlaw25_trees.calls k _ _ l0 _ _ l1 _ _ ([] : List (S45)) t250 _ ?side1 ?side2 ?side3 ?side4 ?side5 ?side6 A9.out).mono ?_);(case side1 => exact cM (Kd.C_below HR0.out HB.out));(case side2 => exact HC0.out);(case side3 => exact cM (Kd.C_below HR1.out HB.out));(case side4 => exact HC1.out);(case side5 => exact Kd.C_nil _ _);(case side6 => exact Nat.le_refl _);rintro e w' ⟨rfl,⟨nd,rfl⟩⟩;(try first|exact ⟨rfl,_,World.drewN_drewN _ _ _⟩|exact ⟨rfl,_,Eq.trans (World.drewN_drewN _ _ _) (congrArg (World.drewN _) (Nat.add_assoc _ _ _))⟩)))
     repeat (go_quiet (first|(go_at_call 19;refine calls_of_args (args' := #[.slice A0 l0.length c0,.slice A1 l1.length c1,.slice none ([] : List (S45)).length 0]) (by first|with_reducible rfl|(simp only [List.length_nil];done)|(simp only [List.length_nil];with_reducible rfl)) ?_;(with_reducible refine (codesearchlaw25_trees.calls k _ _ l0 _ _ l1 _ _ ([] : List (S45)) t250 _ ?side1 ?side2 ?side3 ?side4 ?side5 ?side6 A9.out).mono ?_);(case side1 => exact cM (Kd.C_below HR0.out HB.out));(case side2 => exact HC0.out);(case side3 => exact cM (Kd.C_below HR1.out HB.out));(case side4 => exact HC1.out);(case side5 => exact Kd.C_nil _ _);(case side6 => exact Nat.le_refl _);rintro e w' ⟨rfl,⟨nd,rfl⟩⟩;(try first|exact ⟨rfl,_,World.drewN_drewN _ _ _⟩|exact ⟨rfl,_,Eq.trans (World.drewN_drewN _ _ _) (congrArg (World.drewN _) (Nat.add_assoc _ _ _))⟩)));try go_wp2_with (first|(go_at_call 19;refine calls_of_args (args' := #[.slice A0 l0.length c0,.slice A1 l1.length c1,.slice none ([] : List (S45)).length 0]) (by first|with_reducible rfl|(simp only [List.length_nil];done)|(simp only [List.length_nil];with_reducible rfl)) ?_;(with_reducible refine (codesearchlaw25_trees.calls k _ _ l0 _ _ l1 _ _ ([] : List (S45)) t250 _ ?side1 ?side2 ?side3 ?side4 ?side5 ?side6 A9.out).mono ?_);(case side1 => exact cM (Kd.C_below HR0.out HB.out));(case side2 => exact HC0.out);(case side3 => exact cM (Kd.C_below HR1.out HB.out));(case side4 => exact HC1.out);(case side5 => exact Kd.C_nil _ _);(case side6 => exact Nat.le_refl _);rintro e w' ⟨rfl,⟨nd,rfl⟩⟩;(try first|exact ⟨rfl,_,World.drewN_drewN _ _ _⟩|exact ⟨rfl,_,Eq.trans (World.drewN_drewN _ _ _) (congrArg (World.drewN _) (Nat.add_assoc _ _ _))⟩))))
     go_meet
     case rel => exact ⟨_,(!t250),(by first|rfl|(simp;done)|(simp [*];done)),H',⟨by first|omega|exact Nat.le_refl _⟩,⟨bM HB.out⟩⟩
  case rest =>
   clear HC5
   try clear c1
   try clear p2
   try clear c4
   try clear c7
   try clear c7b0
   try clear c7b1
   try clear c8
   try clear c8b0
   try clear c8b1
   try clear c9
   obtain ⟨kq,x24_4,rfl,HA,HJ4,HB⟩ := hcut
   cases kq with
  |zero => exact absurd HA.out (by simp [codesearchlaw25_TreeBack.j0])
  |succ kj4 =>
    have H := HA.out
    clear HA
    simp only [codesearchlaw25_TreeBack.j0] at H
    by_cases c10 : x24_4 = true
    ·subst c10
     have H1 : (some true) = some r := by rw [if_pos rfl] at H;exact H
     clear H
     have H := H1
     clear H1
     obtain rfl := Option.some.inj H
     go_wp2
     repeat (go_quiet (fail);try go_wp2)
     go_ret
     exact ⟨by first|rfl|(simp [errW_none,errW_some] <;> rfl)|(simp [*,errW_none,errW_some] <;> rfl),bM HB.out⟩
    ·replace c10 := Bool.eq_false_iff.mpr c10
     subst c10
     have H1 : ((tree_Diff.f l0 l1).bind fun t251 => ((tree_Diff.f l0 l0).bind fun t254 => (if (t254.length : Int) = 0 then ((codesearchref25_Files.f kj4 l0 l1).bind fun t257 => (codesearchlaw25_TreeBack.j1 kj4 l0 l1 t251 (((t251.length : Int) == 0) != t257))) else (codesearchlaw25_TreeBack.j1 kj4 l0 l1 t251 true)))) = some r := by rw [if_neg (show ¬ (false = true) by decide)] at H;exact H
     clear H
     have H := H1
     clear H1
     replace H := Option.bind_eq_some_iff.mp H
     obtain ⟨t251,A110,H⟩ := H
     replace H : ((tree_Diff.f l0 l0).bind fun t254 => (if (t254.length : Int) = 0 then ((codesearchref25_Files.f kj4 l0 l1).bind fun t257 => (codesearchlaw25_TreeBack.j1 kj4 l0 l1 t251 (((t251.length : Int) == 0) != t257))) else (codesearchlaw25_TreeBack.j1 kj4 l0 l1 t251 true))) = some r := H
     have A11 := Aside0.mk A110
     clear A110
     have HC12 := Aside0.mk H
     clear H
     go_upto_region 6 with (first|(go_at_call 21;(with_reducible refine (tree_Diff.calls _ _ l0 _ _ l1 t251 _ ?side1 ?side2 ?side3 ?side4 A11.out).mono ?_);(case side1 => exact cM (Kd.C_below HR0.out HB.out));(case side2 => exact HC0.out);(case side3 => exact cM (Kd.C_below HR1.out HB.out));(case side4 => exact HC1.out);rintro e w13 ⟨v252,rfl,ho0,hb⟩;have n0_ := Aside0.mk (Kd.R_lower ho0 (below_size (bM HB.out)));have n1_ := Aside0.mk (below_step (bM HB.out) hb);clear HB;have HO253 := n0_;have HB := n1_;clear n0_ n1_;(try clear hb);(try clear hb2);(try clear hk);(try clear hi);(try clear ho0)))
     repeat (go_quiet (first|(go_at_call 21;(with_reducible refine (tree_Diff.calls _ _ l0 _ _ l1 t251 _ ?side1 ?side2 ?side3 ?side4 A11.out).mono ?_);(case side1 => exact cM (Kd.C_below HR0.out HB.out));(case side2 => exact HC0.out);(case side3 => exact cM (Kd.C_below HR1.out HB.out));(case side4 => exact HC1.out);rintro e w13 ⟨v252,rfl,ho0,hb⟩;have n0_ := Aside0.mk (Kd.R_lower ho0 (below_size (bM HB.out)));have n1_ := Aside0.mk (below_step (bM HB.out) hb);clear HB;have HO253 := n0_;have HB := n1_;clear n0_ n1_;(try clear hb);(try clear hb2);(try clear hk);(try clear hi);(try clear ho0)));go_upto_region 6 with (first|(go_at_call 21;(with_reducible refine (tree_Diff.calls _ _ l0 _ _ l1 t251 _ ?side1 ?side2 ?side3 ?side4 A11.out).mono ?_);(case side1 => exact cM (Kd.C_below HR0.out HB.out));(case side2 => exact HC0.out);(case side3 => exact cM (Kd.C_below HR1.out HB.out));(case side4 => exact HC1.out);rintro e w13 ⟨v252,rfl,ho0,hb⟩;have n0_ := Aside0.mk (Kd.R_lower ho0 (below_size (bM HB.out)));have n1_ := Aside0.mk (below_step (bM HB.out) hb);clear HB;have HO253 := n0_;have HB := n1_;clear n0_ n1_;(try clear hb);(try clear hb2);(try clear hk);(try clear hi);(try clear ho0))))
     (try simp only [Act.put,List.setIfInBounds_toArray,List.set_cons_zero,List.set_cons_succ])
     go_cut [41] (fun v41 wc => ∃ (kq : Nat) (x41_11 : Bool),v41 = .bool x41_11 ∧ Aside0 (codesearchlaw25_TreeBack.j1 kq l0 l1 t251 x41_11 = some r) ∧ Aside0 (kq ≤ kj4) ∧ Aside0 (Kd.R k47 47 wc w.heap.size (fun _ => True) v252 t251) ∧ Aside0 (Below w.heap.size w wc))
     case first =>
      have H := HC12.out
      clear HC12
      replace H := Option.bind_eq_some_iff.mp H
      obtain ⟨t254,A140,H⟩ := H
      replace H : (if (t254.length : Int) = 0 then ((codesearchref25_Files.f kj4 l0 l1).bind fun t257 => (codesearchlaw25_TreeBack.j1 kj4 l0 l1 t251 (((t251.length : Int) == 0) != t257))) else (codesearchlaw25_TreeBack.j1 kj4 l0 l1 t251 true)) = some r := H
      have A14 := Aside0.mk A140
      clear A140
      by_cases c15 : (t254.length : Int) = 0
      ·rw [if_pos c15] at H
       have c15b0 : ((t254.length : Int) == 0) = true := beq_iff_eq.mpr c15
       have c15b1 : ((t254.length : Int) != 0) = false := bne_eq_false_iff_eq.mpr c15
       clear c15
       (first|rw [c15b0]|(simp only [i64_w,i32_w];rw [c15b0])|rw [c15b1]|skip)
       replace H := Option.bind_eq_some_iff.mp H
       obtain ⟨t257,A160,H⟩ := H
       replace H : (codesearchlaw25_TreeBack.j1 kj4 l0 l1 t251 (((t251.length : Int) == 0) != t257)) = some r := H
       have A16 := Aside0.mk A160
       clear A160
       have H' := Aside0.mk H
       clear H
       go_wp2_with (first|(go_at_call 21;(with_reducible refine (tree_Diff.calls _ _ l0 _ _ l0 t254 _ ?side1 ?side2 ?side3 ?side4 A14.out).mono ?_);(case side1 => exact cM (Kd.C_below HR0.out HB.out));(case side2 => exact HC0.out);(case side3 => exact cM (Kd.C_below HR0.out HB.out));(case side4 => exact HC0.out);rintro e w17 ⟨v255,rfl,ho0,hb⟩;have n0_ := Aside0.mk (Kd.R_elder' (rM HO253.out) (Kd.R_base ho0) hb);have n1_ := Aside0.mk (Kd.R_lower (Kd.R_new' ho0 (Kd.R_lt (rM HO253.out))) (below_size (bM HB.out)));have n2_ := Aside0.mk (below_step (bM HB.out) hb);clear HO253;clear HB;have HO253 := n0_;have HO256 := n1_;have HB := n2_;clear n0_ n1_ n2_;(try clear hb);(try clear hb2);(try clear hk);(try clear hi);(try clear ho0);obtain ⟨Ao18,co18,eo18⟩ := Kd.R_slice HO256.out;subst eo18;obtain ⟨Ao19,co19,eo19⟩ := Kd.R_slice HO253.out;subst eo19)|(go_at_call 18;(with_reducible refine (codesearchref25_Files.calls kj4 _ _ l0 _ _ l1 t257 _ ?side1 ?side2 ?side3 ?side4 A16.out).mono ?_);(case side1 => exact cM (Kd.C_below HR0.out HB.out));(case side2 => exact HC0.out);(case side3 => exact cM (Kd.C_below HR1.out HB.out));(case side4 => exact HC1.out);rintro e w' ⟨rfl,⟨nd,rfl⟩⟩;(try first|exact ⟨rfl,_,World.drewN_drewN _ _ _⟩|exact ⟨rfl,_,Eq.trans (World.drewN_drewN _ _ _) (congrArg (World.drewN _) (Nat.add_assoc _ _ _))⟩)))
       repeat (go_quiet (first|(go_at_call 21;(with_reducible refine (tree_Diff.calls _ _ l0 _ _ l0 t254 _ ?side1 ?side2 ?side3 ?side4 A14.out).mono ?_);(case side1 => exact cM (Kd.C_below HR0.out HB.out));(case side2 => exact HC0.out);(case side3 => exact cM (Kd.C_below HR0.out HB.out));(case side4 => exact HC0.out);rintro e w17 ⟨v255,rfl,ho0,hb⟩;have n0_ := Aside0.mk (Kd.R_elder' (rM HO253.out) (Kd.R_base ho0) hb);have n1_ := Aside0.mk (Kd.R_lower (Kd.R_new' ho0 (Kd.R_lt (rM HO253.out))) (below_size (bM HB.out)));have n2_ := Aside0.mk (below_step (bM HB.out) hb);clear HO253;clear HB;have HO253 := n0_;have HO256 := n1_;have HB := n2_;clear n0_ n1_ n2_;(try clear hb);(try clear hb2);(try clear hk);(try clear hi);(try clear ho0);obtain ⟨Ao18,co18,eo18⟩ := Kd.R_slice HO256.out;subst eo18;obtain ⟨Ao19,co19,eo19⟩ := Kd.R_slice HO253.out;subst eo19)|(go_at_call 18;(with_reducible refine (codesearchref25_Files.calls kj4 _ _ l0 _ _ l1 t257 _ ?side1 ?side2 ?side3 ?side4 A16.out).mono ?_);(case side1 => exact cM (Kd.C_below HR0.out HB.out));(case side2 => exact HC0.out);(case side3 => exact cM (Kd.C_below HR1.out HB.out));(case side4 => exact HC1.out);rintro e w' ⟨rfl,⟨nd,rfl⟩⟩;(try first|exact ⟨rfl,_,World.drewN_drewN _ _ _⟩|exact ⟨rfl,_,Eq.trans (World.drewN_drewN _ _ _) (congrArg (World.drewN _) (Nat.add_assoc _ _ _))⟩)));try go_wp2_with (first|(go_at_call 21;(with_reducible refine (tree_Diff.calls _ _ l0 _ _ l0 t254 _ ?side1 ?side2 ?side3 ?side4 A14.out).mono ?_);(case side1 => exact cM (Kd.C_below HR0.out HB.out));(case side2 => exact HC0.out);(case side3 => exact cM (Kd.C_below HR0.out HB.out));(case side4 => exact HC0.out);rintro e w17 ⟨v255,rfl,ho0,hb⟩;have n0_ := Aside0.mk (Kd.R_elder' (rM HO253.out) (Kd.R_base ho0) hb);have n1_ := Aside0.mk (Kd.R_lower (Kd.R_new' ho0 (Kd.R_lt (rM HO253.out))) (below_size (bM HB.out)));have n2_ := Aside0.mk (below_step (bM HB.out) hb);clear HO253;clear HB;have HO253 := n0_;have HO256 := n1_;have HB := n2_;clear n0_ n1_ n2_;(try clear hb);(try clear hb2);(try clear hk);(try clear hi);(try clear ho0);obtain ⟨Ao18,co18,eo18⟩ := Kd.R_slice HO256.out;subst eo18;obtain ⟨Ao19,co19,eo19⟩ := Kd.R_slice HO253.out;subst eo19)|(go_at_call 18;(with_reducible refine (codesearchref25_Files.calls kj4 _ _ l0 _ _ l1 t257 _ ?side1 ?side2 ?side3 ?side4 A16.out).mono ?_);(case side1 => exact cM (Kd.C_below HR0.out HB.out));(case side2 => exact HC0.out);(case side3 => exact cM (Kd.C_below HR1.out HB.out));(case side4 => exact HC1.out);rintro e w' ⟨rfl,⟨nd,rfl⟩⟩;(try first|exact ⟨rfl,_,World.drewN_drewN _ _ _⟩|exact ⟨rfl,_,Eq.trans (World.drewN_drewN _ _ _) (congrArg (World.drewN _) (Nat.add_assoc _ _ _))⟩))))
       go_meet
       case rel => exact ⟨_,((((t251.length : Int) == 0) != t257)),(by first|rfl|(simp;done)|(simp [*];done)),H',⟨by have := HJ4.out;first|omega|exact Nat.le_refl _⟩,⟨rM (Kd.R_mono HO253.out (fun _ hk => trivial))⟩,⟨bM HB.out⟩⟩
      ·rw [if_neg c15] at H
       have c15b0 : ((t254.length : Int) == 0) = false := beq_eq_false_iff_ne.mpr c15
       have c15b1 : ((t254.length : Int) != 0) = true := bne_iff_ne.mpr c15
       have c15b2 : ¬ (t254 = []) := fun h_ => c15 (by rw [h_];rfl)
       (first|rw [c15b0]|(simp only [i64_w,i32_w];rw [c15b0])|rw [c15b1]|skip)
       have H' := Aside0.mk H
       clear H
       go_wp2_with (first|(go_at_call 21;(with_reducible refine (tree_Diff.calls _ _ l0 _ _ l0 t254 _ ?side1 ?side2 ?side3 ?side4 A14.out).mono ?_);(case side1 => exact cM (Kd.C_below HR0.out HB.out));(case side2 => exact HC0.out);(case side3 => exact cM (Kd.C_below HR0.out HB.out));(case side4 => exact HC0.out);rintro e w20 ⟨v255,rfl,ho0,hb⟩;have n0_ := Aside0.mk (Kd.R_elder' (rM HO253.out) (Kd.R_base ho0) hb);have n1_ := Aside0.mk (Kd.R_lower (Kd.R_new' ho0 (Kd.R_lt (rM HO253.out))) (below_size (bM HB.out)));have n2_ := Aside0.mk (below_step (bM HB.out) hb);clear HO253;clear HB;have HO253 := n0_;have HO256 := n1_;have HB := n2_;clear n0_ n1_ n2_;(try clear hb);(try clear hb2);(try clear hk);(try clear hi);(try clear ho0);obtain ⟨Ao21,co21,eo21⟩ := Kd.R_slice HO256.out;subst eo21))
       repeat (go_quiet (first|(go_at_call 21;(with_reducible refine (tree_Diff.calls _ _ l0 _ _ l0 t254 _ ?side1 ?side2 ?side3 ?side4 A14.out).mono ?_);(case side1 => exact cM (Kd.C_below HR0.out HB.out));(case side2 => exact HC0.out);(case side3 => exact cM (Kd.C_below HR0.out HB.out));(case side4 => exact HC0.out);rintro e w20 ⟨v255,rfl,ho0,hb⟩;have n0_ := Aside0.mk (Kd.R_elder' (rM HO253.out) (Kd.R_base ho0) hb);have n1_ := Aside0.mk (Kd.R_lower (Kd.R_new' ho0 (Kd.R_lt (rM HO253.out))) (below_size (bM HB.out)));have n2_ := Aside0.mk (below_step (bM HB.out) hb);clear HO253;clear HB;have HO253 := n0_;have HO256 := n1_;have HB := n2_;clear n0_ n1_ n2_;(try clear hb);(try clear hb2);(try clear hk);(try clear hi);(try clear ho0);obtain ⟨Ao21,co21,eo21⟩ := Kd.R_slice HO256.out;subst eo21));try go_wp2_with (first|(go_at_call 21;(with_reducible refine (tree_Diff.calls _ _ l0 _ _ l0 t254 _ ?side1 ?side2 ?side3 ?side4 A14.out).mono ?_);(case side1 => exact cM (Kd.C_below HR0.out HB.out));(case side2 => exact HC0.out);(case side3 => exact cM (Kd.C_below HR0.out HB.out));(case side4 => exact HC0.out);rintro e w20 ⟨v255,rfl,ho0,hb⟩;have n0_ := Aside0.mk (Kd.R_elder' (rM HO253.out) (Kd.R_base ho0) hb);have n1_ := Aside0.mk (Kd.R_lower (Kd.R_new' ho0 (Kd.R_lt (rM HO253.out))) (below_size (bM HB.out)));have n2_ := Aside0.mk (below_step (bM HB.out) hb);clear HO253;clear HB;have HO253 := n0_;have HO256 := n1_;have HB := n2_;clear n0_ n1_ n2_;(try clear hb);(try clear hb2);(try clear hk);(try clear hi);(try clear ho0);obtain ⟨Ao21,co21,eo21⟩ := Kd.R_slice HO256.out;subst eo21)))
       go_meet
       case rel => exact ⟨_,(true),(by first|rfl|(simp;done)|(simp [*];done)),H',⟨by have := HJ4.out;first|omega|exact Nat.le_refl _⟩,⟨rM (Kd.R_mono HO253.out (fun _ hk => trivial))⟩,⟨bM HB.out⟩⟩
     case rest =>
      clear HC12
      try clear c1
      try clear p2
      try clear c4
      try clear c7
      try clear c7b0
      try clear c7b1
      try clear c8
      try clear c8b0
      try clear c8b1
      try clear c9
      try clear c10
      try clear c15
      try clear c15b0
      try clear c15b1
      try clear c15b2
      try clear p2
      obtain ⟨kq,x41_11,rfl,HA,HJ11,HO_5,HB⟩ := hcut
      cases kq with
     |zero => exact absurd HA.out (by simp [codesearchlaw25_TreeBack.j1])
     |succ kj11 =>
       have H := HA.out
       clear HA
       simp only [codesearchlaw25_TreeBack.j1] at H
       by_cases c22 : x41_11 = true
       ·subst c22
        have H1 : (some false) = some r := by rw [if_pos rfl] at H;exact H
        clear H
        have H := H1
        clear H1
        obtain rfl := Option.some.inj H
        go_wp2
        repeat (go_quiet (fail);try go_wp2)
        go_ret
        exact ⟨by first|rfl|(simp [errW_none,errW_some] <;> rfl)|(simp [*,errW_none,errW_some] <;> rfl),bM HB.out⟩
       ·replace c22 := Bool.eq_false_iff.mpr c22
        subst c22
        have H1 : (codesearchlaw25_TreeBack.l0 kj11 l0 l1 t251 1) = some r := by rw [if_neg (show ¬ (false = true) by decide)] at H;exact H
        clear H
        have H := H1
        clear H1
        have H' := Aside0.mk H
        clear H
        go_wp2
        repeat (go_quiet (fail);try go_wp2)
        go_loopg [6] kj11 (fun kq v6 w' => ∃ (x6_3 : Int),v6 = .int .i64 x6_3 ∧ Aside0 (codesearchlaw25_TreeBack.l0 kq l0 l1 t251 x6_3 = some r) ∧ Aside0 (kq ≤ kj11) ∧ Aside0 (Kd.R k47 47 w' w.heap.size (fun _ => True) v252 t251) ∧ Aside0 (Below w.heap.size w w'))
        case atStart => exact ⟨(1),(by first|rfl|(simp;done)|(simp [*];done)),H',⟨Nat.le_refl _⟩,⟨rM HO_5.out⟩,⟨bM HB.out⟩⟩
        case round =>
         clear H'
         try clear c1
         try clear c2
         try clear p2
         try clear c4
         try clear c7
         try clear c7b0
         try clear c7b1
         try clear c8
         try clear c8b0
         try clear c8b1
         try clear c9
         try clear c10
         try clear c15
         try clear c15b0
         try clear c15b1
         try clear c15b2
         try clear c22
         try clear p2
         obtain ⟨x6_3,rfl,HA,HK3,HO_5,HB⟩ := hrel
         cases gk with
        |zero => exact absurd HA.out (by simp [codesearchlaw25_TreeBack.l0])
        |succ k3 =>
          have H := HA.out
          clear HA
          simp only [codesearchlaw25_TreeBack.l0] at H
          by_cases c23 : x6_3 < (t251.length : Int)
          ·rw [if_pos c23] at H
           have c23b0 : decide (x6_3 < (t251.length : Int)) = true := decide_eq_true c23
           clear c23
           by_cases c24 : 0 ≤ x6_3
           ·rw [if_pos c24] at H
            have c24b0 : decide (0 ≤ x6_3) = true := decide_eq_true c24
            clear c24
            obtain ⟨ji25,hji25⟩ : ∃ j_ : Int,(wrap64 (x6_3 - 1)) = j_ := ⟨_,rfl⟩
            replace H : (if 0 ≤ (ji25) then (if (ji25) < (t251.length : Int) then (if ((Op.bytesLess (((rd_T47 t251 (ji25)).f0).toList) (((rd_T47 t251 x6_3).f0).toList)) = true) then (codesearchlaw25_TreeBack.l0 k3 l0 l1 t251 (wrap64 (x6_3 + 1))) else (some false)) else (none)) else (none)) = some r := by first|(rw [hji25] at H;exact H)|(simp only [hji25] at H ⊢;exact H)
            have hji25w : (IntKind.i64.wrap (x6_3 - 1)) = ji25 := (i64_w _).trans hji25
            by_cases c26 : 0 ≤ (ji25)
            ·rw [if_pos c26] at H
             have c26b0 : decide (0 ≤ (ji25)) = true := decide_eq_true c26
             clear c26
             by_cases c27 : (ji25) < (t251.length : Int)
             ·rw [if_pos c27] at H
              have c27b0 : decide ((ji25) < (t251.length : Int)) = true := decide_eq_true c27
              clear c27
              by_cases c28 : ((Op.bytesLess (((rd_T47 t251 (ji25)).f0).toList) (((rd_T47 t251 x6_3).f0).toList)) = true)
              ·rw [if_pos c28] at H
               have c28b0 : (Op.bytesLess (((rd_T47 t251 (ji25)).f0).toList) (((rd_T47 t251 x6_3).f0).toList)) = true := c28
               clear c28
               have H' := Aside0.mk H
               clear H
               obtain ⟨Ao29,co29,eo29⟩ := Kd.R_slice HO_5.out
               subst eo29
               have p258 : 0 ≤ (x6_3 : Int) := of_decide_eq_true (by first|(with_reducible assumption)|assumption)
               have q258 : x6_3 < (t251.length : Int) := of_decide_eq_true (by first|(with_reducible assumption)|assumption)
               obtain ⟨ad258,e258,hx258_0,hx258_1⟩ := at_T47 (Kd.R_reads' HO_5.out).2.2 x6_3 p258 q258
               cases e258
               replace p258 := eq_true p258
               replace q258 := eq_true q258
               have p259 : 0 ≤ ((ji25) : Int) := of_decide_eq_true (by first|(with_reducible assumption)|assumption)
               have q259 : (ji25) < (t251.length : Int) := of_decide_eq_true (by first|(with_reducible assumption)|assumption)
               obtain ⟨ad259,e259,hx259_0,hx259_1⟩ := at_T47 (Kd.R_reads' HO_5.out).2.2 (ji25) p259 q259
               obtain rfl : ad258 = ad259 := (by injection e259)
               replace p259 := eq_true p259
               replace q259 := eq_true q259
               go_wp2
               repeat (go_quiet (fail);try go_wp2)
               go_roundg k3
               case measure => have := HJ4.out;have := HJ11.out;have := HK3.out;omega
               case rel => exact ⟨(wrap64 (x6_3 + 1)),(by first|rfl|(simp;done)|(simp [*];done)),H',⟨by have := HJ4.out;have := HJ11.out;have := HK3.out;omega⟩,⟨rM HO_5.out⟩,⟨bM HB.out⟩⟩
              ·rw [if_neg c28] at H
               have c28b0 : (Op.bytesLess (((rd_T47 t251 (ji25)).f0).toList) (((rd_T47 t251 x6_3).f0).toList)) = false := by simpa using c28
               clear c28
               obtain rfl := Option.some.inj H
               obtain ⟨Ao30,co30,eo30⟩ := Kd.R_slice HO_5.out
               subst eo30
               have p258 : 0 ≤ (x6_3 : Int) := of_decide_eq_true (by first|(with_reducible assumption)|assumption)
               have q258 : x6_3 < (t251.length : Int) := of_decide_eq_true (by first|(with_reducible assumption)|assumption)
               obtain ⟨ad258,e258,hx258_0,hx258_1⟩ := at_T47 (Kd.R_reads' HO_5.out).2.2 x6_3 p258 q258
               cases e258
               replace p258 := eq_true p258
               replace q258 := eq_true q258
               have p259 : 0 ≤ ((ji25) : Int) := of_decide_eq_true (by first|(with_reducible assumption)|assumption)
               have q259 : (ji25) < (t251.length : Int) := of_decide_eq_true (by first|(with_reducible assumption)|assumption)
               obtain ⟨ad259,e259,hx259_0,hx259_1⟩ := at_T47 (Kd.R_reads' HO_5.out).2.2 (ji25) p259 q259
               obtain rfl : ad258 = ad259 := (by injection e259)
               replace p259 := eq_true p259
               replace q259 := eq_true q259
               go_wp2
               repeat (go_quiet (fail);try go_wp2)
               go_ret
               exact ⟨by first|rfl|(simp [errW_none,errW_some] <;> rfl)|(simp only [← hji25];first|rfl|(simp [errW_none,errW_some] <;> rfl))|(simp [*,errW_none,errW_some] <;> rfl),bM HB.out⟩
             ·rw [if_neg c27] at H
              exact absurd H (by simp)
            ·rw [if_neg c26] at H
             exact absurd H (by simp)
           ·rw [if_neg c24] at H
            exact absurd H (by simp)
          ·rw [if_neg c23] at H
           have c23b0 : decide (x6_3 < (t251.length : Int)) = false := decide_eq_false c23
           clear c23
           by_cases c31 : (t251.length : Int) > 16
           ·rw [if_pos c31] at H
            have c31b0 : decide (16 < (t251.length : Int)) = true := decide_eq_true c31
            have c31b1 : decide (16 < t251.length) = true := decide_eq_true (by omega)
            clear c31
            obtain rfl := Option.some.inj H
            obtain ⟨Ao32,co32,eo32⟩ := Kd.R_slice HO_5.out
            subst eo32
            go_wp2
            repeat (go_quiet (fail);try go_wp2)
            go_ret
            exact ⟨by first|rfl|(simp [errW_none,errW_some] <;> rfl)|(simp [*,errW_none,errW_some] <;> rfl),bM HB.out⟩
           ·rw [if_neg c31] at H
            have c31b0 : decide (16 < (t251.length : Int)) = false := decide_eq_false c31
            have c31b1 : decide (16 < t251.length) = false := decide_eq_false (by omega)
            clear c31
            replace H := Option.bind_eq_some_iff.mp H
            obtain ⟨⟨t260,t261⟩,A330,H⟩ := H
            replace H : (if t261 = 0 then ((codesearchref25_Files.f k3 t260 l1).bind fun t264 => (some t264)) else (some false)) = some r := H
            have A33 := Aside0.mk A330
            clear A330
            by_cases c34 : t261 = 0
            ·rw [if_pos c34] at H
             have c34b0 : (t261 == 0) = true := beq_iff_eq.mpr c34
             have c34b1 : (t261 != 0) = false := bne_eq_false_iff_eq.mpr c34
             clear c34
             replace H := Option.bind_eq_some_iff.mp H
             obtain ⟨t264,A350,H⟩ := H
             replace H : (some t264) = some r := H
             have A35 := Aside0.mk A350
             clear A350
             obtain rfl := Option.some.inj H
             obtain ⟨Ao36,co36,eo36⟩ := Kd.R_slice HO_5.out
             subst eo36
             go_wp2_with (first|(go_at_call 16;(with_reducible refine (tree_Apply.calls k3 _ _ l0 _ _ t251 t260 t261 _ ?side1 ?side2 ?side3 ?side4 A33.out).mono ?_);(case side1 => exact cM (Kd.C_below HR0.out HB.out));(case side2 => exact HC0.out);(case side3 => exact cM (Kd.R_reads' HO_5.out).2.2);(case side4 => exact (Kd.R_reads' HO_5.out).2.1);rintro e w37 ⟨v262,rfl,ho0,hb⟩;have n0_ := Aside0.mk (Kd.R_below (rM HO_5.out) hb);have n1_ := Aside0.mk (Kd.R_lower ho0 (below_size (bM HB.out)));have n2_ := Aside0.mk (below_step (bM HB.out) hb);clear HO_5;clear HB;have HO_5 := n0_;have HO263 := n1_;have HB := n2_;clear n0_ n1_ n2_;(try clear hb);(try clear hb2);(try clear hk);(try clear hi);(try clear ho0);obtain ⟨Ao38,co38,eo38⟩ := Kd.R_slice HO263.out;subst eo38)|(go_at_call 18;(with_reducible refine (codesearchref25_Files.calls k3 _ _ t260 _ _ l1 t264 _ ?side1 ?side2 ?side3 ?side4 A35.out).mono ?_);(case side1 => exact cM (Kd.R_reads' HO263.out).2.2);(case side2 => exact (Kd.R_reads' HO263.out).2.1);(case side3 => exact cM (Kd.C_below HR1.out HB.out));(case side4 => exact HC1.out);rintro e w' ⟨rfl,⟨nd,rfl⟩⟩;(try first|exact ⟨rfl,_,World.drewN_drewN _ _ _⟩|exact ⟨rfl,_,Eq.trans (World.drewN_drewN _ _ _) (congrArg (World.drewN _) (Nat.add_assoc _ _ _))⟩)))
             repeat (go_quiet (first|(go_at_call 16;(with_reducible refine (tree_Apply.calls k3 _ _ l0 _ _ t251 t260 t261 _ ?side1 ?side2 ?side3 ?side4 A33.out).mono ?_);(case side1 => exact cM (Kd.C_below HR0.out HB.out));(case side2 => exact HC0.out);(case side3 => exact cM (Kd.R_reads' HO_5.out).2.2);(case side4 => exact (Kd.R_reads' HO_5.out).2.1);rintro e w37 ⟨v262,rfl,ho0,hb⟩;have n0_ := Aside0.mk (Kd.R_below (rM HO_5.out) hb);have n1_ := Aside0.mk (Kd.R_lower ho0 (below_size (bM HB.out)));have n2_ := Aside0.mk (below_step (bM HB.out) hb);clear HO_5;clear HB;have HO_5 := n0_;have HO263 := n1_;have HB := n2_;clear n0_ n1_ n2_;(try clear hb);(try clear hb2);(try clear hk);(try clear hi);(try clear ho0);obtain ⟨Ao38,co38,eo38⟩ := Kd.R_slice HO263.out;subst eo38)|(go_at_call 18;(with_reducible refine (codesearchref25_Files.calls k3 _ _ t260 _ _ l1 t264 _ ?side1 ?side2 ?side3 ?side4 A35.out).mono ?_);(case side1 => exact cM (Kd.R_reads' HO263.out).2.2);(case side2 => exact (Kd.R_reads' HO263.out).2.1);(case side3 => exact cM (Kd.C_below HR1.out HB.out));(case side4 => exact HC1.out);rintro e w' ⟨rfl,⟨nd,rfl⟩⟩;(try first|exact ⟨rfl,_,World.drewN_drewN _ _ _⟩|exact ⟨rfl,_,Eq.trans (World.drewN_drewN _ _ _) (congrArg (World.drewN _) (Nat.add_assoc _ _ _))⟩)));try go_wp2_with (first|(go_at_call 16;(with_reducible refine (tree_Apply.calls k3 _ _ l0 _ _ t251 t260 t261 _ ?side1 ?side2 ?side3 ?side4 A33.out).mono ?_);(case side1 => exact cM (Kd.C_below HR0.out HB.out));(case side2 => exact HC0.out);(case side3 => exact cM (Kd.R_reads' HO_5.out).2.2);(case side4 => exact (Kd.R_reads' HO_5.out).2.1);rintro e w37 ⟨v262,rfl,ho0,hb⟩;have n0_ := Aside0.mk (Kd.R_below (rM HO_5.out) hb);have n1_ := Aside0.mk (Kd.R_lower ho0 (below_size (bM HB.out)));have n2_ := Aside0.mk (below_step (bM HB.out) hb);clear HO_5;clear HB;have HO_5 := n0_;have HO263 := n1_;have HB := n2_;clear n0_ n1_ n2_;(try clear hb);(try clear hb2);(try clear hk);(try clear hi);(try clear ho0);obtain ⟨Ao38,co38,eo38⟩ := Kd.R_slice HO263.out;subst eo38)|(go_at_call 18;(with_reducible refine (codesearchref25_Files.calls k3 _ _ t260 _ _ l1 t264 _ ?side1 ?side2 ?side3 ?side4 A35.out).mono ?_);(case side1 => exact cM (Kd.R_reads' HO263.out).2.2);(case side2 => exact (Kd.R_reads' HO263.out).2.1);(case side3 => exact cM (Kd.C_below HR1.out HB.out));(case side4 => exact HC1.out);rintro e w' ⟨rfl,⟨nd,rfl⟩⟩;(try first|exact ⟨rfl,_,World.drewN_drewN _ _ _⟩|exact ⟨rfl,_,Eq.trans (World.drewN_drewN _ _ _) (congrArg (World.drewN _) (Nat.add_assoc _ _ _))⟩))))
             go_ret
             exact ⟨by first|rfl|(simp [errW_none,errW_some] <;> rfl)|(simp [*,errW_none,errW_some] <;> rfl),bM HB.out⟩
            ·rw [if_neg c34] at H
             have c34b0 : (t261 == 0) = false := beq_eq_false_iff_ne.mpr c34
             have c34b1 : (t261 != 0) = true := bne_iff_ne.mpr c34
             obtain rfl := Option.some.inj H
             obtain ⟨Ao39,co39,eo39⟩ := Kd.R_slice HO_5.out
             subst eo39
             go_wp2_with (first|(go_at_call 16;(with_reducible refine (tree_Apply.calls k3 _ _ l0 _ _ t251 t260 t261 _ ?side1 ?side2 ?side3 ?side4 A33.out).mono ?_);(case side1 => exact cM (Kd.C_below HR0.out HB.out));(case side2 => exact HC0.out);(case side3 => exact cM (Kd.R_reads' HO_5.out).2.2);(case side4 => exact (Kd.R_reads' HO_5.out).2.1);rintro e w40 ⟨v262,rfl,ho0,hb⟩;have n0_ := Aside0.mk (Kd.R_below (rM HO_5.out) hb);have n1_ := Aside0.mk (Kd.R_lower ho0 (below_size (bM HB.out)));have n2_ := Aside0.mk (below_step (bM HB.out) hb);clear HO_5;clear HB;have HO_5 := n0_;have HO263 := n1_;have HB := n2_;clear n0_ n1_ n2_;(try clear hb);(try clear hb2);(try clear hk);(try clear hi);(try clear ho0)))
             repeat (go_quiet (first|(go_at_call 16;(with_reducible refine (tree_Apply.calls k3 _ _ l0 _ _ t251 t260 t261 _ ?side1 ?side2 ?side3 ?side4 A33.out).mono ?_);(case side1 => exact cM (Kd.C_below HR0.out HB.out));(case side2 => exact HC0.out);(case side3 => exact cM (Kd.R_reads' HO_5.out).2.2);(case side4 => exact (Kd.R_reads' HO_5.out).2.1);rintro e w40 ⟨v262,rfl,ho0,hb⟩;have n0_ := Aside0.mk (Kd.R_below (rM HO_5.out) hb);have n1_ := Aside0.mk (Kd.R_lower ho0 (below_size (bM HB.out)));have n2_ := Aside0.mk (below_step (bM HB.out) hb);clear HO_5;clear HB;have HO_5 := n0_;have HO263 := n1_;have HB := n2_;clear n0_ n1_ n2_;(try clear hb);(try clear hb2);(try clear hk);(try clear hi);(try clear ho0)));try go_wp2_with (first|(go_at_call 16;(with_reducible refine (tree_Apply.calls k3 _ _ l0 _ _ t251 t260 t261 _ ?side1 ?side2 ?side3 ?side4 A33.out).mono ?_);(case side1 => exact cM (Kd.C_below HR0.out HB.out));(case side2 => exact HC0.out);(case side3 => exact cM (Kd.R_reads' HO_5.out).2.2);(case side4 => exact (Kd.R_reads' HO_5.out).2.1);rintro e w40 ⟨v262,rfl,ho0,hb⟩;have n0_ := Aside0.mk (Kd.R_below (rM HO_5.out) hb);have n1_ := Aside0.mk (Kd.R_lower ho0 (below_size (bM HB.out)));have n2_ := Aside0.mk (below_step (bM HB.out) hb);clear HO_5;clear HB;have HO_5 := n0_;have HO263 := n1_;have HB := n2_;clear n0_ n1_ n2_;(try clear hb);(try clear hb2);(try clear hk);(try clear hi);(try clear ho0))))
             go_ret
             exact ⟨by first|rfl|(simp [errW_none,errW_some] <;> rfl)|(simp [*,errW_none,errW_some] <;> rfl),bM HB.out⟩
 ·replace c4 := Bool.eq_false_iff.mpr c4
  subst c4
  have H1 : (some false) = some r := by rw [if_neg (show ¬ (false = true) by decide)] at H;exact H
  clear H
  have H := H1
  clear H1
  obtain rfl := Option.some.inj H
  go_enter Tryd.func9,Tryd.ntmps9
  go_wp2_with (first|(go_at_call 11;(with_reducible refine (codesearchlaw25_alive.calls k  false _ A3.out).mono ?_);rintro e w41 ⟨rfl,hb⟩;have n0_ := Aside0.mk (below_step (bM HB.out) hb);clear HB;have HB := n0_;clear n0_;(try clear hb);(try clear hb2);(try clear hk);(try clear hi)))
  repeat (go_quiet (first|(go_at_call 11;(with_reducible refine (codesearchlaw25_alive.calls k  false _ A3.out).mono ?_);rintro e w41 ⟨rfl,hb⟩;have n0_ := Aside0.mk (below_step (bM HB.out) hb);clear HB;have HB := n0_;clear n0_;(try clear hb);(try clear hb2);(try clear hk);(try clear hi)));try go_wp2_with (first|(go_at_call 11;(with_reducible refine (codesearchlaw25_alive.calls k  false _ A3.out).mono ?_);rintro e w41 ⟨rfl,hb⟩;have n0_ := Aside0.mk (below_step (bM HB.out) hb);clear HB;have HB := n0_;clear n0_;(try clear hb);(try clear hb2);(try clear hk);(try clear hi))))
  go_ret
  exact ⟨by first|rfl|(simp [errW_none,errW_some] <;> rfl)|(simp [*,errW_none,errW_some] <;> rfl),bM HB.out⟩

/-! ### codesearchlaw25_held: function 30 -/
def codesearchlaw25_held.l0 : Nat → List (S45) → ByteArray → Int → Option (Int)
|0,_,_,_ => none
|k + 1,x0,x1,x5 => if x5 < (x0.length : Int) then (if 0 ≤ x5 then (if ((rd_T45 x0 x5).f0).toList = x1.toList then (some ((rd_T45 x0 x5).f1)) else (codesearchlaw25_held.l0 k x0 x1 (wrap64 (x5 + 1)))) else (none)) else (some 0)
def codesearchlaw25_held.f (k : Nat) (l0 : List (S45)) (a1 : ByteArray) : Option (Int) := codesearchlaw25_held.l0 k l0 a1 0
theorem codesearchlaw25_held.mono_l : ∀ k, (∀ y0 y1 y2, LeO (codesearchlaw25_held.l0 k y0 y1 y2) (codesearchlaw25_held.l0 (k + 1) y0 y1 y2))
|0 => fun _ _ _ r h => by simp [codesearchlaw25_held.l0] at h
|k + 1 => by
  have ih0 := codesearchlaw25_held.mono_l k
  ·intro y0 y1 y2
   unfold codesearchlaw25_held.l0
   repeat' first
  |(with_reducible exact ih0 _ _ _)
  |(with_reducible exact LeO.refl _)
  |(with_reducible exact LeO.none _)
  |(with_reducible refine LeO.ite ?_ ?_)
  |(with_reducible refine LeO.bind ?_ (fun _ => ?_))
  |exact ih0 _ _ _
  |exact LeO.none _
  |refine LeO.ite ?_ ?_
  |refine LeO.bind ?_ (fun _ => ?_)
theorem codesearchlaw25_held.mono : ∀ a0 a1 k, LeO (codesearchlaw25_held.f k a0 a1) (codesearchlaw25_held.f (k + 1) a0 a1) := by
 intro a0 a1 k
 have ih0 := codesearchlaw25_held.mono_l k
 unfold codesearchlaw25_held.f
 repeat' first
  |(with_reducible exact ih0 _ _ _)
  |(with_reducible exact LeO.refl _)
  |(with_reducible exact LeO.none _)
  |(with_reducible refine LeO.ite ?_ ?_)
  |(with_reducible refine LeO.bind ?_ (fun _ => ?_))
  |exact ih0 _ _ _
  |exact LeO.none _
  |refine LeO.ite ?_ ?_
  |refine LeO.bind ?_ (fun _ => ?_)
set_option maxHeartbeats 4000000 in
set_option maxRecDepth 100000 in
theorem codesearchlaw25_held.calls (k : Nat) (A0 : Option Addr) (c0 : Nat) (l0 : List (S45)) (a1 : ByteArray) (r : Int) (w : World) (hr0 : Kd.C k45 w A0 l0.length l0) (hc0 : l0.length ≤ c0) (h : codesearchlaw25_held.f k l0 a1 = some r) :
  Calls Tryd.prog 30 #[.slice A0 l0.length c0,.string a1] w fun e w' => e = .returned (.int .i64 r) ∧ Drawn0 w w' := by
 have HR0 := Aside0.mk hr0
 have HC0 := Aside0.mk hc0
 clear hr0 hc0
 have H : (codesearchlaw25_held.l0 k l0 a1 0) = some r := h
 clear h
 have H' := Aside0.mk H
 clear H
 go_enter Tryd.func30,Tryd.ntmps30
 go_wp2
 go_loopg [5] k (fun kq v5 w' => ∃ (x5_1 : Int),v5 = .int .i64 x5_1 ∧ Aside0 (codesearchlaw25_held.l0 kq l0 a1 x5_1 = some r) ∧ Aside0 (kq ≤ k) ∧ Drawn0 w w')
 case atStart => exact ⟨(0),(by first|rfl|(simp;done)|(simp [*];done)),H',⟨Nat.le_refl _⟩,by repeat (first|exact Drawn0.refl _|apply Drawn0.step)⟩
 case round =>
  clear H'
  try clear p2
  obtain ⟨x5_1,rfl,HA,HK1,⟨m1,rfl⟩⟩ := hrel
  cases gk with
 |zero => exact absurd HA.out (by simp [codesearchlaw25_held.l0])
 |succ k1 =>
   have H := HA.out
   clear HA
   simp only [codesearchlaw25_held.l0] at H
   by_cases c3 : x5_1 < (l0.length : Int)
   ·rw [if_pos c3] at H
    have c3b0 : decide (x5_1 < (l0.length : Int)) = true := decide_eq_true c3
    clear c3
    by_cases c4 : 0 ≤ x5_1
    ·rw [if_pos c4] at H
     have c4b0 : decide (0 ≤ x5_1) = true := decide_eq_true c4
     clear c4
     by_cases c5 : ((rd_T45 l0 x5_1).f0).toList = a1.toList
     ·rw [if_pos c5] at H
      have c5b0 : (((rd_T45 l0 x5_1).f0).toList == a1.toList) = true := beq_iff_eq.mpr c5
      have c5b1 : (((rd_T45 l0 x5_1).f0).toList != a1.toList) = false := bne_eq_false_iff_eq.mpr c5
      clear c5
      obtain rfl := Option.some.inj H
      have p265 : 0 ≤ (x5_1 : Int) := of_decide_eq_true (by first|(with_reducible assumption)|assumption)
      have q265 : x5_1 < (l0.length : Int) := of_decide_eq_true (by first|(with_reducible assumption)|assumption)
      obtain ⟨ad265,e265,hx265_0,hx265_1⟩ := at_T45 HR0.out x5_1 p265 q265
      cases e265
      replace p265 := eq_true p265
      replace q265 := eq_true q265
      have p266 : 0 ≤ (x5_1 : Int) := of_decide_eq_true (by first|(with_reducible assumption)|assumption)
      have q266 : x5_1 < (l0.length : Int) := of_decide_eq_true (by first|(with_reducible assumption)|assumption)
      obtain ⟨ad266,e266,hx266_0,hx266_1⟩ := at_T45 HR0.out x5_1 p266 q266
      obtain rfl : ad265 = ad266 := (by injection e266)
      replace p266 := eq_true p266
      replace q266 := eq_true q266
      go_wp2
      go_ret
      exact ⟨by first|rfl|(simp;done)|(simp [*];done),by repeat (first|exact Drawn0.refl _|apply Drawn0.step)⟩
     ·rw [if_neg c5] at H
      have c5b0 : (((rd_T45 l0 x5_1).f0).toList == a1.toList) = false := beq_eq_false_iff_ne.mpr c5
      have c5b1 : (((rd_T45 l0 x5_1).f0).toList != a1.toList) = true := bne_iff_ne.mpr c5
      have H' := Aside0.mk H
      clear H
      have p265 : 0 ≤ (x5_1 : Int) := of_decide_eq_true (by first|(with_reducible assumption)|assumption)
      have q265 : x5_1 < (l0.length : Int) := of_decide_eq_true (by first|(with_reducible assumption)|assumption)
      obtain ⟨ad265,e265,hx265_0,hx265_1⟩ := at_T45 HR0.out x5_1 p265 q265
      cases e265
      replace p265 := eq_true p265
      replace q265 := eq_true q265
      go_wp2
      go_roundg k1
      case measure => have := HK1.out;omega
      case rel => exact ⟨(wrap64 (x5_1 + 1)),(by first|rfl|(simp;done)|(simp [*];done)),H',⟨by have := HK1.out;omega⟩,by repeat (first|exact Drawn0.refl _|apply Drawn0.step)⟩
    ·rw [if_neg c4] at H
     exact absurd H (by simp)
   ·rw [if_neg c3] at H
    have c3b0 : decide (x5_1 < (l0.length : Int)) = false := decide_eq_false c3
    clear c3
    obtain rfl := Option.some.inj H
    go_wp2
    go_ret
    exact ⟨by first|rfl|(simp;done)|(simp [*];done),by repeat (first|exact Drawn0.refl _|apply Drawn0.step)⟩

end Go.Proofs.YtpnhamfodjfacaaDoor.K
