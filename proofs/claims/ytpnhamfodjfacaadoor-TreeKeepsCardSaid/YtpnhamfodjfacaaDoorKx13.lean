-- Written by hp.py, a program of this session, over the kit's print of the translation. Not trusted: Lean checks it.
import Derived.Test.YtpnhamfodjfacaaDoorKx0
import Derived.Test.YtpnhamfodjfacaaDoorKx5
import Derived.Test.YtpnhamfodjfacaaDoorKx6
import Derived.Test.YtpnhamfodjfacaaDoorKx9
import Derived.Test.YtpnhamfodjfacaaDoorKx12
namespace Go.Proofs.YtpnhamfodjfacaaDoor.K
open Go.RowKit Go.Proofs.YtpnhamfodjfacaaDoorW.PrintWords Go.Proofs.YtpnhamfodjfacaaDoorW.PrintLast Go.Proofs.YtpnhamfodjfacaaDoorW.PrintMore
attribute [local go_sem] max2_int min2_int max_two min_two max_three min_three max_four min_four   -- for this text's walks alone
set_option linter.unusedVariables false
set_option linter.unusedSimpArgs false

/-! ### codesearchlaw25_TreeKeeps: function 10 -/
mutual
def codesearchlaw25_TreeKeeps.j0 : Nat → List (S45) → List (S47) → ByteArray → Bool → Option (Bool)
|0,_,_,_,_ => none
|k + 1,x0,x1,x2,x20 => if x20 = true then (some true) else ((tree_Apply.f k x0 x1).bind fun bt268 => (if bt268.2 = 0 then ((codesearchlaw25_held.f k x0 x2).bind fun t272 => (codesearchlaw25_TreeKeeps.l0 k x1 x2 bt268.1 t272 0)) else (some ((bt268.1.length : Int) == 0))))
def codesearchlaw25_TreeKeeps.l0 : Nat → List (S47) → ByteArray → List (S45) → Int → Int → Option (Bool)
|0,_,_,_,_,_ => none
|k + 1,x1,x2,x7,x9,x10 => if x10 < (x1.length : Int) then (if 0 ≤ x10 then (if ((rd_T47 x1 x10).f0).toList = x2.toList then (codesearchlaw25_TreeKeeps.l0 k x1 x2 x7 ((rd_T47 x1 x10).f1) (wrap64 (x10 + 1))) else (codesearchlaw25_TreeKeeps.l0 k x1 x2 x7 x9 (wrap64 (x10 + 1)))) else (none)) else ((codesearchlaw25_held.f k x7 x2).bind fun t275 => (if t275 = x9 then ((tree_Right.f k x7).bind fun t276 => (some (t276 == 0))) else (some false)))
end
def codesearchlaw25_TreeKeeps.f (k : Nat) (l0 : List (S45)) (l1 : List (S47)) (a2 : ByteArray) : Option (Bool) := (codesearchlaw25_alive.f k).bind fun t267 => (if t267 = true then (if (l0.length : Int) > 60 then (codesearchlaw25_TreeKeeps.j0 k l0 l1 a2 true) else (codesearchlaw25_TreeKeeps.j0 k l0 l1 a2 (decide ((l1.length : Int) > 40)))) else (some false))
theorem codesearchlaw25_TreeKeeps.mono_l : ∀ k, (∀ y0 y1 y2 y3, LeO (codesearchlaw25_TreeKeeps.j0 k y0 y1 y2 y3) (codesearchlaw25_TreeKeeps.j0 (k + 1) y0 y1 y2 y3)) ∧ (∀ y0 y1 y2 y3 y4, LeO (codesearchlaw25_TreeKeeps.l0 k y0 y1 y2 y3 y4) (codesearchlaw25_TreeKeeps.l0 (k + 1) y0 y1 y2 y3 y4))
|0 => ⟨fun _ _ _ _ r h => by simp [codesearchlaw25_TreeKeeps.j0] at h,fun _ _ _ _ _ r h => by simp [codesearchlaw25_TreeKeeps.l0] at h⟩
|k + 1 => by
  obtain ⟨ih0,ih1⟩ := codesearchlaw25_TreeKeeps.mono_l k
  refine ⟨?_,?_⟩
  ·intro y0 y1 y2 y3
   unfold codesearchlaw25_TreeKeeps.j0
   repeat' first
  |(with_reducible exact ih0 _ _ _ _)
  |(with_reducible exact ih1 _ _ _ _ _)
  |(with_reducible exact codesearchlaw25_alive.mono _)
  |(with_reducible exact codesearchlaw25_held.mono _ _ _)
  |(with_reducible exact tree_Apply.mono _ _ _)
  |(with_reducible exact tree_Right.mono _ _)
  |(with_reducible exact LeO.refl _)
  |(with_reducible exact LeO.none _)
  |(with_reducible refine LeO.ite ?_ ?_)
  |(with_reducible refine LeO.bind ?_ (fun _ => ?_))
  |exact ih0 _ _ _ _
  |exact ih1 _ _ _ _ _
  |exact codesearchlaw25_alive.mono _
  |exact codesearchlaw25_held.mono _ _ _
  |exact tree_Apply.mono _ _ _
  |exact tree_Right.mono _ _
  |exact LeO.none _
  |refine LeO.ite ?_ ?_
  |refine LeO.bind ?_ (fun _ => ?_)
  ·intro y0 y1 y2 y3 y4
   unfold codesearchlaw25_TreeKeeps.l0
   repeat' first
  |(with_reducible exact ih0 _ _ _ _)
  |(with_reducible exact ih1 _ _ _ _ _)
  |(with_reducible exact codesearchlaw25_alive.mono _)
  |(with_reducible exact codesearchlaw25_held.mono _ _ _)
  |(with_reducible exact tree_Apply.mono _ _ _)
  |(with_reducible exact tree_Right.mono _ _)
  |(with_reducible exact LeO.refl _)
  |(with_reducible exact LeO.none _)
  |(with_reducible refine LeO.ite ?_ ?_)
  |(with_reducible refine LeO.bind ?_ (fun _ => ?_))
  |exact ih0 _ _ _ _
  |exact ih1 _ _ _ _ _
  |exact codesearchlaw25_alive.mono _
  |exact codesearchlaw25_held.mono _ _ _
  |exact tree_Apply.mono _ _ _
  |exact tree_Right.mono _ _
  |exact LeO.none _
  |refine LeO.ite ?_ ?_
  |refine LeO.bind ?_ (fun _ => ?_)
theorem codesearchlaw25_TreeKeeps.mono : ∀ a0 a1 a2 k, LeO (codesearchlaw25_TreeKeeps.f k a0 a1 a2) (codesearchlaw25_TreeKeeps.f (k + 1) a0 a1 a2) := by
 intro a0 a1 a2 k
 obtain ⟨ih0,ih1⟩ := codesearchlaw25_TreeKeeps.mono_l k
 unfold codesearchlaw25_TreeKeeps.f
 repeat' first
  |(with_reducible exact ih0 _ _ _ _)
  |(with_reducible exact ih1 _ _ _ _ _)
  |(with_reducible exact codesearchlaw25_alive.mono _)
  |(with_reducible exact codesearchlaw25_held.mono _ _ _)
  |(with_reducible exact tree_Apply.mono _ _ _)
  |(with_reducible exact tree_Right.mono _ _)
  |(with_reducible exact LeO.refl _)
  |(with_reducible exact LeO.none _)
  |(with_reducible refine LeO.ite ?_ ?_)
  |(with_reducible refine LeO.bind ?_ (fun _ => ?_))
  |exact ih0 _ _ _ _
  |exact ih1 _ _ _ _ _
  |exact codesearchlaw25_alive.mono _
  |exact codesearchlaw25_held.mono _ _ _
  |exact tree_Apply.mono _ _ _
  |exact tree_Right.mono _ _
  |exact LeO.none _
  |refine LeO.ite ?_ ?_
  |refine LeO.bind ?_ (fun _ => ?_)
set_option maxHeartbeats 4000000 in
set_option maxRecDepth 100000 in
theorem codesearchlaw25_TreeKeeps.calls (k : Nat) (A0 : Option Addr) (c0 : Nat) (l0 : List (S45)) (A1 : Option Addr) (c1 : Nat) (l1 : List (S47)) (a2 : ByteArray) (r : Bool) (w : World) (hr0 : Kd.C k45 w A0 l0.length l0) (hc0 : l0.length ≤ c0) (hr1 : Kd.C k47 w A1 l1.length l1) (hc1 : l1.length ≤ c1) (h : codesearchlaw25_TreeKeeps.f k l0 l1 a2 = some r) :
  Calls Tryd.prog 10 #[.slice A0 l0.length c0,.slice A1 l1.length c1,.string a2] w fun e w' => e = .returned (.bool r) ∧ Below w.heap.size w w' := by
 have HR0 := Aside0.mk hr0
 have HC0 := Aside0.mk hc0
 clear hr0 hc0
 have HR1 := Aside0.mk hr1
 have HC1 := Aside0.mk hc1
 clear hr1 hc1
 have HB := Aside0.mk (Below.refl w.heap.size w)
 have H : ((codesearchlaw25_alive.f k).bind fun t267 => (if t267 = true then (if (l0.length : Int) > 60 then (codesearchlaw25_TreeKeeps.j0 k l0 l1 a2 true) else (codesearchlaw25_TreeKeeps.j0 k l0 l1 a2 (decide ((l1.length : Int) > 40)))) else (some false))) = some r := h
 clear h
 replace H := Option.bind_eq_some_iff.mp H
 obtain ⟨t267,A40,H⟩ := H
 replace H : (if t267 = true then (if (l0.length : Int) > 60 then (codesearchlaw25_TreeKeeps.j0 k l0 l1 a2 true) else (codesearchlaw25_TreeKeeps.j0 k l0 l1 a2 (decide ((l1.length : Int) > 40)))) else (some false)) = some r := H
 have A4 := Aside0.mk A40
 clear A40
 by_cases c5 : t267 = true
 ·subst c5
  have H1 : (if (l0.length : Int) > 60 then (codesearchlaw25_TreeKeeps.j0 k l0 l1 a2 true) else (codesearchlaw25_TreeKeeps.j0 k l0 l1 a2 (decide ((l1.length : Int) > 40)))) = some r := by rw [if_pos rfl] at H;exact H
  clear H
  have H := H1
  clear H1
  have HC6 := Aside0.mk H
  clear H
  go_enter Tryd.func10,Tryd.ntmps10
  go_upto_region 3 with (first|((with_reducible refine gate_callee (f := 11) rfl ?_);refine goesL_ (some 11) rfl rfl Tryd.func11 (by kernel_rfl) rfl #[] rfl (by (try simp only [List.map_toArray,List.map_cons,List.map_nil]);first|done|rfl|(simp only [List.length_drop,List.length_take];rfl)) ?_;(with_reducible refine (codesearchlaw25_alive.calls k  true _ A4.out).mono ?_);rintro e w7 ⟨rfl,hb⟩;refine ⟨_,rfl,?_⟩;have n0_ := Aside0.mk (below_step (bM HB.out) hb);clear HB;have HB := n0_;clear n0_;(try clear hb);(try clear hb2);(try clear hk);(try clear hi)))
  (try simp only [Act.put,List.setIfInBounds_toArray,List.set_cons_zero,List.set_cons_succ])
  go_cut [20] (fun v20 wc => ∃ (kq : Nat) (x20_5 : Bool),v20 = .bool x20_5 ∧ Aside0 (codesearchlaw25_TreeKeeps.j0 kq l0 l1 a2 x20_5 = some r) ∧ Aside0 (kq ≤ k) ∧ Aside0 (Below w.heap.size w wc))
  case first =>
   have H := HC6.out
   clear HC6
   by_cases c8 : (l0.length : Int) > 60
   ·rw [if_pos c8] at H
    have c8b0 : decide (60 < (l0.length : Int)) = true := decide_eq_true c8
    have c8b1 : decide (60 < l0.length) = true := decide_eq_true (by omega)
    clear c8
    (first|rw [c8b0]|(simp only [i64_w,i32_w];rw [c8b0])|rw [c8b1]|skip)
    have H' := Aside0.mk H
    clear H
    go_wp2
    go_meet
    case rel => exact ⟨_,(true),(by first|rfl|(simp;done)|(simp [*];done)),H',⟨by first|omega|exact Nat.le_refl _⟩,⟨bM HB.out⟩⟩
   ·rw [if_neg c8] at H
    have c8b0 : decide (60 < (l0.length : Int)) = false := decide_eq_false c8
    have c8b1 : decide (60 < l0.length) = false := decide_eq_false (by omega)
    clear c8
    (first|rw [c8b0]|(simp only [i64_w,i32_w];rw [c8b0])|rw [c8b1]|skip)
    have H' := Aside0.mk H
    clear H
    go_wp2
    go_meet
    case rel => exact ⟨_,(decide ((l1.length : Int) > 40)),(by first|rfl|(simp;done)|(simp [*];done)),H',⟨by first|omega|exact Nat.le_refl _⟩,⟨bM HB.out⟩⟩
  case rest =>
   clear HC6
   try clear c1
   try clear p2
   try clear c5
   try clear c8
   try clear c8b0
   try clear c8b1
   obtain ⟨kq,x20_5,rfl,HA,HJ5,HB⟩ := hcut
   cases kq with
  |zero => exact absurd HA.out (by simp [codesearchlaw25_TreeKeeps.j0])
  |succ kj5 =>
    have H := HA.out
    clear HA
    simp only [codesearchlaw25_TreeKeeps.j0] at H
    by_cases c9 : x20_5 = true
    ·subst c9
     have H1 : (some true) = some r := by rw [if_pos rfl] at H;exact H
     clear H
     have H := H1
     clear H1
     obtain rfl := Option.some.inj H
     go_wp2
     go_ret
     exact ⟨by first|rfl|(simp [errW_none,errW_some] <;> rfl)|(simp [*,errW_none,errW_some] <;> rfl),bM HB.out⟩
    ·replace c9 := Bool.eq_false_iff.mpr c9
     subst c9
     have H1 : ((tree_Apply.f kj5 l0 l1).bind fun bt268 => (if bt268.2 = 0 then ((codesearchlaw25_held.f kj5 l0 a2).bind fun t272 => (codesearchlaw25_TreeKeeps.l0 kj5 l1 a2 bt268.1 t272 0)) else (some ((bt268.1.length : Int) == 0)))) = some r := by rw [if_neg (show ¬ (false = true) by decide)] at H;exact H
     clear H
     have H := H1
     clear H1
     replace H := Option.bind_eq_some_iff.mp H
     obtain ⟨⟨t268,t269⟩,A100,H⟩ := H
     replace H : (if t269 = 0 then ((codesearchlaw25_held.f kj5 l0 a2).bind fun t272 => (codesearchlaw25_TreeKeeps.l0 kj5 l1 a2 t268 t272 0)) else (some ((t268.length : Int) == 0))) = some r := H
     have A10 := Aside0.mk A100
     clear A100
     by_cases c11 : t269 = 0
     ·rw [if_pos c11] at H
      have c11b0 : (t269 == 0) = true := beq_iff_eq.mpr c11
      have c11b1 : (t269 != 0) = false := bne_eq_false_iff_eq.mpr c11
      clear c11
      replace H := Option.bind_eq_some_iff.mp H
      obtain ⟨t272,A120,H⟩ := H
      replace H : (codesearchlaw25_TreeKeeps.l0 kj5 l1 a2 t268 t272 0) = some r := H
      have A12 := Aside0.mk A120
      clear A120
      have H' := Aside0.mk H
      clear H
      go_wp2_with (first|((with_reducible refine gate_callee (f := 16) rfl ?_);refine goesL_ (some 24) rfl rfl Tryd.func16 (by kernel_rfl) rfl #[.slice A0 l0.length c0,.slice A1 l1.length c1] rfl (by (try simp only [List.map_toArray,List.map_cons,List.map_nil]);first|done|rfl|(simp only [List.length_drop,List.length_take];rfl)) ?_;(with_reducible refine (tree_Apply.calls kj5 _ _ l0 _ _ l1 t268 t269 _ ?side1 ?side2 ?side3 ?side4 A10.out).mono ?_);(case side1 => exact cM (Kd.C_below HR0.out HB.out));(case side2 => exact HC0.out);(case side3 => exact cM (Kd.C_below HR1.out HB.out));(case side4 => exact HC1.out);rintro e w13 ⟨v270,rfl,ho0,hb⟩;refine ⟨_,rfl,?_⟩;have n0_ := Aside0.mk (Kd.R_lower ho0 (below_size (bM HB.out)));have n1_ := Aside0.mk (below_step (bM HB.out) hb);clear HB;have HO271 := n0_;have HB := n1_;clear n0_ n1_;(try clear hb);(try clear hb2);(try clear hk);(try clear hi);(try clear ho0))|((with_reducible refine gate_callee (f := 30) rfl ?_);refine goesL_ (some 34) rfl rfl Tryd.func30 (by kernel_rfl) rfl #[.slice A0 l0.length c0,.string a2] rfl (by (try simp only [List.map_toArray,List.map_cons,List.map_nil]);first|done|rfl|(simp only [List.length_drop,List.length_take];rfl)) ?_;(with_reducible refine (codesearchlaw25_held.calls kj5 _ _ l0 a2 t272 _ ?side1 ?side2 A12.out).mono ?_);(case side1 => exact cM (Kd.C_below HR0.out HB.out));(case side2 => exact HC0.out);rintro e w' ⟨rfl,⟨nd,rfl⟩⟩;refine ⟨_,rfl,?_⟩))
      go_loopg [9,10] kj5 (fun kq v9 v10 w' => ∃ (x9_2 : Int) (x10_2 : Int),v9 = .int .i64 x9_2 ∧ v10 = .int .i64 x10_2 ∧ Aside0 (codesearchlaw25_TreeKeeps.l0 kq l1 a2 t268 x9_2 x10_2 = some r) ∧ Aside0 (kq ≤ kj5) ∧ Aside0 (Kd.R k45 45 w' w.heap.size (fun _ => True) v270 t268) ∧ Aside0 (Below w.heap.size w w'))
      case atStart => exact ⟨(t272),(0),(by first|rfl|(simp;done)|(simp [*];done)),(by first|rfl|(simp;done)|(simp [*];done)),H',⟨Nat.le_refl _⟩,⟨rM HO271.out⟩,⟨bM HB.out⟩⟩
      case round =>
       clear H'
       try clear c1
       try clear p2
       try clear c3
       try clear c5
       try clear c8
       try clear c8b0
       try clear c8b1
       try clear c9
       try clear c10
       try clear c11
       try clear c11b0
       try clear c11b1
       try clear p2
       obtain ⟨x9_2,x10_2,rfl,rfl,HA,HK2,HO_7,HB⟩ := hrel
       cases gk with
      |zero => exact absurd HA.out (by simp [codesearchlaw25_TreeKeeps.l0])
      |succ k2 =>
        have H := HA.out
        clear HA
        simp only [codesearchlaw25_TreeKeeps.l0] at H
        by_cases c14 : x10_2 < (l1.length : Int)
        ·rw [if_pos c14] at H
         have c14b0 : decide (x10_2 < (l1.length : Int)) = true := decide_eq_true c14
         clear c14
         by_cases c15 : 0 ≤ x10_2
         ·rw [if_pos c15] at H
          have c15b0 : decide (0 ≤ x10_2) = true := decide_eq_true c15
          clear c15
          by_cases c16 : ((rd_T47 l1 x10_2).f0).toList = a2.toList
          ·rw [if_pos c16] at H
           have c16b0 : (((rd_T47 l1 x10_2).f0).toList == a2.toList) = true := beq_iff_eq.mpr c16
           have c16b1 : (((rd_T47 l1 x10_2).f0).toList != a2.toList) = false := bne_eq_false_iff_eq.mpr c16
           clear c16
           have H' := Aside0.mk H
           clear H
           have p273 : 0 ≤ (x10_2 : Int) := of_decide_eq_true (by first|(with_reducible assumption)|assumption)
           have q273 : x10_2 < (l1.length : Int) := of_decide_eq_true (by first|(with_reducible assumption)|assumption)
           obtain ⟨ad273,e273,hx273_0,hx273_1⟩ := at_T47 HR1.out x10_2 p273 q273
           cases e273
           replace hx273_0 := (HB.out.cell (World.block_lt_of_cell? w _ hx273_0)).trans hx273_0
           replace hx273_1 := (HB.out.cell (World.block_lt_of_cell? w _ hx273_1)).trans hx273_1
           replace p273 := eq_true p273
           replace q273 := eq_true q273
           have p274 : 0 ≤ (x10_2 : Int) := of_decide_eq_true (by first|(with_reducible assumption)|assumption)
           have q274 : x10_2 < (l1.length : Int) := of_decide_eq_true (by first|(with_reducible assumption)|assumption)
           obtain ⟨ad274,e274,hx274_0,hx274_1⟩ := at_T47 HR1.out x10_2 p274 q274
           obtain rfl : ad273 = ad274 := (by injection e274)
           replace hx274_0 := (HB.out.cell (World.block_lt_of_cell? w _ hx274_0)).trans hx274_0
           replace hx274_1 := (HB.out.cell (World.block_lt_of_cell? w _ hx274_1)).trans hx274_1
           replace p274 := eq_true p274
           replace q274 := eq_true q274
           go_wp2
           go_roundg k2
           case measure => have := HJ5.out;have := HK2.out;omega
           case rel => exact ⟨((rd_T47 l1 x10_2).f1),(wrap64 (x10_2 + 1)),(by first|rfl|(simp;done)|(simp [*];done)),(by first|rfl|(simp;done)|(simp [*];done)),H',⟨by have := HJ5.out;have := HK2.out;omega⟩,⟨rM HO_7.out⟩,⟨bM HB.out⟩⟩
          ·rw [if_neg c16] at H
           have c16b0 : (((rd_T47 l1 x10_2).f0).toList == a2.toList) = false := beq_eq_false_iff_ne.mpr c16
           have c16b1 : (((rd_T47 l1 x10_2).f0).toList != a2.toList) = true := bne_iff_ne.mpr c16
           have H' := Aside0.mk H
           clear H
           have p273 : 0 ≤ (x10_2 : Int) := of_decide_eq_true (by first|(with_reducible assumption)|assumption)
           have q273 : x10_2 < (l1.length : Int) := of_decide_eq_true (by first|(with_reducible assumption)|assumption)
           obtain ⟨ad273,e273,hx273_0,hx273_1⟩ := at_T47 HR1.out x10_2 p273 q273
           cases e273
           replace hx273_0 := (HB.out.cell (World.block_lt_of_cell? w _ hx273_0)).trans hx273_0
           replace hx273_1 := (HB.out.cell (World.block_lt_of_cell? w _ hx273_1)).trans hx273_1
           replace p273 := eq_true p273
           replace q273 := eq_true q273
           go_wp2
           go_roundg k2
           case measure => have := HJ5.out;have := HK2.out;omega
           case rel => exact ⟨(x9_2),(wrap64 (x10_2 + 1)),(by first|rfl|(simp;done)|(simp [*];done)),(by first|rfl|(simp;done)|(simp [*];done)),H',⟨by have := HJ5.out;have := HK2.out;omega⟩,⟨rM HO_7.out⟩,⟨bM HB.out⟩⟩
         ·rw [if_neg c15] at H
          exact absurd H (by simp)
        ·rw [if_neg c14] at H
         have c14b0 : decide (x10_2 < (l1.length : Int)) = false := decide_eq_false c14
         clear c14
         replace H := Option.bind_eq_some_iff.mp H
         obtain ⟨t275,A170,H⟩ := H
         replace H : (if t275 = x9_2 then ((tree_Right.f k2 t268).bind fun t276 => (some (t276 == 0))) else (some false)) = some r := H
         have A17 := Aside0.mk A170
         clear A170
         by_cases c18 : t275 = x9_2
         ·rw [if_pos c18] at H
          have c18b0 : (t275 == x9_2) = true := beq_iff_eq.mpr c18
          have c18b1 : (t275 != x9_2) = false := bne_eq_false_iff_eq.mpr c18
          clear c18
          replace H := Option.bind_eq_some_iff.mp H
          obtain ⟨t276,A190,H⟩ := H
          replace H : (some (t276 == 0)) = some r := H
          have A19 := Aside0.mk A190
          clear A190
          obtain rfl := Option.some.inj H
          obtain ⟨Ao20,co20,eo20⟩ := Kd.R_slice HO_7.out
          subst eo20
          go_wp2_with (first|((with_reducible refine gate_callee (f := 30) rfl ?_);refine goesL_ (some 55) rfl rfl Tryd.func30 (by kernel_rfl) rfl #[.slice Ao20 t268.length co20,.string a2] rfl (by (try simp only [List.map_toArray,List.map_cons,List.map_nil]);first|done|rfl|(simp only [List.length_drop,List.length_take];rfl)) ?_;(with_reducible refine (codesearchlaw25_held.calls k2 _ _ t268 a2 t275 _ ?side1 ?side2 A17.out).mono ?_);(case side1 => exact cM (Kd.R_reads' HO_7.out).2.2);(case side2 => exact (Kd.R_reads' HO_7.out).2.1);rintro e w' ⟨rfl,⟨nd,rfl⟩⟩;refine ⟨_,rfl,?_⟩)|(go_at_call 12;(with_reducible refine (tree_Right.calls k2 _ _ t268 t276 _ ?side1 ?side2 A19.out).mono ?_);(case side1 => exact cM (Kd.R_reads' HO_7.out).2.2);(case side2 => exact (Kd.R_reads' HO_7.out).2.1);rintro e w21 ⟨rfl,hb⟩;have n0_ := Aside0.mk (Kd.R_below (rM HO_7.out) hb);have n1_ := Aside0.mk (below_step (bM HB.out) hb);clear HO_7;clear HB;have HO_7 := n0_;have HB := n1_;clear n0_ n1_;(try clear hb);(try clear hb2);(try clear hk);(try clear hi)))
          go_ret
          exact ⟨by first|rfl|(simp [errW_none,errW_some] <;> rfl)|(simp [*,errW_none,errW_some] <;> rfl),bM HB.out⟩
         ·rw [if_neg c18] at H
          have c18b0 : (t275 == x9_2) = false := beq_eq_false_iff_ne.mpr c18
          have c18b1 : (t275 != x9_2) = true := bne_iff_ne.mpr c18
          obtain rfl := Option.some.inj H
          obtain ⟨Ao22,co22,eo22⟩ := Kd.R_slice HO_7.out
          subst eo22
          go_wp2_with (first|((with_reducible refine gate_callee (f := 30) rfl ?_);refine goesL_ (some 55) rfl rfl Tryd.func30 (by kernel_rfl) rfl #[.slice Ao22 t268.length co22,.string a2] rfl (by (try simp only [List.map_toArray,List.map_cons,List.map_nil]);first|done|rfl|(simp only [List.length_drop,List.length_take];rfl)) ?_;(with_reducible refine (codesearchlaw25_held.calls k2 _ _ t268 a2 t275 _ ?side1 ?side2 A17.out).mono ?_);(case side1 => exact cM (Kd.R_reads' HO_7.out).2.2);(case side2 => exact (Kd.R_reads' HO_7.out).2.1);rintro e w' ⟨rfl,⟨nd,rfl⟩⟩;refine ⟨_,rfl,?_⟩))
          go_ret
          exact ⟨by first|rfl|(simp [errW_none,errW_some] <;> rfl)|(simp [*,errW_none,errW_some] <;> rfl),bM HB.out⟩
     ·rw [if_neg c11] at H
      have c11b0 : (t269 == 0) = false := beq_eq_false_iff_ne.mpr c11
      have c11b1 : (t269 != 0) = true := bne_iff_ne.mpr c11
      obtain rfl := Option.some.inj H
      go_wp2_with (first|((with_reducible refine gate_callee (f := 16) rfl ?_);refine goesL_ (some 24) rfl rfl Tryd.func16 (by kernel_rfl) rfl #[.slice A0 l0.length c0,.slice A1 l1.length c1] rfl (by (try simp only [List.map_toArray,List.map_cons,List.map_nil]);first|done|rfl|(simp only [List.length_drop,List.length_take];rfl)) ?_;(with_reducible refine (tree_Apply.calls kj5 _ _ l0 _ _ l1 t268 t269 _ ?side1 ?side2 ?side3 ?side4 A10.out).mono ?_);(case side1 => exact cM (Kd.C_below HR0.out HB.out));(case side2 => exact HC0.out);(case side3 => exact cM (Kd.C_below HR1.out HB.out));(case side4 => exact HC1.out);rintro e w23 ⟨v270,rfl,ho0,hb⟩;refine ⟨_,rfl,?_⟩;have n0_ := Aside0.mk (Kd.R_lower ho0 (below_size (bM HB.out)));have n1_ := Aside0.mk (below_step (bM HB.out) hb);clear HB;have HO271 := n0_;have HB := n1_;clear n0_ n1_;(try clear hb);(try clear hb2);(try clear hk);(try clear hi);(try clear ho0);obtain ⟨Ao24,co24,eo24⟩ := Kd.R_slice HO271.out;subst eo24))
      go_ret
      exact ⟨by first|rfl|(simp [errW_none,errW_some] <;> rfl)|(simp [*,errW_none,errW_some] <;> rfl),bM HB.out⟩
 ·replace c5 := Bool.eq_false_iff.mpr c5
  subst c5
  have H1 : (some false) = some r := by rw [if_neg (show ¬ (false = true) by decide)] at H;exact H
  clear H
  have H := H1
  clear H1
  obtain rfl := Option.some.inj H
  go_enter Tryd.func10,Tryd.ntmps10
  go_wp2_with (first|((with_reducible refine gate_callee (f := 11) rfl ?_);refine goesL_ (some 11) rfl rfl Tryd.func11 (by kernel_rfl) rfl #[] rfl (by (try simp only [List.map_toArray,List.map_cons,List.map_nil]);first|done|rfl|(simp only [List.length_drop,List.length_take];rfl)) ?_;(with_reducible refine (codesearchlaw25_alive.calls k  false _ A4.out).mono ?_);rintro e w25 ⟨rfl,hb⟩;refine ⟨_,rfl,?_⟩;have n0_ := Aside0.mk (below_step (bM HB.out) hb);clear HB;have HB := n0_;clear n0_;(try clear hb);(try clear hb2);(try clear hk);(try clear hi)))
  go_ret
  exact ⟨by first|rfl|(simp [errW_none,errW_some] <;> rfl)|(simp [*,errW_none,errW_some] <;> rfl),bM HB.out⟩

end Go.Proofs.YtpnhamfodjfacaaDoor.K
