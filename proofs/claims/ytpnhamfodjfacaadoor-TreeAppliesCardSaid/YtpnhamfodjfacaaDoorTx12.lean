-- Written by hp.py, a program of this session, over the kit's print of the translation. Not trusted: Lean checks it.
import Derived.Test.YtpnhamfodjfacaaDoorTx0
import Derived.Test.YtpnhamfodjfacaaDoorTx5
import Derived.Test.YtpnhamfodjfacaaDoorTx9
import Derived.Test.YtpnhamfodjfacaaDoorTx11
namespace Go.Proofs.YtpnhamfodjfacaaDoor.T
open Go.RowKit Go.Proofs.YtpnhamfodjfacaaDoorW.PrintWords Go.Proofs.YtpnhamfodjfacaaDoorW.PrintLast Go.Proofs.YtpnhamfodjfacaaDoorW.PrintMore
attribute [local go_sem] max2_int min2_int max_two min_two max_three min_three max_four min_four   -- for this text's walks alone
set_option linter.unusedVariables false
set_option linter.unusedSimpArgs false

/-! ### codesearchlaw25_TreeRights: function 3 -/
def codesearchlaw25_TreeRights.f (k : Nat) (l0 : List (S45)) (a1 : ByteArray) : Option (Bool) := (codesearchlaw25_alive.f k).bind fun t249 => (if t249 = true then (if (l0.length : Int) > 60 then (some true) else ((tree_Right.f k l0).bind fun t250 => ((codesearchref25_Right.f k l0).bind fun t251 => (if t250 = t251 then ((codesearchref25_Right.f k l0).bind fun t252 => (if t252 = 0 then ((tree_Get.f k l0 a1).bind fun bt253 => ((codesearchref25_Get.f k l0 a1).bind fun bt255 => (if bt253.1 = bt255.1 then (some (bt253.2 == bt255.2)) else (some false)))) else (some true))) else (some false))))) else (some false))
theorem codesearchlaw25_TreeRights.mono : ∀ a0 a1 k, LeO (codesearchlaw25_TreeRights.f k a0 a1) (codesearchlaw25_TreeRights.f (k + 1) a0 a1) := by
 intro a0 a1 k
 unfold codesearchlaw25_TreeRights.f
 repeat' first
  |(with_reducible exact codesearchlaw25_alive.mono _)
  |(with_reducible exact codesearchref25_Get.mono _ _ _)
  |(with_reducible exact codesearchref25_Right.mono _ _)
  |(with_reducible exact tree_Get.mono _ _ _)
  |(with_reducible exact tree_Right.mono _ _)
  |(with_reducible exact LeO.refl _)
  |(with_reducible exact LeO.none _)
  |(with_reducible refine LeO.ite ?_ ?_)
  |(with_reducible refine LeO.bind ?_ (fun _ => ?_))
  |exact codesearchlaw25_alive.mono _
  |exact codesearchref25_Get.mono _ _ _
  |exact codesearchref25_Right.mono _ _
  |exact tree_Get.mono _ _ _
  |exact tree_Right.mono _ _
  |exact LeO.none _
  |refine LeO.ite ?_ ?_
  |refine LeO.bind ?_ (fun _ => ?_)
set_option maxHeartbeats 4000000 in
set_option maxRecDepth 100000 in
theorem codesearchlaw25_TreeRights.calls (k : Nat) (A0 : Option Addr) (c0 : Nat) (l0 : List (S45)) (a1 : ByteArray) (r : Bool) (w : World) (hr0 : Kd.C k45 w A0 l0.length l0) (hc0 : l0.length ≤ c0) (h : codesearchlaw25_TreeRights.f k l0 a1 = some r) :
  Calls Tryd.prog 3 #[.slice A0 l0.length c0,.string a1] w fun e w' => e = .returned (.bool r) ∧ Below w.heap.size w w' := by
 have HR0 := Aside0.mk hr0
 have HC0 := Aside0.mk hc0
 clear hr0 hc0
 have HB := Aside0.mk (Below.refl w.heap.size w)
 have H : ((codesearchlaw25_alive.f k).bind fun t249 => (if t249 = true then (if (l0.length : Int) > 60 then (some true) else ((tree_Right.f k l0).bind fun t250 => ((codesearchref25_Right.f k l0).bind fun t251 => (if t250 = t251 then ((codesearchref25_Right.f k l0).bind fun t252 => (if t252 = 0 then ((tree_Get.f k l0 a1).bind fun bt253 => ((codesearchref25_Get.f k l0 a1).bind fun bt255 => (if bt253.1 = bt255.1 then (some (bt253.2 == bt255.2)) else (some false)))) else (some true))) else (some false))))) else (some false))) = some r := h
 clear h
 replace H := Option.bind_eq_some_iff.mp H
 obtain ⟨t249,A30,H⟩ := H
 replace H : (if t249 = true then (if (l0.length : Int) > 60 then (some true) else ((tree_Right.f k l0).bind fun t250 => ((codesearchref25_Right.f k l0).bind fun t251 => (if t250 = t251 then ((codesearchref25_Right.f k l0).bind fun t252 => (if t252 = 0 then ((tree_Get.f k l0 a1).bind fun bt253 => ((codesearchref25_Get.f k l0 a1).bind fun bt255 => (if bt253.1 = bt255.1 then (some (bt253.2 == bt255.2)) else (some false)))) else (some true))) else (some false))))) else (some false)) = some r := H
 have A3 := Aside0.mk A30
 clear A30
 by_cases c4 : t249 = true
 ·subst c4
  have H1 : (if (l0.length : Int) > 60 then (some true) else ((tree_Right.f k l0).bind fun t250 => ((codesearchref25_Right.f k l0).bind fun t251 => (if t250 = t251 then ((codesearchref25_Right.f k l0).bind fun t252 => (if t252 = 0 then ((tree_Get.f k l0 a1).bind fun bt253 => ((codesearchref25_Get.f k l0 a1).bind fun bt255 => (if bt253.1 = bt255.1 then (some (bt253.2 == bt255.2)) else (some false)))) else (some true))) else (some false))))) = some r := by rw [if_pos rfl] at H;exact H
  clear H
  have H := H1
  clear H1
  by_cases c5 : (l0.length : Int) > 60
  ·rw [if_pos c5] at H
   have c5b0 : decide (60 < (l0.length : Int)) = true := decide_eq_true c5
   have c5b1 : decide (60 < l0.length) = true := decide_eq_true (by omega)
   clear c5
   obtain rfl := Option.some.inj H
   go_enter Tryd.func3,Tryd.ntmps3
   go_wp2_with (first|((with_reducible refine gate_callee (f := 11) rfl ?_);refine goesL_ (some 9) rfl rfl Tryd.func11 (by kernel_rfl) rfl #[] rfl (by (try simp only [List.map_toArray,List.map_cons,List.map_nil]);first|done|rfl|(simp only [List.length_drop,List.length_take];rfl)) ?_;(with_reducible refine (codesearchlaw25_alive.calls k  true _ A3.out).mono ?_);rintro e w6 ⟨rfl,hb⟩;refine ⟨_,rfl,?_⟩;have n0_ := Aside0.mk (below_step (bM HB.out) hb);clear HB;have HB := n0_;clear n0_;(try clear hb);(try clear hb2);(try clear hk);(try clear hi)))
   go_ret
   exact ⟨by first|rfl|(simp [errW_none,errW_some] <;> rfl)|(simp [*,errW_none,errW_some] <;> rfl),bM HB.out⟩
  ·rw [if_neg c5] at H
   have c5b0 : decide (60 < (l0.length : Int)) = false := decide_eq_false c5
   have c5b1 : decide (60 < l0.length) = false := decide_eq_false (by omega)
   clear c5
   replace H := Option.bind_eq_some_iff.mp H
   obtain ⟨t250,A70,H⟩ := H
   replace H : ((codesearchref25_Right.f k l0).bind fun t251 => (if t250 = t251 then ((codesearchref25_Right.f k l0).bind fun t252 => (if t252 = 0 then ((tree_Get.f k l0 a1).bind fun bt253 => ((codesearchref25_Get.f k l0 a1).bind fun bt255 => (if bt253.1 = bt255.1 then (some (bt253.2 == bt255.2)) else (some false)))) else (some true))) else (some false))) = some r := H
   have A7 := Aside0.mk A70
   clear A70
   replace H := Option.bind_eq_some_iff.mp H
   obtain ⟨t251,A80,H⟩ := H
   replace H : (if t250 = t251 then ((codesearchref25_Right.f k l0).bind fun t252 => (if t252 = 0 then ((tree_Get.f k l0 a1).bind fun bt253 => ((codesearchref25_Get.f k l0 a1).bind fun bt255 => (if bt253.1 = bt255.1 then (some (bt253.2 == bt255.2)) else (some false)))) else (some true))) else (some false)) = some r := H
   have A8 := Aside0.mk A80
   clear A80
   by_cases c9 : t250 = t251
   ·rw [if_pos c9] at H
    have c9b0 : (t250 == t251) = true := beq_iff_eq.mpr c9
    have c9b1 : (t250 != t251) = false := bne_eq_false_iff_eq.mpr c9
    clear c9
    replace H := Option.bind_eq_some_iff.mp H
    obtain ⟨t252,A100,H⟩ := H
    replace H : (if t252 = 0 then ((tree_Get.f k l0 a1).bind fun bt253 => ((codesearchref25_Get.f k l0 a1).bind fun bt255 => (if bt253.1 = bt255.1 then (some (bt253.2 == bt255.2)) else (some false)))) else (some true)) = some r := H
    have A10 := Aside0.mk A100
    clear A100
    by_cases c11 : t252 = 0
    ·rw [if_pos c11] at H
     have c11b0 : (t252 == 0) = true := beq_iff_eq.mpr c11
     have c11b1 : (t252 != 0) = false := bne_eq_false_iff_eq.mpr c11
     clear c11
     replace H := Option.bind_eq_some_iff.mp H
     obtain ⟨⟨t253,t254⟩,A120,H⟩ := H
     replace H : ((codesearchref25_Get.f k l0 a1).bind fun bt255 => (if t253 = bt255.1 then (some (t254 == bt255.2)) else (some false))) = some r := H
     have A12 := Aside0.mk A120
     clear A120
     replace H := Option.bind_eq_some_iff.mp H
     obtain ⟨⟨t255,t256⟩,A130,H⟩ := H
     replace H : (if t253 = t255 then (some (t254 == t256)) else (some false)) = some r := H
     have A13 := Aside0.mk A130
     clear A130
     by_cases c14 : t253 = t255
     ·rw [if_pos c14] at H
      have c14b0 : (t253 == t255) = true := beq_iff_eq.mpr c14
      have c14b1 : (t253 != t255) = false := bne_eq_false_iff_eq.mpr c14
      clear c14
      obtain rfl := Option.some.inj H
      go_enter Tryd.func3,Tryd.ntmps3
      go_wp2_with (first|((with_reducible refine gate_callee (f := 11) rfl ?_);refine goesL_ (some 9) rfl rfl Tryd.func11 (by kernel_rfl) rfl #[] rfl (by (try simp only [List.map_toArray,List.map_cons,List.map_nil]);first|done|rfl|(simp only [List.length_drop,List.length_take];rfl)) ?_;(with_reducible refine (codesearchlaw25_alive.calls k  true _ A3.out).mono ?_);rintro e w15 ⟨rfl,hb⟩;refine ⟨_,rfl,?_⟩;have n0_ := Aside0.mk (below_step (bM HB.out) hb);clear HB;have HB := n0_;clear n0_;(try clear hb);(try clear hb2);(try clear hk);(try clear hi))|((with_reducible refine gate_callee (f := 12) rfl ?_);refine goesL_ (some 15) rfl rfl Tryd.func12 (by kernel_rfl) rfl #[.slice A0 l0.length c0] rfl (by (try simp only [List.map_toArray,List.map_cons,List.map_nil]);first|done|rfl|(simp only [List.length_drop,List.length_take];rfl)) ?_;(with_reducible refine (tree_Right.calls k _ _ l0 t250 _ ?side1 ?side2 A7.out).mono ?_);(case side1 => exact cM (Kd.C_below HR0.out HB.out));(case side2 => exact HC0.out);rintro e w16 ⟨rfl,hb⟩;refine ⟨_,rfl,?_⟩;have n0_ := Aside0.mk (below_step (bM HB.out) hb);clear HB;have HB := n0_;clear n0_;(try clear hb);(try clear hb2);(try clear hk);(try clear hi))|((with_reducible refine gate_callee (f := 13) rfl ?_);refine goesL_ (some 17) rfl rfl Tryd.func13 (by kernel_rfl) rfl #[.slice A0 l0.length c0] rfl (by (try simp only [List.map_toArray,List.map_cons,List.map_nil]);first|done|rfl|(simp only [List.length_drop,List.length_take];rfl)) ?_;(with_reducible refine (codesearchref25_Right.calls k _ _ l0 t251 _ ?side1 ?side2 A8.out).mono ?_);(case side1 => exact cM (Kd.C_below HR0.out HB.out));(case side2 => exact HC0.out);rintro e w' ⟨rfl,⟨nd,rfl⟩⟩;refine ⟨_,rfl,?_⟩)|((with_reducible refine gate_callee (f := 13) rfl ?_);refine goesL_ (some 20) rfl rfl Tryd.func13 (by kernel_rfl) rfl #[.slice A0 l0.length c0] rfl (by (try simp only [List.map_toArray,List.map_cons,List.map_nil]);first|done|rfl|(simp only [List.length_drop,List.length_take];rfl)) ?_;(with_reducible refine (codesearchref25_Right.calls k _ _ l0 t252 _ ?side1 ?side2 A10.out).mono ?_);(case side1 => repeat (first|exact (Kd.C_below HR0.out (bM HB.out))|(with_reducible refine Kd.C_alloc ?_ _)|(with_reducible refine Kd.C_drewN ?_ _)|(with_reducible refine Kd.C_drew ?_)));(case side2 => exact HC0.out);rintro e w' ⟨rfl,⟨nd,rfl⟩⟩;refine ⟨_,rfl,?_⟩)|((with_reducible refine gate_callee (f := 14) rfl ?_);refine goesL_ (some 25) rfl rfl Tryd.func14 (by kernel_rfl) rfl #[.slice A0 l0.length c0,.string a1] rfl (by (try simp only [List.map_toArray,List.map_cons,List.map_nil]);first|done|rfl|(simp only [List.length_drop,List.length_take];rfl)) ?_;(with_reducible refine (tree_Get.calls k _ _ l0 a1 t253 t254 _ ?side1 ?side2 A12.out).mono ?_);(case side1 => repeat (first|exact (Kd.C_below HR0.out (bM HB.out))|(with_reducible refine Kd.C_alloc ?_ _)|(with_reducible refine Kd.C_drewN ?_ _)|(with_reducible refine Kd.C_drew ?_)));(case side2 => exact HC0.out);rintro e w17 ⟨rfl,hb⟩;refine ⟨_,rfl,?_⟩;have n0_ := Aside0.mk (below_step (bM HB.out) hb);clear HB;have HB := n0_;clear n0_;(try clear hb);(try clear hb2);(try clear hk);(try clear hi))|((with_reducible refine gate_callee (f := 15) rfl ?_);refine goesL_ (some 31) rfl rfl Tryd.func15 (by kernel_rfl) rfl #[.slice A0 l0.length c0,.string a1] rfl (by (try simp only [List.map_toArray,List.map_cons,List.map_nil]);first|done|rfl|(simp only [List.length_drop,List.length_take];rfl)) ?_;(with_reducible refine (codesearchref25_Get.calls k _ _ l0 a1 t255 t256 _ ?side1 ?side2 A13.out).mono ?_);(case side1 => exact cM (Kd.C_below HR0.out HB.out));(case side2 => exact HC0.out);rintro e w' ⟨rfl,⟨nd,rfl⟩⟩;refine ⟨_,rfl,?_⟩))
      go_ret
      exact ⟨by first|rfl|(simp [errW_none,errW_some] <;> rfl)|(simp [*,errW_none,errW_some] <;> rfl),bM HB.out⟩
     ·rw [if_neg c14] at H
      have c14b0 : (t253 == t255) = false := beq_eq_false_iff_ne.mpr c14
      have c14b1 : (t253 != t255) = true := bne_iff_ne.mpr c14
      obtain rfl := Option.some.inj H
      go_enter Tryd.func3,Tryd.ntmps3
      go_wp2_with (first|((with_reducible refine gate_callee (f := 11) rfl ?_);refine goesL_ (some 9) rfl rfl Tryd.func11 (by kernel_rfl) rfl #[] rfl (by (try simp only [List.map_toArray,List.map_cons,List.map_nil]);first|done|rfl|(simp only [List.length_drop,List.length_take];rfl)) ?_;(with_reducible refine (codesearchlaw25_alive.calls k  true _ A3.out).mono ?_);rintro e w18 ⟨rfl,hb⟩;refine ⟨_,rfl,?_⟩;have n0_ := Aside0.mk (below_step (bM HB.out) hb);clear HB;have HB := n0_;clear n0_;(try clear hb);(try clear hb2);(try clear hk);(try clear hi))|((with_reducible refine gate_callee (f := 12) rfl ?_);refine goesL_ (some 15) rfl rfl Tryd.func12 (by kernel_rfl) rfl #[.slice A0 l0.length c0] rfl (by (try simp only [List.map_toArray,List.map_cons,List.map_nil]);first|done|rfl|(simp only [List.length_drop,List.length_take];rfl)) ?_;(with_reducible refine (tree_Right.calls k _ _ l0 t250 _ ?side1 ?side2 A7.out).mono ?_);(case side1 => exact cM (Kd.C_below HR0.out HB.out));(case side2 => exact HC0.out);rintro e w19 ⟨rfl,hb⟩;refine ⟨_,rfl,?_⟩;have n0_ := Aside0.mk (below_step (bM HB.out) hb);clear HB;have HB := n0_;clear n0_;(try clear hb);(try clear hb2);(try clear hk);(try clear hi))|((with_reducible refine gate_callee (f := 13) rfl ?_);refine goesL_ (some 17) rfl rfl Tryd.func13 (by kernel_rfl) rfl #[.slice A0 l0.length c0] rfl (by (try simp only [List.map_toArray,List.map_cons,List.map_nil]);first|done|rfl|(simp only [List.length_drop,List.length_take];rfl)) ?_;(with_reducible refine (codesearchref25_Right.calls k _ _ l0 t251 _ ?side1 ?side2 A8.out).mono ?_);(case side1 => exact cM (Kd.C_below HR0.out HB.out));(case side2 => exact HC0.out);rintro e w' ⟨rfl,⟨nd,rfl⟩⟩;refine ⟨_,rfl,?_⟩)|((with_reducible refine gate_callee (f := 13) rfl ?_);refine goesL_ (some 20) rfl rfl Tryd.func13 (by kernel_rfl) rfl #[.slice A0 l0.length c0] rfl (by (try simp only [List.map_toArray,List.map_cons,List.map_nil]);first|done|rfl|(simp only [List.length_drop,List.length_take];rfl)) ?_;(with_reducible refine (codesearchref25_Right.calls k _ _ l0 t252 _ ?side1 ?side2 A10.out).mono ?_);(case side1 => repeat (first|exact (Kd.C_below HR0.out (bM HB.out))|(with_reducible refine Kd.C_alloc ?_ _)|(with_reducible refine Kd.C_drewN ?_ _)|(with_reducible refine Kd.C_drew ?_)));(case side2 => exact HC0.out);rintro e w' ⟨rfl,⟨nd,rfl⟩⟩;refine ⟨_,rfl,?_⟩)|((with_reducible refine gate_callee (f := 14) rfl ?_);refine goesL_ (some 25) rfl rfl Tryd.func14 (by kernel_rfl) rfl #[.slice A0 l0.length c0,.string a1] rfl (by (try simp only [List.map_toArray,List.map_cons,List.map_nil]);first|done|rfl|(simp only [List.length_drop,List.length_take];rfl)) ?_;(with_reducible refine (tree_Get.calls k _ _ l0 a1 t253 t254 _ ?side1 ?side2 A12.out).mono ?_);(case side1 => repeat (first|exact (Kd.C_below HR0.out (bM HB.out))|(with_reducible refine Kd.C_alloc ?_ _)|(with_reducible refine Kd.C_drewN ?_ _)|(with_reducible refine Kd.C_drew ?_)));(case side2 => exact HC0.out);rintro e w20 ⟨rfl,hb⟩;refine ⟨_,rfl,?_⟩;have n0_ := Aside0.mk (below_step (bM HB.out) hb);clear HB;have HB := n0_;clear n0_;(try clear hb);(try clear hb2);(try clear hk);(try clear hi))|((with_reducible refine gate_callee (f := 15) rfl ?_);refine goesL_ (some 31) rfl rfl Tryd.func15 (by kernel_rfl) rfl #[.slice A0 l0.length c0,.string a1] rfl (by (try simp only [List.map_toArray,List.map_cons,List.map_nil]);first|done|rfl|(simp only [List.length_drop,List.length_take];rfl)) ?_;(with_reducible refine (codesearchref25_Get.calls k _ _ l0 a1 t255 t256 _ ?side1 ?side2 A13.out).mono ?_);(case side1 => exact cM (Kd.C_below HR0.out HB.out));(case side2 => exact HC0.out);rintro e w' ⟨rfl,⟨nd,rfl⟩⟩;refine ⟨_,rfl,?_⟩))
      go_ret
      exact ⟨by first|rfl|(simp [errW_none,errW_some] <;> rfl)|(simp [*,errW_none,errW_some] <;> rfl),bM HB.out⟩
    ·rw [if_neg c11] at H
     have c11b0 : (t252 == 0) = false := beq_eq_false_iff_ne.mpr c11
     have c11b1 : (t252 != 0) = true := bne_iff_ne.mpr c11
     obtain rfl := Option.some.inj H
     go_enter Tryd.func3,Tryd.ntmps3
     go_wp2_with (first|((with_reducible refine gate_callee (f := 11) rfl ?_);refine goesL_ (some 9) rfl rfl Tryd.func11 (by kernel_rfl) rfl #[] rfl (by (try simp only [List.map_toArray,List.map_cons,List.map_nil]);first|done|rfl|(simp only [List.length_drop,List.length_take];rfl)) ?_;(with_reducible refine (codesearchlaw25_alive.calls k  true _ A3.out).mono ?_);rintro e w21 ⟨rfl,hb⟩;refine ⟨_,rfl,?_⟩;have n0_ := Aside0.mk (below_step (bM HB.out) hb);clear HB;have HB := n0_;clear n0_;(try clear hb);(try clear hb2);(try clear hk);(try clear hi))|((with_reducible refine gate_callee (f := 12) rfl ?_);refine goesL_ (some 15) rfl rfl Tryd.func12 (by kernel_rfl) rfl #[.slice A0 l0.length c0] rfl (by (try simp only [List.map_toArray,List.map_cons,List.map_nil]);first|done|rfl|(simp only [List.length_drop,List.length_take];rfl)) ?_;(with_reducible refine (tree_Right.calls k _ _ l0 t250 _ ?side1 ?side2 A7.out).mono ?_);(case side1 => exact cM (Kd.C_below HR0.out HB.out));(case side2 => exact HC0.out);rintro e w22 ⟨rfl,hb⟩;refine ⟨_,rfl,?_⟩;have n0_ := Aside0.mk (below_step (bM HB.out) hb);clear HB;have HB := n0_;clear n0_;(try clear hb);(try clear hb2);(try clear hk);(try clear hi))|((with_reducible refine gate_callee (f := 13) rfl ?_);refine goesL_ (some 17) rfl rfl Tryd.func13 (by kernel_rfl) rfl #[.slice A0 l0.length c0] rfl (by (try simp only [List.map_toArray,List.map_cons,List.map_nil]);first|done|rfl|(simp only [List.length_drop,List.length_take];rfl)) ?_;(with_reducible refine (codesearchref25_Right.calls k _ _ l0 t251 _ ?side1 ?side2 A8.out).mono ?_);(case side1 => exact cM (Kd.C_below HR0.out HB.out));(case side2 => exact HC0.out);rintro e w' ⟨rfl,⟨nd,rfl⟩⟩;refine ⟨_,rfl,?_⟩)|((with_reducible refine gate_callee (f := 13) rfl ?_);refine goesL_ (some 20) rfl rfl Tryd.func13 (by kernel_rfl) rfl #[.slice A0 l0.length c0] rfl (by (try simp only [List.map_toArray,List.map_cons,List.map_nil]);first|done|rfl|(simp only [List.length_drop,List.length_take];rfl)) ?_;(with_reducible refine (codesearchref25_Right.calls k _ _ l0 t252 _ ?side1 ?side2 A10.out).mono ?_);(case side1 => repeat (first|exact (Kd.C_below HR0.out (bM HB.out))|(with_reducible refine Kd.C_alloc ?_ _)|(with_reducible refine Kd.C_drewN ?_ _)|(with_reducible refine Kd.C_drew ?_)));(case side2 => exact HC0.out);rintro e w' ⟨rfl,⟨nd,rfl⟩⟩;refine ⟨_,rfl,?_⟩))
     go_ret
     exact ⟨by first|rfl|(simp [errW_none,errW_some] <;> rfl)|(simp [*,errW_none,errW_some] <;> rfl),bM HB.out⟩
   ·rw [if_neg c9] at H
    have c9b0 : (t250 == t251) = false := beq_eq_false_iff_ne.mpr c9
    have c9b1 : (t250 != t251) = true := bne_iff_ne.mpr c9
    obtain rfl := Option.some.inj H
    go_enter Tryd.func3,Tryd.ntmps3
    go_wp2_with (first|((with_reducible refine gate_callee (f := 11) rfl ?_);refine goesL_ (some 9) rfl rfl Tryd.func11 (by kernel_rfl) rfl #[] rfl (by (try simp only [List.map_toArray,List.map_cons,List.map_nil]);first|done|rfl|(simp only [List.length_drop,List.length_take];rfl)) ?_;(with_reducible refine (codesearchlaw25_alive.calls k  true _ A3.out).mono ?_);rintro e w23 ⟨rfl,hb⟩;refine ⟨_,rfl,?_⟩;have n0_ := Aside0.mk (below_step (bM HB.out) hb);clear HB;have HB := n0_;clear n0_;(try clear hb);(try clear hb2);(try clear hk);(try clear hi))|((with_reducible refine gate_callee (f := 12) rfl ?_);refine goesL_ (some 15) rfl rfl Tryd.func12 (by kernel_rfl) rfl #[.slice A0 l0.length c0] rfl (by (try simp only [List.map_toArray,List.map_cons,List.map_nil]);first|done|rfl|(simp only [List.length_drop,List.length_take];rfl)) ?_;(with_reducible refine (tree_Right.calls k _ _ l0 t250 _ ?side1 ?side2 A7.out).mono ?_);(case side1 => exact cM (Kd.C_below HR0.out HB.out));(case side2 => exact HC0.out);rintro e w24 ⟨rfl,hb⟩;refine ⟨_,rfl,?_⟩;have n0_ := Aside0.mk (below_step (bM HB.out) hb);clear HB;have HB := n0_;clear n0_;(try clear hb);(try clear hb2);(try clear hk);(try clear hi))|((with_reducible refine gate_callee (f := 13) rfl ?_);refine goesL_ (some 17) rfl rfl Tryd.func13 (by kernel_rfl) rfl #[.slice A0 l0.length c0] rfl (by (try simp only [List.map_toArray,List.map_cons,List.map_nil]);first|done|rfl|(simp only [List.length_drop,List.length_take];rfl)) ?_;(with_reducible refine (codesearchref25_Right.calls k _ _ l0 t251 _ ?side1 ?side2 A8.out).mono ?_);(case side1 => exact cM (Kd.C_below HR0.out HB.out));(case side2 => exact HC0.out);rintro e w' ⟨rfl,⟨nd,rfl⟩⟩;refine ⟨_,rfl,?_⟩))
    go_ret
    exact ⟨by first|rfl|(simp [errW_none,errW_some] <;> rfl)|(simp [*,errW_none,errW_some] <;> rfl),bM HB.out⟩
 ·replace c4 := Bool.eq_false_iff.mpr c4
  subst c4
  have H1 : (some false) = some r := by rw [if_neg (show ¬ (false = true) by decide)] at H;exact H
  clear H
  have H := H1
  clear H1
  obtain rfl := Option.some.inj H
  go_enter Tryd.func3,Tryd.ntmps3
  go_wp2_with (first|((with_reducible refine gate_callee (f := 11) rfl ?_);refine goesL_ (some 9) rfl rfl Tryd.func11 (by kernel_rfl) rfl #[] rfl (by (try simp only [List.map_toArray,List.map_cons,List.map_nil]);first|done|rfl|(simp only [List.length_drop,List.length_take];rfl)) ?_;(with_reducible refine (codesearchlaw25_alive.calls k  false _ A3.out).mono ?_);rintro e w25 ⟨rfl,hb⟩;refine ⟨_,rfl,?_⟩;have n0_ := Aside0.mk (below_step (bM HB.out) hb);clear HB;have HB := n0_;clear n0_;(try clear hb);(try clear hb2);(try clear hk);(try clear hi)))
  go_ret
  exact ⟨by first|rfl|(simp [errW_none,errW_some] <;> rfl)|(simp [*,errW_none,errW_some] <;> rfl),bM HB.out⟩

/-! ### codesearchref25_there: function 38 -/
def codesearchref25_there.l0 : Nat → List (S45) → ByteArray → Int → Option (Bool)
|0,_,_,_ => none
|k + 1,x0,x1,x5 => if x5 < (x0.length : Int) then (if 0 ≤ x5 then (if ((rd_T45 x0 x5).f0).toList = x1.toList then (some true) else (codesearchref25_there.l0 k x0 x1 (wrap64 (x5 + 1)))) else (none)) else (some false)
def codesearchref25_there.f (k : Nat) (l0 : List (S45)) (a1 : ByteArray) : Option (Bool) := codesearchref25_there.l0 k l0 a1 0
theorem codesearchref25_there.mono_l : ∀ k, (∀ y0 y1 y2, LeO (codesearchref25_there.l0 k y0 y1 y2) (codesearchref25_there.l0 (k + 1) y0 y1 y2))
|0 => fun _ _ _ r h => by simp [codesearchref25_there.l0] at h
|k + 1 => by
  have ih0 := codesearchref25_there.mono_l k
  ·intro y0 y1 y2
   unfold codesearchref25_there.l0
   repeat' first
  |(with_reducible exact ih0 _ _ _)
  |(with_reducible exact LeO.refl _)
  |(with_reducible exact LeO.none _)
  |(with_reducible refine LeO.ite ?_ ?_)
  |(with_reducible refine LeO.bind ?_ (fun _ => ?_))
  |exact ih0 _ _ _
  |exact LeO.none _
  |refine LeO.ite ?_ ?_
  |refine LeO.bind ?_ (fun _ => ?_)
theorem codesearchref25_there.mono : ∀ a0 a1 k, LeO (codesearchref25_there.f k a0 a1) (codesearchref25_there.f (k + 1) a0 a1) := by
 intro a0 a1 k
 have ih0 := codesearchref25_there.mono_l k
 unfold codesearchref25_there.f
 repeat' first
  |(with_reducible exact ih0 _ _ _)
  |(with_reducible exact LeO.refl _)
  |(with_reducible exact LeO.none _)
  |(with_reducible refine LeO.ite ?_ ?_)
  |(with_reducible refine LeO.bind ?_ (fun _ => ?_))
  |exact ih0 _ _ _
  |exact LeO.none _
  |refine LeO.ite ?_ ?_
  |refine LeO.bind ?_ (fun _ => ?_)
set_option maxHeartbeats 4000000 in
set_option maxRecDepth 100000 in
theorem codesearchref25_there.calls (k : Nat) (A0 : Option Addr) (c0 : Nat) (l0 : List (S45)) (a1 : ByteArray) (r : Bool) (w : World) (hr0 : Kd.C k45 w A0 l0.length l0) (hc0 : l0.length ≤ c0) (h : codesearchref25_there.f k l0 a1 = some r) :
  Calls Tryd.prog 38 #[.slice A0 l0.length c0,.string a1] w fun e w' => e = .returned (.bool r) ∧ Drawn0 w w' := by
 have HR0 := Aside0.mk hr0
 have HC0 := Aside0.mk hc0
 clear hr0 hc0
 have H : (codesearchref25_there.l0 k l0 a1 0) = some r := h
 clear h
 have H' := Aside0.mk H
 clear H
 go_enter Tryd.func38,Tryd.ntmps38
 go_wp2
 go_loopg [5] k (fun kq v5 w' => ∃ (x5_1 : Int),v5 = .int .i64 x5_1 ∧ Aside0 (codesearchref25_there.l0 kq l0 a1 x5_1 = some r) ∧ Aside0 (kq ≤ k) ∧ Drawn0 w w')
 case atStart => exact ⟨(0),(by first|rfl|(simp;done)|(simp [*];done)),H',⟨Nat.le_refl _⟩,by repeat (first|exact Drawn0.refl _|apply Drawn0.step)⟩
 case round =>
  clear H'
  try clear p2
  obtain ⟨x5_1,rfl,HA,HK1,⟨m1,rfl⟩⟩ := hrel
  cases gk with
 |zero => exact absurd HA.out (by simp [codesearchref25_there.l0])
 |succ k1 =>
   have H := HA.out
   clear HA
   simp only [codesearchref25_there.l0] at H
   by_cases c3 : x5_1 < (l0.length : Int)
   ·rw [if_pos c3] at H
    have c3b0 : decide (x5_1 < (l0.length : Int)) = true := decide_eq_true c3
    clear c3
    by_cases c4 : 0 ≤ x5_1
    ·rw [if_pos c4] at H
     have c4b0 : decide (0 ≤ x5_1) = true := decide_eq_true c4
     clear c4
     by_cases c5 : ((rd_T45 l0 x5_1).f0).toList = a1.toList
     ·rw [if_pos c5] at H
      have c5b0 : (((rd_T45 l0 x5_1).f0).toList == a1.toList) = true := beq_iff_eq.mpr c5
      have c5b1 : (((rd_T45 l0 x5_1).f0).toList != a1.toList) = false := bne_eq_false_iff_eq.mpr c5
      clear c5
      obtain rfl := Option.some.inj H
      have p257 : 0 ≤ (x5_1 : Int) := of_decide_eq_true (by first|(with_reducible assumption)|assumption)
      have q257 : x5_1 < (l0.length : Int) := of_decide_eq_true (by first|(with_reducible assumption)|assumption)
      obtain ⟨ad257,e257,hx257_0,hx257_1⟩ := at_T45 HR0.out x5_1 p257 q257
      cases e257
      replace p257 := eq_true p257
      replace q257 := eq_true q257
      go_wp2
      go_ret
      exact ⟨by first|rfl|(simp;done)|(simp [*];done),by repeat (first|exact Drawn0.refl _|apply Drawn0.step)⟩
     ·rw [if_neg c5] at H
      have c5b0 : (((rd_T45 l0 x5_1).f0).toList == a1.toList) = false := beq_eq_false_iff_ne.mpr c5
      have c5b1 : (((rd_T45 l0 x5_1).f0).toList != a1.toList) = true := bne_iff_ne.mpr c5
      have H' := Aside0.mk H
      clear H
      have p257 : 0 ≤ (x5_1 : Int) := of_decide_eq_true (by first|(with_reducible assumption)|assumption)
      have q257 : x5_1 < (l0.length : Int) := of_decide_eq_true (by first|(with_reducible assumption)|assumption)
      obtain ⟨ad257,e257,hx257_0,hx257_1⟩ := at_T45 HR0.out x5_1 p257 q257
      cases e257
      replace p257 := eq_true p257
      replace q257 := eq_true q257
      go_wp2
      go_roundg k1
      case measure => have := HK1.out;omega
      case rel => exact ⟨(wrap64 (x5_1 + 1)),(by first|rfl|(simp;done)|(simp [*];done)),H',⟨by have := HK1.out;omega⟩,by repeat (first|exact Drawn0.refl _|apply Drawn0.step)⟩
    ·rw [if_neg c4] at H
     exact absurd H (by simp)
   ·rw [if_neg c3] at H
    have c3b0 : decide (x5_1 < (l0.length : Int)) = false := decide_eq_false c3
    clear c3
    obtain rfl := Option.some.inj H
    go_wp2
    go_ret
    exact ⟨by first|rfl|(simp;done)|(simp [*];done),by repeat (first|exact Drawn0.refl _|apply Drawn0.step)⟩

/-! ### codesearchref25_Set: function 39 -/
mutual
def codesearchref25_Set.l0 : Nat → List (S45) → ByteArray → Int → List (S45) → Bool → Int → Option ((List (S45)))
|0,_,_,_,_,_,_ => none
|k + 1,x0,x1,x2,x7,x8,x9 => if x9 < (x0.length : Int) then (if x8 = true then (codesearchref25_Set.j1 k x0 x1 x2 x7 x8 x9 false) else (if 0 ≤ x9 then (codesearchref25_Set.j1 k x0 x1 x2 x7 x8 x9 (!(Op.bytesLess (((rd_T45 x0 x9).f0).toList) x1.toList))) else (none))) else (if x8 = true then (some x7) else (if x7.length < 5864062014805 then (some (x7 ++ [(⟨x1,x2⟩ : S45)])) else (none)))
def codesearchref25_Set.j1 : Nat → List (S45) → ByteArray → Int → List (S45) → Bool → Int → Bool → Option ((List (S45)))
|0,_,_,_,_,_,_,_ => none
|k + 1,x0,x1,x2,x7,x8,x9,x28 => if x28 = true then (if x7.length < 5864062014805 then ((some (x7 ++ [(⟨x1,x2⟩ : S45)] : List (S45))).bind fun y262 => (if 0 ≤ x9 then (if x9 < (x0.length : Int) then (if ((rd_T45 x0 x9).f0).toList = x1.toList then (codesearchref25_Set.l0 k x0 x1 x2 y262 true (wrap64 (x9 + 1))) else (if y262.length < 5864062014805 then (codesearchref25_Set.l0 k x0 x1 x2 (y262 ++ [(⟨(rd_T45 x0 x9).f0,(rd_T45 x0 x9).f1⟩ : S45)]) true (wrap64 (x9 + 1))) else (none))) else (none)) else (none))) else (none)) else (if 0 ≤ x9 then (if x9 < (x0.length : Int) then (if ((rd_T45 x0 x9).f0).toList = x1.toList then (codesearchref25_Set.l0 k x0 x1 x2 x7 x8 (wrap64 (x9 + 1))) else (if x7.length < 5864062014805 then (codesearchref25_Set.l0 k x0 x1 x2 (x7 ++ [(⟨(rd_T45 x0 x9).f0,(rd_T45 x0 x9).f1⟩ : S45)]) x8 (wrap64 (x9 + 1))) else (none))) else (none)) else (none))
end
def codesearchref25_Set.f (k : Nat) (l0 : List (S45)) (a1 : ByteArray) (a2 : Int) : Option ((List (S45))) := codesearchref25_Set.l0 k l0 a1 a2 ([] : List (S45)) (a2 == 0) 0
theorem codesearchref25_Set.mono_l : ∀ k, (∀ y0 y1 y2 y3 y4 y5, LeO (codesearchref25_Set.l0 k y0 y1 y2 y3 y4 y5) (codesearchref25_Set.l0 (k + 1) y0 y1 y2 y3 y4 y5)) ∧ (∀ y0 y1 y2 y3 y4 y5 y6, LeO (codesearchref25_Set.j1 k y0 y1 y2 y3 y4 y5 y6) (codesearchref25_Set.j1 (k + 1) y0 y1 y2 y3 y4 y5 y6))
|0 => ⟨fun _ _ _ _ _ _ r h => by simp [codesearchref25_Set.l0] at h,fun _ _ _ _ _ _ _ r h => by simp [codesearchref25_Set.j1] at h⟩
|k + 1 => by
  obtain ⟨ih0,ih1⟩ := codesearchref25_Set.mono_l k
  refine ⟨?_,?_⟩
  ·intro y0 y1 y2 y3 y4 y5
   unfold codesearchref25_Set.l0
   repeat' first
  |(with_reducible exact ih0 _ _ _ _ _ _)
  |(with_reducible exact ih1 _ _ _ _ _ _ _)
  |(with_reducible exact LeO.refl _)
  |(with_reducible exact LeO.none _)
  |(with_reducible refine LeO.ite ?_ ?_)
  |(with_reducible refine LeO.bind ?_ (fun _ => ?_))
  |exact ih0 _ _ _ _ _ _
  |exact ih1 _ _ _ _ _ _ _
  |exact LeO.none _
  |refine LeO.ite ?_ ?_
  |refine LeO.bind ?_ (fun _ => ?_)
  ·intro y0 y1 y2 y3 y4 y5 y6
   unfold codesearchref25_Set.j1
   repeat' first
  |(with_reducible exact ih0 _ _ _ _ _ _)
  |(with_reducible exact ih1 _ _ _ _ _ _ _)
  |(with_reducible exact LeO.refl _)
  |(with_reducible exact LeO.none _)
  |(with_reducible refine LeO.ite ?_ ?_)
  |(with_reducible refine LeO.bind ?_ (fun _ => ?_))
  |exact ih0 _ _ _ _ _ _
  |exact ih1 _ _ _ _ _ _ _
  |exact LeO.none _
  |refine LeO.ite ?_ ?_
  |refine LeO.bind ?_ (fun _ => ?_)
theorem codesearchref25_Set.mono : ∀ a0 a1 a2 k, LeO (codesearchref25_Set.f k a0 a1 a2) (codesearchref25_Set.f (k + 1) a0 a1 a2) := by
 intro a0 a1 a2 k
 obtain ⟨ih0,ih1⟩ := codesearchref25_Set.mono_l k
 unfold codesearchref25_Set.f
 repeat' first
  |(with_reducible exact ih0 _ _ _ _ _ _)
  |(with_reducible exact ih1 _ _ _ _ _ _ _)
  |(with_reducible exact LeO.refl _)
  |(with_reducible exact LeO.none _)
  |(with_reducible refine LeO.ite ?_ ?_)
  |(with_reducible refine LeO.bind ?_ (fun _ => ?_))
  |exact ih0 _ _ _ _ _ _
  |exact ih1 _ _ _ _ _ _ _
  |exact LeO.none _
  |refine LeO.ite ?_ ?_
  |refine LeO.bind ?_ (fun _ => ?_)
set_option maxHeartbeats 4000000 in
set_option maxRecDepth 100000 in
theorem codesearchref25_Set.calls (k : Nat) (A0 : Option Addr) (c0 : Nat) (l0 : List (S45)) (a1 : ByteArray) (a2 : Int) (r : List (S45)) (w : World) (hr0 : Kd.C k45 w A0 l0.length l0) (hc0 : l0.length ≤ c0) (h : codesearchref25_Set.f k l0 a1 a2 = some r) :
  Calls Tryd.prog 39 #[.slice A0 l0.length c0,.string a1,.int .i64 a2] w fun e w' => ∃ v0_ : Value,e = .returned (v0_) ∧ Kd.R k45 45 w' w.heap.size (fun _ => True) v0_ r ∧ Below w.heap.size w w' := by
 have hu45 := Tryd.underlying45
 have HR0 := Aside0.mk hr0
 have HC0 := Aside0.mk hc0
 clear hr0 hc0
 have HB := Aside0.mk (Below.refl w.heap.size w)
 have H : (codesearchref25_Set.l0 k l0 a1 a2 ([] : List (S45)) (a2 == 0) 0) = some r := h
 clear h
 have H' := Aside0.mk H
 clear H
 go_enter Tryd.func39,Tryd.ntmps39
 go_wp2
 go_loopg [7,8,9] k (fun kq v7 v8 v9 w' => ∃ (x7_1 : List (S45)) (x8_1 : Bool) (x9_1 : Int),v8 = .bool x8_1 ∧ v9 = .int .i64 x9_1 ∧ Aside0 (codesearchref25_Set.l0 kq l0 a1 a2 x7_1 x8_1 x9_1 = some r) ∧ Aside0 (kq ≤ k) ∧ Aside0 (Kd.R k45 45 w' w.heap.size (fun _ => True) v7 x7_1) ∧ Aside0 (Below w.heap.size w w'))
 case atStart => exact ⟨(([] : List (S45))),((a2 == 0)),(0),(by first|rfl|(simp;done)|(simp [*];done)),(by first|rfl|(simp;done)|(simp [*];done)),H',⟨Nat.le_refl _⟩,⟨by first|exact Kd.R_nil _ _ _ _ _|exact Kd.N_nil _ _ _ _ _|exact Kd.V_nil _ _ _ _ _|exact Kd.Q_nil _ _ _ _ _|exact Kd.S_nil _ _ _ _ _⟩,⟨bM HB.out⟩⟩
 case round =>
  clear H'
  try clear p2
  try clear c3
  obtain ⟨x7_1,x8_1,x9_1,rfl,rfl,HA,HK1,HO_7,HB⟩ := hrel
  cases gk with
 |zero => exact absurd HA.out (by simp [codesearchref25_Set.l0])
 |succ k1 =>
   have H := HA.out
   clear HA
   simp only [codesearchref25_Set.l0] at H
   by_cases c4 : x9_1 < (l0.length : Int)
   ·rw [if_pos c4] at H
    have c4b0 : decide (x9_1 < (l0.length : Int)) = true := decide_eq_true c4
    clear c4
    have HC5 := Aside0.mk H
    clear H
    go_upto_region 6 with (fail)
    go_cut [28] (fun v28 wc => ∃ (kq : Nat) (x28_4 : Bool),v28 = .bool x28_4 ∧ Aside0 (codesearchref25_Set.j1 kq l0 a1 a2 x7_1 x8_1 x9_1 x28_4 = some r) ∧ Aside0 (kq ≤ k1) ∧ Aside0 (Kd.R k45 45 wc w.heap.size (fun _ => True) u7 x7_1) ∧ Aside0 (Below w.heap.size w wc))
    case first =>
     have H := HC5.out
     clear HC5
     by_cases c6 : x8_1 = true
     ·subst c6
      have H1 : (codesearchref25_Set.j1 k1 l0 a1 a2 x7_1 true x9_1 false) = some r := by rw [if_pos rfl] at H;exact H
      clear H
      have H := H1
      clear H1
      have H' := Aside0.mk H
      clear H
      go_wp2
      go_meet
      case rel => exact ⟨_,(false),(by first|rfl|(simp;done)|(simp [*];done)),H',⟨by have := HK1.out;first|omega|exact Nat.le_refl _⟩,⟨rM HO_7.out⟩,⟨bM HB.out⟩⟩
     ·replace c6 := Bool.eq_false_iff.mpr c6
      subst c6
      have H1 : (if 0 ≤ x9_1 then (codesearchref25_Set.j1 k1 l0 a1 a2 x7_1 false x9_1 (!(Op.bytesLess (((rd_T45 l0 x9_1).f0).toList) a1.toList))) else (none)) = some r := by rw [if_neg (show ¬ (false = true) by decide)] at H;exact H
      clear H
      have H := H1
      clear H1
      by_cases c7 : 0 ≤ x9_1
      ·rw [if_pos c7] at H
       have c7b0 : decide (0 ≤ x9_1) = true := decide_eq_true c7
       clear c7
       (first|rw [c7b0]|(simp only [i64_w,i32_w];rw [c7b0])|rw [c7b1]|skip)
       have H' := Aside0.mk H
       clear H
       have p261 : 0 ≤ (x9_1 : Int) := of_decide_eq_true (by first|(with_reducible assumption)|assumption)
       have q261 : x9_1 < (l0.length : Int) := of_decide_eq_true (by first|(with_reducible assumption)|assumption)
       obtain ⟨ad261,e261,hx261_0,hx261_1⟩ := at_T45 HR0.out x9_1 p261 q261
       cases e261
       replace hx261_0 := (HB.out.cell (World.block_lt_of_cell? w _ hx261_0)).trans hx261_0
       replace hx261_1 := (HB.out.cell (World.block_lt_of_cell? w _ hx261_1)).trans hx261_1
       replace p261 := eq_true p261
       replace q261 := eq_true q261
       go_wp2
       go_meet
       case rel => exact ⟨_,(!(Op.bytesLess (((rd_T45 l0 x9_1).f0).toList) a1.toList)),(by first|rfl|(simp;done)|(simp [*];done)),H',⟨by have := HK1.out;first|omega|exact Nat.le_refl _⟩,⟨rM HO_7.out⟩,⟨bM HB.out⟩⟩
      ·rw [if_neg c7] at H
       exact absurd H (by simp)
    case rest =>
     clear HC5
     try clear p2
     try clear q2
     try clear hx2
     try clear c3
     try clear c4
     try clear c4b0
     try clear c6
     try clear c7
     try clear c7b0
     try clear hx261_0
     try clear hx261_1
     try clear p2
     try clear p261
     try clear q261
     obtain ⟨kq,x28_4,rfl,HA,HJ4,HO_7,HB⟩ := hcut
     cases kq with
    |zero => exact absurd HA.out (by simp [codesearchref25_Set.j1])
    |succ kj4 =>
      have H := HA.out
      clear HA
      simp only [codesearchref25_Set.j1] at H
      by_cases c8 : x28_4 = true
      ·subst c8
       have H1 : (if x7_1.length < 5864062014805 then ((some (x7_1 ++ [(⟨a1,a2⟩ : S45)] : List (S45))).bind fun y262 => (if 0 ≤ x9_1 then (if x9_1 < (l0.length : Int) then (if ((rd_T45 l0 x9_1).f0).toList = a1.toList then (codesearchref25_Set.l0 kj4 l0 a1 a2 y262 true (wrap64 (x9_1 + 1))) else (if y262.length < 5864062014805 then (codesearchref25_Set.l0 kj4 l0 a1 a2 (y262 ++ [(⟨(rd_T45 l0 x9_1).f0,(rd_T45 l0 x9_1).f1⟩ : S45)]) true (wrap64 (x9_1 + 1))) else (none))) else (none)) else (none))) else (none)) = some r := by rw [if_pos rfl] at H;exact H
       clear H
       have H := H1
       clear H1
       by_cases c9 : x7_1.length < 5864062014805
       ·rw [if_pos c9] at H
        have LMc9 := Aside0.mk c9
        clear c9
        obtain ⟨y262,hy262⟩ : ∃ y_ : List (S45),y_ = (x7_1 ++ [(⟨a1,a2⟩ : S45)]) := ⟨_,rfl⟩
        replace H : (if 0 ≤ x9_1 then (if x9_1 < (l0.length : Int) then (if ((rd_T45 l0 x9_1).f0).toList = a1.toList then (codesearchref25_Set.l0 kj4 l0 a1 a2 y262 true (wrap64 (x9_1 + 1))) else (if y262.length < 5864062014805 then (codesearchref25_Set.l0 kj4 l0 a1 a2 (y262 ++ [(⟨(rd_T45 l0 x9_1).f0,(rd_T45 l0 x9_1).f1⟩ : S45)]) true (wrap64 (x9_1 + 1))) else (none))) else (none)) else (none)) = some r := by first|(rw [hy262];with_reducible exact H)|(have H2_ := (Option.bind_some _ _).symm.trans H;rw [hy262];with_reducible exact H2_)|(have H2_ := (Option.bind_some _ _).symm.trans H;with_reducible exact H2_)|with_reducible exact H|(rw [hy262];exact H)|exact H
        have Ny262 := Aside0.mk hy262
        clear hy262
        by_cases c10 : 0 ≤ x9_1
        ·rw [if_pos c10] at H
         have c10b0 : decide (0 ≤ x9_1) = true := decide_eq_true c10
         clear c10
         by_cases c11 : x9_1 < (l0.length : Int)
         ·rw [if_pos c11] at H
          have c11b0 : decide (x9_1 < (l0.length : Int)) = true := decide_eq_true c11
          clear c11
          by_cases c12 : ((rd_T45 l0 x9_1).f0).toList = a1.toList
          ·rw [if_pos c12] at H
           have c12b0 : (((rd_T45 l0 x9_1).f0).toList == a1.toList) = true := beq_iff_eq.mpr c12
           have c12b1 : (((rd_T45 l0 x9_1).f0).toList != a1.toList) = false := bne_eq_false_iff_eq.mpr c12
           clear c12
           have H' := Aside0.mk H
           clear H
           go_wp2_with (first|((with_reducible refine gate_builtin (b := .append) (xs := #[.tmp 29,.tmp 33]) rfl ?_);at_builtin;refine Kd.R_append k45 (w0 := w) w.heap.size rfl (.tmp 29) (.tmp 33) 22 45 (.agg #[(.string ⟨#[]⟩),(.int .i64 0)]) 24 rfl Tryd.underlying22 info45 rfl (by decide) (by omega) u7 x7_1 (⟨a1,a2⟩ : S45) [.string a1,.int .i64 a2] (fun _ => True) (fun _ => False) rfl rfl ?aP (fun _ hk => hk.elim) ?aF ?aO ?aB ?aS ?aL ?_;(case aP => exact k45_mkM _ _ _ (⟨a1,a2⟩ : S45));(case aB => exact (bM HB.out));(case aF => exact (fun _ _ => trivial));(case aO => exact (rM HO_7.out));(case aS => exact (below_size (bM HB.out)));(case aL => have := LMc9.out;omega);intro v263 w13 ho hb hg hat;rw [← Ny262.out] at ho;have n0_ := Aside0.mk (hb);have n1_ := Aside0.mk (ho);clear HB;clear HO_7;have HB := n0_;have HO264 := n1_;clear n0_ n1_;clear ho hb hg hat;have p265 : 0 ≤ (x9_1 : Int) := of_decide_eq_true (by first|(with_reducible assumption)|assumption);have q265 : x9_1 < (l0.length : Int) := of_decide_eq_true (by first|(with_reducible assumption)|assumption);obtain ⟨ad265,e265,hx265_0,hx265_1⟩ := at_T45 HR0.out x9_1 p265 q265;cases e265;replace hx265_0 := (HB.out.cell (World.block_lt_of_cell? w _ hx265_0)).trans hx265_0;replace hx265_1 := (HB.out.cell (World.block_lt_of_cell? w _ hx265_1)).trans hx265_1;replace p265 := eq_true p265;replace q265 := eq_true q265))
           go_roundg kj4
           case measure => have := HK1.out;have := HJ4.out;omega
           case rel => exact ⟨(y262),(true),(wrap64 (x9_1 + 1)),(by first|rfl|(simp;done)|(simp [*];done)),(by first|rfl|(simp;done)|(simp [*];done)),H',⟨by have := HK1.out;have := HJ4.out;omega⟩,⟨rM HO264.out⟩,⟨bM HB.out⟩⟩
          ·rw [if_neg c12] at H
           have c12b0 : (((rd_T45 l0 x9_1).f0).toList == a1.toList) = false := beq_eq_false_iff_ne.mpr c12
           have c12b1 : (((rd_T45 l0 x9_1).f0).toList != a1.toList) = true := bne_iff_ne.mpr c12
           by_cases c14 : y262.length < 5864062014805
           ·rw [if_pos c14] at H
            have LMc14 := Aside0.mk c14
            clear c14
            obtain ⟨y267,hy267⟩ : ∃ y_ : List (S45),y_ = (y262 ++ [(⟨(rd_T45 l0 x9_1).f0,(rd_T45 l0 x9_1).f1⟩ : S45)]) := ⟨_,rfl⟩
            replace H : (codesearchref25_Set.l0 kj4 l0 a1 a2 y267 true (wrap64 (x9_1 + 1))) = some r := by first|(rw [hy267];with_reducible exact H)|(have H2_ := (Option.bind_some _ _).symm.trans H;rw [hy267];with_reducible exact H2_)|(have H2_ := (Option.bind_some _ _).symm.trans H;with_reducible exact H2_)|with_reducible exact H|(rw [hy267];exact H)|exact H
            have Ny267 := Aside0.mk hy267
            clear hy267
            have H' := Aside0.mk H
            clear H
            go_wp2_with (first|((with_reducible refine gate_builtin (b := .append) (xs := #[.tmp 29,.tmp 33]) rfl ?_);at_builtin;refine Kd.R_append k45 (w0 := w) w.heap.size rfl (.tmp 29) (.tmp 33) 22 45 (.agg #[(.string ⟨#[]⟩),(.int .i64 0)]) 24 rfl Tryd.underlying22 info45 rfl (by decide) (by omega) u7 x7_1 (⟨a1,a2⟩ : S45) [.string a1,.int .i64 a2] (fun _ => True) (fun _ => False) rfl rfl ?aP (fun _ hk => hk.elim) ?aF ?aO ?aB ?aS ?aL ?_;(case aP => exact k45_mkM _ _ _ (⟨a1,a2⟩ : S45));(case aB => exact (bM HB.out));(case aF => exact (fun _ _ => trivial));(case aO => exact (rM HO_7.out));(case aS => exact (below_size (bM HB.out)));(case aL => have := LMc9.out;omega);intro v263 w15 ho hb hg hat;rw [← Ny262.out] at ho;have n0_ := Aside0.mk (hb);have n1_ := Aside0.mk (ho);clear HB;clear HO_7;have HB := n0_;have HO264 := n1_;clear n0_ n1_;clear ho hb hg hat;have p265 : 0 ≤ (x9_1 : Int) := of_decide_eq_true (by first|(with_reducible assumption)|assumption);have q265 : x9_1 < (l0.length : Int) := of_decide_eq_true (by first|(with_reducible assumption)|assumption);obtain ⟨ad265,e265,hx265_0,hx265_1⟩ := at_T45 HR0.out x9_1 p265 q265;cases e265;replace hx265_0 := (HB.out.cell (World.block_lt_of_cell? w _ hx265_0)).trans hx265_0;replace hx265_1 := (HB.out.cell (World.block_lt_of_cell? w _ hx265_1)).trans hx265_1;replace p265 := eq_true p265;replace q265 := eq_true q265;have p266 : 0 ≤ (x9_1 : Int) := of_decide_eq_true (by first|(with_reducible assumption)|assumption);have q266 : x9_1 < (l0.length : Int) := of_decide_eq_true (by first|(with_reducible assumption)|assumption);obtain ⟨ad266,e266,hx266_0,hx266_1⟩ := at_T45 HR0.out x9_1 p266 q266;obtain rfl : ad265 = ad266 := (by injection e266);replace hx266_0 := (HB.out.cell (World.block_lt_of_cell? w _ hx266_0)).trans hx266_0;replace hx266_1 := (HB.out.cell (World.block_lt_of_cell? w _ hx266_1)).trans hx266_1;replace p266 := eq_true p266;replace q266 := eq_true q266)|((with_reducible refine gate_builtin (b := .append) (xs := #[.tmp 42,.tmp 47]) rfl ?_);at_builtin;refine Kd.R_append k45 (w0 := w) w.heap.size rfl (.tmp 42) (.tmp 47) 22 45 (.agg #[(.string ⟨#[]⟩),(.int .i64 0)]) 24 rfl Tryd.underlying22 info45 rfl (by decide) (by omega) v263 y262 (⟨(rd_T45 l0 x9_1).f0,(rd_T45 l0 x9_1).f1⟩ : S45) [.string ((rd_T45 l0 x9_1).f0),.int .i64 ((rd_T45 l0 x9_1).f1)] (fun _ => True) (fun _ => False) rfl rfl ?aP (fun _ hk => hk.elim) ?aF ?aO ?aB ?aS ?aL ?_;(case aP => exact k45_mkM _ _ _ (⟨(rd_T45 l0 x9_1).f0,(rd_T45 l0 x9_1).f1⟩ : S45));(case aB => exact (bM HB.out));(case aF => exact (fun _ _ => trivial));(case aO => exact (rM HO264.out));(case aS => exact (below_size (bM HB.out)));(case aL => have := LMc14.out;omega);intro v268 w16 ho hb hg hat;rw [← Ny267.out] at ho;have n0_ := Aside0.mk (hb);have n1_ := Aside0.mk (ho);clear HB;clear HO264;have HB := n0_;have HO269 := n1_;clear n0_ n1_;clear ho hb hg hat))
            go_roundg kj4
            case measure => have := HK1.out;have := HJ4.out;omega
            case rel => exact ⟨(y267),(true),(wrap64 (x9_1 + 1)),(by first|rfl|(simp;done)|(simp [*];done)),(by first|rfl|(simp;done)|(simp [*];done)),H',⟨by have := HK1.out;have := HJ4.out;omega⟩,⟨rM HO269.out⟩,⟨bM HB.out⟩⟩
           ·rw [if_neg c14] at H
            exact absurd H (by simp)
         ·rw [if_neg c11] at H
          exact absurd H (by simp)
        ·rw [if_neg c10] at H
         exact absurd H (by simp)
       ·rw [if_neg c9] at H
        exact absurd H (by simp)
      ·replace c8 := Bool.eq_false_iff.mpr c8
       subst c8
       have H1 : (if 0 ≤ x9_1 then (if x9_1 < (l0.length : Int) then (if ((rd_T45 l0 x9_1).f0).toList = a1.toList then (codesearchref25_Set.l0 kj4 l0 a1 a2 x7_1 x8_1 (wrap64 (x9_1 + 1))) else (if x7_1.length < 5864062014805 then (codesearchref25_Set.l0 kj4 l0 a1 a2 (x7_1 ++ [(⟨(rd_T45 l0 x9_1).f0,(rd_T45 l0 x9_1).f1⟩ : S45)]) x8_1 (wrap64 (x9_1 + 1))) else (none))) else (none)) else (none)) = some r := by rw [if_neg (show ¬ (false = true) by decide)] at H;exact H
       clear H
       have H := H1
       clear H1
       by_cases c17 : 0 ≤ x9_1
       ·rw [if_pos c17] at H
        have c17b0 : decide (0 ≤ x9_1) = true := decide_eq_true c17
        clear c17
        by_cases c18 : x9_1 < (l0.length : Int)
        ·rw [if_pos c18] at H
         have c18b0 : decide (x9_1 < (l0.length : Int)) = true := decide_eq_true c18
         clear c18
         by_cases c19 : ((rd_T45 l0 x9_1).f0).toList = a1.toList
         ·rw [if_pos c19] at H
          have c19b0 : (((rd_T45 l0 x9_1).f0).toList == a1.toList) = true := beq_iff_eq.mpr c19
          have c19b1 : (((rd_T45 l0 x9_1).f0).toList != a1.toList) = false := bne_eq_false_iff_eq.mpr c19
          clear c19
          have H' := Aside0.mk H
          clear H
          have p270 : 0 ≤ (x9_1 : Int) := of_decide_eq_true (by first|(with_reducible assumption)|assumption)
          have q270 : x9_1 < (l0.length : Int) := of_decide_eq_true (by first|(with_reducible assumption)|assumption)
          obtain ⟨ad270,e270,hx270_0,hx270_1⟩ := at_T45 HR0.out x9_1 p270 q270
          cases e270
          replace hx270_0 := (HB.out.cell (World.block_lt_of_cell? w _ hx270_0)).trans hx270_0
          replace hx270_1 := (HB.out.cell (World.block_lt_of_cell? w _ hx270_1)).trans hx270_1
          replace p270 := eq_true p270
          replace q270 := eq_true q270
          go_wp2
          go_roundg kj4
          case measure => have := HK1.out;have := HJ4.out;omega
          case rel => exact ⟨(x7_1),(x8_1),(wrap64 (x9_1 + 1)),(by first|rfl|(simp;done)|(simp [*];done)),(by first|rfl|(simp;done)|(simp [*];done)),H',⟨by have := HK1.out;have := HJ4.out;omega⟩,⟨rM HO_7.out⟩,⟨bM HB.out⟩⟩
         ·rw [if_neg c19] at H
          have c19b0 : (((rd_T45 l0 x9_1).f0).toList == a1.toList) = false := beq_eq_false_iff_ne.mpr c19
          have c19b1 : (((rd_T45 l0 x9_1).f0).toList != a1.toList) = true := bne_iff_ne.mpr c19
          by_cases c20 : x7_1.length < 5864062014805
          ·rw [if_pos c20] at H
           have LMc20 := Aside0.mk c20
           clear c20
           obtain ⟨y272,hy272⟩ : ∃ y_ : List (S45),y_ = (x7_1 ++ [(⟨(rd_T45 l0 x9_1).f0,(rd_T45 l0 x9_1).f1⟩ : S45)]) := ⟨_,rfl⟩
           replace H : (codesearchref25_Set.l0 kj4 l0 a1 a2 y272 x8_1 (wrap64 (x9_1 + 1))) = some r := by first|(rw [hy272];with_reducible exact H)|(have H2_ := (Option.bind_some _ _).symm.trans H;rw [hy272];with_reducible exact H2_)|(have H2_ := (Option.bind_some _ _).symm.trans H;with_reducible exact H2_)|with_reducible exact H|(rw [hy272];exact H)|exact H
           have Ny272 := Aside0.mk hy272
           clear hy272
           have H' := Aside0.mk H
           clear H
           have p270 : 0 ≤ (x9_1 : Int) := of_decide_eq_true (by first|(with_reducible assumption)|assumption)
           have q270 : x9_1 < (l0.length : Int) := of_decide_eq_true (by first|(with_reducible assumption)|assumption)
           obtain ⟨ad270,e270,hx270_0,hx270_1⟩ := at_T45 HR0.out x9_1 p270 q270
           cases e270
           replace hx270_0 := (HB.out.cell (World.block_lt_of_cell? w _ hx270_0)).trans hx270_0
           replace hx270_1 := (HB.out.cell (World.block_lt_of_cell? w _ hx270_1)).trans hx270_1
           replace p270 := eq_true p270
           replace q270 := eq_true q270
           have p271 : 0 ≤ (x9_1 : Int) := of_decide_eq_true (by first|(with_reducible assumption)|assumption)
           have q271 : x9_1 < (l0.length : Int) := of_decide_eq_true (by first|(with_reducible assumption)|assumption)
           obtain ⟨ad271,e271,hx271_0,hx271_1⟩ := at_T45 HR0.out x9_1 p271 q271
           obtain rfl : ad270 = ad271 := (by injection e271)
           replace hx271_0 := (HB.out.cell (World.block_lt_of_cell? w _ hx271_0)).trans hx271_0
           replace hx271_1 := (HB.out.cell (World.block_lt_of_cell? w _ hx271_1)).trans hx271_1
           replace p271 := eq_true p271
           replace q271 := eq_true q271
           go_wp2_with (first|((with_reducible refine gate_builtin (b := .append) (xs := #[.tmp 42,.tmp 47]) rfl ?_);at_builtin;refine Kd.R_append k45 (w0 := w) w.heap.size rfl (.tmp 42) (.tmp 47) 22 45 (.agg #[(.string ⟨#[]⟩),(.int .i64 0)]) 24 rfl Tryd.underlying22 info45 rfl (by decide) (by omega) u7 x7_1 (⟨(rd_T45 l0 x9_1).f0,(rd_T45 l0 x9_1).f1⟩ : S45) [.string ((rd_T45 l0 x9_1).f0),.int .i64 ((rd_T45 l0 x9_1).f1)] (fun _ => True) (fun _ => False) rfl rfl ?aP (fun _ hk => hk.elim) ?aF ?aO ?aB ?aS ?aL ?_;(case aP => exact k45_mkM _ _ _ (⟨(rd_T45 l0 x9_1).f0,(rd_T45 l0 x9_1).f1⟩ : S45));(case aB => exact (bM HB.out));(case aF => exact (fun _ _ => trivial));(case aO => exact (rM HO_7.out));(case aS => exact (below_size (bM HB.out)));(case aL => have := LMc20.out;omega);intro v273 w21 ho hb hg hat;rw [← Ny272.out] at ho;have n0_ := Aside0.mk (hb);have n1_ := Aside0.mk (ho);clear HB;clear HO_7;have HB := n0_;have HO274 := n1_;clear n0_ n1_;clear ho hb hg hat))
           go_roundg kj4
           case measure => have := HK1.out;have := HJ4.out;omega
           case rel => exact ⟨(y272),(x8_1),(wrap64 (x9_1 + 1)),(by first|rfl|(simp;done)|(simp [*];done)),(by first|rfl|(simp;done)|(simp [*];done)),H',⟨by have := HK1.out;have := HJ4.out;omega⟩,⟨rM HO274.out⟩,⟨bM HB.out⟩⟩
          ·rw [if_neg c20] at H
           exact absurd H (by simp)
        ·rw [if_neg c18] at H
         exact absurd H (by simp)
       ·rw [if_neg c17] at H
        exact absurd H (by simp)
   ·rw [if_neg c4] at H
    have c4b0 : decide (x9_1 < (l0.length : Int)) = false := decide_eq_false c4
    clear c4
    by_cases c22 : x8_1 = true
    ·subst c22
     have H1 : (some x7_1) = some r := by rw [if_pos rfl] at H;exact H
     clear H
     have H := H1
     clear H1
     obtain rfl := Option.some.inj H
     go_wp2
     go_ret
     exact ⟨_,by first|rfl|(simp [errW_none,errW_some] <;> rfl)|(simp [*,errW_none,errW_some] <;> rfl),rM HO_7.out,bM HB.out⟩
    ·replace c22 := Bool.eq_false_iff.mpr c22
     subst c22
     have H1 : (if x7_1.length < 5864062014805 then (some (x7_1 ++ [(⟨a1,a2⟩ : S45)])) else (none)) = some r := by rw [if_neg (show ¬ (false = true) by decide)] at H;exact H
     clear H
     have H := H1
     clear H1
     by_cases c23 : x7_1.length < 5864062014805
     ·rw [if_pos c23] at H
      have LMc23 := Aside0.mk c23
      clear c23
      obtain ⟨y258,hy258⟩ : ∃ y_ : List (S45),y_ = (x7_1 ++ [(⟨a1,a2⟩ : S45)]) := ⟨_,rfl⟩
      replace H : (some y258) = some r := by first|(rw [hy258];with_reducible exact H)|(have H2_ := (Option.bind_some _ _).symm.trans H;rw [hy258];with_reducible exact H2_)|(have H2_ := (Option.bind_some _ _).symm.trans H;with_reducible exact H2_)|with_reducible exact H|(rw [hy258];exact H)|exact H
      have Ny258 := Aside0.mk hy258
      clear hy258
      obtain rfl := Option.some.inj H
      go_wp2_with (first|((with_reducible refine gate_builtin (b := .append) (xs := #[.tmp 51,.tmp 55]) rfl ?_);at_builtin;refine Kd.R_append k45 (w0 := w) w.heap.size rfl (.tmp 51) (.tmp 55) 22 45 (.agg #[(.string ⟨#[]⟩),(.int .i64 0)]) 24 rfl Tryd.underlying22 info45 rfl (by decide) (by omega) u7 x7_1 (⟨a1,a2⟩ : S45) [.string a1,.int .i64 a2] (fun _ => True) (fun _ => False) rfl rfl ?aP (fun _ hk => hk.elim) ?aF ?aO ?aB ?aS ?aL ?_;(case aP => exact k45_mkM _ _ _ (⟨a1,a2⟩ : S45));(case aB => exact (bM HB.out));(case aF => exact (fun _ _ => trivial));(case aO => exact (rM HO_7.out));(case aS => exact (below_size (bM HB.out)));(case aL => have := LMc23.out;omega);intro v259 w24 ho hb hg hat;rw [← Ny258.out] at ho;have n0_ := Aside0.mk (hb);have n1_ := Aside0.mk (ho);clear HB;clear HO_7;have HB := n0_;have HO260 := n1_;clear n0_ n1_;clear ho hb hg hat))
      go_ret
      exact ⟨_,by first|rfl|(simp [errW_none,errW_some] <;> rfl)|(simp [*,errW_none,errW_some] <;> rfl),rM HO260.out,bM HB.out⟩
     ·rw [if_neg c23] at H
      exact absurd H (by simp)

end Go.Proofs.YtpnhamfodjfacaaDoor.T
