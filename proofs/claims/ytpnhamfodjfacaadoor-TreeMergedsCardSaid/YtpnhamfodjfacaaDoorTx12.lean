-- Written by hp.py, a program of this session, over the kit's print of the translation. Not trusted: Lean checks it.
import Derived.Test.YtpnhamfodjfacaaDoorTx0
import Derived.Test.YtpnhamfodjfacaaDoorTx5
import Derived.Test.YtpnhamfodjfacaaDoorTx9
import Derived.Test.YtpnhamfodjfacaaDoorTx11
namespace Go.Proofs.YtpnhamfodjfacaaDoor.T
open Go.RowKit Go.Proofs.YtpnhamfodjfacaaDoorW.PrintWords Go.Proofs.YtpnhamfodjfacaaDoorW.PrintLast Go.Proofs.YtpnhamfodjfacaaDoorW.PrintMore
attribute [local go_sem] max2_int min2_int max_two min_two max_three min_three max_four min_four   -- for this text's walks alone
set_option linter.unusedVariables false
set_option linter.unusedSimpArgs false

/-! ### codesearchlaw25_TreeRights: function 3 -/
def codesearchlaw25_TreeRights.f (k : Nat) (l0 : List (S45)) (a1 : ByteArray) : Option (Bool) := (codesearchlaw25_alive.f k).bind fun t249 => (if t249 = true then (if (l0.length : Int) > 60 then (some true) else ((tree_Right.f k l0).bind fun t250 => ((codesearchref25_Right.f k l0).bind fun t251 => (if t250 = t251 then ((codesearchref25_Right.f k l0).bind fun t252 => (if t252 = 0 then ((tree_Get.f k l0 a1).bind fun bt253 => ((codesearchref25_Get.f k l0 a1).bind fun bt255 => (if bt253.1 = bt255.1 then (some (bt253.2 == bt255.2)) else (some false)))) else (some true))) else (some false))))) else (some false))
theorem codesearchlaw25_TreeRights.mono : ∀ a0 a1 k, LeO (codesearchlaw25_TreeRights.f k a0 a1) (codesearchlaw25_TreeRights.f (k + 1) a0 a1) := by
 intro a0 a1 k
 unfold codesearchlaw25_TreeRights.f
 repeat' first
  |(with_reducible exact codesearchlaw25_alive.mono _)
  |(with_reducible exact codesearchref25_Get.mono _ _ _)
  |(with_reducible exact codesearchref25_Right.mono _ _)
  |(with_reducible exact tree_Get.mono _ _ _)
  |(with_reducible exact tree_Right.mono _ _)
  |(with_reducible exact LeO.refl _)
  |(with_reducible exact LeO.none _)
  |(with_reducible refine LeO.ite ?_ ?_)
  |(with_reducible refine LeO.bind ?_ (fun _ => ?_))
  |exact codesearchlaw25_alive.mono _
  |exact codesearchref25_Get.mono _ _ _
  |exact codesearchref25_Right.mono _ _
  |exact tree_Get.mono _ _ _
  |exact tree_Right.mono _ _
  |exact LeO.none _
  |refine LeO.ite ?_ ?_
  |refine LeO.bind ?_ (fun _ => ?_)
set_option maxHeartbeats 4000000 in
set_option maxRecDepth 100000 in
theorem codesearchlaw25_TreeRights.calls (k : Nat) (A0 : Option Addr) (c0 : Nat) (l0 : List (S45)) (a1 : ByteArray) (r : Bool) (w : World) (hr0 : Kd.C k45 w A0 l0.length l0) (hc0 : l0.length ≤ c0) (h : codesearchlaw25_TreeRights.f k l0 a1 = some r) :
  Calls Tryd.prog 3 #[.slice A0 l0.length c0,.string a1] w fun e w' => e = .returned (.bool r) ∧ Below w.heap.size w w' := by
 have HR0 := Aside0.mk hr0
 have HC0 := Aside0.mk hc0
 clear hr0 hc0
 have HB := Aside0.mk (Below.refl w.heap.size w)
 have H : ((codesearchlaw25_alive.f k).bind fun t249 => (if t249 = true then (if (l0.length : Int) > 60 then (some true) else ((tree_Right.f k l0).bind fun t250 => ((codesearchref25_Right.f k l0).bind fun t251 => (if t250 = t251 then ((codesearchref25_Right.f k l0).bind fun t252 => (if t252 = 0 then ((tree_Get.f k l0 a1).bind fun bt253 => ((codesearchref25_Get.f k l0 a1).bind fun bt255 => (if bt253.1 = bt255.1 then (some (bt253.2 == bt255.2)) else (some false)))) else (some true))) else (some false))))) else (some false))) = some r := h
 clear h
 replace H := Option.bind_eq_some_iff.mp H
 obtain ⟨t249,A30,H⟩ := H
 replace H : (if t249 = true then (if (l0.length : Int) > 60 then (some true) else ((tree_Right.f k l0).bind fun t250 => ((codesearchref25_Right.f k l0).bind fun t251 => (if t250 = t251 then ((codesearchref25_Right.f k l0).bind fun t252 => (if t252 = 0 then ((tree_Get.f k l0 a1).bind fun bt253 => ((codesearchref25_Get.f k l0 a1).bind fun bt255 => (if bt253.1 = bt255.1 then (some (bt253.2 == bt255.2)) else (some false)))) else (some true))) else (some false))))) else (some false)) = some r := H
 have A3 := Aside0.mk A30
 clear A30
 by_cases c4 : t249 = true
 ·subst c4
  have H1 : (if (l0.length : Int) > 60 then (some true) else ((tree_Right.f k l0).bind fun t250 => ((codesearchref25_Right.f k l0).bind fun t251 => (if t250 = t251 then ((codesearchref25_Right.f k l0).bind fun t252 => (if t252 = 0 then ((tree_Get.f k l0 a1).bind fun bt253 => ((codesearchref25_Get.f k l0 a1).bind fun bt255 => (if bt253.1 = bt255.1 then (some (bt253.2 == bt255.2)) else (some false)))) else (some true))) else (some false))))) = some r := by rw [if_pos rfl] at H;exact H
  clear H
  have H := H1
  clear H1
  by_cases c5 : (l0.length : Int) > 60
  ·rw [if_pos c5] at H
   have c5b0 : decide (60 < (l0.length : Int)) = true := decide_eq_true c5
   have c5b1 : decide (60 < l0.length) = true := decide_eq_true (by omega)
   clear c5
   obtain rfl := Option.some.inj H
   go_enter Tryd.func3,Tryd.ntmps3
   go_wp2_with (first|((with_reducible refine gate_callee (f := 11) rfl ?_);refine goesL_ (some 9) rfl rfl Tryd.func11 (by kernel_rfl) rfl #[] rfl (by (try simp only [List.map_toArray,List.map_cons,List.map_nil]);first|done|rfl|(simp only [List.length_drop,List.length_take];rfl)) ?_;(with_reducible refine (codesearchlaw25_alive.calls k  true _ A3.out).mono ?_);rintro e w6 ⟨rfl,hb⟩;refine ⟨_,rfl,?_⟩;have n0_ := Aside0.mk (below_step (bM HB.out) hb);clear HB;have HB := n0_;clear n0_;(try clear hb);(try clear hb2);(try clear hk);(try clear hi)))
   go_ret
   exact ⟨by first|rfl|(simp [errW_none,errW_some] <;> rfl)|(simp [*,errW_none,errW_some] <;> rfl),bM HB.out⟩
  ·rw [if_neg c5] at H
   have c5b0 : decide (60 < (l0.length : Int)) = false := decide_eq_false c5
   have c5b1 : decide (60 < l0.length) = false := decide_eq_false (by omega)
   clear c5
   replace H := Option.bind_eq_some_iff.mp H
   obtain ⟨t250,A70,H⟩ := H
   replace H : ((codesearchref25_Right.f k l0).bind fun t251 => (if t250 = t251 then ((codesearchref25_Right.f k l0).bind fun t252 => (if t252 = 0 then ((tree_Get.f k l0 a1).bind fun bt253 => ((codesearchref25_Get.f k l0 a1).bind fun bt255 => (if bt253.1 = bt255.1 then (some (bt253.2 == bt255.2)) else (some false)))) else (some true))) else (some false))) = some r := H
   have A7 := Aside0.mk A70
   clear A70
   replace H := Option.bind_eq_some_iff.mp H
   obtain ⟨t251,A80,H⟩ := H
   replace H : (if t250 = t251 then ((codesearchref25_Right.f k l0).bind fun t252 => (if t252 = 0 then ((tree_Get.f k l0 a1).bind fun bt253 => ((codesearchref25_Get.f k l0 a1).bind fun bt255 => (if bt253.1 = bt255.1 then (some (bt253.2 == bt255.2)) else (some false)))) else (some true))) else (some false)) = some r := H
   have A8 := Aside0.mk A80
   clear A80
   by_cases c9 : t250 = t251
   ·rw [if_pos c9] at H
    have c9b0 : (t250 == t251) = true := beq_iff_eq.mpr c9
    have c9b1 : (t250 != t251) = false := bne_eq_false_iff_eq.mpr c9
    clear c9
    replace H := Option.bind_eq_some_iff.mp H
    obtain ⟨t252,A100,H⟩ := H
    replace H : (if t252 = 0 then ((tree_Get.f k l0 a1).bind fun bt253 => ((codesearchref25_Get.f k l0 a1).bind fun bt255 => (if bt253.1 = bt255.1 then (some (bt253.2 == bt255.2)) else (some false)))) else (some true)) = some r := H
    have A10 := Aside0.mk A100
    clear A100
    by_cases c11 : t252 = 0
    ·rw [if_pos c11] at H
     have c11b0 : (t252 == 0) = true := beq_iff_eq.mpr c11
     have c11b1 : (t252 != 0) = false := bne_eq_false_iff_eq.mpr c11
     clear c11
     replace H := Option.bind_eq_some_iff.mp H
     obtain ⟨⟨t253,t254⟩,A120,H⟩ := H
     replace H : ((codesearchref25_Get.f k l0 a1).bind fun bt255 => (if t253 = bt255.1 then (some (t254 == bt255.2)) else (some false))) = some r := H
     have A12 := Aside0.mk A120
     clear A120
     replace H := Option.bind_eq_some_iff.mp H
     obtain ⟨⟨t255,t256⟩,A130,H⟩ := H
     replace H : (if t253 = t255 then (some (t254 == t256)) else (some false)) = some r := H
     have A13 := Aside0.mk A130
     clear A130
     by_cases c14 : t253 = t255
     ·rw [if_pos c14] at H
      have c14b0 : (t253 == t255) = true := beq_iff_eq.mpr c14
      have c14b1 : (t253 != t255) = false := bne_eq_false_iff_eq.mpr c14
      clear c14
      obtain rfl := Option.some.inj H
      go_enter Tryd.func3,Tryd.ntmps3
      go_wp2_with (first|((with_reducible refine gate_callee (f := 11) rfl ?_);refine goesL_ (some 9) rfl rfl Tryd.func11 (by kernel_rfl) rfl #[] rfl (by (try simp only [List.map_toArray,List.map_cons,List.map_nil]);first|done|rfl|(simp only [List.length_drop,List.length_take];rfl)) ?_;(with_reducible refine (codesearchlaw25_alive.calls k  true _ A3.out).mono ?_);rintro e w15 ⟨rfl,hb⟩;refine ⟨_,rfl,?_⟩;have n0_ := Aside0.mk (below_step (bM HB.out) hb);clear HB;have HB := n0_;clear n0_;(try clear hb);(try clear hb2);(try clear hk);(try clear hi))|((with_reducible refine gate_callee (f := 12) rfl ?_);refine goesL_ (some 15) rfl rfl Tryd.func12 (by kernel_rfl) rfl #[.slice A0 l0.length c0] rfl (by (try simp only [List.map_toArray,List.map_cons,List.map_nil]);first|done|rfl|(simp only [List.length_drop,List.length_take];rfl)) ?_;(with_reducible refine (tree_Right.calls k _ _ l0 t250 _ ?side1 ?side2 A7.out).mono ?_);(case side1 => exact cM (Kd.C_below HR0.out HB.out));(case side2 => exact HC0.out);rintro e w16 ⟨rfl,hb⟩;refine ⟨_,rfl,?_⟩;have n0_ := Aside0.mk (below_step (bM HB.out) hb);clear HB;have HB := n0_;clear n0_;(try clear hb);(try clear hb2);(try clear hk);(try clear hi))|((with_reducible refine gate_callee (f := 13) rfl ?_);refine goesL_ (some 17) rfl rfl Tryd.func13 (by kernel_rfl) rfl #[.slice A0 l0.length c0] rfl (by (try simp only [List.map_toArray,List.map_cons,List.map_nil]);first|done|rfl|(simp only [List.length_drop,List.length_take];rfl)) ?_;(with_reducible refine (codesearchref25_Right.calls k _ _ l0 t251 _ ?side1 ?side2 A8.out).mono ?_);(case side1 => exact cM (Kd.C_below HR0.out HB.out));(case side2 => exact HC0.out);rintro e w' ⟨rfl,⟨nd,rfl⟩⟩;refine ⟨_,rfl,?_⟩)|((with_reducible refine gate_callee (f := 13) rfl ?_);refine goesL_ (some 20) rfl rfl Tryd.func13 (by kernel_rfl) rfl #[.slice A0 l0.length c0] rfl (by (try simp only [List.map_toArray,List.map_cons,List.map_nil]);first|done|rfl|(simp only [List.length_drop,List.length_take];rfl)) ?_;(with_reducible refine (codesearchref25_Right.calls k _ _ l0 t252 _ ?side1 ?side2 A10.out).mono ?_);(case side1 => repeat (first|exact (Kd.C_below HR0.out (bM HB.out))|(with_reducible refine Kd.C_alloc ?_ _)|(with_reducible refine Kd.C_drewN ?_ _)|(with_reducible refine Kd.C_drew ?_)));(case side2 => exact HC0.out);rintro e w' ⟨rfl,⟨nd,rfl⟩⟩;refine ⟨_,rfl,?_⟩)|((with_reducible refine gate_callee (f := 14) rfl ?_);refine goesL_ (some 25) rfl rfl Tryd.func14 (by kernel_rfl) rfl #[.slice A0 l0.length c0,.string a1] rfl (by (try simp only [List.map_toArray,List.map_cons,List.map_nil]);first|done|rfl|(simp only [List.length_drop,List.length_take];rfl)) ?_;(with_reducible refine (tree_Get.calls k _ _ l0 a1 t253 t254 _ ?side1 ?side2 A12.out).mono ?_);(case side1 => repeat (first|exact (Kd.C_below HR0.out (bM HB.out))|(with_reducible refine Kd.C_alloc ?_ _)|(with_reducible refine Kd.C_drewN ?_ _)|(with_reducible refine Kd.C_drew ?_)));(case side2 => exact HC0.out);rintro e w17 ⟨rfl,hb⟩;refine ⟨_,rfl,?_⟩;have n0_ := Aside0.mk (below_step (bM HB.out) hb);clear HB;have HB := n0_;clear n0_;(try clear hb);(try clear hb2);(try clear hk);(try clear hi))|((with_reducible refine gate_callee (f := 15) rfl ?_);refine goesL_ (some 31) rfl rfl Tryd.func15 (by kernel_rfl) rfl #[.slice A0 l0.length c0,.string a1] rfl (by (try simp only [List.map_toArray,List.map_cons,List.map_nil]);first|done|rfl|(simp only [List.length_drop,List.length_take];rfl)) ?_;(with_reducible refine (codesearchref25_Get.calls k _ _ l0 a1 t255 t256 _ ?side1 ?side2 A13.out).mono ?_);(case side1 => exact cM (Kd.C_below HR0.out HB.out));(case side2 => exact HC0.out);rintro e w' ⟨rfl,⟨nd,rfl⟩⟩;refine ⟨_,rfl,?_⟩))
      go_ret
      exact ⟨by first|rfl|(simp [errW_none,errW_some] <;> rfl)|(simp [*,errW_none,errW_some] <;> rfl),bM HB.out⟩
     ·rw [if_neg c14] at H
      have c14b0 : (t253 == t255) = false := beq_eq_false_iff_ne.mpr c14
      have c14b1 : (t253 != t255) = true := bne_iff_ne.mpr c14
      obtain rfl := Option.some.inj H
      go_enter Tryd.func3,Tryd.ntmps3
      go_wp2_with (first|((with_reducible refine gate_callee (f := 11) rfl ?_);refine goesL_ (some 9) rfl rfl Tryd.func11 (by kernel_rfl) rfl #[] rfl (by (try simp only [List.map_toArray,List.map_cons,List.map_nil]);first|done|rfl|(simp only [List.length_drop,List.length_take];rfl)) ?_;(with_reducible refine (codesearchlaw25_alive.calls k  true _ A3.out).mono ?_);rintro e w18 ⟨rfl,hb⟩;refine ⟨_,rfl,?_⟩;have n0_ := Aside0.mk (below_step (bM HB.out) hb);clear HB;have HB := n0_;clear n0_;(try clear hb);(try clear hb2);(try clear hk);(try clear hi))|((with_reducible refine gate_callee (f := 12) rfl ?_);refine goesL_ (some 15) rfl rfl Tryd.func12 (by kernel_rfl) rfl #[.slice A0 l0.length c0] rfl (by (try simp only [List.map_toArray,List.map_cons,List.map_nil]);first|done|rfl|(simp only [List.length_drop,List.length_take];rfl)) ?_;(with_reducible refine (tree_Right.calls k _ _ l0 t250 _ ?side1 ?side2 A7.out).mono ?_);(case side1 => exact cM (Kd.C_below HR0.out HB.out));(case side2 => exact HC0.out);rintro e w19 ⟨rfl,hb⟩;refine ⟨_,rfl,?_⟩;have n0_ := Aside0.mk (below_step (bM HB.out) hb);clear HB;have HB := n0_;clear n0_;(try clear hb);(try clear hb2);(try clear hk);(try clear hi))|((with_reducible refine gate_callee (f := 13) rfl ?_);refine goesL_ (some 17) rfl rfl Tryd.func13 (by kernel_rfl) rfl #[.slice A0 l0.length c0] rfl (by (try simp only [List.map_toArray,List.map_cons,List.map_nil]);first|done|rfl|(simp only [List.length_drop,List.length_take];rfl)) ?_;(with_reducible refine (codesearchref25_Right.calls k _ _ l0 t251 _ ?side1 ?side2 A8.out).mono ?_);(case side1 => exact cM (Kd.C_below HR0.out HB.out));(case side2 => exact HC0.out);rintro e w' ⟨rfl,⟨nd,rfl⟩⟩;refine ⟨_,rfl,?_⟩)|((with_reducible refine gate_callee (f := 13) rfl ?_);refine goesL_ (some 20) rfl rfl Tryd.func13 (by kernel_rfl) rfl #[.slice A0 l0.length c0] rfl (by (try simp only [List.map_toArray,List.map_cons,List.map_nil]);first|done|rfl|(simp only [List.length_drop,List.length_take];rfl)) ?_;(with_reducible refine (codesearchref25_Right.calls k _ _ l0 t252 _ ?side1 ?side2 A10.out).mono ?_);(case side1 => repeat (first|exact (Kd.C_below HR0.out (bM HB.out))|(with_reducible refine Kd.C_alloc ?_ _)|(with_reducible refine Kd.C_drewN ?_ _)|(with_reducible refine Kd.C_drew ?_)));(case side2 => exact HC0.out);rintro e w' ⟨rfl,⟨nd,rfl⟩⟩;refine ⟨_,rfl,?_⟩)|((with_reducible refine gate_callee (f := 14) rfl ?_);refine goesL_ (some 25) rfl rfl Tryd.func14 (by kernel_rfl) rfl #[.slice A0 l0.length c0,.string a1] rfl (by (try simp only [List.map_toArray,List.map_cons,List.map_nil]);first|done|rfl|(simp only [List.length_drop,List.length_take];rfl)) ?_;(with_reducible refine (tree_Get.calls k _ _ l0 a1 t253 t254 _ ?side1 ?side2 A12.out).mono ?_);(case side1 => repeat (first|exact (Kd.C_below HR0.out (bM HB.out))|(with_reducible refine Kd.C_alloc ?_ _)|(with_reducible refine Kd.C_drewN ?_ _)|(with_reducible refine Kd.C_drew ?_)));(case side2 => exact HC0.out);rintro e w20 ⟨rfl,hb⟩;refine ⟨_,rfl,?_⟩;have n0_ := Aside0.mk (below_step (bM HB.out) hb);clear HB;have HB := n0_;clear n0_;(try clear hb);(try clear hb2);(try clear hk);(try clear hi))|((with_reducible refine gate_callee (f := 15) rfl ?_);refine goesL_ (some 31) rfl rfl Tryd.func15 (by kernel_rfl) rfl #[.slice A0 l0.length c0,.string a1] rfl (by (try simp only [List.map_toArray,List.map_cons,List.map_nil]);first|done|rfl|(simp only [List.length_drop,List.length_take];rfl)) ?_;(with_reducible refine (codesearchref25_Get.calls k _ _ l0 a1 t255 t256 _ ?side1 ?side2 A13.out).mono ?_);(case side1 => exact cM (Kd.C_below HR0.out HB.out));(case side2 => exact HC0.out);rintro e w' ⟨rfl,⟨nd,rfl⟩⟩;refine ⟨_,rfl,?_⟩))
      go_ret
      exact ⟨by first|rfl|(simp [errW_none,errW_some] <;> rfl)|(simp [*,errW_none,errW_some] <;> rfl),bM HB.out⟩
    ·rw [if_neg c11] at H
     have c11b0 : (t252 == 0) = false := beq_eq_false_iff_ne.mpr c11
     have c11b1 : (t252 != 0) = true := bne_iff_ne.mpr c11
     obtain rfl := Option.some.inj H
     go_enter Tryd.func3,Tryd.ntmps3
     go_wp2_with (first|((with_reducible refine gate_callee (f := 11) rfl ?_);refine goesL_ (some 9) rfl rfl Tryd.func11 (by kernel_rfl) rfl #[] rfl (by (try simp only [List.map_toArray,List.map_cons,List.map_nil]);first|done|rfl|(simp only [List.length_drop,List.length_take];rfl)) ?_;(with_reducible refine (codesearchlaw25_alive.calls k  true _ A3.out).mono ?_);rintro e w21 ⟨rfl,hb⟩;refine ⟨_,rfl,?_⟩;have n0_ := Aside0.mk (below_step (bM HB.out) hb);clear HB;have HB := n0_;clear n0_;(try clear hb);(try clear hb2);(try clear hk);(try clear hi))|((with_reducible refine gate_callee (f := 12) rfl ?_);refine goesL_ (some 15) rfl rfl Tryd.func12 (by kernel_rfl) rfl #[.slice A0 l0.length c0] rfl (by (try simp only [List.map_toArray,List.map_cons,List.map_nil]);first|done|rfl|(simp only [List.length_drop,List.length_take];rfl)) ?_;(with_reducible refine (tree_Right.calls k _ _ l0 t250 _ ?side1 ?side2 A7.out).mono ?_);(case side1 => exact cM (Kd.C_below HR0.out HB.out));(case side2 => exact HC0.out);rintro e w22 ⟨rfl,hb⟩;refine ⟨_,rfl,?_⟩;have n0_ := Aside0.mk (below_step (bM HB.out) hb);clear HB;have HB := n0_;clear n0_;(try clear hb);(try clear hb2);(try clear hk);(try clear hi))|((with_reducible refine gate_callee (f := 13) rfl ?_);refine goesL_ (some 17) rfl rfl Tryd.func13 (by kernel_rfl) rfl #[.slice A0 l0.length c0] rfl (by (try simp only [List.map_toArray,List.map_cons,List.map_nil]);first|done|rfl|(simp only [List.length_drop,List.length_take];rfl)) ?_;(with_reducible refine (codesearchref25_Right.calls k _ _ l0 t251 _ ?side1 ?side2 A8.out).mono ?_);(case side1 => exact cM (Kd.C_below HR0.out HB.out));(case side2 => exact HC0.out);rintro e w' ⟨rfl,⟨nd,rfl⟩⟩;refine ⟨_,rfl,?_⟩)|((with_reducible refine gate_callee (f := 13) rfl ?_);refine goesL_ (some 20) rfl rfl Tryd.func13 (by kernel_rfl) rfl #[.slice A0 l0.length c0] rfl (by (try simp only [List.map_toArray,List.map_cons,List.map_nil]);first|done|rfl|(simp only [List.length_drop,List.length_take];rfl)) ?_;(with_reducible refine (codesearchref25_Right.calls k _ _ l0 t252 _ ?side1 ?side2 A10.out).mono ?_);(case side1 => repeat (first|exact (Kd.C_below HR0.out (bM HB.out))|(with_reducible refine Kd.C_alloc ?_ _)|(with_reducible refine Kd.C_drewN ?_ _)|(with_reducible refine Kd.C_drew ?_)));(case side2 => exact HC0.out);rintro e w' ⟨rfl,⟨nd,rfl⟩⟩;refine ⟨_,rfl,?_⟩))
     go_ret
     exact ⟨by first|rfl|(simp [errW_none,errW_some] <;> rfl)|(simp [*,errW_none,errW_some] <;> rfl),bM HB.out⟩
   ·rw [if_neg c9] at H
    have c9b0 : (t250 == t251) = false := beq_eq_false_iff_ne.mpr c9
    have c9b1 : (t250 != t251) = true := bne_iff_ne.mpr c9
    obtain rfl := Option.some.inj H
    go_enter Tryd.func3,Tryd.ntmps3
    go_wp2_with (first|((with_reducible refine gate_callee (f := 11) rfl ?_);refine goesL_ (some 9) rfl rfl Tryd.func11 (by kernel_rfl) rfl #[] rfl (by (try simp only [List.map_toArray,List.map_cons,List.map_nil]);first|done|rfl|(simp only [List.length_drop,List.length_take];rfl)) ?_;(with_reducible refine (codesearchlaw25_alive.calls k  true _ A3.out).mono ?_);rintro e w23 ⟨rfl,hb⟩;refine ⟨_,rfl,?_⟩;have n0_ := Aside0.mk (below_step (bM HB.out) hb);clear HB;have HB := n0_;clear n0_;(try clear hb);(try clear hb2);(try clear hk);(try clear hi))|((with_reducible refine gate_callee (f := 12) rfl ?_);refine goesL_ (some 15) rfl rfl Tryd.func12 (by kernel_rfl) rfl #[.slice A0 l0.length c0] rfl (by (try simp only [List.map_toArray,List.map_cons,List.map_nil]);first|done|rfl|(simp only [List.length_drop,List.length_take];rfl)) ?_;(with_reducible refine (tree_Right.calls k _ _ l0 t250 _ ?side1 ?side2 A7.out).mono ?_);(case side1 => exact cM (Kd.C_below HR0.out HB.out));(case side2 => exact HC0.out);rintro e w24 ⟨rfl,hb⟩;refine ⟨_,rfl,?_⟩;have n0_ := Aside0.mk (below_step (bM HB.out) hb);clear HB;have HB := n0_;clear n0_;(try clear hb);(try clear hb2);(try clear hk);(try clear hi))|((with_reducible refine gate_callee (f := 13) rfl ?_);refine goesL_ (some 17) rfl rfl Tryd.func13 (by kernel_rfl) rfl #[.slice A0 l0.length c0] rfl (by (try simp only [List.map_toArray,List.map_cons,List.map_nil]);first|done|rfl|(simp only [List.length_drop,List.length_take];rfl)) ?_;(with_reducible refine (codesearchref25_Right.calls k _ _ l0 t251 _ ?side1 ?side2 A8.out).mono ?_);(case side1 => exact cM (Kd.C_below HR0.out HB.out));(case side2 => exact HC0.out);rintro e w' ⟨rfl,⟨nd,rfl⟩⟩;refine ⟨_,rfl,?_⟩))
    go_ret
    exact ⟨by first|rfl|(simp [errW_none,errW_some] <;> rfl)|(simp [*,errW_none,errW_some] <;> rfl),bM HB.out⟩
 ·replace c4 := Bool.eq_false_iff.mpr c4
  subst c4
  have H1 : (some false) = some r := by rw [if_neg (show ¬ (false = true) by decide)] at H;exact H
  clear H
  have H := H1
  clear H1
  obtain rfl := Option.some.inj H
  go_enter Tryd.func3,Tryd.ntmps3
  go_wp2_with (first|((with_reducible refine gate_callee (f := 11) rfl ?_);refine goesL_ (some 9) rfl rfl Tryd.func11 (by kernel_rfl) rfl #[] rfl (by (try simp only [List.map_toArray,List.map_cons,List.map_nil]);first|done|rfl|(simp only [List.length_drop,List.length_take];rfl)) ?_;(with_reducible refine (codesearchlaw25_alive.calls k  false _ A3.out).mono ?_);rintro e w25 ⟨rfl,hb⟩;refine ⟨_,rfl,?_⟩;have n0_ := Aside0.mk (below_step (bM HB.out) hb);clear HB;have HB := n0_;clear n0_;(try clear hb);(try clear hb2);(try clear hk);(try clear hi)))
  go_ret
  exact ⟨by first|rfl|(simp [errW_none,errW_some] <;> rfl)|(simp [*,errW_none,errW_some] <;> rfl),bM HB.out⟩

/-! ### codesearchlaw25_trees: function 19 -/
def codesearchlaw25_trees.f (k : Nat) (l0 : List (S45)) (l1 : List (S45)) (l2 : List (S45)) : Option (Bool) := (codesearchref25_Right.f k l0).bind fun t257 => (if t257 = 0 then ((codesearchref25_Right.f k l1).bind fun t258 => (if t258 = 0 then ((codesearchref25_Right.f k l2).bind fun t259 => (some (t259 == 0))) else (some false))) else (some false))
theorem codesearchlaw25_trees.mono : ∀ a0 a1 a2 k, LeO (codesearchlaw25_trees.f k a0 a1 a2) (codesearchlaw25_trees.f (k + 1) a0 a1 a2) := by
 intro a0 a1 a2 k
 unfold codesearchlaw25_trees.f
 repeat' first
  |(with_reducible exact codesearchref25_Right.mono _ _)
  |(with_reducible exact LeO.refl _)
  |(with_reducible exact LeO.none _)
  |(with_reducible refine LeO.ite ?_ ?_)
  |(with_reducible refine LeO.bind ?_ (fun _ => ?_))
  |exact codesearchref25_Right.mono _ _
  |exact LeO.none _
  |refine LeO.ite ?_ ?_
  |refine LeO.bind ?_ (fun _ => ?_)
set_option maxHeartbeats 4000000 in
set_option maxRecDepth 100000 in
theorem codesearchlaw25_trees.calls (k : Nat) (A0 : Option Addr) (c0 : Nat) (l0 : List (S45)) (A1 : Option Addr) (c1 : Nat) (l1 : List (S45)) (A2 : Option Addr) (c2 : Nat) (l2 : List (S45)) (r : Bool) (w : World) (hr0 : Kd.C k45 w A0 l0.length l0) (hc0 : l0.length ≤ c0) (hr1 : Kd.C k45 w A1 l1.length l1) (hc1 : l1.length ≤ c1) (hr2 : Kd.C k45 w A2 l2.length l2) (hc2 : l2.length ≤ c2) (h : codesearchlaw25_trees.f k l0 l1 l2 = some r) :
  Calls Tryd.prog 19 #[.slice A0 l0.length c0,.slice A1 l1.length c1,.slice A2 l2.length c2] w fun e w' => e = .returned (.bool r) ∧ Drawn0 w w' := by
 have HR0 := Aside0.mk hr0
 have HC0 := Aside0.mk hc0
 clear hr0 hc0
 have HR1 := Aside0.mk hr1
 have HC1 := Aside0.mk hc1
 clear hr1 hc1
 have HR2 := Aside0.mk hr2
 have HC2 := Aside0.mk hc2
 clear hr2 hc2
 have H : ((codesearchref25_Right.f k l0).bind fun t257 => (if t257 = 0 then ((codesearchref25_Right.f k l1).bind fun t258 => (if t258 = 0 then ((codesearchref25_Right.f k l2).bind fun t259 => (some (t259 == 0))) else (some false))) else (some false))) = some r := h
 clear h
 replace H := Option.bind_eq_some_iff.mp H
 obtain ⟨t257,A40,H⟩ := H
 replace H : (if t257 = 0 then ((codesearchref25_Right.f k l1).bind fun t258 => (if t258 = 0 then ((codesearchref25_Right.f k l2).bind fun t259 => (some (t259 == 0))) else (some false))) else (some false)) = some r := H
 have A4 := Aside0.mk A40
 clear A40
 by_cases c5 : t257 = 0
 ·rw [if_pos c5] at H
  have c5b0 : (t257 == 0) = true := beq_iff_eq.mpr c5
  have c5b1 : (t257 != 0) = false := bne_eq_false_iff_eq.mpr c5
  clear c5
  replace H := Option.bind_eq_some_iff.mp H
  obtain ⟨t258,A60,H⟩ := H
  replace H : (if t258 = 0 then ((codesearchref25_Right.f k l2).bind fun t259 => (some (t259 == 0))) else (some false)) = some r := H
  have A6 := Aside0.mk A60
  clear A60
  by_cases c7 : t258 = 0
  ·rw [if_pos c7] at H
   have c7b0 : (t258 == 0) = true := beq_iff_eq.mpr c7
   have c7b1 : (t258 != 0) = false := bne_eq_false_iff_eq.mpr c7
   clear c7
   replace H := Option.bind_eq_some_iff.mp H
   obtain ⟨t259,A80,H⟩ := H
   replace H : (some (t259 == 0)) = some r := H
   have A8 := Aside0.mk A80
   clear A80
   obtain rfl := Option.some.inj H
   go_enter Tryd.func19,Tryd.ntmps19
   go_wp2_with (first|((with_reducible refine gate_callee (f := 13) rfl ?_);refine goesL_ (some 8) rfl rfl Tryd.func13 (by kernel_rfl) rfl #[.slice A0 l0.length c0] rfl (by (try simp only [List.map_toArray,List.map_cons,List.map_nil]);first|done|rfl|(simp only [List.length_drop,List.length_take];rfl)) ?_;(with_reducible refine (codesearchref25_Right.calls k _ _ l0 t257 _ ?side1 ?side2 A4.out).mono ?_);(case side1 => exact cM HR0.out);(case side2 => exact HC0.out);rintro e w' ⟨rfl,⟨nd,rfl⟩⟩;refine ⟨_,rfl,?_⟩)|(go_at_call 13;(with_reducible refine (codesearchref25_Right.calls k _ _ l1 t258 _ ?side1 ?side2 A6.out).mono ?_);(case side1 => exact cM HR1.out);(case side2 => exact HC1.out);rintro e w' ⟨rfl,⟨nd,rfl⟩⟩)|(go_at_call 13;(with_reducible refine (codesearchref25_Right.calls k _ _ l2 t259 _ ?side1 ?side2 A8.out).mono ?_);(case side1 => exact cM HR2.out);(case side2 => exact HC2.out);rintro e w' ⟨rfl,⟨nd,rfl⟩⟩))
   go_ret
   exact ⟨by first|rfl|(simp;done)|(simp [*];done),by repeat (first|exact Drawn0.refl _|apply Drawn0.step)⟩
  ·rw [if_neg c7] at H
   have c7b0 : (t258 == 0) = false := beq_eq_false_iff_ne.mpr c7
   have c7b1 : (t258 != 0) = true := bne_iff_ne.mpr c7
   obtain rfl := Option.some.inj H
   go_enter Tryd.func19,Tryd.ntmps19
   go_wp2_with (first|((with_reducible refine gate_callee (f := 13) rfl ?_);refine goesL_ (some 8) rfl rfl Tryd.func13 (by kernel_rfl) rfl #[.slice A0 l0.length c0] rfl (by (try simp only [List.map_toArray,List.map_cons,List.map_nil]);first|done|rfl|(simp only [List.length_drop,List.length_take];rfl)) ?_;(with_reducible refine (codesearchref25_Right.calls k _ _ l0 t257 _ ?side1 ?side2 A4.out).mono ?_);(case side1 => exact cM HR0.out);(case side2 => exact HC0.out);rintro e w' ⟨rfl,⟨nd,rfl⟩⟩;refine ⟨_,rfl,?_⟩)|(go_at_call 13;(with_reducible refine (codesearchref25_Right.calls k _ _ l1 t258 _ ?side1 ?side2 A6.out).mono ?_);(case side1 => exact cM HR1.out);(case side2 => exact HC1.out);rintro e w' ⟨rfl,⟨nd,rfl⟩⟩))
   go_ret
   exact ⟨by first|rfl|(simp;done)|(simp [*];done),by repeat (first|exact Drawn0.refl _|apply Drawn0.step)⟩
 ·rw [if_neg c5] at H
  have c5b0 : (t257 == 0) = false := beq_eq_false_iff_ne.mpr c5
  have c5b1 : (t257 != 0) = true := bne_iff_ne.mpr c5
  obtain rfl := Option.some.inj H
  go_enter Tryd.func19,Tryd.ntmps19
  go_wp2_with (first|((with_reducible refine gate_callee (f := 13) rfl ?_);refine goesL_ (some 8) rfl rfl Tryd.func13 (by kernel_rfl) rfl #[.slice A0 l0.length c0] rfl (by (try simp only [List.map_toArray,List.map_cons,List.map_nil]);first|done|rfl|(simp only [List.length_drop,List.length_take];rfl)) ?_;(with_reducible refine (codesearchref25_Right.calls k _ _ l0 t257 _ ?side1 ?side2 A4.out).mono ?_);(case side1 => exact cM HR0.out);(case side2 => exact HC0.out);rintro e w' ⟨rfl,⟨nd,rfl⟩⟩;refine ⟨_,rfl,?_⟩))
  go_ret
  exact ⟨by first|rfl|(simp;done)|(simp [*];done),by repeat (first|exact Drawn0.refl _|apply Drawn0.step)⟩

/-! ### codesearchref25_Set: function 39 -/
mutual
def codesearchref25_Set.l0 : Nat → List (S45) → ByteArray → Int → List (S45) → Bool → Int → Option ((List (S45)))
|0,_,_,_,_,_,_ => none
|k + 1,x0,x1,x2,x7,x8,x9 => if x9 < (x0.length : Int) then (if x8 = true then (codesearchref25_Set.j1 k x0 x1 x2 x7 x8 x9 false) else (if 0 ≤ x9 then (codesearchref25_Set.j1 k x0 x1 x2 x7 x8 x9 (!(Op.bytesLess (((rd_T45 x0 x9).f0).toList) x1.toList))) else (none))) else (if x8 = true then (some x7) else (if x7.length < 5864062014805 then (some (x7 ++ [(⟨x1,x2⟩ : S45)])) else (none)))
def codesearchref25_Set.j1 : Nat → List (S45) → ByteArray → Int → List (S45) → Bool → Int → Bool → Option ((List (S45)))
|0,_,_,_,_,_,_,_ => none
|k + 1,x0,x1,x2,x7,x8,x9,x28 => if x28 = true then (if x7.length < 5864062014805 then ((some (x7 ++ [(⟨x1,x2⟩ : S45)] : List (S45))).bind fun y264 => (if 0 ≤ x9 then (if x9 < (x0.length : Int) then (if ((rd_T45 x0 x9).f0).toList = x1.toList then (codesearchref25_Set.l0 k x0 x1 x2 y264 true (wrap64 (x9 + 1))) else (if y264.length < 5864062014805 then (codesearchref25_Set.l0 k x0 x1 x2 (y264 ++ [(⟨(rd_T45 x0 x9).f0,(rd_T45 x0 x9).f1⟩ : S45)]) true (wrap64 (x9 + 1))) else (none))) else (none)) else (none))) else (none)) else (if 0 ≤ x9 then (if x9 < (x0.length : Int) then (if ((rd_T45 x0 x9).f0).toList = x1.toList then (codesearchref25_Set.l0 k x0 x1 x2 x7 x8 (wrap64 (x9 + 1))) else (if x7.length < 5864062014805 then (codesearchref25_Set.l0 k x0 x1 x2 (x7 ++ [(⟨(rd_T45 x0 x9).f0,(rd_T45 x0 x9).f1⟩ : S45)]) x8 (wrap64 (x9 + 1))) else (none))) else (none)) else (none))
end
def codesearchref25_Set.f (k : Nat) (l0 : List (S45)) (a1 : ByteArray) (a2 : Int) : Option ((List (S45))) := codesearchref25_Set.l0 k l0 a1 a2 ([] : List (S45)) (a2 == 0) 0
theorem codesearchref25_Set.mono_l : ∀ k, (∀ y0 y1 y2 y3 y4 y5, LeO (codesearchref25_Set.l0 k y0 y1 y2 y3 y4 y5) (codesearchref25_Set.l0 (k + 1) y0 y1 y2 y3 y4 y5)) ∧ (∀ y0 y1 y2 y3 y4 y5 y6, LeO (codesearchref25_Set.j1 k y0 y1 y2 y3 y4 y5 y6) (codesearchref25_Set.j1 (k + 1) y0 y1 y2 y3 y4 y5 y6))
|0 => ⟨fun _ _ _ _ _ _ r h => by simp [codesearchref25_Set.l0] at h,fun _ _ _ _ _ _ _ r h => by simp [codesearchref25_Set.j1] at h⟩
|k + 1 => by
  obtain ⟨ih0,ih1⟩ := codesearchref25_Set.mono_l k
  refine ⟨?_,?_⟩
  ·intro y0 y1 y2 y3 y4 y5
   unfold codesearchref25_Set.l0
   repeat' first
  |(with_reducible exact ih0 _ _ _ _ _ _)
  |(with_reducible exact ih1 _ _ _ _ _ _ _)
  |(with_reducible exact LeO.refl _)
  |(with_reducible exact LeO.none _)
  |(with_reducible refine LeO.ite ?_ ?_)
  |(with_reducible refine LeO.bind ?_ (fun _ => ?_))
  |exact ih0 _ _ _ _ _ _
  |exact ih1 _ _ _ _ _ _ _
  |exact LeO.none _
  |refine LeO.ite ?_ ?_
  |refine LeO.bind ?_ (fun _ => ?_)
  ·intro y0 y1 y2 y3 y4 y5 y6
   unfold codesearchref25_Set.j1
   repeat' first
  |(with_reducible exact ih0 _ _ _ _ _ _)
  |(with_reducible exact ih1 _ _ _ _ _ _ _)
  |(with_reducible exact LeO.refl _)
  |(with_reducible exact LeO.none _)
  |(with_reducible refine LeO.ite ?_ ?_)
  |(with_reducible refine LeO.bind ?_ (fun _ => ?_))
  |exact ih0 _ _ _ _ _ _
  |exact ih1 _ _ _ _ _ _ _
  |exact LeO.none _
  |refine LeO.ite ?_ ?_
  |refine LeO.bind ?_ (fun _ => ?_)
theorem codesearchref25_Set.mono : ∀ a0 a1 a2 k, LeO (codesearchref25_Set.f k a0 a1 a2) (codesearchref25_Set.f (k + 1) a0 a1 a2) := by
 intro a0 a1 a2 k
 obtain ⟨ih0,ih1⟩ := codesearchref25_Set.mono_l k
 unfold codesearchref25_Set.f
 repeat' first
  |(with_reducible exact ih0 _ _ _ _ _ _)
  |(with_reducible exact ih1 _ _ _ _ _ _ _)
  |(with_reducible exact LeO.refl _)
  |(with_reducible exact LeO.none _)
  |(with_reducible refine LeO.ite ?_ ?_)
  |(with_reducible refine LeO.bind ?_ (fun _ => ?_))
  |exact ih0 _ _ _ _ _ _
  |exact ih1 _ _ _ _ _ _ _
  |exact LeO.none _
  |refine LeO.ite ?_ ?_
  |refine LeO.bind ?_ (fun _ => ?_)
set_option maxHeartbeats 4000000 in
set_option maxRecDepth 100000 in
theorem codesearchref25_Set.calls (k : Nat) (A0 : Option Addr) (c0 : Nat) (l0 : List (S45)) (a1 : ByteArray) (a2 : Int) (r : List (S45)) (w : World) (hr0 : Kd.C k45 w A0 l0.length l0) (hc0 : l0.length ≤ c0) (h : codesearchref25_Set.f k l0 a1 a2 = some r) :
  Calls Tryd.prog 39 #[.slice A0 l0.length c0,.string a1,.int .i64 a2] w fun e w' => ∃ v0_ : Value,e = .returned (v0_) ∧ Kd.R k45 45 w' w.heap.size (fun _ => True) v0_ r ∧ Below w.heap.size w w' := by
 have hu45 := Tryd.underlying45
 have HR0 := Aside0.mk hr0
 have HC0 := Aside0.mk hc0
 clear hr0 hc0
 have HB := Aside0.mk (Below.refl w.heap.size w)
 have H : (codesearchref25_Set.l0 k l0 a1 a2 ([] : List (S45)) (a2 == 0) 0) = some r := h
 clear h
 have H' := Aside0.mk H
 clear H
 go_enter Tryd.func39,Tryd.ntmps39
 go_wp2
 go_loopg [7,8,9] k (fun kq v7 v8 v9 w' => ∃ (x7_1 : List (S45)) (x8_1 : Bool) (x9_1 : Int),v8 = .bool x8_1 ∧ v9 = .int .i64 x9_1 ∧ Aside0 (codesearchref25_Set.l0 kq l0 a1 a2 x7_1 x8_1 x9_1 = some r) ∧ Aside0 (kq ≤ k) ∧ Aside0 (Kd.R k45 45 w' w.heap.size (fun _ => True) v7 x7_1) ∧ Aside0 (Below w.heap.size w w'))
 case atStart => exact ⟨(([] : List (S45))),((a2 == 0)),(0),(by first|rfl|(simp;done)|(simp [*];done)),(by first|rfl|(simp;done)|(simp [*];done)),H',⟨Nat.le_refl _⟩,⟨by first|exact Kd.R_nil _ _ _ _ _|exact Kd.N_nil _ _ _ _ _|exact Kd.V_nil _ _ _ _ _|exact Kd.Q_nil _ _ _ _ _|exact Kd.S_nil _ _ _ _ _⟩,⟨bM HB.out⟩⟩
 case round =>
  clear H'
  try clear p2
  try clear c3
  obtain ⟨x7_1,x8_1,x9_1,rfl,rfl,HA,HK1,HO_7,HB⟩ := hrel
  cases gk with
 |zero => exact absurd HA.out (by simp [codesearchref25_Set.l0])
 |succ k1 =>
   have H := HA.out
   clear HA
   simp only [codesearchref25_Set.l0] at H
   by_cases c4 : x9_1 < (l0.length : Int)
   ·rw [if_pos c4] at H
    have c4b0 : decide (x9_1 < (l0.length : Int)) = true := decide_eq_true c4
    clear c4
    have HC5 := Aside0.mk H
    clear H
    go_upto_region 6 with (fail)
    go_cut [28] (fun v28 wc => ∃ (kq : Nat) (x28_4 : Bool),v28 = .bool x28_4 ∧ Aside0 (codesearchref25_Set.j1 kq l0 a1 a2 x7_1 x8_1 x9_1 x28_4 = some r) ∧ Aside0 (kq ≤ k1) ∧ Aside0 (Kd.R k45 45 wc w.heap.size (fun _ => True) u7 x7_1) ∧ Aside0 (Below w.heap.size w wc))
    case first =>
     have H := HC5.out
     clear HC5
     by_cases c6 : x8_1 = true
     ·subst c6
      have H1 : (codesearchref25_Set.j1 k1 l0 a1 a2 x7_1 true x9_1 false) = some r := by rw [if_pos rfl] at H;exact H
      clear H
      have H := H1
      clear H1
      have H' := Aside0.mk H
      clear H
      go_wp2
      go_meet
      case rel => exact ⟨_,(false),(by first|rfl|(simp;done)|(simp [*];done)),H',⟨by have := HK1.out;first|omega|exact Nat.le_refl _⟩,⟨rM HO_7.out⟩,⟨bM HB.out⟩⟩
     ·replace c6 := Bool.eq_false_iff.mpr c6
      subst c6
      have H1 : (if 0 ≤ x9_1 then (codesearchref25_Set.j1 k1 l0 a1 a2 x7_1 false x9_1 (!(Op.bytesLess (((rd_T45 l0 x9_1).f0).toList) a1.toList))) else (none)) = some r := by rw [if_neg (show ¬ (false = true) by decide)] at H;exact H
      clear H
      have H := H1
      clear H1
      by_cases c7 : 0 ≤ x9_1
      ·rw [if_pos c7] at H
       have c7b0 : decide (0 ≤ x9_1) = true := decide_eq_true c7
       clear c7
       (first|rw [c7b0]|(simp only [i64_w,i32_w];rw [c7b0])|rw [c7b1]|skip)
       have H' := Aside0.mk H
       clear H
       have p263 : 0 ≤ (x9_1 : Int) := of_decide_eq_true (by first|(with_reducible assumption)|assumption)
       have q263 : x9_1 < (l0.length : Int) := of_decide_eq_true (by first|(with_reducible assumption)|assumption)
       obtain ⟨ad263,e263,hx263_0,hx263_1⟩ := at_T45 HR0.out x9_1 p263 q263
       cases e263
       replace hx263_0 := (HB.out.cell (World.block_lt_of_cell? w _ hx263_0)).trans hx263_0
       replace hx263_1 := (HB.out.cell (World.block_lt_of_cell? w _ hx263_1)).trans hx263_1
       replace p263 := eq_true p263
       replace q263 := eq_true q263
       go_wp2
       go_meet
       case rel => exact ⟨_,(!(Op.bytesLess (((rd_T45 l0 x9_1).f0).toList) a1.toList)),(by first|rfl|(simp;done)|(simp [*];done)),H',⟨by have := HK1.out;first|omega|exact Nat.le_refl _⟩,⟨rM HO_7.out⟩,⟨bM HB.out⟩⟩
      ·rw [if_neg c7] at H
       exact absurd H (by simp)
    case rest =>
     clear HC5
     try clear p2
     try clear q2
     try clear hx2
     try clear c3
     try clear c4
     try clear c4b0
     try clear c6
     try clear c7
     try clear c7b0
     try clear hx263_0
     try clear hx263_1
     try clear p2
     try clear p263
     try clear q263
     obtain ⟨kq,x28_4,rfl,HA,HJ4,HO_7,HB⟩ := hcut
     cases kq with
    |zero => exact absurd HA.out (by simp [codesearchref25_Set.j1])
    |succ kj4 =>
      have H := HA.out
      clear HA
      simp only [codesearchref25_Set.j1] at H
      by_cases c8 : x28_4 = true
      ·subst c8
       have H1 : (if x7_1.length < 5864062014805 then ((some (x7_1 ++ [(⟨a1,a2⟩ : S45)] : List (S45))).bind fun y264 => (if 0 ≤ x9_1 then (if x9_1 < (l0.length : Int) then (if ((rd_T45 l0 x9_1).f0).toList = a1.toList then (codesearchref25_Set.l0 kj4 l0 a1 a2 y264 true (wrap64 (x9_1 + 1))) else (if y264.length < 5864062014805 then (codesearchref25_Set.l0 kj4 l0 a1 a2 (y264 ++ [(⟨(rd_T45 l0 x9_1).f0,(rd_T45 l0 x9_1).f1⟩ : S45)]) true (wrap64 (x9_1 + 1))) else (none))) else (none)) else (none))) else (none)) = some r := by rw [if_pos rfl] at H;exact H
       clear H
       have H := H1
       clear H1
       by_cases c9 : x7_1.length < 5864062014805
       ·rw [if_pos c9] at H
        have LMc9 := Aside0.mk c9
        clear c9
        obtain ⟨y264,hy264⟩ : ∃ y_ : List (S45),y_ = (x7_1 ++ [(⟨a1,a2⟩ : S45)]) := ⟨_,rfl⟩
        replace H : (if 0 ≤ x9_1 then (if x9_1 < (l0.length : Int) then (if ((rd_T45 l0 x9_1).f0).toList = a1.toList then (codesearchref25_Set.l0 kj4 l0 a1 a2 y264 true (wrap64 (x9_1 + 1))) else (if y264.length < 5864062014805 then (codesearchref25_Set.l0 kj4 l0 a1 a2 (y264 ++ [(⟨(rd_T45 l0 x9_1).f0,(rd_T45 l0 x9_1).f1⟩ : S45)]) true (wrap64 (x9_1 + 1))) else (none))) else (none)) else (none)) = some r := by first|(rw [hy264];with_reducible exact H)|(have H2_ := (Option.bind_some _ _).symm.trans H;rw [hy264];with_reducible exact H2_)|(have H2_ := (Option.bind_some _ _).symm.trans H;with_reducible exact H2_)|with_reducible exact H|(rw [hy264];exact H)|exact H
        have Ny264 := Aside0.mk hy264
        clear hy264
        by_cases c10 : 0 ≤ x9_1
        ·rw [if_pos c10] at H
         have c10b0 : decide (0 ≤ x9_1) = true := decide_eq_true c10
         clear c10
         by_cases c11 : x9_1 < (l0.length : Int)
         ·rw [if_pos c11] at H
          have c11b0 : decide (x9_1 < (l0.length : Int)) = true := decide_eq_true c11
          clear c11
          by_cases c12 : ((rd_T45 l0 x9_1).f0).toList = a1.toList
          ·rw [if_pos c12] at H
           have c12b0 : (((rd_T45 l0 x9_1).f0).toList == a1.toList) = true := beq_iff_eq.mpr c12
           have c12b1 : (((rd_T45 l0 x9_1).f0).toList != a1.toList) = false := bne_eq_false_iff_eq.mpr c12
           clear c12
           have H' := Aside0.mk H
           clear H
           go_wp2_with (first|((with_reducible refine gate_builtin (b := .append) (xs := #[.tmp 29,.tmp 33]) rfl ?_);at_builtin;refine Kd.R_append k45 (w0 := w) w.heap.size rfl (.tmp 29) (.tmp 33) 22 45 (.agg #[(.string ⟨#[]⟩),(.int .i64 0)]) 24 rfl Tryd.underlying22 info45 rfl (by decide) (by omega) u7 x7_1 (⟨a1,a2⟩ : S45) [.string a1,.int .i64 a2] (fun _ => True) (fun _ => False) rfl rfl ?aP (fun _ hk => hk.elim) ?aF ?aO ?aB ?aS ?aL ?_;(case aP => exact k45_mkM _ _ _ (⟨a1,a2⟩ : S45));(case aB => exact (bM HB.out));(case aF => exact (fun _ _ => trivial));(case aO => exact (rM HO_7.out));(case aS => exact (below_size (bM HB.out)));(case aL => have := LMc9.out;omega);intro v265 w13 ho hb hg hat;rw [← Ny264.out] at ho;have n0_ := Aside0.mk (hb);have n1_ := Aside0.mk (ho);clear HB;clear HO_7;have HB := n0_;have HO266 := n1_;clear n0_ n1_;clear ho hb hg hat;have p267 : 0 ≤ (x9_1 : Int) := of_decide_eq_true (by first|(with_reducible assumption)|assumption);have q267 : x9_1 < (l0.length : Int) := of_decide_eq_true (by first|(with_reducible assumption)|assumption);obtain ⟨ad267,e267,hx267_0,hx267_1⟩ := at_T45 HR0.out x9_1 p267 q267;cases e267;replace hx267_0 := (HB.out.cell (World.block_lt_of_cell? w _ hx267_0)).trans hx267_0;replace hx267_1 := (HB.out.cell (World.block_lt_of_cell? w _ hx267_1)).trans hx267_1;replace p267 := eq_true p267;replace q267 := eq_true q267))
           go_roundg kj4
           case measure => have := HK1.out;have := HJ4.out;omega
           case rel => exact ⟨(y264),(true),(wrap64 (x9_1 + 1)),(by first|rfl|(simp;done)|(simp [*];done)),(by first|rfl|(simp;done)|(simp [*];done)),H',⟨by have := HK1.out;have := HJ4.out;omega⟩,⟨rM HO266.out⟩,⟨bM HB.out⟩⟩
          ·rw [if_neg c12] at H
           have c12b0 : (((rd_T45 l0 x9_1).f0).toList == a1.toList) = false := beq_eq_false_iff_ne.mpr c12
           have c12b1 : (((rd_T45 l0 x9_1).f0).toList != a1.toList) = true := bne_iff_ne.mpr c12
           by_cases c14 : y264.length < 5864062014805
           ·rw [if_pos c14] at H
            have LMc14 := Aside0.mk c14
            clear c14
            obtain ⟨y269,hy269⟩ : ∃ y_ : List (S45),y_ = (y264 ++ [(⟨(rd_T45 l0 x9_1).f0,(rd_T45 l0 x9_1).f1⟩ : S45)]) := ⟨_,rfl⟩
            replace H : (codesearchref25_Set.l0 kj4 l0 a1 a2 y269 true (wrap64 (x9_1 + 1))) = some r := by first|(rw [hy269];with_reducible exact H)|(have H2_ := (Option.bind_some _ _).symm.trans H;rw [hy269];with_reducible exact H2_)|(have H2_ := (Option.bind_some _ _).symm.trans H;with_reducible exact H2_)|with_reducible exact H|(rw [hy269];exact H)|exact H
            have Ny269 := Aside0.mk hy269
            clear hy269
            have H' := Aside0.mk H
            clear H
            go_wp2_with (first|((with_reducible refine gate_builtin (b := .append) (xs := #[.tmp 29,.tmp 33]) rfl ?_);at_builtin;refine Kd.R_append k45 (w0 := w) w.heap.size rfl (.tmp 29) (.tmp 33) 22 45 (.agg #[(.string ⟨#[]⟩),(.int .i64 0)]) 24 rfl Tryd.underlying22 info45 rfl (by decide) (by omega) u7 x7_1 (⟨a1,a2⟩ : S45) [.string a1,.int .i64 a2] (fun _ => True) (fun _ => False) rfl rfl ?aP (fun _ hk => hk.elim) ?aF ?aO ?aB ?aS ?aL ?_;(case aP => exact k45_mkM _ _ _ (⟨a1,a2⟩ : S45));(case aB => exact (bM HB.out));(case aF => exact (fun _ _ => trivial));(case aO => exact (rM HO_7.out));(case aS => exact (below_size (bM HB.out)));(case aL => have := LMc9.out;omega);intro v265 w15 ho hb hg hat;rw [← Ny264.out] at ho;have n0_ := Aside0.mk (hb);have n1_ := Aside0.mk (ho);clear HB;clear HO_7;have HB := n0_;have HO266 := n1_;clear n0_ n1_;clear ho hb hg hat;have p267 : 0 ≤ (x9_1 : Int) := of_decide_eq_true (by first|(with_reducible assumption)|assumption);have q267 : x9_1 < (l0.length : Int) := of_decide_eq_true (by first|(with_reducible assumption)|assumption);obtain ⟨ad267,e267,hx267_0,hx267_1⟩ := at_T45 HR0.out x9_1 p267 q267;cases e267;replace hx267_0 := (HB.out.cell (World.block_lt_of_cell? w _ hx267_0)).trans hx267_0;replace hx267_1 := (HB.out.cell (World.block_lt_of_cell? w _ hx267_1)).trans hx267_1;replace p267 := eq_true p267;replace q267 := eq_true q267;have p268 : 0 ≤ (x9_1 : Int) := of_decide_eq_true (by first|(with_reducible assumption)|assumption);have q268 : x9_1 < (l0.length : Int) := of_decide_eq_true (by first|(with_reducible assumption)|assumption);obtain ⟨ad268,e268,hx268_0,hx268_1⟩ := at_T45 HR0.out x9_1 p268 q268;obtain rfl : ad267 = ad268 := (by injection e268);replace hx268_0 := (HB.out.cell (World.block_lt_of_cell? w _ hx268_0)).trans hx268_0;replace hx268_1 := (HB.out.cell (World.block_lt_of_cell? w _ hx268_1)).trans hx268_1;replace p268 := eq_true p268;replace q268 := eq_true q268)|((with_reducible refine gate_builtin (b := .append) (xs := #[.tmp 42,.tmp 47]) rfl ?_);at_builtin;refine Kd.R_append k45 (w0 := w) w.heap.size rfl (.tmp 42) (.tmp 47) 22 45 (.agg #[(.string ⟨#[]⟩),(.int .i64 0)]) 24 rfl Tryd.underlying22 info45 rfl (by decide) (by omega) v265 y264 (⟨(rd_T45 l0 x9_1).f0,(rd_T45 l0 x9_1).f1⟩ : S45) [.string ((rd_T45 l0 x9_1).f0),.int .i64 ((rd_T45 l0 x9_1).f1)] (fun _ => True) (fun _ => False) rfl rfl ?aP (fun _ hk => hk.elim) ?aF ?aO ?aB ?aS ?aL ?_;(case aP => exact k45_mkM _ _ _ (⟨(rd_T45 l0 x9_1).f0,(rd_T45 l0 x9_1).f1⟩ : S45));(case aB => exact (bM HB.out));(case aF => exact (fun _ _ => trivial));(case aO => exact (rM HO266.out));(case aS => exact (below_size (bM HB.out)));(case aL => have := LMc14.out;omega);intro v270 w16 ho hb hg hat;rw [← Ny269.out] at ho;have n0_ := Aside0.mk (hb);have n1_ := Aside0.mk (ho);clear HB;clear HO266;have HB := n0_;have HO271 := n1_;clear n0_ n1_;clear ho hb hg hat))
            go_roundg kj4
            case measure => have := HK1.out;have := HJ4.out;omega
            case rel => exact ⟨(y269),(true),(wrap64 (x9_1 + 1)),(by first|rfl|(simp;done)|(simp [*];done)),(by first|rfl|(simp;done)|(simp [*];done)),H',⟨by have := HK1.out;have := HJ4.out;omega⟩,⟨rM HO271.out⟩,⟨bM HB.out⟩⟩
           ·rw [if_neg c14] at H
            exact absurd H (by simp)
         ·rw [if_neg c11] at H
          exact absurd H (by simp)
        ·rw [if_neg c10] at H
         exact absurd H (by simp)
       ·rw [if_neg c9] at H
        exact absurd H (by simp)
      ·replace c8 := Bool.eq_false_iff.mpr c8
       subst c8
       have H1 : (if 0 ≤ x9_1 then (if x9_1 < (l0.length : Int) then (if ((rd_T45 l0 x9_1).f0).toList = a1.toList then (codesearchref25_Set.l0 kj4 l0 a1 a2 x7_1 x8_1 (wrap64 (x9_1 + 1))) else (if x7_1.length < 5864062014805 then (codesearchref25_Set.l0 kj4 l0 a1 a2 (x7_1 ++ [(⟨(rd_T45 l0 x9_1).f0,(rd_T45 l0 x9_1).f1⟩ : S45)]) x8_1 (wrap64 (x9_1 + 1))) else (none))) else (none)) else (none)) = some r := by rw [if_neg (show ¬ (false = true) by decide)] at H;exact H
       clear H
       have H := H1
       clear H1
       by_cases c17 : 0 ≤ x9_1
       ·rw [if_pos c17] at H
        have c17b0 : decide (0 ≤ x9_1) = true := decide_eq_true c17
        clear c17
        by_cases c18 : x9_1 < (l0.length : Int)
        ·rw [if_pos c18] at H
         have c18b0 : decide (x9_1 < (l0.length : Int)) = true := decide_eq_true c18
         clear c18
         by_cases c19 : ((rd_T45 l0 x9_1).f0).toList = a1.toList
         ·rw [if_pos c19] at H
          have c19b0 : (((rd_T45 l0 x9_1).f0).toList == a1.toList) = true := beq_iff_eq.mpr c19
          have c19b1 : (((rd_T45 l0 x9_1).f0).toList != a1.toList) = false := bne_eq_false_iff_eq.mpr c19
          clear c19
          have H' := Aside0.mk H
          clear H
          have p272 : 0 ≤ (x9_1 : Int) := of_decide_eq_true (by first|(with_reducible assumption)|assumption)
          have q272 : x9_1 < (l0.length : Int) := of_decide_eq_true (by first|(with_reducible assumption)|assumption)
          obtain ⟨ad272,e272,hx272_0,hx272_1⟩ := at_T45 HR0.out x9_1 p272 q272
          cases e272
          replace hx272_0 := (HB.out.cell (World.block_lt_of_cell? w _ hx272_0)).trans hx272_0
          replace hx272_1 := (HB.out.cell (World.block_lt_of_cell? w _ hx272_1)).trans hx272_1
          replace p272 := eq_true p272
          replace q272 := eq_true q272
          go_wp2
          go_roundg kj4
          case measure => have := HK1.out;have := HJ4.out;omega
          case rel => exact ⟨(x7_1),(x8_1),(wrap64 (x9_1 + 1)),(by first|rfl|(simp;done)|(simp [*];done)),(by first|rfl|(simp;done)|(simp [*];done)),H',⟨by have := HK1.out;have := HJ4.out;omega⟩,⟨rM HO_7.out⟩,⟨bM HB.out⟩⟩
         ·rw [if_neg c19] at H
          have c19b0 : (((rd_T45 l0 x9_1).f0).toList == a1.toList) = false := beq_eq_false_iff_ne.mpr c19
          have c19b1 : (((rd_T45 l0 x9_1).f0).toList != a1.toList) = true := bne_iff_ne.mpr c19
          by_cases c20 : x7_1.length < 5864062014805
          ·rw [if_pos c20] at H
           have LMc20 := Aside0.mk c20
           clear c20
           obtain ⟨y274,hy274⟩ : ∃ y_ : List (S45),y_ = (x7_1 ++ [(⟨(rd_T45 l0 x9_1).f0,(rd_T45 l0 x9_1).f1⟩ : S45)]) := ⟨_,rfl⟩
           replace H : (codesearchref25_Set.l0 kj4 l0 a1 a2 y274 x8_1 (wrap64 (x9_1 + 1))) = some r := by first|(rw [hy274];with_reducible exact H)|(have H2_ := (Option.bind_some _ _).symm.trans H;rw [hy274];with_reducible exact H2_)|(have H2_ := (Option.bind_some _ _).symm.trans H;with_reducible exact H2_)|with_reducible exact H|(rw [hy274];exact H)|exact H
           have Ny274 := Aside0.mk hy274
           clear hy274
           have H' := Aside0.mk H
           clear H
           have p272 : 0 ≤ (x9_1 : Int) := of_decide_eq_true (by first|(with_reducible assumption)|assumption)
           have q272 : x9_1 < (l0.length : Int) := of_decide_eq_true (by first|(with_reducible assumption)|assumption)
           obtain ⟨ad272,e272,hx272_0,hx272_1⟩ := at_T45 HR0.out x9_1 p272 q272
           cases e272
           replace hx272_0 := (HB.out.cell (World.block_lt_of_cell? w _ hx272_0)).trans hx272_0
           replace hx272_1 := (HB.out.cell (World.block_lt_of_cell? w _ hx272_1)).trans hx272_1
           replace p272 := eq_true p272
           replace q272 := eq_true q272
           have p273 : 0 ≤ (x9_1 : Int) := of_decide_eq_true (by first|(with_reducible assumption)|assumption)
           have q273 : x9_1 < (l0.length : Int) := of_decide_eq_true (by first|(with_reducible assumption)|assumption)
           obtain ⟨ad273,e273,hx273_0,hx273_1⟩ := at_T45 HR0.out x9_1 p273 q273
           obtain rfl : ad272 = ad273 := (by injection e273)
           replace hx273_0 := (HB.out.cell (World.block_lt_of_cell? w _ hx273_0)).trans hx273_0
           replace hx273_1 := (HB.out.cell (World.block_lt_of_cell? w _ hx273_1)).trans hx273_1
           replace p273 := eq_true p273
           replace q273 := eq_true q273
           go_wp2_with (first|((with_reducible refine gate_builtin (b := .append) (xs := #[.tmp 42,.tmp 47]) rfl ?_);at_builtin;refine Kd.R_append k45 (w0 := w) w.heap.size rfl (.tmp 42) (.tmp 47) 22 45 (.agg #[(.string ⟨#[]⟩),(.int .i64 0)]) 24 rfl Tryd.underlying22 info45 rfl (by decide) (by omega) u7 x7_1 (⟨(rd_T45 l0 x9_1).f0,(rd_T45 l0 x9_1).f1⟩ : S45) [.string ((rd_T45 l0 x9_1).f0),.int .i64 ((rd_T45 l0 x9_1).f1)] (fun _ => True) (fun _ => False) rfl rfl ?aP (fun _ hk => hk.elim) ?aF ?aO ?aB ?aS ?aL ?_;(case aP => exact k45_mkM _ _ _ (⟨(rd_T45 l0 x9_1).f0,(rd_T45 l0 x9_1).f1⟩ : S45));(case aB => exact (bM HB.out));(case aF => exact (fun _ _ => trivial));(case aO => exact (rM HO_7.out));(case aS => exact (below_size (bM HB.out)));(case aL => have := LMc20.out;omega);intro v275 w21 ho hb hg hat;rw [← Ny274.out] at ho;have n0_ := Aside0.mk (hb);have n1_ := Aside0.mk (ho);clear HB;clear HO_7;have HB := n0_;have HO276 := n1_;clear n0_ n1_;clear ho hb hg hat))
           go_roundg kj4
           case measure => have := HK1.out;have := HJ4.out;omega
           case rel => exact ⟨(y274),(x8_1),(wrap64 (x9_1 + 1)),(by first|rfl|(simp;done)|(simp [*];done)),(by first|rfl|(simp;done)|(simp [*];done)),H',⟨by have := HK1.out;have := HJ4.out;omega⟩,⟨rM HO276.out⟩,⟨bM HB.out⟩⟩
          ·rw [if_neg c20] at H
           exact absurd H (by simp)
        ·rw [if_neg c18] at H
         exact absurd H (by simp)
       ·rw [if_neg c17] at H
        exact absurd H (by simp)
   ·rw [if_neg c4] at H
    have c4b0 : decide (x9_1 < (l0.length : Int)) = false := decide_eq_false c4
    clear c4
    by_cases c22 : x8_1 = true
    ·subst c22
     have H1 : (some x7_1) = some r := by rw [if_pos rfl] at H;exact H
     clear H
     have H := H1
     clear H1
     obtain rfl := Option.some.inj H
     go_wp2
     go_ret
     exact ⟨_,by first|rfl|(simp [errW_none,errW_some] <;> rfl)|(simp [*,errW_none,errW_some] <;> rfl),rM HO_7.out,bM HB.out⟩
    ·replace c22 := Bool.eq_false_iff.mpr c22
     subst c22
     have H1 : (if x7_1.length < 5864062014805 then (some (x7_1 ++ [(⟨a1,a2⟩ : S45)])) else (none)) = some r := by rw [if_neg (show ¬ (false = true) by decide)] at H;exact H
     clear H
     have H := H1
     clear H1
     by_cases c23 : x7_1.length < 5864062014805
     ·rw [if_pos c23] at H
      have LMc23 := Aside0.mk c23
      clear c23
      obtain ⟨y260,hy260⟩ : ∃ y_ : List (S45),y_ = (x7_1 ++ [(⟨a1,a2⟩ : S45)]) := ⟨_,rfl⟩
      replace H : (some y260) = some r := by first|(rw [hy260];with_reducible exact H)|(have H2_ := (Option.bind_some _ _).symm.trans H;rw [hy260];with_reducible exact H2_)|(have H2_ := (Option.bind_some _ _).symm.trans H;with_reducible exact H2_)|with_reducible exact H|(rw [hy260];exact H)|exact H
      have Ny260 := Aside0.mk hy260
      clear hy260
      obtain rfl := Option.some.inj H
      go_wp2_with (first|((with_reducible refine gate_builtin (b := .append) (xs := #[.tmp 51,.tmp 55]) rfl ?_);at_builtin;refine Kd.R_append k45 (w0 := w) w.heap.size rfl (.tmp 51) (.tmp 55) 22 45 (.agg #[(.string ⟨#[]⟩),(.int .i64 0)]) 24 rfl Tryd.underlying22 info45 rfl (by decide) (by omega) u7 x7_1 (⟨a1,a2⟩ : S45) [.string a1,.int .i64 a2] (fun _ => True) (fun _ => False) rfl rfl ?aP (fun _ hk => hk.elim) ?aF ?aO ?aB ?aS ?aL ?_;(case aP => exact k45_mkM _ _ _ (⟨a1,a2⟩ : S45));(case aB => exact (bM HB.out));(case aF => exact (fun _ _ => trivial));(case aO => exact (rM HO_7.out));(case aS => exact (below_size (bM HB.out)));(case aL => have := LMc23.out;omega);intro v261 w24 ho hb hg hat;rw [← Ny260.out] at ho;have n0_ := Aside0.mk (hb);have n1_ := Aside0.mk (ho);clear HB;clear HO_7;have HB := n0_;have HO262 := n1_;clear n0_ n1_;clear ho hb hg hat))
      go_ret
      exact ⟨_,by first|rfl|(simp [errW_none,errW_some] <;> rfl)|(simp [*,errW_none,errW_some] <;> rfl),rM HO262.out,bM HB.out⟩
     ·rw [if_neg c23] at H
      exact absurd H (by simp)

/-! ### codesearchref25_paths: function 41 -/
mutual
def codesearchref25_paths.l0 : Nat → List (S45) → List (List (S45)) → Int → Option (List ByteArray)
|0,_,_,_ => none
|k + 1,x7,x8,x9 => if x9 < (x8.length : Int) then (codesearchref25_paths.l1 k x7 x8 x9 0) else (codesearchref25_paths.l2 k x7 ([] : List ByteArray) 0)
def codesearchref25_paths.l1 : Nat → List (S45) → List (List (S45)) → Int → Int → Option (List ByteArray)
|0,_,_,_,_ => none
|k + 1,x7,x8,x9,x10 => if 0 ≤ x9 then (if x9 < (x8.length : Int) then (if x10 < ((rd_L4 x8 x9).length : Int) then (if 0 ≤ x10 then ((codesearchref25_Set.f k x7 ((rd_T45 (rd_L4 x8 x9) x10).f0) 1).bind fun t283 => (codesearchref25_paths.l1 k t283 x8 x9 (wrap64 (x10 + 1)))) else (none)) else (codesearchref25_paths.l0 k x7 x8 (wrap64 (x9 + 1)))) else (none)) else (none)
def codesearchref25_paths.l2 : Nat → List (S45) → List ByteArray → Int → Option (List ByteArray)
|0,_,_,_ => none
|k + 1,x7,x11,x12 => if x12 < (x7.length : Int) then (if 0 ≤ x12 then (if x11.length < 8796093022208 then (codesearchref25_paths.l2 k x7 (x11 ++ [(rd_T45 x7 x12).f0]) (wrap64 (x12 + 1))) else (none)) else (none)) else (some x11)
end
def codesearchref25_paths.f (k : Nat) (l0 : List (S45)) (l1 : List (S45)) (l2 : List (S45)) : Option (List ByteArray) := codesearchref25_paths.l0 k ([] : List (S45)) (([l0, l1, l2] : List (List (S45)))) 0
theorem codesearchref25_paths.mono_l : ∀ k, (∀ y0 y1 y2, LeO (codesearchref25_paths.l0 k y0 y1 y2) (codesearchref25_paths.l0 (k + 1) y0 y1 y2)) ∧ (∀ y0 y1 y2 y3, LeO (codesearchref25_paths.l1 k y0 y1 y2 y3) (codesearchref25_paths.l1 (k + 1) y0 y1 y2 y3)) ∧ (∀ y0 y1 y2, LeO (codesearchref25_paths.l2 k y0 y1 y2) (codesearchref25_paths.l2 (k + 1) y0 y1 y2))
|0 => ⟨fun _ _ _ r h => by simp [codesearchref25_paths.l0] at h,fun _ _ _ _ r h => by simp [codesearchref25_paths.l1] at h,fun _ _ _ r h => by simp [codesearchref25_paths.l2] at h⟩
|k + 1 => by
  obtain ⟨ih0,ih1,ih2⟩ := codesearchref25_paths.mono_l k
  refine ⟨?_,?_,?_⟩
  ·intro y0 y1 y2
   unfold codesearchref25_paths.l0
   repeat' first
  |(with_reducible exact ih0 _ _ _)
  |(with_reducible exact ih1 _ _ _ _)
  |(with_reducible exact ih2 _ _ _)
  |(with_reducible exact codesearchref25_Set.mono _ _ _ _)
  |(with_reducible exact LeO.refl _)
  |(with_reducible exact LeO.none _)
  |(with_reducible refine LeO.ite ?_ ?_)
  |(with_reducible refine LeO.bind ?_ (fun _ => ?_))
  |exact ih0 _ _ _
  |exact ih1 _ _ _ _
  |exact ih2 _ _ _
  |exact codesearchref25_Set.mono _ _ _ _
  |exact LeO.none _
  |refine LeO.ite ?_ ?_
  |refine LeO.bind ?_ (fun _ => ?_)
  ·intro y0 y1 y2 y3
   unfold codesearchref25_paths.l1
   repeat' first
  |(with_reducible exact ih0 _ _ _)
  |(with_reducible exact ih1 _ _ _ _)
  |(with_reducible exact ih2 _ _ _)
  |(with_reducible exact codesearchref25_Set.mono _ _ _ _)
  |(with_reducible exact LeO.refl _)
  |(with_reducible exact LeO.none _)
  |(with_reducible refine LeO.ite ?_ ?_)
  |(with_reducible refine LeO.bind ?_ (fun _ => ?_))
  |exact ih0 _ _ _
  |exact ih1 _ _ _ _
  |exact ih2 _ _ _
  |exact codesearchref25_Set.mono _ _ _ _
  |exact LeO.none _
  |refine LeO.ite ?_ ?_
  |refine LeO.bind ?_ (fun _ => ?_)
  ·intro y0 y1 y2
   unfold codesearchref25_paths.l2
   repeat' first
  |(with_reducible exact ih0 _ _ _)
  |(with_reducible exact ih1 _ _ _ _)
  |(with_reducible exact ih2 _ _ _)
  |(with_reducible exact codesearchref25_Set.mono _ _ _ _)
  |(with_reducible exact LeO.refl _)
  |(with_reducible exact LeO.none _)
  |(with_reducible refine LeO.ite ?_ ?_)
  |(with_reducible refine LeO.bind ?_ (fun _ => ?_))
  |exact ih0 _ _ _
  |exact ih1 _ _ _ _
  |exact ih2 _ _ _
  |exact codesearchref25_Set.mono _ _ _ _
  |exact LeO.none _
  |refine LeO.ite ?_ ?_
  |refine LeO.bind ?_ (fun _ => ?_)
theorem codesearchref25_paths.mono : ∀ a0 a1 a2 k, LeO (codesearchref25_paths.f k a0 a1 a2) (codesearchref25_paths.f (k + 1) a0 a1 a2) := by
 intro a0 a1 a2 k
 obtain ⟨ih0,ih1,ih2⟩ := codesearchref25_paths.mono_l k
 unfold codesearchref25_paths.f
 repeat' first
  |(with_reducible exact ih0 _ _ _)
  |(with_reducible exact ih1 _ _ _ _)
  |(with_reducible exact ih2 _ _ _)
  |(with_reducible exact codesearchref25_Set.mono _ _ _ _)
  |(with_reducible exact LeO.refl _)
  |(with_reducible exact LeO.none _)
  |(with_reducible refine LeO.ite ?_ ?_)
  |(with_reducible refine LeO.bind ?_ (fun _ => ?_))
  |exact ih0 _ _ _
  |exact ih1 _ _ _ _
  |exact ih2 _ _ _
  |exact codesearchref25_Set.mono _ _ _ _
  |exact LeO.none _
  |refine LeO.ite ?_ ?_
  |refine LeO.bind ?_ (fun _ => ?_)
set_option maxHeartbeats 4000000 in
set_option maxRecDepth 100000 in
theorem codesearchref25_paths.calls (k : Nat) (P0_ : Nat → Prop) (A0 : Option Addr) (c0 : Nat) (l0 : List (S45)) (P1_ : Nat → Prop) (A1 : Option Addr) (c1 : Nat) (l1 : List (S45)) (P2_ : Nat → Prop) (A2 : Option Addr) (c2 : Nat) (l2 : List (S45)) (r : List ByteArray) (w : World) (hs0 : Kd.V k45 45 w w.heap.size (fun k_ => P0_ k_) (.slice A0 l0.length c0) l0) (hs1 : Kd.V k45 45 w w.heap.size (fun k_ => P1_ k_) (.slice A1 l1.length c1) l1) (hs2 : Kd.V k45 45 w w.heap.size (fun k_ => P2_ k_) (.slice A2 l2.length c2) l2) (h : codesearchref25_paths.f k l0 l1 l2 = some r) :
  Calls Tryd.prog 41 #[.slice A0 l0.length c0,.slice A1 l1.length c1,.slice A2 l2.length c2] w fun e w' => ∃ v0_ : Value,e = .returned (v0_) ∧ Kd.R Kd.string 9 w' w.heap.size (fun k_ => (w.heap.size ≤ k_)) v0_ r ∧ Below w.heap.size w w' := by
 have HO0 := Aside0.mk (show Kd.V k45 45 w w.heap.size (fun k_ => ((P0_ k_ ∨ P1_ k_ ∨ P2_ k_) ∨ w.heap.size ≤ k_)) (.slice A0 l0.length c0) l0 from Kd.V_mono hs0 (fun k_ hk => .inl (.inl hk)))
 have HO1 := Aside0.mk (show Kd.V k45 45 w w.heap.size (fun k_ => ((P0_ k_ ∨ P1_ k_ ∨ P2_ k_) ∨ w.heap.size ≤ k_)) (.slice A1 l1.length c1) l1 from Kd.V_mono hs1 (fun k_ hk => .inl (.inr (.inl hk))))
 have HO2 := Aside0.mk (show Kd.V k45 45 w w.heap.size (fun k_ => ((P0_ k_ ∨ P1_ k_ ∨ P2_ k_) ∨ w.heap.size ≤ k_)) (.slice A2 l2.length c2) l2 from Kd.V_mono hs2 (fun k_ hk => .inl (.inr (.inr hk))))
 have HB := Aside0.mk (Below.refl w.heap.size w)
 have H : (codesearchref25_paths.l0 k ([] : List (S45)) (([l0,l1,l2] : List (List (S45)))) 0) = some r := h
 clear h
 obtain ⟨y277,hy277⟩ : ∃ y_ : List (List (S45)),y_ = (([l0,l1,l2] : List (List (S45)))) := ⟨_,rfl⟩
 replace H : (codesearchref25_paths.l0 k ([] : List (S45)) y277 0) = some r := by first|(rw [hy277];with_reducible exact H)|(have H2_ := (Option.bind_some _ _).symm.trans H;rw [hy277];with_reducible exact H2_)|(have H2_ := (Option.bind_some _ _).symm.trans H;with_reducible exact H2_)|with_reducible exact H|(rw [hy277];exact H)|exact H
 have Ny277 := Aside0.mk hy277
 clear hy277
 have H' := Aside0.mk H
 clear H
 go_enter Tryd.func41,Tryd.ntmps41
 go_wp2_with (first|((with_reducible refine gate_dst (N := 16) rfl ?_);refine Kd.N_lit (Kd.slice 45 k45) _ 22 ?hg (N' := 16) ?hd (xs := ([l0,l1,l2] : List (List (S45)))) (inner := [.slice A0 l0.length c0,.slice A1 l1.length c1,.slice A2 l2.length c2]) (ok := (fun k_ => ((P0_ k_ ∨ P1_ k_ ∨ P2_ k_) ∨ w.heap.size ≤ k_))) (okp := (fun k_ => ((P0_ k_ ∨ P1_ k_ ∨ P2_ k_) ∨ w.heap.size ≤ k_))) ?hr ?hp (fun _ hk => hk) ((show ∀ k_,w.heap.size ≤ k_ → (fun k_ => ((P0_ k_ ∨ P1_ k_ ∨ P2_ k_) ∨ w.heap.size ≤ k_)) k_ from fun k_ hk => (.inr (Nat.le_trans (below_size (bM HB.out)) hk))) _ (Nat.le_refl _)) (Below.refl _ _) (Nat.le_refl _) (by simp) ?_;(case hd => rfl);(case hg => rfl);(case hr => first|(go_simp;done)|(go_simp;rfl));(case hp => exact (Reps.one (show Kd.FK (Kd.slice 45 k45) _ _ l0 [.slice A0 l0.length c0] from (Kd.FK_slice_mk (Kd.V_reads' (Kd.V_mono (ok' := (fun k_ => ((P0_ k_ ∨ P1_ k_ ∨ P2_ k_) ∨ w.heap.size ≤ k_))) (HO0.out) (fun k_ hk => hk))).2.1 (Kd.V_F (Kd.V_mono (ok' := (fun k_ => ((P0_ k_ ∨ P1_ k_ ∨ P2_ k_) ∨ w.heap.size ≤ k_))) (HO0.out) (fun k_ hk => hk))))) (Reps.one (show Kd.FK (Kd.slice 45 k45) _ _ l1 [.slice A1 l1.length c1] from (Kd.FK_slice_mk (Kd.V_reads' (Kd.V_mono (ok' := (fun k_ => ((P0_ k_ ∨ P1_ k_ ∨ P2_ k_) ∨ w.heap.size ≤ k_))) (HO1.out) (fun k_ hk => hk))).2.1 (Kd.V_F (Kd.V_mono (ok' := (fun k_ => ((P0_ k_ ∨ P1_ k_ ∨ P2_ k_) ∨ w.heap.size ≤ k_))) (HO1.out) (fun k_ hk => hk))))) (Reps.one (show Kd.FK (Kd.slice 45 k45) _ _ l2 [.slice A2 l2.length c2] from (Kd.FK_slice_mk (Kd.V_reads' (Kd.V_mono (ok' := (fun k_ => ((P0_ k_ ∨ P1_ k_ ∨ P2_ k_) ∨ w.heap.size ≤ k_))) (HO2.out) (fun k_ hk => hk))).2.1 (Kd.V_F (Kd.V_mono (ok' := (fun k_ => ((P0_ k_ ∨ P1_ k_ ∨ P2_ k_) ∨ w.heap.size ≤ k_))) (HO2.out) (fun k_ hk => hk))))) (Reps.none _ _)))));intro v278 w4 ho5 hb hg_ hnew_;clear hg_ hnew_;(first|rw [← Ny277.out] at ho5|(simp only [Int.reduceToNat] at ho5;rw [← Ny277.out] at ho5));have n0_ := Aside0.mk (Kd.V_elder' (by (with_reducible repeat (first|apply Kd.V_alloc|apply Kd.V_drewN|apply Kd.V_drew));exact HO0.out) (Kd.N_base ho5) hb);have n1_ := Aside0.mk (Kd.V_elder' (by (with_reducible repeat (first|apply Kd.V_alloc|apply Kd.V_drewN|apply Kd.V_drew));exact HO1.out) (Kd.N_base ho5) hb);have n2_ := Aside0.mk (Kd.V_elder' (by (with_reducible repeat (first|apply Kd.V_alloc|apply Kd.V_drewN|apply Kd.V_drew));exact HO2.out) (Kd.N_base ho5) hb);have n3_ := Aside0.mk (Kd.N_lower ho5 (below_size (bM HB.out)));have n4_ := Aside0.mk (below_step (bM HB.out) hb);clear HO0;clear HO1;clear HO2;clear HB;have HO0 := n0_;have HO1 := n1_;have HO2 := n2_;have HO279 := n3_;have HB := n4_;clear n0_ n1_ n2_ n3_ n4_;clear hb ho5))
 go_loopg [7,9] k (fun kq v7 v9 w' => ∃ (x7_1 : List (S45)) (x9_1 : Int),v9 = .int .i64 x9_1 ∧ Aside0 (codesearchref25_paths.l0 kq x7_1 y277 x9_1 = some r) ∧ Aside0 (kq ≤ k) ∧ Aside0 (Kd.R k45 45 w' w.heap.size (fun k_ => (w.heap.size ≤ k_)) v7 x7_1) ∧ Aside0 (Kd.N (Kd.slice 45 k45) 22 w' w.heap.size (fun k_ => ((P0_ k_ ∨ P1_ k_ ∨ P2_ k_) ∨ w.heap.size ≤ k_) ∧ some k_ ≠ (v7 : Value).ownBlock) v278 y277) ∧ Aside0 (Below w.heap.size w w'))
 case atStart => exact ⟨(([] : List (S45))),(0),(by first|rfl|(simp;done)|(simp [*];done)),H',⟨Nat.le_refl _⟩,⟨by first|exact Kd.R_nil _ _ _ _ _|exact Kd.N_nil _ _ _ _ _|exact Kd.V_nil _ _ _ _ _|exact Kd.Q_nil _ _ _ _ _|exact Kd.S_nil _ _ _ _ _⟩,⟨by (with_reducible repeat (first|apply Kd.N_alloc|apply Kd.N_drewN|apply Kd.N_drew));exact Kd.N_mono HO279.out (fun _ hk => ⟨hk,(by simp [Value.ownBlock])⟩)⟩,⟨bM HB.out⟩⟩
 case round =>
  clear H'
  try clear c1
  try clear c2
  try clear p2
  try clear c4
  obtain ⟨x7_1,x9_1,rfl,HA,HK1,HO_7,HO_8,HB⟩ := hrel
  cases gk with
 |zero => exact absurd HA.out (by simp [codesearchref25_paths.l0])
 |succ k1 =>
   have H := HA.out
   clear HA
   simp only [codesearchref25_paths.l0] at H
   by_cases c6 : x9_1 < (y277.length : Int)
   ·rw [if_pos c6] at H
    have c6b0 : decide (x9_1 < (y277.length : Int)) = true := decide_eq_true c6
    clear c6
    have H' := Aside0.mk H
    clear H
    obtain ⟨Ao7,co7,eo7⟩ := Kd.N_slice HO_8.out
    subst eo7
    go_wp2
    go_loopg [7,10] k1 (fun kq v7 v10 w' => ∃ (x7_2 : List (S45)) (x10_2 : Int),v10 = .int .i64 x10_2 ∧ Aside0 (codesearchref25_paths.l1 kq x7_2 y277 x9_1 x10_2 = some r) ∧ Aside0 (kq ≤ k1) ∧ Aside0 (Kd.R k45 45 w' w.heap.size (fun k_ => (w.heap.size ≤ k_)) v7 x7_2) ∧ Aside0 (Kd.N (Kd.slice 45 k45) 22 w' w.heap.size (fun k_ => ((P0_ k_ ∨ P1_ k_ ∨ P2_ k_) ∨ w.heap.size ≤ k_) ∧ some k_ ≠ (v7 : Value).ownBlock) (.slice Ao7 y277.length co7) y277) ∧ Aside0 (Below w.heap.size w w'))
    case atStart => exact ⟨(x7_1),(0),(by first|rfl|(simp;done)|(simp [*];done)),H',⟨Nat.le_refl _⟩,⟨rM HO_7.out⟩,⟨by (with_reducible repeat (first|apply Kd.N_alloc|apply Kd.N_drewN|apply Kd.N_drew));exact HO_8.out⟩,⟨bM HB.out⟩⟩
    case round =>
     clear H'
     try clear c1
     try clear c2
     try clear p2
     try clear c4
     try clear c6
     try clear c6b0
     try clear p2
     obtain ⟨x7_2,x10_2,rfl,HA,HK2,HO_7,HO_8,HB⟩ := hrel
     cases gk with
    |zero => exact absurd HA.out (by simp [codesearchref25_paths.l1])
    |succ k2 =>
      have H := HA.out
      clear HA
      simp only [codesearchref25_paths.l1] at H
      by_cases c8 : 0 ≤ x9_1
      ·rw [if_pos c8] at H
       have c8b0 : decide (0 ≤ x9_1) = true := decide_eq_true c8
       clear c8
       by_cases c9 : x9_1 < (y277.length : Int)
       ·rw [if_pos c9] at H
        have c9b0 : decide (x9_1 < (y277.length : Int)) = true := decide_eq_true c9
        clear c9
        by_cases c10 : x10_2 < ((rd_L4 y277 x9_1).length : Int)
        ·rw [if_pos c10] at H
         have c10b0 : decide (x10_2 < ((rd_L4 y277 x9_1).length : Int)) = true := decide_eq_true c10
         clear c10
         by_cases c11 : 0 ≤ x10_2
         ·rw [if_pos c11] at H
          have c11b0 : decide (0 ≤ x10_2) = true := decide_eq_true c11
          clear c11
          replace H := Option.bind_eq_some_iff.mp H
          obtain ⟨t283,A120,H⟩ := H
          replace H : (codesearchref25_paths.l1 k2 t283 y277 x9_1 (wrap64 (x10_2 + 1))) = some r := H
          have A12 := Aside0.mk A120
          clear A120
          have H' := Aside0.mk H
          clear H
          have p280 : 0 ≤ (x9_1 : Int) := of_decide_eq_true (by first|(with_reducible assumption)|assumption)
          have q280 : x9_1 < (y277.length : Int) := of_decide_eq_true (by first|(with_reducible assumption)|assumption)
          obtain ⟨ad280,A280_0,c280_0,e280,hx280_0,hl280_0,hi280_0⟩ := at_L4 (Kd.N_reads' HO_8.out).2.2 x9_1 p280 q280
          cases e280
          obtain ⟨ce280,hce280,hMe280,hcc280⟩ := Kd.N_get HO_8.out [] x9_1 p280 (by first|exact q280|exact of_decide_eq_true (by first|(with_reducible assumption)|assumption)|(have e_ := (Kd.N_reads' HO_8.out).1;omega))
          obtain ⟨ua280_0,uc280_0,rfl,ul280_0,ge280_0⟩ := Kd.FK_slice_open hMe280
          have hv280_0 := hcc280 0 _ rfl
          rw [Nat.add_zero,show ((Kd.slice 45 k45)).sz = 1 from rfl,Nat.mul_one] at hv280_0
          replace hv280_0 := Option.some.inj (hv280_0.symm.trans hx280_0)
          injection hv280_0 with hva_ hvn_ hvc_
          rw [hva_] at ge280_0
          rw [hvc_] at ul280_0
          have HL280_0 := Aside0.mk (show Kd.V k45 45 _ w.heap.size _ _ (rd_L4 y277 x9_1) from Kd.V_mk ul280_0 ge280_0)
          clear hva_ hvn_ hvc_ ge280_0 ul280_0
          clear hcc280 hce280
          have HR280_0 := Aside0.mk hi280_0
          have HC280_0 := Aside0.mk hl280_0
          clear hi280_0 hl280_0
          replace p280 := eq_true p280
          replace q280 := eq_true q280
          have p281 : 0 ≤ (x9_1 : Int) := of_decide_eq_true (by first|(with_reducible assumption)|assumption)
          have q281 : x9_1 < (y277.length : Int) := of_decide_eq_true (by first|(with_reducible assumption)|assumption)
          obtain ⟨ad281,A281_0,c281_0,e281,hx281_0,hl281_0,hi281_0⟩ := at_L4 (Kd.N_reads' HO_8.out).2.2 x9_1 p281 q281
          obtain rfl : ad280 = ad281 := (by injection e281)
          obtain ⟨ce281,hce281,hMe281,hcc281⟩ := Kd.N_get HO_8.out [] x9_1 p281 (by first|exact q281|exact of_decide_eq_true (by first|(with_reducible assumption)|assumption)|(have e_ := (Kd.N_reads' HO_8.out).1;omega))
          obtain ⟨ua281_0,uc281_0,rfl,ul281_0,ge281_0⟩ := Kd.FK_slice_open hMe281
          have hv281_0 := hcc281 0 _ rfl
          rw [Nat.add_zero,show ((Kd.slice 45 k45)).sz = 1 from rfl,Nat.mul_one] at hv281_0
          replace hv281_0 := Option.some.inj (hv281_0.symm.trans hx281_0)
          injection hv281_0 with hva_ hvn_ hvc_
          rw [hva_] at ge281_0
          rw [hvc_] at ul281_0
          have HL281_0 := Aside0.mk (show Kd.V k45 45 _ w.heap.size _ _ (rd_L4 y277 x9_1) from Kd.V_mk ul281_0 ge281_0)
          clear hva_ hvn_ hvc_ ge281_0 ul281_0
          clear hcc281 hce281
          have HR281_0 := Aside0.mk hi281_0
          have HC281_0 := Aside0.mk hl281_0
          clear hi281_0 hl281_0
          replace p281 := eq_true p281
          replace q281 := eq_true q281
          have ea_ := Option.some.inj (hx280_0.symm.trans hx281_0)
          injection ea_ with ea_ en_ ec_
          subst ea_
          subst ec_
          clear en_
          have p282 : 0 ≤ (x10_2 : Int) := of_decide_eq_true (by first|(with_reducible assumption)|assumption)
          have q282 : x10_2 < ((rd_L4 y277 x9_1).length : Int) := of_decide_eq_true (by first|(with_reducible assumption)|assumption)
          obtain ⟨ad282,e282,hx282_0,hx282_1⟩ := at_T45 (by repeat (first|(with_reducible exact HR281_0.out)|(with_reducible refine Kd.C_alloc ?_ _)|(with_reducible refine Kd.C_drewN ?_ _)|(with_reducible refine Kd.C_drew ?_)|exact HR281_0.out)) x10_2 p282 q282
          cases e282
          replace p282 := eq_true p282
          replace q282 := eq_true q282
          obtain ⟨Ao13,co13,eo13⟩ := Kd.R_slice HO_7.out
          subst eo13
          go_wp2_with (first|((with_reducible refine gate_callee (f := 39) rfl ?_);refine goesL_ (some 41) rfl rfl Tryd.func39 (by kernel_rfl) rfl #[.slice Ao13 x7_2.length co13,.string ((rd_T45 (rd_L4 y277 x9_1) x10_2).f0),.int .i64 1] rfl (by (try simp only [List.map_toArray,List.map_cons,List.map_nil]);first|done|rfl|(simp only [List.length_drop,List.length_take];rfl)) ?_;(with_reducible refine (codesearchref25_Set.calls k2 _ _ x7_2 ((rd_T45 (rd_L4 y277 x9_1) x10_2).f0) 1 t283 _ ?side1 ?side2 A12.out).mono ?_);(case side1 => exact cM (Kd.R_reads' HO_7.out).2.2);(case side2 => exact (Kd.R_reads' HO_7.out).2.1);rintro e w14 ⟨v284,rfl,ho0,hb⟩;refine ⟨_,rfl,?_⟩;have n0_ := Aside0.mk (Kd.R_elder' (rM HO_7.out) (Kd.R_base ho0) hb);have n1_ := Aside0.mk (Kd.N_elder' (by (with_reducible repeat (first|apply Kd.N_alloc|apply Kd.N_drewN|apply Kd.N_drew));exact HO_8.out) (Kd.R_base ho0) hb);have n2_ := Aside0.mk (Kd.V_elder' (by (with_reducible repeat (first|apply Kd.V_alloc|apply Kd.V_drewN|apply Kd.V_drew));exact HL280_0.out) (Kd.R_base ho0) hb);have n3_ := Aside0.mk (Kd.V_elder' (by (with_reducible repeat (first|apply Kd.V_alloc|apply Kd.V_drewN|apply Kd.V_drew));exact HL281_0.out) (Kd.R_base ho0) hb);have n4_ := Aside0.mk (Kd.R_lower (Kd.R_new' (Kd.R_newM (M := fun k_ => (w.heap.size ≤ k_)) ho0 (below_size (bM HB.out)) (fun k_ h_ => h_)) (Kd.R_lt (rM HO_7.out))) (below_size (bM HB.out)));have n5_ := Aside0.mk (Kd.C_below (by repeat (first|(with_reducible exact HR280_0.out)|(with_reducible refine Kd.C_alloc ?_ _)|(with_reducible refine Kd.C_drewN ?_ _)|(with_reducible refine Kd.C_drew ?_)|exact HR280_0.out)) hb);have n6_ := Aside0.mk (Kd.C_below (by repeat (first|(with_reducible exact HR281_0.out)|(with_reducible refine Kd.C_alloc ?_ _)|(with_reducible refine Kd.C_drewN ?_ _)|(with_reducible refine Kd.C_drew ?_)|exact HR281_0.out)) hb);have n7_ := Aside0.mk (below_step (bM HB.out) hb);clear HO_7;clear HO_8;clear HL280_0;clear HL281_0;clear HR280_0;clear HR281_0;clear HB;have HO_7 := n0_;have HO_8 := n1_;have HL280_0 := n2_;have HL281_0 := n3_;have HO285 := n4_;have HR280_0 := n5_;have HR281_0 := n6_;have HB := n7_;clear n0_ n1_ n2_ n3_ n4_ n5_ n6_ n7_;(try clear hb);(try clear hb2);(try clear hk);(try clear hi);(try clear ho0)))
          go_roundg k2
          case measure => have := HK1.out;have := HK2.out;omega
          case rel => exact ⟨(t283),(wrap64 (x10_2 + 1)),(by first|rfl|(simp;done)|(simp [*];done)),H',⟨by have := HK1.out;have := HK2.out;omega⟩,⟨by (with_reducible repeat (first|apply Kd.R_alloc|apply Kd.R_drewN|apply Kd.R_drew));exact Kd.R_mono HO285.out (fun _ hk => hk.1.1)⟩,⟨by (with_reducible repeat (first|apply Kd.N_alloc|apply Kd.N_drewN|apply Kd.N_drew));exact Kd.N_mono HO_8.out (fun _ hk => ⟨hk.1.1,hk.2⟩)⟩,⟨bM HB.out⟩⟩
         ·rw [if_neg c11] at H
          exact absurd H (by simp)
        ·rw [if_neg c10] at H
         have c10b0 : decide (x10_2 < ((rd_L4 y277 x9_1).length : Int)) = false := decide_eq_false c10
         clear c10
         have H' := Aside0.mk H
         clear H
         have p280 : 0 ≤ (x9_1 : Int) := of_decide_eq_true (by first|(with_reducible assumption)|assumption)
         have q280 : x9_1 < (y277.length : Int) := of_decide_eq_true (by first|(with_reducible assumption)|assumption)
         obtain ⟨ad280,A280_0,c280_0,e280,hx280_0,hl280_0,hi280_0⟩ := at_L4 (Kd.N_reads' HO_8.out).2.2 x9_1 p280 q280
         cases e280
         obtain ⟨ce280,hce280,hMe280,hcc280⟩ := Kd.N_get HO_8.out [] x9_1 p280 (by first|exact q280|exact of_decide_eq_true (by first|(with_reducible assumption)|assumption)|(have e_ := (Kd.N_reads' HO_8.out).1;omega))
         obtain ⟨ua280_0,uc280_0,rfl,ul280_0,ge280_0⟩ := Kd.FK_slice_open hMe280
         have hv280_0 := hcc280 0 _ rfl
         rw [Nat.add_zero,show ((Kd.slice 45 k45)).sz = 1 from rfl,Nat.mul_one] at hv280_0
         replace hv280_0 := Option.some.inj (hv280_0.symm.trans hx280_0)
         injection hv280_0 with hva_ hvn_ hvc_
         rw [hva_] at ge280_0
         rw [hvc_] at ul280_0
         have HL280_0 := Aside0.mk (show Kd.V k45 45 _ w.heap.size _ _ (rd_L4 y277 x9_1) from Kd.V_mk ul280_0 ge280_0)
         clear hva_ hvn_ hvc_ ge280_0 ul280_0
         clear hcc280 hce280
         have HR280_0 := Aside0.mk hi280_0
         have HC280_0 := Aside0.mk hl280_0
         clear hi280_0 hl280_0
         replace p280 := eq_true p280
         replace q280 := eq_true q280
         go_wp2
         go_roundg k2
         case measure => have := HK1.out;have := HK2.out;omega
         case rel => exact ⟨(x7_2),(wrap64 (x9_1 + 1)),(by first|rfl|(simp;done)|(simp [*];done)),H',⟨by have := HK1.out;have := HK2.out;omega⟩,⟨rM HO_7.out⟩,⟨by (with_reducible repeat (first|apply Kd.N_alloc|apply Kd.N_drewN|apply Kd.N_drew));exact HO_8.out⟩,⟨bM HB.out⟩⟩
       ·rw [if_neg c9] at H
        exact absurd H (by simp)
      ·rw [if_neg c8] at H
       exact absurd H (by simp)
   ·rw [if_neg c6] at H
    have c6b0 : decide (x9_1 < (y277.length : Int)) = false := decide_eq_false c6
    clear c6
    have H' := Aside0.mk H
    clear H
    obtain ⟨Ao15,co15,eo15⟩ := Kd.N_slice HO_8.out
    subst eo15
    go_wp2
    go_loopg [11,12] k1 (fun kq v11 v12 w' => ∃ (x11_2 : List ByteArray) (x12_2 : Int),v12 = .int .i64 x12_2 ∧ Aside0 (codesearchref25_paths.l2 kq x7_1 x11_2 x12_2 = some r) ∧ Aside0 (kq ≤ k1) ∧ Aside0 (Kd.R k45 45 w' w.heap.size (fun k_ => (w.heap.size ≤ k_)) u7 x7_1) ∧ Aside0 (Kd.R Kd.string 9 w' w.heap.size (fun k_ => (w.heap.size ≤ k_)) v11 x11_2) ∧ Aside0 (Below w.heap.size w w'))
    case atStart => exact ⟨(([] : List ByteArray)),(0),(by first|rfl|(simp;done)|(simp [*];done)),H',⟨Nat.le_refl _⟩,⟨rM HO_7.out⟩,⟨by first|exact Kd.R_nil _ _ _ _ _|exact Kd.N_nil _ _ _ _ _|exact Kd.V_nil _ _ _ _ _|exact Kd.Q_nil _ _ _ _ _|exact Kd.S_nil _ _ _ _ _⟩,⟨bM HB.out⟩⟩
    case round =>
     clear H'
     try clear c1
     try clear c2
     try clear p2
     try clear q2
     try clear hx2
     try clear c3
     try clear c4
     try clear c6
     try clear c6b0
     try clear p6
     try clear c8
     try clear c8b0
     try clear c9
     try clear c9b0
     try clear c10
     try clear c10b0
     try clear c11
     try clear c11b0
     try clear hx280_0
     try clear hx281_0
     try clear hx282_0
     try clear hx282_1
     try clear p2
     try clear p280
     try clear p281
     try clear p282
     try clear q280
     try clear q281
     try clear q282
     obtain ⟨x11_2,x12_2,rfl,HA,HK2,HO_7,HO_11,HB⟩ := hrel
     cases gk with
    |zero => exact absurd HA.out (by simp [codesearchref25_paths.l2])
    |succ k2 =>
      have H := HA.out
      clear HA
      simp only [codesearchref25_paths.l2] at H
      by_cases c16 : x12_2 < (x7_1.length : Int)
      ·rw [if_pos c16] at H
       have c16b0 : decide (x12_2 < (x7_1.length : Int)) = true := decide_eq_true c16
       clear c16
       by_cases c17 : 0 ≤ x12_2
       ·rw [if_pos c17] at H
        have c17b0 : decide (0 ≤ x12_2) = true := decide_eq_true c17
        clear c17
        by_cases c18 : x11_2.length < 8796093022208
        ·rw [if_pos c18] at H
         have LMc18 := Aside0.mk c18
         clear c18
         obtain ⟨y287,hy287⟩ : ∃ y_ : List ByteArray,y_ = (x11_2 ++ [(rd_T45 x7_1 x12_2).f0]) := ⟨_,rfl⟩
         replace H : (codesearchref25_paths.l2 k2 x7_1 y287 (wrap64 (x12_2 + 1))) = some r := by first|(rw [hy287];with_reducible exact H)|(have H2_ := (Option.bind_some _ _).symm.trans H;rw [hy287];with_reducible exact H2_)|(have H2_ := (Option.bind_some _ _).symm.trans H;with_reducible exact H2_)|with_reducible exact H|(rw [hy287];exact H)|exact H
         have Ny287 := Aside0.mk hy287
         clear hy287
         have H' := Aside0.mk H
         clear H
         obtain ⟨Ao19,co19,eo19⟩ := Kd.R_slice HO_7.out
         subst eo19
         have p286 : 0 ≤ (x12_2 : Int) := of_decide_eq_true (by first|(with_reducible assumption)|assumption)
         have q286 : x12_2 < (x7_1.length : Int) := of_decide_eq_true (by first|(with_reducible assumption)|assumption)
         obtain ⟨ad286,e286,hx286_0,hx286_1⟩ := at_T45 (Kd.R_reads' HO_7.out).2.2 x12_2 p286 q286
         cases e286
         replace p286 := eq_true p286
         replace q286 := eq_true q286
         go_wp2_with (first|((with_reducible refine gate_builtin (b := .append) (xs := #[.tmp 48,.tmp 54]) rfl ?_);at_builtin;refine Kd.R_append Kd.string (w0 := w) w.heap.size rfl (.tmp 48) (.tmp 54) 39 9 (.string ⟨#[]⟩) 16 rfl Tryd.underlying39 info9 rfl (by decide) (by omega) u11 x11_2 ((rd_T45 x7_1 x12_2).f0) [.string ((rd_T45 x7_1 x12_2).f0)] (fun k_ => (w.heap.size ≤ k_)) (fun _ => False) rfl rfl ?aP (fun _ hk => hk.elim) ?aF ?aO ?aB ?aS ?aL ?_;(case aP => exact rfl);(case aB => exact (bM HB.out));(case aF => exact (fun k_ hk => (Nat.le_trans (below_size (bM HB.out)) hk)));(case aO => exact (rM HO_11.out));(case aS => exact (below_size (bM HB.out)));(case aL => have := LMc18.out;omega);intro v288 w20 ho hb hg hat;rw [← Ny287.out] at ho;have n0_ := Aside0.mk (Kd.R_over' (rM HO_7.out) (Kd.R_typed (rM HO_11.out)) (by decide) hg);have n1_ := Aside0.mk (hb);have n2_ := Aside0.mk (ho);clear HO_7;clear HB;clear HO_11;have HO_7 := n0_;have HB := n1_;have HO289 := n2_;clear n0_ n1_ n2_;clear ho hb hg hat))
         go_roundg k2
         case measure => have := HK1.out;have := HK2.out;omega
         case rel => exact ⟨(y287),(wrap64 (x12_2 + 1)),(by first|rfl|(simp;done)|(simp [*];done)),H',⟨by have := HK1.out;have := HK2.out;omega⟩,⟨rM HO_7.out⟩,⟨rM HO289.out⟩,⟨bM HB.out⟩⟩
        ·rw [if_neg c18] at H
         exact absurd H (by simp)
       ·rw [if_neg c17] at H
        exact absurd H (by simp)
      ·rw [if_neg c16] at H
       have c16b0 : decide (x12_2 < (x7_1.length : Int)) = false := decide_eq_false c16
       clear c16
       obtain rfl := Option.some.inj H
       obtain ⟨Ao21,co21,eo21⟩ := Kd.R_slice HO_7.out
       subst eo21
       go_wp2
       go_ret
       exact ⟨_,by first|rfl|(simp [errW_none,errW_some] <;> rfl)|(simp [*,errW_none,errW_some] <;> rfl),rM HO_11.out,bM HB.out⟩

end Go.Proofs.YtpnhamfodjfacaaDoor.T
