-- Written by hp.py, a program of this session, over the kit's print of the translation. Not trusted: Lean checks it.
import Derived.Test.YtknpmknkkofnjaaPx0
import Derived.Test.YtknpmknkkofnjaaPx1
import Derived.Test.YtknpmknkkofnjaaPx2
import Derived.Test.YtknpmknkkofnjaaPx5
import Derived.Test.YtknpmknkkofnjaaPx6
import Derived.Test.YtknpmknkkofnjaaPx13
namespace Go.Proofs.Ytknpmknkkofnjaa.P
open Go.RowKit Go.Proofs.YtknpmknkkofnjaaW.PrintWords Go.Proofs.YtknpmknkkofnjaaW.PrintLast Go.Proofs.YtknpmknkkofnjaaW.PrintMore
attribute [local go_sem] max2_int min2_int max_two min_two max_three min_three max_four min_four   -- for this text's walks alone
set_option linter.unusedVariables false
set_option linter.unusedSimpArgs false

/-! ### codesearchlaw05_PostingUnpacks: function 6 -/
def codesearchlaw05_PostingUnpacks.f (k : Nat) (l0 : List Int) (a1 : Int) : Option (Bool) := (codesearchlaw05_alive.f k).bind fun t542 => (if t542 = true then (if (l0.length : Int) > 400 then (some true) else ((posting_Unpack.f k l0).bind fun bt543 => ((codesearchref05_Unpack.f k l0).bind fun bt547 => ((posting_Seek.f k l0 a1).bind fun bt551 => ((codesearchref05_Seek.f k l0 a1).bind fun bt553 => (if bt543.2 = bt547.2 then ((codesearchref05_Same.f k bt543.1 bt547.1).bind fun t555 => (if t555 = true then (if bt551.1 = bt553.1 then (some (bt551.2 == bt553.2)) else (some false)) else (some false))) else (some false))))))) else (some false))
theorem codesearchlaw05_PostingUnpacks.mono : ∀ a0 a1 k, LeO (codesearchlaw05_PostingUnpacks.f k a0 a1) (codesearchlaw05_PostingUnpacks.f (k + 1) a0 a1) := by
 intro a0 a1 k
 unfold codesearchlaw05_PostingUnpacks.f
 repeat' first
  |(with_reducible exact codesearchlaw05_alive.mono _)
  |(with_reducible exact codesearchref05_Same.mono _ _ _)
  |(with_reducible exact codesearchref05_Seek.mono _ _ _)
  |(with_reducible exact codesearchref05_Unpack.mono _ _)
  |(with_reducible exact posting_Seek.mono _ _ _)
  |(with_reducible exact posting_Unpack.mono _ _)
  |(with_reducible exact LeO.refl _)
  |(with_reducible exact LeO.none _)
  |(with_reducible refine LeO.ite ?_ ?_)
  |(with_reducible refine LeO.bind ?_ (fun _ => ?_))
  |exact codesearchlaw05_alive.mono _
  |exact codesearchref05_Same.mono _ _ _
  |exact codesearchref05_Seek.mono _ _ _
  |exact codesearchref05_Unpack.mono _ _
  |exact posting_Seek.mono _ _ _
  |exact posting_Unpack.mono _ _
  |exact LeO.none _
  |refine LeO.ite ?_ ?_
  |refine LeO.bind ?_ (fun _ => ?_)
set_option maxHeartbeats 4000000 in
set_option maxRecDepth 100000 in
theorem codesearchlaw05_PostingUnpacks.calls (k : Nat) (A0 : Option Addr) (c0 : Nat) (l0 : List Int) (a1 : Int) (r : Bool) (w : World) (hr0 : Kd.C (Kd.int .u8) w A0 l0.length l0) (hc0 : l0.length ≤ c0) (h : codesearchlaw05_PostingUnpacks.f k l0 a1 = some r) :
  Calls Try.prog 6 #[.slice A0 l0.length c0,.int .i64 a1] w fun e w' => e = .returned (.bool r) ∧ Below w.heap.size w w' := by
 have HR0 := Aside0.mk hr0
 have HC0 := Aside0.mk hc0
 clear hr0 hc0
 have HB := Aside0.mk (Below.refl w.heap.size w)
 have H : ((codesearchlaw05_alive.f k).bind fun t542 => (if t542 = true then (if (l0.length : Int) > 400 then (some true) else ((posting_Unpack.f k l0).bind fun bt543 => ((codesearchref05_Unpack.f k l0).bind fun bt547 => ((posting_Seek.f k l0 a1).bind fun bt551 => ((codesearchref05_Seek.f k l0 a1).bind fun bt553 => (if bt543.2 = bt547.2 then ((codesearchref05_Same.f k bt543.1 bt547.1).bind fun t555 => (if t555 = true then (if bt551.1 = bt553.1 then (some (bt551.2 == bt553.2)) else (some false)) else (some false))) else (some false))))))) else (some false))) = some r := h
 clear h
 replace H := Option.bind_eq_some_iff.mp H
 obtain ⟨t542,A30,H⟩ := H
 replace H : (if t542 = true then (if (l0.length : Int) > 400 then (some true) else ((posting_Unpack.f k l0).bind fun bt543 => ((codesearchref05_Unpack.f k l0).bind fun bt547 => ((posting_Seek.f k l0 a1).bind fun bt551 => ((codesearchref05_Seek.f k l0 a1).bind fun bt553 => (if bt543.2 = bt547.2 then ((codesearchref05_Same.f k bt543.1 bt547.1).bind fun t555 => (if t555 = true then (if bt551.1 = bt553.1 then (some (bt551.2 == bt553.2)) else (some false)) else (some false))) else (some false))))))) else (some false)) = some r := H
 have A3 := Aside0.mk A30
 clear A30
 by_cases c4 : t542 = true
 ·subst c4
  have H1 : (if (l0.length : Int) > 400 then (some true) else ((posting_Unpack.f k l0).bind fun bt543 => ((codesearchref05_Unpack.f k l0).bind fun bt547 => ((posting_Seek.f k l0 a1).bind fun bt551 => ((codesearchref05_Seek.f k l0 a1).bind fun bt553 => (if bt543.2 = bt547.2 then ((codesearchref05_Same.f k bt543.1 bt547.1).bind fun t555 => (if t555 = true then (if bt551.1 = bt553.1 then (some (bt551.2 == bt553.2)) else (some false)) else (some false))) else (some false))))))) = some r := by rw [if_pos rfl] at H;exact H
  clear H
  have H := H1
  clear H1
  by_cases c5 : (l0.length : Int) > 400
  ·rw [if_pos c5] at H
   have c5b0 : decide (400 < (l0.length : Int)) = true := decide_eq_true c5
   have c5b1 : decide (400 < l0.length) = true := decide_eq_true (by omega)
   clear c5
   obtain rfl := Option.some.inj H
   go_enter Try.func6,Try.ntmps6
   go_wp2_with (first|((with_reducible refine gate_callee (f := 10) rfl ?_);refine goesL_ (some 13) rfl rfl Try.func10 (by kernel_rfl) rfl #[] rfl (by (try simp only [List.map_toArray,List.map_cons,List.map_nil]);first|done|rfl|(simp only [List.length_drop,List.length_take];rfl)) ?_;(with_reducible refine (codesearchlaw05_alive.calls k  true _ A3.out).mono ?_);rintro e w6 ⟨rfl,hb⟩;refine ⟨_,rfl,?_⟩;have n0_ := Aside0.mk (below_step (bM HB.out) hb);clear HB;have HB := n0_;clear n0_;(try clear hb);(try clear hb2);(try clear hk);(try clear hi)))
   go_ret
   exact ⟨by first|rfl|(simp [errW_none,errW_some] <;> rfl)|(simp [*,errW_none,errW_some] <;> rfl),bM HB.out⟩
  ·rw [if_neg c5] at H
   have c5b0 : decide (400 < (l0.length : Int)) = false := decide_eq_false c5
   have c5b1 : decide (400 < l0.length) = false := decide_eq_false (by omega)
   clear c5
   replace H := Option.bind_eq_some_iff.mp H
   obtain ⟨⟨t543,t544⟩,A70,H⟩ := H
   replace H : ((codesearchref05_Unpack.f k l0).bind fun bt547 => ((posting_Seek.f k l0 a1).bind fun bt551 => ((codesearchref05_Seek.f k l0 a1).bind fun bt553 => (if t544 = bt547.2 then ((codesearchref05_Same.f k t543 bt547.1).bind fun t555 => (if t555 = true then (if bt551.1 = bt553.1 then (some (bt551.2 == bt553.2)) else (some false)) else (some false))) else (some false))))) = some r := H
   have A7 := Aside0.mk A70
   clear A70
   replace H := Option.bind_eq_some_iff.mp H
   obtain ⟨⟨t547,t548⟩,A80,H⟩ := H
   replace H : ((posting_Seek.f k l0 a1).bind fun bt551 => ((codesearchref05_Seek.f k l0 a1).bind fun bt553 => (if t544 = t548 then ((codesearchref05_Same.f k t543 t547).bind fun t555 => (if t555 = true then (if bt551.1 = bt553.1 then (some (bt551.2 == bt553.2)) else (some false)) else (some false))) else (some false)))) = some r := H
   have A8 := Aside0.mk A80
   clear A80
   replace H := Option.bind_eq_some_iff.mp H
   obtain ⟨⟨t551,t552⟩,A90,H⟩ := H
   replace H : ((codesearchref05_Seek.f k l0 a1).bind fun bt553 => (if t544 = t548 then ((codesearchref05_Same.f k t543 t547).bind fun t555 => (if t555 = true then (if t551 = bt553.1 then (some (t552 == bt553.2)) else (some false)) else (some false))) else (some false))) = some r := H
   have A9 := Aside0.mk A90
   clear A90
   replace H := Option.bind_eq_some_iff.mp H
   obtain ⟨⟨t553,t554⟩,A100,H⟩ := H
   replace H : (if t544 = t548 then ((codesearchref05_Same.f k t543 t547).bind fun t555 => (if t555 = true then (if t551 = t553 then (some (t552 == t554)) else (some false)) else (some false))) else (some false)) = some r := H
   have A10 := Aside0.mk A100
   clear A100
   by_cases c11 : t544 = t548
   ·rw [if_pos c11] at H
    have c11b0 : (t544 == t548) = true := beq_iff_eq.mpr c11
    have c11b1 : (t544 != t548) = false := bne_eq_false_iff_eq.mpr c11
    clear c11
    replace H := Option.bind_eq_some_iff.mp H
    obtain ⟨t555,A120,H⟩ := H
    replace H : (if t555 = true then (if t551 = t553 then (some (t552 == t554)) else (some false)) else (some false)) = some r := H
    have A12 := Aside0.mk A120
    clear A120
    by_cases c13 : t555 = true
    ·subst c13
     have H1 : (if t551 = t553 then (some (t552 == t554)) else (some false)) = some r := by rw [if_pos rfl] at H;exact H
     clear H
     have H := H1
     clear H1
     by_cases c14 : t551 = t553
     ·rw [if_pos c14] at H
      have c14b0 : (t551 == t553) = true := beq_iff_eq.mpr c14
      have c14b1 : (t551 != t553) = false := bne_eq_false_iff_eq.mpr c14
      clear c14
      obtain rfl := Option.some.inj H
      go_enter Try.func6,Try.ntmps6
      go_wp2_with (first|((with_reducible refine gate_callee (f := 10) rfl ?_);refine goesL_ (some 13) rfl rfl Try.func10 (by kernel_rfl) rfl #[] rfl (by (try simp only [List.map_toArray,List.map_cons,List.map_nil]);first|done|rfl|(simp only [List.length_drop,List.length_take];rfl)) ?_;(with_reducible refine (codesearchlaw05_alive.calls k  true _ A3.out).mono ?_);rintro e w15 ⟨rfl,hb⟩;refine ⟨_,rfl,?_⟩;have n0_ := Aside0.mk (below_step (bM HB.out) hb);clear HB;have HB := n0_;clear n0_;(try clear hb);(try clear hb2);(try clear hk);(try clear hi))|((with_reducible refine gate_callee (f := 27) rfl ?_);refine goesL_ (some 20) rfl rfl Try.func27 (by kernel_rfl) rfl #[.slice A0 l0.length c0] rfl (by (try simp only [List.map_toArray,List.map_cons,List.map_nil]);first|done|rfl|(simp only [List.length_drop,List.length_take];rfl)) ?_;(with_reducible refine (posting_Unpack.calls k _ _ l0 t543 t544 _ ?side1 ?side2 A7.out).mono ?_);(case side1 => exact cM (Kd.C_below HR0.out HB.out));(case side2 => exact HC0.out);rintro e w16 ⟨v545,rfl,ho0,hb⟩;refine ⟨_,rfl,?_⟩;have n0_ := Aside0.mk (Kd.R_lower ho0 (below_size (bM HB.out)));have n1_ := Aside0.mk (below_step (bM HB.out) hb);clear HB;have HO546 := n0_;have HB := n1_;clear n0_ n1_;(try clear hb);(try clear hb2);(try clear hk);(try clear hi);(try clear ho0))|((with_reducible refine gate_callee (f := 28) rfl ?_);refine goesL_ (some 25) rfl rfl Try.func28 (by kernel_rfl) rfl #[.slice A0 l0.length c0] rfl (by (try simp only [List.map_toArray,List.map_cons,List.map_nil]);first|done|rfl|(simp only [List.length_drop,List.length_take];rfl)) ?_;(with_reducible refine (codesearchref05_Unpack.calls k _ _ l0 t547 t548 _ ?side1 ?side2 A8.out).mono ?_);(case side1 => exact cM (Kd.C_below HR0.out HB.out));(case side2 => exact HC0.out);rintro e w17 ⟨v549,rfl,ho0,hb⟩;refine ⟨_,rfl,?_⟩;have n0_ := Aside0.mk (Kd.R_elder' (rM HO546.out) (Kd.R_base ho0) hb);have n1_ := Aside0.mk (Kd.R_lower (Kd.R_new' ho0 (Kd.R_lt (rM HO546.out))) (below_size (bM HB.out)));have n2_ := Aside0.mk (below_step (bM HB.out) hb);clear HO546;clear HB;have HO546 := n0_;have HO550 := n1_;have HB := n2_;clear n0_ n1_ n2_;(try clear hb);(try clear hb2);(try clear hk);(try clear hi);(try clear ho0))|((with_reducible refine gate_callee (f := 29) rfl ?_);refine goesL_ (some 31) rfl rfl Try.func29 (by kernel_rfl) rfl #[.slice A0 l0.length c0,.int .i64 a1] rfl (by (try simp only [List.map_toArray,List.map_cons,List.map_nil]);first|done|rfl|(simp only [List.length_drop,List.length_take];rfl)) ?_;(with_reducible refine (posting_Seek.calls k _ _ l0 a1 t551 t552 _ ?side1 ?side2 A9.out).mono ?_);(case side1 => exact cM (Kd.C_below HR0.out HB.out));(case side2 => exact HC0.out);rintro e w18 ⟨rfl,hb⟩;refine ⟨_,rfl,?_⟩;have n0_ := Aside0.mk (Kd.R_below (rM HO546.out) hb);have n1_ := Aside0.mk (Kd.R_below (rM HO550.out) hb);have n2_ := Aside0.mk (below_step (bM HB.out) hb);clear HO546;clear HO550;clear HB;have HO546 := n0_;have HO550 := n1_;have HB := n2_;clear n0_ n1_ n2_;(try clear hb);(try clear hb2);(try clear hk);(try clear hi))|((with_reducible refine gate_callee (f := 30) rfl ?_);refine goesL_ (some 37) rfl rfl Try.func30 (by kernel_rfl) rfl #[.slice A0 l0.length c0,.int .i64 a1] rfl (by (try simp only [List.map_toArray,List.map_cons,List.map_nil]);first|done|rfl|(simp only [List.length_drop,List.length_take];rfl)) ?_;(with_reducible refine (codesearchref05_Seek.calls k _ _ l0 a1 t553 t554 _ ?side1 ?side2 A10.out).mono ?_);(case side1 => exact cM (Kd.C_below HR0.out HB.out));(case side2 => exact HC0.out);rintro e w19 ⟨rfl,hb⟩;refine ⟨_,rfl,?_⟩;have n0_ := Aside0.mk (Kd.R_below (rM HO546.out) hb);have n1_ := Aside0.mk (Kd.R_below (rM HO550.out) hb);have n2_ := Aside0.mk (below_step (bM HB.out) hb);clear HO546;clear HO550;clear HB;have HO546 := n0_;have HO550 := n1_;have HB := n2_;clear n0_ n1_ n2_;(try clear hb);(try clear hb2);(try clear hk);(try clear hi);obtain ⟨Ao20,co20,eo20⟩ := Kd.R_slice HO546.out;subst eo20;obtain ⟨Ao21,co21,eo21⟩ := Kd.R_slice HO550.out;subst eo21)|(go_at_call 13;(with_reducible refine (codesearchref05_Same.calls k _ _ t543 _ _ t547 true _ ?side1 ?side2 ?side3 ?side4 A12.out).mono ?_);(case side1 => exact cM (Kd.R_reads' HO546.out).2.2);(case side2 => exact (Kd.R_reads' HO546.out).2.1);(case side3 => exact cM (Kd.R_reads' HO550.out).2.2);(case side4 => exact (Kd.R_reads' HO550.out).2.1);rintro e w' ⟨rfl,⟨nd,rfl⟩⟩))
      go_ret
      exact ⟨by first|rfl|(simp [errW_none,errW_some] <;> rfl)|(simp [*,errW_none,errW_some] <;> rfl),bM HB.out⟩
     ·rw [if_neg c14] at H
      have c14b0 : (t551 == t553) = false := beq_eq_false_iff_ne.mpr c14
      have c14b1 : (t551 != t553) = true := bne_iff_ne.mpr c14
      obtain rfl := Option.some.inj H
      go_enter Try.func6,Try.ntmps6
      go_wp2_with (first|((with_reducible refine gate_callee (f := 10) rfl ?_);refine goesL_ (some 13) rfl rfl Try.func10 (by kernel_rfl) rfl #[] rfl (by (try simp only [List.map_toArray,List.map_cons,List.map_nil]);first|done|rfl|(simp only [List.length_drop,List.length_take];rfl)) ?_;(with_reducible refine (codesearchlaw05_alive.calls k  true _ A3.out).mono ?_);rintro e w22 ⟨rfl,hb⟩;refine ⟨_,rfl,?_⟩;have n0_ := Aside0.mk (below_step (bM HB.out) hb);clear HB;have HB := n0_;clear n0_;(try clear hb);(try clear hb2);(try clear hk);(try clear hi))|((with_reducible refine gate_callee (f := 27) rfl ?_);refine goesL_ (some 20) rfl rfl Try.func27 (by kernel_rfl) rfl #[.slice A0 l0.length c0] rfl (by (try simp only [List.map_toArray,List.map_cons,List.map_nil]);first|done|rfl|(simp only [List.length_drop,List.length_take];rfl)) ?_;(with_reducible refine (posting_Unpack.calls k _ _ l0 t543 t544 _ ?side1 ?side2 A7.out).mono ?_);(case side1 => exact cM (Kd.C_below HR0.out HB.out));(case side2 => exact HC0.out);rintro e w23 ⟨v545,rfl,ho0,hb⟩;refine ⟨_,rfl,?_⟩;have n0_ := Aside0.mk (Kd.R_lower ho0 (below_size (bM HB.out)));have n1_ := Aside0.mk (below_step (bM HB.out) hb);clear HB;have HO546 := n0_;have HB := n1_;clear n0_ n1_;(try clear hb);(try clear hb2);(try clear hk);(try clear hi);(try clear ho0))|((with_reducible refine gate_callee (f := 28) rfl ?_);refine goesL_ (some 25) rfl rfl Try.func28 (by kernel_rfl) rfl #[.slice A0 l0.length c0] rfl (by (try simp only [List.map_toArray,List.map_cons,List.map_nil]);first|done|rfl|(simp only [List.length_drop,List.length_take];rfl)) ?_;(with_reducible refine (codesearchref05_Unpack.calls k _ _ l0 t547 t548 _ ?side1 ?side2 A8.out).mono ?_);(case side1 => exact cM (Kd.C_below HR0.out HB.out));(case side2 => exact HC0.out);rintro e w24 ⟨v549,rfl,ho0,hb⟩;refine ⟨_,rfl,?_⟩;have n0_ := Aside0.mk (Kd.R_elder' (rM HO546.out) (Kd.R_base ho0) hb);have n1_ := Aside0.mk (Kd.R_lower (Kd.R_new' ho0 (Kd.R_lt (rM HO546.out))) (below_size (bM HB.out)));have n2_ := Aside0.mk (below_step (bM HB.out) hb);clear HO546;clear HB;have HO546 := n0_;have HO550 := n1_;have HB := n2_;clear n0_ n1_ n2_;(try clear hb);(try clear hb2);(try clear hk);(try clear hi);(try clear ho0))|((with_reducible refine gate_callee (f := 29) rfl ?_);refine goesL_ (some 31) rfl rfl Try.func29 (by kernel_rfl) rfl #[.slice A0 l0.length c0,.int .i64 a1] rfl (by (try simp only [List.map_toArray,List.map_cons,List.map_nil]);first|done|rfl|(simp only [List.length_drop,List.length_take];rfl)) ?_;(with_reducible refine (posting_Seek.calls k _ _ l0 a1 t551 t552 _ ?side1 ?side2 A9.out).mono ?_);(case side1 => exact cM (Kd.C_below HR0.out HB.out));(case side2 => exact HC0.out);rintro e w25 ⟨rfl,hb⟩;refine ⟨_,rfl,?_⟩;have n0_ := Aside0.mk (Kd.R_below (rM HO546.out) hb);have n1_ := Aside0.mk (Kd.R_below (rM HO550.out) hb);have n2_ := Aside0.mk (below_step (bM HB.out) hb);clear HO546;clear HO550;clear HB;have HO546 := n0_;have HO550 := n1_;have HB := n2_;clear n0_ n1_ n2_;(try clear hb);(try clear hb2);(try clear hk);(try clear hi))|((with_reducible refine gate_callee (f := 30) rfl ?_);refine goesL_ (some 37) rfl rfl Try.func30 (by kernel_rfl) rfl #[.slice A0 l0.length c0,.int .i64 a1] rfl (by (try simp only [List.map_toArray,List.map_cons,List.map_nil]);first|done|rfl|(simp only [List.length_drop,List.length_take];rfl)) ?_;(with_reducible refine (codesearchref05_Seek.calls k _ _ l0 a1 t553 t554 _ ?side1 ?side2 A10.out).mono ?_);(case side1 => exact cM (Kd.C_below HR0.out HB.out));(case side2 => exact HC0.out);rintro e w26 ⟨rfl,hb⟩;refine ⟨_,rfl,?_⟩;have n0_ := Aside0.mk (Kd.R_below (rM HO546.out) hb);have n1_ := Aside0.mk (Kd.R_below (rM HO550.out) hb);have n2_ := Aside0.mk (below_step (bM HB.out) hb);clear HO546;clear HO550;clear HB;have HO546 := n0_;have HO550 := n1_;have HB := n2_;clear n0_ n1_ n2_;(try clear hb);(try clear hb2);(try clear hk);(try clear hi);obtain ⟨Ao27,co27,eo27⟩ := Kd.R_slice HO546.out;subst eo27;obtain ⟨Ao28,co28,eo28⟩ := Kd.R_slice HO550.out;subst eo28)|(go_at_call 13;(with_reducible refine (codesearchref05_Same.calls k _ _ t543 _ _ t547 true _ ?side1 ?side2 ?side3 ?side4 A12.out).mono ?_);(case side1 => exact cM (Kd.R_reads' HO546.out).2.2);(case side2 => exact (Kd.R_reads' HO546.out).2.1);(case side3 => exact cM (Kd.R_reads' HO550.out).2.2);(case side4 => exact (Kd.R_reads' HO550.out).2.1);rintro e w' ⟨rfl,⟨nd,rfl⟩⟩))
      go_ret
      exact ⟨by first|rfl|(simp [errW_none,errW_some] <;> rfl)|(simp [*,errW_none,errW_some] <;> rfl),bM HB.out⟩
    ·replace c13 := Bool.eq_false_iff.mpr c13
     subst c13
     have H1 : (some false) = some r := by rw [if_neg (show ¬ (false = true) by decide)] at H;exact H
     clear H
     have H := H1
     clear H1
     obtain rfl := Option.some.inj H
     go_enter Try.func6,Try.ntmps6
     go_wp2_with (first|((with_reducible refine gate_callee (f := 10) rfl ?_);refine goesL_ (some 13) rfl rfl Try.func10 (by kernel_rfl) rfl #[] rfl (by (try simp only [List.map_toArray,List.map_cons,List.map_nil]);first|done|rfl|(simp only [List.length_drop,List.length_take];rfl)) ?_;(with_reducible refine (codesearchlaw05_alive.calls k  true _ A3.out).mono ?_);rintro e w29 ⟨rfl,hb⟩;refine ⟨_,rfl,?_⟩;have n0_ := Aside0.mk (below_step (bM HB.out) hb);clear HB;have HB := n0_;clear n0_;(try clear hb);(try clear hb2);(try clear hk);(try clear hi))|((with_reducible refine gate_callee (f := 27) rfl ?_);refine goesL_ (some 20) rfl rfl Try.func27 (by kernel_rfl) rfl #[.slice A0 l0.length c0] rfl (by (try simp only [List.map_toArray,List.map_cons,List.map_nil]);first|done|rfl|(simp only [List.length_drop,List.length_take];rfl)) ?_;(with_reducible refine (posting_Unpack.calls k _ _ l0 t543 t544 _ ?side1 ?side2 A7.out).mono ?_);(case side1 => exact cM (Kd.C_below HR0.out HB.out));(case side2 => exact HC0.out);rintro e w30 ⟨v545,rfl,ho0,hb⟩;refine ⟨_,rfl,?_⟩;have n0_ := Aside0.mk (Kd.R_lower ho0 (below_size (bM HB.out)));have n1_ := Aside0.mk (below_step (bM HB.out) hb);clear HB;have HO546 := n0_;have HB := n1_;clear n0_ n1_;(try clear hb);(try clear hb2);(try clear hk);(try clear hi);(try clear ho0))|((with_reducible refine gate_callee (f := 28) rfl ?_);refine goesL_ (some 25) rfl rfl Try.func28 (by kernel_rfl) rfl #[.slice A0 l0.length c0] rfl (by (try simp only [List.map_toArray,List.map_cons,List.map_nil]);first|done|rfl|(simp only [List.length_drop,List.length_take];rfl)) ?_;(with_reducible refine (codesearchref05_Unpack.calls k _ _ l0 t547 t548 _ ?side1 ?side2 A8.out).mono ?_);(case side1 => exact cM (Kd.C_below HR0.out HB.out));(case side2 => exact HC0.out);rintro e w31 ⟨v549,rfl,ho0,hb⟩;refine ⟨_,rfl,?_⟩;have n0_ := Aside0.mk (Kd.R_elder' (rM HO546.out) (Kd.R_base ho0) hb);have n1_ := Aside0.mk (Kd.R_lower (Kd.R_new' ho0 (Kd.R_lt (rM HO546.out))) (below_size (bM HB.out)));have n2_ := Aside0.mk (below_step (bM HB.out) hb);clear HO546;clear HB;have HO546 := n0_;have HO550 := n1_;have HB := n2_;clear n0_ n1_ n2_;(try clear hb);(try clear hb2);(try clear hk);(try clear hi);(try clear ho0))|((with_reducible refine gate_callee (f := 29) rfl ?_);refine goesL_ (some 31) rfl rfl Try.func29 (by kernel_rfl) rfl #[.slice A0 l0.length c0,.int .i64 a1] rfl (by (try simp only [List.map_toArray,List.map_cons,List.map_nil]);first|done|rfl|(simp only [List.length_drop,List.length_take];rfl)) ?_;(with_reducible refine (posting_Seek.calls k _ _ l0 a1 t551 t552 _ ?side1 ?side2 A9.out).mono ?_);(case side1 => exact cM (Kd.C_below HR0.out HB.out));(case side2 => exact HC0.out);rintro e w32 ⟨rfl,hb⟩;refine ⟨_,rfl,?_⟩;have n0_ := Aside0.mk (Kd.R_below (rM HO546.out) hb);have n1_ := Aside0.mk (Kd.R_below (rM HO550.out) hb);have n2_ := Aside0.mk (below_step (bM HB.out) hb);clear HO546;clear HO550;clear HB;have HO546 := n0_;have HO550 := n1_;have HB := n2_;clear n0_ n1_ n2_;(try clear hb);(try clear hb2);(try clear hk);(try clear hi))|((with_reducible refine gate_callee (f := 30) rfl ?_);refine goesL_ (some 37) rfl rfl Try.func30 (by kernel_rfl) rfl #[.slice A0 l0.length c0,.int .i64 a1] rfl (by (try simp only [List.map_toArray,List.map_cons,List.map_nil]);first|done|rfl|(simp only [List.length_drop,List.length_take];rfl)) ?_;(with_reducible refine (codesearchref05_Seek.calls k _ _ l0 a1 t553 t554 _ ?side1 ?side2 A10.out).mono ?_);(case side1 => exact cM (Kd.C_below HR0.out HB.out));(case side2 => exact HC0.out);rintro e w33 ⟨rfl,hb⟩;refine ⟨_,rfl,?_⟩;have n0_ := Aside0.mk (Kd.R_below (rM HO546.out) hb);have n1_ := Aside0.mk (Kd.R_below (rM HO550.out) hb);have n2_ := Aside0.mk (below_step (bM HB.out) hb);clear HO546;clear HO550;clear HB;have HO546 := n0_;have HO550 := n1_;have HB := n2_;clear n0_ n1_ n2_;(try clear hb);(try clear hb2);(try clear hk);(try clear hi);obtain ⟨Ao34,co34,eo34⟩ := Kd.R_slice HO546.out;subst eo34;obtain ⟨Ao35,co35,eo35⟩ := Kd.R_slice HO550.out;subst eo35)|(go_at_call 13;(with_reducible refine (codesearchref05_Same.calls k _ _ t543 _ _ t547 false _ ?side1 ?side2 ?side3 ?side4 A12.out).mono ?_);(case side1 => exact cM (Kd.R_reads' HO546.out).2.2);(case side2 => exact (Kd.R_reads' HO546.out).2.1);(case side3 => exact cM (Kd.R_reads' HO550.out).2.2);(case side4 => exact (Kd.R_reads' HO550.out).2.1);rintro e w' ⟨rfl,⟨nd,rfl⟩⟩))
     go_ret
     exact ⟨by first|rfl|(simp [errW_none,errW_some] <;> rfl)|(simp [*,errW_none,errW_some] <;> rfl),bM HB.out⟩
   ·rw [if_neg c11] at H
    have c11b0 : (t544 == t548) = false := beq_eq_false_iff_ne.mpr c11
    have c11b1 : (t544 != t548) = true := bne_iff_ne.mpr c11
    obtain rfl := Option.some.inj H
    go_enter Try.func6,Try.ntmps6
    go_wp2_with (first|((with_reducible refine gate_callee (f := 10) rfl ?_);refine goesL_ (some 13) rfl rfl Try.func10 (by kernel_rfl) rfl #[] rfl (by (try simp only [List.map_toArray,List.map_cons,List.map_nil]);first|done|rfl|(simp only [List.length_drop,List.length_take];rfl)) ?_;(with_reducible refine (codesearchlaw05_alive.calls k  true _ A3.out).mono ?_);rintro e w36 ⟨rfl,hb⟩;refine ⟨_,rfl,?_⟩;have n0_ := Aside0.mk (below_step (bM HB.out) hb);clear HB;have HB := n0_;clear n0_;(try clear hb);(try clear hb2);(try clear hk);(try clear hi))|((with_reducible refine gate_callee (f := 27) rfl ?_);refine goesL_ (some 20) rfl rfl Try.func27 (by kernel_rfl) rfl #[.slice A0 l0.length c0] rfl (by (try simp only [List.map_toArray,List.map_cons,List.map_nil]);first|done|rfl|(simp only [List.length_drop,List.length_take];rfl)) ?_;(with_reducible refine (posting_Unpack.calls k _ _ l0 t543 t544 _ ?side1 ?side2 A7.out).mono ?_);(case side1 => exact cM (Kd.C_below HR0.out HB.out));(case side2 => exact HC0.out);rintro e w37 ⟨v545,rfl,ho0,hb⟩;refine ⟨_,rfl,?_⟩;have n0_ := Aside0.mk (Kd.R_lower ho0 (below_size (bM HB.out)));have n1_ := Aside0.mk (below_step (bM HB.out) hb);clear HB;have HO546 := n0_;have HB := n1_;clear n0_ n1_;(try clear hb);(try clear hb2);(try clear hk);(try clear hi);(try clear ho0))|((with_reducible refine gate_callee (f := 28) rfl ?_);refine goesL_ (some 25) rfl rfl Try.func28 (by kernel_rfl) rfl #[.slice A0 l0.length c0] rfl (by (try simp only [List.map_toArray,List.map_cons,List.map_nil]);first|done|rfl|(simp only [List.length_drop,List.length_take];rfl)) ?_;(with_reducible refine (codesearchref05_Unpack.calls k _ _ l0 t547 t548 _ ?side1 ?side2 A8.out).mono ?_);(case side1 => exact cM (Kd.C_below HR0.out HB.out));(case side2 => exact HC0.out);rintro e w38 ⟨v549,rfl,ho0,hb⟩;refine ⟨_,rfl,?_⟩;have n0_ := Aside0.mk (Kd.R_elder' (rM HO546.out) (Kd.R_base ho0) hb);have n1_ := Aside0.mk (Kd.R_lower (Kd.R_new' ho0 (Kd.R_lt (rM HO546.out))) (below_size (bM HB.out)));have n2_ := Aside0.mk (below_step (bM HB.out) hb);clear HO546;clear HB;have HO546 := n0_;have HO550 := n1_;have HB := n2_;clear n0_ n1_ n2_;(try clear hb);(try clear hb2);(try clear hk);(try clear hi);(try clear ho0))|((with_reducible refine gate_callee (f := 29) rfl ?_);refine goesL_ (some 31) rfl rfl Try.func29 (by kernel_rfl) rfl #[.slice A0 l0.length c0,.int .i64 a1] rfl (by (try simp only [List.map_toArray,List.map_cons,List.map_nil]);first|done|rfl|(simp only [List.length_drop,List.length_take];rfl)) ?_;(with_reducible refine (posting_Seek.calls k _ _ l0 a1 t551 t552 _ ?side1 ?side2 A9.out).mono ?_);(case side1 => exact cM (Kd.C_below HR0.out HB.out));(case side2 => exact HC0.out);rintro e w39 ⟨rfl,hb⟩;refine ⟨_,rfl,?_⟩;have n0_ := Aside0.mk (Kd.R_below (rM HO546.out) hb);have n1_ := Aside0.mk (Kd.R_below (rM HO550.out) hb);have n2_ := Aside0.mk (below_step (bM HB.out) hb);clear HO546;clear HO550;clear HB;have HO546 := n0_;have HO550 := n1_;have HB := n2_;clear n0_ n1_ n2_;(try clear hb);(try clear hb2);(try clear hk);(try clear hi))|((with_reducible refine gate_callee (f := 30) rfl ?_);refine goesL_ (some 37) rfl rfl Try.func30 (by kernel_rfl) rfl #[.slice A0 l0.length c0,.int .i64 a1] rfl (by (try simp only [List.map_toArray,List.map_cons,List.map_nil]);first|done|rfl|(simp only [List.length_drop,List.length_take];rfl)) ?_;(with_reducible refine (codesearchref05_Seek.calls k _ _ l0 a1 t553 t554 _ ?side1 ?side2 A10.out).mono ?_);(case side1 => exact cM (Kd.C_below HR0.out HB.out));(case side2 => exact HC0.out);rintro e w40 ⟨rfl,hb⟩;refine ⟨_,rfl,?_⟩;have n0_ := Aside0.mk (Kd.R_below (rM HO546.out) hb);have n1_ := Aside0.mk (Kd.R_below (rM HO550.out) hb);have n2_ := Aside0.mk (below_step (bM HB.out) hb);clear HO546;clear HO550;clear HB;have HO546 := n0_;have HO550 := n1_;have HB := n2_;clear n0_ n1_ n2_;(try clear hb);(try clear hb2);(try clear hk);(try clear hi)))
    go_ret
    exact ⟨by first|rfl|(simp [errW_none,errW_some] <;> rfl)|(simp [*,errW_none,errW_some] <;> rfl),bM HB.out⟩
 ·replace c4 := Bool.eq_false_iff.mpr c4
  subst c4
  have H1 : (some false) = some r := by rw [if_neg (show ¬ (false = true) by decide)] at H;exact H
  clear H
  have H := H1
  clear H1
  obtain rfl := Option.some.inj H
  go_enter Try.func6,Try.ntmps6
  go_wp2_with (first|((with_reducible refine gate_callee (f := 10) rfl ?_);refine goesL_ (some 13) rfl rfl Try.func10 (by kernel_rfl) rfl #[] rfl (by (try simp only [List.map_toArray,List.map_cons,List.map_nil]);first|done|rfl|(simp only [List.length_drop,List.length_take];rfl)) ?_;(with_reducible refine (codesearchlaw05_alive.calls k  false _ A3.out).mono ?_);rintro e w41 ⟨rfl,hb⟩;refine ⟨_,rfl,?_⟩;have n0_ := Aside0.mk (below_step (bM HB.out) hb);clear HB;have HB := n0_;clear n0_;(try clear hb);(try clear hb2);(try clear hk);(try clear hi)))
  go_ret
  exact ⟨by first|rfl|(simp [errW_none,errW_some] <;> rfl)|(simp [*,errW_none,errW_some] <;> rfl),bM HB.out⟩

/-! ### codesearchlaw05_PostingLogic: function 7 -/
mutual
def codesearchlaw05_PostingLogic.j0 : Nat → List Int → List Int → Int → Bool → Option (Bool)
|0,_,_,_,_ => none
|k + 1,x0,x1,x2,x21 => if x21 = true then (some true) else ((codesearchref05_In.f k x0 x2).bind fun t557 => ((codesearchref05_In.f k x1 x2).bind fun t558 => ((posting_And.f x0 x1).bind fun t559 => ((posting_Or.f k x0 x1).bind fun t562 => ((posting_Minus.f x0 x1).bind fun t565 => ((codesearchref05_In.f k t559 x2).bind fun t568 => (if t557 = true then (if (t568 != t558) = true then (codesearchlaw05_PostingLogic.j1 k x0 x1 t559 t562 t565 true) else ((codesearchref05_In.f k t562 x2).bind fun t569 => (if (t569 != true) = true then (codesearchlaw05_PostingLogic.j1 k x0 x1 t559 t562 t565 true) else ((codesearchref05_In.f k t565 x2).bind fun t570 => (codesearchlaw05_PostingLogic.j1 k x0 x1 t559 t562 t565 (t570 != (!t558))))))) else (if (t568 != false) = true then (codesearchlaw05_PostingLogic.j1 k x0 x1 t559 t562 t565 true) else ((codesearchref05_In.f k t562 x2).bind fun t571 => (if (t571 != t558) = true then (codesearchlaw05_PostingLogic.j1 k x0 x1 t559 t562 t565 true) else ((codesearchref05_In.f k t565 x2).bind fun t572 => (codesearchlaw05_PostingLogic.j1 k x0 x1 t559 t562 t565 (t572 != false)))))))))))))
def codesearchlaw05_PostingLogic.j1 : Nat → List Int → List Int → List Int → List Int → List Int → Bool → Option (Bool)
|0,_,_,_,_,_,_ => none
|k + 1,x0,x1,x9,x10,x11,x65 => if x65 = true then (some false) else ((posting_Minus.f x0 x11).bind fun t573 => ((codesearchref05_Same.f k t573 x9).bind fun t576 => (if t576 = true then ((posting_Or.f k x11 x1).bind fun t577 => ((codesearchref05_Same.f k t577 x10).bind fun t580 => (if t580 = true then ((posting_And.f x1 x0).bind fun t581 => ((codesearchref05_Same.f k t581 x9).bind fun t584 => (some t584))) else (some false)))) else (some false))))
end
def codesearchlaw05_PostingLogic.f (k : Nat) (l0 : List Int) (l1 : List Int) (a2 : Int) : Option (Bool) := (codesearchlaw05_alive.f k).bind fun t556 => (if t556 = true then (if (l0.length : Int) > 60 then (codesearchlaw05_PostingLogic.j0 k l0 l1 a2 true) else (codesearchlaw05_PostingLogic.j0 k l0 l1 a2 (decide ((l1.length : Int) > 60)))) else (some false))
theorem codesearchlaw05_PostingLogic.mono_l : ∀ k, (∀ y0 y1 y2 y3, LeO (codesearchlaw05_PostingLogic.j0 k y0 y1 y2 y3) (codesearchlaw05_PostingLogic.j0 (k + 1) y0 y1 y2 y3)) ∧ (∀ y0 y1 y2 y3 y4 y5, LeO (codesearchlaw05_PostingLogic.j1 k y0 y1 y2 y3 y4 y5) (codesearchlaw05_PostingLogic.j1 (k + 1) y0 y1 y2 y3 y4 y5))
|0 => ⟨fun _ _ _ _ r h => by simp [codesearchlaw05_PostingLogic.j0] at h,fun _ _ _ _ _ _ r h => by simp [codesearchlaw05_PostingLogic.j1] at h⟩
|k + 1 => by
  obtain ⟨ih0,ih1⟩ := codesearchlaw05_PostingLogic.mono_l k
  refine ⟨?_,?_⟩
  ·intro y0 y1 y2 y3
   unfold codesearchlaw05_PostingLogic.j0
   repeat' first
  |(with_reducible exact ih0 _ _ _ _)
  |(with_reducible exact ih1 _ _ _ _ _ _)
  |(with_reducible exact codesearchlaw05_alive.mono _)
  |(with_reducible exact codesearchref05_In.mono _ _ _)
  |(with_reducible exact codesearchref05_Same.mono _ _ _)
  |(with_reducible exact posting_Or.mono _ _ _)
  |(with_reducible exact LeO.refl _)
  |(with_reducible exact LeO.none _)
  |(with_reducible refine LeO.ite ?_ ?_)
  |(with_reducible refine LeO.bind ?_ (fun _ => ?_))
  |exact ih0 _ _ _ _
  |exact ih1 _ _ _ _ _ _
  |exact codesearchlaw05_alive.mono _
  |exact codesearchref05_In.mono _ _ _
  |exact codesearchref05_Same.mono _ _ _
  |exact posting_Or.mono _ _ _
  |exact LeO.none _
  |refine LeO.ite ?_ ?_
  |refine LeO.bind ?_ (fun _ => ?_)
  ·intro y0 y1 y2 y3 y4 y5
   unfold codesearchlaw05_PostingLogic.j1
   repeat' first
  |(with_reducible exact ih0 _ _ _ _)
  |(with_reducible exact ih1 _ _ _ _ _ _)
  |(with_reducible exact codesearchlaw05_alive.mono _)
  |(with_reducible exact codesearchref05_In.mono _ _ _)
  |(with_reducible exact codesearchref05_Same.mono _ _ _)
  |(with_reducible exact posting_Or.mono _ _ _)
  |(with_reducible exact LeO.refl _)
  |(with_reducible exact LeO.none _)
  |(with_reducible refine LeO.ite ?_ ?_)
  |(with_reducible refine LeO.bind ?_ (fun _ => ?_))
  |exact ih0 _ _ _ _
  |exact ih1 _ _ _ _ _ _
  |exact codesearchlaw05_alive.mono _
  |exact codesearchref05_In.mono _ _ _
  |exact codesearchref05_Same.mono _ _ _
  |exact posting_Or.mono _ _ _
  |exact LeO.none _
  |refine LeO.ite ?_ ?_
  |refine LeO.bind ?_ (fun _ => ?_)
theorem codesearchlaw05_PostingLogic.mono : ∀ a0 a1 a2 k, LeO (codesearchlaw05_PostingLogic.f k a0 a1 a2) (codesearchlaw05_PostingLogic.f (k + 1) a0 a1 a2) := by
 intro a0 a1 a2 k
 obtain ⟨ih0,ih1⟩ := codesearchlaw05_PostingLogic.mono_l k
 unfold codesearchlaw05_PostingLogic.f
 repeat' first
  |(with_reducible exact ih0 _ _ _ _)
  |(with_reducible exact ih1 _ _ _ _ _ _)
  |(with_reducible exact codesearchlaw05_alive.mono _)
  |(with_reducible exact codesearchref05_In.mono _ _ _)
  |(with_reducible exact codesearchref05_Same.mono _ _ _)
  |(with_reducible exact posting_Or.mono _ _ _)
  |(with_reducible exact LeO.refl _)
  |(with_reducible exact LeO.none _)
  |(with_reducible refine LeO.ite ?_ ?_)
  |(with_reducible refine LeO.bind ?_ (fun _ => ?_))
  |exact ih0 _ _ _ _
  |exact ih1 _ _ _ _ _ _
  |exact codesearchlaw05_alive.mono _
  |exact codesearchref05_In.mono _ _ _
  |exact codesearchref05_Same.mono _ _ _
  |exact posting_Or.mono _ _ _
  |exact LeO.none _
  |refine LeO.ite ?_ ?_
  |refine LeO.bind ?_ (fun _ => ?_)
set_option maxHeartbeats 4000000 in
set_option maxRecDepth 100000 in
theorem codesearchlaw05_PostingLogic.calls (k : Nat) (A0 : Option Addr) (c0 : Nat) (l0 : List Int) (A1 : Option Addr) (c1 : Nat) (l1 : List Int) (a2 : Int) (r : Bool) (w : World) (hr0 : Kd.C (Kd.int .i64) w A0 l0.length l0) (hc0 : l0.length ≤ c0) (hr1 : Kd.C (Kd.int .i64) w A1 l1.length l1) (hc1 : l1.length ≤ c1) (h : codesearchlaw05_PostingLogic.f k l0 l1 a2 = some r) :
  Calls Try.prog 7 #[.slice A0 l0.length c0,.slice A1 l1.length c1,.int .i64 a2] w fun e w' => e = .returned (.bool r) ∧ Below w.heap.size w w' := by
 have HR0 := Aside0.mk hr0
 have HC0 := Aside0.mk hc0
 clear hr0 hc0
 have HR1 := Aside0.mk hr1
 have HC1 := Aside0.mk hc1
 clear hr1 hc1
 have HB := Aside0.mk (Below.refl w.heap.size w)
 have H : ((codesearchlaw05_alive.f k).bind fun t556 => (if t556 = true then (if (l0.length : Int) > 60 then (codesearchlaw05_PostingLogic.j0 k l0 l1 a2 true) else (codesearchlaw05_PostingLogic.j0 k l0 l1 a2 (decide ((l1.length : Int) > 60)))) else (some false))) = some r := h
 clear h
 replace H := Option.bind_eq_some_iff.mp H
 obtain ⟨t556,A40,H⟩ := H
 replace H : (if t556 = true then (if (l0.length : Int) > 60 then (codesearchlaw05_PostingLogic.j0 k l0 l1 a2 true) else (codesearchlaw05_PostingLogic.j0 k l0 l1 a2 (decide ((l1.length : Int) > 60)))) else (some false)) = some r := H
 have A4 := Aside0.mk A40
 clear A40
 by_cases c5 : t556 = true
 ·subst c5
  have H1 : (if (l0.length : Int) > 60 then (codesearchlaw05_PostingLogic.j0 k l0 l1 a2 true) else (codesearchlaw05_PostingLogic.j0 k l0 l1 a2 (decide ((l1.length : Int) > 60)))) = some r := by rw [if_pos rfl] at H;exact H
  clear H
  have H := H1
  clear H1
  have HC6 := Aside0.mk H
  clear H
  go_enter Try.func7,Try.ntmps7
  go_upto_region 3 with (first|((with_reducible refine gate_callee (f := 10) rfl ?_);refine goesL_ (some 12) rfl rfl Try.func10 (by kernel_rfl) rfl #[] rfl (by (try simp only [List.map_toArray,List.map_cons,List.map_nil]);first|done|rfl|(simp only [List.length_drop,List.length_take];rfl)) ?_;(with_reducible refine (codesearchlaw05_alive.calls k  true _ A4.out).mono ?_);rintro e w7 ⟨rfl,hb⟩;refine ⟨_,rfl,?_⟩;have n0_ := Aside0.mk (below_step (bM HB.out) hb);clear HB;have HB := n0_;clear n0_;(try clear hb);(try clear hb2);(try clear hk);(try clear hi)))
  (try simp only [Act.put,List.setIfInBounds_toArray,List.set_cons_zero,List.set_cons_succ])
  go_cut [21] (fun v21 wc => ∃ (kq : Nat) (x21_5 : Bool),v21 = .bool x21_5 ∧ Aside0 (codesearchlaw05_PostingLogic.j0 kq l0 l1 a2 x21_5 = some r) ∧ Aside0 (kq ≤ k) ∧ Aside0 (Below w.heap.size w wc))
  case first =>
   have H := HC6.out
   clear HC6
   by_cases c8 : (l0.length : Int) > 60
   ·rw [if_pos c8] at H
    have c8b0 : decide (60 < (l0.length : Int)) = true := decide_eq_true c8
    have c8b1 : decide (60 < l0.length) = true := decide_eq_true (by omega)
    clear c8
    (first|rw [c8b0]|(simp only [i64_w,i32_w];rw [c8b0])|skip)
    have H' := Aside0.mk H
    clear H
    go_wp2
    go_meet
    case rel => exact ⟨_,(true),(by first|rfl|(simp;done)|(simp [*];done)),H',⟨by first|omega|exact Nat.le_refl _⟩,⟨bM HB.out⟩⟩
   ·rw [if_neg c8] at H
    have c8b0 : decide (60 < (l0.length : Int)) = false := decide_eq_false c8
    have c8b1 : decide (60 < l0.length) = false := decide_eq_false (by omega)
    clear c8
    (first|rw [c8b0]|(simp only [i64_w,i32_w];rw [c8b0])|skip)
    have H' := Aside0.mk H
    clear H
    go_wp2
    go_meet
    case rel => exact ⟨_,(decide ((l1.length : Int) > 60)),(by first|rfl|(simp;done)|(simp [*];done)),H',⟨by first|omega|exact Nat.le_refl _⟩,⟨bM HB.out⟩⟩
  case rest =>
   clear HC6
   try clear c1
   try clear p2
   try clear c5
   try clear c7
   try clear c8
   try clear c8b0
   try clear c8b1
   obtain ⟨kq,x21_5,rfl,HA,HJ5,HB⟩ := hcut
   cases kq with
  |zero => exact absurd HA.out (by simp [codesearchlaw05_PostingLogic.j0])
  |succ kj5 =>
    have H := HA.out
    clear HA
    simp only [codesearchlaw05_PostingLogic.j0] at H
    by_cases c9 : x21_5 = true
    ·subst c9
     have H1 : (some true) = some r := by rw [if_pos rfl] at H;exact H
     clear H
     have H := H1
     clear H1
     obtain rfl := Option.some.inj H
     go_wp2
     go_ret
     exact ⟨by first|rfl|(simp [errW_none,errW_some] <;> rfl)|(simp [*,errW_none,errW_some] <;> rfl),bM HB.out⟩
    ·replace c9 := Bool.eq_false_iff.mpr c9
     subst c9
     have H1 : ((codesearchref05_In.f kj5 l0 a2).bind fun t557 => ((codesearchref05_In.f kj5 l1 a2).bind fun t558 => ((posting_And.f l0 l1).bind fun t559 => ((posting_Or.f kj5 l0 l1).bind fun t562 => ((posting_Minus.f l0 l1).bind fun t565 => ((codesearchref05_In.f kj5 t559 a2).bind fun t568 => (if t557 = true then (if (t568 != t558) = true then (codesearchlaw05_PostingLogic.j1 kj5 l0 l1 t559 t562 t565 true) else ((codesearchref05_In.f kj5 t562 a2).bind fun t569 => (if (t569 != true) = true then (codesearchlaw05_PostingLogic.j1 kj5 l0 l1 t559 t562 t565 true) else ((codesearchref05_In.f kj5 t565 a2).bind fun t570 => (codesearchlaw05_PostingLogic.j1 kj5 l0 l1 t559 t562 t565 (t570 != (!t558))))))) else (if (t568 != false) = true then (codesearchlaw05_PostingLogic.j1 kj5 l0 l1 t559 t562 t565 true) else ((codesearchref05_In.f kj5 t562 a2).bind fun t571 => (if (t571 != t558) = true then (codesearchlaw05_PostingLogic.j1 kj5 l0 l1 t559 t562 t565 true) else ((codesearchref05_In.f kj5 t565 a2).bind fun t572 => (codesearchlaw05_PostingLogic.j1 kj5 l0 l1 t559 t562 t565 (t572 != false))))))))))))) = some r := by rw [if_neg (show ¬ (false = true) by decide)] at H;exact H
     clear H
     have H := H1
     clear H1
     replace H := Option.bind_eq_some_iff.mp H
     obtain ⟨t557,A100,H⟩ := H
     replace H : ((codesearchref05_In.f kj5 l1 a2).bind fun t558 => ((posting_And.f l0 l1).bind fun t559 => ((posting_Or.f kj5 l0 l1).bind fun t562 => ((posting_Minus.f l0 l1).bind fun t565 => ((codesearchref05_In.f kj5 t559 a2).bind fun t568 => (if t557 = true then (if (t568 != t558) = true then (codesearchlaw05_PostingLogic.j1 kj5 l0 l1 t559 t562 t565 true) else ((codesearchref05_In.f kj5 t562 a2).bind fun t569 => (if (t569 != true) = true then (codesearchlaw05_PostingLogic.j1 kj5 l0 l1 t559 t562 t565 true) else ((codesearchref05_In.f kj5 t565 a2).bind fun t570 => (codesearchlaw05_PostingLogic.j1 kj5 l0 l1 t559 t562 t565 (t570 != (!t558))))))) else (if (t568 != false) = true then (codesearchlaw05_PostingLogic.j1 kj5 l0 l1 t559 t562 t565 true) else ((codesearchref05_In.f kj5 t562 a2).bind fun t571 => (if (t571 != t558) = true then (codesearchlaw05_PostingLogic.j1 kj5 l0 l1 t559 t562 t565 true) else ((codesearchref05_In.f kj5 t565 a2).bind fun t572 => (codesearchlaw05_PostingLogic.j1 kj5 l0 l1 t559 t562 t565 (t572 != false)))))))))))) = some r := H
     have A10 := Aside0.mk A100
     clear A100
     replace H := Option.bind_eq_some_iff.mp H
     obtain ⟨t558,A110,H⟩ := H
     replace H : ((posting_And.f l0 l1).bind fun t559 => ((posting_Or.f kj5 l0 l1).bind fun t562 => ((posting_Minus.f l0 l1).bind fun t565 => ((codesearchref05_In.f kj5 t559 a2).bind fun t568 => (if t557 = true then (if (t568 != t558) = true then (codesearchlaw05_PostingLogic.j1 kj5 l0 l1 t559 t562 t565 true) else ((codesearchref05_In.f kj5 t562 a2).bind fun t569 => (if (t569 != true) = true then (codesearchlaw05_PostingLogic.j1 kj5 l0 l1 t559 t562 t565 true) else ((codesearchref05_In.f kj5 t565 a2).bind fun t570 => (codesearchlaw05_PostingLogic.j1 kj5 l0 l1 t559 t562 t565 (t570 != (!t558))))))) else (if (t568 != false) = true then (codesearchlaw05_PostingLogic.j1 kj5 l0 l1 t559 t562 t565 true) else ((codesearchref05_In.f kj5 t562 a2).bind fun t571 => (if (t571 != t558) = true then (codesearchlaw05_PostingLogic.j1 kj5 l0 l1 t559 t562 t565 true) else ((codesearchref05_In.f kj5 t565 a2).bind fun t572 => (codesearchlaw05_PostingLogic.j1 kj5 l0 l1 t559 t562 t565 (t572 != false))))))))))) = some r := H
     have A11 := Aside0.mk A110
     clear A110
     replace H := Option.bind_eq_some_iff.mp H
     obtain ⟨t559,A120,H⟩ := H
     replace H : ((posting_Or.f kj5 l0 l1).bind fun t562 => ((posting_Minus.f l0 l1).bind fun t565 => ((codesearchref05_In.f kj5 t559 a2).bind fun t568 => (if t557 = true then (if (t568 != t558) = true then (codesearchlaw05_PostingLogic.j1 kj5 l0 l1 t559 t562 t565 true) else ((codesearchref05_In.f kj5 t562 a2).bind fun t569 => (if (t569 != true) = true then (codesearchlaw05_PostingLogic.j1 kj5 l0 l1 t559 t562 t565 true) else ((codesearchref05_In.f kj5 t565 a2).bind fun t570 => (codesearchlaw05_PostingLogic.j1 kj5 l0 l1 t559 t562 t565 (t570 != (!t558))))))) else (if (t568 != false) = true then (codesearchlaw05_PostingLogic.j1 kj5 l0 l1 t559 t562 t565 true) else ((codesearchref05_In.f kj5 t562 a2).bind fun t571 => (if (t571 != t558) = true then (codesearchlaw05_PostingLogic.j1 kj5 l0 l1 t559 t562 t565 true) else ((codesearchref05_In.f kj5 t565 a2).bind fun t572 => (codesearchlaw05_PostingLogic.j1 kj5 l0 l1 t559 t562 t565 (t572 != false)))))))))) = some r := H
     have A12 := Aside0.mk A120
     clear A120
     replace H := Option.bind_eq_some_iff.mp H
     obtain ⟨t562,A130,H⟩ := H
     replace H : ((posting_Minus.f l0 l1).bind fun t565 => ((codesearchref05_In.f kj5 t559 a2).bind fun t568 => (if t557 = true then (if (t568 != t558) = true then (codesearchlaw05_PostingLogic.j1 kj5 l0 l1 t559 t562 t565 true) else ((codesearchref05_In.f kj5 t562 a2).bind fun t569 => (if (t569 != true) = true then (codesearchlaw05_PostingLogic.j1 kj5 l0 l1 t559 t562 t565 true) else ((codesearchref05_In.f kj5 t565 a2).bind fun t570 => (codesearchlaw05_PostingLogic.j1 kj5 l0 l1 t559 t562 t565 (t570 != (!t558))))))) else (if (t568 != false) = true then (codesearchlaw05_PostingLogic.j1 kj5 l0 l1 t559 t562 t565 true) else ((codesearchref05_In.f kj5 t562 a2).bind fun t571 => (if (t571 != t558) = true then (codesearchlaw05_PostingLogic.j1 kj5 l0 l1 t559 t562 t565 true) else ((codesearchref05_In.f kj5 t565 a2).bind fun t572 => (codesearchlaw05_PostingLogic.j1 kj5 l0 l1 t559 t562 t565 (t572 != false))))))))) = some r := H
     have A13 := Aside0.mk A130
     clear A130
     replace H := Option.bind_eq_some_iff.mp H
     obtain ⟨t565,A140,H⟩ := H
     replace H : ((codesearchref05_In.f kj5 t559 a2).bind fun t568 => (if t557 = true then (if (t568 != t558) = true then (codesearchlaw05_PostingLogic.j1 kj5 l0 l1 t559 t562 t565 true) else ((codesearchref05_In.f kj5 t562 a2).bind fun t569 => (if (t569 != true) = true then (codesearchlaw05_PostingLogic.j1 kj5 l0 l1 t559 t562 t565 true) else ((codesearchref05_In.f kj5 t565 a2).bind fun t570 => (codesearchlaw05_PostingLogic.j1 kj5 l0 l1 t559 t562 t565 (t570 != (!t558))))))) else (if (t568 != false) = true then (codesearchlaw05_PostingLogic.j1 kj5 l0 l1 t559 t562 t565 true) else ((codesearchref05_In.f kj5 t562 a2).bind fun t571 => (if (t571 != t558) = true then (codesearchlaw05_PostingLogic.j1 kj5 l0 l1 t559 t562 t565 true) else ((codesearchref05_In.f kj5 t565 a2).bind fun t572 => (codesearchlaw05_PostingLogic.j1 kj5 l0 l1 t559 t562 t565 (t572 != false)))))))) = some r := H
     have A14 := Aside0.mk A140
     clear A140
     have HC15 := Aside0.mk H
     clear H
     go_upto_region 7 with (first|((with_reducible refine gate_callee (f := 31) rfl ?_);refine goesL_ (some 24) rfl rfl Try.func31 (by kernel_rfl) rfl #[.slice A0 l0.length c0,.int .i64 a2] rfl (by (try simp only [List.map_toArray,List.map_cons,List.map_nil]);first|done|rfl|(simp only [List.length_drop,List.length_take];rfl)) ?_;(with_reducible refine (codesearchref05_In.calls kj5 _ _ l0 a2 t557 _ ?side1 ?side2 A10.out).mono ?_);(case side1 => exact cM (Kd.C_below HR0.out HB.out));(case side2 => exact HC0.out);rintro e w' ⟨rfl,⟨nd,rfl⟩⟩;refine ⟨_,rfl,?_⟩)|((with_reducible refine gate_callee (f := 31) rfl ?_);refine goesL_ (some 27) rfl rfl Try.func31 (by kernel_rfl) rfl #[.slice A1 l1.length c1,.int .i64 a2] rfl (by (try simp only [List.map_toArray,List.map_cons,List.map_nil]);first|done|rfl|(simp only [List.length_drop,List.length_take];rfl)) ?_;(with_reducible refine (codesearchref05_In.calls kj5 _ _ l1 a2 t558 _ ?side1 ?side2 A11.out).mono ?_);(case side1 => repeat (first|exact (Kd.C_below HR1.out (bM HB.out))|(with_reducible refine Kd.C_alloc ?_ _)|(with_reducible refine Kd.C_drewN ?_ _)|(with_reducible refine Kd.C_drew ?_)));(case side2 => exact HC1.out);rintro e w' ⟨rfl,⟨nd,rfl⟩⟩;refine ⟨_,rfl,?_⟩)|((with_reducible refine gate_callee (f := 14) rfl ?_);refine goesL_ (some 30) rfl rfl Try.func14 (by kernel_rfl) rfl #[.slice A0 l0.length c0,.slice A1 l1.length c1] rfl (by (try simp only [List.map_toArray,List.map_cons,List.map_nil]);first|done|rfl|(simp only [List.length_drop,List.length_take];rfl)) ?_;(with_reducible refine (posting_And.calls _ _ l0 _ _ l1 t559 _ ?side1 ?side2 ?side3 ?side4 A12.out).mono ?_);(case side1 => repeat (first|exact (Kd.C_below HR0.out (bM HB.out))|(with_reducible refine Kd.C_alloc ?_ _)|(with_reducible refine Kd.C_drewN ?_ _)|(with_reducible refine Kd.C_drew ?_)));(case side2 => exact HC0.out);(case side3 => repeat (first|exact (Kd.C_below HR1.out (bM HB.out))|(with_reducible refine Kd.C_alloc ?_ _)|(with_reducible refine Kd.C_drewN ?_ _)|(with_reducible refine Kd.C_drew ?_)));(case side4 => exact HC1.out);rintro e w16 ⟨v560,rfl,ho0,hb⟩;refine ⟨_,rfl,?_⟩;have n0_ := Aside0.mk (Kd.R_lower ho0 (below_size (bM HB.out)));have n1_ := Aside0.mk (below_step (bM HB.out) hb);clear HB;have HO561 := n0_;have HB := n1_;clear n0_ n1_;(try clear hb);(try clear hb2);(try clear hk);(try clear hi);(try clear ho0))|((with_reducible refine gate_callee (f := 16) rfl ?_);refine goesL_ (some 33) rfl rfl Try.func16 (by kernel_rfl) rfl #[.slice A0 l0.length c0,.slice A1 l1.length c1] rfl (by (try simp only [List.map_toArray,List.map_cons,List.map_nil]);first|done|rfl|(simp only [List.length_drop,List.length_take];rfl)) ?_;(with_reducible refine (posting_Or.calls kj5 (fun k_ => k_ < w.heap.size) _ _ l0 (fun k_ => k_ < w.heap.size) _ _ l1 t562 _ ?side1 ?side2 A13.out).mono ?_);(case side1 => exact Kd.V_mk HC0.out (Kd.F_below (Kd.C_F (Kd.heap_int .i64) HR0.out) (bM HB.out)));(case side2 => exact Kd.V_mk HC1.out (Kd.F_below (Kd.C_F (Kd.heap_int .i64) HR1.out) (bM HB.out)));rintro e w17 ⟨v563,rfl,ho0,hb⟩;refine ⟨_,rfl,?_⟩;have n0_ := Aside0.mk (Kd.R_elder' (rM HO561.out) (Kd.R_base ho0) hb);have n1_ := Aside0.mk (Kd.R_lower (Kd.R_new' (Kd.R_mono (ok' := fun k_ => True) ho0 (fun _ hk_ => trivial)) (Kd.R_lt (rM HO561.out))) (below_size (bM HB.out)));have n2_ := Aside0.mk (below_step (bM HB.out) hb);clear HO561;clear HB;have HO561 := n0_;have HO564 := n1_;have HB := n2_;clear n0_ n1_ n2_;(try clear hb);(try clear hb2);(try clear hk);(try clear hi);(try clear ho0))|((with_reducible refine gate_callee (f := 18) rfl ?_);refine goesL_ (some 36) rfl rfl Try.func18 (by kernel_rfl) rfl #[.slice A0 l0.length c0,.slice A1 l1.length c1] rfl (by (try simp only [List.map_toArray,List.map_cons,List.map_nil]);first|done|rfl|(simp only [List.length_drop,List.length_take];rfl)) ?_;(with_reducible refine (posting_Minus.calls _ _ l0 _ _ l1 t565 _ ?side1 ?side2 ?side3 ?side4 A14.out).mono ?_);(case side1 => exact cM (Kd.C_below HR0.out HB.out));(case side2 => exact HC0.out);(case side3 => exact cM (Kd.C_below HR1.out HB.out));(case side4 => exact HC1.out);rintro e w18 ⟨v566,rfl,ho0,hb⟩;refine ⟨_,rfl,?_⟩;have n0_ := Aside0.mk (Kd.R_elder' (rM HO561.out) (Kd.R_base ho0) hb);have n1_ := Aside0.mk (Kd.R_elder' (rM HO564.out) (Kd.R_base ho0) hb);have n2_ := Aside0.mk (Kd.R_lower (Kd.R_new' (Kd.R_new' ho0 (Kd.R_lt (rM HO561.out))) (Kd.R_lt (rM HO564.out))) (below_size (bM HB.out)));have n3_ := Aside0.mk (below_step (bM HB.out) hb);clear HO561;clear HO564;clear HB;have HO561 := n0_;have HO564 := n1_;have HO567 := n2_;have HB := n3_;clear n0_ n1_ n2_ n3_;(try clear hb);(try clear hb2);(try clear hk);(try clear hi);(try clear ho0)))
     (try simp only [Act.put,List.setIfInBounds_toArray,List.set_cons_zero,List.set_cons_succ])
     go_cut [65] (fun v65 wc => ∃ (kq : Nat) (x65_14 : Bool),v65 = .bool x65_14 ∧ Aside0 (codesearchlaw05_PostingLogic.j1 kq l0 l1 t559 t562 t565 x65_14 = some r) ∧ Aside0 (kq ≤ kj5) ∧ Aside0 (Kd.R (Kd.int .i64) 3 wc w.heap.size (fun k_ => some k_ ≠ (v563 : Value).ownBlock ∧ some k_ ≠ (v566 : Value).ownBlock) v560 t559) ∧ Aside0 (Kd.R (Kd.int .i64) 3 wc w.heap.size (fun k_ => some k_ ≠ (v560 : Value).ownBlock ∧ some k_ ≠ (v566 : Value).ownBlock) v563 t562) ∧ Aside0 (Kd.R (Kd.int .i64) 3 wc w.heap.size (fun k_ => some k_ ≠ (v560 : Value).ownBlock ∧ some k_ ≠ (v563 : Value).ownBlock) v566 t565) ∧ Aside0 (Below w.heap.size w wc))
     case first =>
      have H := HC15.out
      clear HC15
      replace H := Option.bind_eq_some_iff.mp H
      obtain ⟨t568,A190,H⟩ := H
      replace H : (if t557 = true then (if (t568 != t558) = true then (codesearchlaw05_PostingLogic.j1 kj5 l0 l1 t559 t562 t565 true) else ((codesearchref05_In.f kj5 t562 a2).bind fun t569 => (if (t569 != true) = true then (codesearchlaw05_PostingLogic.j1 kj5 l0 l1 t559 t562 t565 true) else ((codesearchref05_In.f kj5 t565 a2).bind fun t570 => (codesearchlaw05_PostingLogic.j1 kj5 l0 l1 t559 t562 t565 (t570 != (!t558))))))) else (if (t568 != false) = true then (codesearchlaw05_PostingLogic.j1 kj5 l0 l1 t559 t562 t565 true) else ((codesearchref05_In.f kj5 t562 a2).bind fun t571 => (if (t571 != t558) = true then (codesearchlaw05_PostingLogic.j1 kj5 l0 l1 t559 t562 t565 true) else ((codesearchref05_In.f kj5 t565 a2).bind fun t572 => (codesearchlaw05_PostingLogic.j1 kj5 l0 l1 t559 t562 t565 (t572 != false))))))) = some r := H
      have A19 := Aside0.mk A190
      clear A190
      by_cases c20 : t557 = true
      ·subst c20
       have H1 : (if (t568 != t558) = true then (codesearchlaw05_PostingLogic.j1 kj5 l0 l1 t559 t562 t565 true) else ((codesearchref05_In.f kj5 t562 a2).bind fun t569 => (if (t569 != true) = true then (codesearchlaw05_PostingLogic.j1 kj5 l0 l1 t559 t562 t565 true) else ((codesearchref05_In.f kj5 t565 a2).bind fun t570 => (codesearchlaw05_PostingLogic.j1 kj5 l0 l1 t559 t562 t565 (t570 != (!t558))))))) = some r := by rw [if_pos rfl] at H;exact H
       clear H
       have H := H1
       clear H1
       by_cases c21 : (t568 != t558) = true
       ·rw [if_pos c21] at H
        have c21b0 : (t568 != t558) = true := c21
        (try (have c21b1 : decide (t568 = t558) = false := by simpa using c21))
        (try (have c21b2 : (t568 == t558) = false := by simpa using c21))
        (try (have c21b3 : ¬ (t568 = t558) := by simpa using c21))
        clear c21
        (first|rw [c21b0]|(simp only [i64_w,i32_w];rw [c21b0])|skip)
        have H' := Aside0.mk H
        clear H
        obtain ⟨Ao22,co22,eo22⟩ := Kd.R_slice HO561.out
        subst eo22
        go_wp2_with (first|((with_reducible refine gate_callee (f := 31) rfl ?_);refine goesL_ (some 39) rfl rfl Try.func31 (by kernel_rfl) rfl #[.slice Ao22 t559.length co22,.int .i64 a2] rfl (by (try simp only [List.map_toArray,List.map_cons,List.map_nil]);first|done|rfl|(simp only [List.length_drop,List.length_take];rfl)) ?_;(with_reducible refine (codesearchref05_In.calls kj5 _ _ t559 a2 t568 _ ?side1 ?side2 A19.out).mono ?_);(case side1 => exact cM (Kd.R_reads' HO561.out).2.2);(case side2 => exact (Kd.R_reads' HO561.out).2.1);rintro e w' ⟨rfl,⟨nd,rfl⟩⟩;refine ⟨_,rfl,?_⟩))
        go_meet
        case rel => exact ⟨_,(true),(by first|rfl|(simp;done)|(simp [*];done)),H',⟨by have := HJ5.out;first|omega|exact Nat.le_refl _⟩,⟨by (with_reducible repeat (first|apply Kd.R_alloc|apply Kd.R_drewN|apply Kd.R_drew));exact Kd.R_mono HO561.out (fun _ hk => ⟨hk.1.2,hk.2⟩)⟩,⟨by (with_reducible repeat (first|apply Kd.R_alloc|apply Kd.R_drewN|apply Kd.R_drew));exact Kd.R_mono HO564.out (fun _ hk => ⟨hk.1.2,hk.2⟩)⟩,⟨by (with_reducible repeat (first|apply Kd.R_alloc|apply Kd.R_drewN|apply Kd.R_drew));exact Kd.R_mono HO567.out (fun _ hk => ⟨hk.1.2,hk.2⟩)⟩,⟨bM HB.out⟩⟩
       ·rw [if_neg c21] at H
        have c21b0 : (t568 != t558) = false := by simpa using c21
        (try (have c21b1 : decide (t568 = t558) = true := by simpa using c21))
        (try (have c21b2 : (t568 == t558) = true := by simpa using c21))
        clear c21
        (first|rw [c21b0]|(simp only [i64_w,i32_w];rw [c21b0])|skip)
        replace H := Option.bind_eq_some_iff.mp H
        obtain ⟨t569,A230,H⟩ := H
        replace H : (if (t569 != true) = true then (codesearchlaw05_PostingLogic.j1 kj5 l0 l1 t559 t562 t565 true) else ((codesearchref05_In.f kj5 t565 a2).bind fun t570 => (codesearchlaw05_PostingLogic.j1 kj5 l0 l1 t559 t562 t565 (t570 != (!t558))))) = some r := H
        have A23 := Aside0.mk A230
        clear A230
        by_cases c24 : (t569 != true) = true
        ·rw [if_pos c24] at H
         have c24b0 : (t569 != true) = true := c24
         (try (have c24b1 : decide (t569 = true) = false := by simpa using c24))
         (try (have c24b2 : (t569 == true) = false := by simpa using c24))
         (try (have c24b3 : ¬ (t569 = true) := by simpa using c24))
         clear c24
         have H' := Aside0.mk H
         clear H
         obtain ⟨Ao25,co25,eo25⟩ := Kd.R_slice HO561.out
         subst eo25
         go_wp2_with (first|((with_reducible refine gate_callee (f := 31) rfl ?_);refine goesL_ (some 39) rfl rfl Try.func31 (by kernel_rfl) rfl #[.slice Ao25 t559.length co25,.int .i64 a2] rfl (by (try simp only [List.map_toArray,List.map_cons,List.map_nil]);first|done|rfl|(simp only [List.length_drop,List.length_take];rfl)) ?_;(with_reducible refine (codesearchref05_In.calls kj5 _ _ t559 a2 t568 _ ?side1 ?side2 A19.out).mono ?_);(case side1 => exact cM (Kd.R_reads' HO561.out).2.2);(case side2 => exact (Kd.R_reads' HO561.out).2.1);rintro e w' ⟨rfl,⟨nd,rfl⟩⟩;refine ⟨_,rfl,?_⟩;obtain ⟨Ao26,co26,eo26⟩ := Kd.R_slice HO564.out;subst eo26)|(go_at_call 31;(with_reducible refine (codesearchref05_In.calls kj5 _ _ t562 a2 t569 _ ?side1 ?side2 A23.out).mono ?_);(case side1 => exact cM (Kd.R_reads' HO564.out).2.2);(case side2 => exact (Kd.R_reads' HO564.out).2.1);rintro e w' ⟨rfl,⟨nd,rfl⟩⟩))
         go_meet
         case rel => exact ⟨_,(true),(by first|rfl|(simp;done)|(simp [*];done)),H',⟨by have := HJ5.out;first|omega|exact Nat.le_refl _⟩,⟨by (with_reducible repeat (first|apply Kd.R_alloc|apply Kd.R_drewN|apply Kd.R_drew));exact Kd.R_mono HO561.out (fun _ hk => ⟨hk.1.2,hk.2⟩)⟩,⟨by (with_reducible repeat (first|apply Kd.R_alloc|apply Kd.R_drewN|apply Kd.R_drew));exact Kd.R_mono HO564.out (fun _ hk => ⟨hk.1.2,hk.2⟩)⟩,⟨by (with_reducible repeat (first|apply Kd.R_alloc|apply Kd.R_drewN|apply Kd.R_drew));exact Kd.R_mono HO567.out (fun _ hk => ⟨hk.1.2,hk.2⟩)⟩,⟨bM HB.out⟩⟩
        ·rw [if_neg c24] at H
         have c24b0 : (t569 != true) = false := by simpa using c24
         (try (have c24b1 : decide (t569 = true) = true := by simpa using c24))
         (try (have c24b2 : (t569 == true) = true := by simpa using c24))
         clear c24
         replace H := Option.bind_eq_some_iff.mp H
         obtain ⟨t570,A270,H⟩ := H
         replace H : (codesearchlaw05_PostingLogic.j1 kj5 l0 l1 t559 t562 t565 (t570 != (!t558))) = some r := H
         have A27 := Aside0.mk A270
         clear A270
         have H' := Aside0.mk H
         clear H
         obtain ⟨Ao28,co28,eo28⟩ := Kd.R_slice HO561.out
         subst eo28
         go_wp2_with (first|((with_reducible refine gate_callee (f := 31) rfl ?_);refine goesL_ (some 39) rfl rfl Try.func31 (by kernel_rfl) rfl #[.slice Ao28 t559.length co28,.int .i64 a2] rfl (by (try simp only [List.map_toArray,List.map_cons,List.map_nil]);first|done|rfl|(simp only [List.length_drop,List.length_take];rfl)) ?_;(with_reducible refine (codesearchref05_In.calls kj5 _ _ t559 a2 t568 _ ?side1 ?side2 A19.out).mono ?_);(case side1 => exact cM (Kd.R_reads' HO561.out).2.2);(case side2 => exact (Kd.R_reads' HO561.out).2.1);rintro e w' ⟨rfl,⟨nd,rfl⟩⟩;refine ⟨_,rfl,?_⟩;obtain ⟨Ao29,co29,eo29⟩ := Kd.R_slice HO564.out;subst eo29)|(go_at_call 31;(with_reducible refine (codesearchref05_In.calls kj5 _ _ t562 a2 t569 _ ?side1 ?side2 A23.out).mono ?_);(case side1 => exact cM (Kd.R_reads' HO564.out).2.2);(case side2 => exact (Kd.R_reads' HO564.out).2.1);rintro e w' ⟨rfl,⟨nd,rfl⟩⟩;obtain ⟨Ao30,co30,eo30⟩ := Kd.R_slice HO567.out;subst eo30)|(go_at_call 31;(with_reducible refine (codesearchref05_In.calls kj5 _ _ t565 a2 t570 _ ?side1 ?side2 A27.out).mono ?_);(case side1 => exact cM (Kd.R_reads' HO567.out).2.2);(case side2 => exact (Kd.R_reads' HO567.out).2.1);rintro e w' ⟨rfl,⟨nd,rfl⟩⟩))
         go_meet
         case rel => exact ⟨_,((t570 != (!t558))),(by first|rfl|(simp;done)|(simp [*];done)),H',⟨by have := HJ5.out;first|omega|exact Nat.le_refl _⟩,⟨by (with_reducible repeat (first|apply Kd.R_alloc|apply Kd.R_drewN|apply Kd.R_drew));exact Kd.R_mono HO561.out (fun _ hk => ⟨hk.1.2,hk.2⟩)⟩,⟨by (with_reducible repeat (first|apply Kd.R_alloc|apply Kd.R_drewN|apply Kd.R_drew));exact Kd.R_mono HO564.out (fun _ hk => ⟨hk.1.2,hk.2⟩)⟩,⟨by (with_reducible repeat (first|apply Kd.R_alloc|apply Kd.R_drewN|apply Kd.R_drew));exact Kd.R_mono HO567.out (fun _ hk => ⟨hk.1.2,hk.2⟩)⟩,⟨bM HB.out⟩⟩
      ·replace c20 := Bool.eq_false_iff.mpr c20
       subst c20
       have H1 : (if (t568 != false) = true then (codesearchlaw05_PostingLogic.j1 kj5 l0 l1 t559 t562 t565 true) else ((codesearchref05_In.f kj5 t562 a2).bind fun t571 => (if (t571 != t558) = true then (codesearchlaw05_PostingLogic.j1 kj5 l0 l1 t559 t562 t565 true) else ((codesearchref05_In.f kj5 t565 a2).bind fun t572 => (codesearchlaw05_PostingLogic.j1 kj5 l0 l1 t559 t562 t565 (t572 != false)))))) = some r := by rw [if_neg (show ¬ (false = true) by decide)] at H;exact H
       clear H
       have H := H1
       clear H1
       by_cases c31 : (t568 != false) = true
       ·rw [if_pos c31] at H
        have c31b0 : (t568 != false) = true := c31
        (try (have c31b1 : decide (t568 = false) = false := by simpa using c31))
        (try (have c31b2 : (t568 == false) = false := by simpa using c31))
        (try (have c31b3 : ¬ (t568 = false) := by simpa using c31))
        clear c31
        have H' := Aside0.mk H
        clear H
        obtain ⟨Ao32,co32,eo32⟩ := Kd.R_slice HO561.out
        subst eo32
        go_wp2_with (first|((with_reducible refine gate_callee (f := 31) rfl ?_);refine goesL_ (some 39) rfl rfl Try.func31 (by kernel_rfl) rfl #[.slice Ao32 t559.length co32,.int .i64 a2] rfl (by (try simp only [List.map_toArray,List.map_cons,List.map_nil]);first|done|rfl|(simp only [List.length_drop,List.length_take];rfl)) ?_;(with_reducible refine (codesearchref05_In.calls kj5 _ _ t559 a2 t568 _ ?side1 ?side2 A19.out).mono ?_);(case side1 => exact cM (Kd.R_reads' HO561.out).2.2);(case side2 => exact (Kd.R_reads' HO561.out).2.1);rintro e w' ⟨rfl,⟨nd,rfl⟩⟩;refine ⟨_,rfl,?_⟩))
        go_meet
        case rel => exact ⟨_,(true),(by first|rfl|(simp;done)|(simp [*];done)),H',⟨by have := HJ5.out;first|omega|exact Nat.le_refl _⟩,⟨by (with_reducible repeat (first|apply Kd.R_alloc|apply Kd.R_drewN|apply Kd.R_drew));exact Kd.R_mono HO561.out (fun _ hk => ⟨hk.1.2,hk.2⟩)⟩,⟨by (with_reducible repeat (first|apply Kd.R_alloc|apply Kd.R_drewN|apply Kd.R_drew));exact Kd.R_mono HO564.out (fun _ hk => ⟨hk.1.2,hk.2⟩)⟩,⟨by (with_reducible repeat (first|apply Kd.R_alloc|apply Kd.R_drewN|apply Kd.R_drew));exact Kd.R_mono HO567.out (fun _ hk => ⟨hk.1.2,hk.2⟩)⟩,⟨bM HB.out⟩⟩
       ·rw [if_neg c31] at H
        have c31b0 : (t568 != false) = false := by simpa using c31
        (try (have c31b1 : decide (t568 = false) = true := by simpa using c31))
        (try (have c31b2 : (t568 == false) = true := by simpa using c31))
        clear c31
        replace H := Option.bind_eq_some_iff.mp H
        obtain ⟨t571,A330,H⟩ := H
        replace H : (if (t571 != t558) = true then (codesearchlaw05_PostingLogic.j1 kj5 l0 l1 t559 t562 t565 true) else ((codesearchref05_In.f kj5 t565 a2).bind fun t572 => (codesearchlaw05_PostingLogic.j1 kj5 l0 l1 t559 t562 t565 (t572 != false)))) = some r := H
        have A33 := Aside0.mk A330
        clear A330
        by_cases c34 : (t571 != t558) = true
        ·rw [if_pos c34] at H
         have c34b0 : (t571 != t558) = true := c34
         (try (have c34b1 : decide (t571 = t558) = false := by simpa using c34))
         (try (have c34b2 : (t571 == t558) = false := by simpa using c34))
         (try (have c34b3 : ¬ (t571 = t558) := by simpa using c34))
         clear c34
         have H' := Aside0.mk H
         clear H
         obtain ⟨Ao35,co35,eo35⟩ := Kd.R_slice HO561.out
         subst eo35
         go_wp2_with (first|((with_reducible refine gate_callee (f := 31) rfl ?_);refine goesL_ (some 39) rfl rfl Try.func31 (by kernel_rfl) rfl #[.slice Ao35 t559.length co35,.int .i64 a2] rfl (by (try simp only [List.map_toArray,List.map_cons,List.map_nil]);first|done|rfl|(simp only [List.length_drop,List.length_take];rfl)) ?_;(with_reducible refine (codesearchref05_In.calls kj5 _ _ t559 a2 t568 _ ?side1 ?side2 A19.out).mono ?_);(case side1 => exact cM (Kd.R_reads' HO561.out).2.2);(case side2 => exact (Kd.R_reads' HO561.out).2.1);rintro e w' ⟨rfl,⟨nd,rfl⟩⟩;refine ⟨_,rfl,?_⟩;obtain ⟨Ao36,co36,eo36⟩ := Kd.R_slice HO564.out;subst eo36)|(go_at_call 31;(with_reducible refine (codesearchref05_In.calls kj5 _ _ t562 a2 t571 _ ?side1 ?side2 A33.out).mono ?_);(case side1 => exact cM (Kd.R_reads' HO564.out).2.2);(case side2 => exact (Kd.R_reads' HO564.out).2.1);rintro e w' ⟨rfl,⟨nd,rfl⟩⟩))
         go_meet
         case rel => exact ⟨_,(true),(by first|rfl|(simp;done)|(simp [*];done)),H',⟨by have := HJ5.out;first|omega|exact Nat.le_refl _⟩,⟨by (with_reducible repeat (first|apply Kd.R_alloc|apply Kd.R_drewN|apply Kd.R_drew));exact Kd.R_mono HO561.out (fun _ hk => ⟨hk.1.2,hk.2⟩)⟩,⟨by (with_reducible repeat (first|apply Kd.R_alloc|apply Kd.R_drewN|apply Kd.R_drew));exact Kd.R_mono HO564.out (fun _ hk => ⟨hk.1.2,hk.2⟩)⟩,⟨by (with_reducible repeat (first|apply Kd.R_alloc|apply Kd.R_drewN|apply Kd.R_drew));exact Kd.R_mono HO567.out (fun _ hk => ⟨hk.1.2,hk.2⟩)⟩,⟨bM HB.out⟩⟩
        ·rw [if_neg c34] at H
         have c34b0 : (t571 != t558) = false := by simpa using c34
         (try (have c34b1 : decide (t571 = t558) = true := by simpa using c34))
         (try (have c34b2 : (t571 == t558) = true := by simpa using c34))
         clear c34
         replace H := Option.bind_eq_some_iff.mp H
         obtain ⟨t572,A370,H⟩ := H
         replace H : (codesearchlaw05_PostingLogic.j1 kj5 l0 l1 t559 t562 t565 (t572 != false)) = some r := H
         have A37 := Aside0.mk A370
         clear A370
         have H' := Aside0.mk H
         clear H
         obtain ⟨Ao38,co38,eo38⟩ := Kd.R_slice HO561.out
         subst eo38
         go_wp2_with (first|((with_reducible refine gate_callee (f := 31) rfl ?_);refine goesL_ (some 39) rfl rfl Try.func31 (by kernel_rfl) rfl #[.slice Ao38 t559.length co38,.int .i64 a2] rfl (by (try simp only [List.map_toArray,List.map_cons,List.map_nil]);first|done|rfl|(simp only [List.length_drop,List.length_take];rfl)) ?_;(with_reducible refine (codesearchref05_In.calls kj5 _ _ t559 a2 t568 _ ?side1 ?side2 A19.out).mono ?_);(case side1 => exact cM (Kd.R_reads' HO561.out).2.2);(case side2 => exact (Kd.R_reads' HO561.out).2.1);rintro e w' ⟨rfl,⟨nd,rfl⟩⟩;refine ⟨_,rfl,?_⟩;obtain ⟨Ao39,co39,eo39⟩ := Kd.R_slice HO564.out;subst eo39)|(go_at_call 31;(with_reducible refine (codesearchref05_In.calls kj5 _ _ t562 a2 t571 _ ?side1 ?side2 A33.out).mono ?_);(case side1 => exact cM (Kd.R_reads' HO564.out).2.2);(case side2 => exact (Kd.R_reads' HO564.out).2.1);rintro e w' ⟨rfl,⟨nd,rfl⟩⟩;obtain ⟨Ao40,co40,eo40⟩ := Kd.R_slice HO567.out;subst eo40)|(go_at_call 31;(with_reducible refine (codesearchref05_In.calls kj5 _ _ t565 a2 t572 _ ?side1 ?side2 A37.out).mono ?_);(case side1 => exact cM (Kd.R_reads' HO567.out).2.2);(case side2 => exact (Kd.R_reads' HO567.out).2.1);rintro e w' ⟨rfl,⟨nd,rfl⟩⟩))
         go_meet
         case rel => exact ⟨_,((t572 != false)),(by first|rfl|(simp;done)|(simp [*];done)),H',⟨by have := HJ5.out;first|omega|exact Nat.le_refl _⟩,⟨by (with_reducible repeat (first|apply Kd.R_alloc|apply Kd.R_drewN|apply Kd.R_drew));exact Kd.R_mono HO561.out (fun _ hk => ⟨hk.1.2,hk.2⟩)⟩,⟨by (with_reducible repeat (first|apply Kd.R_alloc|apply Kd.R_drewN|apply Kd.R_drew));exact Kd.R_mono HO564.out (fun _ hk => ⟨hk.1.2,hk.2⟩)⟩,⟨by (with_reducible repeat (first|apply Kd.R_alloc|apply Kd.R_drewN|apply Kd.R_drew));exact Kd.R_mono HO567.out (fun _ hk => ⟨hk.1.2,hk.2⟩)⟩,⟨bM HB.out⟩⟩
     case rest =>
      clear HC15
      try clear c1
      try clear c2
      try clear p2
      try clear c3
      try clear c5
      try clear c7
      try clear c8
      try clear c8b0
      try clear c8b1
      try clear c9
      try clear c10
      try clear c14
      try clear c16
      try clear c18
      try clear c20
      try clear c21
      try clear c21b0
      try clear c21b1
      try clear c21b2
      try clear c24
      try clear c24b0
      try clear c24b1
      try clear c24b2
      try clear c31
      try clear c31b0
      try clear c31b1
      try clear c31b2
      try clear c34
      try clear c34b0
      try clear c34b1
      try clear c34b2
      try clear p2
      obtain ⟨kq,x65_14,rfl,HA,HJ14,HO_9,HO_10,HO_11,HB⟩ := hcut
      cases kq with
     |zero => exact absurd HA.out (by simp [codesearchlaw05_PostingLogic.j1])
     |succ kj14 =>
       have H := HA.out
       clear HA
       simp only [codesearchlaw05_PostingLogic.j1] at H
       by_cases c41 : x65_14 = true
       ·subst c41
        have H1 : (some false) = some r := by rw [if_pos rfl] at H;exact H
        clear H
        have H := H1
        clear H1
        obtain rfl := Option.some.inj H
        go_wp2
        go_ret
        exact ⟨by first|rfl|(simp [errW_none,errW_some] <;> rfl)|(simp [*,errW_none,errW_some] <;> rfl),bM HB.out⟩
       ·replace c41 := Bool.eq_false_iff.mpr c41
        subst c41
        have H1 : ((posting_Minus.f l0 t565).bind fun t573 => ((codesearchref05_Same.f kj14 t573 t559).bind fun t576 => (if t576 = true then ((posting_Or.f kj14 t565 l1).bind fun t577 => ((codesearchref05_Same.f kj14 t577 t562).bind fun t580 => (if t580 = true then ((posting_And.f l1 l0).bind fun t581 => ((codesearchref05_Same.f kj14 t581 t559).bind fun t584 => (some t584))) else (some false)))) else (some false)))) = some r := by rw [if_neg (show ¬ (false = true) by decide)] at H;exact H
        clear H
        have H := H1
        clear H1
        replace H := Option.bind_eq_some_iff.mp H
        obtain ⟨t573,A420,H⟩ := H
        replace H : ((codesearchref05_Same.f kj14 t573 t559).bind fun t576 => (if t576 = true then ((posting_Or.f kj14 t565 l1).bind fun t577 => ((codesearchref05_Same.f kj14 t577 t562).bind fun t580 => (if t580 = true then ((posting_And.f l1 l0).bind fun t581 => ((codesearchref05_Same.f kj14 t581 t559).bind fun t584 => (some t584))) else (some false)))) else (some false))) = some r := H
        have A42 := Aside0.mk A420
        clear A420
        replace H := Option.bind_eq_some_iff.mp H
        obtain ⟨t576,A430,H⟩ := H
        replace H : (if t576 = true then ((posting_Or.f kj14 t565 l1).bind fun t577 => ((codesearchref05_Same.f kj14 t577 t562).bind fun t580 => (if t580 = true then ((posting_And.f l1 l0).bind fun t581 => ((codesearchref05_Same.f kj14 t581 t559).bind fun t584 => (some t584))) else (some false)))) else (some false)) = some r := H
        have A43 := Aside0.mk A430
        clear A430
        by_cases c44 : t576 = true
        ·subst c44
         have H1 : ((posting_Or.f kj14 t565 l1).bind fun t577 => ((codesearchref05_Same.f kj14 t577 t562).bind fun t580 => (if t580 = true then ((posting_And.f l1 l0).bind fun t581 => ((codesearchref05_Same.f kj14 t581 t559).bind fun t584 => (some t584))) else (some false)))) = some r := by rw [if_pos rfl] at H;exact H
         clear H
         have H := H1
         clear H1
         replace H := Option.bind_eq_some_iff.mp H
         obtain ⟨t577,A450,H⟩ := H
         replace H : ((codesearchref05_Same.f kj14 t577 t562).bind fun t580 => (if t580 = true then ((posting_And.f l1 l0).bind fun t581 => ((codesearchref05_Same.f kj14 t581 t559).bind fun t584 => (some t584))) else (some false))) = some r := H
         have A45 := Aside0.mk A450
         clear A450
         replace H := Option.bind_eq_some_iff.mp H
         obtain ⟨t580,A460,H⟩ := H
         replace H : (if t580 = true then ((posting_And.f l1 l0).bind fun t581 => ((codesearchref05_Same.f kj14 t581 t559).bind fun t584 => (some t584))) else (some false)) = some r := H
         have A46 := Aside0.mk A460
         clear A460
         by_cases c47 : t580 = true
         ·subst c47
          have H1 : ((posting_And.f l1 l0).bind fun t581 => ((codesearchref05_Same.f kj14 t581 t559).bind fun t584 => (some t584))) = some r := by rw [if_pos rfl] at H;exact H
          clear H
          have H := H1
          clear H1
          replace H := Option.bind_eq_some_iff.mp H
          obtain ⟨t581,A480,H⟩ := H
          replace H : ((codesearchref05_Same.f kj14 t581 t559).bind fun t584 => (some t584)) = some r := H
          have A48 := Aside0.mk A480
          clear A480
          replace H := Option.bind_eq_some_iff.mp H
          obtain ⟨t584,A490,H⟩ := H
          replace H : (some t584) = some r := H
          have A49 := Aside0.mk A490
          clear A490
          obtain rfl := Option.some.inj H
          obtain ⟨Ao50,co50,eo50⟩ := Kd.R_slice HO_11.out
          subst eo50
          go_wp2_with (first|((with_reducible refine gate_callee (f := 18) rfl ?_);refine goesL_ (some 68) rfl rfl Try.func18 (by kernel_rfl) rfl #[.slice A0 l0.length c0,.slice Ao50 t565.length co50] rfl (by (try simp only [List.map_toArray,List.map_cons,List.map_nil]);first|done|rfl|(simp only [List.length_drop,List.length_take];rfl)) ?_;(with_reducible refine (posting_Minus.calls _ _ l0 _ _ t565 t573 _ ?side1 ?side2 ?side3 ?side4 A42.out).mono ?_);(case side1 => exact cM (Kd.C_below HR0.out HB.out));(case side2 => exact HC0.out);(case side3 => exact cM (Kd.R_reads' HO_11.out).2.2);(case side4 => exact (Kd.R_reads' HO_11.out).2.1);rintro e w51 ⟨v574,rfl,ho0,hb⟩;refine ⟨_,rfl,?_⟩;have n0_ := Aside0.mk (Kd.R_elder' (rM HO_9.out) (Kd.R_base ho0) hb);have n1_ := Aside0.mk (Kd.R_elder' (rM HO_10.out) (Kd.R_base ho0) hb);have n2_ := Aside0.mk (Kd.R_elder' (rM HO_11.out) (Kd.R_base ho0) hb);have n3_ := Aside0.mk (Kd.R_lower (Kd.R_new' (Kd.R_new' (Kd.R_new' ho0 (Kd.R_lt (rM HO_9.out))) (Kd.R_lt (rM HO_10.out))) (Kd.R_lt (rM HO_11.out))) (below_size (bM HB.out)));have n4_ := Aside0.mk (below_step (bM HB.out) hb);clear HO_9;clear HO_10;clear HO_11;clear HB;have HO_9 := n0_;have HO_10 := n1_;have HO_11 := n2_;have HO575 := n3_;have HB := n4_;clear n0_ n1_ n2_ n3_ n4_;(try clear hb);(try clear hb2);(try clear hk);(try clear hi);(try clear ho0);obtain ⟨Ao52,co52,eo52⟩ := Kd.R_slice HO575.out;subst eo52;obtain ⟨Ao53,co53,eo53⟩ := Kd.R_slice HO_9.out;subst eo53)|((with_reducible refine gate_callee (f := 13) rfl ?_);refine goesL_ (some 70) rfl rfl Try.func13 (by kernel_rfl) rfl #[.slice Ao52 t573.length co52,.slice Ao53 t559.length co53] rfl (by (try simp only [List.map_toArray,List.map_cons,List.map_nil]);first|done|rfl|(simp only [List.length_drop,List.length_take];rfl)) ?_;(with_reducible refine (codesearchref05_Same.calls kj14 _ _ t573 _ _ t559 true _ ?side1 ?side2 ?side3 ?side4 A43.out).mono ?_);(case side1 => exact cM (Kd.R_reads' HO575.out).2.2);(case side2 => exact (Kd.R_reads' HO575.out).2.1);(case side3 => exact cM (Kd.R_reads' HO_9.out).2.2);(case side4 => exact (Kd.R_reads' HO_9.out).2.1);rintro e w' ⟨rfl,⟨nd,rfl⟩⟩;refine ⟨_,rfl,?_⟩)|(go_at_call 16;(with_reducible refine (posting_Or.calls kj14 (fun k_ => some k_ = (.slice Ao50 t565.length co50 : Value).ownBlock) _ _ t565 (fun k_ => k_ < w.heap.size) _ _ l1 t577 _ ?side1 ?side2 A45.out).mono ?_);(case side1 => exact Kd.R_V (Kd.R_tight rfl (HO_11.out)));(case side2 => exact Kd.V_mk HC1.out (Kd.F_below (Kd.C_F (Kd.heap_int .i64) HR1.out) (bM HB.out)));rintro e w54 ⟨v578,rfl,ho0,hb⟩;have n0_ := Aside0.mk (Kd.R_elder' (rM HO_9.out) (Kd.R_base ho0) hb);have n1_ := Aside0.mk (Kd.R_elder' (rM HO_10.out) (Kd.R_base ho0) hb);have n2_ := Aside0.mk (Kd.R_elder' (rM HO_11.out) (Kd.R_base ho0) hb);have n3_ := Aside0.mk (Kd.R_elder' (rM HO575.out) (Kd.R_base ho0) hb);have n4_ := Aside0.mk (Kd.R_lower (Kd.R_new' (Kd.R_new' (Kd.R_new' (Kd.R_new' (Kd.R_mono (ok' := fun k_ => True) ho0 (fun _ hk_ => trivial)) (Kd.R_lt (rM HO_9.out))) (Kd.R_lt (rM HO_10.out))) (Kd.R_lt (rM HO_11.out))) (Kd.R_lt (rM HO575.out))) (below_size (bM HB.out)));have n5_ := Aside0.mk (below_step (bM HB.out) hb);clear HO_9;clear HO_10;clear HO_11;clear HO575;clear HB;have HO_9 := n0_;have HO_10 := n1_;have HO_11 := n2_;have HO575 := n3_;have HO579 := n4_;have HB := n5_;clear n0_ n1_ n2_ n3_ n4_ n5_;(try clear hb);(try clear hb2);(try clear hk);(try clear hi);(try clear ho0);obtain ⟨Ao55,co55,eo55⟩ := Kd.R_slice HO579.out;subst eo55;obtain ⟨Ao56,co56,eo56⟩ := Kd.R_slice HO_10.out;subst eo56)|(go_at_call 13;(with_reducible refine (codesearchref05_Same.calls kj14 _ _ t577 _ _ t562 true _ ?side1 ?side2 ?side3 ?side4 A46.out).mono ?_);(case side1 => exact cM (Kd.R_reads' HO579.out).2.2);(case side2 => exact (Kd.R_reads' HO579.out).2.1);(case side3 => exact cM (Kd.R_reads' HO_10.out).2.2);(case side4 => exact (Kd.R_reads' HO_10.out).2.1);rintro e w' ⟨rfl,⟨nd,rfl⟩⟩)|(go_at_call 14;(with_reducible refine (posting_And.calls _ _ l1 _ _ l0 t581 _ ?side1 ?side2 ?side3 ?side4 A48.out).mono ?_);(case side1 => repeat (first|exact (Kd.C_below HR1.out (bM HB.out))|(with_reducible refine Kd.C_alloc ?_ _)|(with_reducible refine Kd.C_drewN ?_ _)|(with_reducible refine Kd.C_drew ?_)));(case side2 => exact HC1.out);(case side3 => repeat (first|exact (Kd.C_below HR0.out (bM HB.out))|(with_reducible refine Kd.C_alloc ?_ _)|(with_reducible refine Kd.C_drewN ?_ _)|(with_reducible refine Kd.C_drew ?_)));(case side4 => exact HC0.out);rintro e w57 ⟨v582,rfl,ho0,hb⟩;have n0_ := Aside0.mk (Kd.R_elder' (rM HO_9.out) (Kd.R_base ho0) hb);have n1_ := Aside0.mk (Kd.R_elder' (rM HO_10.out) (Kd.R_base ho0) hb);have n2_ := Aside0.mk (Kd.R_elder' (rM HO_11.out) (Kd.R_base ho0) hb);have n3_ := Aside0.mk (Kd.R_elder' (rM HO575.out) (Kd.R_base ho0) hb);have n4_ := Aside0.mk (Kd.R_elder' (rM HO579.out) (Kd.R_base ho0) hb);have n5_ := Aside0.mk (Kd.R_lower (Kd.R_new' (Kd.R_new' (Kd.R_new' (Kd.R_new' (Kd.R_new' ho0 (Kd.R_lt (rM HO_9.out))) (Kd.R_lt (rM HO_10.out))) (Kd.R_lt (rM HO_11.out))) (Kd.R_lt (rM HO575.out))) (Kd.R_lt (rM HO579.out))) (below_size (bM HB.out)));have n6_ := Aside0.mk (below_step (bM HB.out) hb);clear HO_9;clear HO_10;clear HO_11;clear HO575;clear HO579;clear HB;have HO_9 := n0_;have HO_10 := n1_;have HO_11 := n2_;have HO575 := n3_;have HO579 := n4_;have HO583 := n5_;have HB := n6_;clear n0_ n1_ n2_ n3_ n4_ n5_ n6_;(try clear hb);(try clear hb2);(try clear hk);(try clear hi);(try clear ho0);obtain ⟨Ao58,co58,eo58⟩ := Kd.R_slice HO583.out;subst eo58)|(go_at_call 13;(with_reducible refine (codesearchref05_Same.calls kj14 _ _ t581 _ _ t559 t584 _ ?side1 ?side2 ?side3 ?side4 A49.out).mono ?_);(case side1 => exact cM (Kd.R_reads' HO583.out).2.2);(case side2 => exact (Kd.R_reads' HO583.out).2.1);(case side3 => exact cM (Kd.R_reads' HO_9.out).2.2);(case side4 => exact (Kd.R_reads' HO_9.out).2.1);rintro e w' ⟨rfl,⟨nd,rfl⟩⟩))
          go_ret
          exact ⟨by first|rfl|(simp [errW_none,errW_some] <;> rfl)|(simp [*,errW_none,errW_some] <;> rfl),bM HB.out⟩
         ·replace c47 := Bool.eq_false_iff.mpr c47
          subst c47
          have H1 : (some false) = some r := by rw [if_neg (show ¬ (false = true) by decide)] at H;exact H
          clear H
          have H := H1
          clear H1
          obtain rfl := Option.some.inj H
          obtain ⟨Ao59,co59,eo59⟩ := Kd.R_slice HO_11.out
          subst eo59
          go_wp2_with (first|((with_reducible refine gate_callee (f := 18) rfl ?_);refine goesL_ (some 68) rfl rfl Try.func18 (by kernel_rfl) rfl #[.slice A0 l0.length c0,.slice Ao59 t565.length co59] rfl (by (try simp only [List.map_toArray,List.map_cons,List.map_nil]);first|done|rfl|(simp only [List.length_drop,List.length_take];rfl)) ?_;(with_reducible refine (posting_Minus.calls _ _ l0 _ _ t565 t573 _ ?side1 ?side2 ?side3 ?side4 A42.out).mono ?_);(case side1 => exact cM (Kd.C_below HR0.out HB.out));(case side2 => exact HC0.out);(case side3 => exact cM (Kd.R_reads' HO_11.out).2.2);(case side4 => exact (Kd.R_reads' HO_11.out).2.1);rintro e w60 ⟨v574,rfl,ho0,hb⟩;refine ⟨_,rfl,?_⟩;have n0_ := Aside0.mk (Kd.R_elder' (rM HO_9.out) (Kd.R_base ho0) hb);have n1_ := Aside0.mk (Kd.R_elder' (rM HO_10.out) (Kd.R_base ho0) hb);have n2_ := Aside0.mk (Kd.R_elder' (rM HO_11.out) (Kd.R_base ho0) hb);have n3_ := Aside0.mk (Kd.R_lower (Kd.R_new' (Kd.R_new' (Kd.R_new' ho0 (Kd.R_lt (rM HO_9.out))) (Kd.R_lt (rM HO_10.out))) (Kd.R_lt (rM HO_11.out))) (below_size (bM HB.out)));have n4_ := Aside0.mk (below_step (bM HB.out) hb);clear HO_9;clear HO_10;clear HO_11;clear HB;have HO_9 := n0_;have HO_10 := n1_;have HO_11 := n2_;have HO575 := n3_;have HB := n4_;clear n0_ n1_ n2_ n3_ n4_;(try clear hb);(try clear hb2);(try clear hk);(try clear hi);(try clear ho0);obtain ⟨Ao61,co61,eo61⟩ := Kd.R_slice HO575.out;subst eo61;obtain ⟨Ao62,co62,eo62⟩ := Kd.R_slice HO_9.out;subst eo62)|((with_reducible refine gate_callee (f := 13) rfl ?_);refine goesL_ (some 70) rfl rfl Try.func13 (by kernel_rfl) rfl #[.slice Ao61 t573.length co61,.slice Ao62 t559.length co62] rfl (by (try simp only [List.map_toArray,List.map_cons,List.map_nil]);first|done|rfl|(simp only [List.length_drop,List.length_take];rfl)) ?_;(with_reducible refine (codesearchref05_Same.calls kj14 _ _ t573 _ _ t559 true _ ?side1 ?side2 ?side3 ?side4 A43.out).mono ?_);(case side1 => exact cM (Kd.R_reads' HO575.out).2.2);(case side2 => exact (Kd.R_reads' HO575.out).2.1);(case side3 => exact cM (Kd.R_reads' HO_9.out).2.2);(case side4 => exact (Kd.R_reads' HO_9.out).2.1);rintro e w' ⟨rfl,⟨nd,rfl⟩⟩;refine ⟨_,rfl,?_⟩)|(go_at_call 16;(with_reducible refine (posting_Or.calls kj14 (fun k_ => some k_ = (.slice Ao59 t565.length co59 : Value).ownBlock) _ _ t565 (fun k_ => k_ < w.heap.size) _ _ l1 t577 _ ?side1 ?side2 A45.out).mono ?_);(case side1 => exact Kd.R_V (Kd.R_tight rfl (HO_11.out)));(case side2 => exact Kd.V_mk HC1.out (Kd.F_below (Kd.C_F (Kd.heap_int .i64) HR1.out) (bM HB.out)));rintro e w63 ⟨v578,rfl,ho0,hb⟩;have n0_ := Aside0.mk (Kd.R_elder' (rM HO_9.out) (Kd.R_base ho0) hb);have n1_ := Aside0.mk (Kd.R_elder' (rM HO_10.out) (Kd.R_base ho0) hb);have n2_ := Aside0.mk (Kd.R_elder' (rM HO_11.out) (Kd.R_base ho0) hb);have n3_ := Aside0.mk (Kd.R_elder' (rM HO575.out) (Kd.R_base ho0) hb);have n4_ := Aside0.mk (Kd.R_lower (Kd.R_new' (Kd.R_new' (Kd.R_new' (Kd.R_new' (Kd.R_mono (ok' := fun k_ => True) ho0 (fun _ hk_ => trivial)) (Kd.R_lt (rM HO_9.out))) (Kd.R_lt (rM HO_10.out))) (Kd.R_lt (rM HO_11.out))) (Kd.R_lt (rM HO575.out))) (below_size (bM HB.out)));have n5_ := Aside0.mk (below_step (bM HB.out) hb);clear HO_9;clear HO_10;clear HO_11;clear HO575;clear HB;have HO_9 := n0_;have HO_10 := n1_;have HO_11 := n2_;have HO575 := n3_;have HO579 := n4_;have HB := n5_;clear n0_ n1_ n2_ n3_ n4_ n5_;(try clear hb);(try clear hb2);(try clear hk);(try clear hi);(try clear ho0);obtain ⟨Ao64,co64,eo64⟩ := Kd.R_slice HO579.out;subst eo64;obtain ⟨Ao65,co65,eo65⟩ := Kd.R_slice HO_10.out;subst eo65)|(go_at_call 13;(with_reducible refine (codesearchref05_Same.calls kj14 _ _ t577 _ _ t562 false _ ?side1 ?side2 ?side3 ?side4 A46.out).mono ?_);(case side1 => exact cM (Kd.R_reads' HO579.out).2.2);(case side2 => exact (Kd.R_reads' HO579.out).2.1);(case side3 => exact cM (Kd.R_reads' HO_10.out).2.2);(case side4 => exact (Kd.R_reads' HO_10.out).2.1);rintro e w' ⟨rfl,⟨nd,rfl⟩⟩))
          go_ret
          exact ⟨by first|rfl|(simp [errW_none,errW_some] <;> rfl)|(simp [*,errW_none,errW_some] <;> rfl),bM HB.out⟩
        ·replace c44 := Bool.eq_false_iff.mpr c44
         subst c44
         have H1 : (some false) = some r := by rw [if_neg (show ¬ (false = true) by decide)] at H;exact H
         clear H
         have H := H1
         clear H1
         obtain rfl := Option.some.inj H
         obtain ⟨Ao66,co66,eo66⟩ := Kd.R_slice HO_11.out
         subst eo66
         go_wp2_with (first|((with_reducible refine gate_callee (f := 18) rfl ?_);refine goesL_ (some 68) rfl rfl Try.func18 (by kernel_rfl) rfl #[.slice A0 l0.length c0,.slice Ao66 t565.length co66] rfl (by (try simp only [List.map_toArray,List.map_cons,List.map_nil]);first|done|rfl|(simp only [List.length_drop,List.length_take];rfl)) ?_;(with_reducible refine (posting_Minus.calls _ _ l0 _ _ t565 t573 _ ?side1 ?side2 ?side3 ?side4 A42.out).mono ?_);(case side1 => exact cM (Kd.C_below HR0.out HB.out));(case side2 => exact HC0.out);(case side3 => exact cM (Kd.R_reads' HO_11.out).2.2);(case side4 => exact (Kd.R_reads' HO_11.out).2.1);rintro e w67 ⟨v574,rfl,ho0,hb⟩;refine ⟨_,rfl,?_⟩;have n0_ := Aside0.mk (Kd.R_elder' (rM HO_9.out) (Kd.R_base ho0) hb);have n1_ := Aside0.mk (Kd.R_elder' (rM HO_10.out) (Kd.R_base ho0) hb);have n2_ := Aside0.mk (Kd.R_elder' (rM HO_11.out) (Kd.R_base ho0) hb);have n3_ := Aside0.mk (Kd.R_lower (Kd.R_new' (Kd.R_new' (Kd.R_new' ho0 (Kd.R_lt (rM HO_9.out))) (Kd.R_lt (rM HO_10.out))) (Kd.R_lt (rM HO_11.out))) (below_size (bM HB.out)));have n4_ := Aside0.mk (below_step (bM HB.out) hb);clear HO_9;clear HO_10;clear HO_11;clear HB;have HO_9 := n0_;have HO_10 := n1_;have HO_11 := n2_;have HO575 := n3_;have HB := n4_;clear n0_ n1_ n2_ n3_ n4_;(try clear hb);(try clear hb2);(try clear hk);(try clear hi);(try clear ho0);obtain ⟨Ao68,co68,eo68⟩ := Kd.R_slice HO575.out;subst eo68;obtain ⟨Ao69,co69,eo69⟩ := Kd.R_slice HO_9.out;subst eo69)|((with_reducible refine gate_callee (f := 13) rfl ?_);refine goesL_ (some 70) rfl rfl Try.func13 (by kernel_rfl) rfl #[.slice Ao68 t573.length co68,.slice Ao69 t559.length co69] rfl (by (try simp only [List.map_toArray,List.map_cons,List.map_nil]);first|done|rfl|(simp only [List.length_drop,List.length_take];rfl)) ?_;(with_reducible refine (codesearchref05_Same.calls kj14 _ _ t573 _ _ t559 false _ ?side1 ?side2 ?side3 ?side4 A43.out).mono ?_);(case side1 => exact cM (Kd.R_reads' HO575.out).2.2);(case side2 => exact (Kd.R_reads' HO575.out).2.1);(case side3 => exact cM (Kd.R_reads' HO_9.out).2.2);(case side4 => exact (Kd.R_reads' HO_9.out).2.1);rintro e w' ⟨rfl,⟨nd,rfl⟩⟩;refine ⟨_,rfl,?_⟩))
         go_ret
         exact ⟨by first|rfl|(simp [errW_none,errW_some] <;> rfl)|(simp [*,errW_none,errW_some] <;> rfl),bM HB.out⟩
 ·replace c5 := Bool.eq_false_iff.mpr c5
  subst c5
  have H1 : (some false) = some r := by rw [if_neg (show ¬ (false = true) by decide)] at H;exact H
  clear H
  have H := H1
  clear H1
  obtain rfl := Option.some.inj H
  go_enter Try.func7,Try.ntmps7
  go_wp2_with (first|((with_reducible refine gate_callee (f := 10) rfl ?_);refine goesL_ (some 12) rfl rfl Try.func10 (by kernel_rfl) rfl #[] rfl (by (try simp only [List.map_toArray,List.map_cons,List.map_nil]);first|done|rfl|(simp only [List.length_drop,List.length_take];rfl)) ?_;(with_reducible refine (codesearchlaw05_alive.calls k  false _ A4.out).mono ?_);rintro e w70 ⟨rfl,hb⟩;refine ⟨_,rfl,?_⟩;have n0_ := Aside0.mk (below_step (bM HB.out) hb);clear HB;have HB := n0_;clear n0_;(try clear hb);(try clear hb2);(try clear hk);(try clear hi)))
  go_ret
  exact ⟨by first|rfl|(simp [errW_none,errW_some] <;> rfl)|(simp [*,errW_none,errW_some] <;> rfl),bM HB.out⟩

end Go.Proofs.Ytknpmknkkofnjaa.P
