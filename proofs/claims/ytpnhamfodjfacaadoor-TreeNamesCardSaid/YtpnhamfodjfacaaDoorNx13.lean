-- Written by hp.py, a program of this session, over the kit's print of the translation. Not trusted: Lean checks it.
import Derived.Test.YtpnhamfodjfacaaDoorNx0
import Derived.Test.YtpnhamfodjfacaaDoorNx7
import Derived.Test.YtpnhamfodjfacaaDoorNx8
import Derived.Test.YtpnhamfodjfacaaDoorNx9
import Derived.Test.YtpnhamfodjfacaaDoorNx11
import Derived.Test.YtpnhamfodjfacaaDoorNx12
namespace Go.Proofs.YtpnhamfodjfacaaDoor.N
open Go.RowKit Go.Proofs.YtpnhamfodjfacaaDoorW.PrintWords Go.Proofs.YtpnhamfodjfacaaDoorW.PrintLast Go.Proofs.YtpnhamfodjfacaaDoorW.PrintMore
attribute [local go_sem] max2_int min2_int max_two min_two max_three min_three max_four min_four   -- for this text's walks alone
set_option linter.unusedVariables false
set_option linter.unusedSimpArgs false

/-! ### codesearchlaw25_TreeNames: function 6 -/
def codesearchlaw25_TreeNames.j0 : Nat → List (S45) → ByteArray → Bool → Option (Bool)
|0,_,_,_ => none
|k + 1,x0,x1,x14 => if x14 = true then (some true) else ((tree_Under.f k x0 x1).bind fun t291 => ((codesearchref25_Under.f k x0 x1).bind fun t294 => ((codesearchref25_Files.f k t291 t294).bind fun t297 => (if t297 = true then ((tree_Names.f k x0 x1).bind fun t298 => ((codesearchref25_Names.f k x0 x1).bind fun t301 => ((codesearchref01_Strings.f k t298 t301).bind fun t304 => (some t304)))) else (some false)))))
def codesearchlaw25_TreeNames.f (k : Nat) (l0 : List (S45)) (a1 : ByteArray) : Option (Bool) := (codesearchlaw25_alive.f k).bind fun t289 => (if t289 = true then (if (l0.length : Int) > 60 then (codesearchlaw25_TreeNames.j0 k l0 a1 true) else ((codesearchlaw25_trees.f k l0 ([] : List (S45)) ([] : List (S45))).bind fun t290 => (codesearchlaw25_TreeNames.j0 k l0 a1 (!t290)))) else (some false))
theorem codesearchlaw25_TreeNames.mono_l : ∀ k, (∀ y0 y1 y2, LeO (codesearchlaw25_TreeNames.j0 k y0 y1 y2) (codesearchlaw25_TreeNames.j0 (k + 1) y0 y1 y2))
|0 => fun _ _ _ r h => by simp [codesearchlaw25_TreeNames.j0] at h
|k + 1 => by
  have ih0 := codesearchlaw25_TreeNames.mono_l k
  ·intro y0 y1 y2
   unfold codesearchlaw25_TreeNames.j0
   repeat' first
  |(with_reducible exact ih0 _ _ _)
  |(with_reducible exact codesearchlaw25_alive.mono _)
  |(with_reducible exact codesearchlaw25_trees.mono _ _ _ _)
  |(with_reducible exact codesearchref01_Strings.mono _ _ _)
  |(with_reducible exact codesearchref25_Files.mono _ _ _)
  |(with_reducible exact codesearchref25_Names.mono _ _ _)
  |(with_reducible exact codesearchref25_Under.mono _ _ _)
  |(with_reducible exact tree_Names.mono _ _ _)
  |(with_reducible exact tree_Under.mono _ _ _)
  |(with_reducible exact LeO.refl _)
  |(with_reducible exact LeO.none _)
  |(with_reducible refine LeO.ite ?_ ?_)
  |(with_reducible refine LeO.bind ?_ (fun _ => ?_))
  |exact ih0 _ _ _
  |exact codesearchlaw25_alive.mono _
  |exact codesearchlaw25_trees.mono _ _ _ _
  |exact codesearchref01_Strings.mono _ _ _
  |exact codesearchref25_Files.mono _ _ _
  |exact codesearchref25_Names.mono _ _ _
  |exact codesearchref25_Under.mono _ _ _
  |exact tree_Names.mono _ _ _
  |exact tree_Under.mono _ _ _
  |exact LeO.none _
  |refine LeO.ite ?_ ?_
  |refine LeO.bind ?_ (fun _ => ?_)
theorem codesearchlaw25_TreeNames.mono : ∀ a0 a1 k, LeO (codesearchlaw25_TreeNames.f k a0 a1) (codesearchlaw25_TreeNames.f (k + 1) a0 a1) := by
 intro a0 a1 k
 have ih0 := codesearchlaw25_TreeNames.mono_l k
 unfold codesearchlaw25_TreeNames.f
 repeat' first
  |(with_reducible exact ih0 _ _ _)
  |(with_reducible exact codesearchlaw25_alive.mono _)
  |(with_reducible exact codesearchlaw25_trees.mono _ _ _ _)
  |(with_reducible exact codesearchref01_Strings.mono _ _ _)
  |(with_reducible exact codesearchref25_Files.mono _ _ _)
  |(with_reducible exact codesearchref25_Names.mono _ _ _)
  |(with_reducible exact codesearchref25_Under.mono _ _ _)
  |(with_reducible exact tree_Names.mono _ _ _)
  |(with_reducible exact tree_Under.mono _ _ _)
  |(with_reducible exact LeO.refl _)
  |(with_reducible exact LeO.none _)
  |(with_reducible refine LeO.ite ?_ ?_)
  |(with_reducible refine LeO.bind ?_ (fun _ => ?_))
  |exact ih0 _ _ _
  |exact codesearchlaw25_alive.mono _
  |exact codesearchlaw25_trees.mono _ _ _ _
  |exact codesearchref01_Strings.mono _ _ _
  |exact codesearchref25_Files.mono _ _ _
  |exact codesearchref25_Names.mono _ _ _
  |exact codesearchref25_Under.mono _ _ _
  |exact tree_Names.mono _ _ _
  |exact tree_Under.mono _ _ _
  |exact LeO.none _
  |refine LeO.ite ?_ ?_
  |refine LeO.bind ?_ (fun _ => ?_)
set_option maxHeartbeats 4000000 in
set_option maxRecDepth 100000 in
theorem codesearchlaw25_TreeNames.calls (k : Nat) (A0 : Option Addr) (c0 : Nat) (l0 : List (S45)) (a1 : ByteArray) (r : Bool) (w : World) (hr0 : Kd.C k45 w A0 l0.length l0) (hc0 : l0.length ≤ c0) (h : codesearchlaw25_TreeNames.f k l0 a1 = some r) :
  Calls Tryd.prog 6 #[.slice A0 l0.length c0,.string a1] w fun e w' => e = .returned (.bool r) ∧ Below w.heap.size w w' := by
 have HR0 := Aside0.mk hr0
 have HC0 := Aside0.mk hc0
 clear hr0 hc0
 have HB := Aside0.mk (Below.refl w.heap.size w)
 have H : ((codesearchlaw25_alive.f k).bind fun t289 => (if t289 = true then (if (l0.length : Int) > 60 then (codesearchlaw25_TreeNames.j0 k l0 a1 true) else ((codesearchlaw25_trees.f k l0 ([] : List (S45)) ([] : List (S45))).bind fun t290 => (codesearchlaw25_TreeNames.j0 k l0 a1 (!t290)))) else (some false))) = some r := h
 clear h
 replace H := Option.bind_eq_some_iff.mp H
 obtain ⟨t289,A30,H⟩ := H
 replace H : (if t289 = true then (if (l0.length : Int) > 60 then (codesearchlaw25_TreeNames.j0 k l0 a1 true) else ((codesearchlaw25_trees.f k l0 ([] : List (S45)) ([] : List (S45))).bind fun t290 => (codesearchlaw25_TreeNames.j0 k l0 a1 (!t290)))) else (some false)) = some r := H
 have A3 := Aside0.mk A30
 clear A30
 by_cases c4 : t289 = true
 ·subst c4
  have H1 : (if (l0.length : Int) > 60 then (codesearchlaw25_TreeNames.j0 k l0 a1 true) else ((codesearchlaw25_trees.f k l0 ([] : List (S45)) ([] : List (S45))).bind fun t290 => (codesearchlaw25_TreeNames.j0 k l0 a1 (!t290)))) = some r := by rw [if_pos rfl] at H;exact H
  clear H
  have H := H1
  clear H1
  have HC5 := Aside0.mk H
  clear H
  go_enter Tryd.func6,Tryd.ntmps6
  go_upto_region 3 with (first|((with_reducible refine gate_callee (f := 11) rfl ?_);refine goesL_ (some 5) rfl rfl Tryd.func11 (by kernel_rfl) rfl #[] rfl (by (try simp only [List.map_toArray,List.map_cons,List.map_nil]);first|done|rfl|(simp only [List.length_drop,List.length_take];rfl)) ?_;(with_reducible refine (codesearchlaw25_alive.calls k  true _ A3.out).mono ?_);rintro e w6 ⟨rfl,hb⟩;refine ⟨_,rfl,?_⟩;have n0_ := Aside0.mk (below_step (bM HB.out) hb);clear HB;have HB := n0_;clear n0_;(try clear hb);(try clear hb2);(try clear hk);(try clear hi)))
  (try simp only [Act.put,List.setIfInBounds_toArray,List.set_cons_zero,List.set_cons_succ])
  go_cut [14] (fun v14 wc => ∃ (kq : Nat) (x14_4 : Bool),v14 = .bool x14_4 ∧ Aside0 (codesearchlaw25_TreeNames.j0 kq l0 a1 x14_4 = some r) ∧ Aside0 (kq ≤ k) ∧ Aside0 (Below w.heap.size w wc))
  case first =>
   have H := HC5.out
   clear HC5
   by_cases c7 : (l0.length : Int) > 60
   ·rw [if_pos c7] at H
    have c7b0 : decide (60 < (l0.length : Int)) = true := decide_eq_true c7
    have c7b1 : decide (60 < l0.length) = true := decide_eq_true (by omega)
    clear c7
    (first|rw [c7b0]|(simp only [i64_w,i32_w];rw [c7b0])|rw [c7b1]|skip)
    have H' := Aside0.mk H
    clear H
    go_wp2
    go_meet
    case rel => exact ⟨_,(true),(by first|rfl|(simp;done)|(simp [*];done)),H',⟨by first|omega|exact Nat.le_refl _⟩,⟨bM HB.out⟩⟩
   ·rw [if_neg c7] at H
    have c7b0 : decide (60 < (l0.length : Int)) = false := decide_eq_false c7
    have c7b1 : decide (60 < l0.length) = false := decide_eq_false (by omega)
    clear c7
    (first|rw [c7b0]|(simp only [i64_w,i32_w];rw [c7b0])|rw [c7b1]|skip)
    replace H := Option.bind_eq_some_iff.mp H
    obtain ⟨t290,A80,H⟩ := H
    replace H : (codesearchlaw25_TreeNames.j0 k l0 a1 (!t290)) = some r := H
    have A8 := Aside0.mk A80
    clear A80
    have H' := Aside0.mk H
    clear H
    go_wp2_with (first|(go_at_call 19;refine calls_of_args (args' := #[.slice A0 l0.length c0,.slice none ([] : List (S45)).length 0,.slice none ([] : List (S45)).length 0]) (by first|with_reducible rfl|(simp only [List.length_nil];done)|(simp only [List.length_nil];with_reducible rfl)) ?_;(with_reducible refine (codesearchlaw25_trees.calls k _ _ l0 _ _ ([] : List (S45)) _ _ ([] : List (S45)) t290 _ ?side1 ?side2 ?side3 ?side4 ?side5 ?side6 A8.out).mono ?_);(case side1 => exact cM (Kd.C_below HR0.out HB.out));(case side2 => exact HC0.out);(case side3 => exact Kd.C_nil _ _);(case side4 => exact Nat.le_refl _);(case side5 => exact Kd.C_nil _ _);(case side6 => exact Nat.le_refl _);rintro e w' ⟨rfl,⟨nd,rfl⟩⟩))
    go_meet
    case rel => exact ⟨_,(!t290),(by first|rfl|(simp;done)|(simp [*];done)),H',⟨by first|omega|exact Nat.le_refl _⟩,⟨bM HB.out⟩⟩
  case rest =>
   clear HC5
   try clear c1
   try clear p2
   try clear c4
   try clear c6
   try clear c7
   try clear c7b0
   try clear c7b1
   obtain ⟨kq,x14_4,rfl,HA,HJ4,HB⟩ := hcut
   cases kq with
  |zero => exact absurd HA.out (by simp [codesearchlaw25_TreeNames.j0])
  |succ kj4 =>
    have H := HA.out
    clear HA
    simp only [codesearchlaw25_TreeNames.j0] at H
    by_cases c9 : x14_4 = true
    ·subst c9
     have H1 : (some true) = some r := by rw [if_pos rfl] at H;exact H
     clear H
     have H := H1
     clear H1
     obtain rfl := Option.some.inj H
     go_wp2
     go_ret
     exact ⟨by first|rfl|(simp [errW_none,errW_some] <;> rfl)|(simp [*,errW_none,errW_some] <;> rfl),bM HB.out⟩
    ·replace c9 := Bool.eq_false_iff.mpr c9
     subst c9
     have H1 : ((tree_Under.f kj4 l0 a1).bind fun t291 => ((codesearchref25_Under.f kj4 l0 a1).bind fun t294 => ((codesearchref25_Files.f kj4 t291 t294).bind fun t297 => (if t297 = true then ((tree_Names.f kj4 l0 a1).bind fun t298 => ((codesearchref25_Names.f kj4 l0 a1).bind fun t301 => ((codesearchref01_Strings.f kj4 t298 t301).bind fun t304 => (some t304)))) else (some false))))) = some r := by rw [if_neg (show ¬ (false = true) by decide)] at H;exact H
     clear H
     have H := H1
     clear H1
     replace H := Option.bind_eq_some_iff.mp H
     obtain ⟨t291,A100,H⟩ := H
     replace H : ((codesearchref25_Under.f kj4 l0 a1).bind fun t294 => ((codesearchref25_Files.f kj4 t291 t294).bind fun t297 => (if t297 = true then ((tree_Names.f kj4 l0 a1).bind fun t298 => ((codesearchref25_Names.f kj4 l0 a1).bind fun t301 => ((codesearchref01_Strings.f kj4 t298 t301).bind fun t304 => (some t304)))) else (some false)))) = some r := H
     have A10 := Aside0.mk A100
     clear A100
     replace H := Option.bind_eq_some_iff.mp H
     obtain ⟨t294,A110,H⟩ := H
     replace H : ((codesearchref25_Files.f kj4 t291 t294).bind fun t297 => (if t297 = true then ((tree_Names.f kj4 l0 a1).bind fun t298 => ((codesearchref25_Names.f kj4 l0 a1).bind fun t301 => ((codesearchref01_Strings.f kj4 t298 t301).bind fun t304 => (some t304)))) else (some false))) = some r := H
     have A11 := Aside0.mk A110
     clear A110
     replace H := Option.bind_eq_some_iff.mp H
     obtain ⟨t297,A120,H⟩ := H
     replace H : (if t297 = true then ((tree_Names.f kj4 l0 a1).bind fun t298 => ((codesearchref25_Names.f kj4 l0 a1).bind fun t301 => ((codesearchref01_Strings.f kj4 t298 t301).bind fun t304 => (some t304)))) else (some false)) = some r := H
     have A12 := Aside0.mk A120
     clear A120
     by_cases c13 : t297 = true
     ·subst c13
      have H1 : ((tree_Names.f kj4 l0 a1).bind fun t298 => ((codesearchref25_Names.f kj4 l0 a1).bind fun t301 => ((codesearchref01_Strings.f kj4 t298 t301).bind fun t304 => (some t304)))) = some r := by rw [if_pos rfl] at H;exact H
      clear H
      have H := H1
      clear H1
      replace H := Option.bind_eq_some_iff.mp H
      obtain ⟨t298,A140,H⟩ := H
      replace H : ((codesearchref25_Names.f kj4 l0 a1).bind fun t301 => ((codesearchref01_Strings.f kj4 t298 t301).bind fun t304 => (some t304))) = some r := H
      have A14 := Aside0.mk A140
      clear A140
      replace H := Option.bind_eq_some_iff.mp H
      obtain ⟨t301,A150,H⟩ := H
      replace H : ((codesearchref01_Strings.f kj4 t298 t301).bind fun t304 => (some t304)) = some r := H
      have A15 := Aside0.mk A150
      clear A150
      replace H := Option.bind_eq_some_iff.mp H
      obtain ⟨t304,A160,H⟩ := H
      replace H : (some t304) = some r := H
      have A16 := Aside0.mk A160
      clear A160
      obtain rfl := Option.some.inj H
      go_wp2_with (first|((with_reducible refine gate_callee (f := 23) rfl ?_);refine goesL_ (some 17) rfl rfl Tryd.func23 (by kernel_rfl) rfl #[.slice A0 l0.length c0,.string a1] rfl (by (try simp only [List.map_toArray,List.map_cons,List.map_nil]);first|done|rfl|(simp only [List.length_drop,List.length_take];rfl)) ?_;(with_reducible refine (tree_Under.calls kj4 _ _ l0 a1 t291 _ ?side1 ?side2 A10.out).mono ?_);(case side1 => exact cM (Kd.C_below HR0.out HB.out));(case side2 => exact HC0.out);rintro e w17 ⟨v292,rfl,ho0,hb⟩;refine ⟨_,rfl,?_⟩;have n0_ := Aside0.mk (Kd.R_lower ho0 (below_size (bM HB.out)));have n1_ := Aside0.mk (below_step (bM HB.out) hb);clear HB;have HO293 := n0_;have HB := n1_;clear n0_ n1_;(try clear hb);(try clear hb2);(try clear hk);(try clear hi);(try clear ho0))|((with_reducible refine gate_callee (f := 24) rfl ?_);refine goesL_ (some 20) rfl rfl Tryd.func24 (by kernel_rfl) rfl #[.slice A0 l0.length c0,.string a1] rfl (by (try simp only [List.map_toArray,List.map_cons,List.map_nil]);first|done|rfl|(simp only [List.length_drop,List.length_take];rfl)) ?_;(with_reducible refine (codesearchref25_Under.calls kj4 _ _ l0 a1 t294 _ ?side1 ?side2 A11.out).mono ?_);(case side1 => exact cM (Kd.C_below HR0.out HB.out));(case side2 => exact HC0.out);rintro e w18 ⟨v295,rfl,ho0,hb⟩;refine ⟨_,rfl,?_⟩;have n0_ := Aside0.mk (Kd.R_elder' (rM HO293.out) (Kd.R_base ho0) hb);have n1_ := Aside0.mk (Kd.R_lower (Kd.R_new' ho0 (Kd.R_lt (rM HO293.out))) (below_size (bM HB.out)));have n2_ := Aside0.mk (below_step (bM HB.out) hb);clear HO293;clear HB;have HO293 := n0_;have HO296 := n1_;have HB := n2_;clear n0_ n1_ n2_;(try clear hb);(try clear hb2);(try clear hk);(try clear hi);(try clear ho0);obtain ⟨Ao19,co19,eo19⟩ := Kd.R_slice HO293.out;subst eo19;obtain ⟨Ao20,co20,eo20⟩ := Kd.R_slice HO296.out;subst eo20)|((with_reducible refine gate_callee (f := 18) rfl ?_);refine goesL_ (some 21) rfl rfl Tryd.func18 (by kernel_rfl) rfl #[.slice Ao19 t291.length co19,.slice Ao20 t294.length co20] rfl (by (try simp only [List.map_toArray,List.map_cons,List.map_nil]);first|done|rfl|(simp only [List.length_drop,List.length_take];rfl)) ?_;(with_reducible refine (codesearchref25_Files.calls kj4 _ _ t291 _ _ t294 true _ ?side1 ?side2 ?side3 ?side4 A12.out).mono ?_);(case side1 => exact cM (Kd.R_reads' HO293.out).2.2);(case side2 => exact (Kd.R_reads' HO293.out).2.1);(case side3 => exact cM (Kd.R_reads' HO296.out).2.2);(case side4 => exact (Kd.R_reads' HO296.out).2.1);rintro e w' ⟨rfl,⟨nd,rfl⟩⟩;refine ⟨_,rfl,?_⟩)|(go_at_call 26;(with_reducible refine (tree_Names.calls kj4 _ _ l0 a1 t298 _ ?side1 ?side2 A14.out).mono ?_);(case side1 => repeat (first|exact (Kd.C_below HR0.out (bM HB.out))|(with_reducible refine Kd.C_alloc ?_ _)|(with_reducible refine Kd.C_drewN ?_ _)|(with_reducible refine Kd.C_drew ?_)));(case side2 => exact HC0.out);rintro e w21 ⟨v299,rfl,ho0,hb⟩;have n0_ := Aside0.mk (Kd.R_below (rM HO293.out) hb);have n1_ := Aside0.mk (Kd.R_below (rM HO296.out) hb);have n2_ := Aside0.mk (Kd.R_lower ho0 (below_size (bM HB.out)));have n3_ := Aside0.mk (below_step (bM HB.out) hb);clear HO293;clear HO296;clear HB;have HO293 := n0_;have HO296 := n1_;have HO300 := n2_;have HB := n3_;clear n0_ n1_ n2_ n3_;(try clear hb);(try clear hb2);(try clear hk);(try clear hi);(try clear ho0))|(go_at_call 27;(with_reducible refine (codesearchref25_Names.calls kj4 _ _ l0 a1 t301 _ ?side1 ?side2 A15.out).mono ?_);(case side1 => exact cM (Kd.C_below HR0.out HB.out));(case side2 => exact HC0.out);rintro e w22 ⟨v302,rfl,ho0,hb⟩;have n0_ := Aside0.mk (Kd.R_below (rM HO293.out) hb);have n1_ := Aside0.mk (Kd.R_below (rM HO296.out) hb);have n2_ := Aside0.mk (Kd.R_elder' (rM HO300.out) (Kd.R_base ho0) hb);have n3_ := Aside0.mk (Kd.R_lower (Kd.R_new' ho0 (Kd.R_lt (rM HO300.out))) (below_size (bM HB.out)));have n4_ := Aside0.mk (below_step (bM HB.out) hb);clear HO293;clear HO296;clear HO300;clear HB;have HO293 := n0_;have HO296 := n1_;have HO300 := n2_;have HO303 := n3_;have HB := n4_;clear n0_ n1_ n2_ n3_ n4_;(try clear hb);(try clear hb2);(try clear hk);(try clear hi);(try clear ho0);obtain ⟨Ao23,co23,eo23⟩ := Kd.R_slice HO300.out;subst eo23;obtain ⟨Ao24,co24,eo24⟩ := Kd.R_slice HO303.out;subst eo24)|(go_at_call 25;(with_reducible refine (codesearchref01_Strings.calls kj4 _ _ t298 _ _ t301 t304 _ ?side1 ?side2 ?side3 ?side4 A16.out).mono ?_);(case side1 => exact cM (Kd.R_reads' HO300.out).2.2);(case side2 => exact (Kd.R_reads' HO300.out).2.1);(case side3 => exact cM (Kd.R_reads' HO303.out).2.2);(case side4 => exact (Kd.R_reads' HO303.out).2.1);rintro e w' ⟨rfl,⟨nd,rfl⟩⟩))
      go_ret
      exact ⟨by first|rfl|(simp [errW_none,errW_some] <;> rfl)|(simp [*,errW_none,errW_some] <;> rfl),bM HB.out⟩
     ·replace c13 := Bool.eq_false_iff.mpr c13
      subst c13
      have H1 : (some false) = some r := by rw [if_neg (show ¬ (false = true) by decide)] at H;exact H
      clear H
      have H := H1
      clear H1
      obtain rfl := Option.some.inj H
      go_wp2_with (first|((with_reducible refine gate_callee (f := 23) rfl ?_);refine goesL_ (some 17) rfl rfl Tryd.func23 (by kernel_rfl) rfl #[.slice A0 l0.length c0,.string a1] rfl (by (try simp only [List.map_toArray,List.map_cons,List.map_nil]);first|done|rfl|(simp only [List.length_drop,List.length_take];rfl)) ?_;(with_reducible refine (tree_Under.calls kj4 _ _ l0 a1 t291 _ ?side1 ?side2 A10.out).mono ?_);(case side1 => exact cM (Kd.C_below HR0.out HB.out));(case side2 => exact HC0.out);rintro e w25 ⟨v292,rfl,ho0,hb⟩;refine ⟨_,rfl,?_⟩;have n0_ := Aside0.mk (Kd.R_lower ho0 (below_size (bM HB.out)));have n1_ := Aside0.mk (below_step (bM HB.out) hb);clear HB;have HO293 := n0_;have HB := n1_;clear n0_ n1_;(try clear hb);(try clear hb2);(try clear hk);(try clear hi);(try clear ho0))|((with_reducible refine gate_callee (f := 24) rfl ?_);refine goesL_ (some 20) rfl rfl Tryd.func24 (by kernel_rfl) rfl #[.slice A0 l0.length c0,.string a1] rfl (by (try simp only [List.map_toArray,List.map_cons,List.map_nil]);first|done|rfl|(simp only [List.length_drop,List.length_take];rfl)) ?_;(with_reducible refine (codesearchref25_Under.calls kj4 _ _ l0 a1 t294 _ ?side1 ?side2 A11.out).mono ?_);(case side1 => exact cM (Kd.C_below HR0.out HB.out));(case side2 => exact HC0.out);rintro e w26 ⟨v295,rfl,ho0,hb⟩;refine ⟨_,rfl,?_⟩;have n0_ := Aside0.mk (Kd.R_elder' (rM HO293.out) (Kd.R_base ho0) hb);have n1_ := Aside0.mk (Kd.R_lower (Kd.R_new' ho0 (Kd.R_lt (rM HO293.out))) (below_size (bM HB.out)));have n2_ := Aside0.mk (below_step (bM HB.out) hb);clear HO293;clear HB;have HO293 := n0_;have HO296 := n1_;have HB := n2_;clear n0_ n1_ n2_;(try clear hb);(try clear hb2);(try clear hk);(try clear hi);(try clear ho0);obtain ⟨Ao27,co27,eo27⟩ := Kd.R_slice HO293.out;subst eo27;obtain ⟨Ao28,co28,eo28⟩ := Kd.R_slice HO296.out;subst eo28)|((with_reducible refine gate_callee (f := 18) rfl ?_);refine goesL_ (some 21) rfl rfl Tryd.func18 (by kernel_rfl) rfl #[.slice Ao27 t291.length co27,.slice Ao28 t294.length co28] rfl (by (try simp only [List.map_toArray,List.map_cons,List.map_nil]);first|done|rfl|(simp only [List.length_drop,List.length_take];rfl)) ?_;(with_reducible refine (codesearchref25_Files.calls kj4 _ _ t291 _ _ t294 false _ ?side1 ?side2 ?side3 ?side4 A12.out).mono ?_);(case side1 => exact cM (Kd.R_reads' HO293.out).2.2);(case side2 => exact (Kd.R_reads' HO293.out).2.1);(case side3 => exact cM (Kd.R_reads' HO296.out).2.2);(case side4 => exact (Kd.R_reads' HO296.out).2.1);rintro e w' ⟨rfl,⟨nd,rfl⟩⟩;refine ⟨_,rfl,?_⟩))
      go_ret
      exact ⟨by first|rfl|(simp [errW_none,errW_some] <;> rfl)|(simp [*,errW_none,errW_some] <;> rfl),bM HB.out⟩
 ·replace c4 := Bool.eq_false_iff.mpr c4
  subst c4
  have H1 : (some false) = some r := by rw [if_neg (show ¬ (false = true) by decide)] at H;exact H
  clear H
  have H := H1
  clear H1
  obtain rfl := Option.some.inj H
  go_enter Tryd.func6,Tryd.ntmps6
  go_wp2_with (first|((with_reducible refine gate_callee (f := 11) rfl ?_);refine goesL_ (some 5) rfl rfl Tryd.func11 (by kernel_rfl) rfl #[] rfl (by (try simp only [List.map_toArray,List.map_cons,List.map_nil]);first|done|rfl|(simp only [List.length_drop,List.length_take];rfl)) ?_;(with_reducible refine (codesearchlaw25_alive.calls k  false _ A3.out).mono ?_);rintro e w29 ⟨rfl,hb⟩;refine ⟨_,rfl,?_⟩;have n0_ := Aside0.mk (below_step (bM HB.out) hb);clear HB;have HB := n0_;clear n0_;(try clear hb);(try clear hb2);(try clear hk);(try clear hi)))
  go_ret
  exact ⟨by first|rfl|(simp [errW_none,errW_some] <;> rfl)|(simp [*,errW_none,errW_some] <;> rfl),bM HB.out⟩

end Go.Proofs.YtpnhamfodjfacaaDoor.N
