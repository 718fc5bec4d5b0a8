-- Written by hp.py, a program of this session, over the kit's print of the translation. Not trusted: Lean checks it.
import Derived.Test.YtmgliocboeifdaaGreatDoorRx0
import Derived.Test.YtmgliocboeifdaaGreatDoorRx9
import Derived.Test.YtmgliocboeifdaaGreatDoorRx15
import Derived.Test.YtmgliocboeifdaaGreatDoorRx20
namespace Go.Proofs.YtmgliocboeifdaaGreatDoor.R
open Go.RowKit Go.Proofs.YtmgliocboeifdaaGreatDoorW.PrintWords Go.Proofs.YtmgliocboeifdaaGreatDoorW.PrintLast Go.Proofs.YtmgliocboeifdaaGreatDoorW.PrintMore
attribute [local go_sem] max2_int min2_int max_two min_two max_three min_three max_four min_four   -- for this text's walks alone
set_option linter.unusedVariables false
set_option linter.unusedSimpArgs false

/-! ### codesearchlaw33_ManifestRights: function 3 -/
def codesearchlaw33_ManifestRights.f (k : Nat) (l0 : List (S30)) : Option (Bool) := (codesearchlaw33_alive.f k).bind fun t522 => (if t522 = true then ((codesearchlaw33_small.f k l0).bind fun t523 => (if t523 = true then ((manifest_Right.f k l0).bind fun t524 => ((codesearchref33_Right.f k l0).bind fun t525 => (some (t524 == t525)))) else (some true))) else (some false))
theorem codesearchlaw33_ManifestRights.mono : ∀ a0 k, LeO (codesearchlaw33_ManifestRights.f k a0) (codesearchlaw33_ManifestRights.f (k + 1) a0) := by
 intro a0 k
 unfold codesearchlaw33_ManifestRights.f
 repeat' first
  |(with_reducible exact codesearchlaw33_alive.mono _)
  |(with_reducible exact codesearchlaw33_small.mono _ _)
  |(with_reducible exact codesearchref33_Right.mono _ _)
  |(with_reducible exact manifest_Right.mono _ _)
  |(with_reducible exact LeO.refl _)
  |(with_reducible exact LeO.none _)
  |(with_reducible refine LeO.ite ?_ ?_)
  |(with_reducible refine LeO.bind ?_ (fun _ => ?_))
  |exact codesearchlaw33_alive.mono _
  |exact codesearchlaw33_small.mono _ _
  |exact codesearchref33_Right.mono _ _
  |exact manifest_Right.mono _ _
  |exact LeO.none _
  |refine LeO.ite ?_ ?_
  |refine LeO.bind ?_ (fun _ => ?_)
set_option maxHeartbeats 4000000 in
set_option maxRecDepth 100000 in
theorem codesearchlaw33_ManifestRights.calls (k : Nat) (A0 : Option Addr) (c0 : Nat) (l0 : List (S30)) (r : Bool) (w : World) (hr0 : Kd.C k30 w A0 l0.length l0) (hc0 : l0.length ≤ c0) (h : codesearchlaw33_ManifestRights.f k l0 = some r) :
  Calls Tryz.prog 3 #[.slice A0 l0.length c0] w fun e w' => e = .returned (.bool r) ∧ Below w.heap.size w w' := by
 have HR0 := aK hr0
 have HC0 := aK hc0
 clear hr0 hc0
 have HB := aK (Below.refl w.heap.size w)
 unfold codesearchlaw33_ManifestRights.f at h
 have H := h
 clear h
 replace H := Option.bind_eq_some_iff.mp H
 obtain ⟨t522,A20,H⟩ := H
 have A2 := aK A20
 clear A20
 by_cases c3 : t522 = true
 ·subst c3
  rw [if_pos rfl] at H
  replace H := Option.bind_eq_some_iff.mp H
  obtain ⟨t523,A40,H⟩ := H
  have A4 := aK A40
  clear A40
  by_cases c5 : t523 = true
  ·subst c5
   rw [if_pos rfl] at H
   replace H := Option.bind_eq_some_iff.mp H
   obtain ⟨t524,A60,H⟩ := H
   have A6 := aK A60
   clear A60
   replace H := Option.bind_eq_some_iff.mp H
   obtain ⟨t525,A70,H⟩ := H
   have A7 := aK A70
   clear A70
   obtain rfl := Option.some.inj H
   go_enter Tryz.func3,Tryz.ntmps3
   go_wp2_with (first|((with_reducible refine gate_callee (f := 6) rfl ?_);refine goesL_ (some 3) rfl rfl Tryz.func6 (by kernel_rfl) rfl #[] rfl (by (try simp only [List.map_toArray,List.map_cons,List.map_nil]);first|done|rfl|(simp only [List.length_drop,List.length_take];rfl)) ?_;(with_reducible refine (codesearchlaw33_alive.calls k  true _ A2.out).mono ?_);rintro e w8 ⟨rfl,hb⟩;refine ⟨_,rfl,?_⟩;replace HB := aK (below_step (bM HB.out) hb);(try clear hb))|((with_reducible refine gate_callee (f := 7) rfl ?_);refine goesL_ (some 6) rfl rfl Tryz.func7 (by kernel_rfl) rfl #[.slice A0 l0.length c0] rfl (by (try simp only [List.map_toArray,List.map_cons,List.map_nil]);first|done|rfl|(simp only [List.length_drop,List.length_take];rfl)) ?_;(with_reducible refine (codesearchlaw33_small.calls k _ _ l0 true _ ?side1 ?side2 A4.out).mono ?_);(case side1 => exact cM (Kd.C_below HR0.out HB.out));(case side2 => exact HC0.out);rintro e w' ⟨rfl,⟨nd,rfl⟩⟩;refine ⟨_,rfl,?_⟩)|(go_at_call 8;(with_reducible refine (manifest_Right.calls k _ _ l0 t524 _ ?side1 ?side2 A6.out).mono ?_);(case side1 => exact Kd.C_below HR0.out (bM HB.out));(case side2 => exact HC0.out);rintro e w9 ⟨rfl,hb⟩;replace HB := aK (below_step (bM HB.out) hb);(try clear hb))|(go_at_call 9;(with_reducible refine (codesearchref33_Right.calls k _ _ l0 t525 _ ?side1 ?side2 A7.out).mono ?_);(case side1 => exact cM (Kd.C_below HR0.out HB.out));(case side2 => exact HC0.out);rintro e w10 ⟨rfl,hb⟩;replace HB := aK (below_step (bM HB.out) hb);(try clear hb)))
   go_ret
   exact ⟨by first|rfl|(simp [errW_none,errW_some] <;> rfl)|(simp [*,errW_none,errW_some] <;> rfl),bM HB.out⟩
  ·replace c5 := Bool.eq_false_iff.mpr c5
   subst c5
   rw [if_neg (show ¬ (false = true) by decide)] at H
   obtain rfl := Option.some.inj H
   go_enter Tryz.func3,Tryz.ntmps3
   go_wp2_with (first|((with_reducible refine gate_callee (f := 6) rfl ?_);refine goesL_ (some 3) rfl rfl Tryz.func6 (by kernel_rfl) rfl #[] rfl (by (try simp only [List.map_toArray,List.map_cons,List.map_nil]);first|done|rfl|(simp only [List.length_drop,List.length_take];rfl)) ?_;(with_reducible refine (codesearchlaw33_alive.calls k  true _ A2.out).mono ?_);rintro e w11 ⟨rfl,hb⟩;refine ⟨_,rfl,?_⟩;replace HB := aK (below_step (bM HB.out) hb);(try clear hb))|((with_reducible refine gate_callee (f := 7) rfl ?_);refine goesL_ (some 6) rfl rfl Tryz.func7 (by kernel_rfl) rfl #[.slice A0 l0.length c0] rfl (by (try simp only [List.map_toArray,List.map_cons,List.map_nil]);first|done|rfl|(simp only [List.length_drop,List.length_take];rfl)) ?_;(with_reducible refine (codesearchlaw33_small.calls k _ _ l0 false _ ?side1 ?side2 A4.out).mono ?_);(case side1 => exact cM (Kd.C_below HR0.out HB.out));(case side2 => exact HC0.out);rintro e w' ⟨rfl,⟨nd,rfl⟩⟩;refine ⟨_,rfl,?_⟩))
   go_ret
   exact ⟨by first|rfl|(simp [errW_none,errW_some] <;> rfl)|(simp [*,errW_none,errW_some] <;> rfl),bM HB.out⟩
 ·replace c3 := Bool.eq_false_iff.mpr c3
  subst c3
  rw [if_neg (show ¬ (false = true) by decide)] at H
  obtain rfl := Option.some.inj H
  go_enter Tryz.func3,Tryz.ntmps3
  go_wp2_with (first|((with_reducible refine gate_callee (f := 6) rfl ?_);refine goesL_ (some 3) rfl rfl Tryz.func6 (by kernel_rfl) rfl #[] rfl (by (try simp only [List.map_toArray,List.map_cons,List.map_nil]);first|done|rfl|(simp only [List.length_drop,List.length_take];rfl)) ?_;(with_reducible refine (codesearchlaw33_alive.calls k  false _ A2.out).mono ?_);rintro e w12 ⟨rfl,hb⟩;refine ⟨_,rfl,?_⟩;replace HB := aK (below_step (bM HB.out) hb);(try clear hb)))
  go_ret
  exact ⟨by first|rfl|(simp [errW_none,errW_some] <;> rfl)|(simp [*,errW_none,errW_some] <;> rfl),bM HB.out⟩

end Go.Proofs.YtmgliocboeifdaaGreatDoor.R
