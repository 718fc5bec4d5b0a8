-- Written by hp.py, a program of this session, over the kit's print of the translation. Not trusted: Lean checks it.
import Derived.Test.YtmgliocboeifdaaGreatDoorRx0
import Derived.Test.YtmgliocboeifdaaGreatDoorRx1
import Derived.Test.YtmgliocboeifdaaGreatDoorRx9
import Derived.Test.YtmgliocboeifdaaGreatDoorRx10
import Derived.Test.YtmgliocboeifdaaGreatDoorRx11
namespace Go.Proofs.YtmgliocboeifdaaGreatDoor.R
open Go.RowKit Go.Proofs.YtmgliocboeifdaaGreatDoorW.PrintWords Go.Proofs.YtmgliocboeifdaaGreatDoorW.PrintLast Go.Proofs.YtmgliocboeifdaaGreatDoorW.PrintMore
attribute [local go_sem] max2_int min2_int max_two min_two max_three min_three max_four min_four   -- for this text's walks alone
set_option linter.unusedVariables false
set_option linter.unusedSimpArgs false

/-! ### checksum_Open: function 47 -/
def checksum_Open.f (k : Nat) (l0 : List Int) (a1 : Int) (a2 : Int) : Option (List Int × Int × Int) := (varint_Get.f k l0 a1).bind fun bt271 => (if bt271.2.2 = 0 then (if bt271.1 > a2 then (some (([] : List Int), 0, 4)) else (if (wrap64 ((l0.length : Int) - bt271.2.1)) < 4 then (some (([] : List Int), 0, 5)) else (if bt271.1 > (wrap64 ((wrap64 ((l0.length : Int) - bt271.2.1)) - 4)) then (some (([] : List Int), 0, 5)) else (if 0 ≤ a1 then (if a1 ≤ (wrap64 (bt271.2.1 + bt271.1)) then (if (wrap64 (bt271.2.1 + bt271.1)) ≤ (l0.length : Int) then ((checksum_Sum.f ((l0.take ((wrap64 (bt271.2.1 + bt271.1)) : Int).toNat).drop (a1 : Int).toNat)).bind fun t275 => (if 0 ≤ (wrap64 (bt271.2.1 + bt271.1)) then (if (wrap64 (bt271.2.1 + bt271.1)) < (l0.length : Int) then (if (rd l0 (wrap64 (bt271.2.1 + bt271.1))) = ((t275 / 16777216) % 256) then (if 0 ≤ (wrap64 ((wrap64 (bt271.2.1 + bt271.1)) + 1)) then (if (wrap64 ((wrap64 (bt271.2.1 + bt271.1)) + 1)) < (l0.length : Int) then (if (rd l0 (wrap64 ((wrap64 (bt271.2.1 + bt271.1)) + 1))) = ((t275 / 65536) % 256) then (if 0 ≤ (wrap64 ((wrap64 (bt271.2.1 + bt271.1)) + 2)) then (if (wrap64 ((wrap64 (bt271.2.1 + bt271.1)) + 2)) < (l0.length : Int) then (if (rd l0 (wrap64 ((wrap64 (bt271.2.1 + bt271.1)) + 2))) = ((t275 / 256) % 256) then (if 0 ≤ (wrap64 ((wrap64 (bt271.2.1 + bt271.1)) + 3)) then (if (wrap64 ((wrap64 (bt271.2.1 + bt271.1)) + 3)) < (l0.length : Int) then (if (rd l0 (wrap64 ((wrap64 (bt271.2.1 + bt271.1)) + 3))) = ((t275) % 256) then (if 0 ≤ bt271.2.1 then (if bt271.2.1 ≤ (wrap64 (bt271.2.1 + bt271.1)) then ((slices_Clone_byte_byte.f ((l0.take ((wrap64 (bt271.2.1 + bt271.1)) : Int).toNat).drop (bt271.2.1 : Int).toNat)).bind fun t281 => (some (t281, wrap64 ((wrap64 (bt271.2.1 + bt271.1)) + 4), 0))) else (none)) else (none)) else (some (([] : List Int), 0, 6))) else (none)) else (none)) else (some (([] : List Int), 0, 6))) else (none)) else (none)) else (some (([] : List Int), 0, 6))) else (none)) else (none)) else (some (([] : List Int), 0, 6))) else (none)) else (none))) else (none)) else (none)) else (none))))) else (some (([] : List Int), 0, bt271.2.2)))
theorem checksum_Open.mono : ∀ a0 a1 a2 k, LeO (checksum_Open.f k a0 a1 a2) (checksum_Open.f (k + 1) a0 a1 a2) := by
 intro a0 a1 a2 k
 unfold checksum_Open.f
 repeat' first
  |(with_reducible exact varint_Get.mono _ _ _)
  |(with_reducible exact LeO.refl _)
  |(with_reducible exact LeO.none _)
  |(with_reducible refine LeO.ite ?_ ?_)
  |(with_reducible refine LeO.bind ?_ (fun _ => ?_))
  |exact varint_Get.mono _ _ _
  |exact LeO.none _
  |refine LeO.ite ?_ ?_
  |refine LeO.bind ?_ (fun _ => ?_)
set_option maxHeartbeats 4000000 in
set_option maxRecDepth 100000 in
theorem checksum_Open.calls (k : Nat) (A0 : Option Addr) (c0 : Nat) (l0 : List Int) (a1 : Int) (a2 : Int) (r1 : List Int) (r2 : Int) (r3 : Int) (w : World) (hr0 : Kd.C (Kd.int .u8) w A0 l0.length l0) (hc0 : l0.length ≤ c0) (h : checksum_Open.f k l0 a1 a2 = some (r1, r2, r3)) :
  Calls Tryz.prog 47 #[.slice A0 l0.length c0,.int .i64 a1,.int .i64 a2] w fun e w' => ∃ v0_ : Value,e = .returned (.tuple #[v0_,.int .i64 r2,.int .i64 r3]) ∧ Kd.R (Kd.int .u8) 5 w' w.heap.size (fun _ => True) v0_ r1 ∧ Below w.heap.size w w' := by
 have HR0 := aK hr0
 have HC0 := aK hc0
 clear hr0 hc0
 have HB := aK (Below.refl w.heap.size w)
 have H : ((varint_Get.f k l0 a1).bind fun bt271 => (if bt271.2.2 = 0 then (if bt271.1 > a2 then (some (([] : List Int),0,4)) else (if (wrap64 ((l0.length : Int) - bt271.2.1)) < 4 then (some (([] : List Int),0,5)) else (if bt271.1 > (wrap64 ((wrap64 ((l0.length : Int) - bt271.2.1)) - 4)) then (some (([] : List Int),0,5)) else (if 0 ≤ a1 then (if a1 ≤ (wrap64 (bt271.2.1 + bt271.1)) then (if (wrap64 (bt271.2.1 + bt271.1)) ≤ (l0.length : Int) then ((checksum_Sum.f ((l0.take ((wrap64 (bt271.2.1 + bt271.1)) : Int).toNat).drop (a1 : Int).toNat)).bind fun t275 => (if 0 ≤ (wrap64 (bt271.2.1 + bt271.1)) then (if (wrap64 (bt271.2.1 + bt271.1)) < (l0.length : Int) then (if (rd l0 (wrap64 (bt271.2.1 + bt271.1))) = ((t275 / 16777216) % 256) then (if 0 ≤ (wrap64 ((wrap64 (bt271.2.1 + bt271.1)) + 1)) then (if (wrap64 ((wrap64 (bt271.2.1 + bt271.1)) + 1)) < (l0.length : Int) then (if (rd l0 (wrap64 ((wrap64 (bt271.2.1 + bt271.1)) + 1))) = ((t275 / 65536) % 256) then (if 0 ≤ (wrap64 ((wrap64 (bt271.2.1 + bt271.1)) + 2)) then (if (wrap64 ((wrap64 (bt271.2.1 + bt271.1)) + 2)) < (l0.length : Int) then (if (rd l0 (wrap64 ((wrap64 (bt271.2.1 + bt271.1)) + 2))) = ((t275 / 256) % 256) then (if 0 ≤ (wrap64 ((wrap64 (bt271.2.1 + bt271.1)) + 3)) then (if (wrap64 ((wrap64 (bt271.2.1 + bt271.1)) + 3)) < (l0.length : Int) then (if (rd l0 (wrap64 ((wrap64 (bt271.2.1 + bt271.1)) + 3))) = ((t275) % 256) then (if 0 ≤ bt271.2.1 then (if bt271.2.1 ≤ (wrap64 (bt271.2.1 + bt271.1)) then ((slices_Clone_byte_byte.f ((l0.take ((wrap64 (bt271.2.1 + bt271.1)) : Int).toNat).drop (bt271.2.1 : Int).toNat)).bind fun t281 => (some (t281,wrap64 ((wrap64 (bt271.2.1 + bt271.1)) + 4),0))) else (none)) else (none)) else (some (([] : List Int),0,6))) else (none)) else (none)) else (some (([] : List Int),0,6))) else (none)) else (none)) else (some (([] : List Int),0,6))) else (none)) else (none)) else (some (([] : List Int),0,6))) else (none)) else (none))) else (none)) else (none)) else (none))))) else (some (([] : List Int),0,bt271.2.2)))) = some (r1,r2,r3) := h
 clear h
 replace H := Option.bind_eq_some_iff.mp H
 obtain ⟨⟨t271,t272,t273⟩,A40,H⟩ := H
 replace H : (if t273 = 0 then (if t271 > a2 then (some (([] : List Int),0,4)) else (if (wrap64 ((l0.length : Int) - t272)) < 4 then (some (([] : List Int),0,5)) else (if t271 > (wrap64 ((wrap64 ((l0.length : Int) - t272)) - 4)) then (some (([] : List Int),0,5)) else (if 0 ≤ a1 then (if a1 ≤ (wrap64 (t272 + t271)) then (if (wrap64 (t272 + t271)) ≤ (l0.length : Int) then ((checksum_Sum.f ((l0.take ((wrap64 (t272 + t271)) : Int).toNat).drop (a1 : Int).toNat)).bind fun t275 => (if 0 ≤ (wrap64 (t272 + t271)) then (if (wrap64 (t272 + t271)) < (l0.length : Int) then (if (rd l0 (wrap64 (t272 + t271))) = ((t275 / 16777216) % 256) then (if 0 ≤ (wrap64 ((wrap64 (t272 + t271)) + 1)) then (if (wrap64 ((wrap64 (t272 + t271)) + 1)) < (l0.length : Int) then (if (rd l0 (wrap64 ((wrap64 (t272 + t271)) + 1))) = ((t275 / 65536) % 256) then (if 0 ≤ (wrap64 ((wrap64 (t272 + t271)) + 2)) then (if (wrap64 ((wrap64 (t272 + t271)) + 2)) < (l0.length : Int) then (if (rd l0 (wrap64 ((wrap64 (t272 + t271)) + 2))) = ((t275 / 256) % 256) then (if 0 ≤ (wrap64 ((wrap64 (t272 + t271)) + 3)) then (if (wrap64 ((wrap64 (t272 + t271)) + 3)) < (l0.length : Int) then (if (rd l0 (wrap64 ((wrap64 (t272 + t271)) + 3))) = ((t275) % 256) then (if 0 ≤ t272 then (if t272 ≤ (wrap64 (t272 + t271)) then ((slices_Clone_byte_byte.f ((l0.take ((wrap64 (t272 + t271)) : Int).toNat).drop (t272 : Int).toNat)).bind fun t281 => (some (t281,wrap64 ((wrap64 (t272 + t271)) + 4),0))) else (none)) else (none)) else (some (([] : List Int),0,6))) else (none)) else (none)) else (some (([] : List Int),0,6))) else (none)) else (none)) else (some (([] : List Int),0,6))) else (none)) else (none)) else (some (([] : List Int),0,6))) else (none)) else (none))) else (none)) else (none)) else (none))))) else (some (([] : List Int),0,t273))) = some (r1,r2,r3) := H
 have A4 := aK A40
 clear A40
 by_cases c5 : t273 = 0
 ·rw [if_pos c5] at H
  have c5b0 := beq_iff_eq.mpr c5
  have c5b1 := bne_eq_false_iff_eq.mpr c5
  clear c5
  by_cases c6 : t271 > a2
  ·rw [if_pos c6] at H
   have c6b0 := decide_eq_true c6
   clear c6
   simp only [Option.some.injEq,Prod.mk.injEq] at H
   obtain ⟨rfl,rfl,rfl⟩ := H
   go_enter Tryz.func47,Tryz.ntmps47
   go_wp2_with (first|((with_reducible refine gate_callee (f := 32) rfl ?_);refine goesL_ (some 17) rfl rfl Tryz.func32 (by kernel_rfl) rfl #[.slice A0 l0.length c0,.int .i64 a1] rfl (by (try simp only [List.map_toArray,List.map_cons,List.map_nil]);first|done|rfl|(simp only [List.length_drop,List.length_take];rfl)) ?_;(with_reducible refine (varint_Get.calls k _ _ l0 a1 t271 t272 t273 _ ?side1 ?side2 A4.out).mono ?_);(case side1 => exact cM HR0.out);(case side2 => exact HC0.out);rintro e w' ⟨rfl,⟨nd,rfl⟩⟩;refine ⟨_,rfl,?_⟩))
   go_ret3
   exact ⟨_,by first|rfl|(simp [errW_none,errW_some] <;> rfl)|(simp [*,errW_none,errW_some] <;> rfl),by first|exact Kd.R_nil _ _ _ _ _|exact Kd.N_nil _ _ _ _ _|exact Kd.V_nil _ _ _ _ _|exact Kd.Q_nil _ _ _ _ _|exact Kd.S_nil _ _ _ _ _,bM HB.out⟩
  ·rw [if_neg c6] at H
   have c6b0 := decide_eq_false c6
   clear c6
   by_cases c7 : (wrap64 ((l0.length : Int) - t272)) < 4
   ·rw [if_pos c7] at H
    have c7b0 := decide_eq_true c7
    clear c7
    simp only [Option.some.injEq,Prod.mk.injEq] at H
    obtain ⟨rfl,rfl,rfl⟩ := H
    go_enter Tryz.func47,Tryz.ntmps47
    go_wp2_with (first|((with_reducible refine gate_callee (f := 32) rfl ?_);refine goesL_ (some 17) rfl rfl Tryz.func32 (by kernel_rfl) rfl #[.slice A0 l0.length c0,.int .i64 a1] rfl (by (try simp only [List.map_toArray,List.map_cons,List.map_nil]);first|done|rfl|(simp only [List.length_drop,List.length_take];rfl)) ?_;(with_reducible refine (varint_Get.calls k _ _ l0 a1 t271 t272 t273 _ ?side1 ?side2 A4.out).mono ?_);(case side1 => exact cM HR0.out);(case side2 => exact HC0.out);rintro e w' ⟨rfl,⟨nd,rfl⟩⟩;refine ⟨_,rfl,?_⟩))
    go_ret3
    exact ⟨_,by first|rfl|(simp [errW_none,errW_some] <;> rfl)|(simp [*,errW_none,errW_some] <;> rfl),by first|exact Kd.R_nil _ _ _ _ _|exact Kd.N_nil _ _ _ _ _|exact Kd.V_nil _ _ _ _ _|exact Kd.Q_nil _ _ _ _ _|exact Kd.S_nil _ _ _ _ _,bM HB.out⟩
   ·rw [if_neg c7] at H
    have c7b0 := decide_eq_false c7
    clear c7
    by_cases c8 : t271 > (wrap64 ((wrap64 ((l0.length : Int) - t272)) - 4))
    ·rw [if_pos c8] at H
     have c8b0 := decide_eq_true c8
     clear c8
     simp only [Option.some.injEq,Prod.mk.injEq] at H
     obtain ⟨rfl,rfl,rfl⟩ := H
     go_enter Tryz.func47,Tryz.ntmps47
     go_wp2_with (first|((with_reducible refine gate_callee (f := 32) rfl ?_);refine goesL_ (some 17) rfl rfl Tryz.func32 (by kernel_rfl) rfl #[.slice A0 l0.length c0,.int .i64 a1] rfl (by (try simp only [List.map_toArray,List.map_cons,List.map_nil]);first|done|rfl|(simp only [List.length_drop,List.length_take];rfl)) ?_;(with_reducible refine (varint_Get.calls k _ _ l0 a1 t271 t272 t273 _ ?side1 ?side2 A4.out).mono ?_);(case side1 => exact cM HR0.out);(case side2 => exact HC0.out);rintro e w' ⟨rfl,⟨nd,rfl⟩⟩;refine ⟨_,rfl,?_⟩))
     go_ret3
     exact ⟨_,by first|rfl|(simp [errW_none,errW_some] <;> rfl)|(simp [*,errW_none,errW_some] <;> rfl),by first|exact Kd.R_nil _ _ _ _ _|exact Kd.N_nil _ _ _ _ _|exact Kd.V_nil _ _ _ _ _|exact Kd.Q_nil _ _ _ _ _|exact Kd.S_nil _ _ _ _ _,bM HB.out⟩
    ·rw [if_neg c8] at H
     have c8b0 := decide_eq_false c8
     clear c8
     obtain ⟨c9,H⟩ := iS H
     have c9b0 := eq_true c9
     have c9b1 := decide_eq_true c9
     clear c9
     obtain ⟨c10,H⟩ := iS H
     have c10b0 := eq_true c10
     have c10b1 := decide_eq_true c10
     obtain ⟨c11,H⟩ := iS H
     have c11b0 := eq_true c11
     have c11b1 := decide_eq_true c11
     replace H := Option.bind_eq_some_iff.mp H
     obtain ⟨t275,A120,H⟩ := H
     have A12 := aK A120
     clear A120
     obtain ⟨ji13,hji13⟩ : ∃ j_ : Int,(wrap64 (t272 + t271)) = j_ := ⟨_,rfl⟩
     replace H : (if 0 ≤ (ji13) then (if (ji13) < (l0.length : Int) then (if (rd l0 (ji13)) = ((t275 / 16777216) % 256) then (if 0 ≤ (wrap64 ((ji13) + 1)) then (if (wrap64 ((ji13) + 1)) < (l0.length : Int) then (if (rd l0 (wrap64 ((ji13) + 1))) = ((t275 / 65536) % 256) then (if 0 ≤ (wrap64 ((ji13) + 2)) then (if (wrap64 ((ji13) + 2)) < (l0.length : Int) then (if (rd l0 (wrap64 ((ji13) + 2))) = ((t275 / 256) % 256) then (if 0 ≤ (wrap64 ((ji13) + 3)) then (if (wrap64 ((ji13) + 3)) < (l0.length : Int) then (if (rd l0 (wrap64 ((ji13) + 3))) = ((t275) % 256) then (if 0 ≤ t272 then (if t272 ≤ (ji13) then ((slices_Clone_byte_byte.f ((l0.take ((ji13) : Int).toNat).drop (t272 : Int).toNat)).bind fun t281 => (some (t281,wrap64 ((ji13) + 4),0))) else (none)) else (none)) else (some (([] : List Int),0,6))) else (none)) else (none)) else (some (([] : List Int),0,6))) else (none)) else (none)) else (some (([] : List Int),0,6))) else (none)) else (none)) else (some (([] : List Int),0,6))) else (none)) else (none)) = some (r1,r2,r3) := by first|(rw [hji13] at H;exact H)|(simp only [hji13] at H ⊢;exact H)
     (try rw [hji13] at c10b0)
     (try rw [hji13] at c10b1)
     (try rw [hji13] at c10)
     (try rw [hji13] at c11b0)
     (try rw [hji13] at c11b1)
     (try rw [hji13] at c11)
     (try rw [hji13] at A4)
     (try rw [hji13] at A12)
     have hji13w : (IntKind.i64.wrap (t272 + t271)) = ji13 := (i64_w _).trans hji13
     obtain ⟨c14,H⟩ := iS H
     have c14b0 := decide_eq_true c14
     clear c14
     obtain ⟨c15,H⟩ := iS H
     have c15b0 := decide_eq_true c15
     clear c15
     by_cases c16 : (rd l0 (ji13)) = ((t275 / 16777216) % 256)
     ·rw [if_pos c16] at H
      have c16b0 := beq_iff_eq.mpr c16
      have c16b1 := bne_eq_false_iff_eq.mpr c16
      clear c16
      obtain ⟨ji17,hji17⟩ : ∃ j_ : Int,(wrap64 ((ji13) + 1)) = j_ := ⟨_,rfl⟩
      replace H : (if 0 ≤ (ji17) then (if (ji17) < (l0.length : Int) then (if (rd l0 (ji17)) = ((t275 / 65536) % 256) then (if 0 ≤ (wrap64 ((ji13) + 2)) then (if (wrap64 ((ji13) + 2)) < (l0.length : Int) then (if (rd l0 (wrap64 ((ji13) + 2))) = ((t275 / 256) % 256) then (if 0 ≤ (wrap64 ((ji13) + 3)) then (if (wrap64 ((ji13) + 3)) < (l0.length : Int) then (if (rd l0 (wrap64 ((ji13) + 3))) = ((t275) % 256) then (if 0 ≤ t272 then (if t272 ≤ (ji13) then ((slices_Clone_byte_byte.f ((l0.take ((ji13) : Int).toNat).drop (t272 : Int).toNat)).bind fun t281 => (some (t281,wrap64 ((ji13) + 4),0))) else (none)) else (none)) else (some (([] : List Int),0,6))) else (none)) else (none)) else (some (([] : List Int),0,6))) else (none)) else (none)) else (some (([] : List Int),0,6))) else (none)) else (none)) = some (r1,r2,r3) := by first|(rw [hji17] at H;exact H)|(simp only [hji17] at H ⊢;exact H)
      (try rw [hji17] at A4)
      (try rw [hji17] at A12)
      have hji17w : (IntKind.i64.wrap ((ji13) + 1)) = ji17 := (i64_w _).trans hji17
      obtain ⟨c18,H⟩ := iS H
      have c18b0 := decide_eq_true c18
      clear c18
      obtain ⟨c19,H⟩ := iS H
      have c19b0 := decide_eq_true c19
      clear c19
      by_cases c20 : (rd l0 (ji17)) = ((t275 / 65536) % 256)
      ·rw [if_pos c20] at H
       have c20b0 := beq_iff_eq.mpr c20
       have c20b1 := bne_eq_false_iff_eq.mpr c20
       clear c20
       obtain ⟨ji21,hji21⟩ : ∃ j_ : Int,(wrap64 ((ji13) + 2)) = j_ := ⟨_,rfl⟩
       replace H : (if 0 ≤ (ji21) then (if (ji21) < (l0.length : Int) then (if (rd l0 (ji21)) = ((t275 / 256) % 256) then (if 0 ≤ (wrap64 ((ji13) + 3)) then (if (wrap64 ((ji13) + 3)) < (l0.length : Int) then (if (rd l0 (wrap64 ((ji13) + 3))) = ((t275) % 256) then (if 0 ≤ t272 then (if t272 ≤ (ji13) then ((slices_Clone_byte_byte.f ((l0.take ((ji13) : Int).toNat).drop (t272 : Int).toNat)).bind fun t281 => (some (t281,wrap64 ((ji13) + 4),0))) else (none)) else (none)) else (some (([] : List Int),0,6))) else (none)) else (none)) else (some (([] : List Int),0,6))) else (none)) else (none)) = some (r1,r2,r3) := by first|(rw [hji21] at H;exact H)|(simp only [hji21] at H ⊢;exact H)
       (try rw [hji21] at A4)
       (try rw [hji21] at A12)
       have hji21w : (IntKind.i64.wrap ((ji13) + 2)) = ji21 := (i64_w _).trans hji21
       obtain ⟨c22,H⟩ := iS H
       have c22b0 := decide_eq_true c22
       clear c22
       obtain ⟨c23,H⟩ := iS H
       have c23b0 := decide_eq_true c23
       clear c23
       by_cases c24 : (rd l0 (ji21)) = ((t275 / 256) % 256)
       ·rw [if_pos c24] at H
        have c24b0 := beq_iff_eq.mpr c24
        have c24b1 := bne_eq_false_iff_eq.mpr c24
        clear c24
        obtain ⟨ji25,hji25⟩ : ∃ j_ : Int,(wrap64 ((ji13) + 3)) = j_ := ⟨_,rfl⟩
        replace H : (if 0 ≤ (ji25) then (if (ji25) < (l0.length : Int) then (if (rd l0 (ji25)) = ((t275) % 256) then (if 0 ≤ t272 then (if t272 ≤ (ji13) then ((slices_Clone_byte_byte.f ((l0.take ((ji13) : Int).toNat).drop (t272 : Int).toNat)).bind fun t281 => (some (t281,wrap64 ((ji13) + 4),0))) else (none)) else (none)) else (some (([] : List Int),0,6))) else (none)) else (none)) = some (r1,r2,r3) := by first|(rw [hji25] at H;exact H)|(simp only [hji25] at H ⊢;exact H)
        (try rw [hji25] at A4)
        (try rw [hji25] at A12)
        have hji25w : (IntKind.i64.wrap ((ji13) + 3)) = ji25 := (i64_w _).trans hji25
        obtain ⟨c26,H⟩ := iS H
        have c26b0 := decide_eq_true c26
        clear c26
        obtain ⟨c27,H⟩ := iS H
        have c27b0 := decide_eq_true c27
        clear c27
        by_cases c28 : (rd l0 (ji25)) = ((t275) % 256)
        ·rw [if_pos c28] at H
         have c28b0 := beq_iff_eq.mpr c28
         have c28b1 := bne_eq_false_iff_eq.mpr c28
         clear c28
         obtain ⟨c29,H⟩ := iS H
         have c29b0 := eq_true c29
         have c29b1 := decide_eq_true c29
         clear c29
         obtain ⟨c30,H⟩ := iS H
         have c30b0 := eq_true c30
         have c30b1 := decide_eq_true c30
         clear c30
         have c31b0 := eq_true (of_decide_eq_true (by assumption) : (ji13) ≤ (l0.length : Int))
         replace H := Option.bind_eq_some_iff.mp H
         obtain ⟨t281,A320,H⟩ := H
         have A32 := aK A320
         clear A320
         simp only [Option.some.injEq,Prod.mk.injEq] at H
         obtain ⟨rfl,rfl,rfl⟩ := H
         go_enter Tryz.func47,Tryz.ntmps47
         go_wp2_with (first|((with_reducible refine gate_callee (f := 32) rfl ?_);refine goesL_ (some 17) rfl rfl Tryz.func32 (by kernel_rfl) rfl #[.slice A0 l0.length c0,.int .i64 a1] rfl (by (try simp only [List.map_toArray,List.map_cons,List.map_nil]);first|done|rfl|(simp only [List.length_drop,List.length_take];rfl)) ?_;(with_reducible refine (varint_Get.calls k _ _ l0 a1 t271 t272 t273 _ ?side1 ?side2 A4.out).mono ?_);(case side1 => exact cM HR0.out);(case side2 => exact HC0.out);rintro e w' ⟨rfl,⟨nd,rfl⟩⟩;refine ⟨_,rfl,?_⟩;obtain ⟨i033,hi033,_,hsz33,_⟩ := info_parts info5;obtain ⟨A33,hcut33,hA33,hC33⟩ := print_mid_of (P := Tryz.prog) (Value.int .u8) 0 31 5 .i64 .i64 Tryz.underlying31 hi033 hsz33 A0 c0 l0 a1 (ji13) (of_decide_eq_true (by assumption)) (by first|omega|exact of_decide_eq_true (by assumption)) (of_decide_eq_true (by assumption)) HC0.out;have HR274 := aK (Kd.C_of_reads (h1 := fun _ => rfl) (hA33 _ (Kd.reads_of_C HR0.out)));have HC274 := aK hC33;clear hA33 hC33 hi033 hsz33)|((with_reducible refine gate_callee (f := 62) rfl ?_);refine goesL_ (some 51) rfl rfl Tryz.func62 (by kernel_rfl) rfl #[.slice A33 ((l0.take ((ji13) : Int).toNat).drop (a1 : Int).toNat).length (c0 - a1.toNat)] rfl (by (try simp only [List.map_toArray,List.map_cons,List.map_nil]);first|done|(rw [show ((l0.take ((ji13) : Int).toNat).drop (a1 : Int).toNat).length = ((ji13).toNat - a1.toNat) from (by rw [List.length_drop,List.length_take];have h_ : ((ji13) : Int) ≤ (l0.length : Int) := of_decide_eq_true (by assumption);omega)] <;> rfl)|(simp only [hji13];rfl)|rfl|(simp only [List.length_drop,List.length_take];rfl)) ?_;(with_reducible refine (checksum_Sum.calls _ _ ((l0.take ((ji13) : Int).toNat).drop (a1 : Int).toNat) t275 _ ?side1 ?side2 A12.out).mono ?_);(case side1 => exact cM HR274.out);(case side2 => exact HC274.out);rintro e w34 ⟨rfl,hb⟩;refine ⟨_,rfl,?_⟩;replace HB := aK (below_step (bM HB.out) hb);(try clear hb);have p276 : 0 ≤ ((ji13) : Int) := of_decide_eq_true (by assumption);have q276 : (ji13) < (l0.length : Int) := of_decide_eq_true (by assumption);obtain ⟨ad276,e276,hx276_0⟩ := Kd.at_int HR0.out (ji13) p276 q276;cases e276;replace hx276_0 := xM HB hx276_0;replace p276 := eq_true p276;replace q276 := eq_true q276;have p277 : 0 ≤ ((ji17) : Int) := of_decide_eq_true (by assumption);have q277 : (ji17) < (l0.length : Int) := of_decide_eq_true (by assumption);obtain ⟨ad277,e277,hx277_0⟩ := Kd.at_int HR0.out (ji17) p277 q277;obtain rfl : ad276 = ad277 := (by injection e277);replace hx277_0 := xM HB hx277_0;replace p277 := eq_true p277;replace q277 := eq_true q277;have p278 : 0 ≤ ((ji21) : Int) := of_decide_eq_true (by assumption);have q278 : (ji21) < (l0.length : Int) := of_decide_eq_true (by assumption);obtain ⟨ad278,e278,hx278_0⟩ := Kd.at_int HR0.out (ji21) p278 q278;obtain rfl : ad276 = ad278 := (by injection e278);replace hx278_0 := xM HB hx278_0;replace p278 := eq_true p278;replace q278 := eq_true q278;have p279 : 0 ≤ ((ji25) : Int) := of_decide_eq_true (by assumption);have q279 : (ji25) < (l0.length : Int) := of_decide_eq_true (by assumption);obtain ⟨ad279,e279,hx279_0⟩ := Kd.at_int HR0.out (ji25) p279 q279;obtain rfl : ad276 = ad279 := (by injection e279);replace hx279_0 := xM HB hx279_0;replace p279 := eq_true p279;replace q279 := eq_true q279;obtain ⟨i035,hi035,_,hsz35,_⟩ := info_parts info5;obtain ⟨A35,hcut35,hA35,hC35⟩ := print_mid_of (P := Tryz.prog) (Value.int .u8) 0 31 5 .i64 .i64 Tryz.underlying31 hi035 hsz35 (some ad276) c0 l0 t272 (ji13) (of_decide_eq_true (by assumption)) (by first|omega|exact of_decide_eq_true (by assumption)) (of_decide_eq_true (by assumption)) HC0.out;have HR280 := aK (Kd.C_of_reads (h1 := fun _ => rfl) (hA35 _ (Kd.reads_of_C HR0.out)));have HC280 := aK hC35;clear hA35 hC35 hi035 hsz35)|((with_reducible refine gate_callee (f := 63) rfl ?_);refine goesL_ (some 96) rfl rfl Tryz.func63 (by kernel_rfl) rfl #[.slice A35 ((l0.take ((ji13) : Int).toNat).drop (t272 : Int).toNat).length (c0 - t272.toNat)] rfl (by (try simp only [List.map_toArray,List.map_cons,List.map_nil]);first|done|(rw [show ((l0.take ((ji13) : Int).toNat).drop (t272 : Int).toNat).length = ((ji13).toNat - t272.toNat) from (by rw [List.length_drop,List.length_take];have h_ : ((ji13) : Int) ≤ (l0.length : Int) := of_decide_eq_true (by assumption);omega)] <;> rfl)|(simp only [hji13];rfl)|rfl|(simp only [List.length_drop,List.length_take];rfl)) ?_;(with_reducible refine (slices_Clone_byte_byte.calls _ _ ((l0.take ((ji13) : Int).toNat).drop (t272 : Int).toNat) t281 _ ?side1 ?side2 A32.out).mono ?_);(case side1 => exact cM (Kd.C_below HR280.out HB.out));(case side2 => exact HC280.out);rintro e w36 ⟨v282,rfl,ho0,hb⟩;refine ⟨_,rfl,?_⟩;have HO283 := aK (Kd.R_lower ho0 (below_size (bM HB.out)));replace HB := aK (below_step (bM HB.out) hb);(try clear hb);(try clear ho0)))
         go_ret3
         exact ⟨_,by first|rfl|(simp [errW_none,errW_some] <;> rfl)|(simp only [← hji13,← hji17,← hji21,← hji25];first|rfl|(simp [errW_none,errW_some] <;> rfl))|(simp [*,errW_none,errW_some] <;> rfl),rM HO283.out,bM HB.out⟩
        ·rw [if_neg c28] at H
         have c28b0 := beq_eq_false_iff_ne.mpr c28
         have c28b1 := bne_iff_ne.mpr c28
         simp only [Option.some.injEq,Prod.mk.injEq] at H
         obtain ⟨rfl,rfl,rfl⟩ := H
         go_enter Tryz.func47,Tryz.ntmps47
         go_wp2_with (first|((with_reducible refine gate_callee (f := 32) rfl ?_);refine goesL_ (some 17) rfl rfl Tryz.func32 (by kernel_rfl) rfl #[.slice A0 l0.length c0,.int .i64 a1] rfl (by (try simp only [List.map_toArray,List.map_cons,List.map_nil]);first|done|rfl|(simp only [List.length_drop,List.length_take];rfl)) ?_;(with_reducible refine (varint_Get.calls k _ _ l0 a1 t271 t272 t273 _ ?side1 ?side2 A4.out).mono ?_);(case side1 => exact cM HR0.out);(case side2 => exact HC0.out);rintro e w' ⟨rfl,⟨nd,rfl⟩⟩;refine ⟨_,rfl,?_⟩;obtain ⟨i037,hi037,_,hsz37,_⟩ := info_parts info5;obtain ⟨A37,hcut37,hA37,hC37⟩ := print_mid_of (P := Tryz.prog) (Value.int .u8) 0 31 5 .i64 .i64 Tryz.underlying31 hi037 hsz37 A0 c0 l0 a1 (ji13) (of_decide_eq_true (by assumption)) (by first|omega|exact of_decide_eq_true (by assumption)) (of_decide_eq_true (by assumption)) HC0.out;have HR274 := aK (Kd.C_of_reads (h1 := fun _ => rfl) (hA37 _ (Kd.reads_of_C HR0.out)));have HC274 := aK hC37;clear hA37 hC37 hi037 hsz37)|((with_reducible refine gate_callee (f := 62) rfl ?_);refine goesL_ (some 51) rfl rfl Tryz.func62 (by kernel_rfl) rfl #[.slice A37 ((l0.take ((ji13) : Int).toNat).drop (a1 : Int).toNat).length (c0 - a1.toNat)] rfl (by (try simp only [List.map_toArray,List.map_cons,List.map_nil]);first|done|(rw [show ((l0.take ((ji13) : Int).toNat).drop (a1 : Int).toNat).length = ((ji13).toNat - a1.toNat) from (by rw [List.length_drop,List.length_take];have h_ : ((ji13) : Int) ≤ (l0.length : Int) := of_decide_eq_true (by assumption);omega)] <;> rfl)|(simp only [hji13];rfl)|rfl|(simp only [List.length_drop,List.length_take];rfl)) ?_;(with_reducible refine (checksum_Sum.calls _ _ ((l0.take ((ji13) : Int).toNat).drop (a1 : Int).toNat) t275 _ ?side1 ?side2 A12.out).mono ?_);(case side1 => exact cM HR274.out);(case side2 => exact HC274.out);rintro e w38 ⟨rfl,hb⟩;refine ⟨_,rfl,?_⟩;replace HB := aK (below_step (bM HB.out) hb);(try clear hb);have p276 : 0 ≤ ((ji13) : Int) := of_decide_eq_true (by assumption);have q276 : (ji13) < (l0.length : Int) := of_decide_eq_true (by assumption);obtain ⟨ad276,e276,hx276_0⟩ := Kd.at_int HR0.out (ji13) p276 q276;cases e276;replace hx276_0 := xM HB hx276_0;replace p276 := eq_true p276;replace q276 := eq_true q276;have p277 : 0 ≤ ((ji17) : Int) := of_decide_eq_true (by assumption);have q277 : (ji17) < (l0.length : Int) := of_decide_eq_true (by assumption);obtain ⟨ad277,e277,hx277_0⟩ := Kd.at_int HR0.out (ji17) p277 q277;obtain rfl : ad276 = ad277 := (by injection e277);replace hx277_0 := xM HB hx277_0;replace p277 := eq_true p277;replace q277 := eq_true q277;have p278 : 0 ≤ ((ji21) : Int) := of_decide_eq_true (by assumption);have q278 : (ji21) < (l0.length : Int) := of_decide_eq_true (by assumption);obtain ⟨ad278,e278,hx278_0⟩ := Kd.at_int HR0.out (ji21) p278 q278;obtain rfl : ad276 = ad278 := (by injection e278);replace hx278_0 := xM HB hx278_0;replace p278 := eq_true p278;replace q278 := eq_true q278;have p279 : 0 ≤ ((ji25) : Int) := of_decide_eq_true (by assumption);have q279 : (ji25) < (l0.length : Int) := of_decide_eq_true (by assumption);obtain ⟨ad279,e279,hx279_0⟩ := Kd.at_int HR0.out (ji25) p279 q279;obtain rfl : ad276 = ad279 := (by injection e279);replace hx279_0 := xM HB hx279_0;replace p279 := eq_true p279;replace q279 := eq_true q279))
         go_ret3
         exact ⟨_,by first|rfl|(simp [errW_none,errW_some] <;> rfl)|(simp only [← hji13,← hji17,← hji21,← hji25];first|rfl|(simp [errW_none,errW_some] <;> rfl))|(simp [*,errW_none,errW_some] <;> rfl),by first|exact Kd.R_nil _ _ _ _ _|exact Kd.N_nil _ _ _ _ _|exact Kd.V_nil _ _ _ _ _|exact Kd.Q_nil _ _ _ _ _|exact Kd.S_nil _ _ _ _ _,bM HB.out⟩
       ·rw [if_neg c24] at H
        have c24b0 := beq_eq_false_iff_ne.mpr c24
        have c24b1 := bne_iff_ne.mpr c24
        simp only [Option.some.injEq,Prod.mk.injEq] at H
        obtain ⟨rfl,rfl,rfl⟩ := H
        go_enter Tryz.func47,Tryz.ntmps47
        go_wp2_with (first|((with_reducible refine gate_callee (f := 32) rfl ?_);refine goesL_ (some 17) rfl rfl Tryz.func32 (by kernel_rfl) rfl #[.slice A0 l0.length c0,.int .i64 a1] rfl (by (try simp only [List.map_toArray,List.map_cons,List.map_nil]);first|done|rfl|(simp only [List.length_drop,List.length_take];rfl)) ?_;(with_reducible refine (varint_Get.calls k _ _ l0 a1 t271 t272 t273 _ ?side1 ?side2 A4.out).mono ?_);(case side1 => exact cM HR0.out);(case side2 => exact HC0.out);rintro e w' ⟨rfl,⟨nd,rfl⟩⟩;refine ⟨_,rfl,?_⟩;obtain ⟨i039,hi039,_,hsz39,_⟩ := info_parts info5;obtain ⟨A39,hcut39,hA39,hC39⟩ := print_mid_of (P := Tryz.prog) (Value.int .u8) 0 31 5 .i64 .i64 Tryz.underlying31 hi039 hsz39 A0 c0 l0 a1 (ji13) (of_decide_eq_true (by assumption)) (by first|omega|exact of_decide_eq_true (by assumption)) (of_decide_eq_true (by assumption)) HC0.out;have HR274 := aK (Kd.C_of_reads (h1 := fun _ => rfl) (hA39 _ (Kd.reads_of_C HR0.out)));have HC274 := aK hC39;clear hA39 hC39 hi039 hsz39)|((with_reducible refine gate_callee (f := 62) rfl ?_);refine goesL_ (some 51) rfl rfl Tryz.func62 (by kernel_rfl) rfl #[.slice A39 ((l0.take ((ji13) : Int).toNat).drop (a1 : Int).toNat).length (c0 - a1.toNat)] rfl (by (try simp only [List.map_toArray,List.map_cons,List.map_nil]);first|done|(rw [show ((l0.take ((ji13) : Int).toNat).drop (a1 : Int).toNat).length = ((ji13).toNat - a1.toNat) from (by rw [List.length_drop,List.length_take];have h_ : ((ji13) : Int) ≤ (l0.length : Int) := of_decide_eq_true (by assumption);omega)] <;> rfl)|(simp only [hji13];rfl)|rfl|(simp only [List.length_drop,List.length_take];rfl)) ?_;(with_reducible refine (checksum_Sum.calls _ _ ((l0.take ((ji13) : Int).toNat).drop (a1 : Int).toNat) t275 _ ?side1 ?side2 A12.out).mono ?_);(case side1 => exact cM HR274.out);(case side2 => exact HC274.out);rintro e w40 ⟨rfl,hb⟩;refine ⟨_,rfl,?_⟩;replace HB := aK (below_step (bM HB.out) hb);(try clear hb);have p276 : 0 ≤ ((ji13) : Int) := of_decide_eq_true (by assumption);have q276 : (ji13) < (l0.length : Int) := of_decide_eq_true (by assumption);obtain ⟨ad276,e276,hx276_0⟩ := Kd.at_int HR0.out (ji13) p276 q276;cases e276;replace hx276_0 := xM HB hx276_0;replace p276 := eq_true p276;replace q276 := eq_true q276;have p277 : 0 ≤ ((ji17) : Int) := of_decide_eq_true (by assumption);have q277 : (ji17) < (l0.length : Int) := of_decide_eq_true (by assumption);obtain ⟨ad277,e277,hx277_0⟩ := Kd.at_int HR0.out (ji17) p277 q277;obtain rfl : ad276 = ad277 := (by injection e277);replace hx277_0 := xM HB hx277_0;replace p277 := eq_true p277;replace q277 := eq_true q277;have p278 : 0 ≤ ((ji21) : Int) := of_decide_eq_true (by assumption);have q278 : (ji21) < (l0.length : Int) := of_decide_eq_true (by assumption);obtain ⟨ad278,e278,hx278_0⟩ := Kd.at_int HR0.out (ji21) p278 q278;obtain rfl : ad276 = ad278 := (by injection e278);replace hx278_0 := xM HB hx278_0;replace p278 := eq_true p278;replace q278 := eq_true q278))
        go_ret3
        exact ⟨_,by first|rfl|(simp [errW_none,errW_some] <;> rfl)|(simp only [← hji13,← hji17,← hji21];first|rfl|(simp [errW_none,errW_some] <;> rfl))|(simp [*,errW_none,errW_some] <;> rfl),by first|exact Kd.R_nil _ _ _ _ _|exact Kd.N_nil _ _ _ _ _|exact Kd.V_nil _ _ _ _ _|exact Kd.Q_nil _ _ _ _ _|exact Kd.S_nil _ _ _ _ _,bM HB.out⟩
      ·rw [if_neg c20] at H
       have c20b0 := beq_eq_false_iff_ne.mpr c20
       have c20b1 := bne_iff_ne.mpr c20
       simp only [Option.some.injEq,Prod.mk.injEq] at H
       obtain ⟨rfl,rfl,rfl⟩ := H
       go_enter Tryz.func47,Tryz.ntmps47
       go_wp2_with (first|((with_reducible refine gate_callee (f := 32) rfl ?_);refine goesL_ (some 17) rfl rfl Tryz.func32 (by kernel_rfl) rfl #[.slice A0 l0.length c0,.int .i64 a1] rfl (by (try simp only [List.map_toArray,List.map_cons,List.map_nil]);first|done|rfl|(simp only [List.length_drop,List.length_take];rfl)) ?_;(with_reducible refine (varint_Get.calls k _ _ l0 a1 t271 t272 t273 _ ?side1 ?side2 A4.out).mono ?_);(case side1 => exact cM HR0.out);(case side2 => exact HC0.out);rintro e w' ⟨rfl,⟨nd,rfl⟩⟩;refine ⟨_,rfl,?_⟩;obtain ⟨i041,hi041,_,hsz41,_⟩ := info_parts info5;obtain ⟨A41,hcut41,hA41,hC41⟩ := print_mid_of (P := Tryz.prog) (Value.int .u8) 0 31 5 .i64 .i64 Tryz.underlying31 hi041 hsz41 A0 c0 l0 a1 (ji13) (of_decide_eq_true (by assumption)) (by first|omega|exact of_decide_eq_true (by assumption)) (of_decide_eq_true (by assumption)) HC0.out;have HR274 := aK (Kd.C_of_reads (h1 := fun _ => rfl) (hA41 _ (Kd.reads_of_C HR0.out)));have HC274 := aK hC41;clear hA41 hC41 hi041 hsz41)|((with_reducible refine gate_callee (f := 62) rfl ?_);refine goesL_ (some 51) rfl rfl Tryz.func62 (by kernel_rfl) rfl #[.slice A41 ((l0.take ((ji13) : Int).toNat).drop (a1 : Int).toNat).length (c0 - a1.toNat)] rfl (by (try simp only [List.map_toArray,List.map_cons,List.map_nil]);first|done|(rw [show ((l0.take ((ji13) : Int).toNat).drop (a1 : Int).toNat).length = ((ji13).toNat - a1.toNat) from (by rw [List.length_drop,List.length_take];have h_ : ((ji13) : Int) ≤ (l0.length : Int) := of_decide_eq_true (by assumption);omega)] <;> rfl)|(simp only [hji13];rfl)|rfl|(simp only [List.length_drop,List.length_take];rfl)) ?_;(with_reducible refine (checksum_Sum.calls _ _ ((l0.take ((ji13) : Int).toNat).drop (a1 : Int).toNat) t275 _ ?side1 ?side2 A12.out).mono ?_);(case side1 => exact cM HR274.out);(case side2 => exact HC274.out);rintro e w42 ⟨rfl,hb⟩;refine ⟨_,rfl,?_⟩;replace HB := aK (below_step (bM HB.out) hb);(try clear hb);have p276 : 0 ≤ ((ji13) : Int) := of_decide_eq_true (by assumption);have q276 : (ji13) < (l0.length : Int) := of_decide_eq_true (by assumption);obtain ⟨ad276,e276,hx276_0⟩ := Kd.at_int HR0.out (ji13) p276 q276;cases e276;replace hx276_0 := xM HB hx276_0;replace p276 := eq_true p276;replace q276 := eq_true q276;have p277 : 0 ≤ ((ji17) : Int) := of_decide_eq_true (by assumption);have q277 : (ji17) < (l0.length : Int) := of_decide_eq_true (by assumption);obtain ⟨ad277,e277,hx277_0⟩ := Kd.at_int HR0.out (ji17) p277 q277;obtain rfl : ad276 = ad277 := (by injection e277);replace hx277_0 := xM HB hx277_0;replace p277 := eq_true p277;replace q277 := eq_true q277))
       go_ret3
       exact ⟨_,by first|rfl|(simp [errW_none,errW_some] <;> rfl)|(simp only [← hji13,← hji17];first|rfl|(simp [errW_none,errW_some] <;> rfl))|(simp [*,errW_none,errW_some] <;> rfl),by first|exact Kd.R_nil _ _ _ _ _|exact Kd.N_nil _ _ _ _ _|exact Kd.V_nil _ _ _ _ _|exact Kd.Q_nil _ _ _ _ _|exact Kd.S_nil _ _ _ _ _,bM HB.out⟩
     ·rw [if_neg c16] at H
      have c16b0 := beq_eq_false_iff_ne.mpr c16
      have c16b1 := bne_iff_ne.mpr c16
      simp only [Option.some.injEq,Prod.mk.injEq] at H
      obtain ⟨rfl,rfl,rfl⟩ := H
      go_enter Tryz.func47,Tryz.ntmps47
      go_wp2_with (first|((with_reducible refine gate_callee (f := 32) rfl ?_);refine goesL_ (some 17) rfl rfl Tryz.func32 (by kernel_rfl) rfl #[.slice A0 l0.length c0,.int .i64 a1] rfl (by (try simp only [List.map_toArray,List.map_cons,List.map_nil]);first|done|rfl|(simp only [List.length_drop,List.length_take];rfl)) ?_;(with_reducible refine (varint_Get.calls k _ _ l0 a1 t271 t272 t273 _ ?side1 ?side2 A4.out).mono ?_);(case side1 => exact cM HR0.out);(case side2 => exact HC0.out);rintro e w' ⟨rfl,⟨nd,rfl⟩⟩;refine ⟨_,rfl,?_⟩;obtain ⟨i043,hi043,_,hsz43,_⟩ := info_parts info5;obtain ⟨A43,hcut43,hA43,hC43⟩ := print_mid_of (P := Tryz.prog) (Value.int .u8) 0 31 5 .i64 .i64 Tryz.underlying31 hi043 hsz43 A0 c0 l0 a1 (ji13) (of_decide_eq_true (by assumption)) (by first|omega|exact of_decide_eq_true (by assumption)) (of_decide_eq_true (by assumption)) HC0.out;have HR274 := aK (Kd.C_of_reads (h1 := fun _ => rfl) (hA43 _ (Kd.reads_of_C HR0.out)));have HC274 := aK hC43;clear hA43 hC43 hi043 hsz43)|((with_reducible refine gate_callee (f := 62) rfl ?_);refine goesL_ (some 51) rfl rfl Tryz.func62 (by kernel_rfl) rfl #[.slice A43 ((l0.take ((ji13) : Int).toNat).drop (a1 : Int).toNat).length (c0 - a1.toNat)] rfl (by (try simp only [List.map_toArray,List.map_cons,List.map_nil]);first|done|(rw [show ((l0.take ((ji13) : Int).toNat).drop (a1 : Int).toNat).length = ((ji13).toNat - a1.toNat) from (by rw [List.length_drop,List.length_take];have h_ : ((ji13) : Int) ≤ (l0.length : Int) := of_decide_eq_true (by assumption);omega)] <;> rfl)|(simp only [hji13];rfl)|rfl|(simp only [List.length_drop,List.length_take];rfl)) ?_;(with_reducible refine (checksum_Sum.calls _ _ ((l0.take ((ji13) : Int).toNat).drop (a1 : Int).toNat) t275 _ ?side1 ?side2 A12.out).mono ?_);(case side1 => exact cM HR274.out);(case side2 => exact HC274.out);rintro e w44 ⟨rfl,hb⟩;refine ⟨_,rfl,?_⟩;replace HB := aK (below_step (bM HB.out) hb);(try clear hb);have p276 : 0 ≤ ((ji13) : Int) := of_decide_eq_true (by assumption);have q276 : (ji13) < (l0.length : Int) := of_decide_eq_true (by assumption);obtain ⟨ad276,e276,hx276_0⟩ := Kd.at_int HR0.out (ji13) p276 q276;cases e276;replace hx276_0 := xM HB hx276_0;replace p276 := eq_true p276;replace q276 := eq_true q276))
      go_ret3
      exact ⟨_,by first|rfl|(simp [errW_none,errW_some] <;> rfl)|(simp only [← hji13];first|rfl|(simp [errW_none,errW_some] <;> rfl))|(simp [*,errW_none,errW_some] <;> rfl),by first|exact Kd.R_nil _ _ _ _ _|exact Kd.N_nil _ _ _ _ _|exact Kd.V_nil _ _ _ _ _|exact Kd.Q_nil _ _ _ _ _|exact Kd.S_nil _ _ _ _ _,bM HB.out⟩
 ·rw [if_neg c5] at H
  have c5b0 := beq_eq_false_iff_ne.mpr c5
  have c5b1 := bne_iff_ne.mpr c5
  simp only [Option.some.injEq,Prod.mk.injEq] at H
  obtain ⟨rfl,rfl,rfl⟩ := H
  go_enter Tryz.func47,Tryz.ntmps47
  go_wp2_with (first|((with_reducible refine gate_callee (f := 32) rfl ?_);refine goesL_ (some 17) rfl rfl Tryz.func32 (by kernel_rfl) rfl #[.slice A0 l0.length c0,.int .i64 a1] rfl (by (try simp only [List.map_toArray,List.map_cons,List.map_nil]);first|done|rfl|(simp only [List.length_drop,List.length_take];rfl)) ?_;(with_reducible refine (varint_Get.calls k _ _ l0 a1 t271 t272 t273 _ ?side1 ?side2 A4.out).mono ?_);(case side1 => exact cM HR0.out);(case side2 => exact HC0.out);rintro e w' ⟨rfl,⟨nd,rfl⟩⟩;refine ⟨_,rfl,?_⟩))
  go_ret3
  exact ⟨_,by first|rfl|(simp [errW_none,errW_some] <;> rfl)|(simp [*,errW_none,errW_some] <;> rfl),by first|exact Kd.R_nil _ _ _ _ _|exact Kd.N_nil _ _ _ _ _|exact Kd.V_nil _ _ _ _ _|exact Kd.Q_nil _ _ _ _ _|exact Kd.S_nil _ _ _ _ _,bM HB.out⟩

/-! ### manifest_Recover: function 15 -/
def manifest_Recover.l0 : Nat → List Int → List (S30) → Int → Option ((List (S30)) × Int)
|0,_,_,_ => none
|k + 1,x0,x4,x5 => (checksum_Open.f k x0 x5 9223372036854775807).bind fun bt284 => (if bt284.2.2 = 0 then ((manifest_Decode.f k bt284.1).bind fun bt289 => (if bt289.2.2.2.2.2.2 = 0 then (if bt289.1 = (wrap64 ((x4.length : Int) + 1)) then (if x4.length < 1466015503701 then (manifest_Recover.l0 k x0 (x4 ++ [(⟨bt289.1,bt289.2.1,bt289.2.2.1,bt289.2.2.2.1,bt289.2.2.2.2.1,bt289.2.2.2.2.2.1⟩ : S30)]) bt284.2.1) else (none)) else (some (x4,x5))) else (some (x4,x5)))) else (some (x4,x5)))
def manifest_Recover.f (k : Nat) (l0 : List Int) : Option ((List (S30)) × Int) := manifest_Recover.l0 k l0 ([] : List (S30)) 0
theorem manifest_Recover.mono_l : ∀ k, (∀ y0 y1 y2, LeO (manifest_Recover.l0 k y0 y1 y2) (manifest_Recover.l0 (k + 1) y0 y1 y2))
|0 => fun _ _ _ r h => by simp [manifest_Recover.l0] at h
|k + 1 => by
  have ih0 := manifest_Recover.mono_l k
  ·intro y0 y1 y2
   unfold manifest_Recover.l0
   repeat' (with_reducible first|exact ih0 _ _ _|exact checksum_Open.mono _ _ _ _|exact manifest_Decode.mono _ _|exact LeO.refl _|exact LeO.none _|refine LeO.ite ?_ ?_|refine LeO.bind ?_ (fun _ => ?_))
theorem manifest_Recover.mono : ∀ a0 k, LeO (manifest_Recover.f k a0) (manifest_Recover.f (k + 1) a0) := by
 intro a0 k
 have ih0 := manifest_Recover.mono_l k
 unfold manifest_Recover.f
 repeat' first
  |(with_reducible exact ih0 _ _ _)
  |(with_reducible exact checksum_Open.mono _ _ _ _)
  |(with_reducible exact manifest_Decode.mono _ _)
  |(with_reducible exact LeO.refl _)
  |(with_reducible exact LeO.none _)
  |(with_reducible refine LeO.ite ?_ ?_)
  |(with_reducible refine LeO.bind ?_ (fun _ => ?_))
  |exact ih0 _ _ _
  |exact checksum_Open.mono _ _ _ _
  |exact manifest_Decode.mono _ _
  |exact LeO.none _
  |refine LeO.ite ?_ ?_
  |refine LeO.bind ?_ (fun _ => ?_)
set_option maxHeartbeats 4000000 in
set_option maxRecDepth 100000 in
theorem manifest_Recover.calls (k : Nat) (A0 : Option Addr) (c0 : Nat) (l0 : List Int) (r1 : List (S30)) (r2 : Int) (w : World) (hr0 : Kd.C (Kd.int .u8) w A0 l0.length l0) (hc0 : l0.length ≤ c0) (h : manifest_Recover.f k l0 = some (r1, r2)) :
  Calls Tryz.prog 15 #[.slice A0 l0.length c0] w fun e w' => ∃ v0_ : Value,e = .returned (.tuple #[v0_,.int .i64 r2]) ∧ Kd.S k30 30 w' w.heap.size (fun _ => True) v0_ r1 ∧ Below w.heap.size w w' := by
 have hu30 := Tryz.underlying30
 have HR0 := aK hr0
 have HC0 := aK hc0
 clear hr0 hc0
 have HB := aK (Below.refl w.heap.size w)
 have H : (manifest_Recover.l0 k l0 ([] : List (S30)) 0) = some (r1,r2) := h
 clear h
 have H' := aK H
 clear H
 go_enter Tryz.func15,Tryz.ntmps15
 go_wp2
 go_loopg [4,5] k (fun kq v4 v5 w' => ∃ (x4_1 : List (S30)) (x5_1 : Int),v5 = .int .i64 x5_1 ∧ Aside0 (manifest_Recover.l0 kq l0 x4_1 x5_1 = some (r1,r2)) ∧ Aside0 (kq ≤ k) ∧ Aside0 (Kd.S k30 30 w' w.heap.size (fun _ => True) v4 x4_1) ∧ Aside0 (Below w.heap.size w w'))
 case atStart => exact ⟨(([] : List (S30))),(0),(by first|rfl|(simp;done)|(simp [*];done)),H',⟨Nat.le_refl _⟩,⟨by first|exact Kd.S_nil _ _ _ _ _|exact Kd.N_nil _ _ _ _ _|exact Kd.V_nil _ _ _ _ _|exact Kd.Q_nil _ _ _ _ _|exact Kd.R_nil _ _ _ _ _⟩,⟨bM HB.out⟩⟩
 case round =>
  clear H'
  obtain ⟨x4_1,x5_1,rfl,HA,HK1,HO_4,HB⟩ := hrel
  cases gk with
 |zero => exact absurd HA.out (by simp [manifest_Recover.l0])
 |succ k1 =>
   have H := HA.out
   clear HA
   simp only [manifest_Recover.l0] at H
   replace H := Option.bind_eq_some_iff.mp H
   obtain ⟨⟨t284,t285,t286⟩,A20,H⟩ := H
   replace H : (if t286 = 0 then ((manifest_Decode.f k1 t284).bind fun bt289 => (if bt289.2.2.2.2.2.2 = 0 then (if bt289.1 = (wrap64 ((x4_1.length : Int) + 1)) then (if x4_1.length < 1466015503701 then (manifest_Recover.l0 k1 l0 (x4_1 ++ [(⟨bt289.1,bt289.2.1,bt289.2.2.1,bt289.2.2.2.1,bt289.2.2.2.2.1,bt289.2.2.2.2.2.1⟩ : S30)]) t285) else (none)) else (some (x4_1,x5_1))) else (some (x4_1,x5_1)))) else (some (x4_1,x5_1))) = some (r1,r2) := H
   have A2 := aK A20
   clear A20
   by_cases c3 : t286 = 0
   ·rw [if_pos c3] at H
    have c3b0 := beq_iff_eq.mpr c3
    have c3b1 := bne_eq_false_iff_eq.mpr c3
    clear c3
    replace H := Option.bind_eq_some_iff.mp H
    obtain ⟨⟨t289,t290,t291,t292,t295,t298,t301⟩,A40,H⟩ := H
    replace H : (if t301 = 0 then (if t289 = (wrap64 ((x4_1.length : Int) + 1)) then (if x4_1.length < 1466015503701 then (manifest_Recover.l0 k1 l0 (x4_1 ++ [(⟨t289,t290,t291,t292,t295,t298⟩ : S30)]) t285) else (none)) else (some (x4_1,x5_1))) else (some (x4_1,x5_1))) = some (r1,r2) := H
    have A4 := aK A40
    clear A40
    by_cases c5 : t301 = 0
    ·rw [if_pos c5] at H
     have c5b0 := beq_iff_eq.mpr c5
     have c5b1 := bne_eq_false_iff_eq.mpr c5
     clear c5
     by_cases c6 : t289 = (wrap64 ((x4_1.length : Int) + 1))
     ·rw [if_pos c6] at H
      have c6b0 := beq_iff_eq.mpr c6
      have c6b1 := bne_eq_false_iff_eq.mpr c6
      clear c6
      obtain ⟨c7,H⟩ := iS H
      have LMc7 := aK c7
      clear c7
      obtain ⟨y303,hy303⟩ : ∃ y_ : List (S30),y_ = (x4_1 ++ [(⟨t289,t290,t291,t292,t295,t298⟩ : S30)]) := ⟨_,rfl⟩
      replace H : (manifest_Recover.l0 k1 l0 y303 t285) = some (r1,r2) := by first|(rw [hy303];with_reducible exact H)|(have H2_ := (Option.bind_some _ _).symm.trans H;rw [hy303];with_reducible exact H2_)|(have H2_ := (Option.bind_some _ _).symm.trans H;with_reducible exact H2_)|with_reducible exact H|(rw [hy303];exact H)|exact H
      have Ny303 := aK hy303
      clear hy303
      have H' := aK H
      clear H
      go_wp2_with (first|((with_reducible refine gate_callee (f := 47) rfl ?_);refine goesL_ (some 13) rfl rfl Tryz.func47 (by kernel_rfl) rfl #[.slice A0 l0.length c0,.int .i64 x5_1,.int .i64 9223372036854775807] rfl (by (try simp only [List.map_toArray,List.map_cons,List.map_nil]);first|done|rfl|(simp only [List.length_drop,List.length_take];rfl)) ?_;(with_reducible refine (checksum_Open.calls k1 _ _ l0 x5_1 9223372036854775807 t284 t285 t286 _ ?side1 ?side2 A2.out).mono ?_);(case side1 => exact cM (Kd.C_below HR0.out HB.out));(case side2 => exact HC0.out);rintro e w8 ⟨v287,rfl,ho0,hb⟩;refine ⟨_,rfl,?_⟩;replace HO_4 := aK (Kd.S_below (by (with_reducible repeat (first|apply Kd.S_alloc|apply Kd.S_drewN|apply Kd.S_drew));exact HO_4.out) hb);have HO288 := aK (Kd.R_lower ho0 (below_size (bM HB.out)));replace HB := aK (below_step (bM HB.out) hb);(try clear hb);(try clear hk);(try clear ho0);obtain ⟨Ao9,co9,eo9⟩ := Kd.R_slice HO288.out;subst eo9)|((with_reducible refine gate_callee (f := 10) rfl ?_);refine goesL_ (some 23) rfl rfl Tryz.func10 (by kernel_rfl) rfl #[.slice Ao9 t284.length co9] rfl (by (try simp only [List.map_toArray,List.map_cons,List.map_nil]);first|done|rfl|(simp only [List.length_drop,List.length_take];rfl)) ?_;(with_reducible refine (manifest_Decode.calls k1 _ _ t284 t289 t290 t291 t292 t295 t298 t301 _ ?side1 ?side2 A4.out).mono ?_);(case side1 => exact cM (Kd.R_reads' HO288.out).2.2);(case side2 => exact (Kd.R_reads' HO288.out).2.1);rintro e w10 ⟨v293,v296,v299,rfl,ho0,ho1,ho2,hb⟩;refine ⟨_,rfl,?_⟩;replace HO_4 := aK (Kd.S_mono (Kd.S_told (Kd.S_told (Kd.S_told (Kd.S_old (by (with_reducible repeat (first|apply Kd.S_alloc|apply Kd.S_drewN|apply Kd.S_drew));exact HO_4.out) hb) (Kd.R_base ho0)) (Kd.R_base ho1)) (Kd.R_base ho2)) (fun _ h_ => h_.1));replace HO288 := aK (Kd.R_below (rM HO288.out) hb);have HO294 := aK (Kd.R_lower ho0 (below_size (bM HB.out)));have HO297 := aK (Kd.R_lower ho1 (below_size (bM HB.out)));have HO300 := aK (Kd.R_lower ho2 (below_size (bM HB.out)));replace HB := aK (below_step (bM HB.out) hb);(try clear hb);(try clear hk);(try clear ho0);(try clear ho1);(try clear ho2))|((with_reducible refine gate_dst (N := 9) rfl ?_);(try (refine gate_guard (by rfl) ?_;dsimp only));refine box_event ?hg (N := 9) ?hd (cs := #[.int .i64 0,.int .i64 0,.int .i64 0,.slice none 0 0,.slice none 0 0,.slice none 0 0]) (t := 30) ?hr ?_;(case hd => rfl);(case hg => rfl);(case hr => first|(go_simp;done)|(go_simp;rfl));intro gb302 hg w11 hbox hb;replace HO_4 := aK (Kd.S_below (Kd.S_elderB (by (with_reducible repeat (first|apply Kd.S_alloc|apply Kd.S_drewN|apply Kd.S_drew));exact HO_4.out) gb302 (Nat.le_of_eq hg.symm)) hb);replace HO288 := aK (Kd.R_below (rM HO288.out) hb);replace HO294 := aK (Kd.R_below (rM HO294.out) hb);replace HO297 := aK (Kd.R_below (rM HO297.out) hb);replace HO300 := aK (Kd.R_below (rM HO300.out) hb);have BK302 := aK (hbox);have GW302 := aK ((by rw [hg];exact (below_size (bM HB.out)) : w.heap.size ≤ gb302));have GJ302 := Ge.mk GW302.out;have GE302 := aK ((by rw [hg];exact (below_size (bM HB.out)) : w.heap.size ≤ gb302));have GI302 := Ge.mk GE302.out;replace HB := aK (below_step (bM HB.out) hb);clear hb hbox hg;obtain ⟨_,_,_,_,_,_,_,_,_,_,_,_⟩ := bk6_ BK302.out;obtain ⟨Ao13,co13,eo13⟩ := Kd.R_slice HO294.out;subst eo13;obtain ⟨Ao14,co14,eo14⟩ := Kd.R_slice HO297.out;subst eo14;obtain ⟨Ao15,co15,eo15⟩ := Kd.R_slice HO300.out;subst eo15)|((with_reducible refine gate_store (t := 30) (p := 9) rfl ?_);refine store_event (t := 30) (p := 9) (v := ?vo_w16) (w1 := ((((((w11.setCell ⟨gb302,0,none⟩ (.int .i64 t289)).setCell ⟨gb302,1,none⟩ (.int .i64 t290)).setCell ⟨gb302,2,none⟩ (.int .i64 t291)).setCell ⟨gb302,3,none⟩ (.slice Ao13 t292.length co13)).setCell ⟨gb302,4,none⟩ (.slice Ao14 t295.length co14)).setCell ⟨gb302,5,none⟩ (.slice Ao15 t298.length co15))) ?hg ?ho ?hn ?hr ?_;(case ho => rfl);(case hg => rfl);(case hn => rfl);(case hr => first|(go_simp;done)|(go_simp;rfl));intro w16 hw;have n0_ : Aside0 (Kd.S k30 30 w16 w.heap.size (fun k_ => some k_ ≠ (.slice Ao13 t292.length co13 : Value).ownBlock ∧ some k_ ≠ (.slice Ao14 t295.length co14 : Value).ownBlock ∧ some k_ ≠ (.slice Ao15 t298.length co15 : Value).ownBlock ∧ k_ ≠ gb302) u4 x4_1) := ⟨(by rw [hw];exact (by (with_reducible repeat (first|apply Kd.S_alloc|apply Kd.S_drewN|apply Kd.S_drew));exact Kd.S_mono (Kd.S_far (p := ⟨gb302,5,none⟩) (Kd.S_far (p := ⟨gb302,4,none⟩) (Kd.S_far (p := ⟨gb302,3,none⟩) (Kd.S_far (p := ⟨gb302,2,none⟩) (Kd.S_far (p := ⟨gb302,1,none⟩) (Kd.S_far (p := ⟨gb302,0,none⟩) (Kd.S_mono HO_4.out (fun k_ hk => (⟨hk,hk.2⟩ : _ ∧ k_ ≠ gb302))) (fun _ hk => hk.2) (.int .i64 t289)) (fun _ hk => hk.2) (.int .i64 t290)) (fun _ hk => hk.2) (.int .i64 t291)) (fun _ hk => hk.2) (.slice Ao13 t292.length co13)) (fun _ hk => hk.2) (.slice Ao14 t295.length co14)) (fun _ hk => hk.2) (.slice Ao15 t298.length co15)) (fun _ hk => ⟨hk.1.1.1.1.2,⟨hk.1.1.1.2,⟨hk.1.1.2,hk.1.2⟩⟩⟩)))⟩;have n1_ : Aside0 (Kd.R (Kd.int .u8) 5 w16 w.heap.size (fun _ => True) (.slice Ao9 t284.length co9) t284) := ⟨(by rw [hw];exact (by (with_reducible repeat (first|apply Kd.R_alloc|apply Kd.R_drewN|apply Kd.R_drew));exact Kd.R_mono (Kd.R_far (p := ⟨gb302,5,none⟩) (Kd.R_far (p := ⟨gb302,4,none⟩) (Kd.R_far (p := ⟨gb302,3,none⟩) (Kd.R_far (p := ⟨gb302,2,none⟩) (Kd.R_far (p := ⟨gb302,1,none⟩) (Kd.R_far (p := ⟨gb302,0,none⟩) (Kd.R_types HO288.out BK302.out (by decide)) (fun _ hk => hk.2) (.int .i64 t289)) (fun _ hk => hk.2) (.int .i64 t290)) (fun _ hk => hk.2) (.int .i64 t291)) (fun _ hk => hk.2) (.slice Ao13 t292.length co13)) (fun _ hk => hk.2) (.slice Ao14 t295.length co14)) (fun _ hk => hk.2) (.slice Ao15 t298.length co15)) (fun _ hk => trivial)))⟩;have n2_ : Aside0 (Kd.R (Kd.int .i64) 3 w16 w.heap.size (fun k_ => some k_ ≠ (.slice Ao14 t295.length co14 : Value).ownBlock) (.slice Ao13 t292.length co13) t292) := ⟨(by rw [hw];exact (by (with_reducible repeat (first|apply Kd.R_alloc|apply Kd.R_drewN|apply Kd.R_drew));exact Kd.R_mono (Kd.R_far (p := ⟨gb302,5,none⟩) (Kd.R_far (p := ⟨gb302,4,none⟩) (Kd.R_far (p := ⟨gb302,3,none⟩) (Kd.R_far (p := ⟨gb302,2,none⟩) (Kd.R_far (p := ⟨gb302,1,none⟩) (Kd.R_far (p := ⟨gb302,0,none⟩) (Kd.R_types HO294.out BK302.out (by decide)) (fun _ hk => hk.2) (.int .i64 t289)) (fun _ hk => hk.2) (.int .i64 t290)) (fun _ hk => hk.2) (.int .i64 t291)) (fun _ hk => hk.2) (.slice Ao13 t292.length co13)) (fun _ hk => hk.2) (.slice Ao14 t295.length co14)) (fun _ hk => hk.2) (.slice Ao15 t298.length co15)) (fun _ hk => hk.1)))⟩;have n3_ : Aside0 (Kd.R (Kd.int .i64) 3 w16 w.heap.size (fun k_ => some k_ ≠ (.slice Ao13 t292.length co13 : Value).ownBlock) (.slice Ao14 t295.length co14) t295) := ⟨(by rw [hw];exact (by (with_reducible repeat (first|apply Kd.R_alloc|apply Kd.R_drewN|apply Kd.R_drew));exact Kd.R_mono (Kd.R_far (p := ⟨gb302,5,none⟩) (Kd.R_far (p := ⟨gb302,4,none⟩) (Kd.R_far (p := ⟨gb302,3,none⟩) (Kd.R_far (p := ⟨gb302,2,none⟩) (Kd.R_far (p := ⟨gb302,1,none⟩) (Kd.R_far (p := ⟨gb302,0,none⟩) (Kd.R_types HO297.out BK302.out (by decide)) (fun _ hk => hk.2) (.int .i64 t289)) (fun _ hk => hk.2) (.int .i64 t290)) (fun _ hk => hk.2) (.int .i64 t291)) (fun _ hk => hk.2) (.slice Ao13 t292.length co13)) (fun _ hk => hk.2) (.slice Ao14 t295.length co14)) (fun _ hk => hk.2) (.slice Ao15 t298.length co15)) (fun _ hk => hk.1)))⟩;have n4_ : Aside0 (Kd.R Kd.string 9 w16 w.heap.size (fun _ => True) (.slice Ao15 t298.length co15) t298) := ⟨(by rw [hw];exact (by (with_reducible repeat (first|apply Kd.R_alloc|apply Kd.R_drewN|apply Kd.R_drew));exact Kd.R_mono (Kd.R_far (p := ⟨gb302,5,none⟩) (Kd.R_far (p := ⟨gb302,4,none⟩) (Kd.R_far (p := ⟨gb302,3,none⟩) (Kd.R_far (p := ⟨gb302,2,none⟩) (Kd.R_far (p := ⟨gb302,1,none⟩) (Kd.R_far (p := ⟨gb302,0,none⟩) (Kd.R_types HO300.out BK302.out (by decide)) (fun _ hk => hk.2) (.int .i64 t289)) (fun _ hk => hk.2) (.int .i64 t290)) (fun _ hk => hk.2) (.int .i64 t291)) (fun _ hk => hk.2) (.slice Ao13 t292.length co13)) (fun _ hk => hk.2) (.slice Ao14 t295.length co14)) (fun _ hk => hk.2) (.slice Ao15 t298.length co15)) (fun _ hk => trivial)))⟩;have n5_ : Aside0 (w16.heap[gb302]? = some (.cells #[.int .i64 t289,.int .i64 t290,.int .i64 t291,.slice Ao13 t292.length co13,.slice Ao14 t295.length co14,.slice Ao15 t298.length co15] 30 (0,0))) := ⟨(by rw [hw];exact (by (with_reducible repeat (first|refine blk_drewN ?_ _|refine blk_drew ?_|refine blk_alloc ?_ _));refine blk_put (cs := #[.int .i64 t289,.int .i64 t290,.int .i64 t291,.slice Ao13 t292.length co13,.slice Ao14 t295.length co14,.slice none 0 0]) ?_ 5 _ rfl;(with_reducible repeat (first|refine blk_drewN ?_ _|refine blk_drew ?_|refine blk_alloc ?_ _));refine blk_put (cs := #[.int .i64 t289,.int .i64 t290,.int .i64 t291,.slice Ao13 t292.length co13,.slice none 0 0,.slice none 0 0]) ?_ 4 _ rfl;(with_reducible repeat (first|refine blk_drewN ?_ _|refine blk_drew ?_|refine blk_alloc ?_ _));refine blk_put (cs := #[.int .i64 t289,.int .i64 t290,.int .i64 t291,.slice none 0 0,.slice none 0 0,.slice none 0 0]) ?_ 3 _ rfl;(with_reducible repeat (first|refine blk_drewN ?_ _|refine blk_drew ?_|refine blk_alloc ?_ _));refine blk_put (cs := #[.int .i64 t289,.int .i64 t290,.int .i64 0,.slice none 0 0,.slice none 0 0,.slice none 0 0]) ?_ 2 _ rfl;(with_reducible repeat (first|refine blk_drewN ?_ _|refine blk_drew ?_|refine blk_alloc ?_ _));refine blk_put (cs := #[.int .i64 t289,.int .i64 0,.int .i64 0,.slice none 0 0,.slice none 0 0,.slice none 0 0]) ?_ 1 _ rfl;(with_reducible repeat (first|refine blk_drewN ?_ _|refine blk_drew ?_|refine blk_alloc ?_ _));refine blk_put (cs := #[.int .i64 0,.int .i64 0,.int .i64 0,.slice none 0 0,.slice none 0 0,.slice none 0 0]) ?_ 0 _ rfl;(with_reducible repeat (first|refine blk_drewN ?_ _|refine blk_drew ?_|refine blk_alloc ?_ _));exact BK302.out))⟩;have n6_ : Aside0 (Below w.heap.size w w16) := ⟨(by rw [hw];exact (bG HB.out))⟩;clear hw;clear HO_4;clear HO288;clear HO294;clear HO297;clear HO300;clear BK302;clear HB;have HO_4 := n0_;have HO288 := n1_;have HO294 := n2_;have HO297 := n3_;have HO300 := n4_;have BK302 := n5_;have HB := n6_;clear n0_ n1_ n2_ n3_ n4_ n5_ n6_;obtain ⟨_,_,_,_,_,_,_,_,_,_,_,_⟩ := bk6_ BK302.out;obtain ⟨Ao18,co18,eo18⟩ := Kd.S_slice HO_4.out;subst eo18)|((with_reducible refine gate_builtin (b := .append) (xs := #[.tmp 38,.tmp 40]) rfl ?_);(try (refine gate_guard (by rfl) ?_;dsimp only));at_builtin;refine Kd.S_append k30 (w0 := w) w.heap.size rfl (.tmp 38) (.tmp 40) 22 30 (.agg #[(.int .i64 0),(.int .i64 0),(.int .i64 0),(.slice none 0 0),(.slice none 0 0),(.slice none 0 0)]) 96 rfl Tryz.underlying22 info30 rfl (by decide) (by omega) (.slice Ao18 x4_1.length co18) x4_1 (⟨t289,t290,t291,t292,t295,t298⟩ : S30) [.int .i64 t289,.int .i64 t290,.int .i64 t291,.slice Ao13 t292.length co13,.slice Ao14 t295.length co14,.slice Ao15 t298.length co15] (fun k_ => k_ ≠ gb302) (fun k_ => some k_ = (.slice Ao13 t292.length co13 : Value).ownBlock ∨ some k_ = (.slice Ao14 t295.length co14 : Value).ownBlock ∨ some k_ = (.slice Ao15 t298.length co15 : Value).ownBlock) rfl rfl ?aP (fun k_ hk_ => hk_.elim (fun h_ => ((Kd.R_mono (ok' := fun k_ => ((fun k_ => k_ ≠ gb302)) k_ ∧ some k_ ≠ (.slice Ao18 x4_1.length co18 : Value).ownBlock) (Kd.R_types (Kd.R_apart' (HO294.out) (Kd.S_typed HO_4.out) (by decide)) BK302.out (by decide)) (fun k_ hk => ⟨hk.2,hk.1.2⟩))).1 k_ h_.symm) (fun h_ => h_.elim (fun h_ => ((Kd.R_mono (ok' := fun k_ => ((fun k_ => k_ ≠ gb302)) k_ ∧ some k_ ≠ (.slice Ao18 x4_1.length co18 : Value).ownBlock) (Kd.R_types (Kd.R_apart' (HO297.out) (Kd.S_typed HO_4.out) (by decide)) BK302.out (by decide)) (fun k_ hk => ⟨hk.2,hk.1.2⟩))).1 k_ h_.symm) (fun h_ => ((Kd.R_mono (ok' := fun k_ => ((fun k_ => k_ ≠ gb302)) k_ ∧ some k_ ≠ (.slice Ao18 x4_1.length co18 : Value).ownBlock) (Kd.R_types (Kd.R_apart' (HO300.out) (Kd.S_typed HO_4.out) (by decide)) BK302.out (by decide)) (fun k_ hk => ⟨hk.2,hk.1.2⟩))).1 k_ h_.symm))) ?aF ?aO ?aB ?aS ?aL ?_;(case aP => exact k30_mkM _ _ _ (⟨t289,t290,t291,t292,t295,t298⟩ : S30) (Kd.R_mono (Kd.R_tight rfl (Kd.R_mono (ok' := fun k_ => ((fun k_ => k_ ≠ gb302)) k_ ∧ some k_ ≠ (.slice Ao18 x4_1.length co18 : Value).ownBlock) (Kd.R_types (Kd.R_apart' (HO294.out) (Kd.S_typed HO_4.out) (by decide)) BK302.out (by decide)) (fun k_ hk => ⟨hk.2,hk.1.2⟩))) (fun _ h_ => Or.inl h_)) (Kd.R_mono (Kd.R_tight rfl (Kd.R_mono (ok' := fun k_ => ((fun k_ => k_ ≠ gb302)) k_ ∧ some k_ ≠ (.slice Ao18 x4_1.length co18 : Value).ownBlock) (Kd.R_types (Kd.R_apart' (HO297.out) (Kd.S_typed HO_4.out) (by decide)) BK302.out (by decide)) (fun k_ hk => ⟨hk.2,hk.1.2⟩))) (fun _ h_ => Or.inr (Or.inl h_))) (Kd.R_mono (Kd.R_tight rfl (Kd.R_mono (ok' := fun k_ => ((fun k_ => k_ ≠ gb302)) k_ ∧ some k_ ≠ (.slice Ao18 x4_1.length co18 : Value).ownBlock) (Kd.R_types (Kd.R_apart' (HO300.out) (Kd.S_typed HO_4.out) (by decide)) BK302.out (by decide)) (fun k_ hk => ⟨hk.2,hk.1.2⟩))) (fun _ h_ => Or.inr (Or.inr (h_)))));(case aB => exact (bG HB.out));(case aF => exact (fun k_ hk => Kd.freshB (g := gb302) (o := .cells #[.int .i64 t289,.int .i64 t290,.int .i64 t291,.slice Ao13 t292.length co13,.slice Ao14 t295.length co14,.slice Ao15 t298.length co15] 30 (0,0)) (kM BK302.out) k_ hk));(case aO => exact (by (with_reducible repeat (first|apply Kd.S_alloc|apply Kd.S_drewN|apply Kd.S_drew));exact Kd.S_mono HO_4.out (fun k_ hk => ⟨hk.2.2.2,fun e_ => e_.elim (fun h_ => hk.1 h_) (fun h_ => h_.elim (fun h_ => hk.2.1 h_) (fun h_ => hk.2.2.1 h_))⟩)));(case aS => exact (below_size (bG HB.out)));(case aL => have := LMc7.out;omega);intro v304 w19 ho hb hg hat;rw [← Ny303.out] at ho;replace HO288 := aK (Kd.R_over' (rM HO288.out) (Kd.S_typed (by (with_reducible repeat (first|apply Kd.S_alloc|apply Kd.S_drewN|apply Kd.S_drew));exact HO_4.out)) (by decide) hg);replace BK302 := aK (blk_grown (g := gb302) (o := .cells #[.int .i64 t289,.int .i64 t290,.int .i64 t291,.slice Ao13 t292.length co13,.slice Ao14 t295.length co14,.slice Ao15 t298.length co15] 30 (0,0)) (kM BK302.out) hg (Kd.S_away HO_4.out (fun _ hk => hk.2.2.2)));replace HB := aK (hb);have HO305 := aK (ho);clear ho hb hg hat))
      go_roundg k1
      case measure => have := HK1.out;omega
      case rel => exact ⟨(y303),(t285),(by first|rfl|(simp;done)|(simp [*];done)),H',⟨by have := HK1.out;omega⟩,⟨by (with_reducible repeat (first|apply Kd.S_alloc|apply Kd.S_drewN|apply Kd.S_drew));exact Kd.S_mono HO305.out (fun _ hk => trivial)⟩,⟨bG HB.out⟩⟩
     ·rw [if_neg c6] at H
      have c6b0 := beq_eq_false_iff_ne.mpr c6
      have c6b1 := bne_iff_ne.mpr c6
      simp only [Option.some.injEq,Prod.mk.injEq] at H
      obtain ⟨rfl,rfl⟩ := H
      go_wp2_with (first|((with_reducible refine gate_callee (f := 47) rfl ?_);refine goesL_ (some 13) rfl rfl Tryz.func47 (by kernel_rfl) rfl #[.slice A0 l0.length c0,.int .i64 x5_1,.int .i64 9223372036854775807] rfl (by (try simp only [List.map_toArray,List.map_cons,List.map_nil]);first|done|rfl|(simp only [List.length_drop,List.length_take];rfl)) ?_;(with_reducible refine (checksum_Open.calls k1 _ _ l0 x5_1 9223372036854775807 t284 t285 t286 _ ?side1 ?side2 A2.out).mono ?_);(case side1 => exact cM (Kd.C_below HR0.out HB.out));(case side2 => exact HC0.out);rintro e w20 ⟨v287,rfl,ho0,hb⟩;refine ⟨_,rfl,?_⟩;replace HO_4 := aK (Kd.S_below (by (with_reducible repeat (first|apply Kd.S_alloc|apply Kd.S_drewN|apply Kd.S_drew));exact HO_4.out) hb);have HO288 := aK (Kd.R_lower ho0 (below_size (bM HB.out)));replace HB := aK (below_step (bM HB.out) hb);(try clear hb);(try clear hk);(try clear ho0);obtain ⟨Ao21,co21,eo21⟩ := Kd.R_slice HO288.out;subst eo21)|((with_reducible refine gate_callee (f := 10) rfl ?_);refine goesL_ (some 23) rfl rfl Tryz.func10 (by kernel_rfl) rfl #[.slice Ao21 t284.length co21] rfl (by (try simp only [List.map_toArray,List.map_cons,List.map_nil]);first|done|rfl|(simp only [List.length_drop,List.length_take];rfl)) ?_;(with_reducible refine (manifest_Decode.calls k1 _ _ t284 t289 t290 t291 t292 t295 t298 t301 _ ?side1 ?side2 A4.out).mono ?_);(case side1 => exact cM (Kd.R_reads' HO288.out).2.2);(case side2 => exact (Kd.R_reads' HO288.out).2.1);rintro e w22 ⟨v293,v296,v299,rfl,ho0,ho1,ho2,hb⟩;refine ⟨_,rfl,?_⟩;replace HO_4 := aK (Kd.S_mono (Kd.S_told (Kd.S_told (Kd.S_told (Kd.S_old (by (with_reducible repeat (first|apply Kd.S_alloc|apply Kd.S_drewN|apply Kd.S_drew));exact HO_4.out) hb) (Kd.R_base ho0)) (Kd.R_base ho1)) (Kd.R_base ho2)) (fun _ h_ => h_.1));replace HO288 := aK (Kd.R_below (rM HO288.out) hb);have HO294 := aK (Kd.R_lower ho0 (below_size (bM HB.out)));have HO297 := aK (Kd.R_lower ho1 (below_size (bM HB.out)));have HO300 := aK (Kd.R_lower ho2 (below_size (bM HB.out)));replace HB := aK (below_step (bM HB.out) hb);(try clear hb);(try clear hk);(try clear ho0);(try clear ho1);(try clear ho2))|((with_reducible refine gate_dst (N := 9) rfl ?_);(try (refine gate_guard (by rfl) ?_;dsimp only));refine box_event ?hg (N := 9) ?hd (cs := #[.int .i64 0,.int .i64 0,.int .i64 0,.slice none 0 0,.slice none 0 0,.slice none 0 0]) (t := 30) ?hr ?_;(case hd => rfl);(case hg => rfl);(case hr => first|(go_simp;done)|(go_simp;rfl));intro gb302 hg w23 hbox hb;replace HO_4 := aK (Kd.S_below (Kd.S_elderB (by (with_reducible repeat (first|apply Kd.S_alloc|apply Kd.S_drewN|apply Kd.S_drew));exact HO_4.out) gb302 (Nat.le_of_eq hg.symm)) hb);replace HO288 := aK (Kd.R_below (rM HO288.out) hb);replace HO294 := aK (Kd.R_below (rM HO294.out) hb);replace HO297 := aK (Kd.R_below (rM HO297.out) hb);replace HO300 := aK (Kd.R_below (rM HO300.out) hb);have BK302 := aK (hbox);have GW302 := aK ((by rw [hg];exact (below_size (bM HB.out)) : w.heap.size ≤ gb302));have GJ302 := Ge.mk GW302.out;have GE302 := aK ((by rw [hg];exact (below_size (bM HB.out)) : w.heap.size ≤ gb302));have GI302 := Ge.mk GE302.out;replace HB := aK (below_step (bM HB.out) hb);clear hb hbox hg;obtain ⟨_,_,_,_,_,_,_,_,_,_,_,_⟩ := bk6_ BK302.out;obtain ⟨Ao25,co25,eo25⟩ := Kd.R_slice HO294.out;subst eo25;obtain ⟨Ao26,co26,eo26⟩ := Kd.R_slice HO297.out;subst eo26;obtain ⟨Ao27,co27,eo27⟩ := Kd.R_slice HO300.out;subst eo27;obtain ⟨Ao28,co28,eo28⟩ := Kd.S_slice HO_4.out;subst eo28))
      go_ret2
      exact ⟨_,by first|rfl|(simp [errW_none,errW_some] <;> rfl)|(simp [*,errW_none,errW_some] <;> rfl),by (with_reducible repeat (first|apply Kd.S_alloc|apply Kd.S_drewN|apply Kd.S_drew));exact Kd.S_mono (Kd.S_far (p := ⟨gb302,5,none⟩) (Kd.S_far (p := ⟨gb302,4,none⟩) (Kd.S_far (p := ⟨gb302,3,none⟩) (Kd.S_far (p := ⟨gb302,2,none⟩) (Kd.S_far (p := ⟨gb302,1,none⟩) (Kd.S_far (p := ⟨gb302,0,none⟩) (Kd.S_mono HO_4.out (fun k_ hk => (⟨hk,hk.2⟩ : _ ∧ k_ ≠ gb302))) (fun _ hk => hk.2) (.int .i64 t289)) (fun _ hk => hk.2) (.int .i64 t290)) (fun _ hk => hk.2) (.int .i64 t291)) (fun _ hk => hk.2) (.slice Ao25 t292.length co25)) (fun _ hk => hk.2) (.slice Ao26 t295.length co26)) (fun _ hk => hk.2) (.slice Ao27 t298.length co27)) (fun _ hk => trivial),bG HB.out⟩
    ·rw [if_neg c5] at H
     have c5b0 := beq_eq_false_iff_ne.mpr c5
     have c5b1 := bne_iff_ne.mpr c5
     simp only [Option.some.injEq,Prod.mk.injEq] at H
     obtain ⟨rfl,rfl⟩ := H
     go_wp2_with (first|((with_reducible refine gate_callee (f := 47) rfl ?_);refine goesL_ (some 13) rfl rfl Tryz.func47 (by kernel_rfl) rfl #[.slice A0 l0.length c0,.int .i64 x5_1,.int .i64 9223372036854775807] rfl (by (try simp only [List.map_toArray,List.map_cons,List.map_nil]);first|done|rfl|(simp only [List.length_drop,List.length_take];rfl)) ?_;(with_reducible refine (checksum_Open.calls k1 _ _ l0 x5_1 9223372036854775807 t284 t285 t286 _ ?side1 ?side2 A2.out).mono ?_);(case side1 => exact cM (Kd.C_below HR0.out HB.out));(case side2 => exact HC0.out);rintro e w29 ⟨v287,rfl,ho0,hb⟩;refine ⟨_,rfl,?_⟩;replace HO_4 := aK (Kd.S_below (by (with_reducible repeat (first|apply Kd.S_alloc|apply Kd.S_drewN|apply Kd.S_drew));exact HO_4.out) hb);have HO288 := aK (Kd.R_lower ho0 (below_size (bM HB.out)));replace HB := aK (below_step (bM HB.out) hb);(try clear hb);(try clear hk);(try clear ho0);obtain ⟨Ao30,co30,eo30⟩ := Kd.R_slice HO288.out;subst eo30)|((with_reducible refine gate_callee (f := 10) rfl ?_);refine goesL_ (some 23) rfl rfl Tryz.func10 (by kernel_rfl) rfl #[.slice Ao30 t284.length co30] rfl (by (try simp only [List.map_toArray,List.map_cons,List.map_nil]);first|done|rfl|(simp only [List.length_drop,List.length_take];rfl)) ?_;(with_reducible refine (manifest_Decode.calls k1 _ _ t284 t289 t290 t291 t292 t295 t298 t301 _ ?side1 ?side2 A4.out).mono ?_);(case side1 => exact cM (Kd.R_reads' HO288.out).2.2);(case side2 => exact (Kd.R_reads' HO288.out).2.1);rintro e w31 ⟨v293,v296,v299,rfl,ho0,ho1,ho2,hb⟩;refine ⟨_,rfl,?_⟩;replace HO_4 := aK (Kd.S_mono (Kd.S_told (Kd.S_told (Kd.S_told (Kd.S_old (by (with_reducible repeat (first|apply Kd.S_alloc|apply Kd.S_drewN|apply Kd.S_drew));exact HO_4.out) hb) (Kd.R_base ho0)) (Kd.R_base ho1)) (Kd.R_base ho2)) (fun _ h_ => h_.1));have HO294 := aK (Kd.R_lower ho0 (below_size (bM HB.out)));have HO297 := aK (Kd.R_lower ho1 (below_size (bM HB.out)));have HO300 := aK (Kd.R_lower ho2 (below_size (bM HB.out)));replace HB := aK (below_step (bM HB.out) hb);(try clear hb);(try clear hk);(try clear ho0);(try clear ho1);(try clear ho2))|((with_reducible refine gate_dst (N := 9) rfl ?_);(try (refine gate_guard (by rfl) ?_;dsimp only));refine box_event ?hg (N := 9) ?hd (cs := #[.int .i64 0,.int .i64 0,.int .i64 0,.slice none 0 0,.slice none 0 0,.slice none 0 0]) (t := 30) ?hr ?_;(case hd => rfl);(case hg => rfl);(case hr => first|(go_simp;done)|(go_simp;rfl));intro gb302 hg w32 hbox hb;replace HO_4 := aK (Kd.S_below (Kd.S_elderB (by (with_reducible repeat (first|apply Kd.S_alloc|apply Kd.S_drewN|apply Kd.S_drew));exact HO_4.out) gb302 (Nat.le_of_eq hg.symm)) hb);replace HO294 := aK (Kd.R_below (rM HO294.out) hb);replace HO297 := aK (Kd.R_below (rM HO297.out) hb);replace HO300 := aK (Kd.R_below (rM HO300.out) hb);have BK302 := aK (hbox);have GW302 := aK ((by rw [hg];exact (below_size (bM HB.out)) : w.heap.size ≤ gb302));have GJ302 := Ge.mk GW302.out;have GE302 := aK ((by rw [hg];exact (below_size (bM HB.out)) : w.heap.size ≤ gb302));have GI302 := Ge.mk GE302.out;replace HB := aK (below_step (bM HB.out) hb);clear hb hbox hg;obtain ⟨_,_,_,_,_,_,_,_,_,_,_,_⟩ := bk6_ BK302.out;obtain ⟨Ao34,co34,eo34⟩ := Kd.R_slice HO294.out;subst eo34;obtain ⟨Ao35,co35,eo35⟩ := Kd.R_slice HO297.out;subst eo35;obtain ⟨Ao36,co36,eo36⟩ := Kd.R_slice HO300.out;subst eo36))
     go_ret2
     exact ⟨_,by first|rfl|(simp [errW_none,errW_some] <;> rfl)|(simp [*,errW_none,errW_some] <;> rfl),by (with_reducible repeat (first|apply Kd.S_alloc|apply Kd.S_drewN|apply Kd.S_drew));exact Kd.S_mono (Kd.S_far (p := ⟨gb302,5,none⟩) (Kd.S_far (p := ⟨gb302,4,none⟩) (Kd.S_far (p := ⟨gb302,3,none⟩) (Kd.S_far (p := ⟨gb302,2,none⟩) (Kd.S_far (p := ⟨gb302,1,none⟩) (Kd.S_far (p := ⟨gb302,0,none⟩) (Kd.S_mono HO_4.out (fun k_ hk => (⟨hk,hk.2⟩ : _ ∧ k_ ≠ gb302))) (fun _ hk => hk.2) (.int .i64 t289)) (fun _ hk => hk.2) (.int .i64 t290)) (fun _ hk => hk.2) (.int .i64 t291)) (fun _ hk => hk.2) (.slice Ao34 t292.length co34)) (fun _ hk => hk.2) (.slice Ao35 t295.length co35)) (fun _ hk => hk.2) (.slice Ao36 t298.length co36)) (fun _ hk => trivial),bG HB.out⟩
   ·rw [if_neg c3] at H
    have c3b0 := beq_eq_false_iff_ne.mpr c3
    have c3b1 := bne_iff_ne.mpr c3
    simp only [Option.some.injEq,Prod.mk.injEq] at H
    obtain ⟨rfl,rfl⟩ := H
    go_wp2_with (first|((with_reducible refine gate_callee (f := 47) rfl ?_);refine goesL_ (some 13) rfl rfl Tryz.func47 (by kernel_rfl) rfl #[.slice A0 l0.length c0,.int .i64 x5_1,.int .i64 9223372036854775807] rfl (by (try simp only [List.map_toArray,List.map_cons,List.map_nil]);first|done|rfl|(simp only [List.length_drop,List.length_take];rfl)) ?_;(with_reducible refine (checksum_Open.calls k1 _ _ l0 x5_1 9223372036854775807 t284 t285 t286 _ ?side1 ?side2 A2.out).mono ?_);(case side1 => exact cM (Kd.C_below HR0.out HB.out));(case side2 => exact HC0.out);rintro e w37 ⟨v287,rfl,ho0,hb⟩;refine ⟨_,rfl,?_⟩;replace HO_4 := aK (Kd.S_below (by (with_reducible repeat (first|apply Kd.S_alloc|apply Kd.S_drewN|apply Kd.S_drew));exact HO_4.out) hb);replace HB := aK (below_step (bM HB.out) hb);(try clear hb);(try clear hk);(try clear ho0)))
    go_ret2
    exact ⟨_,by first|rfl|(simp [errW_none,errW_some] <;> rfl)|(simp [*,errW_none,errW_some] <;> rfl),by (with_reducible repeat (first|apply Kd.S_alloc|apply Kd.S_drewN|apply Kd.S_drew));exact HO_4.out,bM HB.out⟩

/-! ### checksum_Seal: function 49 -/
def checksum_Seal.f (l0 : List Int) : Option (List Int) := (varint_Put.f ([] : List Int) (l0.length : Int)).bind fun t306 => (if t306.length + l0.length < 140737488355328 then ((some (t306 ++ l0 : List Int)).bind fun y309 => ((checksum_Sum.f y309).bind fun t312 => ((some (([(t312 / 16777216) % 256, (t312 / 65536) % 256, (t312 / 256) % 256, (t312) % 256] : List Int) : List Int)).bind fun y313 => (if y309.length + y313.length < 140737488355328 then (some (y309 ++ y313)) else (none))))) else (none))
set_option maxHeartbeats 4000000 in
set_option maxRecDepth 100000 in
theorem checksum_Seal.calls (A0 : Option Addr) (c0 : Nat) (l0 : List Int) (r : List Int) (w : World) (hr0 : Kd.C (Kd.int .u8) w A0 l0.length l0) (hc0 : l0.length ≤ c0) (h : checksum_Seal.f l0 = some r) :
  Calls Tryz.prog 49 #[.slice A0 l0.length c0] w fun e w' => ∃ v0_ : Value,e = .returned (v0_) ∧ Kd.R (Kd.int .u8) 5 w' w.heap.size (fun _ => True) v0_ r ∧ Below w.heap.size w w' := by
 have HR0 := aK hr0
 have HC0 := aK hc0
 clear hr0 hc0
 have HB := aK (Below.refl w.heap.size w)
 unfold checksum_Seal.f at h
 have H := h
 clear h
 replace H := Option.bind_eq_some_iff.mp H
 obtain ⟨t306,A20,H⟩ := H
 have A2 := aK A20
 clear A20
 by_cases c3 : t306.length + l0.length < 140737488355328
 ·rw [if_pos c3] at H
  have LMc3 := aK c3
  clear c3
  obtain ⟨y309,hy309⟩ : ∃ y_ : List Int,y_ = (t306 ++ l0) := ⟨_,rfl⟩
  replace H : ((checksum_Sum.f y309).bind fun t312 => ((some (([(t312 / 16777216) % 256,(t312 / 65536) % 256,(t312 / 256) % 256,(t312) % 256] : List Int) : List Int)).bind fun y313 => (if y309.length + y313.length < 140737488355328 then (some (y309 ++ y313)) else (none)))) = some r := by first|(rw [hy309];with_reducible exact H)|(have H2_ := (Option.bind_some _ _).symm.trans H;rw [hy309];with_reducible exact H2_)|(have H2_ := (Option.bind_some _ _).symm.trans H;with_reducible exact H2_)|with_reducible exact H|(rw [hy309];exact H)|exact H
  have Ny309 := aK hy309
  clear hy309
  replace H := Option.bind_eq_some_iff.mp H
  obtain ⟨t312,A40,H⟩ := H
  have A4 := aK A40
  clear A40
  obtain ⟨y313,hy313⟩ : ∃ y_ : List Int,y_ = (([(t312 / 16777216) % 256,(t312 / 65536) % 256,(t312 / 256) % 256,(t312) % 256] : List Int)) := ⟨_,rfl⟩
  replace H : (if y309.length + y313.length < 140737488355328 then (some (y309 ++ y313)) else (none)) = some r := by first|(rw [hy313];with_reducible exact H)|(have H2_ := (Option.bind_some _ _).symm.trans H;rw [hy313];with_reducible exact H2_)|(have H2_ := (Option.bind_some _ _).symm.trans H;with_reducible exact H2_)|with_reducible exact H|(rw [hy313];exact H)|exact H
  have Ny313 := aK hy313
  clear hy313
  obtain ⟨c5,H⟩ := iS H
  have LMc5 := aK c5
  clear c5
  obtain ⟨y316,hy316⟩ : ∃ y_ : List Int,y_ = (y309 ++ y313) := ⟨_,rfl⟩
  replace H : (some y316) = some r := by first|(rw [hy316];with_reducible exact H)|(have H2_ := (Option.bind_some _ _).symm.trans H;rw [hy316];with_reducible exact H2_)|(have H2_ := (Option.bind_some _ _).symm.trans H;with_reducible exact H2_)|with_reducible exact H|(rw [hy316];exact H)|exact H
  have Ny316 := aK hy316
  clear hy316
  obtain rfl := Option.some.inj H
  go_enter Tryz.func49,Tryz.ntmps49
  go_wp2_with (first|(go_at_call 41;refine calls_of_args (args' := #[.slice none ([] : List Int).length 0,.int .i64 (l0.length : Int)]) (by first|with_reducible rfl|(simp only [List.length_nil];done)|(simp only [List.length_nil];with_reducible rfl)) ?_;(with_reducible refine (varint_Put.calls _ _ ([] : List Int) (l0.length : Int) t306 _ ?side1 ?side2 A2.out).mono ?_);(case side1 => exact Kd.C_nil _ _);(case side2 => exact Nat.le_refl _);rintro e w6 ⟨v307,rfl,ho0,hb⟩;have HO308 := aK (Kd.R_lower ho0 (below_size (bM HB.out)));replace HB := aK (below_step (bM HB.out) hb);(try clear hb);(try clear hk);(try clear ho0))|((with_reducible refine gate_builtin (b := .append) (xs := #[.tmp 7,.tmp 8]) rfl ?_);at_builtin;refine Kd.R_append_rows (Kd.int .u8) (w0 := w) w.heap.size rfl (.tmp 7) (.tmp 8) 31 5 (.int .u8 0) 1 rfl Tryz.underlying31 info5 rfl (by decide) (by omega) v307 t306 l0 _ _ _ (fun _ => True) (fun _ => False) rfl rfl ?aO ?aR (fun _ _ h => h) (fun _ h => h.elim) ?aF ?aB ?aS ?aL ?_;(case aR => exact cM (Kd.C_below HR0.out HB.out));(case aB => exact (bM HB.out));(case aF => exact (fun _ _ => trivial));(case aO => exact (rM HO308.out));(case aS => exact (below_size (bM HB.out)));(case aL => have := LMc3.out;omega);intro v310 w7 ho hb hg hat;rw [← Ny309.out] at ho;replace HB := aK (hb);have HO311 := aK (ho);clear ho hb hg hat;obtain ⟨Ao8,co8,eo8⟩ := Kd.R_slice HO311.out;subst eo8)|((with_reducible refine gate_callee (f := 62) rfl ?_);refine goesL_ (some 11) rfl rfl Tryz.func62 (by kernel_rfl) rfl #[.slice Ao8 y309.length co8] rfl (by (try simp only [List.map_toArray,List.map_cons,List.map_nil]);first|done|rfl|(simp only [List.length_drop,List.length_take];rfl)) ?_;(with_reducible refine (checksum_Sum.calls _ _ y309 t312 _ ?side1 ?side2 A4.out).mono ?_);(case side1 => exact cM (Kd.R_reads' HO311.out).2.2);(case side2 => exact (Kd.R_reads' HO311.out).2.1);rintro e w9 ⟨rfl,hb⟩;refine ⟨_,rfl,?_⟩;replace HO311 := aK (Kd.R_below (rM HO311.out) hb);replace HB := aK (below_step (bM HB.out) hb);(try clear hb);(try clear hk))|((with_reducible refine gate_dst (N := 24) rfl ?_);refine Kd.R_lit (Kd.int .u8) _ 5 ?hg (N := 24) ?hd (xs := ([(t312 / 16777216) % 256,(t312 / 65536) % 256,(t312 / 256) % 256,(t312) % 256] : List Int)) (inner := [.int .u8 ((t312 / 16777216) % 256),.int .u8 ((t312 / 65536) % 256),.int .u8 ((t312 / 256) % 256),.int .u8 ((t312) % 256)]) (ok := fun _ => True) (okp := fun _ => True) ?hr ?hp (fun _ hk => hk) trivial (Below.refl _ _) (Nat.le_refl _) (by simp) ?_;(case hd => rfl);(case hg => rfl);(case hr => first|(go_simp;done)|(go_simp;rfl));(case hp => exact (Reps.one (show Kd.M (Kd.int .u8) _ _ _ ((t312 / 16777216) % 256) [.int .u8 ((t312 / 16777216) % 256)] from rfl) (Reps.one (show Kd.M (Kd.int .u8) _ _ _ ((t312 / 65536) % 256) [.int .u8 ((t312 / 65536) % 256)] from rfl) (Reps.one (show Kd.M (Kd.int .u8) _ _ _ ((t312 / 256) % 256) [.int .u8 ((t312 / 256) % 256)] from rfl) (Reps.one (show Kd.M (Kd.int .u8) _ _ _ ((t312) % 256) [.int .u8 ((t312) % 256)] from rfl) (Reps.none _ _))))));intro v314 w10 ho11 hb hg_ hnew_;clear hg_ hnew_;(first|rw [← Ny313.out] at ho11|(simp only [Int.reduceToNat] at ho11;rw [← Ny313.out] at ho11));have HO315 := aK (Kd.R_lower (Kd.R_new' ho11 (Kd.R_lt (rM HO311.out))) (below_size (bM HB.out)));replace HO311 := aK (Kd.R_elder' (rM HO311.out) (Kd.R_base ho11) hb);replace HB := aK (below_step (bM HB.out) hb);clear hb ho11;obtain ⟨Ao13,co13,eo13⟩ := Kd.R_slice HO315.out;subst eo13)|((with_reducible refine gate_builtin (b := .append) (xs := #[.tmp 12,.tmp 24]) rfl ?_);at_builtin;refine Kd.R_append_rows (Kd.int .u8) (w0 := w) w.heap.size rfl (.tmp 12) (.tmp 24) 31 5 (.int .u8 0) 1 rfl Tryz.underlying31 info5 rfl (by decide) (by omega) (.slice Ao8 y309.length co8) y309 y313 _ _ _ (fun k_ => some k_ ≠ (.slice Ao13 y313.length co13 : Value).ownBlock) (fun _ => False) rfl rfl ?aO ?aR (fun _ _ h => h) (fun _ h => h.elim) ?aF ?aB ?aS ?aL ?_;(case aR => exact cM (Kd.R_reads' HO315.out).2.2);(case aB => exact (bM HB.out));(case aF => exact (fun k_ hk => Kd.fresh' (Kd.R_lt (rM HO315.out)) k_ hk));(case aO => exact (by (with_reducible repeat (first|apply Kd.R_alloc|apply Kd.R_drewN|apply Kd.R_drew));exact Kd.R_mono HO311.out (fun _ hk => hk.2)));(case aS => exact (below_size (bM HB.out)));(case aL => have := LMc5.out;omega);intro v317 w12 ho hb hg hat;rw [← Ny316.out] at ho;replace HB := aK (hb);have HO318 := aK (ho);clear ho hb hg hat))
  go_ret
  exact ⟨_,by first|rfl|(simp [errW_none,errW_some] <;> rfl)|(simp [*,errW_none,errW_some] <;> rfl),rM (Kd.R_mono HO318.out (fun _ hk => trivial)),bM HB.out⟩
 ·rw [if_neg c3] at H
  exact absurd H (by simp)

/-! ### manifest_Write: function 17 -/
def manifest_Write.l0 : Nat → List Int → List (S30) → Int → Int → Option (List Int)
|0,_,_,_,_ => none
|k + 1,x3,x6,x7,x8 => if x8 < x7 then (if 0 ≤ x8 then (if x8 < (x6.length : Int) then ((manifest_Encode.f k ((rd_T30 x6 x8).f0) ((rd_T30 x6 x8).f1) ((rd_T30 x6 x8).f2) ((rd_T30 x6 x8).f3) ((rd_T30 x6 x8).f4) ((rd_T30 x6 x8).f5)).bind fun t321 => ((checksum_Seal.f t321).bind fun t324 => (if x3.length + t324.length < 140737488355328 then (manifest_Write.l0 k (x3 ++ t324) x6 x7 (wrap64 (x8 + 1))) else (none)))) else (none)) else (none)) else (some x3)
def manifest_Write.f (k : Nat) (l0 : List (S30)) : Option (List Int) := manifest_Write.l0 k ([] : List Int) l0 (l0.length : Int) 0
theorem manifest_Write.mono_l : ∀ k, (∀ y0 y1 y2 y3, LeO (manifest_Write.l0 k y0 y1 y2 y3) (manifest_Write.l0 (k + 1) y0 y1 y2 y3))
|0 => fun _ _ _ _ r h => by simp [manifest_Write.l0] at h
|k + 1 => by
  have ih0 := manifest_Write.mono_l k
  ·intro y0 y1 y2 y3
   unfold manifest_Write.l0
   repeat' (with_reducible first|exact ih0 _ _ _ _|exact manifest_Encode.mono _ _ _ _ _ _ _|exact LeO.refl _|exact LeO.none _|refine LeO.ite ?_ ?_|refine LeO.bind ?_ (fun _ => ?_))
theorem manifest_Write.mono : ∀ a0 k, LeO (manifest_Write.f k a0) (manifest_Write.f (k + 1) a0) := by
 intro a0 k
 have ih0 := manifest_Write.mono_l k
 unfold manifest_Write.f
 repeat' first
  |(with_reducible exact ih0 _ _ _ _)
  |(with_reducible exact manifest_Encode.mono _ _ _ _ _ _ _)
  |(with_reducible exact LeO.refl _)
  |(with_reducible exact LeO.none _)
  |(with_reducible refine LeO.ite ?_ ?_)
  |(with_reducible refine LeO.bind ?_ (fun _ => ?_))
  |exact ih0 _ _ _ _
  |exact manifest_Encode.mono _ _ _ _ _ _ _
  |exact LeO.none _
  |refine LeO.ite ?_ ?_
  |refine LeO.bind ?_ (fun _ => ?_)
set_option maxHeartbeats 4000000 in
set_option maxRecDepth 100000 in
theorem manifest_Write.calls (k : Nat) (A0 : Option Addr) (c0 : Nat) (l0 : List (S30)) (r : List Int) (w : World) (hr0 : Kd.C k30 w A0 l0.length l0) (hc0 : l0.length ≤ c0) (h : manifest_Write.f k l0 = some r) :
  Calls Tryz.prog 17 #[.slice A0 l0.length c0] w fun e w' => ∃ v0_ : Value,e = .returned (v0_) ∧ Kd.R (Kd.int .u8) 5 w' w.heap.size (fun _ => True) v0_ r ∧ Below w.heap.size w w' := by
 have hu30 := Tryz.underlying30
 have HR0 := aK hr0
 have HC0 := aK hc0
 clear hr0 hc0
 have HB := aK (Below.refl w.heap.size w)
 have H : (manifest_Write.l0 k ([] : List Int) l0 (l0.length : Int) 0) = some r := h
 clear h
 have H' := aK H
 clear H
 go_enter Tryz.func17,Tryz.ntmps17
 go_wp2
 go_loopg [3,8] k (fun kq v3 v8 w' => ∃ (x3_1 : List Int) (x8_1 : Int),v8 = .int .i64 x8_1 ∧ Aside0 (manifest_Write.l0 kq x3_1 l0 (l0.length : Int) x8_1 = some r) ∧ Aside0 (kq ≤ k) ∧ Aside0 (Kd.R (Kd.int .u8) 5 w' w.heap.size (fun _ => True) v3 x3_1) ∧ Aside0 (Below w.heap.size w w'))
 case atStart => exact ⟨(([] : List Int)),(0),(by first|rfl|(simp;done)|(simp [*];done)),H',⟨Nat.le_refl _⟩,⟨by first|exact Kd.R_nil _ _ _ _ _|exact Kd.N_nil _ _ _ _ _|exact Kd.V_nil _ _ _ _ _|exact Kd.Q_nil _ _ _ _ _|exact Kd.S_nil _ _ _ _ _⟩,⟨bM HB.out⟩⟩
 case round =>
  clear H'
  obtain ⟨x3_1,x8_1,rfl,HA,HK1,HO_3,HB⟩ := hrel
  cases gk with
 |zero => exact absurd HA.out (by simp [manifest_Write.l0])
 |succ k1 =>
   have H := HA.out
   clear HA
   simp only [manifest_Write.l0] at H
   by_cases c2 : x8_1 < (l0.length : Int)
   ·rw [if_pos c2] at H
    have c2b0 := decide_eq_true c2
    clear c2
    obtain ⟨c3,H⟩ := iS H
    have c3b0 := decide_eq_true c3
    clear c3
    obtain ⟨c4,H⟩ := iS H
    have c4b0 := decide_eq_true c4
    clear c4
    replace H := Option.bind_eq_some_iff.mp H
    obtain ⟨t321,A50,H⟩ := H
    have A5 := aK A50
    clear A50
    replace H := Option.bind_eq_some_iff.mp H
    obtain ⟨t324,A60,H⟩ := H
    have A6 := aK A60
    clear A60
    obtain ⟨c7,H⟩ := iS H
    have LMc7 := aK c7
    clear c7
    obtain ⟨y327,hy327⟩ : ∃ y_ : List Int,y_ = (x3_1 ++ t324) := ⟨_,rfl⟩
    replace H : (manifest_Write.l0 k1 y327 l0 (l0.length : Int) (wrap64 (x8_1 + 1))) = some r := by first|(rw [hy327];with_reducible exact H)|(have H2_ := (Option.bind_some _ _).symm.trans H;rw [hy327];with_reducible exact H2_)|(have H2_ := (Option.bind_some _ _).symm.trans H;with_reducible exact H2_)|with_reducible exact H|(rw [hy327];exact H)|exact H
    have Ny327 := aK hy327
    clear hy327
    have H' := aK H
    clear H
    have p319 : 0 ≤ (x8_1 : Int) := of_decide_eq_true (by assumption)
    have q319 : x8_1 < (l0.length : Int) := of_decide_eq_true (by assumption)
    obtain ⟨ad319,A319_3,c319_3,A319_4,c319_4,A319_5,c319_5,e319,hx319_0,hx319_1,hx319_2,hx319_3,hx319_4,hx319_5,hl319_3,hi319_3,hl319_4,hi319_4,hl319_5,hi319_5⟩ := at_T30 HR0.out x8_1 p319 q319
    cases e319
    replace hx319_0 := xM HB hx319_0
    replace hx319_1 := xM HB hx319_1
    replace hx319_2 := xM HB hx319_2
    replace hx319_3 := xM HB hx319_3
    replace hx319_4 := xM HB hx319_4
    replace hx319_5 := xM HB hx319_5
    have HR319_3 := aK hi319_3
    have HC319_3 := aK hl319_3
    clear hi319_3 hl319_3
    have HR319_4 := aK hi319_4
    have HC319_4 := aK hl319_4
    clear hi319_4 hl319_4
    have HR319_5 := aK hi319_5
    have HC319_5 := aK hl319_5
    clear hi319_5 hl319_5
    replace p319 := eq_true p319
    replace q319 := eq_true q319
    go_wp2_with (first|((with_reducible refine gate_dst (N := 5) rfl ?_);refine box_event ?hg (N := 5) ?hd (cs := #[.int .i64 0,.int .i64 0,.int .i64 0,.slice none 0 0,.slice none 0 0,.slice none 0 0]) (t := 30) ?hr ?_;(case hd => rfl);(case hg => rfl);(case hr => first|(go_simp;done)|(go_simp;rfl));intro gb320 hg w8 hbox hb;replace HO_3 := aK (Kd.R_below (rM HO_3.out) hb);have BK320 := aK (hbox);have GW320 := aK ((by rw [hg];exact (below_size (bM HB.out)) : w.heap.size ≤ gb320));have GJ320 := Ge.mk GW320.out;have GE320 := aK ((by rw [hg];exact (below_size (bM HB.out)) : w.heap.size ≤ gb320));have GI320 := Ge.mk GE320.out;replace HB := aK (below_step (bM HB.out) hb);clear hb hbox hg;obtain ⟨_,_,_,_,_,_,_,_,_,_,_,_⟩ := bk6_ BK320.out)|((with_reducible refine gate_callee (f := 12) rfl ?_);refine goesL_ (some 14) rfl rfl Tryz.func12 (by kernel_rfl) rfl #[.agg #[.int .i64 ((rd_T30 l0 x8_1).f0),.int .i64 ((rd_T30 l0 x8_1).f1),.int .i64 ((rd_T30 l0 x8_1).f2),.slice A319_3 ((rd_T30 l0 x8_1).f3).length c319_3,.slice A319_4 ((rd_T30 l0 x8_1).f4).length c319_4,.slice A319_5 ((rd_T30 l0 x8_1).f5).length c319_5]] rfl (by (try simp only [List.map_toArray,List.map_cons,List.map_nil]);first|done|rfl|(simp only [List.length_drop,List.length_take];rfl)) ?_;(with_reducible refine (manifest_Encode.calls k1 ((rd_T30 l0 x8_1).f0) ((rd_T30 l0 x8_1).f1) ((rd_T30 l0 x8_1).f2) _ _ ((rd_T30 l0 x8_1).f3) _ _ ((rd_T30 l0 x8_1).f4) _ _ ((rd_T30 l0 x8_1).f5) t321 _ ?side1 ?side2 ?side3 ?side4 ?side5 ?side6 A5.out).mono ?_);(case side1 => exact Kd.C_below HR319_3.out (bG HB.out));(case side2 => exact HC319_3.out);(case side3 => exact Kd.C_below HR319_4.out (bG HB.out));(case side4 => exact HC319_4.out);(case side5 => exact Kd.C_below HR319_5.out (bG HB.out));(case side6 => exact HC319_5.out);rintro e w10 ⟨v322,rfl,ho0,hb⟩;refine ⟨_,rfl,?_⟩;have HO323 := aK (Kd.R_lower (Kd.R_new' ho0 (Kd.R_lt (by (with_reducible repeat (first|apply Kd.R_alloc|apply Kd.R_drewN|apply Kd.R_drew));exact (Kd.R_mono (Kd.R_far (p := ⟨gb320,5,none⟩) (Kd.R_far (p := ⟨gb320,4,none⟩) (Kd.R_far (p := ⟨gb320,3,none⟩) (Kd.R_far (p := ⟨gb320,2,none⟩) (Kd.R_far (p := ⟨gb320,1,none⟩) (Kd.R_far (p := ⟨gb320,0,none⟩) (Kd.R_types HO_3.out BK320.out (by decide)) (fun _ hk => hk.2) (.int .i64 ((rd_T30 l0 x8_1).f0))) (fun _ hk => hk.2) (.int .i64 ((rd_T30 l0 x8_1).f1))) (fun _ hk => hk.2) (.int .i64 ((rd_T30 l0 x8_1).f2))) (fun _ hk => hk.2) (.slice A319_3 ((rd_T30 l0 x8_1).f3).length c319_3)) (fun _ hk => hk.2) (.slice A319_4 ((rd_T30 l0 x8_1).f4).length c319_4)) (fun _ hk => hk.2) (.slice A319_5 ((rd_T30 l0 x8_1).f5).length c319_5)) (fun _ h_ => h_.1))))) (below_size (bG HB.out)));replace HO_3 := aK (Kd.R_elder' (by (with_reducible repeat (first|apply Kd.R_alloc|apply Kd.R_drewN|apply Kd.R_drew));exact (Kd.R_mono (Kd.R_far (p := ⟨gb320,5,none⟩) (Kd.R_far (p := ⟨gb320,4,none⟩) (Kd.R_far (p := ⟨gb320,3,none⟩) (Kd.R_far (p := ⟨gb320,2,none⟩) (Kd.R_far (p := ⟨gb320,1,none⟩) (Kd.R_far (p := ⟨gb320,0,none⟩) (Kd.R_types HO_3.out BK320.out (by decide)) (fun _ hk => hk.2) (.int .i64 ((rd_T30 l0 x8_1).f0))) (fun _ hk => hk.2) (.int .i64 ((rd_T30 l0 x8_1).f1))) (fun _ hk => hk.2) (.int .i64 ((rd_T30 l0 x8_1).f2))) (fun _ hk => hk.2) (.slice A319_3 ((rd_T30 l0 x8_1).f3).length c319_3)) (fun _ hk => hk.2) (.slice A319_4 ((rd_T30 l0 x8_1).f4).length c319_4)) (fun _ hk => hk.2) (.slice A319_5 ((rd_T30 l0 x8_1).f5).length c319_5)) (fun _ h_ => h_.1))) (Kd.R_base ho0) hb);replace HB := aK (below_step (bG HB.out) hb);(try clear hb);(try clear hk);(try clear ho0);obtain ⟨Ao11,co11,eo11⟩ := Kd.R_slice HO323.out;subst eo11)|((with_reducible refine gate_callee (f := 49) rfl ?_);refine goesL_ (some 15) rfl rfl Tryz.func49 (by kernel_rfl) rfl #[.slice Ao11 t321.length co11] rfl (by (try simp only [List.map_toArray,List.map_cons,List.map_nil]);first|done|rfl|(simp only [List.length_drop,List.length_take];rfl)) ?_;(with_reducible refine (checksum_Seal.calls _ _ t321 t324 _ ?side1 ?side2 A6.out).mono ?_);(case side1 => exact cM (Kd.R_reads' HO323.out).2.2);(case side2 => exact (Kd.R_reads' HO323.out).2.1);rintro e w12 ⟨v325,rfl,ho0,hb⟩;refine ⟨_,rfl,?_⟩;have HO326 := aK (Kd.R_lower (Kd.R_new' (Kd.R_new' ho0 (Kd.R_lt (rM HO_3.out))) (Kd.R_lt (rM HO323.out))) (below_size (bG HB.out)));replace HO_3 := aK (Kd.R_elder' (rM HO_3.out) (Kd.R_base ho0) hb);replace HO323 := aK (Kd.R_elder' (rM HO323.out) (Kd.R_base ho0) hb);replace HB := aK (below_step (bG HB.out) hb);(try clear hb);(try clear hk);(try clear ho0);obtain ⟨Ao14,co14,eo14⟩ := Kd.R_slice HO326.out;subst eo14)|((with_reducible refine gate_builtin (b := .append) (xs := #[.tmp 12,.tmp 15]) rfl ?_);at_builtin;refine Kd.R_append_rows (Kd.int .u8) (w0 := w) w.heap.size rfl (.tmp 12) (.tmp 15) 31 5 (.int .u8 0) 1 rfl Tryz.underlying31 info5 rfl (by decide) (by omega) u3 x3_1 t324 _ _ _ (fun k_ => some k_ ≠ (.slice Ao11 t321.length co11 : Value).ownBlock ∧ some k_ ≠ (.slice Ao14 t324.length co14 : Value).ownBlock) (fun _ => False) rfl rfl ?aO ?aR (fun _ _ h => h) (fun _ h => h.elim) ?aF ?aB ?aS ?aL ?_;(case aR => exact cM (Kd.R_reads' HO326.out).2.2);(case aB => exact (bG HB.out));(case aF => exact (fun k_ hk => ⟨Kd.fresh' (Kd.R_lt (rM HO323.out)) k_ hk,Kd.fresh' (Kd.R_lt (rM HO326.out)) k_ hk⟩));(case aO => exact (by (with_reducible repeat (first|apply Kd.R_alloc|apply Kd.R_drewN|apply Kd.R_drew));exact Kd.R_mono HO_3.out (fun _ hk => ⟨hk.1.2,hk.2⟩)));(case aS => exact (below_size (bG HB.out)));(case aL => have := LMc7.out;omega);intro v328 w13 ho hb hg hat;rw [← Ny327.out] at ho;replace HB := aK (hb);have HO329 := aK (ho);clear ho hb hg hat))
    go_roundg k1
    case measure => have := HK1.out;omega
    case rel => exact ⟨(y327),(wrap64 (x8_1 + 1)),(by first|rfl|(simp;done)|(simp [*];done)),H',⟨by have := HK1.out;omega⟩,⟨rM (Kd.R_mono HO329.out (fun _ hk => trivial))⟩,⟨bG HB.out⟩⟩
   ·rw [if_neg c2] at H
    have c2b0 := decide_eq_false c2
    clear c2
    obtain rfl := Option.some.inj H
    go_wp2
    go_ret
    exact ⟨_,by first|rfl|(simp [errW_none,errW_some] <;> rfl)|(simp [*,errW_none,errW_some] <;> rfl),rM HO_3.out,bM HB.out⟩

/-! ### codesearchref33_SameInts: function 21 -/
def codesearchref33_SameInts.l0 : Nat → List Int → List Int → Int → Option (Bool)
|0,_,_,_ => none
|k + 1,x0,x1,x5 => if x5 < (x0.length : Int) then (if 0 ≤ x5 then (if x5 < (x1.length : Int) then (if (rd x0 x5) = (rd x1 x5) then (codesearchref33_SameInts.l0 k x0 x1 (wrap64 (x5 + 1))) else (some false)) else (none)) else (none)) else (some true)
def codesearchref33_SameInts.f (k : Nat) (l0 : List Int) (l1 : List Int) : Option (Bool) := if (l0.length : Int) = (l1.length : Int) then (codesearchref33_SameInts.l0 k l0 l1 0) else (some false)
theorem codesearchref33_SameInts.mono_l : ∀ k, (∀ y0 y1 y2, LeO (codesearchref33_SameInts.l0 k y0 y1 y2) (codesearchref33_SameInts.l0 (k + 1) y0 y1 y2))
|0 => fun _ _ _ r h => by simp [codesearchref33_SameInts.l0] at h
|k + 1 => by
  have ih0 := codesearchref33_SameInts.mono_l k
  ·intro y0 y1 y2
   unfold codesearchref33_SameInts.l0
   repeat' (with_reducible first|exact ih0 _ _ _|exact LeO.refl _|exact LeO.none _|refine LeO.ite ?_ ?_|refine LeO.bind ?_ (fun _ => ?_))
theorem codesearchref33_SameInts.mono : ∀ a0 a1 k, LeO (codesearchref33_SameInts.f k a0 a1) (codesearchref33_SameInts.f (k + 1) a0 a1) := by
 intro a0 a1 k
 have ih0 := codesearchref33_SameInts.mono_l k
 unfold codesearchref33_SameInts.f
 repeat' first
  |(with_reducible exact ih0 _ _ _)
  |(with_reducible exact LeO.refl _)
  |(with_reducible exact LeO.none _)
  |(with_reducible refine LeO.ite ?_ ?_)
  |(with_reducible refine LeO.bind ?_ (fun _ => ?_))
  |exact ih0 _ _ _
  |exact LeO.none _
  |refine LeO.ite ?_ ?_
  |refine LeO.bind ?_ (fun _ => ?_)
set_option maxHeartbeats 4000000 in
set_option maxRecDepth 100000 in
theorem codesearchref33_SameInts.calls (k : Nat) (A0 : Option Addr) (c0 : Nat) (l0 : List Int) (A1 : Option Addr) (c1 : Nat) (l1 : List Int) (r : Bool) (w : World) (hr0 : Kd.C (Kd.int .i64) w A0 l0.length l0) (hc0 : l0.length ≤ c0) (hr1 : Kd.C (Kd.int .i64) w A1 l1.length l1) (hc1 : l1.length ≤ c1) (h : codesearchref33_SameInts.f k l0 l1 = some r) :
  Calls Tryz.prog 21 #[.slice A0 l0.length c0,.slice A1 l1.length c1] w fun e w' => e = .returned (.bool r) ∧ Drawn0 w w' := by
 have HR0 := aK hr0
 have HC0 := aK hc0
 clear hr0 hc0
 have HR1 := aK hr1
 have HC1 := aK hc1
 clear hr1 hc1
 have H : (if (l0.length : Int) = (l1.length : Int) then (codesearchref33_SameInts.l0 k l0 l1 0) else (some false)) = some r := h
 clear h
 by_cases c3 : (l0.length : Int) = (l1.length : Int)
 ·rw [if_pos c3] at H
  have c3b0 := beq_iff_eq.mpr c3
  have c3b1 := bne_eq_false_iff_eq.mpr c3
  have c3b2 : (l0.length == l1.length) = true := by first|simpa using c3|(simp at c3 ⊢;omega)
  clear c3
  have H' := aK H
  clear H
  go_enter Tryz.func21,Tryz.ntmps21
  go_wp2
  repeat (go_quiet (fail);try go_wp2)
  go_loopg [5] k (fun kq v5 w' => ∃ (x5_1 : Int),v5 = .int .i64 x5_1 ∧ Aside0 (codesearchref33_SameInts.l0 kq l0 l1 x5_1 = some r) ∧ Aside0 (kq ≤ k) ∧ Drawn0 w w')
  case atStart => exact ⟨(0),(by first|rfl|(simp;done)|(simp [*];done)),H',⟨Nat.le_refl _⟩,by repeat (first|exact Drawn0.refl _|apply Drawn0.step)⟩
  case round =>
   clear H'
   try clear p2
   try clear c3
   try clear c3b0
   try clear c3b1
   try clear c3b2
   obtain ⟨x5_1,rfl,HA,HK1,⟨m1,rfl⟩⟩ := hrel
   cases gk with
  |zero => exact absurd HA.out (by simp [codesearchref33_SameInts.l0])
  |succ k1 =>
    have H := HA.out
    clear HA
    simp only [codesearchref33_SameInts.l0] at H
    by_cases c4 : x5_1 < (l0.length : Int)
    ·rw [if_pos c4] at H
     have c4b0 := decide_eq_true c4
     clear c4
     obtain ⟨c5,H⟩ := iS H
     have c5b0 := decide_eq_true c5
     clear c5
     obtain ⟨c6,H⟩ := iS H
     have c6b0 := decide_eq_true c6
     clear c6
     by_cases c7 : (rd l0 x5_1) = (rd l1 x5_1)
     ·rw [if_pos c7] at H
      have c7b0 := beq_iff_eq.mpr c7
      have c7b1 := bne_eq_false_iff_eq.mpr c7
      clear c7
      have H' := aK H
      clear H
      have p330 : 0 ≤ (x5_1 : Int) := of_decide_eq_true (by assumption)
      have q330 : x5_1 < (l0.length : Int) := of_decide_eq_true (by assumption)
      obtain ⟨ad330,e330,hx330_0⟩ := Kd.at_int HR0.out x5_1 p330 q330
      cases e330
      replace p330 := eq_true p330
      replace q330 := eq_true q330
      have p331 : 0 ≤ (x5_1 : Int) := of_decide_eq_true (by assumption)
      have q331 : x5_1 < (l1.length : Int) := of_decide_eq_true (by assumption)
      obtain ⟨ad331,e331,hx331_0⟩ := Kd.at_int HR1.out x5_1 p331 q331
      cases e331
      replace p331 := eq_true p331
      replace q331 := eq_true q331
      go_wp2
      repeat (go_quiet (fail);try go_wp2)
      go_roundg k1
      case measure => have := HK1.out;omega
      case rel => exact ⟨(wrap64 (x5_1 + 1)),(by first|rfl|(simp;done)|(simp [*];done)),H',⟨by have := HK1.out;omega⟩,by repeat (first|exact Drawn0.refl _|apply Drawn0.step)⟩
     ·rw [if_neg c7] at H
      have c7b0 := beq_eq_false_iff_ne.mpr c7
      have c7b1 := bne_iff_ne.mpr c7
      obtain rfl := Option.some.inj H
      have p330 : 0 ≤ (x5_1 : Int) := of_decide_eq_true (by assumption)
      have q330 : x5_1 < (l0.length : Int) := of_decide_eq_true (by assumption)
      obtain ⟨ad330,e330,hx330_0⟩ := Kd.at_int HR0.out x5_1 p330 q330
      cases e330
      replace p330 := eq_true p330
      replace q330 := eq_true q330
      have p331 : 0 ≤ (x5_1 : Int) := of_decide_eq_true (by assumption)
      have q331 : x5_1 < (l1.length : Int) := of_decide_eq_true (by assumption)
      obtain ⟨ad331,e331,hx331_0⟩ := Kd.at_int HR1.out x5_1 p331 q331
      cases e331
      replace p331 := eq_true p331
      replace q331 := eq_true q331
      go_wp2
      repeat (go_quiet (fail);try go_wp2)
      go_ret
      exact ⟨by first|rfl|(simp;done)|(simp [*];done),by repeat (first|exact Drawn0.refl _|apply Drawn0.step)⟩
    ·rw [if_neg c4] at H
     have c4b0 := decide_eq_false c4
     clear c4
     obtain rfl := Option.some.inj H
     go_wp2
     repeat (go_quiet (fail);try go_wp2)
     go_ret
     exact ⟨by first|rfl|(simp;done)|(simp [*];done),by repeat (first|exact Drawn0.refl _|apply Drawn0.step)⟩
 ·rw [if_neg c3] at H
  have c3b0 := beq_eq_false_iff_ne.mpr c3
  have c3b1 := bne_iff_ne.mpr c3
  have c3b2 : (l0.length == l1.length) = false := by first|simpa using c3|(simp at c3 ⊢;omega)
  obtain rfl := Option.some.inj H
  go_enter Tryz.func21,Tryz.ntmps21
  go_wp2
  repeat (go_quiet (fail);try go_wp2)
  go_ret
  exact ⟨by first|rfl|(simp;done)|(simp [*];done),by repeat (first|exact Drawn0.refl _|apply Drawn0.step)⟩

end Go.Proofs.YtmgliocboeifdaaGreatDoor.R
