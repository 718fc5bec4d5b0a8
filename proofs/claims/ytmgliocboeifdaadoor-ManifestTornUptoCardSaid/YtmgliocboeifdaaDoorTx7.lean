-- Written by hp.py, a program of this session, over the kit's print of the translation. Not trusted: Lean checks it.
import Derived.Test.YtmgliocboeifdaaDoorTx0
import Derived.Test.YtmgliocboeifdaaDoorTx1
import Derived.Test.YtmgliocboeifdaaDoorTx5
import Derived.Test.YtmgliocboeifdaaDoorTx6
namespace Go.Proofs.YtmgliocboeifdaaDoor.T
open Go.RowKit Go.Proofs.YtmgliocboeifdaaDoorW.PrintWords Go.Proofs.YtmgliocboeifdaaDoorW.PrintLast Go.Proofs.YtmgliocboeifdaaDoorW.PrintMore
attribute [local go_sem] max2_int min2_int max_two min_two max_three min_three max_four min_four   -- for this text's walks alone
set_option linter.unusedVariables false
set_option linter.unusedSimpArgs false

/-! ### checksum_Open: function 28 -/
def checksum_Open.f (k : Nat) (l0 : List Int) (a1 : Int) (a2 : Int) : Option (List Int × Int × Int) := (varint_Get.f k l0 a1).bind fun bt268 => (if bt268.2.2 = 0 then (if bt268.1 > a2 then (some (([] : List Int), 0, 4)) else (if (wrap64 ((l0.length : Int) - bt268.2.1)) < 4 then (some (([] : List Int), 0, 5)) else (if bt268.1 > (wrap64 ((wrap64 ((l0.length : Int) - bt268.2.1)) - 4)) then (some (([] : List Int), 0, 5)) else (if 0 ≤ a1 then (if a1 ≤ (wrap64 (bt268.2.1 + bt268.1)) then (if (wrap64 (bt268.2.1 + bt268.1)) ≤ (l0.length : Int) then ((checksum_Sum.f ((l0.take ((wrap64 (bt268.2.1 + bt268.1)) : Int).toNat).drop (a1 : Int).toNat)).bind fun t272 => (if 0 ≤ (wrap64 (bt268.2.1 + bt268.1)) then (if (wrap64 (bt268.2.1 + bt268.1)) < (l0.length : Int) then (if (rd l0 (wrap64 (bt268.2.1 + bt268.1))) = ((t272 / 16777216) % 256) then (if 0 ≤ (wrap64 ((wrap64 (bt268.2.1 + bt268.1)) + 1)) then (if (wrap64 ((wrap64 (bt268.2.1 + bt268.1)) + 1)) < (l0.length : Int) then (if (rd l0 (wrap64 ((wrap64 (bt268.2.1 + bt268.1)) + 1))) = ((t272 / 65536) % 256) then (if 0 ≤ (wrap64 ((wrap64 (bt268.2.1 + bt268.1)) + 2)) then (if (wrap64 ((wrap64 (bt268.2.1 + bt268.1)) + 2)) < (l0.length : Int) then (if (rd l0 (wrap64 ((wrap64 (bt268.2.1 + bt268.1)) + 2))) = ((t272 / 256) % 256) then (if 0 ≤ (wrap64 ((wrap64 (bt268.2.1 + bt268.1)) + 3)) then (if (wrap64 ((wrap64 (bt268.2.1 + bt268.1)) + 3)) < (l0.length : Int) then (if (rd l0 (wrap64 ((wrap64 (bt268.2.1 + bt268.1)) + 3))) = ((t272) % 256) then (if 0 ≤ bt268.2.1 then (if bt268.2.1 ≤ (wrap64 (bt268.2.1 + bt268.1)) then ((slices_Clone_byte_byte.f ((l0.take ((wrap64 (bt268.2.1 + bt268.1)) : Int).toNat).drop (bt268.2.1 : Int).toNat)).bind fun t278 => (some (t278, wrap64 ((wrap64 (bt268.2.1 + bt268.1)) + 4), 0))) else (none)) else (none)) else (some (([] : List Int), 0, 6))) else (none)) else (none)) else (some (([] : List Int), 0, 6))) else (none)) else (none)) else (some (([] : List Int), 0, 6))) else (none)) else (none)) else (some (([] : List Int), 0, 6))) else (none)) else (none))) else (none)) else (none)) else (none))))) else (some (([] : List Int), 0, bt268.2.2)))
theorem checksum_Open.mono : ∀ a0 a1 a2 k, LeO (checksum_Open.f k a0 a1 a2) (checksum_Open.f (k + 1) a0 a1 a2) := by
 intro a0 a1 a2 k
 unfold checksum_Open.f
 repeat' first
  |(with_reducible exact varint_Get.mono _ _ _)
  |(with_reducible exact LeO.refl _)
  |(with_reducible exact LeO.none _)
  |(with_reducible refine LeO.ite ?_ ?_)
  |(with_reducible refine LeO.bind ?_ (fun _ => ?_))
  |exact varint_Get.mono _ _ _
  |exact LeO.none _
  |refine LeO.ite ?_ ?_
  |refine LeO.bind ?_ (fun _ => ?_)
set_option maxHeartbeats 4000000 in
set_option maxRecDepth 100000 in
theorem checksum_Open.calls (k : Nat) (A0 : Option Addr) (c0 : Nat) (l0 : List Int) (a1 : Int) (a2 : Int) (r1 : List Int) (r2 : Int) (r3 : Int) (w : World) (hr0 : Kd.C (Kd.int .u8) w A0 l0.length l0) (hc0 : l0.length ≤ c0) (h : checksum_Open.f k l0 a1 a2 = some (r1, r2, r3)) :
  Calls Tryd.prog 28 #[.slice A0 l0.length c0,.int .i64 a1,.int .i64 a2] w fun e w' => ∃ v0_ : Value,e = .returned (.tuple #[v0_,.int .i64 r2,.int .i64 r3]) ∧ Kd.R (Kd.int .u8) 5 w' w.heap.size (fun _ => True) v0_ r1 ∧ Below w.heap.size w w' := by
 have HR0 := aK hr0
 have HC0 := aK hc0
 clear hr0 hc0
 have HB := aK (Below.refl w.heap.size w)
 have H : ((varint_Get.f k l0 a1).bind fun bt268 => (if bt268.2.2 = 0 then (if bt268.1 > a2 then (some (([] : List Int),0,4)) else (if (wrap64 ((l0.length : Int) - bt268.2.1)) < 4 then (some (([] : List Int),0,5)) else (if bt268.1 > (wrap64 ((wrap64 ((l0.length : Int) - bt268.2.1)) - 4)) then (some (([] : List Int),0,5)) else (if 0 ≤ a1 then (if a1 ≤ (wrap64 (bt268.2.1 + bt268.1)) then (if (wrap64 (bt268.2.1 + bt268.1)) ≤ (l0.length : Int) then ((checksum_Sum.f ((l0.take ((wrap64 (bt268.2.1 + bt268.1)) : Int).toNat).drop (a1 : Int).toNat)).bind fun t272 => (if 0 ≤ (wrap64 (bt268.2.1 + bt268.1)) then (if (wrap64 (bt268.2.1 + bt268.1)) < (l0.length : Int) then (if (rd l0 (wrap64 (bt268.2.1 + bt268.1))) = ((t272 / 16777216) % 256) then (if 0 ≤ (wrap64 ((wrap64 (bt268.2.1 + bt268.1)) + 1)) then (if (wrap64 ((wrap64 (bt268.2.1 + bt268.1)) + 1)) < (l0.length : Int) then (if (rd l0 (wrap64 ((wrap64 (bt268.2.1 + bt268.1)) + 1))) = ((t272 / 65536) % 256) then (if 0 ≤ (wrap64 ((wrap64 (bt268.2.1 + bt268.1)) + 2)) then (if (wrap64 ((wrap64 (bt268.2.1 + bt268.1)) + 2)) < (l0.length : Int) then (if (rd l0 (wrap64 ((wrap64 (bt268.2.1 + bt268.1)) + 2))) = ((t272 / 256) % 256) then (if 0 ≤ (wrap64 ((wrap64 (bt268.2.1 + bt268.1)) + 3)) then (if (wrap64 ((wrap64 (bt268.2.1 + bt268.1)) + 3)) < (l0.length : Int) then (if (rd l0 (wrap64 ((wrap64 (bt268.2.1 + bt268.1)) + 3))) = ((t272) % 256) then (if 0 ≤ bt268.2.1 then (if bt268.2.1 ≤ (wrap64 (bt268.2.1 + bt268.1)) then ((slices_Clone_byte_byte.f ((l0.take ((wrap64 (bt268.2.1 + bt268.1)) : Int).toNat).drop (bt268.2.1 : Int).toNat)).bind fun t278 => (some (t278,wrap64 ((wrap64 (bt268.2.1 + bt268.1)) + 4),0))) else (none)) else (none)) else (some (([] : List Int),0,6))) else (none)) else (none)) else (some (([] : List Int),0,6))) else (none)) else (none)) else (some (([] : List Int),0,6))) else (none)) else (none)) else (some (([] : List Int),0,6))) else (none)) else (none))) else (none)) else (none)) else (none))))) else (some (([] : List Int),0,bt268.2.2)))) = some (r1,r2,r3) := h
 clear h
 replace H := Option.bind_eq_some_iff.mp H
 obtain ⟨⟨t268,t269,t270⟩,A40,H⟩ := H
 replace H : (if t270 = 0 then (if t268 > a2 then (some (([] : List Int),0,4)) else (if (wrap64 ((l0.length : Int) - t269)) < 4 then (some (([] : List Int),0,5)) else (if t268 > (wrap64 ((wrap64 ((l0.length : Int) - t269)) - 4)) then (some (([] : List Int),0,5)) else (if 0 ≤ a1 then (if a1 ≤ (wrap64 (t269 + t268)) then (if (wrap64 (t269 + t268)) ≤ (l0.length : Int) then ((checksum_Sum.f ((l0.take ((wrap64 (t269 + t268)) : Int).toNat).drop (a1 : Int).toNat)).bind fun t272 => (if 0 ≤ (wrap64 (t269 + t268)) then (if (wrap64 (t269 + t268)) < (l0.length : Int) then (if (rd l0 (wrap64 (t269 + t268))) = ((t272 / 16777216) % 256) then (if 0 ≤ (wrap64 ((wrap64 (t269 + t268)) + 1)) then (if (wrap64 ((wrap64 (t269 + t268)) + 1)) < (l0.length : Int) then (if (rd l0 (wrap64 ((wrap64 (t269 + t268)) + 1))) = ((t272 / 65536) % 256) then (if 0 ≤ (wrap64 ((wrap64 (t269 + t268)) + 2)) then (if (wrap64 ((wrap64 (t269 + t268)) + 2)) < (l0.length : Int) then (if (rd l0 (wrap64 ((wrap64 (t269 + t268)) + 2))) = ((t272 / 256) % 256) then (if 0 ≤ (wrap64 ((wrap64 (t269 + t268)) + 3)) then (if (wrap64 ((wrap64 (t269 + t268)) + 3)) < (l0.length : Int) then (if (rd l0 (wrap64 ((wrap64 (t269 + t268)) + 3))) = ((t272) % 256) then (if 0 ≤ t269 then (if t269 ≤ (wrap64 (t269 + t268)) then ((slices_Clone_byte_byte.f ((l0.take ((wrap64 (t269 + t268)) : Int).toNat).drop (t269 : Int).toNat)).bind fun t278 => (some (t278,wrap64 ((wrap64 (t269 + t268)) + 4),0))) else (none)) else (none)) else (some (([] : List Int),0,6))) else (none)) else (none)) else (some (([] : List Int),0,6))) else (none)) else (none)) else (some (([] : List Int),0,6))) else (none)) else (none)) else (some (([] : List Int),0,6))) else (none)) else (none))) else (none)) else (none)) else (none))))) else (some (([] : List Int),0,t270))) = some (r1,r2,r3) := H
 have A4 := aK A40
 clear A40
 by_cases c5 : t270 = 0
 ·rw [if_pos c5] at H
  have c5b0 := beq_iff_eq.mpr c5
  have c5b1 := bne_eq_false_iff_eq.mpr c5
  clear c5
  by_cases c6 : t268 > a2
  ·rw [if_pos c6] at H
   have c6b0 := decide_eq_true c6
   clear c6
   simp only [Option.some.injEq,Prod.mk.injEq] at H
   obtain ⟨rfl,rfl,rfl⟩ := H
   go_enter Tryd.func28,Tryd.ntmps28
   go_wp2_with (first|((with_reducible refine gate_callee (f := 32) rfl ?_);refine goesL_ (some 17) rfl rfl Tryd.func32 (by kernel_rfl) rfl #[.slice A0 l0.length c0,.int .i64 a1] rfl (by (try simp only [List.map_toArray,List.map_cons,List.map_nil]);first|done|rfl|(simp only [List.length_drop,List.length_take];rfl)) ?_;(with_reducible refine (varint_Get.calls k _ _ l0 a1 t268 t269 t270 _ ?side1 ?side2 A4.out).mono ?_);(case side1 => exact cM HR0.out);(case side2 => exact HC0.out);rintro e w' ⟨rfl,⟨nd,rfl⟩⟩;refine ⟨_,rfl,?_⟩))
   go_ret3
   exact ⟨_,by first|rfl|(simp [errW_none,errW_some] <;> rfl)|(simp [*,errW_none,errW_some] <;> rfl),by first|exact Kd.R_nil _ _ _ _ _|exact Kd.N_nil _ _ _ _ _|exact Kd.V_nil _ _ _ _ _|exact Kd.Q_nil _ _ _ _ _|exact Kd.S_nil _ _ _ _ _,bM HB.out⟩
  ·rw [if_neg c6] at H
   have c6b0 := decide_eq_false c6
   clear c6
   by_cases c7 : (wrap64 ((l0.length : Int) - t269)) < 4
   ·rw [if_pos c7] at H
    have c7b0 := decide_eq_true c7
    clear c7
    simp only [Option.some.injEq,Prod.mk.injEq] at H
    obtain ⟨rfl,rfl,rfl⟩ := H
    go_enter Tryd.func28,Tryd.ntmps28
    go_wp2_with (first|((with_reducible refine gate_callee (f := 32) rfl ?_);refine goesL_ (some 17) rfl rfl Tryd.func32 (by kernel_rfl) rfl #[.slice A0 l0.length c0,.int .i64 a1] rfl (by (try simp only [List.map_toArray,List.map_cons,List.map_nil]);first|done|rfl|(simp only [List.length_drop,List.length_take];rfl)) ?_;(with_reducible refine (varint_Get.calls k _ _ l0 a1 t268 t269 t270 _ ?side1 ?side2 A4.out).mono ?_);(case side1 => exact cM HR0.out);(case side2 => exact HC0.out);rintro e w' ⟨rfl,⟨nd,rfl⟩⟩;refine ⟨_,rfl,?_⟩))
    go_ret3
    exact ⟨_,by first|rfl|(simp [errW_none,errW_some] <;> rfl)|(simp [*,errW_none,errW_some] <;> rfl),by first|exact Kd.R_nil _ _ _ _ _|exact Kd.N_nil _ _ _ _ _|exact Kd.V_nil _ _ _ _ _|exact Kd.Q_nil _ _ _ _ _|exact Kd.S_nil _ _ _ _ _,bM HB.out⟩
   ·rw [if_neg c7] at H
    have c7b0 := decide_eq_false c7
    clear c7
    by_cases c8 : t268 > (wrap64 ((wrap64 ((l0.length : Int) - t269)) - 4))
    ·rw [if_pos c8] at H
     have c8b0 := decide_eq_true c8
     clear c8
     simp only [Option.some.injEq,Prod.mk.injEq] at H
     obtain ⟨rfl,rfl,rfl⟩ := H
     go_enter Tryd.func28,Tryd.ntmps28
     go_wp2_with (first|((with_reducible refine gate_callee (f := 32) rfl ?_);refine goesL_ (some 17) rfl rfl Tryd.func32 (by kernel_rfl) rfl #[.slice A0 l0.length c0,.int .i64 a1] rfl (by (try simp only [List.map_toArray,List.map_cons,List.map_nil]);first|done|rfl|(simp only [List.length_drop,List.length_take];rfl)) ?_;(with_reducible refine (varint_Get.calls k _ _ l0 a1 t268 t269 t270 _ ?side1 ?side2 A4.out).mono ?_);(case side1 => exact cM HR0.out);(case side2 => exact HC0.out);rintro e w' ⟨rfl,⟨nd,rfl⟩⟩;refine ⟨_,rfl,?_⟩))
     go_ret3
     exact ⟨_,by first|rfl|(simp [errW_none,errW_some] <;> rfl)|(simp [*,errW_none,errW_some] <;> rfl),by first|exact Kd.R_nil _ _ _ _ _|exact Kd.N_nil _ _ _ _ _|exact Kd.V_nil _ _ _ _ _|exact Kd.Q_nil _ _ _ _ _|exact Kd.S_nil _ _ _ _ _,bM HB.out⟩
    ·rw [if_neg c8] at H
     have c8b0 := decide_eq_false c8
     clear c8
     obtain ⟨c9,H⟩ := iS H
     have c9b0 := eq_true c9
     have c9b1 := decide_eq_true c9
     clear c9
     obtain ⟨c10,H⟩ := iS H
     have c10b0 := eq_true c10
     have c10b1 := decide_eq_true c10
     obtain ⟨c11,H⟩ := iS H
     have c11b0 := eq_true c11
     have c11b1 := decide_eq_true c11
     replace H := Option.bind_eq_some_iff.mp H
     obtain ⟨t272,A120,H⟩ := H
     have A12 := aK A120
     clear A120
     obtain ⟨ji13,hji13⟩ : ∃ j_ : Int,(wrap64 (t269 + t268)) = j_ := ⟨_,rfl⟩
     replace H : (if 0 ≤ (ji13) then (if (ji13) < (l0.length : Int) then (if (rd l0 (ji13)) = ((t272 / 16777216) % 256) then (if 0 ≤ (wrap64 ((ji13) + 1)) then (if (wrap64 ((ji13) + 1)) < (l0.length : Int) then (if (rd l0 (wrap64 ((ji13) + 1))) = ((t272 / 65536) % 256) then (if 0 ≤ (wrap64 ((ji13) + 2)) then (if (wrap64 ((ji13) + 2)) < (l0.length : Int) then (if (rd l0 (wrap64 ((ji13) + 2))) = ((t272 / 256) % 256) then (if 0 ≤ (wrap64 ((ji13) + 3)) then (if (wrap64 ((ji13) + 3)) < (l0.length : Int) then (if (rd l0 (wrap64 ((ji13) + 3))) = ((t272) % 256) then (if 0 ≤ t269 then (if t269 ≤ (ji13) then ((slices_Clone_byte_byte.f ((l0.take ((ji13) : Int).toNat).drop (t269 : Int).toNat)).bind fun t278 => (some (t278,wrap64 ((ji13) + 4),0))) else (none)) else (none)) else (some (([] : List Int),0,6))) else (none)) else (none)) else (some (([] : List Int),0,6))) else (none)) else (none)) else (some (([] : List Int),0,6))) else (none)) else (none)) else (some (([] : List Int),0,6))) else (none)) else (none)) = some (r1,r2,r3) := by first|(rw [hji13] at H;exact H)|(simp only [hji13] at H ⊢;exact H)
     (try rw [hji13] at c10b0)
     (try rw [hji13] at c10b1)
     (try rw [hji13] at c10)
     (try rw [hji13] at c11b0)
     (try rw [hji13] at c11b1)
     (try rw [hji13] at c11)
     (try rw [hji13] at A4)
     (try rw [hji13] at A12)
     have hji13w : (IntKind.i64.wrap (t269 + t268)) = ji13 := (i64_w _).trans hji13
     obtain ⟨c14,H⟩ := iS H
     have c14b0 := decide_eq_true c14
     clear c14
     obtain ⟨c15,H⟩ := iS H
     have c15b0 := decide_eq_true c15
     clear c15
     by_cases c16 : (rd l0 (ji13)) = ((t272 / 16777216) % 256)
     ·rw [if_pos c16] at H
      have c16b0 := beq_iff_eq.mpr c16
      have c16b1 := bne_eq_false_iff_eq.mpr c16
      clear c16
      obtain ⟨ji17,hji17⟩ : ∃ j_ : Int,(wrap64 ((ji13) + 1)) = j_ := ⟨_,rfl⟩
      replace H : (if 0 ≤ (ji17) then (if (ji17) < (l0.length : Int) then (if (rd l0 (ji17)) = ((t272 / 65536) % 256) then (if 0 ≤ (wrap64 ((ji13) + 2)) then (if (wrap64 ((ji13) + 2)) < (l0.length : Int) then (if (rd l0 (wrap64 ((ji13) + 2))) = ((t272 / 256) % 256) then (if 0 ≤ (wrap64 ((ji13) + 3)) then (if (wrap64 ((ji13) + 3)) < (l0.length : Int) then (if (rd l0 (wrap64 ((ji13) + 3))) = ((t272) % 256) then (if 0 ≤ t269 then (if t269 ≤ (ji13) then ((slices_Clone_byte_byte.f ((l0.take ((ji13) : Int).toNat).drop (t269 : Int).toNat)).bind fun t278 => (some (t278,wrap64 ((ji13) + 4),0))) else (none)) else (none)) else (some (([] : List Int),0,6))) else (none)) else (none)) else (some (([] : List Int),0,6))) else (none)) else (none)) else (some (([] : List Int),0,6))) else (none)) else (none)) = some (r1,r2,r3) := by first|(rw [hji17] at H;exact H)|(simp only [hji17] at H ⊢;exact H)
      (try rw [hji17] at A4)
      (try rw [hji17] at A12)
      have hji17w : (IntKind.i64.wrap ((ji13) + 1)) = ji17 := (i64_w _).trans hji17
      obtain ⟨c18,H⟩ := iS H
      have c18b0 := decide_eq_true c18
      clear c18
      obtain ⟨c19,H⟩ := iS H
      have c19b0 := decide_eq_true c19
      clear c19
      by_cases c20 : (rd l0 (ji17)) = ((t272 / 65536) % 256)
      ·rw [if_pos c20] at H
       have c20b0 := beq_iff_eq.mpr c20
       have c20b1 := bne_eq_false_iff_eq.mpr c20
       clear c20
       obtain ⟨ji21,hji21⟩ : ∃ j_ : Int,(wrap64 ((ji13) + 2)) = j_ := ⟨_,rfl⟩
       replace H : (if 0 ≤ (ji21) then (if (ji21) < (l0.length : Int) then (if (rd l0 (ji21)) = ((t272 / 256) % 256) then (if 0 ≤ (wrap64 ((ji13) + 3)) then (if (wrap64 ((ji13) + 3)) < (l0.length : Int) then (if (rd l0 (wrap64 ((ji13) + 3))) = ((t272) % 256) then (if 0 ≤ t269 then (if t269 ≤ (ji13) then ((slices_Clone_byte_byte.f ((l0.take ((ji13) : Int).toNat).drop (t269 : Int).toNat)).bind fun t278 => (some (t278,wrap64 ((ji13) + 4),0))) else (none)) else (none)) else (some (([] : List Int),0,6))) else (none)) else (none)) else (some (([] : List Int),0,6))) else (none)) else (none)) = some (r1,r2,r3) := by first|(rw [hji21] at H;exact H)|(simp only [hji21] at H ⊢;exact H)
       (try rw [hji21] at A4)
       (try rw [hji21] at A12)
       have hji21w : (IntKind.i64.wrap ((ji13) + 2)) = ji21 := (i64_w _).trans hji21
       obtain ⟨c22,H⟩ := iS H
       have c22b0 := decide_eq_true c22
       clear c22
       obtain ⟨c23,H⟩ := iS H
       have c23b0 := decide_eq_true c23
       clear c23
       by_cases c24 : (rd l0 (ji21)) = ((t272 / 256) % 256)
       ·rw [if_pos c24] at H
        have c24b0 := beq_iff_eq.mpr c24
        have c24b1 := bne_eq_false_iff_eq.mpr c24
        clear c24
        obtain ⟨ji25,hji25⟩ : ∃ j_ : Int,(wrap64 ((ji13) + 3)) = j_ := ⟨_,rfl⟩
        replace H : (if 0 ≤ (ji25) then (if (ji25) < (l0.length : Int) then (if (rd l0 (ji25)) = ((t272) % 256) then (if 0 ≤ t269 then (if t269 ≤ (ji13) then ((slices_Clone_byte_byte.f ((l0.take ((ji13) : Int).toNat).drop (t269 : Int).toNat)).bind fun t278 => (some (t278,wrap64 ((ji13) + 4),0))) else (none)) else (none)) else (some (([] : List Int),0,6))) else (none)) else (none)) = some (r1,r2,r3) := by first|(rw [hji25] at H;exact H)|(simp only [hji25] at H ⊢;exact H)
        (try rw [hji25] at A4)
        (try rw [hji25] at A12)
        have hji25w : (IntKind.i64.wrap ((ji13) + 3)) = ji25 := (i64_w _).trans hji25
        obtain ⟨c26,H⟩ := iS H
        have c26b0 := decide_eq_true c26
        clear c26
        obtain ⟨c27,H⟩ := iS H
        have c27b0 := decide_eq_true c27
        clear c27
        by_cases c28 : (rd l0 (ji25)) = ((t272) % 256)
        ·rw [if_pos c28] at H
         have c28b0 := beq_iff_eq.mpr c28
         have c28b1 := bne_eq_false_iff_eq.mpr c28
         clear c28
         obtain ⟨c29,H⟩ := iS H
         have c29b0 := eq_true c29
         have c29b1 := decide_eq_true c29
         clear c29
         obtain ⟨c30,H⟩ := iS H
         have c30b0 := eq_true c30
         have c30b1 := decide_eq_true c30
         clear c30
         have c31b0 := eq_true (of_decide_eq_true (by assumption) : (ji13) ≤ (l0.length : Int))
         replace H := Option.bind_eq_some_iff.mp H
         obtain ⟨t278,A320,H⟩ := H
         have A32 := aK A320
         clear A320
         simp only [Option.some.injEq,Prod.mk.injEq] at H
         obtain ⟨rfl,rfl,rfl⟩ := H
         go_enter Tryd.func28,Tryd.ntmps28
         go_wp2_with (first|((with_reducible refine gate_callee (f := 32) rfl ?_);refine goesL_ (some 17) rfl rfl Tryd.func32 (by kernel_rfl) rfl #[.slice A0 l0.length c0,.int .i64 a1] rfl (by (try simp only [List.map_toArray,List.map_cons,List.map_nil]);first|done|rfl|(simp only [List.length_drop,List.length_take];rfl)) ?_;(with_reducible refine (varint_Get.calls k _ _ l0 a1 t268 t269 t270 _ ?side1 ?side2 A4.out).mono ?_);(case side1 => exact cM HR0.out);(case side2 => exact HC0.out);rintro e w' ⟨rfl,⟨nd,rfl⟩⟩;refine ⟨_,rfl,?_⟩;obtain ⟨i033,hi033,_,hsz33,_⟩ := info_parts info5;obtain ⟨A33,hcut33,hA33,hC33⟩ := print_mid_of (P := Tryd.prog) (Value.int .u8) 0 29 5 .i64 .i64 Tryd.underlying29 hi033 hsz33 A0 c0 l0 a1 (ji13) (of_decide_eq_true (by assumption)) (by first|omega|exact of_decide_eq_true (by assumption)) (of_decide_eq_true (by assumption)) HC0.out;have HR271 := aK (Kd.C_of_reads (h1 := fun _ => rfl) (hA33 _ (Kd.reads_of_C HR0.out)));have HC271 := aK hC33;clear hA33 hC33 hi033 hsz33)|((with_reducible refine gate_callee (f := 43) rfl ?_);refine goesL_ (some 51) rfl rfl Tryd.func43 (by kernel_rfl) rfl #[.slice A33 ((l0.take ((ji13) : Int).toNat).drop (a1 : Int).toNat).length (c0 - a1.toNat)] rfl (by (try simp only [List.map_toArray,List.map_cons,List.map_nil]);first|done|(rw [show ((l0.take ((ji13) : Int).toNat).drop (a1 : Int).toNat).length = ((ji13).toNat - a1.toNat) from (by rw [List.length_drop,List.length_take];have h_ : ((ji13) : Int) ≤ (l0.length : Int) := of_decide_eq_true (by assumption);omega)] <;> rfl)|(simp only [hji13];rfl)|rfl|(simp only [List.length_drop,List.length_take];rfl)) ?_;(with_reducible refine (checksum_Sum.calls _ _ ((l0.take ((ji13) : Int).toNat).drop (a1 : Int).toNat) t272 _ ?side1 ?side2 A12.out).mono ?_);(case side1 => exact cM HR271.out);(case side2 => exact HC271.out);rintro e w34 ⟨rfl,hb⟩;refine ⟨_,rfl,?_⟩;replace HB := aK (below_step (bM HB.out) hb);(try clear hb);have p273 : 0 ≤ ((ji13) : Int) := of_decide_eq_true (by assumption);have q273 : (ji13) < (l0.length : Int) := of_decide_eq_true (by assumption);obtain ⟨ad273,e273,hx273_0⟩ := Kd.at_int HR0.out (ji13) p273 q273;cases e273;replace hx273_0 := xM HB hx273_0;replace p273 := eq_true p273;replace q273 := eq_true q273;have p274 : 0 ≤ ((ji17) : Int) := of_decide_eq_true (by assumption);have q274 : (ji17) < (l0.length : Int) := of_decide_eq_true (by assumption);obtain ⟨ad274,e274,hx274_0⟩ := Kd.at_int HR0.out (ji17) p274 q274;obtain rfl : ad273 = ad274 := (by injection e274);replace hx274_0 := xM HB hx274_0;replace p274 := eq_true p274;replace q274 := eq_true q274;have p275 : 0 ≤ ((ji21) : Int) := of_decide_eq_true (by assumption);have q275 : (ji21) < (l0.length : Int) := of_decide_eq_true (by assumption);obtain ⟨ad275,e275,hx275_0⟩ := Kd.at_int HR0.out (ji21) p275 q275;obtain rfl : ad273 = ad275 := (by injection e275);replace hx275_0 := xM HB hx275_0;replace p275 := eq_true p275;replace q275 := eq_true q275;have p276 : 0 ≤ ((ji25) : Int) := of_decide_eq_true (by assumption);have q276 : (ji25) < (l0.length : Int) := of_decide_eq_true (by assumption);obtain ⟨ad276,e276,hx276_0⟩ := Kd.at_int HR0.out (ji25) p276 q276;obtain rfl : ad273 = ad276 := (by injection e276);replace hx276_0 := xM HB hx276_0;replace p276 := eq_true p276;replace q276 := eq_true q276;obtain ⟨i035,hi035,_,hsz35,_⟩ := info_parts info5;obtain ⟨A35,hcut35,hA35,hC35⟩ := print_mid_of (P := Tryd.prog) (Value.int .u8) 0 29 5 .i64 .i64 Tryd.underlying29 hi035 hsz35 (some ad273) c0 l0 t269 (ji13) (of_decide_eq_true (by assumption)) (by first|omega|exact of_decide_eq_true (by assumption)) (of_decide_eq_true (by assumption)) HC0.out;have HR277 := aK (Kd.C_of_reads (h1 := fun _ => rfl) (hA35 _ (Kd.reads_of_C HR0.out)));have HC277 := aK hC35;clear hA35 hC35 hi035 hsz35)|((with_reducible refine gate_callee (f := 44) rfl ?_);refine goesL_ (some 96) rfl rfl Tryd.func44 (by kernel_rfl) rfl #[.slice A35 ((l0.take ((ji13) : Int).toNat).drop (t269 : Int).toNat).length (c0 - t269.toNat)] rfl (by (try simp only [List.map_toArray,List.map_cons,List.map_nil]);first|done|(rw [show ((l0.take ((ji13) : Int).toNat).drop (t269 : Int).toNat).length = ((ji13).toNat - t269.toNat) from (by rw [List.length_drop,List.length_take];have h_ : ((ji13) : Int) ≤ (l0.length : Int) := of_decide_eq_true (by assumption);omega)] <;> rfl)|(simp only [hji13];rfl)|rfl|(simp only [List.length_drop,List.length_take];rfl)) ?_;(with_reducible refine (slices_Clone_byte_byte.calls _ _ ((l0.take ((ji13) : Int).toNat).drop (t269 : Int).toNat) t278 _ ?side1 ?side2 A32.out).mono ?_);(case side1 => exact cM (Kd.C_below HR277.out HB.out));(case side2 => exact HC277.out);rintro e w36 ⟨v279,rfl,ho0,hb⟩;refine ⟨_,rfl,?_⟩;have HO280 := aK (Kd.R_lower ho0 (below_size (bM HB.out)));replace HB := aK (below_step (bM HB.out) hb);(try clear hb);(try clear ho0)))
         go_ret3
         exact ⟨_,by first|rfl|(simp [errW_none,errW_some] <;> rfl)|(simp only [← hji13,← hji17,← hji21,← hji25];first|rfl|(simp [errW_none,errW_some] <;> rfl))|(simp [*,errW_none,errW_some] <;> rfl),rM HO280.out,bM HB.out⟩
        ·rw [if_neg c28] at H
         have c28b0 := beq_eq_false_iff_ne.mpr c28
         have c28b1 := bne_iff_ne.mpr c28
         simp only [Option.some.injEq,Prod.mk.injEq] at H
         obtain ⟨rfl,rfl,rfl⟩ := H
         go_enter Tryd.func28,Tryd.ntmps28
         go_wp2_with (first|((with_reducible refine gate_callee (f := 32) rfl ?_);refine goesL_ (some 17) rfl rfl Tryd.func32 (by kernel_rfl) rfl #[.slice A0 l0.length c0,.int .i64 a1] rfl (by (try simp only [List.map_toArray,List.map_cons,List.map_nil]);first|done|rfl|(simp only [List.length_drop,List.length_take];rfl)) ?_;(with_reducible refine (varint_Get.calls k _ _ l0 a1 t268 t269 t270 _ ?side1 ?side2 A4.out).mono ?_);(case side1 => exact cM HR0.out);(case side2 => exact HC0.out);rintro e w' ⟨rfl,⟨nd,rfl⟩⟩;refine ⟨_,rfl,?_⟩;obtain ⟨i037,hi037,_,hsz37,_⟩ := info_parts info5;obtain ⟨A37,hcut37,hA37,hC37⟩ := print_mid_of (P := Tryd.prog) (Value.int .u8) 0 29 5 .i64 .i64 Tryd.underlying29 hi037 hsz37 A0 c0 l0 a1 (ji13) (of_decide_eq_true (by assumption)) (by first|omega|exact of_decide_eq_true (by assumption)) (of_decide_eq_true (by assumption)) HC0.out;have HR271 := aK (Kd.C_of_reads (h1 := fun _ => rfl) (hA37 _ (Kd.reads_of_C HR0.out)));have HC271 := aK hC37;clear hA37 hC37 hi037 hsz37)|((with_reducible refine gate_callee (f := 43) rfl ?_);refine goesL_ (some 51) rfl rfl Tryd.func43 (by kernel_rfl) rfl #[.slice A37 ((l0.take ((ji13) : Int).toNat).drop (a1 : Int).toNat).length (c0 - a1.toNat)] rfl (by (try simp only [List.map_toArray,List.map_cons,List.map_nil]);first|done|(rw [show ((l0.take ((ji13) : Int).toNat).drop (a1 : Int).toNat).length = ((ji13).toNat - a1.toNat) from (by rw [List.length_drop,List.length_take];have h_ : ((ji13) : Int) ≤ (l0.length : Int) := of_decide_eq_true (by assumption);omega)] <;> rfl)|(simp only [hji13];rfl)|rfl|(simp only [List.length_drop,List.length_take];rfl)) ?_;(with_reducible refine (checksum_Sum.calls _ _ ((l0.take ((ji13) : Int).toNat).drop (a1 : Int).toNat) t272 _ ?side1 ?side2 A12.out).mono ?_);(case side1 => exact cM HR271.out);(case side2 => exact HC271.out);rintro e w38 ⟨rfl,hb⟩;refine ⟨_,rfl,?_⟩;replace HB := aK (below_step (bM HB.out) hb);(try clear hb);have p273 : 0 ≤ ((ji13) : Int) := of_decide_eq_true (by assumption);have q273 : (ji13) < (l0.length : Int) := of_decide_eq_true (by assumption);obtain ⟨ad273,e273,hx273_0⟩ := Kd.at_int HR0.out (ji13) p273 q273;cases e273;replace hx273_0 := xM HB hx273_0;replace p273 := eq_true p273;replace q273 := eq_true q273;have p274 : 0 ≤ ((ji17) : Int) := of_decide_eq_true (by assumption);have q274 : (ji17) < (l0.length : Int) := of_decide_eq_true (by assumption);obtain ⟨ad274,e274,hx274_0⟩ := Kd.at_int HR0.out (ji17) p274 q274;obtain rfl : ad273 = ad274 := (by injection e274);replace hx274_0 := xM HB hx274_0;replace p274 := eq_true p274;replace q274 := eq_true q274;have p275 : 0 ≤ ((ji21) : Int) := of_decide_eq_true (by assumption);have q275 : (ji21) < (l0.length : Int) := of_decide_eq_true (by assumption);obtain ⟨ad275,e275,hx275_0⟩ := Kd.at_int HR0.out (ji21) p275 q275;obtain rfl : ad273 = ad275 := (by injection e275);replace hx275_0 := xM HB hx275_0;replace p275 := eq_true p275;replace q275 := eq_true q275;have p276 : 0 ≤ ((ji25) : Int) := of_decide_eq_true (by assumption);have q276 : (ji25) < (l0.length : Int) := of_decide_eq_true (by assumption);obtain ⟨ad276,e276,hx276_0⟩ := Kd.at_int HR0.out (ji25) p276 q276;obtain rfl : ad273 = ad276 := (by injection e276);replace hx276_0 := xM HB hx276_0;replace p276 := eq_true p276;replace q276 := eq_true q276))
         go_ret3
         exact ⟨_,by first|rfl|(simp [errW_none,errW_some] <;> rfl)|(simp only [← hji13,← hji17,← hji21,← hji25];first|rfl|(simp [errW_none,errW_some] <;> rfl))|(simp [*,errW_none,errW_some] <;> rfl),by first|exact Kd.R_nil _ _ _ _ _|exact Kd.N_nil _ _ _ _ _|exact Kd.V_nil _ _ _ _ _|exact Kd.Q_nil _ _ _ _ _|exact Kd.S_nil _ _ _ _ _,bM HB.out⟩
       ·rw [if_neg c24] at H
        have c24b0 := beq_eq_false_iff_ne.mpr c24
        have c24b1 := bne_iff_ne.mpr c24
        simp only [Option.some.injEq,Prod.mk.injEq] at H
        obtain ⟨rfl,rfl,rfl⟩ := H
        go_enter Tryd.func28,Tryd.ntmps28
        go_wp2_with (first|((with_reducible refine gate_callee (f := 32) rfl ?_);refine goesL_ (some 17) rfl rfl Tryd.func32 (by kernel_rfl) rfl #[.slice A0 l0.length c0,.int .i64 a1] rfl (by (try simp only [List.map_toArray,List.map_cons,List.map_nil]);first|done|rfl|(simp only [List.length_drop,List.length_take];rfl)) ?_;(with_reducible refine (varint_Get.calls k _ _ l0 a1 t268 t269 t270 _ ?side1 ?side2 A4.out).mono ?_);(case side1 => exact cM HR0.out);(case side2 => exact HC0.out);rintro e w' ⟨rfl,⟨nd,rfl⟩⟩;refine ⟨_,rfl,?_⟩;obtain ⟨i039,hi039,_,hsz39,_⟩ := info_parts info5;obtain ⟨A39,hcut39,hA39,hC39⟩ := print_mid_of (P := Tryd.prog) (Value.int .u8) 0 29 5 .i64 .i64 Tryd.underlying29 hi039 hsz39 A0 c0 l0 a1 (ji13) (of_decide_eq_true (by assumption)) (by first|omega|exact of_decide_eq_true (by assumption)) (of_decide_eq_true (by assumption)) HC0.out;have HR271 := aK (Kd.C_of_reads (h1 := fun _ => rfl) (hA39 _ (Kd.reads_of_C HR0.out)));have HC271 := aK hC39;clear hA39 hC39 hi039 hsz39)|((with_reducible refine gate_callee (f := 43) rfl ?_);refine goesL_ (some 51) rfl rfl Tryd.func43 (by kernel_rfl) rfl #[.slice A39 ((l0.take ((ji13) : Int).toNat).drop (a1 : Int).toNat).length (c0 - a1.toNat)] rfl (by (try simp only [List.map_toArray,List.map_cons,List.map_nil]);first|done|(rw [show ((l0.take ((ji13) : Int).toNat).drop (a1 : Int).toNat).length = ((ji13).toNat - a1.toNat) from (by rw [List.length_drop,List.length_take];have h_ : ((ji13) : Int) ≤ (l0.length : Int) := of_decide_eq_true (by assumption);omega)] <;> rfl)|(simp only [hji13];rfl)|rfl|(simp only [List.length_drop,List.length_take];rfl)) ?_;(with_reducible refine (checksum_Sum.calls _ _ ((l0.take ((ji13) : Int).toNat).drop (a1 : Int).toNat) t272 _ ?side1 ?side2 A12.out).mono ?_);(case side1 => exact cM HR271.out);(case side2 => exact HC271.out);rintro e w40 ⟨rfl,hb⟩;refine ⟨_,rfl,?_⟩;replace HB := aK (below_step (bM HB.out) hb);(try clear hb);have p273 : 0 ≤ ((ji13) : Int) := of_decide_eq_true (by assumption);have q273 : (ji13) < (l0.length : Int) := of_decide_eq_true (by assumption);obtain ⟨ad273,e273,hx273_0⟩ := Kd.at_int HR0.out (ji13) p273 q273;cases e273;replace hx273_0 := xM HB hx273_0;replace p273 := eq_true p273;replace q273 := eq_true q273;have p274 : 0 ≤ ((ji17) : Int) := of_decide_eq_true (by assumption);have q274 : (ji17) < (l0.length : Int) := of_decide_eq_true (by assumption);obtain ⟨ad274,e274,hx274_0⟩ := Kd.at_int HR0.out (ji17) p274 q274;obtain rfl : ad273 = ad274 := (by injection e274);replace hx274_0 := xM HB hx274_0;replace p274 := eq_true p274;replace q274 := eq_true q274;have p275 : 0 ≤ ((ji21) : Int) := of_decide_eq_true (by assumption);have q275 : (ji21) < (l0.length : Int) := of_decide_eq_true (by assumption);obtain ⟨ad275,e275,hx275_0⟩ := Kd.at_int HR0.out (ji21) p275 q275;obtain rfl : ad273 = ad275 := (by injection e275);replace hx275_0 := xM HB hx275_0;replace p275 := eq_true p275;replace q275 := eq_true q275))
        go_ret3
        exact ⟨_,by first|rfl|(simp [errW_none,errW_some] <;> rfl)|(simp only [← hji13,← hji17,← hji21];first|rfl|(simp [errW_none,errW_some] <;> rfl))|(simp [*,errW_none,errW_some] <;> rfl),by first|exact Kd.R_nil _ _ _ _ _|exact Kd.N_nil _ _ _ _ _|exact Kd.V_nil _ _ _ _ _|exact Kd.Q_nil _ _ _ _ _|exact Kd.S_nil _ _ _ _ _,bM HB.out⟩
      ·rw [if_neg c20] at H
       have c20b0 := beq_eq_false_iff_ne.mpr c20
       have c20b1 := bne_iff_ne.mpr c20
       simp only [Option.some.injEq,Prod.mk.injEq] at H
       obtain ⟨rfl,rfl,rfl⟩ := H
       go_enter Tryd.func28,Tryd.ntmps28
       go_wp2_with (first|((with_reducible refine gate_callee (f := 32) rfl ?_);refine goesL_ (some 17) rfl rfl Tryd.func32 (by kernel_rfl) rfl #[.slice A0 l0.length c0,.int .i64 a1] rfl (by (try simp only [List.map_toArray,List.map_cons,List.map_nil]);first|done|rfl|(simp only [List.length_drop,List.length_take];rfl)) ?_;(with_reducible refine (varint_Get.calls k _ _ l0 a1 t268 t269 t270 _ ?side1 ?side2 A4.out).mono ?_);(case side1 => exact cM HR0.out);(case side2 => exact HC0.out);rintro e w' ⟨rfl,⟨nd,rfl⟩⟩;refine ⟨_,rfl,?_⟩;obtain ⟨i041,hi041,_,hsz41,_⟩ := info_parts info5;obtain ⟨A41,hcut41,hA41,hC41⟩ := print_mid_of (P := Tryd.prog) (Value.int .u8) 0 29 5 .i64 .i64 Tryd.underlying29 hi041 hsz41 A0 c0 l0 a1 (ji13) (of_decide_eq_true (by assumption)) (by first|omega|exact of_decide_eq_true (by assumption)) (of_decide_eq_true (by assumption)) HC0.out;have HR271 := aK (Kd.C_of_reads (h1 := fun _ => rfl) (hA41 _ (Kd.reads_of_C HR0.out)));have HC271 := aK hC41;clear hA41 hC41 hi041 hsz41)|((with_reducible refine gate_callee (f := 43) rfl ?_);refine goesL_ (some 51) rfl rfl Tryd.func43 (by kernel_rfl) rfl #[.slice A41 ((l0.take ((ji13) : Int).toNat).drop (a1 : Int).toNat).length (c0 - a1.toNat)] rfl (by (try simp only [List.map_toArray,List.map_cons,List.map_nil]);first|done|(rw [show ((l0.take ((ji13) : Int).toNat).drop (a1 : Int).toNat).length = ((ji13).toNat - a1.toNat) from (by rw [List.length_drop,List.length_take];have h_ : ((ji13) : Int) ≤ (l0.length : Int) := of_decide_eq_true (by assumption);omega)] <;> rfl)|(simp only [hji13];rfl)|rfl|(simp only [List.length_drop,List.length_take];rfl)) ?_;(with_reducible refine (checksum_Sum.calls _ _ ((l0.take ((ji13) : Int).toNat).drop (a1 : Int).toNat) t272 _ ?side1 ?side2 A12.out).mono ?_);(case side1 => exact cM HR271.out);(case side2 => exact HC271.out);rintro e w42 ⟨rfl,hb⟩;refine ⟨_,rfl,?_⟩;replace HB := aK (below_step (bM HB.out) hb);(try clear hb);have p273 : 0 ≤ ((ji13) : Int) := of_decide_eq_true (by assumption);have q273 : (ji13) < (l0.length : Int) := of_decide_eq_true (by assumption);obtain ⟨ad273,e273,hx273_0⟩ := Kd.at_int HR0.out (ji13) p273 q273;cases e273;replace hx273_0 := xM HB hx273_0;replace p273 := eq_true p273;replace q273 := eq_true q273;have p274 : 0 ≤ ((ji17) : Int) := of_decide_eq_true (by assumption);have q274 : (ji17) < (l0.length : Int) := of_decide_eq_true (by assumption);obtain ⟨ad274,e274,hx274_0⟩ := Kd.at_int HR0.out (ji17) p274 q274;obtain rfl : ad273 = ad274 := (by injection e274);replace hx274_0 := xM HB hx274_0;replace p274 := eq_true p274;replace q274 := eq_true q274))
       go_ret3
       exact ⟨_,by first|rfl|(simp [errW_none,errW_some] <;> rfl)|(simp only [← hji13,← hji17];first|rfl|(simp [errW_none,errW_some] <;> rfl))|(simp [*,errW_none,errW_some] <;> rfl),by first|exact Kd.R_nil _ _ _ _ _|exact Kd.N_nil _ _ _ _ _|exact Kd.V_nil _ _ _ _ _|exact Kd.Q_nil _ _ _ _ _|exact Kd.S_nil _ _ _ _ _,bM HB.out⟩
     ·rw [if_neg c16] at H
      have c16b0 := beq_eq_false_iff_ne.mpr c16
      have c16b1 := bne_iff_ne.mpr c16
      simp only [Option.some.injEq,Prod.mk.injEq] at H
      obtain ⟨rfl,rfl,rfl⟩ := H
      go_enter Tryd.func28,Tryd.ntmps28
      go_wp2_with (first|((with_reducible refine gate_callee (f := 32) rfl ?_);refine goesL_ (some 17) rfl rfl Tryd.func32 (by kernel_rfl) rfl #[.slice A0 l0.length c0,.int .i64 a1] rfl (by (try simp only [List.map_toArray,List.map_cons,List.map_nil]);first|done|rfl|(simp only [List.length_drop,List.length_take];rfl)) ?_;(with_reducible refine (varint_Get.calls k _ _ l0 a1 t268 t269 t270 _ ?side1 ?side2 A4.out).mono ?_);(case side1 => exact cM HR0.out);(case side2 => exact HC0.out);rintro e w' ⟨rfl,⟨nd,rfl⟩⟩;refine ⟨_,rfl,?_⟩;obtain ⟨i043,hi043,_,hsz43,_⟩ := info_parts info5;obtain ⟨A43,hcut43,hA43,hC43⟩ := print_mid_of (P := Tryd.prog) (Value.int .u8) 0 29 5 .i64 .i64 Tryd.underlying29 hi043 hsz43 A0 c0 l0 a1 (ji13) (of_decide_eq_true (by assumption)) (by first|omega|exact of_decide_eq_true (by assumption)) (of_decide_eq_true (by assumption)) HC0.out;have HR271 := aK (Kd.C_of_reads (h1 := fun _ => rfl) (hA43 _ (Kd.reads_of_C HR0.out)));have HC271 := aK hC43;clear hA43 hC43 hi043 hsz43)|((with_reducible refine gate_callee (f := 43) rfl ?_);refine goesL_ (some 51) rfl rfl Tryd.func43 (by kernel_rfl) rfl #[.slice A43 ((l0.take ((ji13) : Int).toNat).drop (a1 : Int).toNat).length (c0 - a1.toNat)] rfl (by (try simp only [List.map_toArray,List.map_cons,List.map_nil]);first|done|(rw [show ((l0.take ((ji13) : Int).toNat).drop (a1 : Int).toNat).length = ((ji13).toNat - a1.toNat) from (by rw [List.length_drop,List.length_take];have h_ : ((ji13) : Int) ≤ (l0.length : Int) := of_decide_eq_true (by assumption);omega)] <;> rfl)|(simp only [hji13];rfl)|rfl|(simp only [List.length_drop,List.length_take];rfl)) ?_;(with_reducible refine (checksum_Sum.calls _ _ ((l0.take ((ji13) : Int).toNat).drop (a1 : Int).toNat) t272 _ ?side1 ?side2 A12.out).mono ?_);(case side1 => exact cM HR271.out);(case side2 => exact HC271.out);rintro e w44 ⟨rfl,hb⟩;refine ⟨_,rfl,?_⟩;replace HB := aK (below_step (bM HB.out) hb);(try clear hb);have p273 : 0 ≤ ((ji13) : Int) := of_decide_eq_true (by assumption);have q273 : (ji13) < (l0.length : Int) := of_decide_eq_true (by assumption);obtain ⟨ad273,e273,hx273_0⟩ := Kd.at_int HR0.out (ji13) p273 q273;cases e273;replace hx273_0 := xM HB hx273_0;replace p273 := eq_true p273;replace q273 := eq_true q273))
      go_ret3
      exact ⟨_,by first|rfl|(simp [errW_none,errW_some] <;> rfl)|(simp only [← hji13];first|rfl|(simp [errW_none,errW_some] <;> rfl))|(simp [*,errW_none,errW_some] <;> rfl),by first|exact Kd.R_nil _ _ _ _ _|exact Kd.N_nil _ _ _ _ _|exact Kd.V_nil _ _ _ _ _|exact Kd.Q_nil _ _ _ _ _|exact Kd.S_nil _ _ _ _ _,bM HB.out⟩
 ·rw [if_neg c5] at H
  have c5b0 := beq_eq_false_iff_ne.mpr c5
  have c5b1 := bne_iff_ne.mpr c5
  simp only [Option.some.injEq,Prod.mk.injEq] at H
  obtain ⟨rfl,rfl,rfl⟩ := H
  go_enter Tryd.func28,Tryd.ntmps28
  go_wp2_with (first|((with_reducible refine gate_callee (f := 32) rfl ?_);refine goesL_ (some 17) rfl rfl Tryd.func32 (by kernel_rfl) rfl #[.slice A0 l0.length c0,.int .i64 a1] rfl (by (try simp only [List.map_toArray,List.map_cons,List.map_nil]);first|done|rfl|(simp only [List.length_drop,List.length_take];rfl)) ?_;(with_reducible refine (varint_Get.calls k _ _ l0 a1 t268 t269 t270 _ ?side1 ?side2 A4.out).mono ?_);(case side1 => exact cM HR0.out);(case side2 => exact HC0.out);rintro e w' ⟨rfl,⟨nd,rfl⟩⟩;refine ⟨_,rfl,?_⟩))
  go_ret3
  exact ⟨_,by first|rfl|(simp [errW_none,errW_some] <;> rfl)|(simp [*,errW_none,errW_some] <;> rfl),by first|exact Kd.R_nil _ _ _ _ _|exact Kd.N_nil _ _ _ _ _|exact Kd.V_nil _ _ _ _ _|exact Kd.Q_nil _ _ _ _ _|exact Kd.S_nil _ _ _ _ _,bM HB.out⟩

/-! ### manifest_Recover: function 16 -/
def manifest_Recover.l0 : Nat → List Int → List (S37) → Int → Option ((List (S37)) × Int)
|0,_,_,_ => none
|k + 1,x0,x4,x5 => (checksum_Open.f k x0 x5 9223372036854775807).bind fun bt281 => (if bt281.2.2 = 0 then ((manifest_Decode.f k bt281.1).bind fun bt286 => (if bt286.2.2.2.2.2.2 = 0 then (if bt286.1 = (wrap64 ((x4.length : Int) + 1)) then (if x4.length < 1466015503701 then (manifest_Recover.l0 k x0 (x4 ++ [(⟨bt286.1,bt286.2.1,bt286.2.2.1,bt286.2.2.2.1,bt286.2.2.2.2.1,bt286.2.2.2.2.2.1⟩ : S37)]) bt281.2.1) else (none)) else (some (x4,x5))) else (some (x4,x5)))) else (some (x4,x5)))
def manifest_Recover.f (k : Nat) (l0 : List Int) : Option ((List (S37)) × Int) := manifest_Recover.l0 k l0 ([] : List (S37)) 0
theorem manifest_Recover.mono_l : ∀ k, (∀ y0 y1 y2, LeO (manifest_Recover.l0 k y0 y1 y2) (manifest_Recover.l0 (k + 1) y0 y1 y2))
|0 => fun _ _ _ r h => by simp [manifest_Recover.l0] at h
|k + 1 => by
  have ih0 := manifest_Recover.mono_l k
  ·intro y0 y1 y2
   unfold manifest_Recover.l0
   repeat' (with_reducible first|exact ih0 _ _ _|exact checksum_Open.mono _ _ _ _|exact manifest_Decode.mono _ _|exact LeO.refl _|exact LeO.none _|refine LeO.ite ?_ ?_|refine LeO.bind ?_ (fun _ => ?_))
theorem manifest_Recover.mono : ∀ a0 k, LeO (manifest_Recover.f k a0) (manifest_Recover.f (k + 1) a0) := by
 intro a0 k
 have ih0 := manifest_Recover.mono_l k
 unfold manifest_Recover.f
 repeat' first
  |(with_reducible exact ih0 _ _ _)
  |(with_reducible exact checksum_Open.mono _ _ _ _)
  |(with_reducible exact manifest_Decode.mono _ _)
  |(with_reducible exact LeO.refl _)
  |(with_reducible exact LeO.none _)
  |(with_reducible refine LeO.ite ?_ ?_)
  |(with_reducible refine LeO.bind ?_ (fun _ => ?_))
  |exact ih0 _ _ _
  |exact checksum_Open.mono _ _ _ _
  |exact manifest_Decode.mono _ _
  |exact LeO.none _
  |refine LeO.ite ?_ ?_
  |refine LeO.bind ?_ (fun _ => ?_)
set_option maxHeartbeats 4000000 in
set_option maxRecDepth 100000 in
theorem manifest_Recover.calls (k : Nat) (A0 : Option Addr) (c0 : Nat) (l0 : List Int) (r1 : List (S37)) (r2 : Int) (w : World) (hr0 : Kd.C (Kd.int .u8) w A0 l0.length l0) (hc0 : l0.length ≤ c0) (h : manifest_Recover.f k l0 = some (r1, r2)) :
  Calls Tryd.prog 16 #[.slice A0 l0.length c0] w fun e w' => ∃ v0_ : Value,e = .returned (.tuple #[v0_,.int .i64 r2]) ∧ Kd.S k37 37 w' w.heap.size (fun _ => True) v0_ r1 ∧ Below w.heap.size w w' := by
 have hu37 := Tryd.underlying37
 have HR0 := aK hr0
 have HC0 := aK hc0
 clear hr0 hc0
 have HB := aK (Below.refl w.heap.size w)
 have H : (manifest_Recover.l0 k l0 ([] : List (S37)) 0) = some (r1,r2) := h
 clear h
 have H' := aK H
 clear H
 go_enter Tryd.func16,Tryd.ntmps16
 go_wp2
 go_loopg [4,5] k (fun kq v4 v5 w' => ∃ (x4_1 : List (S37)) (x5_1 : Int),v5 = .int .i64 x5_1 ∧ Aside0 (manifest_Recover.l0 kq l0 x4_1 x5_1 = some (r1,r2)) ∧ Aside0 (kq ≤ k) ∧ Aside0 (Kd.S k37 37 w' w.heap.size (fun _ => True) v4 x4_1) ∧ Aside0 (Below w.heap.size w w'))
 case atStart => exact ⟨(([] : List (S37))),(0),(by first|rfl|(simp;done)|(simp [*];done)),H',⟨Nat.le_refl _⟩,⟨by first|exact Kd.S_nil _ _ _ _ _|exact Kd.N_nil _ _ _ _ _|exact Kd.V_nil _ _ _ _ _|exact Kd.Q_nil _ _ _ _ _|exact Kd.R_nil _ _ _ _ _⟩,⟨bM HB.out⟩⟩
 case round =>
  clear H'
  obtain ⟨x4_1,x5_1,rfl,HA,HK1,HO_4,HB⟩ := hrel
  cases gk with
 |zero => exact absurd HA.out (by simp [manifest_Recover.l0])
 |succ k1 =>
   have H := HA.out
   clear HA
   simp only [manifest_Recover.l0] at H
   replace H := Option.bind_eq_some_iff.mp H
   obtain ⟨⟨t281,t282,t283⟩,A20,H⟩ := H
   replace H : (if t283 = 0 then ((manifest_Decode.f k1 t281).bind fun bt286 => (if bt286.2.2.2.2.2.2 = 0 then (if bt286.1 = (wrap64 ((x4_1.length : Int) + 1)) then (if x4_1.length < 1466015503701 then (manifest_Recover.l0 k1 l0 (x4_1 ++ [(⟨bt286.1,bt286.2.1,bt286.2.2.1,bt286.2.2.2.1,bt286.2.2.2.2.1,bt286.2.2.2.2.2.1⟩ : S37)]) t282) else (none)) else (some (x4_1,x5_1))) else (some (x4_1,x5_1)))) else (some (x4_1,x5_1))) = some (r1,r2) := H
   have A2 := aK A20
   clear A20
   by_cases c3 : t283 = 0
   ·rw [if_pos c3] at H
    have c3b0 := beq_iff_eq.mpr c3
    have c3b1 := bne_eq_false_iff_eq.mpr c3
    clear c3
    replace H := Option.bind_eq_some_iff.mp H
    obtain ⟨⟨t286,t287,t288,t289,t292,t295,t298⟩,A40,H⟩ := H
    replace H : (if t298 = 0 then (if t286 = (wrap64 ((x4_1.length : Int) + 1)) then (if x4_1.length < 1466015503701 then (manifest_Recover.l0 k1 l0 (x4_1 ++ [(⟨t286,t287,t288,t289,t292,t295⟩ : S37)]) t282) else (none)) else (some (x4_1,x5_1))) else (some (x4_1,x5_1))) = some (r1,r2) := H
    have A4 := aK A40
    clear A40
    by_cases c5 : t298 = 0
    ·rw [if_pos c5] at H
     have c5b0 := beq_iff_eq.mpr c5
     have c5b1 := bne_eq_false_iff_eq.mpr c5
     clear c5
     by_cases c6 : t286 = (wrap64 ((x4_1.length : Int) + 1))
     ·rw [if_pos c6] at H
      have c6b0 := beq_iff_eq.mpr c6
      have c6b1 := bne_eq_false_iff_eq.mpr c6
      clear c6
      obtain ⟨c7,H⟩ := iS H
      have LMc7 := aK c7
      clear c7
      obtain ⟨y300,hy300⟩ : ∃ y_ : List (S37),y_ = (x4_1 ++ [(⟨t286,t287,t288,t289,t292,t295⟩ : S37)]) := ⟨_,rfl⟩
      replace H : (manifest_Recover.l0 k1 l0 y300 t282) = some (r1,r2) := by first|(rw [hy300];with_reducible exact H)|(have H2_ := (Option.bind_some _ _).symm.trans H;rw [hy300];with_reducible exact H2_)|(have H2_ := (Option.bind_some _ _).symm.trans H;with_reducible exact H2_)|with_reducible exact H|(rw [hy300];exact H)|exact H
      have Ny300 := aK hy300
      clear hy300
      have H' := aK H
      clear H
      go_wp2_with (first|((with_reducible refine gate_callee (f := 28) rfl ?_);refine goesL_ (some 13) rfl rfl Tryd.func28 (by kernel_rfl) rfl #[.slice A0 l0.length c0,.int .i64 x5_1,.int .i64 9223372036854775807] rfl (by (try simp only [List.map_toArray,List.map_cons,List.map_nil]);first|done|rfl|(simp only [List.length_drop,List.length_take];rfl)) ?_;(with_reducible refine (checksum_Open.calls k1 _ _ l0 x5_1 9223372036854775807 t281 t282 t283 _ ?side1 ?side2 A2.out).mono ?_);(case side1 => exact cM (Kd.C_below HR0.out HB.out));(case side2 => exact HC0.out);rintro e w8 ⟨v284,rfl,ho0,hb⟩;refine ⟨_,rfl,?_⟩;replace HO_4 := aK (Kd.S_below (by (with_reducible repeat (first|apply Kd.S_alloc|apply Kd.S_drewN|apply Kd.S_drew));exact HO_4.out) hb);have HO285 := aK (Kd.R_lower ho0 (below_size (bM HB.out)));replace HB := aK (below_step (bM HB.out) hb);(try clear hb);(try clear hk);(try clear ho0);obtain ⟨Ao9,co9,eo9⟩ := Kd.R_slice HO285.out;subst eo9)|((with_reducible refine gate_callee (f := 18) rfl ?_);refine goesL_ (some 23) rfl rfl Tryd.func18 (by kernel_rfl) rfl #[.slice Ao9 t281.length co9] rfl (by (try simp only [List.map_toArray,List.map_cons,List.map_nil]);first|done|rfl|(simp only [List.length_drop,List.length_take];rfl)) ?_;(with_reducible refine (manifest_Decode.calls k1 _ _ t281 t286 t287 t288 t289 t292 t295 t298 _ ?side1 ?side2 A4.out).mono ?_);(case side1 => exact cM (Kd.R_reads' HO285.out).2.2);(case side2 => exact (Kd.R_reads' HO285.out).2.1);rintro e w10 ⟨v290,v293,v296,rfl,ho0,ho1,ho2,hb⟩;refine ⟨_,rfl,?_⟩;replace HO_4 := aK (Kd.S_mono (Kd.S_told (Kd.S_told (Kd.S_told (Kd.S_old (by (with_reducible repeat (first|apply Kd.S_alloc|apply Kd.S_drewN|apply Kd.S_drew));exact HO_4.out) hb) (Kd.R_base ho0)) (Kd.R_base ho1)) (Kd.R_base ho2)) (fun _ h_ => h_.1));replace HO285 := aK (Kd.R_below (rM HO285.out) hb);have HO291 := aK (Kd.R_lower ho0 (below_size (bM HB.out)));have HO294 := aK (Kd.R_lower ho1 (below_size (bM HB.out)));have HO297 := aK (Kd.R_lower ho2 (below_size (bM HB.out)));replace HB := aK (below_step (bM HB.out) hb);(try clear hb);(try clear hk);(try clear ho0);(try clear ho1);(try clear ho2))|((with_reducible refine gate_dst (N := 9) rfl ?_);(try (refine gate_guard (by rfl) ?_;dsimp only));refine box_event ?hg (N := 9) ?hd (cs := #[.int .i64 0,.int .i64 0,.int .i64 0,.slice none 0 0,.slice none 0 0,.slice none 0 0]) (t := 37) ?hr ?_;(case hd => rfl);(case hg => rfl);(case hr => first|(go_simp;done)|(go_simp;rfl));intro gb299 hg w11 hbox hb;replace HO_4 := aK (Kd.S_below (Kd.S_elderB (by (with_reducible repeat (first|apply Kd.S_alloc|apply Kd.S_drewN|apply Kd.S_drew));exact HO_4.out) gb299 (Nat.le_of_eq hg.symm)) hb);replace HO285 := aK (Kd.R_below (rM HO285.out) hb);replace HO291 := aK (Kd.R_below (rM HO291.out) hb);replace HO294 := aK (Kd.R_below (rM HO294.out) hb);replace HO297 := aK (Kd.R_below (rM HO297.out) hb);have BK299 := aK (hbox);have GW299 := aK ((by rw [hg];exact (below_size (bM HB.out)) : w.heap.size ≤ gb299));have GJ299 := Ge.mk GW299.out;have GE299 := aK ((by rw [hg];exact (below_size (bM HB.out)) : w.heap.size ≤ gb299));have GI299 := Ge.mk GE299.out;replace HB := aK (below_step (bM HB.out) hb);clear hb hbox hg;obtain ⟨_,_,_,_,_,_,_,_,_,_,_,_⟩ := bk6_ BK299.out;obtain ⟨Ao13,co13,eo13⟩ := Kd.R_slice HO291.out;subst eo13;obtain ⟨Ao14,co14,eo14⟩ := Kd.R_slice HO294.out;subst eo14;obtain ⟨Ao15,co15,eo15⟩ := Kd.R_slice HO297.out;subst eo15)|((with_reducible refine gate_store (t := 37) (p := 9) rfl ?_);refine store_event (t := 37) (p := 9) (v := ?vo_w16) (w1 := ((((((w11.setCell ⟨gb299,0,none⟩ (.int .i64 t286)).setCell ⟨gb299,1,none⟩ (.int .i64 t287)).setCell ⟨gb299,2,none⟩ (.int .i64 t288)).setCell ⟨gb299,3,none⟩ (.slice Ao13 t289.length co13)).setCell ⟨gb299,4,none⟩ (.slice Ao14 t292.length co14)).setCell ⟨gb299,5,none⟩ (.slice Ao15 t295.length co15))) ?hg ?ho ?hn ?hr ?_;(case ho => rfl);(case hg => rfl);(case hn => rfl);(case hr => first|(go_simp;done)|(go_simp;rfl));intro w16 hw;have n0_ : Aside0 (Kd.S k37 37 w16 w.heap.size (fun k_ => some k_ ≠ (.slice Ao13 t289.length co13 : Value).ownBlock ∧ some k_ ≠ (.slice Ao14 t292.length co14 : Value).ownBlock ∧ some k_ ≠ (.slice Ao15 t295.length co15 : Value).ownBlock ∧ k_ ≠ gb299) u4 x4_1) := ⟨(by rw [hw];exact (by (with_reducible repeat (first|apply Kd.S_alloc|apply Kd.S_drewN|apply Kd.S_drew));exact Kd.S_mono (Kd.S_far (p := ⟨gb299,5,none⟩) (Kd.S_far (p := ⟨gb299,4,none⟩) (Kd.S_far (p := ⟨gb299,3,none⟩) (Kd.S_far (p := ⟨gb299,2,none⟩) (Kd.S_far (p := ⟨gb299,1,none⟩) (Kd.S_far (p := ⟨gb299,0,none⟩) (Kd.S_mono HO_4.out (fun k_ hk => (⟨hk,hk.2⟩ : _ ∧ k_ ≠ gb299))) (fun _ hk => hk.2) (.int .i64 t286)) (fun _ hk => hk.2) (.int .i64 t287)) (fun _ hk => hk.2) (.int .i64 t288)) (fun _ hk => hk.2) (.slice Ao13 t289.length co13)) (fun _ hk => hk.2) (.slice Ao14 t292.length co14)) (fun _ hk => hk.2) (.slice Ao15 t295.length co15)) (fun _ hk => ⟨hk.1.1.1.1.2,⟨hk.1.1.1.2,⟨hk.1.1.2,hk.1.2⟩⟩⟩)))⟩;have n1_ : Aside0 (Kd.R (Kd.int .u8) 5 w16 w.heap.size (fun _ => True) (.slice Ao9 t281.length co9) t281) := ⟨(by rw [hw];exact (by (with_reducible repeat (first|apply Kd.R_alloc|apply Kd.R_drewN|apply Kd.R_drew));exact Kd.R_mono (Kd.R_far (p := ⟨gb299,5,none⟩) (Kd.R_far (p := ⟨gb299,4,none⟩) (Kd.R_far (p := ⟨gb299,3,none⟩) (Kd.R_far (p := ⟨gb299,2,none⟩) (Kd.R_far (p := ⟨gb299,1,none⟩) (Kd.R_far (p := ⟨gb299,0,none⟩) (Kd.R_types HO285.out BK299.out (by decide)) (fun _ hk => hk.2) (.int .i64 t286)) (fun _ hk => hk.2) (.int .i64 t287)) (fun _ hk => hk.2) (.int .i64 t288)) (fun _ hk => hk.2) (.slice Ao13 t289.length co13)) (fun _ hk => hk.2) (.slice Ao14 t292.length co14)) (fun _ hk => hk.2) (.slice Ao15 t295.length co15)) (fun _ hk => trivial)))⟩;have n2_ : Aside0 (Kd.R (Kd.int .i64) 3 w16 w.heap.size (fun k_ => some k_ ≠ (.slice Ao14 t292.length co14 : Value).ownBlock) (.slice Ao13 t289.length co13) t289) := ⟨(by rw [hw];exact (by (with_reducible repeat (first|apply Kd.R_alloc|apply Kd.R_drewN|apply Kd.R_drew));exact Kd.R_mono (Kd.R_far (p := ⟨gb299,5,none⟩) (Kd.R_far (p := ⟨gb299,4,none⟩) (Kd.R_far (p := ⟨gb299,3,none⟩) (Kd.R_far (p := ⟨gb299,2,none⟩) (Kd.R_far (p := ⟨gb299,1,none⟩) (Kd.R_far (p := ⟨gb299,0,none⟩) (Kd.R_types HO291.out BK299.out (by decide)) (fun _ hk => hk.2) (.int .i64 t286)) (fun _ hk => hk.2) (.int .i64 t287)) (fun _ hk => hk.2) (.int .i64 t288)) (fun _ hk => hk.2) (.slice Ao13 t289.length co13)) (fun _ hk => hk.2) (.slice Ao14 t292.length co14)) (fun _ hk => hk.2) (.slice Ao15 t295.length co15)) (fun _ hk => hk.1)))⟩;have n3_ : Aside0 (Kd.R (Kd.int .i64) 3 w16 w.heap.size (fun k_ => some k_ ≠ (.slice Ao13 t289.length co13 : Value).ownBlock) (.slice Ao14 t292.length co14) t292) := ⟨(by rw [hw];exact (by (with_reducible repeat (first|apply Kd.R_alloc|apply Kd.R_drewN|apply Kd.R_drew));exact Kd.R_mono (Kd.R_far (p := ⟨gb299,5,none⟩) (Kd.R_far (p := ⟨gb299,4,none⟩) (Kd.R_far (p := ⟨gb299,3,none⟩) (Kd.R_far (p := ⟨gb299,2,none⟩) (Kd.R_far (p := ⟨gb299,1,none⟩) (Kd.R_far (p := ⟨gb299,0,none⟩) (Kd.R_types HO294.out BK299.out (by decide)) (fun _ hk => hk.2) (.int .i64 t286)) (fun _ hk => hk.2) (.int .i64 t287)) (fun _ hk => hk.2) (.int .i64 t288)) (fun _ hk => hk.2) (.slice Ao13 t289.length co13)) (fun _ hk => hk.2) (.slice Ao14 t292.length co14)) (fun _ hk => hk.2) (.slice Ao15 t295.length co15)) (fun _ hk => hk.1)))⟩;have n4_ : Aside0 (Kd.R Kd.string 9 w16 w.heap.size (fun _ => True) (.slice Ao15 t295.length co15) t295) := ⟨(by rw [hw];exact (by (with_reducible repeat (first|apply Kd.R_alloc|apply Kd.R_drewN|apply Kd.R_drew));exact Kd.R_mono (Kd.R_far (p := ⟨gb299,5,none⟩) (Kd.R_far (p := ⟨gb299,4,none⟩) (Kd.R_far (p := ⟨gb299,3,none⟩) (Kd.R_far (p := ⟨gb299,2,none⟩) (Kd.R_far (p := ⟨gb299,1,none⟩) (Kd.R_far (p := ⟨gb299,0,none⟩) (Kd.R_types HO297.out BK299.out (by decide)) (fun _ hk => hk.2) (.int .i64 t286)) (fun _ hk => hk.2) (.int .i64 t287)) (fun _ hk => hk.2) (.int .i64 t288)) (fun _ hk => hk.2) (.slice Ao13 t289.length co13)) (fun _ hk => hk.2) (.slice Ao14 t292.length co14)) (fun _ hk => hk.2) (.slice Ao15 t295.length co15)) (fun _ hk => trivial)))⟩;have n5_ : Aside0 (w16.heap[gb299]? = some (.cells #[.int .i64 t286,.int .i64 t287,.int .i64 t288,.slice Ao13 t289.length co13,.slice Ao14 t292.length co14,.slice Ao15 t295.length co15] 37 (0,0))) := ⟨(by rw [hw];exact (by (with_reducible repeat (first|refine blk_drewN ?_ _|refine blk_drew ?_|refine blk_alloc ?_ _));refine blk_put (cs := #[.int .i64 t286,.int .i64 t287,.int .i64 t288,.slice Ao13 t289.length co13,.slice Ao14 t292.length co14,.slice none 0 0]) ?_ 5 _ rfl;(with_reducible repeat (first|refine blk_drewN ?_ _|refine blk_drew ?_|refine blk_alloc ?_ _));refine blk_put (cs := #[.int .i64 t286,.int .i64 t287,.int .i64 t288,.slice Ao13 t289.length co13,.slice none 0 0,.slice none 0 0]) ?_ 4 _ rfl;(with_reducible repeat (first|refine blk_drewN ?_ _|refine blk_drew ?_|refine blk_alloc ?_ _));refine blk_put (cs := #[.int .i64 t286,.int .i64 t287,.int .i64 t288,.slice none 0 0,.slice none 0 0,.slice none 0 0]) ?_ 3 _ rfl;(with_reducible repeat (first|refine blk_drewN ?_ _|refine blk_drew ?_|refine blk_alloc ?_ _));refine blk_put (cs := #[.int .i64 t286,.int .i64 t287,.int .i64 0,.slice none 0 0,.slice none 0 0,.slice none 0 0]) ?_ 2 _ rfl;(with_reducible repeat (first|refine blk_drewN ?_ _|refine blk_drew ?_|refine blk_alloc ?_ _));refine blk_put (cs := #[.int .i64 t286,.int .i64 0,.int .i64 0,.slice none 0 0,.slice none 0 0,.slice none 0 0]) ?_ 1 _ rfl;(with_reducible repeat (first|refine blk_drewN ?_ _|refine blk_drew ?_|refine blk_alloc ?_ _));refine blk_put (cs := #[.int .i64 0,.int .i64 0,.int .i64 0,.slice none 0 0,.slice none 0 0,.slice none 0 0]) ?_ 0 _ rfl;(with_reducible repeat (first|refine blk_drewN ?_ _|refine blk_drew ?_|refine blk_alloc ?_ _));exact BK299.out))⟩;have n6_ : Aside0 (Below w.heap.size w w16) := ⟨(by rw [hw];exact (bG HB.out))⟩;clear hw;clear HO_4;clear HO285;clear HO291;clear HO294;clear HO297;clear BK299;clear HB;have HO_4 := n0_;have HO285 := n1_;have HO291 := n2_;have HO294 := n3_;have HO297 := n4_;have BK299 := n5_;have HB := n6_;clear n0_ n1_ n2_ n3_ n4_ n5_ n6_;obtain ⟨_,_,_,_,_,_,_,_,_,_,_,_⟩ := bk6_ BK299.out;obtain ⟨Ao18,co18,eo18⟩ := Kd.S_slice HO_4.out;subst eo18)|((with_reducible refine gate_builtin (b := .append) (xs := #[.tmp 38,.tmp 40]) rfl ?_);(try (refine gate_guard (by rfl) ?_;dsimp only));at_builtin;refine Kd.S_append k37 (w0 := w) w.heap.size rfl (.tmp 38) (.tmp 40) 22 37 (.agg #[(.int .i64 0),(.int .i64 0),(.int .i64 0),(.slice none 0 0),(.slice none 0 0),(.slice none 0 0)]) 96 rfl Tryd.underlying22 info37 rfl (by decide) (by omega) (.slice Ao18 x4_1.length co18) x4_1 (⟨t286,t287,t288,t289,t292,t295⟩ : S37) [.int .i64 t286,.int .i64 t287,.int .i64 t288,.slice Ao13 t289.length co13,.slice Ao14 t292.length co14,.slice Ao15 t295.length co15] (fun k_ => k_ ≠ gb299) (fun k_ => some k_ = (.slice Ao13 t289.length co13 : Value).ownBlock ∨ some k_ = (.slice Ao14 t292.length co14 : Value).ownBlock ∨ some k_ = (.slice Ao15 t295.length co15 : Value).ownBlock) rfl rfl ?aP (fun k_ hk_ => hk_.elim (fun h_ => ((Kd.R_mono (ok' := fun k_ => ((fun k_ => k_ ≠ gb299)) k_ ∧ some k_ ≠ (.slice Ao18 x4_1.length co18 : Value).ownBlock) (Kd.R_types (Kd.R_apart' (HO291.out) (Kd.S_typed HO_4.out) (by decide)) BK299.out (by decide)) (fun k_ hk => ⟨hk.2,hk.1.2⟩))).1 k_ h_.symm) (fun h_ => h_.elim (fun h_ => ((Kd.R_mono (ok' := fun k_ => ((fun k_ => k_ ≠ gb299)) k_ ∧ some k_ ≠ (.slice Ao18 x4_1.length co18 : Value).ownBlock) (Kd.R_types (Kd.R_apart' (HO294.out) (Kd.S_typed HO_4.out) (by decide)) BK299.out (by decide)) (fun k_ hk => ⟨hk.2,hk.1.2⟩))).1 k_ h_.symm) (fun h_ => ((Kd.R_mono (ok' := fun k_ => ((fun k_ => k_ ≠ gb299)) k_ ∧ some k_ ≠ (.slice Ao18 x4_1.length co18 : Value).ownBlock) (Kd.R_types (Kd.R_apart' (HO297.out) (Kd.S_typed HO_4.out) (by decide)) BK299.out (by decide)) (fun k_ hk => ⟨hk.2,hk.1.2⟩))).1 k_ h_.symm))) ?aF ?aO ?aB ?aS ?aL ?_;(case aP => exact k37_mkM _ _ _ (⟨t286,t287,t288,t289,t292,t295⟩ : S37) (Kd.R_mono (Kd.R_tight rfl (Kd.R_mono (ok' := fun k_ => ((fun k_ => k_ ≠ gb299)) k_ ∧ some k_ ≠ (.slice Ao18 x4_1.length co18 : Value).ownBlock) (Kd.R_types (Kd.R_apart' (HO291.out) (Kd.S_typed HO_4.out) (by decide)) BK299.out (by decide)) (fun k_ hk => ⟨hk.2,hk.1.2⟩))) (fun _ h_ => Or.inl h_)) (Kd.R_mono (Kd.R_tight rfl (Kd.R_mono (ok' := fun k_ => ((fun k_ => k_ ≠ gb299)) k_ ∧ some k_ ≠ (.slice Ao18 x4_1.length co18 : Value).ownBlock) (Kd.R_types (Kd.R_apart' (HO294.out) (Kd.S_typed HO_4.out) (by decide)) BK299.out (by decide)) (fun k_ hk => ⟨hk.2,hk.1.2⟩))) (fun _ h_ => Or.inr (Or.inl h_))) (Kd.R_mono (Kd.R_tight rfl (Kd.R_mono (ok' := fun k_ => ((fun k_ => k_ ≠ gb299)) k_ ∧ some k_ ≠ (.slice Ao18 x4_1.length co18 : Value).ownBlock) (Kd.R_types (Kd.R_apart' (HO297.out) (Kd.S_typed HO_4.out) (by decide)) BK299.out (by decide)) (fun k_ hk => ⟨hk.2,hk.1.2⟩))) (fun _ h_ => Or.inr (Or.inr (h_)))));(case aB => exact (bG HB.out));(case aF => exact (fun k_ hk => Kd.freshB (g := gb299) (o := .cells #[.int .i64 t286,.int .i64 t287,.int .i64 t288,.slice Ao13 t289.length co13,.slice Ao14 t292.length co14,.slice Ao15 t295.length co15] 37 (0,0)) (kM BK299.out) k_ hk));(case aO => exact (by (with_reducible repeat (first|apply Kd.S_alloc|apply Kd.S_drewN|apply Kd.S_drew));exact Kd.S_mono HO_4.out (fun k_ hk => ⟨hk.2.2.2,fun e_ => e_.elim (fun h_ => hk.1 h_) (fun h_ => h_.elim (fun h_ => hk.2.1 h_) (fun h_ => hk.2.2.1 h_))⟩)));(case aS => exact (below_size (bG HB.out)));(case aL => have := LMc7.out;omega);intro v301 w19 ho hb hg hat;rw [← Ny300.out] at ho;replace HO285 := aK (Kd.R_over' (rM HO285.out) (Kd.S_typed (by (with_reducible repeat (first|apply Kd.S_alloc|apply Kd.S_drewN|apply Kd.S_drew));exact HO_4.out)) (by decide) hg);replace BK299 := aK (blk_grown (g := gb299) (o := .cells #[.int .i64 t286,.int .i64 t287,.int .i64 t288,.slice Ao13 t289.length co13,.slice Ao14 t292.length co14,.slice Ao15 t295.length co15] 37 (0,0)) (kM BK299.out) hg (Kd.S_away HO_4.out (fun _ hk => hk.2.2.2)));replace HB := aK (hb);have HO302 := aK (ho);clear ho hb hg hat))
      go_roundg k1
      case measure => have := HK1.out;omega
      case rel => exact ⟨(y300),(t282),(by first|rfl|(simp;done)|(simp [*];done)),H',⟨by have := HK1.out;omega⟩,⟨by (with_reducible repeat (first|apply Kd.S_alloc|apply Kd.S_drewN|apply Kd.S_drew));exact Kd.S_mono HO302.out (fun _ hk => trivial)⟩,⟨bG HB.out⟩⟩
     ·rw [if_neg c6] at H
      have c6b0 := beq_eq_false_iff_ne.mpr c6
      have c6b1 := bne_iff_ne.mpr c6
      simp only [Option.some.injEq,Prod.mk.injEq] at H
      obtain ⟨rfl,rfl⟩ := H
      go_wp2_with (first|((with_reducible refine gate_callee (f := 28) rfl ?_);refine goesL_ (some 13) rfl rfl Tryd.func28 (by kernel_rfl) rfl #[.slice A0 l0.length c0,.int .i64 x5_1,.int .i64 9223372036854775807] rfl (by (try simp only [List.map_toArray,List.map_cons,List.map_nil]);first|done|rfl|(simp only [List.length_drop,List.length_take];rfl)) ?_;(with_reducible refine (checksum_Open.calls k1 _ _ l0 x5_1 9223372036854775807 t281 t282 t283 _ ?side1 ?side2 A2.out).mono ?_);(case side1 => exact cM (Kd.C_below HR0.out HB.out));(case side2 => exact HC0.out);rintro e w20 ⟨v284,rfl,ho0,hb⟩;refine ⟨_,rfl,?_⟩;replace HO_4 := aK (Kd.S_below (by (with_reducible repeat (first|apply Kd.S_alloc|apply Kd.S_drewN|apply Kd.S_drew));exact HO_4.out) hb);have HO285 := aK (Kd.R_lower ho0 (below_size (bM HB.out)));replace HB := aK (below_step (bM HB.out) hb);(try clear hb);(try clear hk);(try clear ho0);obtain ⟨Ao21,co21,eo21⟩ := Kd.R_slice HO285.out;subst eo21)|((with_reducible refine gate_callee (f := 18) rfl ?_);refine goesL_ (some 23) rfl rfl Tryd.func18 (by kernel_rfl) rfl #[.slice Ao21 t281.length co21] rfl (by (try simp only [List.map_toArray,List.map_cons,List.map_nil]);first|done|rfl|(simp only [List.length_drop,List.length_take];rfl)) ?_;(with_reducible refine (manifest_Decode.calls k1 _ _ t281 t286 t287 t288 t289 t292 t295 t298 _ ?side1 ?side2 A4.out).mono ?_);(case side1 => exact cM (Kd.R_reads' HO285.out).2.2);(case side2 => exact (Kd.R_reads' HO285.out).2.1);rintro e w22 ⟨v290,v293,v296,rfl,ho0,ho1,ho2,hb⟩;refine ⟨_,rfl,?_⟩;replace HO_4 := aK (Kd.S_mono (Kd.S_told (Kd.S_told (Kd.S_told (Kd.S_old (by (with_reducible repeat (first|apply Kd.S_alloc|apply Kd.S_drewN|apply Kd.S_drew));exact HO_4.out) hb) (Kd.R_base ho0)) (Kd.R_base ho1)) (Kd.R_base ho2)) (fun _ h_ => h_.1));replace HO285 := aK (Kd.R_below (rM HO285.out) hb);have HO291 := aK (Kd.R_lower ho0 (below_size (bM HB.out)));have HO294 := aK (Kd.R_lower ho1 (below_size (bM HB.out)));have HO297 := aK (Kd.R_lower ho2 (below_size (bM HB.out)));replace HB := aK (below_step (bM HB.out) hb);(try clear hb);(try clear hk);(try clear ho0);(try clear ho1);(try clear ho2))|((with_reducible refine gate_dst (N := 9) rfl ?_);(try (refine gate_guard (by rfl) ?_;dsimp only));refine box_event ?hg (N := 9) ?hd (cs := #[.int .i64 0,.int .i64 0,.int .i64 0,.slice none 0 0,.slice none 0 0,.slice none 0 0]) (t := 37) ?hr ?_;(case hd => rfl);(case hg => rfl);(case hr => first|(go_simp;done)|(go_simp;rfl));intro gb299 hg w23 hbox hb;replace HO_4 := aK (Kd.S_below (Kd.S_elderB (by (with_reducible repeat (first|apply Kd.S_alloc|apply Kd.S_drewN|apply Kd.S_drew));exact HO_4.out) gb299 (Nat.le_of_eq hg.symm)) hb);replace HO285 := aK (Kd.R_below (rM HO285.out) hb);replace HO291 := aK (Kd.R_below (rM HO291.out) hb);replace HO294 := aK (Kd.R_below (rM HO294.out) hb);replace HO297 := aK (Kd.R_below (rM HO297.out) hb);have BK299 := aK (hbox);have GW299 := aK ((by rw [hg];exact (below_size (bM HB.out)) : w.heap.size ≤ gb299));have GJ299 := Ge.mk GW299.out;have GE299 := aK ((by rw [hg];exact (below_size (bM HB.out)) : w.heap.size ≤ gb299));have GI299 := Ge.mk GE299.out;replace HB := aK (below_step (bM HB.out) hb);clear hb hbox hg;obtain ⟨_,_,_,_,_,_,_,_,_,_,_,_⟩ := bk6_ BK299.out;obtain ⟨Ao25,co25,eo25⟩ := Kd.R_slice HO291.out;subst eo25;obtain ⟨Ao26,co26,eo26⟩ := Kd.R_slice HO294.out;subst eo26;obtain ⟨Ao27,co27,eo27⟩ := Kd.R_slice HO297.out;subst eo27;obtain ⟨Ao28,co28,eo28⟩ := Kd.S_slice HO_4.out;subst eo28))
      go_ret2
      exact ⟨_,by first|rfl|(simp [errW_none,errW_some] <;> rfl)|(simp [*,errW_none,errW_some] <;> rfl),by (with_reducible repeat (first|apply Kd.S_alloc|apply Kd.S_drewN|apply Kd.S_drew));exact Kd.S_mono (Kd.S_far (p := ⟨gb299,5,none⟩) (Kd.S_far (p := ⟨gb299,4,none⟩) (Kd.S_far (p := ⟨gb299,3,none⟩) (Kd.S_far (p := ⟨gb299,2,none⟩) (Kd.S_far (p := ⟨gb299,1,none⟩) (Kd.S_far (p := ⟨gb299,0,none⟩) (Kd.S_mono HO_4.out (fun k_ hk => (⟨hk,hk.2⟩ : _ ∧ k_ ≠ gb299))) (fun _ hk => hk.2) (.int .i64 t286)) (fun _ hk => hk.2) (.int .i64 t287)) (fun _ hk => hk.2) (.int .i64 t288)) (fun _ hk => hk.2) (.slice Ao25 t289.length co25)) (fun _ hk => hk.2) (.slice Ao26 t292.length co26)) (fun _ hk => hk.2) (.slice Ao27 t295.length co27)) (fun _ hk => trivial),bG HB.out⟩
    ·rw [if_neg c5] at H
     have c5b0 := beq_eq_false_iff_ne.mpr c5
     have c5b1 := bne_iff_ne.mpr c5
     simp only [Option.some.injEq,Prod.mk.injEq] at H
     obtain ⟨rfl,rfl⟩ := H
     go_wp2_with (first|((with_reducible refine gate_callee (f := 28) rfl ?_);refine goesL_ (some 13) rfl rfl Tryd.func28 (by kernel_rfl) rfl #[.slice A0 l0.length c0,.int .i64 x5_1,.int .i64 9223372036854775807] rfl (by (try simp only [List.map_toArray,List.map_cons,List.map_nil]);first|done|rfl|(simp only [List.length_drop,List.length_take];rfl)) ?_;(with_reducible refine (checksum_Open.calls k1 _ _ l0 x5_1 9223372036854775807 t281 t282 t283 _ ?side1 ?side2 A2.out).mono ?_);(case side1 => exact cM (Kd.C_below HR0.out HB.out));(case side2 => exact HC0.out);rintro e w29 ⟨v284,rfl,ho0,hb⟩;refine ⟨_,rfl,?_⟩;replace HO_4 := aK (Kd.S_below (by (with_reducible repeat (first|apply Kd.S_alloc|apply Kd.S_drewN|apply Kd.S_drew));exact HO_4.out) hb);have HO285 := aK (Kd.R_lower ho0 (below_size (bM HB.out)));replace HB := aK (below_step (bM HB.out) hb);(try clear hb);(try clear hk);(try clear ho0);obtain ⟨Ao30,co30,eo30⟩ := Kd.R_slice HO285.out;subst eo30)|((with_reducible refine gate_callee (f := 18) rfl ?_);refine goesL_ (some 23) rfl rfl Tryd.func18 (by kernel_rfl) rfl #[.slice Ao30 t281.length co30] rfl (by (try simp only [List.map_toArray,List.map_cons,List.map_nil]);first|done|rfl|(simp only [List.length_drop,List.length_take];rfl)) ?_;(with_reducible refine (manifest_Decode.calls k1 _ _ t281 t286 t287 t288 t289 t292 t295 t298 _ ?side1 ?side2 A4.out).mono ?_);(case side1 => exact cM (Kd.R_reads' HO285.out).2.2);(case side2 => exact (Kd.R_reads' HO285.out).2.1);rintro e w31 ⟨v290,v293,v296,rfl,ho0,ho1,ho2,hb⟩;refine ⟨_,rfl,?_⟩;replace HO_4 := aK (Kd.S_mono (Kd.S_told (Kd.S_told (Kd.S_told (Kd.S_old (by (with_reducible repeat (first|apply Kd.S_alloc|apply Kd.S_drewN|apply Kd.S_drew));exact HO_4.out) hb) (Kd.R_base ho0)) (Kd.R_base ho1)) (Kd.R_base ho2)) (fun _ h_ => h_.1));have HO291 := aK (Kd.R_lower ho0 (below_size (bM HB.out)));have HO294 := aK (Kd.R_lower ho1 (below_size (bM HB.out)));have HO297 := aK (Kd.R_lower ho2 (below_size (bM HB.out)));replace HB := aK (below_step (bM HB.out) hb);(try clear hb);(try clear hk);(try clear ho0);(try clear ho1);(try clear ho2))|((with_reducible refine gate_dst (N := 9) rfl ?_);(try (refine gate_guard (by rfl) ?_;dsimp only));refine box_event ?hg (N := 9) ?hd (cs := #[.int .i64 0,.int .i64 0,.int .i64 0,.slice none 0 0,.slice none 0 0,.slice none 0 0]) (t := 37) ?hr ?_;(case hd => rfl);(case hg => rfl);(case hr => first|(go_simp;done)|(go_simp;rfl));intro gb299 hg w32 hbox hb;replace HO_4 := aK (Kd.S_below (Kd.S_elderB (by (with_reducible repeat (first|apply Kd.S_alloc|apply Kd.S_drewN|apply Kd.S_drew));exact HO_4.out) gb299 (Nat.le_of_eq hg.symm)) hb);replace HO291 := aK (Kd.R_below (rM HO291.out) hb);replace HO294 := aK (Kd.R_below (rM HO294.out) hb);replace HO297 := aK (Kd.R_below (rM HO297.out) hb);have BK299 := aK (hbox);have GW299 := aK ((by rw [hg];exact (below_size (bM HB.out)) : w.heap.size ≤ gb299));have GJ299 := Ge.mk GW299.out;have GE299 := aK ((by rw [hg];exact (below_size (bM HB.out)) : w.heap.size ≤ gb299));have GI299 := Ge.mk GE299.out;replace HB := aK (below_step (bM HB.out) hb);clear hb hbox hg;obtain ⟨_,_,_,_,_,_,_,_,_,_,_,_⟩ := bk6_ BK299.out;obtain ⟨Ao34,co34,eo34⟩ := Kd.R_slice HO291.out;subst eo34;obtain ⟨Ao35,co35,eo35⟩ := Kd.R_slice HO294.out;subst eo35;obtain ⟨Ao36,co36,eo36⟩ := Kd.R_slice HO297.out;subst eo36))
     go_ret2
     exact ⟨_,by first|rfl|(simp [errW_none,errW_some] <;> rfl)|(simp [*,errW_none,errW_some] <;> rfl),by (with_reducible repeat (first|apply Kd.S_alloc|apply Kd.S_drewN|apply Kd.S_drew));exact Kd.S_mono (Kd.S_far (p := ⟨gb299,5,none⟩) (Kd.S_far (p := ⟨gb299,4,none⟩) (Kd.S_far (p := ⟨gb299,3,none⟩) (Kd.S_far (p := ⟨gb299,2,none⟩) (Kd.S_far (p := ⟨gb299,1,none⟩) (Kd.S_far (p := ⟨gb299,0,none⟩) (Kd.S_mono HO_4.out (fun k_ hk => (⟨hk,hk.2⟩ : _ ∧ k_ ≠ gb299))) (fun _ hk => hk.2) (.int .i64 t286)) (fun _ hk => hk.2) (.int .i64 t287)) (fun _ hk => hk.2) (.int .i64 t288)) (fun _ hk => hk.2) (.slice Ao34 t289.length co34)) (fun _ hk => hk.2) (.slice Ao35 t292.length co35)) (fun _ hk => hk.2) (.slice Ao36 t295.length co36)) (fun _ hk => trivial),bG HB.out⟩
   ·rw [if_neg c3] at H
    have c3b0 := beq_eq_false_iff_ne.mpr c3
    have c3b1 := bne_iff_ne.mpr c3
    simp only [Option.some.injEq,Prod.mk.injEq] at H
    obtain ⟨rfl,rfl⟩ := H
    go_wp2_with (first|((with_reducible refine gate_callee (f := 28) rfl ?_);refine goesL_ (some 13) rfl rfl Tryd.func28 (by kernel_rfl) rfl #[.slice A0 l0.length c0,.int .i64 x5_1,.int .i64 9223372036854775807] rfl (by (try simp only [List.map_toArray,List.map_cons,List.map_nil]);first|done|rfl|(simp only [List.length_drop,List.length_take];rfl)) ?_;(with_reducible refine (checksum_Open.calls k1 _ _ l0 x5_1 9223372036854775807 t281 t282 t283 _ ?side1 ?side2 A2.out).mono ?_);(case side1 => exact cM (Kd.C_below HR0.out HB.out));(case side2 => exact HC0.out);rintro e w37 ⟨v284,rfl,ho0,hb⟩;refine ⟨_,rfl,?_⟩;replace HO_4 := aK (Kd.S_below (by (with_reducible repeat (first|apply Kd.S_alloc|apply Kd.S_drewN|apply Kd.S_drew));exact HO_4.out) hb);replace HB := aK (below_step (bM HB.out) hb);(try clear hb);(try clear hk);(try clear ho0)))
    go_ret2
    exact ⟨_,by first|rfl|(simp [errW_none,errW_some] <;> rfl)|(simp [*,errW_none,errW_some] <;> rfl),by (with_reducible repeat (first|apply Kd.S_alloc|apply Kd.S_drewN|apply Kd.S_drew));exact HO_4.out,bM HB.out⟩

end Go.Proofs.YtmgliocboeifdaaDoor.T
