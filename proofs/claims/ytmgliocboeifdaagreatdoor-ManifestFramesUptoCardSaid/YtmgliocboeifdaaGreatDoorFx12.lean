import Derived.Test.YtmgliocboeifdaaGreatDoorFx0
import Derived.Test.YtmgliocboeifdaaGreatDoorFx1
import Derived.Test.YtmgliocboeifdaaGreatDoorFx9
import Derived.Test.YtmgliocboeifdaaGreatDoorFx10
import Derived.Test.YtmgliocboeifdaaGreatDoorFx11
namespace Go.Proofs.YtmgliocboeifdaaGreatDoor.F
open Go.RowKit Go.Proofs.YtmgliocboeifdaaGreatDoorW.PrintWords Go.Proofs.YtmgliocboeifdaaGreatDoorW.PrintLast Go.Proofs.YtmgliocboeifdaaGreatDoorW.PrintMore
set_option maxHeartbeats 4000000
set_option maxRecDepth 100000
attribute [local go_sem] max2_int min2_int max_two min_two max_three min_three max_four min_four
set_option linter.unusedVariables false
set_option linter.unusedSimpArgs false
def checksum_Open.f (k : Nat) (l0 : List Int) (a1 : Int) (a2 : Int) : Option (List Int × Int × Int) := (varint_Get.f k l0 a1).bind fun aa => (if aa.2.2 = 0 then (if aa.1 > a2 then (some (([] : List Int), 0, 4)) else (if (wrap64 ((l0.length : Int) - aa.2.1)) < 4 then (some (([] : List Int), 0, 5)) else (if aa.1 > (wrap64 ((wrap64 ((l0.length : Int) - aa.2.1)) - 4)) then (some (([] : List Int), 0, 5)) else (if 0 ≤ a1 then (if a1 ≤ (wrap64 (aa.2.1 + aa.1)) then (if (wrap64 (aa.2.1 + aa.1)) ≤ (l0.length : Int) then ((checksum_Sum.f ((l0.take ((wrap64 (aa.2.1 + aa.1)) : Int).toNat).drop (a1 : Int).toNat)).bind fun ab => (if 0 ≤ (wrap64 (aa.2.1 + aa.1)) then (if (wrap64 (aa.2.1 + aa.1)) < (l0.length : Int) then (if (rd l0 (wrap64 (aa.2.1 + aa.1))) = ((ab / 16777216) % 256) then (if 0 ≤ (wrap64 ((wrap64 (aa.2.1 + aa.1)) + 1)) then (if (wrap64 ((wrap64 (aa.2.1 + aa.1)) + 1)) < (l0.length : Int) then (if (rd l0 (wrap64 ((wrap64 (aa.2.1 + aa.1)) + 1))) = ((ab / 65536) % 256) then (if 0 ≤ (wrap64 ((wrap64 (aa.2.1 + aa.1)) + 2)) then (if (wrap64 ((wrap64 (aa.2.1 + aa.1)) + 2)) < (l0.length : Int) then (if (rd l0 (wrap64 ((wrap64 (aa.2.1 + aa.1)) + 2))) = ((ab / 256) % 256) then (if 0 ≤ (wrap64 ((wrap64 (aa.2.1 + aa.1)) + 3)) then (if (wrap64 ((wrap64 (aa.2.1 + aa.1)) + 3)) < (l0.length : Int) then (if (rd l0 (wrap64 ((wrap64 (aa.2.1 + aa.1)) + 3))) = ((ab) % 256) then (if 0 ≤ aa.2.1 then (if aa.2.1 ≤ (wrap64 (aa.2.1 + aa.1)) then ((slices_Clone_byte_byte.f ((l0.take ((wrap64 (aa.2.1 + aa.1)) : Int).toNat).drop (aa.2.1 : Int).toNat)).bind fun ac => (some (ac, wrap64 ((wrap64 (aa.2.1 + aa.1)) + 4), 0))) else (none)) else (none)) else (some (([] : List Int), 0, 6))) else (none)) else (none)) else (some (([] : List Int), 0, 6))) else (none)) else (none)) else (some (([] : List Int), 0, 6))) else (none)) else (none)) else (some (([] : List Int), 0, 6))) else (none)) else (none))) else (none)) else (none)) else (none))))) else (some (([] : List Int), 0, aa.2.2)))
theorem checksum_Open.mono : ∀ a0 a1 a2 k, LeO (checksum_Open.f k a0 a1 a2) (checksum_Open.f (k + 1) a0 a1 a2) := by
 intro a0 a1 a2 k
 unfold checksum_Open.f
 repeat' (with_reducible first|exact varint_Get.mono _ _ _|exact LeO.refl _|exact LeO.none _|refine LeO.ite ?_ ?_|refine LeO.bind ?_ (fun _ => ?_))
theorem checksum_Open.calls (k : Nat) (A0 : Option Addr) (c0 : Nat) (l0 : List Int) (a1 : Int) (a2 : Int) (r1 : List Int) (r2 : Int) (r3 : Int) (w : World) (b2 : Kd.C (Kd.int .u8) w A0 l0.length l0) (b3 : l0.length ≤ c0) (h : checksum_Open.f k l0 a1 a2 = some (r1, r2, r3)) :
  Calls Tryz.prog 47 #[.slice A0 l0.length c0,.int .i64 a1,.int .i64 a2] w fun e w' => ∃ b4 : Value,e = .returned (.tuple #[b4,.int .i64 r2,.int .i64 r3]) ∧ Kd.R (Kd.int .u8) 5 w' w.heap.size (fun _ => True) b4 r1 ∧ Below w.heap.size w w' := by
 have ar := aK b2
 have aJ := aK b3
 clear b2 b3
 have HB := aK (Below.refl w.heap.size w)
 have H : ((varint_Get.f k l0 a1).bind fun ab => (if ab.2.2 = 0 then (if ab.1 > a2 then (some (([] : List Int),0,4)) else (if (wrap64 ((l0.length : Int) - ab.2.1)) < 4 then (some (([] : List Int),0,5)) else (if ab.1 > (wrap64 ((wrap64 ((l0.length : Int) - ab.2.1)) - 4)) then (some (([] : List Int),0,5)) else (if 0 ≤ a1 then (if a1 ≤ (wrap64 (ab.2.1 + ab.1)) then (if (wrap64 (ab.2.1 + ab.1)) ≤ (l0.length : Int) then ((checksum_Sum.f ((l0.take ((wrap64 (ab.2.1 + ab.1)) : Int).toNat).drop (a1 : Int).toNat)).bind fun ai => (if 0 ≤ (wrap64 (ab.2.1 + ab.1)) then (if (wrap64 (ab.2.1 + ab.1)) < (l0.length : Int) then (if (rd l0 (wrap64 (ab.2.1 + ab.1))) = ((ai / 16777216) % 256) then (if 0 ≤ (wrap64 ((wrap64 (ab.2.1 + ab.1)) + 1)) then (if (wrap64 ((wrap64 (ab.2.1 + ab.1)) + 1)) < (l0.length : Int) then (if (rd l0 (wrap64 ((wrap64 (ab.2.1 + ab.1)) + 1))) = ((ai / 65536) % 256) then (if 0 ≤ (wrap64 ((wrap64 (ab.2.1 + ab.1)) + 2)) then (if (wrap64 ((wrap64 (ab.2.1 + ab.1)) + 2)) < (l0.length : Int) then (if (rd l0 (wrap64 ((wrap64 (ab.2.1 + ab.1)) + 2))) = ((ai / 256) % 256) then (if 0 ≤ (wrap64 ((wrap64 (ab.2.1 + ab.1)) + 3)) then (if (wrap64 ((wrap64 (ab.2.1 + ab.1)) + 3)) < (l0.length : Int) then (if (rd l0 (wrap64 ((wrap64 (ab.2.1 + ab.1)) + 3))) = ((ai) % 256) then (if 0 ≤ ab.2.1 then (if ab.2.1 ≤ (wrap64 (ab.2.1 + ab.1)) then ((slices_Clone_byte_byte.f ((l0.take ((wrap64 (ab.2.1 + ab.1)) : Int).toNat).drop (ab.2.1 : Int).toNat)).bind fun az => (some (az,wrap64 ((wrap64 (ab.2.1 + ab.1)) + 4),0))) else (none)) else (none)) else (some (([] : List Int),0,6))) else (none)) else (none)) else (some (([] : List Int),0,6))) else (none)) else (none)) else (some (([] : List Int),0,6))) else (none)) else (none)) else (some (([] : List Int),0,6))) else (none)) else (none))) else (none)) else (none)) else (none))))) else (some (([] : List Int),0,ab.2.2)))) = some (r1,r2,r3) := h
 clear h
 replace H := Option.bind_eq_some_iff.mp H
 obtain ⟨⟨ah,ac,aB⟩,b5,H⟩ := H
 replace H : (if aB = 0 then (if ah > a2 then (some (([] : List Int),0,4)) else (if (wrap64 ((l0.length : Int) - ac)) < 4 then (some (([] : List Int),0,5)) else (if ah > (wrap64 ((wrap64 ((l0.length : Int) - ac)) - 4)) then (some (([] : List Int),0,5)) else (if 0 ≤ a1 then (if a1 ≤ (wrap64 (ac + ah)) then (if (wrap64 (ac + ah)) ≤ (l0.length : Int) then ((checksum_Sum.f ((l0.take ((wrap64 (ac + ah)) : Int).toNat).drop (a1 : Int).toNat)).bind fun ai => (if 0 ≤ (wrap64 (ac + ah)) then (if (wrap64 (ac + ah)) < (l0.length : Int) then (if (rd l0 (wrap64 (ac + ah))) = ((ai / 16777216) % 256) then (if 0 ≤ (wrap64 ((wrap64 (ac + ah)) + 1)) then (if (wrap64 ((wrap64 (ac + ah)) + 1)) < (l0.length : Int) then (if (rd l0 (wrap64 ((wrap64 (ac + ah)) + 1))) = ((ai / 65536) % 256) then (if 0 ≤ (wrap64 ((wrap64 (ac + ah)) + 2)) then (if (wrap64 ((wrap64 (ac + ah)) + 2)) < (l0.length : Int) then (if (rd l0 (wrap64 ((wrap64 (ac + ah)) + 2))) = ((ai / 256) % 256) then (if 0 ≤ (wrap64 ((wrap64 (ac + ah)) + 3)) then (if (wrap64 ((wrap64 (ac + ah)) + 3)) < (l0.length : Int) then (if (rd l0 (wrap64 ((wrap64 (ac + ah)) + 3))) = ((ai) % 256) then (if 0 ≤ ac then (if ac ≤ (wrap64 (ac + ah)) then ((slices_Clone_byte_byte.f ((l0.take ((wrap64 (ac + ah)) : Int).toNat).drop (ac : Int).toNat)).bind fun az => (some (az,wrap64 ((wrap64 (ac + ah)) + 4),0))) else (none)) else (none)) else (some (([] : List Int),0,6))) else (none)) else (none)) else (some (([] : List Int),0,6))) else (none)) else (none)) else (some (([] : List Int),0,6))) else (none)) else (none)) else (some (([] : List Int),0,6))) else (none)) else (none))) else (none)) else (none)) else (none))))) else (some (([] : List Int),0,aB))) = some (r1,r2,r3) := H
 have A4 := aK b5
 clear b5
 by_cases c5 : aB = 0
 ·rw [if_pos c5] at H
  have bJ := beq_iff_eq.mpr c5
  have bK := bne_eq_false_iff_eq.mpr c5
  clear c5
  by_cases c6 : ah > a2
  ·rw [if_pos c6] at H
   have bL := decide_eq_true c6
   clear c6
   simp only [Option.some.injEq,Prod.mk.injEq] at H
   obtain ⟨rfl,rfl,rfl⟩ := H
   go_enter Tryz.func47,Tryz.ntmps47
   go_wp2_with (first|((with_reducible refine gate_callee (f := 32) rfl ?_);refine gL 17 Tryz.func32 #[.slice A0 l0.length c0,.int .i64 a1] ?_;(with_reducible refine (varint_Get.calls k _ _ l0 a1 ah ac aB _ ?ad ?ae A4.out).mono ?_);(case ad => exact cM ar.out);(case ae => exact aJ.out);rintro e w' ⟨rfl,⟨nd,rfl⟩⟩;refine ⟨_,rfl,?_⟩))
   go_ret3
   exact ⟨_,by first|rfl|(simp [errW_none,errW_some] <;> rfl)|(simp [*,errW_none,errW_some] <;> rfl),by first|exact Kd.R_nil _ _ _ _ _|exact Kd.N_nil _ _ _ _ _|exact Kd.V_nil _ _ _ _ _|exact Kd.Q_nil _ _ _ _ _|exact Kd.S_nil _ _ _ _ _,bM HB.out⟩
  ·rw [if_neg c6] at H
   have bL := decide_eq_false c6
   clear c6
   by_cases c7 : (wrap64 ((l0.length : Int) - ac)) < 4
   ·rw [if_pos c7] at H
    have bN := decide_eq_true c7
    clear c7
    simp only [Option.some.injEq,Prod.mk.injEq] at H
    obtain ⟨rfl,rfl,rfl⟩ := H
    go_enter Tryz.func47,Tryz.ntmps47
    go_wp2_with (first|((with_reducible refine gate_callee (f := 32) rfl ?_);refine gL 17 Tryz.func32 #[.slice A0 l0.length c0,.int .i64 a1] ?_;(with_reducible refine (varint_Get.calls k _ _ l0 a1 ah ac aB _ ?ad ?ae A4.out).mono ?_);(case ad => exact cM ar.out);(case ae => exact aJ.out);rintro e w' ⟨rfl,⟨nd,rfl⟩⟩;refine ⟨_,rfl,?_⟩))
    go_ret3
    exact ⟨_,by first|rfl|(simp [errW_none,errW_some] <;> rfl)|(simp [*,errW_none,errW_some] <;> rfl),by first|exact Kd.R_nil _ _ _ _ _|exact Kd.N_nil _ _ _ _ _|exact Kd.V_nil _ _ _ _ _|exact Kd.Q_nil _ _ _ _ _|exact Kd.S_nil _ _ _ _ _,bM HB.out⟩
   ·rw [if_neg c7] at H
    have bN := decide_eq_false c7
    clear c7
    by_cases c8 : ah > (wrap64 ((wrap64 ((l0.length : Int) - ac)) - 4))
    ·rw [if_pos c8] at H
     have bO := decide_eq_true c8
     clear c8
     simp only [Option.some.injEq,Prod.mk.injEq] at H
     obtain ⟨rfl,rfl,rfl⟩ := H
     go_enter Tryz.func47,Tryz.ntmps47
     go_wp2_with (first|((with_reducible refine gate_callee (f := 32) rfl ?_);refine gL 17 Tryz.func32 #[.slice A0 l0.length c0,.int .i64 a1] ?_;(with_reducible refine (varint_Get.calls k _ _ l0 a1 ah ac aB _ ?ad ?ae A4.out).mono ?_);(case ad => exact cM ar.out);(case ae => exact aJ.out);rintro e w' ⟨rfl,⟨nd,rfl⟩⟩;refine ⟨_,rfl,?_⟩))
     go_ret3
     exact ⟨_,by first|rfl|(simp [errW_none,errW_some] <;> rfl)|(simp [*,errW_none,errW_some] <;> rfl),by first|exact Kd.R_nil _ _ _ _ _|exact Kd.N_nil _ _ _ _ _|exact Kd.V_nil _ _ _ _ _|exact Kd.Q_nil _ _ _ _ _|exact Kd.S_nil _ _ _ _ _,bM HB.out⟩
    ·rw [if_neg c8] at H
     have bO := decide_eq_false c8
     clear c8
     obtain ⟨c9,H⟩ := iS H
     have cs := eq_true c9
     have ct := decide_eq_true c9
     clear c9
     obtain ⟨c10,H⟩ := iS H
     have ba := eq_true c10
     have bb := decide_eq_true c10
     obtain ⟨bP,H⟩ := iS H
     have bc := eq_true bP
     have bd := decide_eq_true bP
     replace H := Option.bind_eq_some_iff.mp H
     obtain ⟨ai,be,H⟩ := H
     have aQ := aK be
     clear be
     obtain ⟨aa,ag⟩ : ∃ j_ : Int,(wrap64 (ac + ah)) = j_ := ⟨_,rfl⟩
     replace H : (if 0 ≤ (aa) then (if (aa) < (l0.length : Int) then (if (rd l0 (aa)) = ((ai / 16777216) % 256) then (if 0 ≤ (wrap64 ((aa) + 1)) then (if (wrap64 ((aa) + 1)) < (l0.length : Int) then (if (rd l0 (wrap64 ((aa) + 1))) = ((ai / 65536) % 256) then (if 0 ≤ (wrap64 ((aa) + 2)) then (if (wrap64 ((aa) + 2)) < (l0.length : Int) then (if (rd l0 (wrap64 ((aa) + 2))) = ((ai / 256) % 256) then (if 0 ≤ (wrap64 ((aa) + 3)) then (if (wrap64 ((aa) + 3)) < (l0.length : Int) then (if (rd l0 (wrap64 ((aa) + 3))) = ((ai) % 256) then (if 0 ≤ ac then (if ac ≤ (aa) then ((slices_Clone_byte_byte.f ((l0.take ((aa) : Int).toNat).drop (ac : Int).toNat)).bind fun az => (some (az,wrap64 ((aa) + 4),0))) else (none)) else (none)) else (some (([] : List Int),0,6))) else (none)) else (none)) else (some (([] : List Int),0,6))) else (none)) else (none)) else (some (([] : List Int),0,6))) else (none)) else (none)) else (some (([] : List Int),0,6))) else (none)) else (none)) = some (r1,r2,r3) := by first|(rw [ag] at H;exact H)|(simp only [ag] at H ⊢;exact H)
     (try rw [ag] at ba)
     (try rw [ag] at bb)
     (try rw [ag] at c10)
     (try rw [ag] at bc)
     (try rw [ag] at bd)
     (try rw [ag] at bP)
     (try rw [ag] at A4)
     (try rw [ag] at aQ)
     have bQ : (IntKind.i64.wrap (ac + ah)) = aa := (i64_w _).trans ag
     obtain ⟨b6,H⟩ := iS H
     have b7 := decide_eq_true b6
     clear b6
     obtain ⟨b8,H⟩ := iS H
     have b9 := decide_eq_true b8
     clear b8
     by_cases a5 : (rd l0 (aa)) = ((ai / 16777216) % 256)
     ·rw [if_pos a5] at H
      have bf := beq_iff_eq.mpr a5
      have bg := bne_eq_false_iff_eq.mpr a5
      clear a5
      obtain ⟨ao,au⟩ : ∃ j_ : Int,(wrap64 ((aa) + 1)) = j_ := ⟨_,rfl⟩
      replace H : (if 0 ≤ (ao) then (if (ao) < (l0.length : Int) then (if (rd l0 (ao)) = ((ai / 65536) % 256) then (if 0 ≤ (wrap64 ((aa) + 2)) then (if (wrap64 ((aa) + 2)) < (l0.length : Int) then (if (rd l0 (wrap64 ((aa) + 2))) = ((ai / 256) % 256) then (if 0 ≤ (wrap64 ((aa) + 3)) then (if (wrap64 ((aa) + 3)) < (l0.length : Int) then (if (rd l0 (wrap64 ((aa) + 3))) = ((ai) % 256) then (if 0 ≤ ac then (if ac ≤ (aa) then ((slices_Clone_byte_byte.f ((l0.take ((aa) : Int).toNat).drop (ac : Int).toNat)).bind fun az => (some (az,wrap64 ((aa) + 4),0))) else (none)) else (none)) else (some (([] : List Int),0,6))) else (none)) else (none)) else (some (([] : List Int),0,6))) else (none)) else (none)) else (some (([] : List Int),0,6))) else (none)) else (none)) = some (r1,r2,r3) := by first|(rw [au] at H;exact H)|(simp only [au] at H ⊢;exact H)
      (try rw [au] at A4)
      (try rw [au] at aQ)
      have bR : (IntKind.i64.wrap ((aa) + 1)) = ao := (i64_w _).trans au
      obtain ⟨ca,H⟩ := iS H
      have cb := decide_eq_true ca
      clear ca
      obtain ⟨cc,H⟩ := iS H
      have cd := decide_eq_true cc
      clear cc
      by_cases a6 : (rd l0 (ao)) = ((ai / 65536) % 256)
      ·rw [if_pos a6] at H
       have bh := beq_iff_eq.mpr a6
       have bi := bne_eq_false_iff_eq.mpr a6
       clear a6
       obtain ⟨av,aA⟩ : ∃ j_ : Int,(wrap64 ((aa) + 2)) = j_ := ⟨_,rfl⟩
       replace H : (if 0 ≤ (av) then (if (av) < (l0.length : Int) then (if (rd l0 (av)) = ((ai / 256) % 256) then (if 0 ≤ (wrap64 ((aa) + 3)) then (if (wrap64 ((aa) + 3)) < (l0.length : Int) then (if (rd l0 (wrap64 ((aa) + 3))) = ((ai) % 256) then (if 0 ≤ ac then (if ac ≤ (aa) then ((slices_Clone_byte_byte.f ((l0.take ((aa) : Int).toNat).drop (ac : Int).toNat)).bind fun az => (some (az,wrap64 ((aa) + 4),0))) else (none)) else (none)) else (some (([] : List Int),0,6))) else (none)) else (none)) else (some (([] : List Int),0,6))) else (none)) else (none)) = some (r1,r2,r3) := by first|(rw [aA] at H;exact H)|(simp only [aA] at H ⊢;exact H)
       (try rw [aA] at A4)
       (try rw [aA] at aQ)
       have bS : (IntKind.i64.wrap ((aa) + 2)) = av := (i64_w _).trans aA
       obtain ⟨ce,H⟩ := iS H
       have cf := decide_eq_true ce
       clear ce
       obtain ⟨cg,H⟩ := iS H
       have ch := decide_eq_true cg
       clear cg
       by_cases a7 : (rd l0 (av)) = ((ai / 256) % 256)
       ·rw [if_pos a7] at H
        have bj := beq_iff_eq.mpr a7
        have bk := bne_eq_false_iff_eq.mpr a7
        clear a7
        obtain ⟨aC,aD⟩ : ∃ j_ : Int,(wrap64 ((aa) + 3)) = j_ := ⟨_,rfl⟩
        replace H : (if 0 ≤ (aC) then (if (aC) < (l0.length : Int) then (if (rd l0 (aC)) = ((ai) % 256) then (if 0 ≤ ac then (if ac ≤ (aa) then ((slices_Clone_byte_byte.f ((l0.take ((aa) : Int).toNat).drop (ac : Int).toNat)).bind fun az => (some (az,wrap64 ((aa) + 4),0))) else (none)) else (none)) else (some (([] : List Int),0,6))) else (none)) else (none)) = some (r1,r2,r3) := by first|(rw [aD] at H;exact H)|(simp only [aD] at H ⊢;exact H)
        (try rw [aD] at A4)
        (try rw [aD] at aQ)
        have bT : (IntKind.i64.wrap ((aa) + 3)) = aC := (i64_w _).trans aD
        obtain ⟨ci,H⟩ := iS H
        have cj := decide_eq_true ci
        clear ci
        obtain ⟨ck,H⟩ := iS H
        have cl := decide_eq_true ck
        clear ck
        by_cases a8 : (rd l0 (aC)) = ((ai) % 256)
        ·rw [if_pos a8] at H
         have bm := beq_iff_eq.mpr a8
         have bn := bne_eq_false_iff_eq.mpr a8
         clear a8
         obtain ⟨bU,H⟩ := iS H
         have cm := eq_true bU
         have cn := decide_eq_true bU
         clear bU
         obtain ⟨bV,H⟩ := iS H
         have co := eq_true bV
         have cp := decide_eq_true bV
         clear bV
         have cq := eq_true (dA : (aa) ≤ (l0.length : Int))
         replace H := Option.bind_eq_some_iff.mp H
         obtain ⟨az,bo,H⟩ := H
         have cu := aK bo
         clear bo
         simp only [Option.some.injEq,Prod.mk.injEq] at H
         obtain ⟨rfl,rfl,rfl⟩ := H
         go_enter Tryz.func47,Tryz.ntmps47
         go_wp2_with (first|((with_reducible refine gate_callee (f := 32) rfl ?_);refine gL 17 Tryz.func32 #[.slice A0 l0.length c0,.int .i64 a1] ?_;(with_reducible refine (varint_Get.calls k _ _ l0 a1 ah ac aB _ ?ad ?ae A4.out).mono ?_);(case ad => exact cM ar.out);(case ae => exact aJ.out);rintro e w' ⟨rfl,⟨nd,rfl⟩⟩;refine ⟨_,rfl,?_⟩;obtain ⟨cv,aR,_,aS,_⟩ := info_parts info5;obtain ⟨cw,bW,bp,bq⟩ := print_mid_of (P := Tryz.prog) (Value.int .u8) 0 31 5 .i64 .i64 Tryz.underlying31 aR aS A0 c0 l0 a1 (aa) (dA) (by first|omega|exact dA) (dA) aJ.out;have aw := aK (Kd.C_of_reads (h1 := fun _ => rfl) (bp _ (Kd.reads_of_C ar.out)));have ax := aK bq;clear bp bq aR aS)|((with_reducible refine gate_callee (f := 62) rfl ?_);refine goesL_ (some 51) rfl rfl Tryz.func62 (by kernel_rfl) rfl #[.slice cw ((l0.take ((aa) : Int).toNat).drop (a1 : Int).toNat).length (c0 - a1.toNat)] rfl (by (try simp only [z4_,z5_,z6_]);first|done|(rw [show ((l0.take ((aa) : Int).toNat).drop (a1 : Int).toNat).length = ((aa).toNat - a1.toNat) from (by rw [z7_,z8_];have h_ : ((aa) : Int) ≤ (l0.length : Int) := dA;omega)] <;> rfl)|(simp only [ag];rfl)|rfl|(simp only [z7_,z8_];rfl)) ?_;(with_reducible refine (checksum_Sum.calls _ _ ((l0.take ((aa) : Int).toNat).drop (a1 : Int).toNat) ai _ ?ad ?ae aQ.out).mono ?_);(case ad => exact cM aw.out);(case ae => exact ax.out);rintro e cI ⟨rfl,hb⟩;refine ⟨_,rfl,?_⟩;replace HB := aK (below_step (bM HB.out) hb);(try clear hb);have am : 0 ≤ ((aa) : Int) := dA;have an : (aa) < (l0.length : Int) := dA;obtain ⟨ak,aH,af⟩ := Kd.at_int ar.out (aa) am an;cases aH;replace af := xM HB af;replace am := eq_true am;replace an := eq_true an;have ap : 0 ≤ ((ao) : Int) := dA;have aq : (ao) < (l0.length : Int) := dA;obtain ⟨aE,aL,aj⟩ := Kd.at_int ar.out (ao) ap aq;obtain rfl : ak = aE := (by injection aL);replace aj := xM HB aj;replace ap := eq_true ap;replace aq := eq_true aq;have aF : 0 ≤ ((av) : Int) := dA;have aG : (av) < (l0.length : Int) := dA;obtain ⟨aI,aO,al⟩ := Kd.at_int ar.out (av) aF aG;obtain rfl : ak = aI := (by injection aO);replace al := xM HB al;replace aF := eq_true aF;replace aG := eq_true aG;have aM : 0 ≤ ((aC) : Int) := dA;have aN : (aC) < (l0.length : Int) := dA;obtain ⟨aP,a9,ay⟩ := Kd.at_int ar.out (aC) aM aN;obtain rfl : ak = aP := (by injection a9);replace ay := xM HB ay;replace aM := eq_true aM;replace aN := eq_true aN;obtain ⟨cx,aT,_,aU,_⟩ := info_parts info5;obtain ⟨cy,bX,br,bs⟩ := print_mid_of (P := Tryz.prog) (Value.int .u8) 0 31 5 .i64 .i64 Tryz.underlying31 aT aU (some ak) c0 l0 ac (aa) (dA) (by first|omega|exact dA) (dA) aJ.out;have bu := aK (Kd.C_of_reads (h1 := fun _ => rfl) (br _ (Kd.reads_of_C ar.out)));have bv := aK bs;clear br bs aT aU)|((with_reducible refine gate_callee (f := 63) rfl ?_);refine goesL_ (some 96) rfl rfl Tryz.func63 (by kernel_rfl) rfl #[.slice cy ((l0.take ((aa) : Int).toNat).drop (ac : Int).toNat).length (c0 - ac.toNat)] rfl (by (try simp only [z4_,z5_,z6_]);first|done|(rw [show ((l0.take ((aa) : Int).toNat).drop (ac : Int).toNat).length = ((aa).toNat - ac.toNat) from (by rw [z7_,z8_];have h_ : ((aa) : Int) ≤ (l0.length : Int) := dA;omega)] <;> rfl)|(simp only [ag];rfl)|rfl|(simp only [z7_,z8_];rfl)) ?_;(with_reducible refine (slices_Clone_byte_byte.calls _ _ ((l0.take ((aa) : Int).toNat).drop (ac : Int).toNat) az _ ?ad ?ae cu.out).mono ?_);(case ad => exact cM (Kd.C_below bu.out HB.out));(case ae => exact bv.out);rintro e cJ ⟨cz,rfl,cr,hb⟩;refine ⟨_,rfl,?_⟩;have bx := aK (Kd.R_lower cr (below_size (bM HB.out)));replace HB := aK (below_step (bM HB.out) hb);(try clear hb);(try clear cr)))
         go_ret3
         exact ⟨_,by first|rfl|(simp [errW_none,errW_some] <;> rfl)|(simp only [← ag,← au,← aA,← aD];first|rfl|(simp [errW_none,errW_some] <;> rfl))|(simp [*,errW_none,errW_some] <;> rfl),rM bx.out,bM HB.out⟩
        ·rw [if_neg a8] at H
         have bm := beq_eq_false_iff_ne.mpr a8
         have bn := bne_iff_ne.mpr a8
         simp only [Option.some.injEq,Prod.mk.injEq] at H
         obtain ⟨rfl,rfl,rfl⟩ := H
         go_enter Tryz.func47,Tryz.ntmps47
         go_wp2_with (first|((with_reducible refine gate_callee (f := 32) rfl ?_);refine gL 17 Tryz.func32 #[.slice A0 l0.length c0,.int .i64 a1] ?_;(with_reducible refine (varint_Get.calls k _ _ l0 a1 ah ac aB _ ?ad ?ae A4.out).mono ?_);(case ad => exact cM ar.out);(case ae => exact aJ.out);rintro e w' ⟨rfl,⟨nd,rfl⟩⟩;refine ⟨_,rfl,?_⟩;obtain ⟨cA,aV,_,aW,_⟩ := info_parts info5;obtain ⟨cB,bY,bz,bB⟩ := print_mid_of (P := Tryz.prog) (Value.int .u8) 0 31 5 .i64 .i64 Tryz.underlying31 aV aW A0 c0 l0 a1 (aa) (dA) (by first|omega|exact dA) (dA) aJ.out;have aw := aK (Kd.C_of_reads (h1 := fun _ => rfl) (bz _ (Kd.reads_of_C ar.out)));have ax := aK bB;clear bz bB aV aW)|((with_reducible refine gate_callee (f := 62) rfl ?_);refine goesL_ (some 51) rfl rfl Tryz.func62 (by kernel_rfl) rfl #[.slice cB ((l0.take ((aa) : Int).toNat).drop (a1 : Int).toNat).length (c0 - a1.toNat)] rfl (by (try simp only [z4_,z5_,z6_]);first|done|(rw [show ((l0.take ((aa) : Int).toNat).drop (a1 : Int).toNat).length = ((aa).toNat - a1.toNat) from (by rw [z7_,z8_];have h_ : ((aa) : Int) ≤ (l0.length : Int) := dA;omega)] <;> rfl)|(simp only [ag];rfl)|rfl|(simp only [z7_,z8_];rfl)) ?_;(with_reducible refine (checksum_Sum.calls _ _ ((l0.take ((aa) : Int).toNat).drop (a1 : Int).toNat) ai _ ?ad ?ae aQ.out).mono ?_);(case ad => exact cM aw.out);(case ae => exact ax.out);rintro e cK ⟨rfl,hb⟩;refine ⟨_,rfl,?_⟩;replace HB := aK (below_step (bM HB.out) hb);(try clear hb);have am : 0 ≤ ((aa) : Int) := dA;have an : (aa) < (l0.length : Int) := dA;obtain ⟨ak,aH,af⟩ := Kd.at_int ar.out (aa) am an;cases aH;replace af := xM HB af;replace am := eq_true am;replace an := eq_true an;have ap : 0 ≤ ((ao) : Int) := dA;have aq : (ao) < (l0.length : Int) := dA;obtain ⟨aE,aL,aj⟩ := Kd.at_int ar.out (ao) ap aq;obtain rfl : ak = aE := (by injection aL);replace aj := xM HB aj;replace ap := eq_true ap;replace aq := eq_true aq;have aF : 0 ≤ ((av) : Int) := dA;have aG : (av) < (l0.length : Int) := dA;obtain ⟨aI,aO,al⟩ := Kd.at_int ar.out (av) aF aG;obtain rfl : ak = aI := (by injection aO);replace al := xM HB al;replace aF := eq_true aF;replace aG := eq_true aG;have aM : 0 ≤ ((aC) : Int) := dA;have aN : (aC) < (l0.length : Int) := dA;obtain ⟨aP,a9,ay⟩ := Kd.at_int ar.out (aC) aM aN;obtain rfl : ak = aP := (by injection a9);replace ay := xM HB ay;replace aM := eq_true aM;replace aN := eq_true aN))
         go_ret3
         exact ⟨_,by first|rfl|(simp [errW_none,errW_some] <;> rfl)|(simp only [← ag,← au,← aA,← aD];first|rfl|(simp [errW_none,errW_some] <;> rfl))|(simp [*,errW_none,errW_some] <;> rfl),by first|exact Kd.R_nil _ _ _ _ _|exact Kd.N_nil _ _ _ _ _|exact Kd.V_nil _ _ _ _ _|exact Kd.Q_nil _ _ _ _ _|exact Kd.S_nil _ _ _ _ _,bM HB.out⟩
       ·rw [if_neg a7] at H
        have bj := beq_eq_false_iff_ne.mpr a7
        have bk := bne_iff_ne.mpr a7
        simp only [Option.some.injEq,Prod.mk.injEq] at H
        obtain ⟨rfl,rfl,rfl⟩ := H
        go_enter Tryz.func47,Tryz.ntmps47
        go_wp2_with (first|((with_reducible refine gate_callee (f := 32) rfl ?_);refine gL 17 Tryz.func32 #[.slice A0 l0.length c0,.int .i64 a1] ?_;(with_reducible refine (varint_Get.calls k _ _ l0 a1 ah ac aB _ ?ad ?ae A4.out).mono ?_);(case ad => exact cM ar.out);(case ae => exact aJ.out);rintro e w' ⟨rfl,⟨nd,rfl⟩⟩;refine ⟨_,rfl,?_⟩;obtain ⟨cC,aX,_,aY,_⟩ := info_parts info5;obtain ⟨cD,bZ,bC,bD⟩ := print_mid_of (P := Tryz.prog) (Value.int .u8) 0 31 5 .i64 .i64 Tryz.underlying31 aX aY A0 c0 l0 a1 (aa) (dA) (by first|omega|exact dA) (dA) aJ.out;have aw := aK (Kd.C_of_reads (h1 := fun _ => rfl) (bC _ (Kd.reads_of_C ar.out)));have ax := aK bD;clear bC bD aX aY)|((with_reducible refine gate_callee (f := 62) rfl ?_);refine goesL_ (some 51) rfl rfl Tryz.func62 (by kernel_rfl) rfl #[.slice cD ((l0.take ((aa) : Int).toNat).drop (a1 : Int).toNat).length (c0 - a1.toNat)] rfl (by (try simp only [z4_,z5_,z6_]);first|done|(rw [show ((l0.take ((aa) : Int).toNat).drop (a1 : Int).toNat).length = ((aa).toNat - a1.toNat) from (by rw [z7_,z8_];have h_ : ((aa) : Int) ≤ (l0.length : Int) := dA;omega)] <;> rfl)|(simp only [ag];rfl)|rfl|(simp only [z7_,z8_];rfl)) ?_;(with_reducible refine (checksum_Sum.calls _ _ ((l0.take ((aa) : Int).toNat).drop (a1 : Int).toNat) ai _ ?ad ?ae aQ.out).mono ?_);(case ad => exact cM aw.out);(case ae => exact ax.out);rintro e cL ⟨rfl,hb⟩;refine ⟨_,rfl,?_⟩;replace HB := aK (below_step (bM HB.out) hb);(try clear hb);have am : 0 ≤ ((aa) : Int) := dA;have an : (aa) < (l0.length : Int) := dA;obtain ⟨ak,aH,af⟩ := Kd.at_int ar.out (aa) am an;cases aH;replace af := xM HB af;replace am := eq_true am;replace an := eq_true an;have ap : 0 ≤ ((ao) : Int) := dA;have aq : (ao) < (l0.length : Int) := dA;obtain ⟨aE,aL,aj⟩ := Kd.at_int ar.out (ao) ap aq;obtain rfl : ak = aE := (by injection aL);replace aj := xM HB aj;replace ap := eq_true ap;replace aq := eq_true aq;have aF : 0 ≤ ((av) : Int) := dA;have aG : (av) < (l0.length : Int) := dA;obtain ⟨aI,aO,al⟩ := Kd.at_int ar.out (av) aF aG;obtain rfl : ak = aI := (by injection aO);replace al := xM HB al;replace aF := eq_true aF;replace aG := eq_true aG))
        go_ret3
        exact ⟨_,by first|rfl|(simp [errW_none,errW_some] <;> rfl)|(simp only [← ag,← au,← aA];first|rfl|(simp [errW_none,errW_some] <;> rfl))|(simp [*,errW_none,errW_some] <;> rfl),by first|exact Kd.R_nil _ _ _ _ _|exact Kd.N_nil _ _ _ _ _|exact Kd.V_nil _ _ _ _ _|exact Kd.Q_nil _ _ _ _ _|exact Kd.S_nil _ _ _ _ _,bM HB.out⟩
      ·rw [if_neg a6] at H
       have bh := beq_eq_false_iff_ne.mpr a6
       have bi := bne_iff_ne.mpr a6
       simp only [Option.some.injEq,Prod.mk.injEq] at H
       obtain ⟨rfl,rfl,rfl⟩ := H
       go_enter Tryz.func47,Tryz.ntmps47
       go_wp2_with (first|((with_reducible refine gate_callee (f := 32) rfl ?_);refine gL 17 Tryz.func32 #[.slice A0 l0.length c0,.int .i64 a1] ?_;(with_reducible refine (varint_Get.calls k _ _ l0 a1 ah ac aB _ ?ad ?ae A4.out).mono ?_);(case ad => exact cM ar.out);(case ae => exact aJ.out);rintro e w' ⟨rfl,⟨nd,rfl⟩⟩;refine ⟨_,rfl,?_⟩;obtain ⟨cE,aZ,_,a0,_⟩ := info_parts info5;obtain ⟨cF,b0,bE,bF⟩ := print_mid_of (P := Tryz.prog) (Value.int .u8) 0 31 5 .i64 .i64 Tryz.underlying31 aZ a0 A0 c0 l0 a1 (aa) (dA) (by first|omega|exact dA) (dA) aJ.out;have aw := aK (Kd.C_of_reads (h1 := fun _ => rfl) (bE _ (Kd.reads_of_C ar.out)));have ax := aK bF;clear bE bF aZ a0)|((with_reducible refine gate_callee (f := 62) rfl ?_);refine goesL_ (some 51) rfl rfl Tryz.func62 (by kernel_rfl) rfl #[.slice cF ((l0.take ((aa) : Int).toNat).drop (a1 : Int).toNat).length (c0 - a1.toNat)] rfl (by (try simp only [z4_,z5_,z6_]);first|done|(rw [show ((l0.take ((aa) : Int).toNat).drop (a1 : Int).toNat).length = ((aa).toNat - a1.toNat) from (by rw [z7_,z8_];have h_ : ((aa) : Int) ≤ (l0.length : Int) := dA;omega)] <;> rfl)|(simp only [ag];rfl)|rfl|(simp only [z7_,z8_];rfl)) ?_;(with_reducible refine (checksum_Sum.calls _ _ ((l0.take ((aa) : Int).toNat).drop (a1 : Int).toNat) ai _ ?ad ?ae aQ.out).mono ?_);(case ad => exact cM aw.out);(case ae => exact ax.out);rintro e cN ⟨rfl,hb⟩;refine ⟨_,rfl,?_⟩;replace HB := aK (below_step (bM HB.out) hb);(try clear hb);have am : 0 ≤ ((aa) : Int) := dA;have an : (aa) < (l0.length : Int) := dA;obtain ⟨ak,aH,af⟩ := Kd.at_int ar.out (aa) am an;cases aH;replace af := xM HB af;replace am := eq_true am;replace an := eq_true an;have ap : 0 ≤ ((ao) : Int) := dA;have aq : (ao) < (l0.length : Int) := dA;obtain ⟨aE,aL,aj⟩ := Kd.at_int ar.out (ao) ap aq;obtain rfl : ak = aE := (by injection aL);replace aj := xM HB aj;replace ap := eq_true ap;replace aq := eq_true aq))
       go_ret3
       exact ⟨_,by first|rfl|(simp [errW_none,errW_some] <;> rfl)|(simp only [← ag,← au];first|rfl|(simp [errW_none,errW_some] <;> rfl))|(simp [*,errW_none,errW_some] <;> rfl),by first|exact Kd.R_nil _ _ _ _ _|exact Kd.N_nil _ _ _ _ _|exact Kd.V_nil _ _ _ _ _|exact Kd.Q_nil _ _ _ _ _|exact Kd.S_nil _ _ _ _ _,bM HB.out⟩
     ·rw [if_neg a5] at H
      have bf := beq_eq_false_iff_ne.mpr a5
      have bg := bne_iff_ne.mpr a5
      simp only [Option.some.injEq,Prod.mk.injEq] at H
      obtain ⟨rfl,rfl,rfl⟩ := H
      go_enter Tryz.func47,Tryz.ntmps47
      go_wp2_with (first|((with_reducible refine gate_callee (f := 32) rfl ?_);refine gL 17 Tryz.func32 #[.slice A0 l0.length c0,.int .i64 a1] ?_;(with_reducible refine (varint_Get.calls k _ _ l0 a1 ah ac aB _ ?ad ?ae A4.out).mono ?_);(case ad => exact cM ar.out);(case ae => exact aJ.out);rintro e w' ⟨rfl,⟨nd,rfl⟩⟩;refine ⟨_,rfl,?_⟩;obtain ⟨cG,a3,_,a4,_⟩ := info_parts info5;obtain ⟨cH,b1,bH,bI⟩ := print_mid_of (P := Tryz.prog) (Value.int .u8) 0 31 5 .i64 .i64 Tryz.underlying31 a3 a4 A0 c0 l0 a1 (aa) (dA) (by first|omega|exact dA) (dA) aJ.out;have aw := aK (Kd.C_of_reads (h1 := fun _ => rfl) (bH _ (Kd.reads_of_C ar.out)));have ax := aK bI;clear bH bI a3 a4)|((with_reducible refine gate_callee (f := 62) rfl ?_);refine goesL_ (some 51) rfl rfl Tryz.func62 (by kernel_rfl) rfl #[.slice cH ((l0.take ((aa) : Int).toNat).drop (a1 : Int).toNat).length (c0 - a1.toNat)] rfl (by (try simp only [z4_,z5_,z6_]);first|done|(rw [show ((l0.take ((aa) : Int).toNat).drop (a1 : Int).toNat).length = ((aa).toNat - a1.toNat) from (by rw [z7_,z8_];have h_ : ((aa) : Int) ≤ (l0.length : Int) := dA;omega)] <;> rfl)|(simp only [ag];rfl)|rfl|(simp only [z7_,z8_];rfl)) ?_;(with_reducible refine (checksum_Sum.calls _ _ ((l0.take ((aa) : Int).toNat).drop (a1 : Int).toNat) ai _ ?ad ?ae aQ.out).mono ?_);(case ad => exact cM aw.out);(case ae => exact ax.out);rintro e cO ⟨rfl,hb⟩;refine ⟨_,rfl,?_⟩;replace HB := aK (below_step (bM HB.out) hb);(try clear hb);have am : 0 ≤ ((aa) : Int) := dA;have an : (aa) < (l0.length : Int) := dA;obtain ⟨ak,aH,af⟩ := Kd.at_int ar.out (aa) am an;cases aH;replace af := xM HB af;replace am := eq_true am;replace an := eq_true an))
      go_ret3
      exact ⟨_,by first|rfl|(simp [errW_none,errW_some] <;> rfl)|(simp only [← ag];first|rfl|(simp [errW_none,errW_some] <;> rfl))|(simp [*,errW_none,errW_some] <;> rfl),by first|exact Kd.R_nil _ _ _ _ _|exact Kd.N_nil _ _ _ _ _|exact Kd.V_nil _ _ _ _ _|exact Kd.Q_nil _ _ _ _ _|exact Kd.S_nil _ _ _ _ _,bM HB.out⟩
 ·rw [if_neg c5] at H
  have bJ := beq_eq_false_iff_ne.mpr c5
  have bK := bne_iff_ne.mpr c5
  simp only [Option.some.injEq,Prod.mk.injEq] at H
  obtain ⟨rfl,rfl,rfl⟩ := H
  go_enter Tryz.func47,Tryz.ntmps47
  go_wp2_with (first|((with_reducible refine gate_callee (f := 32) rfl ?_);refine gL 17 Tryz.func32 #[.slice A0 l0.length c0,.int .i64 a1] ?_;(with_reducible refine (varint_Get.calls k _ _ l0 a1 ah ac aB _ ?ad ?ae A4.out).mono ?_);(case ad => exact cM ar.out);(case ae => exact aJ.out);rintro e w' ⟨rfl,⟨nd,rfl⟩⟩;refine ⟨_,rfl,?_⟩))
  go_ret3
  exact ⟨_,by first|rfl|(simp [errW_none,errW_some] <;> rfl)|(simp [*,errW_none,errW_some] <;> rfl),by first|exact Kd.R_nil _ _ _ _ _|exact Kd.N_nil _ _ _ _ _|exact Kd.V_nil _ _ _ _ _|exact Kd.Q_nil _ _ _ _ _|exact Kd.S_nil _ _ _ _ _,bM HB.out⟩
def manifest_Recover.l0 : Nat → List Int → List (S30) → Int → Option ((List (S30)) × Int)
|0,_,_,_ => none
|k + 1,x0,x4,x5 => (checksum_Open.f k x0 x5 9223372036854775807).bind fun ab => (if ab.2.2 = 0 then ((manifest_Decode.f k ab.1).bind fun aa => (if aa.2.2.2.2.2.2 = 0 then (if aa.1 = (wrap64 ((x4.length : Int) + 1)) then (if x4.length < 1466015503701 then (manifest_Recover.l0 k x0 (x4 ++ [(⟨aa.1,aa.2.1,aa.2.2.1,aa.2.2.2.1,aa.2.2.2.2.1,aa.2.2.2.2.2.1⟩ : S30)]) ab.2.1) else (none)) else (some (x4,x5))) else (some (x4,x5)))) else (some (x4,x5)))
def manifest_Recover.f (k : Nat) (l0 : List Int) : Option ((List (S30)) × Int) := manifest_Recover.l0 k l0 ([] : List (S30)) 0
theorem manifest_Recover.mono_l : ∀ k, (∀ y0 y1 y2, LeO (manifest_Recover.l0 k y0 y1 y2) (manifest_Recover.l0 (k + 1) y0 y1 y2))
|0 => fun _ _ _ r h => by simp [manifest_Recover.l0] at h
|k + 1 => by
  have ih0 := manifest_Recover.mono_l k
  ·intro y0 y1 y2
   unfold manifest_Recover.l0
   repeat' (with_reducible first|exact ih0 _ _ _|exact checksum_Open.mono _ _ _ _|exact manifest_Decode.mono _ _|exact LeO.refl _|exact LeO.none _|refine LeO.ite ?_ ?_|refine LeO.bind ?_ (fun _ => ?_))
theorem manifest_Recover.mono : ∀ a0 k, LeO (manifest_Recover.f k a0) (manifest_Recover.f (k + 1) a0) := by
 intro a0 k
 have ih0 := manifest_Recover.mono_l k
 unfold manifest_Recover.f
 repeat' (with_reducible first|exact ih0 _ _ _|exact checksum_Open.mono _ _ _ _|exact manifest_Decode.mono _ _|exact LeO.refl _|exact LeO.none _|refine LeO.ite ?_ ?_|refine LeO.bind ?_ (fun _ => ?_))
theorem manifest_Recover.calls (k : Nat) (A0 : Option Addr) (c0 : Nat) (l0 : List Int) (r1 : List (S30)) (r2 : Int) (w : World) (bO : Kd.C (Kd.int .u8) w A0 l0.length l0) (bP : l0.length ≤ c0) (h : manifest_Recover.f k l0 = some (r1, r2)) :
  Calls Tryz.prog 15 #[.slice A0 l0.length c0] w fun e w' => ∃ bQ : Value,e = .returned (.tuple #[bQ,.int .i64 r2]) ∧ Kd.S k30 30 w' w.heap.size (fun _ => True) bQ r1 ∧ Below w.heap.size w w' := by
 have b3 := Tryz.underlying30
 have a3 := aK bO
 have a4 := aK bP
 clear bO bP
 have HB := aK (Below.refl w.heap.size w)
 have H : (manifest_Recover.l0 k l0 ([] : List (S30)) 0) = some (r1,r2) := h
 clear h
 have H' := aK H
 clear H
 go_enter Tryz.func15,Tryz.ntmps15
 go_wp2
 go_loopg [4,5] k (fun kq v4 v5 w' => ∃ (ag : List (S30)) (aq : Int),v5 = .int .i64 aq ∧ Aside0 (manifest_Recover.l0 kq l0 ag aq = some (r1,r2)) ∧ Aside0 (kq ≤ k) ∧ Aside0 (Kd.S k30 30 w' w.heap.size (fun _ => True) v4 ag) ∧ Aside0 (Below w.heap.size w w'))
 case atStart => exact ⟨(([] : List (S30))),(0),(by first|rfl|(simp;done)|(simp [*];done)),H',⟨Nat.le_refl _⟩,⟨by first|exact Kd.S_nil _ _ _ _ _|exact Kd.N_nil _ _ _ _ _|exact Kd.V_nil _ _ _ _ _|exact Kd.Q_nil _ _ _ _ _|exact Kd.R_nil _ _ _ _ _⟩,⟨bM HB.out⟩⟩
 case round =>
  clear H'
  obtain ⟨ag,aq,rfl,HA,bR,ab,HB⟩ := hrel
  cases gk with
 |zero => exact absurd HA.out (by simp [manifest_Recover.l0])
 |succ k1 =>
   have H := HA.out
   clear HA
   simp only [manifest_Recover.l0] at H
   replace H := Option.bind_eq_some_iff.mp H
   obtain ⟨⟨ax,aD,aM⟩,bS,H⟩ := H
   replace H : (if aM = 0 then ((manifest_Decode.f k1 ax).bind fun aA => (if aA.2.2.2.2.2.2 = 0 then (if aA.1 = (wrap64 ((ag.length : Int) + 1)) then (if ag.length < 1466015503701 then (manifest_Recover.l0 k1 l0 (ag ++ [(⟨aA.1,aA.2.1,aA.2.2.1,aA.2.2.2.1,aA.2.2.2.2.1,aA.2.2.2.2.2.1⟩ : S30)]) aD) else (none)) else (some (ag,aq))) else (some (ag,aq)))) else (some (ag,aq))) = some (r1,r2) := H
   have A2 := aK bS
   clear bS
   by_cases c3 : aM = 0
   ·rw [if_pos c3] at H
    have a5 := beq_iff_eq.mpr c3
    have a6 := bne_eq_false_iff_eq.mpr c3
    clear c3
    replace H := Option.bind_eq_some_iff.mp H
    obtain ⟨⟨ae,al,an,af,ah,am,aN⟩,bT,H⟩ := H
    replace H : (if aN = 0 then (if ae = (wrap64 ((ag.length : Int) + 1)) then (if ag.length < 1466015503701 then (manifest_Recover.l0 k1 l0 (ag ++ [(⟨ae,al,an,af,ah,am⟩ : S30)]) aD) else (none)) else (some (ag,aq))) else (some (ag,aq))) = some (r1,r2) := H
    have A4 := aK bT
    clear bT
    by_cases c5 : aN = 0
    ·rw [if_pos c5] at H
     have a7 := beq_iff_eq.mpr c5
     have a8 := bne_eq_false_iff_eq.mpr c5
     clear c5
     by_cases c6 : ae = (wrap64 ((ag.length : Int) + 1))
     ·rw [if_pos c6] at H
      have a9 := beq_iff_eq.mpr c6
      have ba := bne_eq_false_iff_eq.mpr c6
      clear c6
      obtain ⟨c7,H⟩ := iS H
      have bb := aK c7
      clear c7
      obtain ⟨aX,aE⟩ : ∃ y_ : List (S30),y_ = (ag ++ [(⟨ae,al,an,af,ah,am⟩ : S30)]) := ⟨_,rfl⟩
      replace H : (manifest_Recover.l0 k1 l0 aX aD) = some (r1,r2) := by first|(rw [aE];with_reducible exact H)|(have bc := (Option.bind_some _ _).symm.trans H;rw [aE];with_reducible exact bc)|(have bc := (Option.bind_some _ _).symm.trans H;with_reducible exact bc)|with_reducible exact H|(rw [aE];exact H)|exact H
      have aY := aK aE
      clear aE
      have H' := aK H
      clear H
      go_wp2_with (first|((with_reducible refine gate_callee (f := 47) rfl ?_);refine gL 13 Tryz.func47 #[.slice A0 l0.length c0,.int .i64 aq,.int .i64 9223372036854775807] ?_;(with_reducible refine (checksum_Open.calls k1 _ _ l0 aq 9223372036854775807 ax aD aM _ ?ao ?ap A2.out).mono ?_);(case ao => exact cM (Kd.C_below a3.out HB.out));(case ap => exact a4.out);rintro e w8 ⟨aV,rfl,aC,hb⟩;refine ⟨_,rfl,?_⟩;replace ab := aK (Kd.S_below (by (with_reducible repeat (first|apply Kd.S_alloc|apply Kd.S_drewN|apply Kd.S_drew));exact ab.out) hb);have ac := aK (Kd.R_lower aC (below_size (bM HB.out)));replace HB := aK (below_step (bM HB.out) hb);(try clear hb);(try clear hk);(try clear aC);obtain ⟨bU,bV,b4⟩ := Kd.R_slice ac.out;subst b4)|((with_reducible refine gate_callee (f := 10) rfl ?_);refine gL 23 Tryz.func10 #[.slice bU ax.length bV] ?_;(with_reducible refine (manifest_Decode.calls k1 _ _ ax ae al an af ah am aN _ ?ao ?ap A4.out).mono ?_);(case ao => exact cM (Kd.R_reads' ac.out).2.2);(case ap => exact (Kd.R_reads' ac.out).2.1);rintro e b9 ⟨aZ,a0,a1,rfl,aC,aQ,aR,hb⟩;refine ⟨_,rfl,?_⟩;replace ab := aK (Kd.S_mono (Kd.S_told (Kd.S_told (Kd.S_told (Kd.S_old (by (with_reducible repeat (first|apply Kd.S_alloc|apply Kd.S_drewN|apply Kd.S_drew));exact ab.out) hb) (Kd.R_base aC)) (Kd.R_base aQ)) (Kd.R_base aR)) (fun _ h_ => h_.1));replace ac := aK (Kd.R_below (rM ac.out) hb);have ai := aK (Kd.R_lower aC (below_size (bM HB.out)));have aj := aK (Kd.R_lower aQ (below_size (bM HB.out)));have ak := aK (Kd.R_lower aR (below_size (bM HB.out)));replace HB := aK (below_step (bM HB.out) hb);(try clear hb);(try clear hk);(try clear aC);(try clear aQ);(try clear aR))|((with_reducible refine gate_dst (N := 9) rfl ?_);(try (refine gate_guard (by rfl) ?_;dsimp only));refine box_event ?hg (N := 9) ?hd (cs := #[.int .i64 0,.int .i64 0,.int .i64 0,.slice none 0 0,.slice none 0 0,.slice none 0 0]) (t := 30) ?hr ?_;(case hd => rfl);(case hg => rfl);(case hr => first|(go_simp;done)|(go_simp;rfl));intro aa hg b5 hbox hb;replace ab := aK (Kd.S_below (Kd.S_elderB (by (with_reducible repeat (first|apply Kd.S_alloc|apply Kd.S_drewN|apply Kd.S_drew));exact ab.out) aa (Nat.le_of_eq hg.symm)) hb);replace ac := aK (Kd.R_below (rM ac.out) hb);replace ai := aK (Kd.R_below (rM ai.out) hb);replace aj := aK (Kd.R_below (rM aj.out) hb);replace ak := aK (Kd.R_below (rM ak.out) hb);have ad := aK (hbox);have aG := aK ((by rw [hg];exact (below_size (bM HB.out)) : w.heap.size ≤ aa));have aT := Ge.mk aG.out;have aH := aK ((by rw [hg];exact (below_size (bM HB.out)) : w.heap.size ≤ aa));have aU := Ge.mk aH.out;replace HB := aK (below_step (bM HB.out) hb);clear hb hbox hg;obtain ⟨_,_,_,_,_,_,_,_,_,_,_,_⟩ := bk6_ ad.out;obtain ⟨ar,au,bd⟩ := Kd.R_slice ai.out;subst bd;obtain ⟨av,aw,be⟩ := Kd.R_slice aj.out;subst be;obtain ⟨ay,az,bf⟩ := Kd.R_slice ak.out;subst bf)|((with_reducible refine gate_store (t := 30) (p := 9) rfl ?_);refine store_event (t := 30) (p := 9) (v := ?bg) (w1 := ((((((b5.setCell ⟨aa,0,none⟩ (.int .i64 ae)).setCell ⟨aa,1,none⟩ (.int .i64 al)).setCell ⟨aa,2,none⟩ (.int .i64 an)).setCell ⟨aa,3,none⟩ (.slice ar af.length au)).setCell ⟨aa,4,none⟩ (.slice av ah.length aw)).setCell ⟨aa,5,none⟩ (.slice ay am.length az))) ?hg ?ho ?hn ?hr ?_;(case ho => rfl);(case hg => rfl);(case hn => rfl);(case hr => first|(go_simp;done)|(go_simp;rfl));intro aW hw;have bW : Aside0 (Kd.S k30 30 aW w.heap.size (fun k_ => some k_ ≠ (.slice ar af.length au : Value).ownBlock ∧ some k_ ≠ (.slice av ah.length aw : Value).ownBlock ∧ some k_ ≠ (.slice ay am.length az : Value).ownBlock ∧ k_ ≠ aa) u4 ag) := ⟨(by rw [hw];exact (by (with_reducible repeat (first|apply Kd.S_alloc|apply Kd.S_drewN|apply Kd.S_drew));exact Kd.S_mono (Kd.S_far (p := ⟨aa,5,none⟩) (Kd.S_far (p := ⟨aa,4,none⟩) (Kd.S_far (p := ⟨aa,3,none⟩) (Kd.S_far (p := ⟨aa,2,none⟩) (Kd.S_far (p := ⟨aa,1,none⟩) (Kd.S_far (p := ⟨aa,0,none⟩) (Kd.S_mono ab.out (fun k_ hk => (⟨hk,hk.2⟩ : _ ∧ k_ ≠ aa))) (fun _ hk => hk.2) (.int .i64 ae)) (fun _ hk => hk.2) (.int .i64 al)) (fun _ hk => hk.2) (.int .i64 an)) (fun _ hk => hk.2) (.slice ar af.length au)) (fun _ hk => hk.2) (.slice av ah.length aw)) (fun _ hk => hk.2) (.slice ay am.length az)) (fun _ hk => ⟨hk.1.1.1.1.2,⟨hk.1.1.1.2,⟨hk.1.1.2,hk.1.2⟩⟩⟩)))⟩;have bX : Aside0 (Kd.R (Kd.int .u8) 5 aW w.heap.size (fun _ => True) (.slice bU ax.length bV) ax) := ⟨(by rw [hw];exact (by (with_reducible repeat (first|apply Kd.R_alloc|apply Kd.R_drewN|apply Kd.R_drew));exact Kd.R_mono (Kd.R_far (p := ⟨aa,5,none⟩) (Kd.R_far (p := ⟨aa,4,none⟩) (Kd.R_far (p := ⟨aa,3,none⟩) (Kd.R_far (p := ⟨aa,2,none⟩) (Kd.R_far (p := ⟨aa,1,none⟩) (Kd.R_far (p := ⟨aa,0,none⟩) (Kd.R_types ac.out ad.out (by decide)) (fun _ hk => hk.2) (.int .i64 ae)) (fun _ hk => hk.2) (.int .i64 al)) (fun _ hk => hk.2) (.int .i64 an)) (fun _ hk => hk.2) (.slice ar af.length au)) (fun _ hk => hk.2) (.slice av ah.length aw)) (fun _ hk => hk.2) (.slice ay am.length az)) (fun _ hk => trivial)))⟩;have bY : Aside0 (Kd.R (Kd.int .i64) 3 aW w.heap.size (fun k_ => some k_ ≠ (.slice av ah.length aw : Value).ownBlock) (.slice ar af.length au) af) := ⟨(by rw [hw];exact (by (with_reducible repeat (first|apply Kd.R_alloc|apply Kd.R_drewN|apply Kd.R_drew));exact Kd.R_mono (Kd.R_far (p := ⟨aa,5,none⟩) (Kd.R_far (p := ⟨aa,4,none⟩) (Kd.R_far (p := ⟨aa,3,none⟩) (Kd.R_far (p := ⟨aa,2,none⟩) (Kd.R_far (p := ⟨aa,1,none⟩) (Kd.R_far (p := ⟨aa,0,none⟩) (Kd.R_types ai.out ad.out (by decide)) (fun _ hk => hk.2) (.int .i64 ae)) (fun _ hk => hk.2) (.int .i64 al)) (fun _ hk => hk.2) (.int .i64 an)) (fun _ hk => hk.2) (.slice ar af.length au)) (fun _ hk => hk.2) (.slice av ah.length aw)) (fun _ hk => hk.2) (.slice ay am.length az)) (fun _ hk => hk.1)))⟩;have bZ : Aside0 (Kd.R (Kd.int .i64) 3 aW w.heap.size (fun k_ => some k_ ≠ (.slice ar af.length au : Value).ownBlock) (.slice av ah.length aw) ah) := ⟨(by rw [hw];exact (by (with_reducible repeat (first|apply Kd.R_alloc|apply Kd.R_drewN|apply Kd.R_drew));exact Kd.R_mono (Kd.R_far (p := ⟨aa,5,none⟩) (Kd.R_far (p := ⟨aa,4,none⟩) (Kd.R_far (p := ⟨aa,3,none⟩) (Kd.R_far (p := ⟨aa,2,none⟩) (Kd.R_far (p := ⟨aa,1,none⟩) (Kd.R_far (p := ⟨aa,0,none⟩) (Kd.R_types aj.out ad.out (by decide)) (fun _ hk => hk.2) (.int .i64 ae)) (fun _ hk => hk.2) (.int .i64 al)) (fun _ hk => hk.2) (.int .i64 an)) (fun _ hk => hk.2) (.slice ar af.length au)) (fun _ hk => hk.2) (.slice av ah.length aw)) (fun _ hk => hk.2) (.slice ay am.length az)) (fun _ hk => hk.1)))⟩;have b0 : Aside0 (Kd.R Kd.string 9 aW w.heap.size (fun _ => True) (.slice ay am.length az) am) := ⟨(by rw [hw];exact (by (with_reducible repeat (first|apply Kd.R_alloc|apply Kd.R_drewN|apply Kd.R_drew));exact Kd.R_mono (Kd.R_far (p := ⟨aa,5,none⟩) (Kd.R_far (p := ⟨aa,4,none⟩) (Kd.R_far (p := ⟨aa,3,none⟩) (Kd.R_far (p := ⟨aa,2,none⟩) (Kd.R_far (p := ⟨aa,1,none⟩) (Kd.R_far (p := ⟨aa,0,none⟩) (Kd.R_types ak.out ad.out (by decide)) (fun _ hk => hk.2) (.int .i64 ae)) (fun _ hk => hk.2) (.int .i64 al)) (fun _ hk => hk.2) (.int .i64 an)) (fun _ hk => hk.2) (.slice ar af.length au)) (fun _ hk => hk.2) (.slice av ah.length aw)) (fun _ hk => hk.2) (.slice ay am.length az)) (fun _ hk => trivial)))⟩;have b1 : Aside0 (aW.heap[aa]? = some (.cells #[.int .i64 ae,.int .i64 al,.int .i64 an,.slice ar af.length au,.slice av ah.length aw,.slice ay am.length az] 30 (0,0))) := ⟨(by rw [hw];exact (by refine kO ?_;refine blk_put (cs := #[.int .i64 ae,.int .i64 al,.int .i64 an,.slice ar af.length au,.slice av ah.length aw,.slice none 0 0]) ?_ 5 _ rfl;refine kO ?_;refine blk_put (cs := #[.int .i64 ae,.int .i64 al,.int .i64 an,.slice ar af.length au,.slice none 0 0,.slice none 0 0]) ?_ 4 _ rfl;refine kO ?_;refine blk_put (cs := #[.int .i64 ae,.int .i64 al,.int .i64 an,.slice none 0 0,.slice none 0 0,.slice none 0 0]) ?_ 3 _ rfl;refine kO ?_;refine blk_put (cs := #[.int .i64 ae,.int .i64 al,.int .i64 0,.slice none 0 0,.slice none 0 0,.slice none 0 0]) ?_ 2 _ rfl;refine kO ?_;refine blk_put (cs := #[.int .i64 ae,.int .i64 0,.int .i64 0,.slice none 0 0,.slice none 0 0,.slice none 0 0]) ?_ 1 _ rfl;refine kO ?_;refine blk_put (cs := #[.int .i64 0,.int .i64 0,.int .i64 0,.slice none 0 0,.slice none 0 0,.slice none 0 0]) ?_ 0 _ rfl;refine kO ?_;exact ad.out))⟩;have b2 : Aside0 (Below w.heap.size w aW) := ⟨(by rw [hw];exact (bG HB.out))⟩;clear hw;clear ab;clear ac;clear ai;clear aj;clear ak;clear ad;clear HB;have ab := bW;have ac := bX;have ai := bY;have aj := bZ;have ak := b0;have ad := b1;have HB := b2;clear bW bX bY bZ b0 b1 b2;obtain ⟨_,_,_,_,_,_,_,_,_,_,_,_⟩ := bk6_ ad.out;obtain ⟨aI,aJ,bh⟩ := Kd.S_slice ab.out;subst bh)|((with_reducible refine gate_builtin (b := .append) (xs := #[.tmp 38,.tmp 40]) rfl ?_);(try (refine gate_guard (by rfl) ?_;dsimp only));at_builtin;refine Kd.S_append k30 (w0 := w) w.heap.size rfl (.tmp 38) (.tmp 40) 22 30 (.agg #[(.int .i64 0),(.int .i64 0),(.int .i64 0),(.slice none 0 0),(.slice none 0 0),(.slice none 0 0)]) 96 rfl Tryz.underlying22 info30 rfl (by decide) (by omega) (.slice aI ag.length aJ) ag (⟨ae,al,an,af,ah,am⟩ : S30) [.int .i64 ae,.int .i64 al,.int .i64 an,.slice ar af.length au,.slice av ah.length aw,.slice ay am.length az] (fun k_ => k_ ≠ aa) (fun k_ => some k_ = (.slice ar af.length au : Value).ownBlock ∨ some k_ = (.slice av ah.length aw : Value).ownBlock ∨ some k_ = (.slice ay am.length az : Value).ownBlock) rfl rfl ?aP (fun k_ hk_ => hk_.elim (fun h_ => ((Kd.R_mono (ok' := fun k_ => ((fun k_ => k_ ≠ aa)) k_ ∧ some k_ ≠ (.slice aI ag.length aJ : Value).ownBlock) (Kd.R_types (Kd.R_apart' (ai.out) (Kd.S_typed ab.out) (by decide)) ad.out (by decide)) (fun k_ hk => ⟨hk.2,hk.1.2⟩))).1 k_ h_.symm) (fun h_ => h_.elim (fun h_ => ((Kd.R_mono (ok' := fun k_ => ((fun k_ => k_ ≠ aa)) k_ ∧ some k_ ≠ (.slice aI ag.length aJ : Value).ownBlock) (Kd.R_types (Kd.R_apart' (aj.out) (Kd.S_typed ab.out) (by decide)) ad.out (by decide)) (fun k_ hk => ⟨hk.2,hk.1.2⟩))).1 k_ h_.symm) (fun h_ => ((Kd.R_mono (ok' := fun k_ => ((fun k_ => k_ ≠ aa)) k_ ∧ some k_ ≠ (.slice aI ag.length aJ : Value).ownBlock) (Kd.R_types (Kd.R_apart' (ak.out) (Kd.S_typed ab.out) (by decide)) ad.out (by decide)) (fun k_ hk => ⟨hk.2,hk.1.2⟩))).1 k_ h_.symm))) ?aF ?aO ?aB ?aS ?aL ?_;(case aP => exact k30_mkM _ _ _ (⟨ae,al,an,af,ah,am⟩ : S30) (Kd.R_mono (Kd.R_tight rfl (Kd.R_mono (ok' := fun k_ => ((fun k_ => k_ ≠ aa)) k_ ∧ some k_ ≠ (.slice aI ag.length aJ : Value).ownBlock) (Kd.R_types (Kd.R_apart' (ai.out) (Kd.S_typed ab.out) (by decide)) ad.out (by decide)) (fun k_ hk => ⟨hk.2,hk.1.2⟩))) (fun _ h_ => Or.inl h_)) (Kd.R_mono (Kd.R_tight rfl (Kd.R_mono (ok' := fun k_ => ((fun k_ => k_ ≠ aa)) k_ ∧ some k_ ≠ (.slice aI ag.length aJ : Value).ownBlock) (Kd.R_types (Kd.R_apart' (aj.out) (Kd.S_typed ab.out) (by decide)) ad.out (by decide)) (fun k_ hk => ⟨hk.2,hk.1.2⟩))) (fun _ h_ => Or.inr (Or.inl h_))) (Kd.R_mono (Kd.R_tight rfl (Kd.R_mono (ok' := fun k_ => ((fun k_ => k_ ≠ aa)) k_ ∧ some k_ ≠ (.slice aI ag.length aJ : Value).ownBlock) (Kd.R_types (Kd.R_apart' (ak.out) (Kd.S_typed ab.out) (by decide)) ad.out (by decide)) (fun k_ hk => ⟨hk.2,hk.1.2⟩))) (fun _ h_ => Or.inr (Or.inr (h_)))));(case aB => exact (bG HB.out));(case aF => exact (fun k_ hk => Kd.freshB (g := aa) (o := .cells #[.int .i64 ae,.int .i64 al,.int .i64 an,.slice ar af.length au,.slice av ah.length aw,.slice ay am.length az] 30 (0,0)) (kM ad.out) k_ hk));(case aO => exact (by (with_reducible repeat (first|apply Kd.S_alloc|apply Kd.S_drewN|apply Kd.S_drew));exact Kd.S_mono ab.out (fun k_ hk => ⟨hk.2.2.2,fun e_ => e_.elim (fun h_ => hk.1 h_) (fun h_ => h_.elim (fun h_ => hk.2.1 h_) (fun h_ => hk.2.2.1 h_))⟩)));(case aS => exact (below_size (bG HB.out)));(case aL => have := bb.out;omega);intro b6 ca ho hb hg hat;rw [← aY.out] at ho;replace ac := aK (Kd.R_over' (rM ac.out) (Kd.S_typed (by (with_reducible repeat (first|apply Kd.S_alloc|apply Kd.S_drewN|apply Kd.S_drew));exact ab.out)) (by decide) hg);replace ad := aK (blk_grown (g := aa) (o := .cells #[.int .i64 ae,.int .i64 al,.int .i64 an,.slice ar af.length au,.slice av ah.length aw,.slice ay am.length az] 30 (0,0)) (kM ad.out) hg (Kd.S_away ab.out (fun _ hk => hk.2.2.2)));replace HB := aK (hb);have a2 := aK (ho);clear ho hb hg hat))
      go_roundg k1
      case measure => have := bR.out;omega
      case rel => exact ⟨(aX),(aD),(by first|rfl|(simp;done)|(simp [*];done)),H',⟨by have := bR.out;omega⟩,⟨by refine sO ?_;exact Kd.S_mono a2.out (fun _ hk => trivial)⟩,⟨bG HB.out⟩⟩
     ·rw [if_neg c6] at H
      have a9 := beq_eq_false_iff_ne.mpr c6
      have ba := bne_iff_ne.mpr c6
      simp only [Option.some.injEq,Prod.mk.injEq] at H
      obtain ⟨rfl,rfl⟩ := H
      go_wp2_with (first|((with_reducible refine gate_callee (f := 47) rfl ?_);refine gL 13 Tryz.func47 #[.slice A0 l0.length c0,.int .i64 aq,.int .i64 9223372036854775807] ?_;(with_reducible refine (checksum_Open.calls k1 _ _ l0 aq 9223372036854775807 ax aD aM _ ?ao ?ap A2.out).mono ?_);(case ao => exact cM (Kd.C_below a3.out HB.out));(case ap => exact a4.out);rintro e cb ⟨aV,rfl,aC,hb⟩;refine ⟨_,rfl,?_⟩;replace ab := aK (Kd.S_below (by (with_reducible repeat (first|apply Kd.S_alloc|apply Kd.S_drewN|apply Kd.S_drew));exact ab.out) hb);have ac := aK (Kd.R_lower aC (below_size (bM HB.out)));replace HB := aK (below_step (bM HB.out) hb);(try clear hb);(try clear hk);(try clear aC);obtain ⟨bi,bj,bk⟩ := Kd.R_slice ac.out;subst bk)|((with_reducible refine gate_callee (f := 10) rfl ?_);refine gL 23 Tryz.func10 #[.slice bi ax.length bj] ?_;(with_reducible refine (manifest_Decode.calls k1 _ _ ax ae al an af ah am aN _ ?ao ?ap A4.out).mono ?_);(case ao => exact cM (Kd.R_reads' ac.out).2.2);(case ap => exact (Kd.R_reads' ac.out).2.1);rintro e cc ⟨aZ,a0,a1,rfl,aC,aQ,aR,hb⟩;refine ⟨_,rfl,?_⟩;replace ab := aK (Kd.S_mono (Kd.S_told (Kd.S_told (Kd.S_told (Kd.S_old (by (with_reducible repeat (first|apply Kd.S_alloc|apply Kd.S_drewN|apply Kd.S_drew));exact ab.out) hb) (Kd.R_base aC)) (Kd.R_base aQ)) (Kd.R_base aR)) (fun _ h_ => h_.1));replace ac := aK (Kd.R_below (rM ac.out) hb);have ai := aK (Kd.R_lower aC (below_size (bM HB.out)));have aj := aK (Kd.R_lower aQ (below_size (bM HB.out)));have ak := aK (Kd.R_lower aR (below_size (bM HB.out)));replace HB := aK (below_step (bM HB.out) hb);(try clear hb);(try clear hk);(try clear aC);(try clear aQ);(try clear aR))|((with_reducible refine gate_dst (N := 9) rfl ?_);(try (refine gate_guard (by rfl) ?_;dsimp only));refine box_event ?hg (N := 9) ?hd (cs := #[.int .i64 0,.int .i64 0,.int .i64 0,.slice none 0 0,.slice none 0 0,.slice none 0 0]) (t := 30) ?hr ?_;(case hd => rfl);(case hg => rfl);(case hr => first|(go_simp;done)|(go_simp;rfl));intro aa hg cd hbox hb;replace ab := aK (Kd.S_below (Kd.S_elderB (by (with_reducible repeat (first|apply Kd.S_alloc|apply Kd.S_drewN|apply Kd.S_drew));exact ab.out) aa (Nat.le_of_eq hg.symm)) hb);replace ac := aK (Kd.R_below (rM ac.out) hb);replace ai := aK (Kd.R_below (rM ai.out) hb);replace aj := aK (Kd.R_below (rM aj.out) hb);replace ak := aK (Kd.R_below (rM ak.out) hb);have ad := aK (hbox);have aG := aK ((by rw [hg];exact (below_size (bM HB.out)) : w.heap.size ≤ aa));have aT := Ge.mk aG.out;have aH := aK ((by rw [hg];exact (below_size (bM HB.out)) : w.heap.size ≤ aa));have aU := Ge.mk aH.out;replace HB := aK (below_step (bM HB.out) hb);clear hb hbox hg;obtain ⟨_,_,_,_,_,_,_,_,_,_,_,_⟩ := bk6_ ad.out;obtain ⟨bm,bn,bo⟩ := Kd.R_slice ai.out;subst bo;obtain ⟨bp,bq,br⟩ := Kd.R_slice aj.out;subst br;obtain ⟨bs,bu,bv⟩ := Kd.R_slice ak.out;subst bv;obtain ⟨b7,b8,bx⟩ := Kd.S_slice ab.out;subst bx))
      go_ret2
      exact ⟨_,by first|rfl|(simp [errW_none,errW_some] <;> rfl)|(simp [*,errW_none,errW_some] <;> rfl),by (with_reducible repeat (first|apply Kd.S_alloc|apply Kd.S_drewN|apply Kd.S_drew));exact Kd.S_mono (Kd.S_far (p := ⟨aa,5,none⟩) (Kd.S_far (p := ⟨aa,4,none⟩) (Kd.S_far (p := ⟨aa,3,none⟩) (Kd.S_far (p := ⟨aa,2,none⟩) (Kd.S_far (p := ⟨aa,1,none⟩) (Kd.S_far (p := ⟨aa,0,none⟩) (Kd.S_mono ab.out (fun k_ hk => (⟨hk,hk.2⟩ : _ ∧ k_ ≠ aa))) (fun _ hk => hk.2) (.int .i64 ae)) (fun _ hk => hk.2) (.int .i64 al)) (fun _ hk => hk.2) (.int .i64 an)) (fun _ hk => hk.2) (.slice bm af.length bn)) (fun _ hk => hk.2) (.slice bp ah.length bq)) (fun _ hk => hk.2) (.slice bs am.length bu)) (fun _ hk => trivial),bG HB.out⟩
    ·rw [if_neg c5] at H
     have a7 := beq_eq_false_iff_ne.mpr c5
     have a8 := bne_iff_ne.mpr c5
     simp only [Option.some.injEq,Prod.mk.injEq] at H
     obtain ⟨rfl,rfl⟩ := H
     go_wp2_with (first|((with_reducible refine gate_callee (f := 47) rfl ?_);refine gL 13 Tryz.func47 #[.slice A0 l0.length c0,.int .i64 aq,.int .i64 9223372036854775807] ?_;(with_reducible refine (checksum_Open.calls k1 _ _ l0 aq 9223372036854775807 ax aD aM _ ?ao ?ap A2.out).mono ?_);(case ao => exact cM (Kd.C_below a3.out HB.out));(case ap => exact a4.out);rintro e ce ⟨aV,rfl,aC,hb⟩;refine ⟨_,rfl,?_⟩;replace ab := aK (Kd.S_below (by (with_reducible repeat (first|apply Kd.S_alloc|apply Kd.S_drewN|apply Kd.S_drew));exact ab.out) hb);have ac := aK (Kd.R_lower aC (below_size (bM HB.out)));replace HB := aK (below_step (bM HB.out) hb);(try clear hb);(try clear hk);(try clear aC);obtain ⟨bz,bB,bC⟩ := Kd.R_slice ac.out;subst bC)|((with_reducible refine gate_callee (f := 10) rfl ?_);refine gL 23 Tryz.func10 #[.slice bz ax.length bB] ?_;(with_reducible refine (manifest_Decode.calls k1 _ _ ax ae al an af ah am aN _ ?ao ?ap A4.out).mono ?_);(case ao => exact cM (Kd.R_reads' ac.out).2.2);(case ap => exact (Kd.R_reads' ac.out).2.1);rintro e cf ⟨aZ,a0,a1,rfl,aC,aQ,aR,hb⟩;refine ⟨_,rfl,?_⟩;replace ab := aK (Kd.S_mono (Kd.S_told (Kd.S_told (Kd.S_told (Kd.S_old (by (with_reducible repeat (first|apply Kd.S_alloc|apply Kd.S_drewN|apply Kd.S_drew));exact ab.out) hb) (Kd.R_base aC)) (Kd.R_base aQ)) (Kd.R_base aR)) (fun _ h_ => h_.1));have ai := aK (Kd.R_lower aC (below_size (bM HB.out)));have aj := aK (Kd.R_lower aQ (below_size (bM HB.out)));have ak := aK (Kd.R_lower aR (below_size (bM HB.out)));replace HB := aK (below_step (bM HB.out) hb);(try clear hb);(try clear hk);(try clear aC);(try clear aQ);(try clear aR))|((with_reducible refine gate_dst (N := 9) rfl ?_);(try (refine gate_guard (by rfl) ?_;dsimp only));refine box_event ?hg (N := 9) ?hd (cs := #[.int .i64 0,.int .i64 0,.int .i64 0,.slice none 0 0,.slice none 0 0,.slice none 0 0]) (t := 30) ?hr ?_;(case hd => rfl);(case hg => rfl);(case hr => first|(go_simp;done)|(go_simp;rfl));intro aa hg cg hbox hb;replace ab := aK (Kd.S_below (Kd.S_elderB (by (with_reducible repeat (first|apply Kd.S_alloc|apply Kd.S_drewN|apply Kd.S_drew));exact ab.out) aa (Nat.le_of_eq hg.symm)) hb);replace ai := aK (Kd.R_below (rM ai.out) hb);replace aj := aK (Kd.R_below (rM aj.out) hb);replace ak := aK (Kd.R_below (rM ak.out) hb);have ad := aK (hbox);have aG := aK ((by rw [hg];exact (below_size (bM HB.out)) : w.heap.size ≤ aa));have aT := Ge.mk aG.out;have aH := aK ((by rw [hg];exact (below_size (bM HB.out)) : w.heap.size ≤ aa));have aU := Ge.mk aH.out;replace HB := aK (below_step (bM HB.out) hb);clear hb hbox hg;obtain ⟨_,_,_,_,_,_,_,_,_,_,_,_⟩ := bk6_ ad.out;obtain ⟨bD,bE,bF⟩ := Kd.R_slice ai.out;subst bF;obtain ⟨bH,bI,bJ⟩ := Kd.R_slice aj.out;subst bJ;obtain ⟨bK,bL,bN⟩ := Kd.R_slice ak.out;subst bN))
     go_ret2
     exact ⟨_,by first|rfl|(simp [errW_none,errW_some] <;> rfl)|(simp [*,errW_none,errW_some] <;> rfl),by (with_reducible repeat (first|apply Kd.S_alloc|apply Kd.S_drewN|apply Kd.S_drew));exact Kd.S_mono (Kd.S_far (p := ⟨aa,5,none⟩) (Kd.S_far (p := ⟨aa,4,none⟩) (Kd.S_far (p := ⟨aa,3,none⟩) (Kd.S_far (p := ⟨aa,2,none⟩) (Kd.S_far (p := ⟨aa,1,none⟩) (Kd.S_far (p := ⟨aa,0,none⟩) (Kd.S_mono ab.out (fun k_ hk => (⟨hk,hk.2⟩ : _ ∧ k_ ≠ aa))) (fun _ hk => hk.2) (.int .i64 ae)) (fun _ hk => hk.2) (.int .i64 al)) (fun _ hk => hk.2) (.int .i64 an)) (fun _ hk => hk.2) (.slice bD af.length bE)) (fun _ hk => hk.2) (.slice bH ah.length bI)) (fun _ hk => hk.2) (.slice bK am.length bL)) (fun _ hk => trivial),bG HB.out⟩
   ·rw [if_neg c3] at H
    have a5 := beq_eq_false_iff_ne.mpr c3
    have a6 := bne_iff_ne.mpr c3
    simp only [Option.some.injEq,Prod.mk.injEq] at H
    obtain ⟨rfl,rfl⟩ := H
    go_wp2_with (first|((with_reducible refine gate_callee (f := 47) rfl ?_);refine gL 13 Tryz.func47 #[.slice A0 l0.length c0,.int .i64 aq,.int .i64 9223372036854775807] ?_;(with_reducible refine (checksum_Open.calls k1 _ _ l0 aq 9223372036854775807 ax aD aM _ ?ao ?ap A2.out).mono ?_);(case ao => exact cM (Kd.C_below a3.out HB.out));(case ap => exact a4.out);rintro e ch ⟨aV,rfl,aC,hb⟩;refine ⟨_,rfl,?_⟩;replace ab := aK (Kd.S_below (by (with_reducible repeat (first|apply Kd.S_alloc|apply Kd.S_drewN|apply Kd.S_drew));exact ab.out) hb);replace HB := aK (below_step (bM HB.out) hb);(try clear hb);(try clear hk);(try clear aC)))
    go_ret2
    exact ⟨_,by first|rfl|(simp [errW_none,errW_some] <;> rfl)|(simp [*,errW_none,errW_some] <;> rfl),by refine sO ?_;exact ab.out,bM HB.out⟩
def checksum_Seal.f (l0 : List Int) : Option (List Int) := (varint_Put.f ([] : List Int) (l0.length : Int)).bind fun ac => (if ac.length + l0.length < 140737488355328 then ((some (ac ++ l0 : List Int)).bind fun ab => ((checksum_Sum.f ab).bind fun aa => ((some (([(aa / 16777216) % 256, (aa / 65536) % 256, (aa / 256) % 256, (aa) % 256] : List Int) : List Int)).bind fun ad => (if ab.length + ad.length < 140737488355328 then (some (ab ++ ad)) else (none))))) else (none))
theorem checksum_Seal.calls (A0 : Option Addr) (c0 : Nat) (l0 : List Int) (r : List Int) (w : World) (aC : Kd.C (Kd.int .u8) w A0 l0.length l0) (aD : l0.length ≤ c0) (h : checksum_Seal.f l0 = some r) :
  Calls Tryz.prog 49 #[.slice A0 l0.length c0] w fun e w' => ∃ aE : Value,e = .returned (aE) ∧ Kd.R (Kd.int .u8) 5 w' w.heap.size (fun _ => True) aE r ∧ Below w.heap.size w w' := by
 have aN := aK aC
 have aV := aK aD
 clear aC aD
 have HB := aK (Below.refl w.heap.size w)
 unfold checksum_Seal.f at h
 have H := h
 clear h
 replace H := Option.bind_eq_some_iff.mp H
 obtain ⟨am,aG,H⟩ := H
 have A2 := aK aG
 clear aG
 by_cases c3 : am.length + l0.length < 140737488355328
 ·rw [if_pos c3] at H
  have au := aK c3
  clear c3
  obtain ⟨ac,ad⟩ : ∃ y_ : List Int,y_ = (am ++ l0) := ⟨_,rfl⟩
  replace H : ((checksum_Sum.f ac).bind fun aa => ((some (([(aa / 16777216) % 256,(aa / 65536) % 256,(aa / 256) % 256,(aa) % 256] : List Int) : List Int)).bind fun ae => (if ac.length + ae.length < 140737488355328 then (some (ac ++ ae)) else (none)))) = some r := by first|(rw [ad];with_reducible exact H)|(have ai := (Option.bind_some _ _).symm.trans H;rw [ad];with_reducible exact ai)|(have ai := (Option.bind_some _ _).symm.trans H;with_reducible exact ai)|with_reducible exact H|(rw [ad];exact H)|exact H
  have ao := aK ad
  clear ad
  replace H := Option.bind_eq_some_iff.mp H
  obtain ⟨aa,aH,H⟩ := H
  have A4 := aK aH
  clear aH
  obtain ⟨ae,af⟩ : ∃ y_ : List Int,y_ = (([(aa / 16777216) % 256,(aa / 65536) % 256,(aa / 256) % 256,(aa) % 256] : List Int)) := ⟨_,rfl⟩
  replace H : (if ac.length + ae.length < 140737488355328 then (some (ac ++ ae)) else (none)) = some r := by first|(rw [af];with_reducible exact H)|(have ai := (Option.bind_some _ _).symm.trans H;rw [af];with_reducible exact ai)|(have ai := (Option.bind_some _ _).symm.trans H;with_reducible exact ai)|with_reducible exact H|(rw [af];exact H)|exact H
  have an := aK af
  clear af
  obtain ⟨c5,H⟩ := iS H
  have av := aK c5
  clear c5
  obtain ⟨aw,ag⟩ : ∃ y_ : List Int,y_ = (ac ++ ae) := ⟨_,rfl⟩
  replace H : (some aw) = some r := by first|(rw [ag];with_reducible exact H)|(have ai := (Option.bind_some _ _).symm.trans H;rw [ag];with_reducible exact ai)|(have ai := (Option.bind_some _ _).symm.trans H;with_reducible exact ai)|with_reducible exact H|(rw [ag];exact H)|exact H
  have ap := aK ag
  clear ag
  obtain rfl := Option.some.inj H
  go_enter Tryz.func49,Tryz.ntmps49
  go_wp2_with (first|(go_at_call 41;refine calls_of_args (args' := #[.slice none ([] : List Int).length 0,.int .i64 (l0.length : Int)]) (by first|with_reducible rfl|(simp only [List.length_nil];done)|(simp only [List.length_nil];with_reducible rfl)) ?_;(with_reducible refine (varint_Put.calls _ _ ([] : List Int) (l0.length : Int) am _ ?aj ?ak A2.out).mono ?_);(case aj => exact Kd.C_nil _ _);(case ak => exact Nat.le_refl _);rintro e w6 ⟨ax,rfl,aI,hb⟩;have aq := aK (Kd.R_lower aI (below_size (bM HB.out)));replace HB := aK (below_step (bM HB.out) hb);(try clear hb);(try clear hk);(try clear aI))|((with_reducible refine gate_builtin (b := .append) (xs := #[.tmp 7,.tmp 8]) rfl ?_);at_builtin;refine Kd.R_append_rows (Kd.int .u8) (w0 := w) w.heap.size rfl (.tmp 7) (.tmp 8) 31 5 (.int .u8 0) 1 rfl Tryz.underlying31 info5 rfl (by decide) (by omega) ax am l0 _ _ _ (fun _ => True) (fun _ => False) rfl rfl ?aO ?aR (fun _ _ h => h) (fun _ h => h.elim) ?aF ?aB ?aS ?aL ?_;(case aR => exact cM (Kd.C_below aN.out HB.out));(case aB => exact (bM HB.out));(case aF => exact (fun _ _ => trivial));(case aO => exact (rM aq.out));(case aS => exact (below_size (bM HB.out)));(case aL => have := au.out;omega);intro aP w7 ho hb hg hat;rw [← ao.out] at ho;replace HB := aK (hb);have ab := aK (ho);clear ho hb hg hat;obtain ⟨aJ,aM,aQ⟩ := Kd.R_slice ab.out;subst aQ)|((with_reducible refine gate_callee (f := 62) rfl ?_);refine gL 11 Tryz.func62 #[.slice aJ ac.length aM] ?_;(with_reducible refine (checksum_Sum.calls _ _ ac aa _ ?aj ?ak A4.out).mono ?_);(case aj => exact cM (Kd.R_reads' ab.out).2.2);(case ak => exact (Kd.R_reads' ab.out).2.1);rintro e w9 ⟨rfl,hb⟩;refine ⟨_,rfl,?_⟩;replace ab := aK (Kd.R_below (rM ab.out) hb);replace HB := aK (below_step (bM HB.out) hb);(try clear hb);(try clear hk))|((with_reducible refine gate_dst (N := 24) rfl ?_);refine Kd.R_lit (Kd.int .u8) _ 5 ?hg (N := 24) ?hd (xs := ([(aa / 16777216) % 256,(aa / 65536) % 256,(aa / 256) % 256,(aa) % 256] : List Int)) (inner := [.int .u8 ((aa / 16777216) % 256),.int .u8 ((aa / 65536) % 256),.int .u8 ((aa / 256) % 256),.int .u8 ((aa) % 256)]) (ok := fun _ => True) (okp := fun _ => True) ?hr ?hp (fun _ hk => hk) trivial (Below.refl _ _) (Nat.le_refl _) (by simp) ?_;(case hd => rfl);(case hg => rfl);(case hr => first|(go_simp;done)|(go_simp;rfl));(case hp => exact (Reps.one (show Kd.M (Kd.int .u8) _ _ _ ((aa / 16777216) % 256) [.int .u8 ((aa / 16777216) % 256)] from rfl) (Reps.one (show Kd.M (Kd.int .u8) _ _ _ ((aa / 65536) % 256) [.int .u8 ((aa / 65536) % 256)] from rfl) (Reps.one (show Kd.M (Kd.int .u8) _ _ _ ((aa / 256) % 256) [.int .u8 ((aa / 256) % 256)] from rfl) (Reps.one (show Kd.M (Kd.int .u8) _ _ _ ((aa) % 256) [.int .u8 ((aa) % 256)] from rfl) (Reps.none _ _))))));intro aT aW ah hb hg_ hnew_;clear hg_ hnew_;(first|rw [← an.out] at ah|(simp only [Int.reduceToNat] at ah;rw [← an.out] at ah));have al := aK (Kd.R_lower (Kd.R_new' ah (Kd.R_lt (rM ab.out))) (below_size (bM HB.out)));replace ab := aK (Kd.R_elder' (rM ab.out) (Kd.R_base ah) hb);replace HB := aK (below_step (bM HB.out) hb);clear hb ah;obtain ⟨ay,az,aA⟩ := Kd.R_slice al.out;subst aA)|((with_reducible refine gate_builtin (b := .append) (xs := #[.tmp 12,.tmp 24]) rfl ?_);at_builtin;refine Kd.R_append_rows (Kd.int .u8) (w0 := w) w.heap.size rfl (.tmp 12) (.tmp 24) 31 5 (.int .u8 0) 1 rfl Tryz.underlying31 info5 rfl (by decide) (by omega) (.slice aJ ac.length aM) ac ae _ _ _ (fun k_ => some k_ ≠ (.slice ay ae.length az : Value).ownBlock) (fun _ => False) rfl rfl ?aO ?aR (fun _ _ h => h) (fun _ h => h.elim) ?aF ?aB ?aS ?aL ?_;(case aR => exact cM (Kd.R_reads' al.out).2.2);(case aB => exact (bM HB.out));(case aF => exact (fun k_ hk => Kd.fresh' (Kd.R_lt (rM al.out)) k_ hk));(case aO => exact (by (with_reducible repeat (first|apply Kd.R_alloc|apply Kd.R_drewN|apply Kd.R_drew));exact Kd.R_mono ab.out (fun _ hk => hk.2)));(case aS => exact (below_size (bM HB.out)));(case aL => have := av.out;omega);intro aU aX ho hb hg hat;rw [← ap.out] at ho;replace HB := aK (hb);have ar := aK (ho);clear ho hb hg hat))
  go_ret
  exact ⟨_,by first|rfl|(simp [errW_none,errW_some] <;> rfl)|(simp [*,errW_none,errW_some] <;> rfl),rM (Kd.R_mono ar.out (fun _ hk => trivial)),bM HB.out⟩
 ·rw [if_neg c3] at H
  exact absurd H (by simp)
def manifest_Write.l0 : Nat → List Int → List (S30) → Int → Int → Option (List Int)
|0,_,_,_,_ => none
|k + 1,x3,x6,x7,x8 => if x8 < x7 then (if 0 ≤ x8 then (if x8 < (x6.length : Int) then ((manifest_Encode.f k ((rd_T30 x6 x8).f0) ((rd_T30 x6 x8).f1) ((rd_T30 x6 x8).f2) ((rd_T30 x6 x8).f3) ((rd_T30 x6 x8).f4) ((rd_T30 x6 x8).f5)).bind fun ab => ((checksum_Seal.f ab).bind fun aa => (if x3.length + aa.length < 140737488355328 then (manifest_Write.l0 k (x3 ++ aa) x6 x7 (wrap64 (x8 + 1))) else (none)))) else (none)) else (none)) else (some x3)
def manifest_Write.f (k : Nat) (l0 : List (S30)) : Option (List Int) := manifest_Write.l0 k ([] : List Int) l0 (l0.length : Int) 0
theorem manifest_Write.mono_l : ∀ k, (∀ y0 y1 y2 y3, LeO (manifest_Write.l0 k y0 y1 y2 y3) (manifest_Write.l0 (k + 1) y0 y1 y2 y3))
|0 => fun _ _ _ _ r h => by simp [manifest_Write.l0] at h
|k + 1 => by
  have ih0 := manifest_Write.mono_l k
  ·intro y0 y1 y2 y3
   unfold manifest_Write.l0
   repeat' (with_reducible first|exact ih0 _ _ _ _|exact manifest_Encode.mono _ _ _ _ _ _ _|exact LeO.refl _|exact LeO.none _|refine LeO.ite ?_ ?_|refine LeO.bind ?_ (fun _ => ?_))
theorem manifest_Write.mono : ∀ a0 k, LeO (manifest_Write.f k a0) (manifest_Write.f (k + 1) a0) := by
 intro a0 k
 have ih0 := manifest_Write.mono_l k
 unfold manifest_Write.f
 repeat' (with_reducible first|exact ih0 _ _ _ _|exact manifest_Encode.mono _ _ _ _ _ _ _|exact LeO.refl _|exact LeO.none _|refine LeO.ite ?_ ?_|refine LeO.bind ?_ (fun _ => ?_))
theorem manifest_Write.calls (k : Nat) (A0 : Option Addr) (c0 : Nat) (l0 : List (S30)) (r : List Int) (w : World) (bf : Kd.C k30 w A0 l0.length l0) (bg : l0.length ≤ c0) (h : manifest_Write.f k l0 = some r) :
  Calls Tryz.prog 17 #[.slice A0 l0.length c0] w fun e w' => ∃ bh : Value,e = .returned (bh) ∧ Kd.R (Kd.int .u8) 5 w' w.heap.size (fun _ => True) bh r ∧ Below w.heap.size w w' := by
 have bp := Tryz.underlying30
 have bq := aK bf
 have bz := aK bg
 clear bf bg
 have HB := aK (Below.refl w.heap.size w)
 have H : (manifest_Write.l0 k ([] : List Int) l0 (l0.length : Int) 0) = some r := h
 clear h
 have H' := aK H
 clear H
 go_enter Tryz.func17,Tryz.ntmps17
 go_wp2
 go_loopg [3,8] k (fun kq v3 v8 w' => ∃ (az : List Int) (aa : Int),v8 = .int .i64 aa ∧ Aside0 (manifest_Write.l0 kq az l0 (l0.length : Int) aa = some r) ∧ Aside0 (kq ≤ k) ∧ Aside0 (Kd.R (Kd.int .u8) 5 w' w.heap.size (fun _ => True) v3 az) ∧ Aside0 (Below w.heap.size w w'))
 case atStart => exact ⟨(([] : List Int)),(0),(by first|rfl|(simp;done)|(simp [*];done)),H',⟨Nat.le_refl _⟩,⟨by first|exact Kd.R_nil _ _ _ _ _|exact Kd.N_nil _ _ _ _ _|exact Kd.V_nil _ _ _ _ _|exact Kd.Q_nil _ _ _ _ _|exact Kd.S_nil _ _ _ _ _⟩,⟨bM HB.out⟩⟩
 case round =>
  clear H'
  obtain ⟨az,aa,rfl,HA,bi,ad,HB⟩ := hrel
  cases gk with
 |zero => exact absurd HA.out (by simp [manifest_Write.l0])
 |succ k1 =>
   have H := HA.out
   clear HA
   simp only [manifest_Write.l0] at H
   by_cases c2 : aa < (l0.length : Int)
   ·rw [if_pos c2] at H
    have a7 := decide_eq_true c2
    clear c2
    obtain ⟨c3,H⟩ := iS H
    have br := decide_eq_true c3
    clear c3
    obtain ⟨c4,H⟩ := iS H
    have bs := decide_eq_true c4
    clear c4
    replace H := Option.bind_eq_some_iff.mp H
    obtain ⟨aG,bj,H⟩ := H
    have A5 := aK bj
    clear bj
    replace H := Option.bind_eq_some_iff.mp H
    obtain ⟨aH,bk,H⟩ := H
    have A6 := aK bk
    clear bk
    obtain ⟨c7,H⟩ := iS H
    have a8 := aK c7
    clear c7
    obtain ⟨aW,ae⟩ : ∃ y_ : List Int,y_ = (az ++ aH) := ⟨_,rfl⟩
    replace H : (manifest_Write.l0 k1 aW l0 (l0.length : Int) (wrap64 (aa + 1))) = some r := by first|(rw [ae];with_reducible exact H)|(have a9 := (Option.bind_some _ _).symm.trans H;rw [ae];with_reducible exact a9)|(have a9 := (Option.bind_some _ _).symm.trans H;with_reducible exact a9)|with_reducible exact H|(rw [ae];exact H)|exact H
    have aX := aK ae
    clear ae
    have H' := aK H
    clear H
    have aU : 0 ≤ (aa : Int) := dA
    have aV : aa < (l0.length : Int) := dA
    obtain ⟨bm,af,ag,ah,ai,aj,ak,ba,al,am,an,ao,ap,aq,ar,au,av,aw,ax,ay⟩ := at_T30 bq.out aa aU aV
    cases ba
    replace al := xM HB al
    replace am := xM HB am
    replace an := xM HB an
    replace ao := xM HB ao
    replace ap := xM HB ap
    replace aq := xM HB aq
    have aI := aK au
    have aJ := aK ar
    clear au ar
    have aM := aK aw
    have aN := aK av
    clear aw av
    have aP := aK ay
    have aQ := aK ax
    clear ay ax
    replace aU := eq_true aU
    replace aV := eq_true aV
    go_wp2_with (first|((with_reducible refine gate_dst (N := 5) rfl ?_);refine box_event ?hg (N := 5) ?hd (cs := #[.int .i64 0,.int .i64 0,.int .i64 0,.slice none 0 0,.slice none 0 0,.slice none 0 0]) (t := 30) ?hr ?_;(case hd => rfl);(case hg => rfl);(case hr => first|(go_simp;done)|(go_simp;rfl));intro ab hg w8 hbox hb;replace ad := aK (Kd.R_below (rM ad.out) hb);have aA := aK (hbox);have aY := aK ((by rw [hg];exact (below_size (bM HB.out)) : w.heap.size ≤ ab));have bn := Ge.mk aY.out;have aZ := aK ((by rw [hg];exact (below_size (bM HB.out)) : w.heap.size ≤ ab));have bo := Ge.mk aZ.out;replace HB := aK (below_step (bM HB.out) hb);clear hb hbox hg;obtain ⟨_,_,_,_,_,_,_,_,_,_,_,_⟩ := bk6_ aA.out)|((with_reducible refine gate_callee (f := 12) rfl ?_);refine gL 14 Tryz.func12 #[.agg #[.int .i64 ((rd_T30 l0 aa).f0),.int .i64 ((rd_T30 l0 aa).f1),.int .i64 ((rd_T30 l0 aa).f2),.slice af ((rd_T30 l0 aa).f3).length ag,.slice ah ((rd_T30 l0 aa).f4).length ai,.slice aj ((rd_T30 l0 aa).f5).length ak]] ?_;(with_reducible refine (manifest_Encode.calls k1 ((rd_T30 l0 aa).f0) ((rd_T30 l0 aa).f1) ((rd_T30 l0 aa).f2) _ _ ((rd_T30 l0 aa).f3) _ _ ((rd_T30 l0 aa).f4) _ _ ((rd_T30 l0 aa).f5) aG _ ?aC ?aD ?a0 ?a1 ?a2 ?a3 A5.out).mono ?_);(case aC => exact Kd.C_below aI.out (bG HB.out));(case aD => exact aJ.out);(case a0 => exact Kd.C_below aM.out (bG HB.out));(case a1 => exact aN.out);(case a2 => exact Kd.C_below aP.out (bG HB.out));(case a3 => exact aQ.out);rintro e bB ⟨bu,rfl,aT,hb⟩;refine ⟨_,rfl,?_⟩;have ac := aK (Kd.R_lower (Kd.R_new' aT (Kd.R_lt (by (with_reducible repeat (first|apply Kd.R_alloc|apply Kd.R_drewN|apply Kd.R_drew));exact (Kd.R_mono (Kd.R_far (p := ⟨ab,5,none⟩) (Kd.R_far (p := ⟨ab,4,none⟩) (Kd.R_far (p := ⟨ab,3,none⟩) (Kd.R_far (p := ⟨ab,2,none⟩) (Kd.R_far (p := ⟨ab,1,none⟩) (Kd.R_far (p := ⟨ab,0,none⟩) (Kd.R_types ad.out aA.out (by decide)) (fun _ hk => hk.2) (.int .i64 ((rd_T30 l0 aa).f0))) (fun _ hk => hk.2) (.int .i64 ((rd_T30 l0 aa).f1))) (fun _ hk => hk.2) (.int .i64 ((rd_T30 l0 aa).f2))) (fun _ hk => hk.2) (.slice af ((rd_T30 l0 aa).f3).length ag)) (fun _ hk => hk.2) (.slice ah ((rd_T30 l0 aa).f4).length ai)) (fun _ hk => hk.2) (.slice aj ((rd_T30 l0 aa).f5).length ak)) (fun _ h_ => h_.1))))) (below_size (bG HB.out)));replace ad := aK (Kd.R_elder' (by (with_reducible repeat (first|apply Kd.R_alloc|apply Kd.R_drewN|apply Kd.R_drew));exact (Kd.R_mono (Kd.R_far (p := ⟨ab,5,none⟩) (Kd.R_far (p := ⟨ab,4,none⟩) (Kd.R_far (p := ⟨ab,3,none⟩) (Kd.R_far (p := ⟨ab,2,none⟩) (Kd.R_far (p := ⟨ab,1,none⟩) (Kd.R_far (p := ⟨ab,0,none⟩) (Kd.R_types ad.out aA.out (by decide)) (fun _ hk => hk.2) (.int .i64 ((rd_T30 l0 aa).f0))) (fun _ hk => hk.2) (.int .i64 ((rd_T30 l0 aa).f1))) (fun _ hk => hk.2) (.int .i64 ((rd_T30 l0 aa).f2))) (fun _ hk => hk.2) (.slice af ((rd_T30 l0 aa).f3).length ag)) (fun _ hk => hk.2) (.slice ah ((rd_T30 l0 aa).f4).length ai)) (fun _ hk => hk.2) (.slice aj ((rd_T30 l0 aa).f5).length ak)) (fun _ h_ => h_.1))) (Kd.R_base aT) hb);replace HB := aK (below_step (bG HB.out) hb);(try clear hb);(try clear hk);(try clear aT);obtain ⟨a4,a5,bb⟩ := Kd.R_slice ac.out;subst bb)|((with_reducible refine gate_callee (f := 49) rfl ?_);refine gL 15 Tryz.func49 #[.slice a4 aG.length a5] ?_;(with_reducible refine (checksum_Seal.calls _ _ aG aH _ ?aC ?aD A6.out).mono ?_);(case aC => exact cM (Kd.R_reads' ac.out).2.2);(case aD => exact (Kd.R_reads' ac.out).2.1);rintro e bC ⟨bv,rfl,aT,hb⟩;refine ⟨_,rfl,?_⟩;have aE := aK (Kd.R_lower (Kd.R_new' (Kd.R_new' aT (Kd.R_lt (rM ad.out))) (Kd.R_lt (rM ac.out))) (below_size (bG HB.out)));replace ad := aK (Kd.R_elder' (rM ad.out) (Kd.R_base aT) hb);replace ac := aK (Kd.R_elder' (rM ac.out) (Kd.R_base aT) hb);replace HB := aK (below_step (bG HB.out) hb);(try clear hb);(try clear hk);(try clear aT);obtain ⟨bc,bd,be⟩ := Kd.R_slice aE.out;subst be)|((with_reducible refine gate_builtin (b := .append) (xs := #[.tmp 12,.tmp 15]) rfl ?_);at_builtin;refine Kd.R_append_rows (Kd.int .u8) (w0 := w) w.heap.size rfl (.tmp 12) (.tmp 15) 31 5 (.int .u8 0) 1 rfl Tryz.underlying31 info5 rfl (by decide) (by omega) u3 az aH _ _ _ (fun k_ => some k_ ≠ (.slice a4 aG.length a5 : Value).ownBlock ∧ some k_ ≠ (.slice bc aH.length bd : Value).ownBlock) (fun _ => False) rfl rfl ?aO ?aR (fun _ _ h => h) (fun _ h => h.elim) ?aF ?aB ?aS ?aL ?_;(case aR => exact cM (Kd.R_reads' aE.out).2.2);(case aB => exact (bG HB.out));(case aF => exact (fun k_ hk => ⟨Kd.fresh' (Kd.R_lt (rM ac.out)) k_ hk,Kd.fresh' (Kd.R_lt (rM aE.out)) k_ hk⟩));(case aO => exact (by (with_reducible repeat (first|apply Kd.R_alloc|apply Kd.R_drewN|apply Kd.R_drew));exact Kd.R_mono ad.out (fun _ hk => ⟨hk.1.2,hk.2⟩)));(case aS => exact (below_size (bG HB.out)));(case aL => have := a8.out;omega);intro bx bD ho hb hg hat;rw [← aX.out] at ho;replace HB := aK (hb);have a6 := aK (ho);clear ho hb hg hat))
    go_roundg k1
    case measure => have := bi.out;omega
    case rel => exact ⟨(aW),(wrap64 (aa + 1)),(by first|rfl|(simp;done)|(simp [*];done)),H',⟨by have := bi.out;omega⟩,⟨rM (Kd.R_mono a6.out (fun _ hk => trivial))⟩,⟨bG HB.out⟩⟩
   ·rw [if_neg c2] at H
    have a7 := decide_eq_false c2
    clear c2
    obtain rfl := Option.some.inj H
    go_wp2
    go_ret
    exact ⟨_,by first|rfl|(simp [errW_none,errW_some] <;> rfl)|(simp [*,errW_none,errW_some] <;> rfl),rM ad.out,bM HB.out⟩
def r33_SameInts.l0 : Nat → List Int → List Int → Int → Option (Bool)
|0,_,_,_ => none
|k + 1,x0,x1,x5 => if x5 < (x0.length : Int) then (if 0 ≤ x5 then (if x5 < (x1.length : Int) then (if (rd x0 x5) = (rd x1 x5) then (r33_SameInts.l0 k x0 x1 (wrap64 (x5 + 1))) else (some false)) else (none)) else (none)) else (some true)
def r33_SameInts.f (k : Nat) (l0 : List Int) (l1 : List Int) : Option (Bool) := if (l0.length : Int) = (l1.length : Int) then (r33_SameInts.l0 k l0 l1 0) else (some false)
theorem r33_SameInts.mono_l : ∀ k, (∀ y0 y1 y2, LeO (r33_SameInts.l0 k y0 y1 y2) (r33_SameInts.l0 (k + 1) y0 y1 y2))
|0 => fun _ _ _ r h => by simp [r33_SameInts.l0] at h
|k + 1 => by
  have ih0 := r33_SameInts.mono_l k
  ·intro y0 y1 y2
   unfold r33_SameInts.l0
   repeat' (with_reducible first|exact ih0 _ _ _|exact LeO.refl _|exact LeO.none _|refine LeO.ite ?_ ?_|refine LeO.bind ?_ (fun _ => ?_))
theorem r33_SameInts.mono : ∀ a0 a1 k, LeO (r33_SameInts.f k a0 a1) (r33_SameInts.f (k + 1) a0 a1) := by
 intro a0 a1 k
 have ih0 := r33_SameInts.mono_l k
 unfold r33_SameInts.f
 repeat' (with_reducible first|exact ih0 _ _ _|exact LeO.refl _|exact LeO.none _|refine LeO.ite ?_ ?_|refine LeO.bind ?_ (fun _ => ?_))
theorem r33_SameInts.calls (k : Nat) (A0 : Option Addr) (c0 : Nat) (l0 : List Int) (A1 : Option Addr) (c1 : Nat) (l1 : List Int) (r : Bool) (w : World) (ar : Kd.C (Kd.int .i64) w A0 l0.length l0) (au : l0.length ≤ c0) (av : Kd.C (Kd.int .i64) w A1 l1.length l1) (aw : l1.length ≤ c1) (h : r33_SameInts.f k l0 l1 = some r) :
  Calls Tryz.prog 21 #[.slice A0 l0.length c0,.slice A1 l1.length c1] w fun e w' => e = .returned (.bool r) ∧ Drawn0 w w' := by
 have ax := aK ar
 have aC := aK au
 clear ar au
 have ay := aK av
 have aD := aK aw
 clear av aw
 have H : (if (l0.length : Int) = (l1.length : Int) then (r33_SameInts.l0 k l0 l1 0) else (some false)) = some r := h
 clear h
 by_cases c3 : (l0.length : Int) = (l1.length : Int)
 ·rw [if_pos c3] at H
  have aj := beq_iff_eq.mpr c3
  have ak := bne_eq_false_iff_eq.mpr c3
  have al : (l0.length == l1.length) = true := by first|simpa using c3|(simp at c3 ⊢;omega)
  clear c3
  have H' := aK H
  clear H
  go_enter Tryz.func21,Tryz.ntmps21
  go_wp2
  repeat (go_quiet (fail);try go_wp2)
  go_loopg [5] k (fun kq v5 w' => ∃ (aa : Int),v5 = .int .i64 aa ∧ Aside0 (r33_SameInts.l0 kq l0 l1 aa = some r) ∧ Aside0 (kq ≤ k) ∧ Drawn0 w w')
  case atStart => exact ⟨(0),(by first|rfl|(simp;done)|(simp [*];done)),H',⟨Nat.le_refl _⟩,by repeat (first|exact Drawn0.refl _|apply Drawn0.step)⟩
  case round =>
   clear H'
   try clear p2
   try clear c3
   try clear aj
   try clear ak
   try clear al
   obtain ⟨aa,rfl,HA,az,⟨m1,rfl⟩⟩ := hrel
   cases gk with
  |zero => exact absurd HA.out (by simp [r33_SameInts.l0])
  |succ k1 =>
    have H := HA.out
    clear HA
    simp only [r33_SameInts.l0] at H
    by_cases c4 : aa < (l0.length : Int)
    ·rw [if_pos c4] at H
     have ao := decide_eq_true c4
     clear c4
     obtain ⟨c5,H⟩ := iS H
     have aA := decide_eq_true c5
     clear c5
     obtain ⟨c6,H⟩ := iS H
     have aB := decide_eq_true c6
     clear c6
     by_cases c7 : (rd l0 aa) = (rd l1 aa)
     ·rw [if_pos c7] at H
      have ap := beq_iff_eq.mpr c7
      have aq := bne_eq_false_iff_eq.mpr c7
      clear c7
      have H' := aK H
      clear H
      have ab : 0 ≤ (aa : Int) := dA
      have ac : aa < (l0.length : Int) := dA
      obtain ⟨am,ah,af⟩ := Kd.at_int ax.out aa ab ac
      cases ah
      replace ab := eq_true ab
      replace ac := eq_true ac
      have ad : 0 ≤ (aa : Int) := dA
      have ae : aa < (l1.length : Int) := dA
      obtain ⟨an,ai,ag⟩ := Kd.at_int ay.out aa ad ae
      cases ai
      replace ad := eq_true ad
      replace ae := eq_true ae
      go_wp2
      repeat (go_quiet (fail);try go_wp2)
      go_roundg k1
      case measure => have := az.out;omega
      case rel => exact ⟨(wrap64 (aa + 1)),(by first|rfl|(simp;done)|(simp [*];done)),H',⟨by have := az.out;omega⟩,by repeat (first|exact Drawn0.refl _|apply Drawn0.step)⟩
     ·rw [if_neg c7] at H
      have ap := beq_eq_false_iff_ne.mpr c7
      have aq := bne_iff_ne.mpr c7
      obtain rfl := Option.some.inj H
      have ab : 0 ≤ (aa : Int) := dA
      have ac : aa < (l0.length : Int) := dA
      obtain ⟨am,ah,af⟩ := Kd.at_int ax.out aa ab ac
      cases ah
      replace ab := eq_true ab
      replace ac := eq_true ac
      have ad : 0 ≤ (aa : Int) := dA
      have ae : aa < (l1.length : Int) := dA
      obtain ⟨an,ai,ag⟩ := Kd.at_int ay.out aa ad ae
      cases ai
      replace ad := eq_true ad
      replace ae := eq_true ae
      go_wp2
      repeat (go_quiet (fail);try go_wp2)
      go_ret
      exact ⟨by first|rfl|(simp;done)|(simp [*];done),by repeat (first|exact Drawn0.refl _|apply Drawn0.step)⟩
    ·rw [if_neg c4] at H
     have ao := decide_eq_false c4
     clear c4
     obtain rfl := Option.some.inj H
     go_wp2
     repeat (go_quiet (fail);try go_wp2)
     go_ret
     exact ⟨by first|rfl|(simp;done)|(simp [*];done),by repeat (first|exact Drawn0.refl _|apply Drawn0.step)⟩
 ·rw [if_neg c3] at H
  have aj := beq_eq_false_iff_ne.mpr c3
  have ak := bne_iff_ne.mpr c3
  have al : (l0.length == l1.length) = false := by first|simpa using c3|(simp at c3 ⊢;omega)
  obtain rfl := Option.some.inj H
  go_enter Tryz.func21,Tryz.ntmps21
  go_wp2
  repeat (go_quiet (fail);try go_wp2)
  go_ret
  exact ⟨by first|rfl|(simp;done)|(simp [*];done),by repeat (first|exact Drawn0.refl _|apply Drawn0.step)⟩
end Go.Proofs.YtmgliocboeifdaaGreatDoor.F
