-- Written by hp.py, a program of this session, over the kit's print of the translation. Not trusted: Lean checks it.
import Derived.Test.YtmgliocboeifdaaDoorTx0
import Derived.Test.YtmgliocboeifdaaDoorTx1
namespace Go.Proofs.YtmgliocboeifdaaDoor.T
open Go.RowKit Go.Proofs.YtmgliocboeifdaaDoorW.PrintWords Go.Proofs.YtmgliocboeifdaaDoorW.PrintLast Go.Proofs.YtmgliocboeifdaaDoorW.PrintMore
attribute [local go_sem] max2_int min2_int max_two min_two max_three min_three max_four min_four   -- for this text's walks alone
set_option linter.unusedVariables false
set_option linter.unusedSimpArgs false

/-! ### varint_GetList: function 35 -/
mutual
def varint_GetList.l0 : Nat → List Int → Int → List Int → Int → Int → Int → Option (List Int × Int × Int)
|0,_,_,_,_,_,_ => none
|k + 1,x0,x10,x12,x13,x31,x32 => if x32 < x31 then ((varint_Get.f k x0 x10).bind fun bt115 => (if bt115.2.2 = 0 then (if x32 > 0 then (varint_GetList.j1 k x0 x12 x13 bt115.1 bt115.2.1 x31 x32 (bt115.1 == 0)) else (varint_GetList.j1 k x0 x12 x13 bt115.1 bt115.2.1 x31 x32 false)) else (some (([] : List Int),0,bt115.2.2)))) else (some (x12,x10,0))
def varint_GetList.j1 : Nat → List Int → List Int → Int → Int → Int → Int → Int → Bool → Option (List Int × Int × Int)
|0,_,_,_,_,_,_,_,_ => none
|k + 1,x0,x12,x13,x15,x16,x31,x32,x50 => if x50 = true then (some (([] : List Int),0,3)) else (if x15 > (wrap64 (4611686018427387904 - x13)) then (some (([] : List Int),0,4)) else (if x12.length < 17592186044416 then (varint_GetList.l0 k x0 x16 (x12 ++ [wrap64 (x13 + x15)]) (wrap64 (x13 + x15)) x31 (wrap64 (x32 + 1))) else (none)))
end
def varint_GetList.f (k : Nat) (l0 : List Int) (a1 : Int) (a2 : Int) : Option (List Int × Int × Int) := (varint_Get.f k l0 a1).bind fun bt112 => (if bt112.2.2 = 0 then (if bt112.1 > a2 then (some (([] : List Int), 0, 4)) else (varint_GetList.l0 k l0 bt112.2.1 ([] : List Int) 0 bt112.1 0)) else (some (([] : List Int), 0, bt112.2.2)))
theorem varint_GetList.mono_l : ∀ k, (∀ y0 y1 y2 y3 y4 y5, LeO (varint_GetList.l0 k y0 y1 y2 y3 y4 y5) (varint_GetList.l0 (k + 1) y0 y1 y2 y3 y4 y5)) ∧ (∀ y0 y1 y2 y3 y4 y5 y6 y7, LeO (varint_GetList.j1 k y0 y1 y2 y3 y4 y5 y6 y7) (varint_GetList.j1 (k + 1) y0 y1 y2 y3 y4 y5 y6 y7))
|0 => ⟨fun _ _ _ _ _ _ r h => by simp [varint_GetList.l0] at h,fun _ _ _ _ _ _ _ _ r h => by simp [varint_GetList.j1] at h⟩
|k + 1 => by
  obtain ⟨ih0,ih1⟩ := varint_GetList.mono_l k
  refine ⟨?_,?_⟩
  ·intro y0 y1 y2 y3 y4 y5
   unfold varint_GetList.l0
   repeat' (with_reducible first|exact ih1 _ _ _ _ _ _ _ _|exact varint_Get.mono _ _ _|exact LeO.refl _|exact LeO.none _|refine LeO.ite ?_ ?_|refine LeO.bind ?_ (fun _ => ?_))
  ·intro y0 y1 y2 y3 y4 y5 y6 y7
   unfold varint_GetList.j1
   repeat' (with_reducible first|exact ih0 _ _ _ _ _ _|exact LeO.refl _|exact LeO.none _|refine LeO.ite ?_ ?_|refine LeO.bind ?_ (fun _ => ?_))
theorem varint_GetList.mono : ∀ a0 a1 a2 k, LeO (varint_GetList.f k a0 a1 a2) (varint_GetList.f (k + 1) a0 a1 a2) := by
 intro a0 a1 a2 k
 obtain ⟨ih0,ih1⟩ := varint_GetList.mono_l k
 unfold varint_GetList.f
 repeat' first
  |(with_reducible exact ih0 _ _ _ _ _ _)
  |(with_reducible exact ih1 _ _ _ _ _ _ _ _)
  |(with_reducible exact varint_Get.mono _ _ _)
  |(with_reducible exact LeO.refl _)
  |(with_reducible exact LeO.none _)
  |(with_reducible refine LeO.ite ?_ ?_)
  |(with_reducible refine LeO.bind ?_ (fun _ => ?_))
  |exact ih0 _ _ _ _ _ _
  |exact ih1 _ _ _ _ _ _ _ _
  |exact varint_Get.mono _ _ _
  |exact LeO.none _
  |refine LeO.ite ?_ ?_
  |refine LeO.bind ?_ (fun _ => ?_)
set_option maxHeartbeats 4000000 in
set_option maxRecDepth 100000 in
theorem varint_GetList.calls (k : Nat) (A0 : Option Addr) (c0 : Nat) (l0 : List Int) (a1 : Int) (a2 : Int) (r1 : List Int) (r2 : Int) (r3 : Int) (w : World) (hr0 : Kd.C (Kd.int .u8) w A0 l0.length l0) (hc0 : l0.length ≤ c0) (h : varint_GetList.f k l0 a1 a2 = some (r1, r2, r3)) :
  Calls Tryd.prog 35 #[.slice A0 l0.length c0,.int .i64 a1,.int .i64 a2] w fun e w' => ∃ v0_ : Value,e = .returned (.tuple #[v0_,.int .i64 r2,.int .i64 r3]) ∧ Kd.R (Kd.int .i64) 3 w' w.heap.size (fun _ => True) v0_ r1 ∧ Below w.heap.size w w' := by
 have HR0 := aK hr0
 have HC0 := aK hc0
 clear hr0 hc0
 have HB := aK (Below.refl w.heap.size w)
 have H : ((varint_Get.f k l0 a1).bind fun bt112 => (if bt112.2.2 = 0 then (if bt112.1 > a2 then (some (([] : List Int),0,4)) else (varint_GetList.l0 k l0 bt112.2.1 ([] : List Int) 0 bt112.1 0)) else (some (([] : List Int),0,bt112.2.2)))) = some (r1,r2,r3) := h
 clear h
 replace H := Option.bind_eq_some_iff.mp H
 obtain ⟨⟨t112,t113,t114⟩,A40,H⟩ := H
 replace H : (if t114 = 0 then (if t112 > a2 then (some (([] : List Int),0,4)) else (varint_GetList.l0 k l0 t113 ([] : List Int) 0 t112 0)) else (some (([] : List Int),0,t114))) = some (r1,r2,r3) := H
 have A4 := aK A40
 clear A40
 by_cases c5 : t114 = 0
 ·rw [if_pos c5] at H
  have c5b0 := beq_iff_eq.mpr c5
  have c5b1 := bne_eq_false_iff_eq.mpr c5
  clear c5
  by_cases c6 : t112 > a2
  ·rw [if_pos c6] at H
   have c6b0 := decide_eq_true c6
   clear c6
   simp only [Option.some.injEq,Prod.mk.injEq] at H
   obtain ⟨rfl,rfl,rfl⟩ := H
   go_enter Tryd.func35,Tryd.ntmps35
   go_wp2_with (first|((with_reducible refine gate_callee (f := 32) rfl ?_);refine goesL_ (some 21) rfl rfl Tryd.func32 (by kernel_rfl) rfl #[.slice A0 l0.length c0,.int .i64 a1] rfl (by (try simp only [List.map_toArray,List.map_cons,List.map_nil]);first|done|rfl|(simp only [List.length_drop,List.length_take];rfl)) ?_;(with_reducible refine (varint_Get.calls k _ _ l0 a1 t112 t113 t114 _ ?side1 ?side2 A4.out).mono ?_);(case side1 => exact cM HR0.out);(case side2 => exact HC0.out);rintro e w' ⟨rfl,⟨nd,rfl⟩⟩;refine ⟨_,rfl,?_⟩))
   go_ret3
   exact ⟨_,by first|rfl|(simp [errW_none,errW_some] <;> rfl)|(simp [*,errW_none,errW_some] <;> rfl),by first|exact Kd.R_nil _ _ _ _ _|exact Kd.N_nil _ _ _ _ _|exact Kd.V_nil _ _ _ _ _|exact Kd.Q_nil _ _ _ _ _|exact Kd.S_nil _ _ _ _ _,bM HB.out⟩
  ·rw [if_neg c6] at H
   have c6b0 := decide_eq_false c6
   clear c6
   have H' := aK H
   clear H
   go_enter Tryd.func35,Tryd.ntmps35
   go_wp2_with (first|((with_reducible refine gate_callee (f := 32) rfl ?_);refine goesL_ (some 21) rfl rfl Tryd.func32 (by kernel_rfl) rfl #[.slice A0 l0.length c0,.int .i64 a1] rfl (by (try simp only [List.map_toArray,List.map_cons,List.map_nil]);first|done|rfl|(simp only [List.length_drop,List.length_take];rfl)) ?_;(with_reducible refine (varint_Get.calls k _ _ l0 a1 t112 t113 t114 _ ?side1 ?side2 A4.out).mono ?_);(case side1 => exact cM HR0.out);(case side2 => exact HC0.out);rintro e w' ⟨rfl,⟨nd,rfl⟩⟩;refine ⟨_,rfl,?_⟩))
   go_loopg [10,12,13,32] k (fun kq v10 v12 v13 v32 w' => ∃ (x10_1 : Int) (x12_1 : List Int) (x13_1 : Int) (x32_1 : Int),v10 = .int .i64 x10_1 ∧ v13 = .int .i64 x13_1 ∧ v32 = .int .i64 x32_1 ∧ Aside0 (varint_GetList.l0 kq l0 x10_1 x12_1 x13_1 t112 x32_1 = some (r1,r2,r3)) ∧ Aside0 (kq ≤ k) ∧ Aside0 (Kd.R (Kd.int .i64) 3 w' w.heap.size (fun _ => True) v12 x12_1) ∧ Aside0 (Below w.heap.size w w'))
   case atStart => exact ⟨(t113),(([] : List Int)),(0),(0),(by first|rfl|(simp;done)|(simp [*];done)),(by first|rfl|(simp;done)|(simp [*];done)),(by first|rfl|(simp;done)|(simp [*];done)),H',⟨Nat.le_refl _⟩,⟨by first|exact Kd.R_nil _ _ _ _ _|exact Kd.N_nil _ _ _ _ _|exact Kd.V_nil _ _ _ _ _|exact Kd.Q_nil _ _ _ _ _|exact Kd.S_nil _ _ _ _ _⟩,⟨bM HB.out⟩⟩
   case round =>
    clear H'
    try clear p2
    try clear c5
    try clear c5b0
    try clear c5b1
    try clear c6
    try clear c6b0
    obtain ⟨x10_1,x12_1,x13_1,x32_1,rfl,rfl,rfl,HA,HK1,HO_12,HB⟩ := hrel
    cases gk with
   |zero => exact absurd HA.out (by simp [varint_GetList.l0])
   |succ k1 =>
     have H := HA.out
     clear HA
     simp only [varint_GetList.l0] at H
     by_cases c7 : x32_1 < t112
     ·rw [if_pos c7] at H
      have c7b0 := decide_eq_true c7
      clear c7
      replace H := Option.bind_eq_some_iff.mp H
      obtain ⟨⟨t115,t116,t117⟩,A80,H⟩ := H
      replace H : (if t117 = 0 then (if x32_1 > 0 then (varint_GetList.j1 k1 l0 x12_1 x13_1 t115 t116 t112 x32_1 (t115 == 0)) else (varint_GetList.j1 k1 l0 x12_1 x13_1 t115 t116 t112 x32_1 false)) else (some (([] : List Int),0,t117))) = some (r1,r2,r3) := H
      have A8 := aK A80
      clear A80
      by_cases c9 : t117 = 0
      ·rw [if_pos c9] at H
       have c9b0 := beq_iff_eq.mpr c9
       have c9b1 := bne_eq_false_iff_eq.mpr c9
       clear c9
       have HC10 := aK H
       clear H
       go_upto_region 14 with (first|((with_reducible refine gate_callee (f := 32) rfl ?_);refine goesL_ (some 38) rfl rfl Tryd.func32 (by kernel_rfl) rfl #[.slice A0 l0.length c0,.int .i64 x10_1] rfl (by (try simp only [List.map_toArray,List.map_cons,List.map_nil]);first|done|rfl|(simp only [List.length_drop,List.length_take];rfl)) ?_;(with_reducible refine (varint_Get.calls k1 _ _ l0 x10_1 t115 t116 t117 _ ?side1 ?side2 A8.out).mono ?_);(case side1 => exact cM (Kd.C_below HR0.out HB.out));(case side2 => exact HC0.out);rintro e w' ⟨rfl,⟨nd,rfl⟩⟩;refine ⟨_,rfl,?_⟩))
       (try simp only [Act.put,List.setIfInBounds_toArray,List.set_cons_zero,List.set_cons_succ])
       go_cut [50] (fun v50 wc => ∃ (kq : Nat) (x50_9 : Bool),v50 = .bool x50_9 ∧ Aside0 (varint_GetList.j1 kq l0 x12_1 x13_1 t115 t116 t112 x32_1 x50_9 = some (r1,r2,r3)) ∧ Aside0 (kq ≤ k1) ∧ Aside0 (Kd.R (Kd.int .i64) 3 wc w.heap.size (fun _ => True) u12 x12_1) ∧ Aside0 (Below w.heap.size w wc))
       case first =>
        have H := HC10.out
        clear HC10
        by_cases c11 : x32_1 > 0
        ·rw [if_pos c11] at H
         have c11b0 := decide_eq_true c11
         clear c11
         (first|rw [c11b0]|(simp only [i64_w,i32_w];rw [c11b0])|rw [c11b1]|skip)
         have H' := aK H
         clear H
         go_wp2
         go_meet
         case rel => exact ⟨_,((t115 == 0)),(by first|rfl|(simp;done)|(simp [*];done)),H',⟨by have := HK1.out;first|omega|exact Nat.le_refl _⟩,⟨rM HO_12.out⟩,⟨bM HB.out⟩⟩
        ·rw [if_neg c11] at H
         have c11b0 := decide_eq_false c11
         clear c11
         (first|rw [c11b0]|(simp only [i64_w,i32_w];rw [c11b0])|rw [c11b1]|skip)
         have H' := aK H
         clear H
         go_wp2
         go_meet
         case rel => exact ⟨_,(false),(by first|rfl|(simp;done)|(simp [*];done)),H',⟨by have := HK1.out;first|omega|exact Nat.le_refl _⟩,⟨rM HO_12.out⟩,⟨bM HB.out⟩⟩
       case rest =>
        clear HC10
        try clear p2
        try clear c7
        try clear c7b0
        try clear c9
        try clear c9b0
        try clear c9b1
        try clear p2
        obtain ⟨kq,x50_9,rfl,HA,HJ9,HO_12,HB⟩ := hcut
        cases kq with
       |zero => exact absurd HA.out (by simp [varint_GetList.j1])
       |succ kj9 =>
         have H := HA.out
         clear HA
         simp only [varint_GetList.j1] at H
         by_cases c12 : x50_9 = true
         ·subst c12
          rw [if_pos rfl] at H
          simp only [Option.some.injEq,Prod.mk.injEq] at H
          obtain ⟨rfl,rfl,rfl⟩ := H
          go_wp2
          go_ret3
          exact ⟨_,by first|rfl|(simp [errW_none,errW_some] <;> rfl)|(simp [*,errW_none,errW_some] <;> rfl),by first|exact Kd.R_nil _ _ _ _ _|exact Kd.N_nil _ _ _ _ _|exact Kd.V_nil _ _ _ _ _|exact Kd.Q_nil _ _ _ _ _|exact Kd.S_nil _ _ _ _ _,bM HB.out⟩
         ·replace c12 := Bool.eq_false_iff.mpr c12
          subst c12
          rw [if_neg (show ¬ (false = true) by decide)] at H
          by_cases c13 : t115 > (wrap64 (4611686018427387904 - x13_1))
          ·rw [if_pos c13] at H
           have c13b0 := decide_eq_true c13
           clear c13
           simp only [Option.some.injEq,Prod.mk.injEq] at H
           obtain ⟨rfl,rfl,rfl⟩ := H
           go_wp2
           go_ret3
           exact ⟨_,by first|rfl|(simp [errW_none,errW_some] <;> rfl)|(simp [*,errW_none,errW_some] <;> rfl),by first|exact Kd.R_nil _ _ _ _ _|exact Kd.N_nil _ _ _ _ _|exact Kd.V_nil _ _ _ _ _|exact Kd.Q_nil _ _ _ _ _|exact Kd.S_nil _ _ _ _ _,bM HB.out⟩
          ·rw [if_neg c13] at H
           have c13b0 := decide_eq_false c13
           clear c13
           obtain ⟨c14,H⟩ := iS H
           have LMc14 := aK c14
           clear c14
           obtain ⟨y118,hy118⟩ : ∃ y_ : List Int,y_ = (x12_1 ++ [wrap64 (x13_1 + t115)]) := ⟨_,rfl⟩
           replace H : (varint_GetList.l0 kj9 l0 t116 y118 (wrap64 (x13_1 + t115)) t112 (wrap64 (x32_1 + 1))) = some (r1,r2,r3) := by first|(rw [hy118];with_reducible exact H)|(have H2_ := (Option.bind_some _ _).symm.trans H;rw [hy118];with_reducible exact H2_)|(have H2_ := (Option.bind_some _ _).symm.trans H;with_reducible exact H2_)|with_reducible exact H|(rw [hy118];exact H)|exact H
           have Ny118 := aK hy118
           clear hy118
           have H' := aK H
           clear H
           go_wp2_with (first|((with_reducible refine gate_builtin (b := .append) (xs := #[.tmp 58,.tmp 60]) rfl ?_);at_builtin;refine Kd.R_append (Kd.int .i64) (w0 := w) w.heap.size rfl (.tmp 58) (.tmp 60) 26 3 (.int .i64 0) 8 rfl Tryd.underlying26 info3 rfl (by decide) (by omega) u12 x12_1 (wrap64 (x13_1 + t115)) [.int .i64 (wrap64 (x13_1 + t115))] (fun _ => True) (fun _ => False) rfl rfl ?aP (fun _ hk => hk.elim) ?aF ?aO ?aB ?aS ?aL ?_;(case aP => exact rfl);(case aB => exact (bM HB.out));(case aF => exact (fun _ _ => trivial));(case aO => exact (rM HO_12.out));(case aS => exact (below_size (bM HB.out)));(case aL => have := LMc14.out;omega);intro v119 w15 ho hb hg hat;rw [← Ny118.out] at ho;replace HB := aK (hb);have HO120 := aK (ho);clear ho hb hg hat))
           go_roundg kj9
           case measure => have := HK1.out;have := HJ9.out;omega
           case rel => exact ⟨(t116),(y118),(wrap64 (x13_1 + t115)),(wrap64 (x32_1 + 1)),(by first|rfl|(simp;done)|(simp [*];done)),(by first|rfl|(simp;done)|(simp [*];done)),(by first|rfl|(simp;done)|(simp [*];done)),H',⟨by have := HK1.out;have := HJ9.out;omega⟩,⟨rM HO120.out⟩,⟨bM HB.out⟩⟩
      ·rw [if_neg c9] at H
       have c9b0 := beq_eq_false_iff_ne.mpr c9
       have c9b1 := bne_iff_ne.mpr c9
       simp only [Option.some.injEq,Prod.mk.injEq] at H
       obtain ⟨rfl,rfl,rfl⟩ := H
       go_wp2_with (first|((with_reducible refine gate_callee (f := 32) rfl ?_);refine goesL_ (some 38) rfl rfl Tryd.func32 (by kernel_rfl) rfl #[.slice A0 l0.length c0,.int .i64 x10_1] rfl (by (try simp only [List.map_toArray,List.map_cons,List.map_nil]);first|done|rfl|(simp only [List.length_drop,List.length_take];rfl)) ?_;(with_reducible refine (varint_Get.calls k1 _ _ l0 x10_1 t115 t116 t117 _ ?side1 ?side2 A8.out).mono ?_);(case side1 => exact cM (Kd.C_below HR0.out HB.out));(case side2 => exact HC0.out);rintro e w' ⟨rfl,⟨nd,rfl⟩⟩;refine ⟨_,rfl,?_⟩))
       go_ret3
       exact ⟨_,by first|rfl|(simp [errW_none,errW_some] <;> rfl)|(simp [*,errW_none,errW_some] <;> rfl),by first|exact Kd.R_nil _ _ _ _ _|exact Kd.N_nil _ _ _ _ _|exact Kd.V_nil _ _ _ _ _|exact Kd.Q_nil _ _ _ _ _|exact Kd.S_nil _ _ _ _ _,bM HB.out⟩
     ·rw [if_neg c7] at H
      have c7b0 := decide_eq_false c7
      clear c7
      simp only [Option.some.injEq,Prod.mk.injEq] at H
      obtain ⟨rfl,rfl,rfl⟩ := H
      go_wp2
      go_ret3
      exact ⟨_,by first|rfl|(simp [errW_none,errW_some] <;> rfl)|(simp [*,errW_none,errW_some] <;> rfl),rM HO_12.out,bM HB.out⟩
 ·rw [if_neg c5] at H
  have c5b0 := beq_eq_false_iff_ne.mpr c5
  have c5b1 := bne_iff_ne.mpr c5
  simp only [Option.some.injEq,Prod.mk.injEq] at H
  obtain ⟨rfl,rfl,rfl⟩ := H
  go_enter Tryd.func35,Tryd.ntmps35
  go_wp2_with (first|((with_reducible refine gate_callee (f := 32) rfl ?_);refine goesL_ (some 21) rfl rfl Tryd.func32 (by kernel_rfl) rfl #[.slice A0 l0.length c0,.int .i64 a1] rfl (by (try simp only [List.map_toArray,List.map_cons,List.map_nil]);first|done|rfl|(simp only [List.length_drop,List.length_take];rfl)) ?_;(with_reducible refine (varint_Get.calls k _ _ l0 a1 t112 t113 t114 _ ?side1 ?side2 A4.out).mono ?_);(case side1 => exact cM HR0.out);(case side2 => exact HC0.out);rintro e w' ⟨rfl,⟨nd,rfl⟩⟩;refine ⟨_,rfl,?_⟩))
  go_ret3
  exact ⟨_,by first|rfl|(simp [errW_none,errW_some] <;> rfl)|(simp [*,errW_none,errW_some] <;> rfl),by first|exact Kd.R_nil _ _ _ _ _|exact Kd.N_nil _ _ _ _ _|exact Kd.V_nil _ _ _ _ _|exact Kd.Q_nil _ _ _ _ _|exact Kd.S_nil _ _ _ _ _,bM HB.out⟩

/-! ### varint_GetString: function 37 -/
def varint_GetString.f (k : Nat) (l0 : List Int) (a1 : Int) (a2 : Int) : Option (ByteArray × Int × Int) := (varint_Get.f k l0 a1).bind fun bt121 => (if bt121.2.2 = 0 then (if bt121.1 > a2 then (some ((⟨#[]⟩ : ByteArray), 0, 4)) else (if (wrap64 ((l0.length : Int) - bt121.2.1)) < bt121.1 then (some ((⟨#[]⟩ : ByteArray), 0, 5)) else (if 0 ≤ bt121.2.1 then (if bt121.2.1 ≤ (wrap64 (bt121.2.1 + bt121.1)) then (if (wrap64 (bt121.2.1 + bt121.1)) ≤ (l0.length : Int) then (some (strOfNums ((l0.take ((wrap64 (bt121.2.1 + bt121.1)) : Int).toNat).drop (bt121.2.1 : Int).toNat), wrap64 (bt121.2.1 + bt121.1), 0)) else (none)) else (none)) else (none)))) else (some ((⟨#[]⟩ : ByteArray), 0, bt121.2.2)))
theorem varint_GetString.mono : ∀ a0 a1 a2 k, LeO (varint_GetString.f k a0 a1 a2) (varint_GetString.f (k + 1) a0 a1 a2) := by
 intro a0 a1 a2 k
 unfold varint_GetString.f
 repeat' first
  |(with_reducible exact varint_Get.mono _ _ _)
  |(with_reducible exact LeO.refl _)
  |(with_reducible exact LeO.none _)
  |(with_reducible refine LeO.ite ?_ ?_)
  |(with_reducible refine LeO.bind ?_ (fun _ => ?_))
  |exact varint_Get.mono _ _ _
  |exact LeO.none _
  |refine LeO.ite ?_ ?_
  |refine LeO.bind ?_ (fun _ => ?_)
set_option maxHeartbeats 4000000 in
set_option maxRecDepth 100000 in
theorem varint_GetString.calls (k : Nat) (A0 : Option Addr) (c0 : Nat) (l0 : List Int) (a1 : Int) (a2 : Int) (r1 : ByteArray) (r2 : Int) (r3 : Int) (w : World) (hr0 : Kd.C (Kd.int .u8) w A0 l0.length l0) (hc0 : l0.length ≤ c0) (h : varint_GetString.f k l0 a1 a2 = some (r1, r2, r3)) :
  Calls Tryd.prog 37 #[.slice A0 l0.length c0,.int .i64 a1,.int .i64 a2] w fun e w' => e = .returned (.tuple #[.string r1,.int .i64 r2,.int .i64 r3]) ∧ Drawn0 w w' := by
 have HR0 := aK hr0
 have HC0 := aK hc0
 clear hr0 hc0
 have H : ((varint_Get.f k l0 a1).bind fun bt121 => (if bt121.2.2 = 0 then (if bt121.1 > a2 then (some ((⟨#[]⟩ : ByteArray),0,4)) else (if (wrap64 ((l0.length : Int) - bt121.2.1)) < bt121.1 then (some ((⟨#[]⟩ : ByteArray),0,5)) else (if 0 ≤ bt121.2.1 then (if bt121.2.1 ≤ (wrap64 (bt121.2.1 + bt121.1)) then (if (wrap64 (bt121.2.1 + bt121.1)) ≤ (l0.length : Int) then (some (strOfNums ((l0.take ((wrap64 (bt121.2.1 + bt121.1)) : Int).toNat).drop (bt121.2.1 : Int).toNat),wrap64 (bt121.2.1 + bt121.1),0)) else (none)) else (none)) else (none)))) else (some ((⟨#[]⟩ : ByteArray),0,bt121.2.2)))) = some (r1,r2,r3) := h
 clear h
 replace H := Option.bind_eq_some_iff.mp H
 obtain ⟨⟨t121,t122,t123⟩,A40,H⟩ := H
 replace H : (if t123 = 0 then (if t121 > a2 then (some ((⟨#[]⟩ : ByteArray),0,4)) else (if (wrap64 ((l0.length : Int) - t122)) < t121 then (some ((⟨#[]⟩ : ByteArray),0,5)) else (if 0 ≤ t122 then (if t122 ≤ (wrap64 (t122 + t121)) then (if (wrap64 (t122 + t121)) ≤ (l0.length : Int) then (some (strOfNums ((l0.take ((wrap64 (t122 + t121)) : Int).toNat).drop (t122 : Int).toNat),wrap64 (t122 + t121),0)) else (none)) else (none)) else (none)))) else (some ((⟨#[]⟩ : ByteArray),0,t123))) = some (r1,r2,r3) := H
 have A4 := aK A40
 clear A40
 by_cases c5 : t123 = 0
 ·rw [if_pos c5] at H
  have c5b0 := beq_iff_eq.mpr c5
  have c5b1 := bne_eq_false_iff_eq.mpr c5
  clear c5
  by_cases c6 : t121 > a2
  ·rw [if_pos c6] at H
   have c6b0 := decide_eq_true c6
   clear c6
   simp only [Option.some.injEq,Prod.mk.injEq] at H
   obtain ⟨rfl,rfl,rfl⟩ := H
   go_enter Tryd.func37,Tryd.ntmps37
   go_wp2_with (first|((with_reducible refine gate_callee (f := 32) rfl ?_);refine goesL_ (some 15) rfl rfl Tryd.func32 (by kernel_rfl) rfl #[.slice A0 l0.length c0,.int .i64 a1] rfl (by (try simp only [List.map_toArray,List.map_cons,List.map_nil]);first|done|rfl|(simp only [List.length_drop,List.length_take];rfl)) ?_;(with_reducible refine (varint_Get.calls k _ _ l0 a1 t121 t122 t123 _ ?side1 ?side2 A4.out).mono ?_);(case side1 => exact cM HR0.out);(case side2 => exact HC0.out);rintro e w' ⟨rfl,⟨nd,rfl⟩⟩;refine ⟨_,rfl,?_⟩))
   go_ret3
   exact ⟨by first|rfl|(simp;done)|(simp [*];done),by repeat (first|exact Drawn0.refl _|apply Drawn0.step)⟩
  ·rw [if_neg c6] at H
   have c6b0 := decide_eq_false c6
   clear c6
   by_cases c7 : (wrap64 ((l0.length : Int) - t122)) < t121
   ·rw [if_pos c7] at H
    have c7b0 := decide_eq_true c7
    clear c7
    simp only [Option.some.injEq,Prod.mk.injEq] at H
    obtain ⟨rfl,rfl,rfl⟩ := H
    go_enter Tryd.func37,Tryd.ntmps37
    go_wp2_with (first|((with_reducible refine gate_callee (f := 32) rfl ?_);refine goesL_ (some 15) rfl rfl Tryd.func32 (by kernel_rfl) rfl #[.slice A0 l0.length c0,.int .i64 a1] rfl (by (try simp only [List.map_toArray,List.map_cons,List.map_nil]);first|done|rfl|(simp only [List.length_drop,List.length_take];rfl)) ?_;(with_reducible refine (varint_Get.calls k _ _ l0 a1 t121 t122 t123 _ ?side1 ?side2 A4.out).mono ?_);(case side1 => exact cM HR0.out);(case side2 => exact HC0.out);rintro e w' ⟨rfl,⟨nd,rfl⟩⟩;refine ⟨_,rfl,?_⟩))
    go_ret3
    exact ⟨by first|rfl|(simp;done)|(simp [*];done),by repeat (first|exact Drawn0.refl _|apply Drawn0.step)⟩
   ·rw [if_neg c7] at H
    have c7b0 := decide_eq_false c7
    clear c7
    obtain ⟨c8,H⟩ := iS H
    have c8b0 := eq_true c8
    have c8b1 := decide_eq_true c8
    clear c8
    obtain ⟨c9,H⟩ := iS H
    have c9b0 := eq_true c9
    have c9b1 := decide_eq_true c9
    obtain ⟨c10,H⟩ := iS H
    have c10b0 := eq_true c10
    have c10b1 := decide_eq_true c10
    simp only [Option.some.injEq,Prod.mk.injEq] at H
    obtain ⟨rfl,rfl,rfl⟩ := H
    go_enter Tryd.func37,Tryd.ntmps37
    go_wp2_with (first|((with_reducible refine gate_callee (f := 32) rfl ?_);refine goesL_ (some 15) rfl rfl Tryd.func32 (by kernel_rfl) rfl #[.slice A0 l0.length c0,.int .i64 a1] rfl (by (try simp only [List.map_toArray,List.map_cons,List.map_nil]);first|done|rfl|(simp only [List.length_drop,List.length_take];rfl)) ?_;(with_reducible refine (varint_Get.calls k _ _ l0 a1 t121 t122 t123 _ ?side1 ?side2 A4.out).mono ?_);(case side1 => exact cM HR0.out);(case side2 => exact HC0.out);rintro e w' ⟨rfl,⟨nd,rfl⟩⟩;refine ⟨_,rfl,?_⟩;obtain ⟨i011,hi011,_,hsz11,_⟩ := info_parts info5;obtain ⟨A11,hcut11,hA11,hC11⟩ := print_mid_of (P := Tryd.prog) (Value.int .u8) 0 29 5 .i64 .i64 Tryd.underlying29 hi011 hsz11 A0 c0 l0 t122 (wrap64 (t122 + t121)) (of_decide_eq_true (by assumption)) (by first|omega|exact of_decide_eq_true (by assumption)) (of_decide_eq_true (by assumption)) HC0.out;have HR124 := aK (Kd.C_of_reads (h1 := fun _ => rfl) (hA11 _ (Kd.reads_of_C HR0.out)));have HC124 := aK hC11;clear hA11 hC11 hi011 hsz11;have hcv12 := Kd.C_string (P := Tryd.prog) (A := A11) (c := (c0 - t122.toNat)) Tryd.underlying29 Tryd.underlying5 Tryd.underlying9 HR124.out;have hcv12d := fun n_ : Nat => Kd.C_string (P := Tryd.prog) (A := A11) (c := (c0 - t122.toNat)) Tryd.underlying29 Tryd.underlying5 Tryd.underlying9 (Kd.C_drewN HR124.out n_);(try (have hl12 : ((l0.take ((wrap64 (t122 + t121)) : Int).toNat).drop (t122 : Int).toNat).length = ((wrap64 (t122 + t121)) : Int).toNat - (t122 : Int).toNat := (by rw [List.length_drop,List.length_take,Nat.min_eq_left (by simp only [decide_eq_true_eq,eq_iff_iff,iff_true] at *;omega)]);have hcv12b := hcv12;have hcv12e := hcv12d;simp only [hl12] at hcv12b hcv12e;clear hl12))))
    go_ret3
    exact ⟨by first|rfl|(simp;done)|(simp [*];done),by repeat (first|exact Drawn0.refl _|apply Drawn0.step)⟩
 ·rw [if_neg c5] at H
  have c5b0 := beq_eq_false_iff_ne.mpr c5
  have c5b1 := bne_iff_ne.mpr c5
  simp only [Option.some.injEq,Prod.mk.injEq] at H
  obtain ⟨rfl,rfl,rfl⟩ := H
  go_enter Tryd.func37,Tryd.ntmps37
  go_wp2_with (first|((with_reducible refine gate_callee (f := 32) rfl ?_);refine goesL_ (some 15) rfl rfl Tryd.func32 (by kernel_rfl) rfl #[.slice A0 l0.length c0,.int .i64 a1] rfl (by (try simp only [List.map_toArray,List.map_cons,List.map_nil]);first|done|rfl|(simp only [List.length_drop,List.length_take];rfl)) ?_;(with_reducible refine (varint_Get.calls k _ _ l0 a1 t121 t122 t123 _ ?side1 ?side2 A4.out).mono ?_);(case side1 => exact cM HR0.out);(case side2 => exact HC0.out);rintro e w' ⟨rfl,⟨nd,rfl⟩⟩;refine ⟨_,rfl,?_⟩))
  go_ret3
  exact ⟨by first|rfl|(simp;done)|(simp [*];done),by repeat (first|exact Drawn0.refl _|apply Drawn0.step)⟩

/-! ### codesearchref33_SameInts: function 9 -/
def codesearchref33_SameInts.l0 : Nat → List Int → List Int → Int → Option (Bool)
|0,_,_,_ => none
|k + 1,x0,x1,x5 => if x5 < (x0.length : Int) then (if 0 ≤ x5 then (if x5 < (x1.length : Int) then (if (rd x0 x5) = (rd x1 x5) then (codesearchref33_SameInts.l0 k x0 x1 (wrap64 (x5 + 1))) else (some false)) else (none)) else (none)) else (some true)
def codesearchref33_SameInts.f (k : Nat) (l0 : List Int) (l1 : List Int) : Option (Bool) := if (l0.length : Int) = (l1.length : Int) then (codesearchref33_SameInts.l0 k l0 l1 0) else (some false)
theorem codesearchref33_SameInts.mono_l : ∀ k, (∀ y0 y1 y2, LeO (codesearchref33_SameInts.l0 k y0 y1 y2) (codesearchref33_SameInts.l0 (k + 1) y0 y1 y2))
|0 => fun _ _ _ r h => by simp [codesearchref33_SameInts.l0] at h
|k + 1 => by
  have ih0 := codesearchref33_SameInts.mono_l k
  ·intro y0 y1 y2
   unfold codesearchref33_SameInts.l0
   repeat' (with_reducible first|exact ih0 _ _ _|exact LeO.refl _|exact LeO.none _|refine LeO.ite ?_ ?_|refine LeO.bind ?_ (fun _ => ?_))
theorem codesearchref33_SameInts.mono : ∀ a0 a1 k, LeO (codesearchref33_SameInts.f k a0 a1) (codesearchref33_SameInts.f (k + 1) a0 a1) := by
 intro a0 a1 k
 have ih0 := codesearchref33_SameInts.mono_l k
 unfold codesearchref33_SameInts.f
 repeat' first
  |(with_reducible exact ih0 _ _ _)
  |(with_reducible exact LeO.refl _)
  |(with_reducible exact LeO.none _)
  |(with_reducible refine LeO.ite ?_ ?_)
  |(with_reducible refine LeO.bind ?_ (fun _ => ?_))
  |exact ih0 _ _ _
  |exact LeO.none _
  |refine LeO.ite ?_ ?_
  |refine LeO.bind ?_ (fun _ => ?_)
set_option maxHeartbeats 4000000 in
set_option maxRecDepth 100000 in
theorem codesearchref33_SameInts.calls (k : Nat) (A0 : Option Addr) (c0 : Nat) (l0 : List Int) (A1 : Option Addr) (c1 : Nat) (l1 : List Int) (r : Bool) (w : World) (hr0 : Kd.C (Kd.int .i64) w A0 l0.length l0) (hc0 : l0.length ≤ c0) (hr1 : Kd.C (Kd.int .i64) w A1 l1.length l1) (hc1 : l1.length ≤ c1) (h : codesearchref33_SameInts.f k l0 l1 = some r) :
  Calls Tryd.prog 9 #[.slice A0 l0.length c0,.slice A1 l1.length c1] w fun e w' => e = .returned (.bool r) ∧ Drawn0 w w' := by
 have HR0 := aK hr0
 have HC0 := aK hc0
 clear hr0 hc0
 have HR1 := aK hr1
 have HC1 := aK hc1
 clear hr1 hc1
 have H : (if (l0.length : Int) = (l1.length : Int) then (codesearchref33_SameInts.l0 k l0 l1 0) else (some false)) = some r := h
 clear h
 by_cases c3 : (l0.length : Int) = (l1.length : Int)
 ·rw [if_pos c3] at H
  have c3b0 := beq_iff_eq.mpr c3
  have c3b1 := bne_eq_false_iff_eq.mpr c3
  have c3b2 : (l0.length == l1.length) = true := by first|simpa using c3|(simp at c3 ⊢;omega)
  clear c3
  have H' := aK H
  clear H
  go_enter Tryd.func9,Tryd.ntmps9
  go_wp2
  repeat (go_quiet (fail);try go_wp2)
  go_loopg [5] k (fun kq v5 w' => ∃ (x5_1 : Int),v5 = .int .i64 x5_1 ∧ Aside0 (codesearchref33_SameInts.l0 kq l0 l1 x5_1 = some r) ∧ Aside0 (kq ≤ k) ∧ Drawn0 w w')
  case atStart => exact ⟨(0),(by first|rfl|(simp;done)|(simp [*];done)),H',⟨Nat.le_refl _⟩,by repeat (first|exact Drawn0.refl _|apply Drawn0.step)⟩
  case round =>
   clear H'
   try clear p2
   try clear c3
   try clear c3b0
   try clear c3b1
   try clear c3b2
   obtain ⟨x5_1,rfl,HA,HK1,⟨m1,rfl⟩⟩ := hrel
   cases gk with
  |zero => exact absurd HA.out (by simp [codesearchref33_SameInts.l0])
  |succ k1 =>
    have H := HA.out
    clear HA
    simp only [codesearchref33_SameInts.l0] at H
    by_cases c4 : x5_1 < (l0.length : Int)
    ·rw [if_pos c4] at H
     have c4b0 := decide_eq_true c4
     clear c4
     obtain ⟨c5,H⟩ := iS H
     have c5b0 := decide_eq_true c5
     clear c5
     obtain ⟨c6,H⟩ := iS H
     have c6b0 := decide_eq_true c6
     clear c6
     by_cases c7 : (rd l0 x5_1) = (rd l1 x5_1)
     ·rw [if_pos c7] at H
      have c7b0 := beq_iff_eq.mpr c7
      have c7b1 := bne_eq_false_iff_eq.mpr c7
      clear c7
      have H' := aK H
      clear H
      have p125 : 0 ≤ (x5_1 : Int) := of_decide_eq_true (by assumption)
      have q125 : x5_1 < (l0.length : Int) := of_decide_eq_true (by assumption)
      obtain ⟨ad125,e125,hx125_0⟩ := Kd.at_int HR0.out x5_1 p125 q125
      cases e125
      replace p125 := eq_true p125
      replace q125 := eq_true q125
      have p126 : 0 ≤ (x5_1 : Int) := of_decide_eq_true (by assumption)
      have q126 : x5_1 < (l1.length : Int) := of_decide_eq_true (by assumption)
      obtain ⟨ad126,e126,hx126_0⟩ := Kd.at_int HR1.out x5_1 p126 q126
      cases e126
      replace p126 := eq_true p126
      replace q126 := eq_true q126
      go_wp2
      repeat (go_quiet (fail);try go_wp2)
      go_roundg k1
      case measure => have := HK1.out;omega
      case rel => exact ⟨(wrap64 (x5_1 + 1)),(by first|rfl|(simp;done)|(simp [*];done)),H',⟨by have := HK1.out;omega⟩,by repeat (first|exact Drawn0.refl _|apply Drawn0.step)⟩
     ·rw [if_neg c7] at H
      have c7b0 := beq_eq_false_iff_ne.mpr c7
      have c7b1 := bne_iff_ne.mpr c7
      obtain rfl := Option.some.inj H
      have p125 : 0 ≤ (x5_1 : Int) := of_decide_eq_true (by assumption)
      have q125 : x5_1 < (l0.length : Int) := of_decide_eq_true (by assumption)
      obtain ⟨ad125,e125,hx125_0⟩ := Kd.at_int HR0.out x5_1 p125 q125
      cases e125
      replace p125 := eq_true p125
      replace q125 := eq_true q125
      have p126 : 0 ≤ (x5_1 : Int) := of_decide_eq_true (by assumption)
      have q126 : x5_1 < (l1.length : Int) := of_decide_eq_true (by assumption)
      obtain ⟨ad126,e126,hx126_0⟩ := Kd.at_int HR1.out x5_1 p126 q126
      cases e126
      replace p126 := eq_true p126
      replace q126 := eq_true q126
      go_wp2
      repeat (go_quiet (fail);try go_wp2)
      go_ret
      exact ⟨by first|rfl|(simp;done)|(simp [*];done),by repeat (first|exact Drawn0.refl _|apply Drawn0.step)⟩
    ·rw [if_neg c4] at H
     have c4b0 := decide_eq_false c4
     clear c4
     obtain rfl := Option.some.inj H
     go_wp2
     repeat (go_quiet (fail);try go_wp2)
     go_ret
     exact ⟨by first|rfl|(simp;done)|(simp [*];done),by repeat (first|exact Drawn0.refl _|apply Drawn0.step)⟩
 ·rw [if_neg c3] at H
  have c3b0 := beq_eq_false_iff_ne.mpr c3
  have c3b1 := bne_iff_ne.mpr c3
  have c3b2 : (l0.length == l1.length) = false := by first|simpa using c3|(simp at c3 ⊢;omega)
  obtain rfl := Option.some.inj H
  go_enter Tryd.func9,Tryd.ntmps9
  go_wp2
  repeat (go_quiet (fail);try go_wp2)
  go_ret
  exact ⟨by first|rfl|(simp;done)|(simp [*];done),by repeat (first|exact Drawn0.refl _|apply Drawn0.step)⟩

/-! ### slices_Grow_int_int: function 65 (by hand) -/
def slices_Grow_int_int.f (l0 : List Int) (a1 : Int) : Option (List Int) := if 0 ≤ a1 then if a1 < 1000000000000 then some l0 else none else none
/-- The first k of a row of the call's own. -/
theorem own_head {w : World} {base e n cap k g : Nat} {xs : List Value} (h : w.ownsRow base e 1 (.slice (some ⟨g, 0, none⟩) n cap) n xs) (hk : k ≤ n) :
    w.ownsRow base e 1 (.slice (some ⟨g, 0, none⟩) k cap) k (xs.take k) := by
  obtain ⟨hl, h0 | ⟨g', cap', cur, hv, hb, hh, hn, hm, hs, ht⟩⟩ := h
  · cases h0.1
  · injection hv with e1 _ e3
    injection e1 with e1
    injection e1 with e1
    subst e1; subst e3
    refine ⟨by simp; omega, .inr ⟨g, cap, cur, rfl, hb, hh, by omega, hm, hs, ?_⟩⟩
    rw [← ht, Nat.mul_one, Nat.mul_one, List.take_take, Nat.min_eq_left hk]
set_option maxHeartbeats 4000000 in
set_option maxRecDepth 100000 in
theorem slices_Grow_int_int.calls0 (a1 : Int) (r : List Int) (w : World) (h : slices_Grow_int_int.f [] a1 = some r) :
    Calls Tryd.prog 65 #[.slice none ([] : List Int).length 0, .int .i64 a1] w fun e w' => ∃ v0_ : Value, e = .returned (v0_) ∧ Kd.R (Kd.int .i64) 3 w' w.heap.size (fun _ => True) v0_ r ∧ Below w.heap.size w w' := by
  have info3 : (Tryd.prog.info? 3).map (fun i => (i.zero, i.size, i.bytes)) = some (some (.int .i64 0), 1, 8) := by kernel_rfl
  unfold slices_Grow_int_int.f at h
  split at h
  case isFalse => cases h
  rename_i h0
  split at h
  case isFalse => cases h
  rename_i h1
  obtain rfl := Option.some.inj h
  clear h
  have hi := aK info3
  clear info3
  simp only [List.length_nil]
  by_cases hz : a1 = 0
  · subst hz
    go_enter Tryd.func65, Tryd.ntmps65
    go_wp2
    go_ret
    exact ⟨_, rfl, Kd.R_nil _ _ _ _ _, Below.refl _ _⟩
  · have hp : ¬ a1 < 0 := by omega
    have hp2 : 0 < a1 := by omega
    have H0 := aK h0
    have H1 := aK h1
    have hw : wrap64 a1 = a1 := by unfold wrap64; omega
    clear h0 h1 hp
    go_enter Tryd.func65, Tryd.ntmps65
    go_wp2_with (((with_reducible refine gate_builtin (b := .append) (xs := #[.tmp 20, .tmp 21]) rfl ?_); at_builtin; refine Kd.R_append_zeros (Kd.int .i64) (w0 := w) w.heap.size rfl (.tmp 20) (.tmp 21) 26 3 3 (.int .i64 0) 8 rfl Tryd.underlying26 Tryd.underlying3 hi.out rfl (by decide) (by decide) (.slice none 0 0) [] 0 _ (fun _ => True) rfl rfl rfl (fun _ _ => trivial) (Kd.R_nil _ _ _ _ _) ?a0 (Below.refl _ _) (Nat.le_refl _) ?aL ?_; (case a0 => rw [hw]; exact H0.out); (case aL => have := H1.out; have := H0.out; rw [hw]; simp; omega); intro v1 w1 hR hb hg hat; rw [hw] at hR; clear hg hat; have ho := Kd.own_of_R hR; clear hR; simp only [List.nil_append, List.length_replicate] at ho; rcases ho.2 with ⟨_, h0⟩ | ⟨g, cap, cur, hv, _⟩; (case inl => exfalso; omega); subst hv; have HO := aK (own_head ho (Nat.zero_le _)); have HB := aK hb; clear ho hb))
    go_ret
    exact ⟨_, rfl, Kd.R_of_own HO.out (fun _ _ => trivial), HB.out⟩

/-! ### slices_Concat_int_int: function 56 -/
mutual
def slices_Concat_int_int.l0 : Nat → List (List Int) → Int → List (List Int) → Int → Int → Option (List Int)
|0,_,_,_,_,_ => none
|k + 1,x0,x3,x9,x10,x11 => if x11 < x10 then (if 0 ≤ x11 then (if x11 < (x9.length : Int) then (if (wrap64 (x3 + ((rd_L2 x9 x11).length : Int))) < 0 then (none) else (slices_Concat_int_int.l0 k x0 (wrap64 (x3 + ((rd_L2 x9 x11).length : Int))) x9 x10 (wrap64 (x11 + 1)))) else (none)) else (none)) else ((slices_Grow_int_int.f ([] : List Int) x3).bind fun t128 => (slices_Concat_int_int.l1 k t128 x0 (x0.length : Int) 0))
def slices_Concat_int_int.l1 : Nat → List Int → List (List Int) → Int → Int → Option (List Int)
|0,_,_,_,_ => none
|k + 1,x6,x25,x26,x27 => if x27 < x26 then (if 0 ≤ x27 then (if x27 < (x25.length : Int) then (if x6.length + (rd_L2 x25 x27).length < 17592186044416 then (slices_Concat_int_int.l1 k (x6 ++ (rd_L2 x25 x27)) x25 x26 (wrap64 (x27 + 1))) else (none)) else (none)) else (none)) else (some x6)
end
def slices_Concat_int_int.f (k : Nat) (l0 : List (List Int)) : Option (List Int) := slices_Concat_int_int.l0 k l0 0 l0 (l0.length : Int) 0
theorem slices_Concat_int_int.mono_l : ∀ k, (∀ y0 y1 y2 y3 y4, LeO (slices_Concat_int_int.l0 k y0 y1 y2 y3 y4) (slices_Concat_int_int.l0 (k + 1) y0 y1 y2 y3 y4)) ∧ (∀ y0 y1 y2 y3, LeO (slices_Concat_int_int.l1 k y0 y1 y2 y3) (slices_Concat_int_int.l1 (k + 1) y0 y1 y2 y3))
|0 => ⟨fun _ _ _ _ _ r h => by simp [slices_Concat_int_int.l0] at h,fun _ _ _ _ r h => by simp [slices_Concat_int_int.l1] at h⟩
|k + 1 => by
  obtain ⟨ih0,ih1⟩ := slices_Concat_int_int.mono_l k
  refine ⟨?_,?_⟩
  ·intro y0 y1 y2 y3 y4
   unfold slices_Concat_int_int.l0
   repeat' (with_reducible first|exact ih0 _ _ _ _ _|exact ih1 _ _ _ _|exact LeO.refl _|exact LeO.none _|refine LeO.ite ?_ ?_|refine LeO.bind ?_ (fun _ => ?_))
  ·intro y0 y1 y2 y3
   unfold slices_Concat_int_int.l1
   repeat' (with_reducible first|exact ih1 _ _ _ _|exact LeO.refl _|exact LeO.none _|refine LeO.ite ?_ ?_|refine LeO.bind ?_ (fun _ => ?_))
theorem slices_Concat_int_int.mono : ∀ a0 k, LeO (slices_Concat_int_int.f k a0) (slices_Concat_int_int.f (k + 1) a0) := by
 intro a0 k
 obtain ⟨ih0,ih1⟩ := slices_Concat_int_int.mono_l k
 unfold slices_Concat_int_int.f
 repeat' first
  |(with_reducible exact ih0 _ _ _ _ _)
  |(with_reducible exact ih1 _ _ _ _)
  |(with_reducible exact LeO.refl _)
  |(with_reducible exact LeO.none _)
  |(with_reducible refine LeO.ite ?_ ?_)
  |(with_reducible refine LeO.bind ?_ (fun _ => ?_))
  |exact ih0 _ _ _ _ _
  |exact ih1 _ _ _ _
  |exact LeO.none _
  |refine LeO.ite ?_ ?_
  |refine LeO.bind ?_ (fun _ => ?_)
set_option maxHeartbeats 4000000 in
set_option maxRecDepth 100000 in
theorem slices_Concat_int_int.calls (k : Nat) (A0 : Option Addr) (c0 : Nat) (l0 : List (List Int)) (r : List Int) (w : World) (hr0 : Kd.C (Kd.slice 3 (Kd.int .i64)) w A0 l0.length l0) (hc0 : l0.length ≤ c0) (h : slices_Concat_int_int.f k l0 = some r) :
  Calls Tryd.prog 56 #[.slice A0 l0.length c0] w fun e w' => ∃ v0_ : Value,e = .returned (v0_) ∧ Kd.R (Kd.int .i64) 3 w' w.heap.size (fun _ => True) v0_ r ∧ Below w.heap.size w w' := by
 have HR0 := aK hr0
 have HC0 := aK hc0
 clear hr0 hc0
 have HB := aK (Below.refl w.heap.size w)
 have H : (slices_Concat_int_int.l0 k l0 0 l0 (l0.length : Int) 0) = some r := h
 clear h
 have H' := aK H
 clear H
 go_enter Tryd.func56,Tryd.ntmps56
 go_wp2
 go_loopg [3,11] k (fun kq v3 v11 w' => ∃ (x3_1 : Int) (x11_1 : Int),v3 = .int .i64 x3_1 ∧ v11 = .int .i64 x11_1 ∧ Aside0 (slices_Concat_int_int.l0 kq l0 x3_1 l0 (l0.length : Int) x11_1 = some r) ∧ Aside0 (kq ≤ k) ∧ Aside0 (Below w.heap.size w w'))
 case atStart => exact ⟨(0),(0),(by first|rfl|(simp;done)|(simp [*];done)),(by first|rfl|(simp;done)|(simp [*];done)),H',⟨Nat.le_refl _⟩,⟨bM HB.out⟩⟩
 case round =>
  clear H'
  obtain ⟨x3_1,x11_1,rfl,rfl,HA,HK1,HB⟩ := hrel
  cases gk with
 |zero => exact absurd HA.out (by simp [slices_Concat_int_int.l0])
 |succ k1 =>
   have H := HA.out
   clear HA
   simp only [slices_Concat_int_int.l0] at H
   by_cases c2 : x11_1 < (l0.length : Int)
   ·rw [if_pos c2] at H
    have c2b0 := decide_eq_true c2
    clear c2
    obtain ⟨c3,H⟩ := iS H
    have c3b0 := decide_eq_true c3
    clear c3
    obtain ⟨c4,H⟩ := iS H
    have c4b0 := decide_eq_true c4
    clear c4
    obtain ⟨c5,H⟩ := iN H
    have c5b0 := decide_eq_false c5
    clear c5
    have H' := aK H
    clear H
    have p127 : 0 ≤ (x11_1 : Int) := of_decide_eq_true (by assumption)
    have q127 : x11_1 < (l0.length : Int) := of_decide_eq_true (by assumption)
    obtain ⟨ad127,A127_0,c127_0,e127,hx127_0,hl127_0,hi127_0⟩ := at_L2 HR0.out x11_1 p127 q127
    cases e127
    replace hx127_0 := xM HB hx127_0
    have HR127_0 := aK hi127_0
    have HC127_0 := aK hl127_0
    clear hi127_0 hl127_0
    replace p127 := eq_true p127
    replace q127 := eq_true q127
    go_wp2
    go_roundg k1
    case measure => have := HK1.out;omega
    case rel => exact ⟨(wrap64 (x3_1 + ((rd_L2 l0 x11_1).length : Int))),(wrap64 (x11_1 + 1)),(by first|rfl|(simp;done)|(simp [*];done)),(by first|rfl|(simp;done)|(simp [*];done)),H',⟨by have := HK1.out;omega⟩,⟨bM HB.out⟩⟩
   ·rw [if_neg c2] at H
    have c2b0 := decide_eq_false c2
    clear c2
    replace H := Option.bind_eq_some_iff.mp H
    obtain ⟨t128,A60,H⟩ := H
    have A6 := aK A60
    clear A60
    have H' := aK H
    clear H
    go_wp2_with (first|(go_at_call 65;refine calls_of_args (args' := #[.slice none ([] : List Int).length 0,.int .i64 x3_1]) (by first|with_reducible rfl|(simp only [List.length_nil];done)|(simp only [List.length_nil];with_reducible rfl)) ?_;(with_reducible refine (slices_Grow_int_int.calls0 x3_1 t128 _ A6.out).mono ?_);rintro e w7 ⟨v129,rfl,ho0,hb⟩;have HO130 := aK (Kd.R_lower ho0 (below_size (bM HB.out)));replace HB := aK (below_step (bM HB.out) hb);(try clear hb);(try clear ho0)))
    go_loopg [6,27] k1 (fun kq v6 v27 w' => ∃ (x6_2 : List Int) (x27_2 : Int),v27 = .int .i64 x27_2 ∧ Aside0 (slices_Concat_int_int.l1 kq x6_2 l0 (l0.length : Int) x27_2 = some r) ∧ Aside0 (kq ≤ k1) ∧ Aside0 (Kd.R (Kd.int .i64) 3 w' w.heap.size (fun _ => True) v6 x6_2) ∧ Aside0 (Below w.heap.size w w'))
    case atStart => exact ⟨(t128),(0),(by first|rfl|(simp;done)|(simp [*];done)),H',⟨Nat.le_refl _⟩,⟨rM HO130.out⟩,⟨bM HB.out⟩⟩
    case round =>
     clear H'
     try clear p1
     try clear q1
     try clear hx1
     try clear c2
     try clear c2b0
     try clear p2
     try clear p6
     try clear hx127_0
     try clear p127
     try clear q127
     obtain ⟨x6_2,x27_2,rfl,HA,HK2,HO_6,HB⟩ := hrel
     cases gk with
    |zero => exact absurd HA.out (by simp [slices_Concat_int_int.l1])
    |succ k2 =>
      have H := HA.out
      clear HA
      simp only [slices_Concat_int_int.l1] at H
      by_cases c8 : x27_2 < (l0.length : Int)
      ·rw [if_pos c8] at H
       have c8b0 := decide_eq_true c8
       clear c8
       obtain ⟨c9,H⟩ := iS H
       have c9b0 := decide_eq_true c9
       clear c9
       obtain ⟨c10,H⟩ := iS H
       have c10b0 := decide_eq_true c10
       clear c10
       obtain ⟨c11,H⟩ := iS H
       have LMc11 := aK c11
       clear c11
       obtain ⟨y132,hy132⟩ : ∃ y_ : List Int,y_ = (x6_2 ++ (rd_L2 l0 x27_2)) := ⟨_,rfl⟩
       replace H : (slices_Concat_int_int.l1 k2 y132 l0 (l0.length : Int) (wrap64 (x27_2 + 1))) = some r := by first|(rw [hy132];with_reducible exact H)|(have H2_ := (Option.bind_some _ _).symm.trans H;rw [hy132];with_reducible exact H2_)|(have H2_ := (Option.bind_some _ _).symm.trans H;with_reducible exact H2_)|with_reducible exact H|(rw [hy132];exact H)|exact H
       have Ny132 := aK hy132
       clear hy132
       have H' := aK H
       clear H
       have p131 : 0 ≤ (x27_2 : Int) := of_decide_eq_true (by assumption)
       have q131 : x27_2 < (l0.length : Int) := of_decide_eq_true (by assumption)
       obtain ⟨ad131,A131_0,c131_0,e131,hx131_0,hl131_0,hi131_0⟩ := at_L2 HR0.out x27_2 p131 q131
       cases e131
       replace hx131_0 := xM HB hx131_0
       have HR131_0 := aK hi131_0
       have HC131_0 := aK hl131_0
       clear hi131_0 hl131_0
       replace p131 := eq_true p131
       replace q131 := eq_true q131
       go_wp2_with (first|((with_reducible refine gate_builtin (b := .append) (xs := #[.tmp 31,.tmp 32]) rfl ?_);at_builtin;refine Kd.R_append_rows (Kd.int .i64) (w0 := w) w.heap.size rfl (.tmp 31) (.tmp 32) 26 3 (.int .i64 0) 8 rfl Tryd.underlying26 info3 rfl (by decide) (by omega) u6 x6_2 (rd_L2 l0 x27_2) _ _ _ (fun _ => True) (fun _ => False) rfl rfl ?aO ?aR (fun _ _ h => h) (fun _ h => h.elim) ?aF ?aB ?aS ?aL ?_;(case aR => exact cM (Kd.C_below HR131_0.out HB.out));(case aB => exact (bM HB.out));(case aF => exact (fun _ _ => trivial));(case aO => exact (rM HO_6.out));(case aS => exact (below_size (bM HB.out)));(case aL => have := LMc11.out;omega);intro v133 w12 ho hb hg hat;rw [← Ny132.out] at ho;replace HB := aK (hb);have HO134 := aK (ho);clear ho hb hg hat))
       go_roundg k2
       case measure => have := HK1.out;have := HK2.out;omega
       case rel => exact ⟨(y132),(wrap64 (x27_2 + 1)),(by first|rfl|(simp;done)|(simp [*];done)),H',⟨by have := HK1.out;have := HK2.out;omega⟩,⟨rM HO134.out⟩,⟨bM HB.out⟩⟩
      ·rw [if_neg c8] at H
       have c8b0 := decide_eq_false c8
       clear c8
       obtain rfl := Option.some.inj H
       go_wp2
       go_ret
       exact ⟨_,by first|rfl|(simp [errW_none,errW_some] <;> rfl)|(simp [*,errW_none,errW_some] <;> rfl),rM HO_6.out,bM HB.out⟩

/-! ### posting_Or: function 49 -/
def posting_Or.f (k : Nat) (l0 : List Int) (l1 : List Int) : Option (List Int) := (slices_Concat_int_int.f k (([l0, l1] : List (List Int)))).bind fun t138 => ((posting_unique_int.f t138).bind fun t141 => (some t141))
theorem posting_Or.mono : ∀ a0 a1 k, LeO (posting_Or.f k a0 a1) (posting_Or.f (k + 1) a0 a1) := by
 intro a0 a1 k
 unfold posting_Or.f
 repeat' first
  |(with_reducible exact slices_Concat_int_int.mono _ _)
  |(with_reducible exact LeO.refl _)
  |(with_reducible exact LeO.none _)
  |(with_reducible refine LeO.ite ?_ ?_)
  |(with_reducible refine LeO.bind ?_ (fun _ => ?_))
  |exact slices_Concat_int_int.mono _ _
  |exact LeO.none _
  |refine LeO.ite ?_ ?_
  |refine LeO.bind ?_ (fun _ => ?_)
set_option maxHeartbeats 4000000 in
set_option maxRecDepth 100000 in
theorem posting_Or.calls (k : Nat) (P0_ : Nat → Prop) (A0 : Option Addr) (c0 : Nat) (l0 : List Int) (P1_ : Nat → Prop) (A1 : Option Addr) (c1 : Nat) (l1 : List Int) (r : List Int) (w : World) (hs0 : Kd.V (Kd.int .i64) 3 w w.heap.size (fun k_ => P0_ k_) (.slice A0 l0.length c0) l0) (hs1 : Kd.V (Kd.int .i64) 3 w w.heap.size (fun k_ => P1_ k_) (.slice A1 l1.length c1) l1) (h : posting_Or.f k l0 l1 = some r) :
  Calls Tryd.prog 49 #[.slice A0 l0.length c0,.slice A1 l1.length c1] w fun e w' => ∃ v0_ : Value,e = .returned (v0_) ∧ Kd.R (Kd.int .i64) 3 w' w.heap.size (fun k_ => (w.heap.size ≤ k_)) v0_ r ∧ Below w.heap.size w w' := by
 have HO0 := aK (show Kd.V (Kd.int .i64) 3 w w.heap.size (fun k_ => ((P0_ k_ ∨ P1_ k_) ∨ w.heap.size ≤ k_)) (.slice A0 l0.length c0) l0 from Kd.V_mono hs0 (fun k_ hk => .inl (.inl hk)))
 have HO1 := aK (show Kd.V (Kd.int .i64) 3 w w.heap.size (fun k_ => ((P0_ k_ ∨ P1_ k_) ∨ w.heap.size ≤ k_)) (.slice A1 l1.length c1) l1 from Kd.V_mono hs1 (fun k_ hk => .inl (.inr hk)))
 have HB := aK (Below.refl w.heap.size w)
 have H : ((slices_Concat_int_int.f k (([l0,l1] : List (List Int)))).bind fun t138 => ((posting_unique_int.f t138).bind fun t141 => (some t141))) = some r := h
 clear h
 obtain ⟨y135,hy135⟩ : ∃ y_ : List (List Int),y_ = (([l0,l1] : List (List Int))) := ⟨_,rfl⟩
 replace H : ((slices_Concat_int_int.f k y135).bind fun t138 => ((posting_unique_int.f t138).bind fun t141 => (some t141))) = some r := by first|(rw [hy135];with_reducible exact H)|(have H2_ := (Option.bind_some _ _).symm.trans H;rw [hy135];with_reducible exact H2_)|(have H2_ := (Option.bind_some _ _).symm.trans H;with_reducible exact H2_)|with_reducible exact H|(rw [hy135];exact H)|exact H
 have Ny135 := aK hy135
 clear hy135
 replace H := Option.bind_eq_some_iff.mp H
 obtain ⟨t138,A30,H⟩ := H
 have A3 := aK A30
 clear A30
 replace H := Option.bind_eq_some_iff.mp H
 obtain ⟨t141,A40,H⟩ := H
 have A4 := aK A40
 clear A40
 obtain rfl := Option.some.inj H
 go_enter Tryd.func49,Tryd.ntmps49
 go_wp2_with (first|((with_reducible refine gate_dst (N := 7) rfl ?_);refine Kd.N_lit (Kd.slice 3 (Kd.int .i64)) _ 26 ?hg (N' := 7) ?hd (xs := ([l0,l1] : List (List Int))) (inner := [.slice A0 l0.length c0,.slice A1 l1.length c1]) (ok := (fun k_ => ((P0_ k_ ∨ P1_ k_) ∨ w.heap.size ≤ k_))) (okp := (fun k_ => ((P0_ k_ ∨ P1_ k_) ∨ w.heap.size ≤ k_))) ?hr ?hp (fun _ hk => hk) ((show ∀ k_,w.heap.size ≤ k_ → (fun k_ => ((P0_ k_ ∨ P1_ k_) ∨ w.heap.size ≤ k_)) k_ from fun k_ hk => (.inr (Nat.le_trans (below_size (bM HB.out)) hk))) _ (Nat.le_refl _)) (Below.refl _ _) (Nat.le_refl _) (by simp) ?_;(case hd => rfl);(case hg => rfl);(case hr => first|(go_simp;done)|(go_simp;rfl));(case hp => exact (Reps.one (show Kd.FK (Kd.slice 3 (Kd.int .i64)) _ _ l0 [.slice A0 l0.length c0] from (Kd.FK_slice_mk (Kd.V_reads' (Kd.V_mono (ok' := (fun k_ => ((P0_ k_ ∨ P1_ k_) ∨ w.heap.size ≤ k_))) (HO0.out) (fun k_ hk => hk))).2.1 (Kd.V_F (Kd.V_mono (ok' := (fun k_ => ((P0_ k_ ∨ P1_ k_) ∨ w.heap.size ≤ k_))) (HO0.out) (fun k_ hk => hk))))) (Reps.one (show Kd.FK (Kd.slice 3 (Kd.int .i64)) _ _ l1 [.slice A1 l1.length c1] from (Kd.FK_slice_mk (Kd.V_reads' (Kd.V_mono (ok' := (fun k_ => ((P0_ k_ ∨ P1_ k_) ∨ w.heap.size ≤ k_))) (HO1.out) (fun k_ hk => hk))).2.1 (Kd.V_F (Kd.V_mono (ok' := (fun k_ => ((P0_ k_ ∨ P1_ k_) ∨ w.heap.size ≤ k_))) (HO1.out) (fun k_ hk => hk))))) (Reps.none _ _))));intro v136 w5 ho6 hb hg_ hnew_;clear hg_ hnew_;(first|rw [← Ny135.out] at ho6|(simp only [Int.reduceToNat] at ho6;rw [← Ny135.out] at ho6));have HO137 := aK (Kd.N_lower ho6 (below_size (bM HB.out)));replace HB := aK (below_step (bM HB.out) hb);clear hb ho6;obtain ⟨Ao7,co7,eo7⟩ := Kd.N_slice HO137.out;subst eo7)|((with_reducible refine gate_callee (f := 56) rfl ?_);refine goesL_ (some 8) rfl rfl Tryd.func56 (by kernel_rfl) rfl #[.slice Ao7 y135.length co7] rfl (by (try simp only [List.map_toArray,List.map_cons,List.map_nil]);first|done|rfl|(simp only [List.length_drop,List.length_take];rfl)) ?_;(with_reducible refine (slices_Concat_int_int.calls k _ _ y135 t138 _ ?side1 ?side2 A3.out).mono ?_);(case side1 => exact cM (Kd.N_reads' HO137.out).2.2);(case side2 => exact (Kd.N_reads' HO137.out).2.1);rintro e w8 ⟨v139,rfl,ho0,hb⟩;refine ⟨_,rfl,?_⟩;have HO140 := aK (Kd.R_lower (Kd.R_newM (M := fun k_ => (w.heap.size ≤ k_)) ho0 (below_size (bM HB.out)) (fun k_ h_ => h_)) (below_size (bM HB.out)));replace HB := aK (below_step (bM HB.out) hb);(try clear hb);(try clear hk);(try clear ho0);obtain ⟨Ao9,co9,eo9⟩ := Kd.R_slice HO140.out;subst eo9)|((with_reducible refine gate_callee (f := 55) rfl ?_);refine goesL_ (some 9) rfl rfl Tryd.func55 (by kernel_rfl) rfl #[.slice Ao9 t138.length co9] rfl (by (try simp only [List.map_toArray,List.map_cons,List.map_nil]);first|done|rfl|(simp only [List.length_drop,List.length_take];rfl)) ?_;(with_reducible refine (posting_unique_int.calls _ _ t138 t141 _ ?side1 ?side2 A4.out).mono ?_);(case side1 => exact cM (Kd.R_reads' HO140.out).2.2);(case side2 => exact (Kd.R_reads' HO140.out).2.1);rintro e w10 ⟨v142,rfl,ho0,hb⟩;refine ⟨_,rfl,?_⟩;have HO143 := aK (Kd.R_lower (Kd.R_new' (Kd.R_newM (M := fun k_ => (w.heap.size ≤ k_)) ho0 (below_size (bM HB.out)) (fun k_ h_ => h_)) (Kd.R_lt (rM HO140.out))) (below_size (bM HB.out)));replace HB := aK (below_step (bM HB.out) hb);(try clear hb);(try clear hk);(try clear ho0)))
 go_ret
 exact ⟨_,by first|rfl|(simp [errW_none,errW_some] <;> rfl)|(simp [*,errW_none,errW_some] <;> rfl),by (with_reducible repeat (first|apply Kd.R_alloc|apply Kd.R_drewN|apply Kd.R_drew));exact Kd.R_mono HO143.out (fun _ hk => hk.1.1),bM HB.out⟩

/-! ### posting_Minus: function 50 (by hand) -/
def posting_Minus.f (l0 l1 : List Int) : Option (List Int) := if l0.length < 1000000000 then if l1.length < 1000000000 then some ((uniq l0).filter fun x => !(uniq l1).contains x) else none else none
set_option maxHeartbeats 4000000 in
set_option maxRecDepth 100000 in
theorem posting_Minus.calls (A0 : Option Addr) (c0 : Nat) (l0 : List Int) (A1 : Option Addr) (c1 : Nat) (l1 : List Int) (r : List Int) (w : World) (hr0 : Kd.C (Kd.int .i64) w A0 l0.length l0) (hc0 : l0.length ≤ c0) (hr1 : Kd.C (Kd.int .i64) w A1 l1.length l1) (hc1 : l1.length ≤ c1) (h : posting_Minus.f l0 l1 = some r) :
    Calls Tryd.prog 50 #[.slice A0 l0.length c0, .slice A1 l1.length c1] w fun e w' => ∃ v0_ : Value, e = .returned (v0_) ∧ Kd.R (Kd.int .i64) 3 w' w.heap.size (fun _ => True) v0_ r ∧ Below w.heap.size w w' := by
  unfold posting_Minus.f at h
  split at h
  case isFalse => cases h
  rename_i hl0
  split at h
  case isFalse => cases h
  rename_i hl1
  obtain rfl := Option.some.inj h
  clear h
  have hcl := aK (posting_unique_int.calls A0 c0 l0 (uniq l0) w hr0 hc0 (by simp [posting_unique_int.f]; omega))
  have H1 := aK (And.intro hr1 (And.intro hc1 (And.intro hl0 hl1)))
  clear hr0 hc0 hr1 hc1 hl0 hl1
  go_enter Tryd.func50, Tryd.ntmps50
  go_wp2_with fail
  go_at_call 55
  refine hcl.out.mono ?_
  rintro e w1 ⟨v, rfl, hR, hB⟩
  clear hcl
  obtain ⟨A, c, rfl⟩ := Kd.R_slice hR
  have hin := aK (in_calls A1 c1 l1 w1 (Kd.C_below H1.out.1 hB) H1.out.2.1 H1.out.2.2.2)
  have HR := aK hR
  have HB := aK hB
  clear hR hB
  go_wp2_with fail
  go_at_call 58
  refine hin.out.mono ?_
  rintro e w2 ⟨B, rfl, hbx, hb2⟩
  clear hin
  have hR2 := Kd.R_below HR.out hb2
  have ho := Kd.own_of_R hR2
  have hown := Kd.own_of_R HR.out
  have hB2 := below_then HB.out HB.out.size hb2
  have hd := aK (del_row (fun x => (uniq l1).contains x) 67 #[.pointer (some ⟨B, 0, none⟩)] (enters_of Tryd.func67 (by kernel_rfl) rfl) ho hB2 (by have := uniq_len l0; have := H1.out.2.2.1; omega)
    (fun W' hs hc x => in1_gives (hbx.same hs (fun a h1 h2 => hc a h2 (fun e => by have := own_lt hown a.block e.symm; omega))).set (uniq_srt l1) (by have := uniq_len l1; have := H1.out.2.2.2; omega) x))
  clear hbx hb2 HB HR hR2 ho hown hB2 H1
  go_wp2_with fail
  go_at_call 57
  refine hd.out.mono ?_
  rintro e w3 ⟨v', rfl, hR, hB⟩
  clear hd
  have HR := aK hR
  have HB := aK hB
  clear hR hB
  go_wp2
  go_ret
  exact ⟨_, rfl, HR.out, HB.out⟩

end Go.Proofs.YtmgliocboeifdaaDoor.T
