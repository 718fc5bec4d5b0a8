import Derived.Test.YtmgliocboeifdaaDoorKx0
import Derived.Test.YtmgliocboeifdaaDoorKx1
namespace Go.Proofs.YtmgliocboeifdaaDoor.K
open Go.RowKit Go.Proofs.YtmgliocboeifdaaDoorW.PrintWords Go.Proofs.YtmgliocboeifdaaDoorW.PrintLast Go.Proofs.YtmgliocboeifdaaDoorW.PrintMore
set_option maxHeartbeats 4000000
set_option maxRecDepth 100000
attribute [local go_sem] max2_int min2_int max_two min_two max_three min_three max_four min_four
set_option linter.unusedVariables false
set_option linter.unusedSimpArgs false

/-! ### varint_GetList: function 35 -/
mutual
def varint_GetList.l0 : Nat → List Int → Int → List Int → Int → Int → Int → Option (List Int × Int × Int)
|0,_,_,_,_,_,_ => none
|k + 1,x0,x10,x12,x13,x31,x32 => if x32 < x31 then ((varint_Get.f k x0 x10).bind fun bt115 => (if bt115.2.2 = 0 then (if x32 > 0 then (varint_GetList.j1 k x0 x12 x13 bt115.1 bt115.2.1 x31 x32 (bt115.1 == 0)) else (varint_GetList.j1 k x0 x12 x13 bt115.1 bt115.2.1 x31 x32 false)) else (some (([] : List Int),0,bt115.2.2)))) else (some (x12,x10,0))
def varint_GetList.j1 : Nat → List Int → List Int → Int → Int → Int → Int → Int → Bool → Option (List Int × Int × Int)
|0,_,_,_,_,_,_,_,_ => none
|k + 1,x0,x12,x13,x15,x16,x31,x32,x50 => if x50 = true then (some (([] : List Int),0,3)) else (if x15 > (wrap64 (4611686018427387904 - x13)) then (some (([] : List Int),0,4)) else (if x12.length < 17592186044416 then (varint_GetList.l0 k x0 x16 (x12 ++ [wrap64 (x13 + x15)]) (wrap64 (x13 + x15)) x31 (wrap64 (x32 + 1))) else (none)))
end
def varint_GetList.f (k : Nat) (l0 : List Int) (a1 : Int) (a2 : Int) : Option (List Int × Int × Int) := (varint_Get.f k l0 a1).bind fun bt112 => (if bt112.2.2 = 0 then (if bt112.1 > a2 then (some (([] : List Int), 0, 4)) else (varint_GetList.l0 k l0 bt112.2.1 ([] : List Int) 0 bt112.1 0)) else (some (([] : List Int), 0, bt112.2.2)))
theorem varint_GetList.mono_l : ∀ k, (∀ y0 y1 y2 y3 y4 y5, LeO (varint_GetList.l0 k y0 y1 y2 y3 y4 y5) (varint_GetList.l0 (k + 1) y0 y1 y2 y3 y4 y5)) ∧ (∀ y0 y1 y2 y3 y4 y5 y6 y7, LeO (varint_GetList.j1 k y0 y1 y2 y3 y4 y5 y6 y7) (varint_GetList.j1 (k + 1) y0 y1 y2 y3 y4 y5 y6 y7))
|0 => ⟨fun _ _ _ _ _ _ r h => by simp [varint_GetList.l0] at h,fun _ _ _ _ _ _ _ _ r h => by simp [varint_GetList.j1] at h⟩
|k + 1 => by
  obtain ⟨ih0,ih1⟩ := varint_GetList.mono_l k
  refine ⟨?_,?_⟩
  ·intro y0 y1 y2 y3 y4 y5
   unfold varint_GetList.l0
   repeat' (with_reducible first|exact ih1 _ _ _ _ _ _ _ _|exact varint_Get.mono _ _ _|exact LeO.refl _|exact LeO.none _|refine LeO.ite ?_ ?_|refine LeO.bind ?_ (fun _ => ?_))
  ·intro y0 y1 y2 y3 y4 y5 y6 y7
   unfold varint_GetList.j1
   repeat' (with_reducible first|exact ih0 _ _ _ _ _ _|exact LeO.refl _|exact LeO.none _|refine LeO.ite ?_ ?_|refine LeO.bind ?_ (fun _ => ?_))
theorem varint_GetList.mono : ∀ a0 a1 a2 k, LeO (varint_GetList.f k a0 a1 a2) (varint_GetList.f (k + 1) a0 a1 a2) := by
 intro a0 a1 a2 k
 obtain ⟨ih0,ih1⟩ := varint_GetList.mono_l k
 unfold varint_GetList.f
 repeat' first
  |(with_reducible exact ih0 _ _ _ _ _ _)
  |(with_reducible exact ih1 _ _ _ _ _ _ _ _)
  |(with_reducible exact varint_Get.mono _ _ _)
  |(with_reducible exact LeO.refl _)
  |(with_reducible exact LeO.none _)
  |(with_reducible refine LeO.ite ?_ ?_)
  |(with_reducible refine LeO.bind ?_ (fun _ => ?_))
  |exact ih0 _ _ _ _ _ _
  |exact ih1 _ _ _ _ _ _ _ _
  |exact varint_Get.mono _ _ _
  |exact LeO.none _
  |refine LeO.ite ?_ ?_
  |refine LeO.bind ?_ (fun _ => ?_)
theorem varint_GetList.calls (k : Nat) (A0 : Option Addr) (c0 : Nat) (l0 : List Int) (a1 : Int) (a2 : Int) (r1 : List Int) (r2 : Int) (r3 : Int) (w : World) (aT : Kd.C (Kd.int .u8) w A0 l0.length l0) (aU : l0.length ≤ c0) (h : varint_GetList.f k l0 a1 a2 = some (r1, r2, r3)) :
  Calls Tryd.prog 35 #[.slice A0 l0.length c0,.int .i64 a1,.int .i64 a2] w fun e w' => ∃ aV : Value,e = .returned (.tuple #[aV,.int .i64 r2,.int .i64 r3]) ∧ Kd.R (Kd.int .i64) 3 w' w.heap.size (fun _ => True) aV r1 ∧ Below w.heap.size w w' := by
 have aw := aK aT
 have ax := aK aU
 clear aT aU
 have HB := aK (Below.refl w.heap.size w)
 have H : ((varint_Get.f k l0 a1).bind fun ai => (if ai.2.2 = 0 then (if ai.1 > a2 then (some (([] : List Int),0,4)) else (varint_GetList.l0 k l0 ai.2.1 ([] : List Int) 0 ai.1 0)) else (some (([] : List Int),0,ai.2.2)))) = some (r1,r2,r3) := h
 clear h
 replace H := Option.bind_eq_some_iff.mp H
 obtain ⟨⟨ag,ap,ao⟩,aW,H⟩ := H
 replace H : (if ao = 0 then (if ag > a2 then (some (([] : List Int),0,4)) else (varint_GetList.l0 k l0 ap ([] : List Int) 0 ag 0)) else (some (([] : List Int),0,ao))) = some (r1,r2,r3) := H
 have A4 := aK aW
 clear aW
 by_cases c5 : ao = 0
 ·rw [if_pos c5] at H
  have ay := beq_iff_eq.mpr c5
  have az := bne_eq_false_iff_eq.mpr c5
  clear c5
  by_cases c6 : ag > a2
  ·rw [if_pos c6] at H
   have aA := decide_eq_true c6
   clear c6
   simp only [Option.some.injEq,Prod.mk.injEq] at H
   obtain ⟨rfl,rfl,rfl⟩ := H
   go_enter Tryd.func35,Tryd.ntmps35
   go_wp2_with (first|((with_reducible refine gate_callee (f := 32) rfl ?_);refine gL 21 Tryd.func32 #[.slice A0 l0.length c0,.int .i64 a1] ?_;(with_reducible refine (varint_Get.calls k _ _ l0 a1 ag ap ao _ ?ac ?ad A4.out).mono ?_);(case ac => exact cM aw.out);(case ad => exact ax.out);rintro e w' ⟨rfl,⟨nd,rfl⟩⟩;refine ⟨_,rfl,?_⟩))
   go_ret3
   exact ⟨_,by first|rfl|(simp [errW_none,errW_some] <;> rfl)|(simp [*,errW_none,errW_some] <;> rfl),by first|exact Kd.R_nil _ _ _ _ _|exact Kd.N_nil _ _ _ _ _|exact Kd.V_nil _ _ _ _ _|exact Kd.Q_nil _ _ _ _ _|exact Kd.S_nil _ _ _ _ _,bM HB.out⟩
  ·rw [if_neg c6] at H
   have aA := decide_eq_false c6
   clear c6
   have H' := aK H
   clear H
   go_enter Tryd.func35,Tryd.ntmps35
   go_wp2_with (first|((with_reducible refine gate_callee (f := 32) rfl ?_);refine gL 21 Tryd.func32 #[.slice A0 l0.length c0,.int .i64 a1] ?_;(with_reducible refine (varint_Get.calls k _ _ l0 a1 ag ap ao _ ?ac ?ad A4.out).mono ?_);(case ac => exact cM aw.out);(case ad => exact ax.out);rintro e w' ⟨rfl,⟨nd,rfl⟩⟩;refine ⟨_,rfl,?_⟩))
   go_loopg [10,12,13,32] k (fun kq a0 a3 a4 a5 w' => ∃ (ah : Int) (ae : List Int) (aa : Int) (ab : Int),a0 = .int .i64 ah ∧ a4 = .int .i64 aa ∧ a5 = .int .i64 ab ∧ Aside0 (varint_GetList.l0 kq l0 ah ae aa ag ab = some (r1,r2,r3)) ∧ Aside0 (kq ≤ k) ∧ Aside0 (Kd.R (Kd.int .i64) 3 w' w.heap.size (fun _ => True) a3 ae) ∧ Aside0 (Below w.heap.size w w'))
   case atStart => exact ⟨(ap),(([] : List Int)),(0),(0),(by first|rfl|(simp;done)|(simp [*];done)),(by first|rfl|(simp;done)|(simp [*];done)),(by first|rfl|(simp;done)|(simp [*];done)),H',⟨Nat.le_refl _⟩,⟨by first|exact Kd.R_nil _ _ _ _ _|exact Kd.N_nil _ _ _ _ _|exact Kd.V_nil _ _ _ _ _|exact Kd.Q_nil _ _ _ _ _|exact Kd.S_nil _ _ _ _ _⟩,⟨bM HB.out⟩⟩
   case round =>
    clear H'
    try clear p2
    try clear c5
    try clear ay
    try clear az
    try clear c6
    try clear aA
    obtain ⟨ah,ae,aa,ab,rfl,rfl,rfl,HA,aN,aj,HB⟩ := hrel
    cases gk with
   |zero => exact absurd HA.out (by simp [varint_GetList.l0])
   |succ k1 =>
     have H := HA.out
     clear HA
     simp only [varint_GetList.l0] at H
     by_cases c7 : ab < ag
     ·rw [if_pos c7] at H
      have aC := decide_eq_true c7
      clear c7
      replace H := Option.bind_eq_some_iff.mp H
      obtain ⟨⟨af,am,aq⟩,aX,H⟩ := H
      replace H : (if aq = 0 then (if ab > 0 then (varint_GetList.j1 k1 l0 ae aa af am ag ab (af == 0)) else (varint_GetList.j1 k1 l0 ae aa af am ag ab false)) else (some (([] : List Int),0,aq))) = some (r1,r2,r3) := H
      have A8 := aK aX
      clear aX
      by_cases c9 : aq = 0
      ·rw [if_pos c9] at H
       have aD := beq_iff_eq.mpr c9
       have aE := bne_eq_false_iff_eq.mpr c9
       clear c9
       have ar := aK H
       clear H
       go_upto_region 14 with (first|((with_reducible refine gate_callee (f := 32) rfl ?_);refine gL 38 Tryd.func32 #[.slice A0 l0.length c0,.int .i64 ah] ?_;(with_reducible refine (varint_Get.calls k1 _ _ l0 ah af am aq _ ?ac ?ad A8.out).mono ?_);(case ac => exact cM (Kd.C_below aw.out HB.out));(case ad => exact ax.out);rintro e w' ⟨rfl,⟨nd,rfl⟩⟩;refine ⟨_,rfl,?_⟩))
       (try simp only [Act.put,z1_,z2_,z3_])
       go_cut [50] (fun a6 wc => ∃ (kq : Nat) (an : Bool),a6 = .bool an ∧ Aside0 (varint_GetList.j1 kq l0 ae aa af am ag ab an = some (r1,r2,r3)) ∧ Aside0 (kq ≤ k1) ∧ Aside0 (Kd.R (Kd.int .i64) 3 wc w.heap.size (fun _ => True) u12 ae) ∧ Aside0 (Below w.heap.size w wc))
       case first =>
        have H := ar.out
        clear ar
        by_cases au : ab > 0
        ·rw [if_pos au] at H
         have ak := decide_eq_true au
         clear au
         (first|rw [ak]|(simp only [i64_w,i32_w];rw [ak])|rw [c11b1]|skip)
         have H' := aK H
         clear H
         go_wp2
         go_meet
         case rel => exact ⟨_,((af == 0)),(by first|rfl|(simp;done)|(simp [*];done)),H',⟨by have := aN.out;first|omega|exact Nat.le_refl _⟩,⟨rM aj.out⟩,⟨bM HB.out⟩⟩
        ·rw [if_neg au] at H
         have ak := decide_eq_false au
         clear au
         (first|rw [ak]|(simp only [i64_w,i32_w];rw [ak])|rw [c11b1]|skip)
         have H' := aK H
         clear H
         go_wp2
         go_meet
         case rel => exact ⟨_,(false),(by first|rfl|(simp;done)|(simp [*];done)),H',⟨by have := aN.out;first|omega|exact Nat.le_refl _⟩,⟨rM aj.out⟩,⟨bM HB.out⟩⟩
       case rest =>
        clear ar
        try clear p2
        try clear c7
        try clear aC
        try clear c9
        try clear aD
        try clear aE
        try clear p2
        obtain ⟨kq,an,rfl,HA,aY,aj,HB⟩ := hcut
        cases kq with
       |zero => exact absurd HA.out (by simp [varint_GetList.j1])
       |succ kj9 =>
         have H := HA.out
         clear HA
         simp only [varint_GetList.j1] at H
         by_cases aQ : an = true
         ·subst aQ
          rw [if_pos rfl] at H
          simp only [Option.some.injEq,Prod.mk.injEq] at H
          obtain ⟨rfl,rfl,rfl⟩ := H
          go_wp2
          go_ret3
          exact ⟨_,by first|rfl|(simp [errW_none,errW_some] <;> rfl)|(simp [*,errW_none,errW_some] <;> rfl),by first|exact Kd.R_nil _ _ _ _ _|exact Kd.N_nil _ _ _ _ _|exact Kd.V_nil _ _ _ _ _|exact Kd.Q_nil _ _ _ _ _|exact Kd.S_nil _ _ _ _ _,bM HB.out⟩
         ·replace aQ := Bool.eq_false_iff.mpr aQ
          subst aQ
          rw [if_neg (show ¬ (false = true) by decide)] at H
          by_cases av : af > (wrap64 (4611686018427387904 - aa))
          ·rw [if_pos av] at H
           have aG := decide_eq_true av
           clear av
           simp only [Option.some.injEq,Prod.mk.injEq] at H
           obtain ⟨rfl,rfl,rfl⟩ := H
           go_wp2
           go_ret3
           exact ⟨_,by first|rfl|(simp [errW_none,errW_some] <;> rfl)|(simp [*,errW_none,errW_some] <;> rfl),by first|exact Kd.R_nil _ _ _ _ _|exact Kd.N_nil _ _ _ _ _|exact Kd.V_nil _ _ _ _ _|exact Kd.Q_nil _ _ _ _ _|exact Kd.S_nil _ _ _ _ _,bM HB.out⟩
          ·rw [if_neg av] at H
           have aG := decide_eq_false av
           clear av
           obtain ⟨aZ,H⟩ := iS H
           have aH := aK aZ
           clear aZ
           obtain ⟨aI,al⟩ : ∃ y_ : List Int,y_ = (ae ++ [wrap64 (aa + af)]) := ⟨_,rfl⟩
           replace H : (varint_GetList.l0 kj9 l0 am aI (wrap64 (aa + af)) ag (wrap64 (ab + 1))) = some (r1,r2,r3) := by first|(rw [al];with_reducible exact H)|(have aR := (Option.bind_some _ _).symm.trans H;rw [al];with_reducible exact aR)|(have aR := (Option.bind_some _ _).symm.trans H;with_reducible exact aR)|with_reducible exact H|(rw [al];exact H)|exact H
           have aJ := aK al
           clear al
           have H' := aK H
           clear H
           go_wp2_with (first|((with_reducible refine gate_builtin (b := .append) (xs := #[.tmp 58,.tmp 60]) rfl ?_);at_builtin;refine Kd.R_append (Kd.int .i64) (w0 := w) w.heap.size rfl (.tmp 58) (.tmp 60) 26 3 (.int .i64 0) 8 rfl Tryd.underlying26 info3 rfl (by decide) (by omega) u12 ae (wrap64 (aa + af)) [.int .i64 (wrap64 (aa + af))] (fun _ => True) (fun _ => False) rfl rfl ?aP (fun _ hk => hk.elim) ?aF ?aO ?aB ?aS ?aL ?_;(case aP => exact rfl);(case aB => exact (bM HB.out));(case aF => exact (fun _ _ => trivial));(case aO => exact (rM aj.out));(case aS => exact (below_size (bM HB.out)));(case aL => have := aH.out;omega);intro a7 a8 ho hb hg hat;rw [← aJ.out] at ho;replace HB := aK (hb);have aM := aK (ho);clear ho hb hg hat))
           go_roundg kj9
           case measure => have := aN.out;have := aY.out;omega
           case rel => exact ⟨(am),(aI),(wrap64 (aa + af)),(wrap64 (ab + 1)),(by first|rfl|(simp;done)|(simp [*];done)),(by first|rfl|(simp;done)|(simp [*];done)),(by first|rfl|(simp;done)|(simp [*];done)),H',⟨by have := aN.out;have := aY.out;omega⟩,⟨rM aM.out⟩,⟨bM HB.out⟩⟩
      ·rw [if_neg c9] at H
       have aD := beq_eq_false_iff_ne.mpr c9
       have aE := bne_iff_ne.mpr c9
       simp only [Option.some.injEq,Prod.mk.injEq] at H
       obtain ⟨rfl,rfl,rfl⟩ := H
       go_wp2_with (first|((with_reducible refine gate_callee (f := 32) rfl ?_);refine gL 38 Tryd.func32 #[.slice A0 l0.length c0,.int .i64 ah] ?_;(with_reducible refine (varint_Get.calls k1 _ _ l0 ah af am aq _ ?ac ?ad A8.out).mono ?_);(case ac => exact cM (Kd.C_below aw.out HB.out));(case ad => exact ax.out);rintro e w' ⟨rfl,⟨nd,rfl⟩⟩;refine ⟨_,rfl,?_⟩))
       go_ret3
       exact ⟨_,by first|rfl|(simp [errW_none,errW_some] <;> rfl)|(simp [*,errW_none,errW_some] <;> rfl),by first|exact Kd.R_nil _ _ _ _ _|exact Kd.N_nil _ _ _ _ _|exact Kd.V_nil _ _ _ _ _|exact Kd.Q_nil _ _ _ _ _|exact Kd.S_nil _ _ _ _ _,bM HB.out⟩
     ·rw [if_neg c7] at H
      have aC := decide_eq_false c7
      clear c7
      simp only [Option.some.injEq,Prod.mk.injEq] at H
      obtain ⟨rfl,rfl,rfl⟩ := H
      go_wp2
      go_ret3
      exact ⟨_,by first|rfl|(simp [errW_none,errW_some] <;> rfl)|(simp [*,errW_none,errW_some] <;> rfl),rM aj.out,bM HB.out⟩
 ·rw [if_neg c5] at H
  have ay := beq_eq_false_iff_ne.mpr c5
  have az := bne_iff_ne.mpr c5
  simp only [Option.some.injEq,Prod.mk.injEq] at H
  obtain ⟨rfl,rfl,rfl⟩ := H
  go_enter Tryd.func35,Tryd.ntmps35
  go_wp2_with (first|((with_reducible refine gate_callee (f := 32) rfl ?_);refine gL 21 Tryd.func32 #[.slice A0 l0.length c0,.int .i64 a1] ?_;(with_reducible refine (varint_Get.calls k _ _ l0 a1 ag ap ao _ ?ac ?ad A4.out).mono ?_);(case ac => exact cM aw.out);(case ad => exact ax.out);rintro e w' ⟨rfl,⟨nd,rfl⟩⟩;refine ⟨_,rfl,?_⟩))
  go_ret3
  exact ⟨_,by first|rfl|(simp [errW_none,errW_some] <;> rfl)|(simp [*,errW_none,errW_some] <;> rfl),by first|exact Kd.R_nil _ _ _ _ _|exact Kd.N_nil _ _ _ _ _|exact Kd.V_nil _ _ _ _ _|exact Kd.Q_nil _ _ _ _ _|exact Kd.S_nil _ _ _ _ _,bM HB.out⟩

/-! ### varint_GetString: function 37 -/
def varint_GetString.f (k : Nat) (l0 : List Int) (a1 : Int) (a2 : Int) : Option (ByteArray × Int × Int) := (varint_Get.f k l0 a1).bind fun bt121 => (if bt121.2.2 = 0 then (if bt121.1 > a2 then (some ((⟨#[]⟩ : ByteArray), 0, 4)) else (if (wrap64 ((l0.length : Int) - bt121.2.1)) < bt121.1 then (some ((⟨#[]⟩ : ByteArray), 0, 5)) else (if 0 ≤ bt121.2.1 then (if bt121.2.1 ≤ (wrap64 (bt121.2.1 + bt121.1)) then (if (wrap64 (bt121.2.1 + bt121.1)) ≤ (l0.length : Int) then (some (strOfNums ((l0.take ((wrap64 (bt121.2.1 + bt121.1)) : Int).toNat).drop (bt121.2.1 : Int).toNat), wrap64 (bt121.2.1 + bt121.1), 0)) else (none)) else (none)) else (none)))) else (some ((⟨#[]⟩ : ByteArray), 0, bt121.2.2)))
theorem varint_GetString.mono : ∀ a0 a1 a2 k, LeO (varint_GetString.f k a0 a1 a2) (varint_GetString.f (k + 1) a0 a1 a2) := by
 intro a0 a1 a2 k
 unfold varint_GetString.f
 repeat' first
  |(with_reducible exact varint_Get.mono _ _ _)
  |(with_reducible exact LeO.refl _)
  |(with_reducible exact LeO.none _)
  |(with_reducible refine LeO.ite ?_ ?_)
  |(with_reducible refine LeO.bind ?_ (fun _ => ?_))
  |exact varint_Get.mono _ _ _
  |exact LeO.none _
  |refine LeO.ite ?_ ?_
  |refine LeO.bind ?_ (fun _ => ?_)
theorem varint_GetString.calls (k : Nat) (A0 : Option Addr) (c0 : Nat) (l0 : List Int) (a1 : Int) (a2 : Int) (r1 : ByteArray) (r2 : Int) (r3 : Int) (w : World) (az : Kd.C (Kd.int .u8) w A0 l0.length l0) (aA : l0.length ≤ c0) (h : varint_GetString.f k l0 a1 a2 = some (r1, r2, r3)) :
  Calls Tryd.prog 37 #[.slice A0 l0.length c0,.int .i64 a1,.int .i64 a2] w fun e w' => e = .returned (.tuple #[.string r1,.int .i64 r2,.int .i64 r3]) ∧ Drawn0 w w' := by
 have am := aK az
 have an := aK aA
 clear az aA
 have H : ((varint_Get.f k l0 a1).bind fun aa => (if aa.2.2 = 0 then (if aa.1 > a2 then (some ((⟨#[]⟩ : ByteArray),0,4)) else (if (wrap64 ((l0.length : Int) - aa.2.1)) < aa.1 then (some ((⟨#[]⟩ : ByteArray),0,5)) else (if 0 ≤ aa.2.1 then (if aa.2.1 ≤ (wrap64 (aa.2.1 + aa.1)) then (if (wrap64 (aa.2.1 + aa.1)) ≤ (l0.length : Int) then (some (strOfNums ((l0.take ((wrap64 (aa.2.1 + aa.1)) : Int).toNat).drop (aa.2.1 : Int).toNat),wrap64 (aa.2.1 + aa.1),0)) else (none)) else (none)) else (none)))) else (some ((⟨#[]⟩ : ByteArray),0,aa.2.2)))) = some (r1,r2,r3) := h
 clear h
 replace H := Option.bind_eq_some_iff.mp H
 obtain ⟨⟨ac,ab,af⟩,aB,H⟩ := H
 replace H : (if af = 0 then (if ac > a2 then (some ((⟨#[]⟩ : ByteArray),0,4)) else (if (wrap64 ((l0.length : Int) - ab)) < ac then (some ((⟨#[]⟩ : ByteArray),0,5)) else (if 0 ≤ ab then (if ab ≤ (wrap64 (ab + ac)) then (if (wrap64 (ab + ac)) ≤ (l0.length : Int) then (some (strOfNums ((l0.take ((wrap64 (ab + ac)) : Int).toNat).drop (ab : Int).toNat),wrap64 (ab + ac),0)) else (none)) else (none)) else (none)))) else (some ((⟨#[]⟩ : ByteArray),0,af))) = some (r1,r2,r3) := H
 have A4 := aK aB
 clear aB
 by_cases c5 : af = 0
 ·rw [if_pos c5] at H
  have au := beq_iff_eq.mpr c5
  have av := bne_eq_false_iff_eq.mpr c5
  clear c5
  by_cases c6 : ac > a2
  ·rw [if_pos c6] at H
   have aw := decide_eq_true c6
   clear c6
   simp only [Option.some.injEq,Prod.mk.injEq] at H
   obtain ⟨rfl,rfl,rfl⟩ := H
   go_enter Tryd.func37,Tryd.ntmps37
   go_wp2_with (first|((with_reducible refine gate_callee (f := 32) rfl ?_);refine gL 15 Tryd.func32 #[.slice A0 l0.length c0,.int .i64 a1] ?_;(with_reducible refine (varint_Get.calls k _ _ l0 a1 ac ab af _ ?ad ?ae A4.out).mono ?_);(case ad => exact cM am.out);(case ae => exact an.out);rintro e w' ⟨rfl,⟨nd,rfl⟩⟩;refine ⟨_,rfl,?_⟩))
   go_ret3
   exact ⟨by first|rfl|(simp;done)|(simp [*];done),by repeat (first|exact Drawn0.refl _|apply Drawn0.step)⟩
  ·rw [if_neg c6] at H
   have aw := decide_eq_false c6
   clear c6
   by_cases c7 : (wrap64 ((l0.length : Int) - ab)) < ac
   ·rw [if_pos c7] at H
    have ax := decide_eq_true c7
    clear c7
    simp only [Option.some.injEq,Prod.mk.injEq] at H
    obtain ⟨rfl,rfl,rfl⟩ := H
    go_enter Tryd.func37,Tryd.ntmps37
    go_wp2_with (first|((with_reducible refine gate_callee (f := 32) rfl ?_);refine gL 15 Tryd.func32 #[.slice A0 l0.length c0,.int .i64 a1] ?_;(with_reducible refine (varint_Get.calls k _ _ l0 a1 ac ab af _ ?ad ?ae A4.out).mono ?_);(case ad => exact cM am.out);(case ae => exact an.out);rintro e w' ⟨rfl,⟨nd,rfl⟩⟩;refine ⟨_,rfl,?_⟩))
    go_ret3
    exact ⟨by first|rfl|(simp;done)|(simp [*];done),by repeat (first|exact Drawn0.refl _|apply Drawn0.step)⟩
   ·rw [if_neg c7] at H
    have ax := decide_eq_false c7
    clear c7
    obtain ⟨c8,H⟩ := iS H
    have aG := eq_true c8
    have aH := decide_eq_true c8
    clear c8
    obtain ⟨c9,H⟩ := iS H
    have aI := eq_true c9
    have aJ := decide_eq_true c9
    obtain ⟨c10,H⟩ := iS H
    have aC := eq_true c10
    have aD := decide_eq_true c10
    simp only [Option.some.injEq,Prod.mk.injEq] at H
    obtain ⟨rfl,rfl,rfl⟩ := H
    go_enter Tryd.func37,Tryd.ntmps37
    go_wp2_with (first|((with_reducible refine gate_callee (f := 32) rfl ?_);refine gL 15 Tryd.func32 #[.slice A0 l0.length c0,.int .i64 a1] ?_;(with_reducible refine (varint_Get.calls k _ _ l0 a1 ac ab af _ ?ad ?ae A4.out).mono ?_);(case ad => exact cM am.out);(case ae => exact an.out);rintro e w' ⟨rfl,⟨nd,rfl⟩⟩;refine ⟨_,rfl,?_⟩;obtain ⟨aL,ag,_,ah,_⟩ := info_parts info5;obtain ⟨aE,ay,ao,ap⟩ := print_mid_of (P := Tryd.prog) (Value.int .u8) 0 29 5 .i64 .i64 Tryd.underlying29 ag ah A0 c0 l0 ab (wrap64 (ab + ac)) (dA) (by first|omega|exact dA) (dA) an.out;have ai := aK (Kd.C_of_reads (h1 := fun _ => rfl) (ao _ (Kd.reads_of_C am.out)));have aF := aK ap;clear ao ap ag ah;have aq := Kd.C_string (P := Tryd.prog) (A := aE) (c := (c0 - ab.toNat)) Tryd.underlying29 Tryd.underlying5 Tryd.underlying9 ai.out;have aj := fun n_ : Nat => Kd.C_string (P := Tryd.prog) (A := aE) (c := (c0 - ab.toNat)) Tryd.underlying29 Tryd.underlying5 Tryd.underlying9 (Kd.C_drewN ai.out n_);(try (have ar : ((l0.take ((wrap64 (ab + ac)) : Int).toNat).drop (ab : Int).toNat).length = ((wrap64 (ab + ac)) : Int).toNat - (ab : Int).toNat := (by rw [z7_,z8_,Nat.min_eq_left (by simp only [decide_eq_true_eq,eq_iff_iff,iff_true] at *;omega)]);have ak := aq;have al := aj;simp only [ar] at ak al;clear ar))))
    go_ret3
    exact ⟨by first|rfl|(simp;done)|(simp [*];done),by repeat (first|exact Drawn0.refl _|apply Drawn0.step)⟩
 ·rw [if_neg c5] at H
  have au := beq_eq_false_iff_ne.mpr c5
  have av := bne_iff_ne.mpr c5
  simp only [Option.some.injEq,Prod.mk.injEq] at H
  obtain ⟨rfl,rfl,rfl⟩ := H
  go_enter Tryd.func37,Tryd.ntmps37
  go_wp2_with (first|((with_reducible refine gate_callee (f := 32) rfl ?_);refine gL 15 Tryd.func32 #[.slice A0 l0.length c0,.int .i64 a1] ?_;(with_reducible refine (varint_Get.calls k _ _ l0 a1 ac ab af _ ?ad ?ae A4.out).mono ?_);(case ad => exact cM am.out);(case ae => exact an.out);rintro e w' ⟨rfl,⟨nd,rfl⟩⟩;refine ⟨_,rfl,?_⟩))
  go_ret3
  exact ⟨by first|rfl|(simp;done)|(simp [*];done),by repeat (first|exact Drawn0.refl _|apply Drawn0.step)⟩

/-! ### r33_SameInts: function 9 -/
def r33_SameInts.l0 : Nat → List Int → List Int → Int → Option (Bool)
|0,_,_,_ => none
|k + 1,x0,x1,x5 => if x5 < (x0.length : Int) then (if 0 ≤ x5 then (if x5 < (x1.length : Int) then (if (rd x0 x5) = (rd x1 x5) then (r33_SameInts.l0 k x0 x1 (wrap64 (x5 + 1))) else (some false)) else (none)) else (none)) else (some true)
def r33_SameInts.f (k : Nat) (l0 : List Int) (l1 : List Int) : Option (Bool) := if (l0.length : Int) = (l1.length : Int) then (r33_SameInts.l0 k l0 l1 0) else (some false)
theorem r33_SameInts.mono_l : ∀ k, (∀ y0 y1 y2, LeO (r33_SameInts.l0 k y0 y1 y2) (r33_SameInts.l0 (k + 1) y0 y1 y2))
|0 => fun _ _ _ r h => by simp [r33_SameInts.l0] at h
|k + 1 => by
  have ih0 := r33_SameInts.mono_l k
  ·intro y0 y1 y2
   unfold r33_SameInts.l0
   repeat' (with_reducible first|exact ih0 _ _ _|exact LeO.refl _|exact LeO.none _|refine LeO.ite ?_ ?_|refine LeO.bind ?_ (fun _ => ?_))
theorem r33_SameInts.mono : ∀ a0 a1 k, LeO (r33_SameInts.f k a0 a1) (r33_SameInts.f (k + 1) a0 a1) := by
 intro a0 a1 k
 have ih0 := r33_SameInts.mono_l k
 unfold r33_SameInts.f
 repeat' first
  |(with_reducible exact ih0 _ _ _)
  |(with_reducible exact LeO.refl _)
  |(with_reducible exact LeO.none _)
  |(with_reducible refine LeO.ite ?_ ?_)
  |(with_reducible refine LeO.bind ?_ (fun _ => ?_))
  |exact ih0 _ _ _
  |exact LeO.none _
  |refine LeO.ite ?_ ?_
  |refine LeO.bind ?_ (fun _ => ?_)
theorem r33_SameInts.calls (k : Nat) (A0 : Option Addr) (c0 : Nat) (l0 : List Int) (A1 : Option Addr) (c1 : Nat) (l1 : List Int) (r : Bool) (w : World) (ar : Kd.C (Kd.int .i64) w A0 l0.length l0) (au : l0.length ≤ c0) (av : Kd.C (Kd.int .i64) w A1 l1.length l1) (aw : l1.length ≤ c1) (h : r33_SameInts.f k l0 l1 = some r) :
  Calls Tryd.prog 9 #[.slice A0 l0.length c0,.slice A1 l1.length c1] w fun e w' => e = .returned (.bool r) ∧ Drawn0 w w' := by
 have ax := aK ar
 have aC := aK au
 clear ar au
 have ay := aK av
 have aD := aK aw
 clear av aw
 have H : (if (l0.length : Int) = (l1.length : Int) then (r33_SameInts.l0 k l0 l1 0) else (some false)) = some r := h
 clear h
 by_cases c3 : (l0.length : Int) = (l1.length : Int)
 ·rw [if_pos c3] at H
  have aj := beq_iff_eq.mpr c3
  have ak := bne_eq_false_iff_eq.mpr c3
  have al : (l0.length == l1.length) = true := by first|simpa using c3|(simp at c3 ⊢;omega)
  clear c3
  have H' := aK H
  clear H
  go_enter Tryd.func9,Tryd.ntmps9
  go_wp2
  repeat (go_quiet (fail);try go_wp2)
  go_loopg [5] k (fun kq v5 w' => ∃ (aa : Int),v5 = .int .i64 aa ∧ Aside0 (r33_SameInts.l0 kq l0 l1 aa = some r) ∧ Aside0 (kq ≤ k) ∧ Drawn0 w w')
  case atStart => exact ⟨(0),(by first|rfl|(simp;done)|(simp [*];done)),H',⟨Nat.le_refl _⟩,by repeat (first|exact Drawn0.refl _|apply Drawn0.step)⟩
  case round =>
   clear H'
   try clear p2
   try clear c3
   try clear aj
   try clear ak
   try clear al
   obtain ⟨aa,rfl,HA,az,⟨m1,rfl⟩⟩ := hrel
   cases gk with
  |zero => exact absurd HA.out (by simp [r33_SameInts.l0])
  |succ k1 =>
    have H := HA.out
    clear HA
    simp only [r33_SameInts.l0] at H
    by_cases c4 : aa < (l0.length : Int)
    ·rw [if_pos c4] at H
     have ao := decide_eq_true c4
     clear c4
     obtain ⟨c5,H⟩ := iS H
     have aA := decide_eq_true c5
     clear c5
     obtain ⟨c6,H⟩ := iS H
     have aB := decide_eq_true c6
     clear c6
     by_cases c7 : (rd l0 aa) = (rd l1 aa)
     ·rw [if_pos c7] at H
      have ap := beq_iff_eq.mpr c7
      have aq := bne_eq_false_iff_eq.mpr c7
      clear c7
      have H' := aK H
      clear H
      have ab : 0 ≤ (aa : Int) := dA
      have ac : aa < (l0.length : Int) := dA
      obtain ⟨am,ah,af⟩ := Kd.at_int ax.out aa ab ac
      cases ah
      replace ab := eq_true ab
      replace ac := eq_true ac
      have ad : 0 ≤ (aa : Int) := dA
      have ae : aa < (l1.length : Int) := dA
      obtain ⟨an,ai,ag⟩ := Kd.at_int ay.out aa ad ae
      cases ai
      replace ad := eq_true ad
      replace ae := eq_true ae
      go_wp2
      repeat (go_quiet (fail);try go_wp2)
      go_roundg k1
      case measure => have := az.out;omega
      case rel => exact ⟨(wrap64 (aa + 1)),(by first|rfl|(simp;done)|(simp [*];done)),H',⟨by have := az.out;omega⟩,by repeat (first|exact Drawn0.refl _|apply Drawn0.step)⟩
     ·rw [if_neg c7] at H
      have ap := beq_eq_false_iff_ne.mpr c7
      have aq := bne_iff_ne.mpr c7
      obtain rfl := Option.some.inj H
      have ab : 0 ≤ (aa : Int) := dA
      have ac : aa < (l0.length : Int) := dA
      obtain ⟨am,ah,af⟩ := Kd.at_int ax.out aa ab ac
      cases ah
      replace ab := eq_true ab
      replace ac := eq_true ac
      have ad : 0 ≤ (aa : Int) := dA
      have ae : aa < (l1.length : Int) := dA
      obtain ⟨an,ai,ag⟩ := Kd.at_int ay.out aa ad ae
      cases ai
      replace ad := eq_true ad
      replace ae := eq_true ae
      go_wp2
      repeat (go_quiet (fail);try go_wp2)
      go_ret
      exact ⟨by first|rfl|(simp;done)|(simp [*];done),by repeat (first|exact Drawn0.refl _|apply Drawn0.step)⟩
    ·rw [if_neg c4] at H
     have ao := decide_eq_false c4
     clear c4
     obtain rfl := Option.some.inj H
     go_wp2
     repeat (go_quiet (fail);try go_wp2)
     go_ret
     exact ⟨by first|rfl|(simp;done)|(simp [*];done),by repeat (first|exact Drawn0.refl _|apply Drawn0.step)⟩
 ·rw [if_neg c3] at H
  have aj := beq_eq_false_iff_ne.mpr c3
  have ak := bne_iff_ne.mpr c3
  have al : (l0.length == l1.length) = false := by first|simpa using c3|(simp at c3 ⊢;omega)
  obtain rfl := Option.some.inj H
  go_enter Tryd.func9,Tryd.ntmps9
  go_wp2
  repeat (go_quiet (fail);try go_wp2)
  go_ret
  exact ⟨by first|rfl|(simp;done)|(simp [*];done),by repeat (first|exact Drawn0.refl _|apply Drawn0.step)⟩

/-! ### slices_Grow_int_int: function 65 (by hand) -/
def slices_Grow_int_int.f (l0 : List Int) (a1 : Int) : Option (List Int) := if 0 ≤ a1 then if a1 < 1000000000000 then some l0 else none else none
/-- The first k of a row of the call's own. -/
theorem own_head {w : World} {base e n cap k g : Nat} {xs : List Value} (h : w.ownsRow base e 1 (.slice (some ⟨g, 0, none⟩) n cap) n xs) (hk : k ≤ n) :
    w.ownsRow base e 1 (.slice (some ⟨g, 0, none⟩) k cap) k (xs.take k) := by
  obtain ⟨hl, h0 | ⟨g', cap', cur, hv, hb, hh, hn, hm, hs, ht⟩⟩ := h
  · cases h0.1
  · injection hv with e1 _ e3
    injection e1 with e1
    injection e1 with e1
    subst e1; subst e3
    refine ⟨by simp; omega, .inr ⟨g, cap, cur, rfl, hb, hh, by omega, hm, hs, ?_⟩⟩
    rw [← ht, Nat.mul_one, Nat.mul_one, List.take_take, Nat.min_eq_left hk]
theorem slices_Grow_int_int.calls0 (a1 : Int) (r : List Int) (w : World) (h : slices_Grow_int_int.f [] a1 = some r) :
    Calls Tryd.prog 65 #[.slice none ([] : List Int).length 0, .int .i64 a1] w fun e w' => ∃ v0_ : Value, e = .returned (v0_) ∧ Kd.R (Kd.int .i64) 3 w' w.heap.size (fun _ => True) v0_ r ∧ Below w.heap.size w w' := by
  have info3 : (Tryd.prog.info? 3).map (fun i => (i.zero, i.size, i.bytes)) = some (some (.int .i64 0), 1, 8) := by kernel_rfl
  unfold slices_Grow_int_int.f at h
  split at h
  case isFalse => cases h
  rename_i h0
  split at h
  case isFalse => cases h
  rename_i h1
  obtain rfl := Option.some.inj h
  clear h
  have hi := aK info3
  clear info3
  simp only [List.length_nil]
  by_cases hz : a1 = 0
  · subst hz
    go_enter Tryd.func65, Tryd.ntmps65
    go_wp2
    go_ret
    exact ⟨_, rfl, Kd.R_nil _ _ _ _ _, Below.refl _ _⟩
  · have hp : ¬ a1 < 0 := by omega
    have hp2 : 0 < a1 := by omega
    have H0 := aK h0
    have H1 := aK h1
    have hw : wrap64 a1 = a1 := by unfold wrap64; omega
    clear h0 h1 hp
    go_enter Tryd.func65, Tryd.ntmps65
    go_wp2_with (((with_reducible refine gate_builtin (b := .append) (xs := #[.tmp 20, .tmp 21]) rfl ?_); at_builtin; refine Kd.R_append_zeros (Kd.int .i64) (w0 := w) w.heap.size rfl (.tmp 20) (.tmp 21) 26 3 3 (.int .i64 0) 8 rfl Tryd.underlying26 Tryd.underlying3 hi.out rfl (by decide) (by decide) (.slice none 0 0) [] 0 _ (fun _ => True) rfl rfl rfl (fun _ _ => trivial) (Kd.R_nil _ _ _ _ _) ?a0 (Below.refl _ _) (Nat.le_refl _) ?aL ?_; (case a0 => rw [hw]; exact H0.out); (case aL => have := H1.out; have := H0.out; rw [hw]; simp; omega); intro v1 w1 hR hb hg hat; rw [hw] at hR; clear hg hat; have ho := Kd.own_of_R hR; clear hR; simp only [List.nil_append, List.length_replicate] at ho; rcases ho.2 with ⟨_, h0⟩ | ⟨g, cap, cur, hv, _⟩; (case inl => exfalso; omega); subst hv; have HO := aK (own_head ho (Nat.zero_le _)); have HB := aK hb; clear ho hb))
    go_ret
    exact ⟨_, rfl, Kd.R_of_own HO.out (fun _ _ => trivial), HB.out⟩

/-! ### slices_Concat_int_int: function 56 -/
mutual
def slices_Concat_int_int.l0 : Nat → List (List Int) → Int → List (List Int) → Int → Int → Option (List Int)
|0,_,_,_,_,_ => none
|k + 1,x0,x3,x9,x10,x11 => if x11 < x10 then (if 0 ≤ x11 then (if x11 < (x9.length : Int) then (if (wrap64 (x3 + ((rd_L2 x9 x11).length : Int))) < 0 then (none) else (slices_Concat_int_int.l0 k x0 (wrap64 (x3 + ((rd_L2 x9 x11).length : Int))) x9 x10 (wrap64 (x11 + 1)))) else (none)) else (none)) else ((slices_Grow_int_int.f ([] : List Int) x3).bind fun t128 => (slices_Concat_int_int.l1 k t128 x0 (x0.length : Int) 0))
def slices_Concat_int_int.l1 : Nat → List Int → List (List Int) → Int → Int → Option (List Int)
|0,_,_,_,_ => none
|k + 1,x6,x25,x26,x27 => if x27 < x26 then (if 0 ≤ x27 then (if x27 < (x25.length : Int) then (if x6.length + (rd_L2 x25 x27).length < 17592186044416 then (slices_Concat_int_int.l1 k (x6 ++ (rd_L2 x25 x27)) x25 x26 (wrap64 (x27 + 1))) else (none)) else (none)) else (none)) else (some x6)
end
def slices_Concat_int_int.f (k : Nat) (l0 : List (List Int)) : Option (List Int) := slices_Concat_int_int.l0 k l0 0 l0 (l0.length : Int) 0
theorem slices_Concat_int_int.mono_l : ∀ k, (∀ y0 y1 y2 y3 y4, LeO (slices_Concat_int_int.l0 k y0 y1 y2 y3 y4) (slices_Concat_int_int.l0 (k + 1) y0 y1 y2 y3 y4)) ∧ (∀ y0 y1 y2 y3, LeO (slices_Concat_int_int.l1 k y0 y1 y2 y3) (slices_Concat_int_int.l1 (k + 1) y0 y1 y2 y3))
|0 => ⟨fun _ _ _ _ _ r h => by simp [slices_Concat_int_int.l0] at h,fun _ _ _ _ r h => by simp [slices_Concat_int_int.l1] at h⟩
|k + 1 => by
  obtain ⟨ih0,ih1⟩ := slices_Concat_int_int.mono_l k
  refine ⟨?_,?_⟩
  ·intro y0 y1 y2 y3 y4
   unfold slices_Concat_int_int.l0
   repeat' (with_reducible first|exact ih0 _ _ _ _ _|exact ih1 _ _ _ _|exact LeO.refl _|exact LeO.none _|refine LeO.ite ?_ ?_|refine LeO.bind ?_ (fun _ => ?_))
  ·intro y0 y1 y2 y3
   unfold slices_Concat_int_int.l1
   repeat' (with_reducible first|exact ih1 _ _ _ _|exact LeO.refl _|exact LeO.none _|refine LeO.ite ?_ ?_|refine LeO.bind ?_ (fun _ => ?_))
theorem slices_Concat_int_int.mono : ∀ a0 k, LeO (slices_Concat_int_int.f k a0) (slices_Concat_int_int.f (k + 1) a0) := by
 intro a0 k
 obtain ⟨ih0,ih1⟩ := slices_Concat_int_int.mono_l k
 unfold slices_Concat_int_int.f
 repeat' first
  |(with_reducible exact ih0 _ _ _ _ _)
  |(with_reducible exact ih1 _ _ _ _)
  |(with_reducible exact LeO.refl _)
  |(with_reducible exact LeO.none _)
  |(with_reducible refine LeO.ite ?_ ?_)
  |(with_reducible refine LeO.bind ?_ (fun _ => ?_))
  |exact ih0 _ _ _ _ _
  |exact ih1 _ _ _ _
  |exact LeO.none _
  |refine LeO.ite ?_ ?_
  |refine LeO.bind ?_ (fun _ => ?_)
theorem slices_Concat_int_int.calls (k : Nat) (A0 : Option Addr) (c0 : Nat) (l0 : List (List Int)) (r : List Int) (w : World) (aT : Kd.C (Kd.slice 3 (Kd.int .i64)) w A0 l0.length l0) (aU : l0.length ≤ c0) (h : slices_Concat_int_int.f k l0 = some r) :
  Calls Tryd.prog 56 #[.slice A0 l0.length c0] w fun e w' => ∃ aV : Value,e = .returned (aV) ∧ Kd.R (Kd.int .i64) 3 w' w.heap.size (fun _ => True) aV r ∧ Below w.heap.size w w' := by
 have aW := aK aT
 have bc := aK aU
 clear aT aU
 have HB := aK (Below.refl w.heap.size w)
 have H : (slices_Concat_int_int.l0 k l0 0 l0 (l0.length : Int) 0) = some r := h
 clear h
 have H' := aK H
 clear H
 go_enter Tryd.func56,Tryd.ntmps56
 go_wp2
 go_loopg [3,11] k (fun kq v3 a4 w' => ∃ (aj : Int) (ab : Int),v3 = .int .i64 aj ∧ a4 = .int .i64 ab ∧ Aside0 (slices_Concat_int_int.l0 kq l0 aj l0 (l0.length : Int) ab = some r) ∧ Aside0 (kq ≤ k) ∧ Aside0 (Below w.heap.size w w'))
 case atStart => exact ⟨(0),(0),(by first|rfl|(simp;done)|(simp [*];done)),(by first|rfl|(simp;done)|(simp [*];done)),H',⟨Nat.le_refl _⟩,⟨bM HB.out⟩⟩
 case round =>
  clear H'
  obtain ⟨aj,ab,rfl,rfl,HA,aA,HB⟩ := hrel
  cases gk with
 |zero => exact absurd HA.out (by simp [slices_Concat_int_int.l0])
 |succ k1 =>
   have H := HA.out
   clear HA
   simp only [slices_Concat_int_int.l0] at H
   by_cases c2 : ab < (l0.length : Int)
   ·rw [if_pos c2] at H
    have aq := decide_eq_true c2
    clear c2
    obtain ⟨c3,H⟩ := iS H
    have a5 := decide_eq_true c3
    clear c3
    obtain ⟨c4,H⟩ := iS H
    have a6 := decide_eq_true c4
    clear c4
    obtain ⟨c5,H⟩ := iN H
    have a7 := decide_eq_false c5
    clear c5
    have H' := aK H
    clear H
    have al : 0 ≤ (ab : Int) := dA
    have am : ab < (l0.length : Int) := dA
    obtain ⟨aX,aG,aH,aI,ac,ae,af⟩ := at_L2 aW.out ab al am
    cases aI
    replace ac := xM HB ac
    have aC := aK af
    have aD := aK ae
    clear af ae
    replace al := eq_true al
    replace am := eq_true am
    go_wp2
    go_roundg k1
    case measure => have := aA.out;omega
    case rel => exact ⟨(wrap64 (aj + ((rd_L2 l0 ab).length : Int))),(wrap64 (ab + 1)),(by first|rfl|(simp;done)|(simp [*];done)),(by first|rfl|(simp;done)|(simp [*];done)),H',⟨by have := aA.out;omega⟩,⟨bM HB.out⟩⟩
   ·rw [if_neg c2] at H
    have aq := decide_eq_false c2
    clear c2
    replace H := Option.bind_eq_some_iff.mp H
    obtain ⟨ar,aY,H⟩ := H
    have A6 := aK aY
    clear aY
    have H' := aK H
    clear H
    go_wp2_with (first|(go_at_call 65;refine calls_of_args (args' := #[.slice none ([] : List Int).length 0,.int .i64 aj]) (by first|with_reducible rfl|(simp only [List.length_nil];done)|(simp only [List.length_nil];with_reducible rfl)) ?_;(with_reducible refine (slices_Grow_int_int.calls0 aj ar _ A6.out).mono ?_);rintro e w7 ⟨a8,rfl,aZ,hb⟩;have au := aK (Kd.R_lower aZ (below_size (bM HB.out)));replace HB := aK (below_step (bM HB.out) hb);(try clear hb);(try clear aZ)))
    go_loopg [6,27] k1 (fun kq v6 a9 w' => ∃ (ak : List Int) (aa : Int),a9 = .int .i64 aa ∧ Aside0 (slices_Concat_int_int.l1 kq ak l0 (l0.length : Int) aa = some r) ∧ Aside0 (kq ≤ k1) ∧ Aside0 (Kd.R (Kd.int .i64) 3 w' w.heap.size (fun _ => True) v6 ak) ∧ Aside0 (Below w.heap.size w w'))
    case atStart => exact ⟨(ar),(0),(by first|rfl|(simp;done)|(simp [*];done)),H',⟨Nat.le_refl _⟩,⟨rM au.out⟩,⟨bM HB.out⟩⟩
    case round =>
     clear H'
     try clear p1
     try clear q1
     try clear hx1
     try clear c2
     try clear aq
     try clear p2
     try clear p6
     try clear ac
     try clear al
     try clear am
     obtain ⟨ak,aa,rfl,HA,a0,av,HB⟩ := hrel
     cases gk with
    |zero => exact absurd HA.out (by simp [slices_Concat_int_int.l1])
    |succ k2 =>
      have H := HA.out
      clear HA
      simp only [slices_Concat_int_int.l1] at H
      by_cases c8 : aa < (l0.length : Int)
      ·rw [if_pos c8] at H
       have aJ := decide_eq_true c8
       clear c8
       obtain ⟨c9,H⟩ := iS H
       have ba := decide_eq_true c9
       clear c9
       obtain ⟨c10,H⟩ := iS H
       have a1 := decide_eq_true c10
       clear c10
       obtain ⟨a2,H⟩ := iS H
       have aw := aK a2
       clear a2
       obtain ⟨ax,ad⟩ : ∃ y_ : List Int,y_ = (ak ++ (rd_L2 l0 aa)) := ⟨_,rfl⟩
       replace H : (slices_Concat_int_int.l1 k2 ax l0 (l0.length : Int) (wrap64 (aa + 1))) = some r := by first|(rw [ad];with_reducible exact H)|(have aM := (Option.bind_some _ _).symm.trans H;rw [ad];with_reducible exact aM)|(have aM := (Option.bind_some _ _).symm.trans H;with_reducible exact aM)|with_reducible exact H|(rw [ad];exact H)|exact H
       have ay := aK ad
       clear ad
       have H' := aK H
       clear H
       have ao : 0 ≤ (aa : Int) := dA
       have ap : aa < (l0.length : Int) := dA
       obtain ⟨a3,aN,aP,aQ,ag,ah,ai⟩ := at_L2 aW.out aa ao ap
       cases aQ
       replace ag := xM HB ag
       have an := aK ai
       have aE := aK ah
       clear ai ah
       replace ao := eq_true ao
       replace ap := eq_true ap
       go_wp2_with (first|((with_reducible refine gate_builtin (b := .append) (xs := #[.tmp 31,.tmp 32]) rfl ?_);at_builtin;refine Kd.R_append_rows (Kd.int .i64) (w0 := w) w.heap.size rfl (.tmp 31) (.tmp 32) 26 3 (.int .i64 0) 8 rfl Tryd.underlying26 info3 rfl (by decide) (by omega) u6 ak (rd_L2 l0 aa) _ _ _ (fun _ => True) (fun _ => False) rfl rfl ?aO ?aR (fun _ _ h => h) (fun _ h => h.elim) ?aF ?aB ?aS ?aL ?_;(case aR => exact cM (Kd.C_below an.out HB.out));(case aB => exact (bM HB.out));(case aF => exact (fun _ _ => trivial));(case aO => exact (rM av.out));(case aS => exact (below_size (bM HB.out)));(case aL => have := aw.out;omega);intro bb bd ho hb hg hat;rw [← ay.out] at ho;replace HB := aK (hb);have az := aK (ho);clear ho hb hg hat))
       go_roundg k2
       case measure => have := aA.out;have := a0.out;omega
       case rel => exact ⟨(ax),(wrap64 (aa + 1)),(by first|rfl|(simp;done)|(simp [*];done)),H',⟨by have := aA.out;have := a0.out;omega⟩,⟨rM az.out⟩,⟨bM HB.out⟩⟩
      ·rw [if_neg c8] at H
       have aJ := decide_eq_false c8
       clear c8
       obtain rfl := Option.some.inj H
       go_wp2
       go_ret
       exact ⟨_,by first|rfl|(simp [errW_none,errW_some] <;> rfl)|(simp [*,errW_none,errW_some] <;> rfl),rM av.out,bM HB.out⟩

/-! ### posting_Or: function 49 -/
def posting_Or.f (k : Nat) (l0 : List Int) (l1 : List Int) : Option (List Int) := (slices_Concat_int_int.f k (([l0, l1] : List (List Int)))).bind fun t138 => ((posting_unique_int.f t138).bind fun t141 => (some t141))
theorem posting_Or.mono : ∀ a0 a1 k, LeO (posting_Or.f k a0 a1) (posting_Or.f (k + 1) a0 a1) := by
 intro a0 a1 k
 unfold posting_Or.f
 repeat' first
  |(with_reducible exact slices_Concat_int_int.mono _ _)
  |(with_reducible exact LeO.refl _)
  |(with_reducible exact LeO.none _)
  |(with_reducible refine LeO.ite ?_ ?_)
  |(with_reducible refine LeO.bind ?_ (fun _ => ?_))
  |exact slices_Concat_int_int.mono _ _
  |exact LeO.none _
  |refine LeO.ite ?_ ?_
  |refine LeO.bind ?_ (fun _ => ?_)
theorem posting_Or.calls (k : Nat) (ah : Nat → Prop) (A0 : Option Addr) (c0 : Nat) (l0 : List Int) (ai : Nat → Prop) (A1 : Option Addr) (c1 : Nat) (l1 : List Int) (r : List Int) (w : World) (aw : Kd.V (Kd.int .i64) 3 w w.heap.size (fun k_ => ah k_) (.slice A0 l0.length c0) l0) (ax : Kd.V (Kd.int .i64) 3 w w.heap.size (fun k_ => ai k_) (.slice A1 l1.length c1) l1) (h : posting_Or.f k l0 l1 = some r) :
  Calls Tryd.prog 49 #[.slice A0 l0.length c0,.slice A1 l1.length c1] w fun e w' => ∃ ap : Value,e = .returned (ap) ∧ Kd.R (Kd.int .i64) 3 w' w.heap.size (fun k_ => (w.heap.size ≤ k_)) ap r ∧ Below w.heap.size w w' := by
 have aq := aK (show Kd.V (Kd.int .i64) 3 w w.heap.size (fun k_ => ((ah k_ ∨ ai k_) ∨ w.heap.size ≤ k_)) (.slice A0 l0.length c0) l0 from Kd.V_mono aw (fun k_ hk => .inl (.inl hk)))
 have ar := aK (show Kd.V (Kd.int .i64) 3 w w.heap.size (fun k_ => ((ah k_ ∨ ai k_) ∨ w.heap.size ≤ k_)) (.slice A1 l1.length c1) l1 from Kd.V_mono ax (fun k_ hk => .inl (.inr hk)))
 have HB := aK (Below.refl w.heap.size w)
 have H : ((slices_Concat_int_int.f k (([l0,l1] : List (List Int)))).bind fun ab => ((posting_unique_int.f ab).bind fun ad => (some ad))) = some r := h
 clear h
 obtain ⟨ak,aa⟩ : ∃ y_ : List (List Int),y_ = (([l0,l1] : List (List Int))) := ⟨_,rfl⟩
 replace H : ((slices_Concat_int_int.f k ak).bind fun ab => ((posting_unique_int.f ab).bind fun ad => (some ad))) = some r := by first|(rw [aa];with_reducible exact H)|(have ao := (Option.bind_some _ _).symm.trans H;rw [aa];with_reducible exact ao)|(have ao := (Option.bind_some _ _).symm.trans H;with_reducible exact ao)|with_reducible exact H|(rw [aa];exact H)|exact H
 have aj := aK aa
 clear aa
 replace H := Option.bind_eq_some_iff.mp H
 obtain ⟨ab,au,H⟩ := H
 have A3 := aK au
 clear au
 replace H := Option.bind_eq_some_iff.mp H
 obtain ⟨ad,av,H⟩ := H
 have A4 := aK av
 clear av
 obtain rfl := Option.some.inj H
 go_enter Tryd.func49,Tryd.ntmps49
 go_wp2_with (first|((with_reducible refine gate_dst (N := 7) rfl ?_);refine Kd.N_lit (Kd.slice 3 (Kd.int .i64)) _ 26 ?hg (N' := 7) ?hd (xs := ([l0,l1] : List (List Int))) (inner := [.slice A0 l0.length c0,.slice A1 l1.length c1]) (ok := (fun k_ => ((ah k_ ∨ ai k_) ∨ w.heap.size ≤ k_))) (okp := (fun k_ => ((ah k_ ∨ ai k_) ∨ w.heap.size ≤ k_))) ?hr ?hp (fun _ hk => hk) ((show ∀ k_,w.heap.size ≤ k_ → (fun k_ => ((ah k_ ∨ ai k_) ∨ w.heap.size ≤ k_)) k_ from fun k_ hk => (.inr (Nat.le_trans (below_size (bM HB.out)) hk))) _ (Nat.le_refl _)) (Below.refl _ _) (Nat.le_refl _) (by simp) ?_;(case hd => rfl);(case hg => rfl);(case hr => first|(go_simp;done)|(go_simp;rfl));(case hp => exact (Reps.one (show Kd.FK (Kd.slice 3 (Kd.int .i64)) _ _ l0 [.slice A0 l0.length c0] from (Kd.FK_slice_mk (Kd.V_reads' (Kd.V_mono (ok' := (fun k_ => ((ah k_ ∨ ai k_) ∨ w.heap.size ≤ k_))) (aq.out) (fun k_ hk => hk))).2.1 (Kd.V_F (Kd.V_mono (ok' := (fun k_ => ((ah k_ ∨ ai k_) ∨ w.heap.size ≤ k_))) (aq.out) (fun k_ hk => hk))))) (Reps.one (show Kd.FK (Kd.slice 3 (Kd.int .i64)) _ _ l1 [.slice A1 l1.length c1] from (Kd.FK_slice_mk (Kd.V_reads' (Kd.V_mono (ok' := (fun k_ => ((ah k_ ∨ ai k_) ∨ w.heap.size ≤ k_))) (ar.out) (fun k_ hk => hk))).2.1 (Kd.V_F (Kd.V_mono (ok' := (fun k_ => ((ah k_ ∨ ai k_) ∨ w.heap.size ≤ k_))) (ar.out) (fun k_ hk => hk))))) (Reps.none _ _))));intro ay w5 al hb hg_ hnew_;clear hg_ hnew_;(first|rw [← aj.out] at al|(simp only [Int.reduceToNat] at al;rw [← aj.out] at al));have ae := aK (Kd.N_lower al (below_size (bM HB.out)));replace HB := aK (below_step (bM HB.out) hb);clear hb al;obtain ⟨az,aA,aB⟩ := Kd.N_slice ae.out;subst aB)|((with_reducible refine gate_callee (f := 56) rfl ?_);refine gL 8 Tryd.func56 #[.slice az ak.length aA] ?_;(with_reducible refine (slices_Concat_int_int.calls k _ _ ak ab _ ?af ?ag A3.out).mono ?_);(case af => exact cM (Kd.N_reads' ae.out).2.2);(case ag => exact (Kd.N_reads' ae.out).2.1);rintro e w8 ⟨aC,rfl,am,hb⟩;refine ⟨_,rfl,?_⟩;have ac := aK (Kd.R_lower (Kd.R_newM (M := fun k_ => (w.heap.size ≤ k_)) am (below_size (bM HB.out)) (fun k_ h_ => h_)) (below_size (bM HB.out)));replace HB := aK (below_step (bM HB.out) hb);(try clear hb);(try clear hk);(try clear am);obtain ⟨aD,aE,aF⟩ := Kd.R_slice ac.out;subst aF)|((with_reducible refine gate_callee (f := 55) rfl ?_);refine gL 9 Tryd.func55 #[.slice aD ab.length aE] ?_;(with_reducible refine (posting_unique_int.calls _ _ ab ad _ ?af ?ag A4.out).mono ?_);(case af => exact cM (Kd.R_reads' ac.out).2.2);(case ag => exact (Kd.R_reads' ac.out).2.1);rintro e aH ⟨aG,rfl,am,hb⟩;refine ⟨_,rfl,?_⟩;have an := aK (Kd.R_lower (Kd.R_new' (Kd.R_newM (M := fun k_ => (w.heap.size ≤ k_)) am (below_size (bM HB.out)) (fun k_ h_ => h_)) (Kd.R_lt (rM ac.out))) (below_size (bM HB.out)));replace HB := aK (below_step (bM HB.out) hb);(try clear hb);(try clear hk);(try clear am)))
 go_ret
 exact ⟨_,by first|rfl|(simp [errW_none,errW_some] <;> rfl)|(simp [*,errW_none,errW_some] <;> rfl),by refine rO ?_;exact Kd.R_mono an.out (fun _ hk => hk.1.1),bM HB.out⟩

/-! ### posting_Minus: function 50 (by hand) -/
def posting_Minus.f (l0 l1 : List Int) : Option (List Int) := if l0.length < 1000000000 then if l1.length < 1000000000 then some ((uniq l0).filter fun x => !(uniq l1).contains x) else none else none
theorem posting_Minus.calls (A0 : Option Addr) (c0 : Nat) (l0 : List Int) (A1 : Option Addr) (c1 : Nat) (l1 : List Int) (r : List Int) (w : World) (ab : Kd.C (Kd.int .i64) w A0 l0.length l0) (ac : l0.length ≤ c0) (ad : Kd.C (Kd.int .i64) w A1 l1.length l1) (ae : l1.length ≤ c1) (h : posting_Minus.f l0 l1 = some r) :
    Calls Tryd.prog 50 #[.slice A0 l0.length c0, .slice A1 l1.length c1] w fun e w' => ∃ af : Value, e = .returned (af) ∧ Kd.R (Kd.int .i64) 3 w' w.heap.size (fun _ => True) af r ∧ Below w.heap.size w w' := by
  unfold posting_Minus.f at h
  split at h
  case isFalse => cases h
  rename_i ag
  split at h
  case isFalse => cases h
  rename_i ah
  obtain rfl := Option.some.inj h
  clear h
  have hcl := aK (posting_unique_int.calls A0 c0 l0 (uniq l0) w ab ac (by simp [posting_unique_int.f]; omega))
  have H1 := aK (And.intro ad (And.intro ae (And.intro ag ah)))
  clear ab ac ad ae ag ah
  go_enter Tryd.func50, Tryd.ntmps50
  go_wp2_with fail
  go_at_call 55
  refine hcl.out.mono ?_
  rintro e w1 ⟨v, rfl, hR, hB⟩
  clear hcl
  obtain ⟨A, c, rfl⟩ := Kd.R_slice hR
  have hin := aK (in_calls A1 c1 l1 w1 (Kd.C_below H1.out.1 hB) H1.out.2.1 H1.out.2.2.2)
  have HR := aK hR
  have HB := aK hB
  clear hR hB
  go_wp2_with fail
  go_at_call 58
  refine hin.out.mono ?_
  rintro e w2 ⟨B, rfl, hbx, aa⟩
  clear hin
  have ai := Kd.R_below HR.out aa
  have ho := Kd.own_of_R ai
  have hown := Kd.own_of_R HR.out
  have aj := below_then HB.out HB.out.size aa
  have hd := aK (del_row (fun x => (uniq l1).contains x) 67 #[.pointer (some ⟨B, 0, none⟩)] (enters_of Tryd.func67 (by kernel_rfl) rfl) ho aj (by have := uniq_len l0; have := H1.out.2.2.1; omega)
    (fun W' hs hc x => in1_gives (hbx.same hs (fun a h1 h2 => hc a h2 (fun e => by have := own_lt hown a.block e.symm; omega))).set (uniq_srt l1) (by have := uniq_len l1; have := H1.out.2.2.2; omega) x))
  clear hbx aa HB HR ai ho hown aj H1
  go_wp2_with fail
  go_at_call 57
  refine hd.out.mono ?_
  rintro e w3 ⟨v', rfl, hR, hB⟩
  clear hd
  have HR := aK hR
  have HB := aK hB
  clear hR hB
  go_wp2
  go_ret
  exact ⟨_, rfl, HR.out, HB.out⟩

end Go.Proofs.YtmgliocboeifdaaDoor.K
