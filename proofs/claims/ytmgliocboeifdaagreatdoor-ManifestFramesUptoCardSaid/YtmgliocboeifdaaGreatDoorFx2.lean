import Derived.Test.YtmgliocboeifdaaGreatDoorFx0
import Derived.Test.YtmgliocboeifdaaGreatDoorFx1
namespace Go.Proofs.YtmgliocboeifdaaGreatDoor.F
open Go.RowKit Go.Proofs.YtmgliocboeifdaaGreatDoorW.PrintWords Go.Proofs.YtmgliocboeifdaaGreatDoorW.PrintLast Go.Proofs.YtmgliocboeifdaaGreatDoorW.PrintMore
set_option maxHeartbeats 4000000
set_option maxRecDepth 100000
attribute [local go_sem] max2_int min2_int max_two min_two max_three min_three max_four min_four
set_option linter.unusedVariables false
set_option linter.unusedSimpArgs false
mutual
def varint_GetList.l0 : Nat → List Int → Int → List Int → Int → Int → Int → Option (List Int × Int × Int)
|0,_,_,_,_,_,_ => none
|k + 1,x0,ae,ac,af,ad,ab => if ab < ad then ((varint_Get.f k x0 ae).bind fun aa => (if aa.2.2 = 0 then (if ab > 0 then (varint_GetList.j1 k x0 ac af aa.1 aa.2.1 ad ab (aa.1 == 0)) else (varint_GetList.j1 k x0 ac af aa.1 aa.2.1 ad ab false)) else (some (([] : List Int),0,aa.2.2)))) else (some (ac,ae,0))
def varint_GetList.j1 : Nat → List Int → List Int → Int → Int → Int → Int → Int → Bool → Option (List Int × Int × Int)
|0,_,_,_,_,_,_,_,_ => none
|k + 1,x0,ac,aa,ab,ad,ae,af,ag => if ag = true then (some (([] : List Int),0,3)) else (if ab > (wrap64 (4611686018427387904 - aa)) then (some (([] : List Int),0,4)) else (if ac.length < 17592186044416 then (varint_GetList.l0 k x0 ad (ac ++ [wrap64 (aa + ab)]) (wrap64 (aa + ab)) ae (wrap64 (af + 1))) else (none)))
end
def varint_GetList.f (k : Nat) (l0 : List Int) (a1 : Int) (a2 : Int) : Option (List Int × Int × Int) := (varint_Get.f k l0 a1).bind fun aa => (if aa.2.2 = 0 then (if aa.1 > a2 then (some (([] : List Int), 0, 4)) else (varint_GetList.l0 k l0 aa.2.1 ([] : List Int) 0 aa.1 0)) else (some (([] : List Int), 0, aa.2.2)))
theorem varint_GetList.mono_l : ∀ k, (∀ y0 y1 y2 y3 y4 y5, LeO (varint_GetList.l0 k y0 y1 y2 y3 y4 y5) (varint_GetList.l0 (k + 1) y0 y1 y2 y3 y4 y5)) ∧ (∀ y0 y1 y2 y3 y4 y5 y6 y7, LeO (varint_GetList.j1 k y0 y1 y2 y3 y4 y5 y6 y7) (varint_GetList.j1 (k + 1) y0 y1 y2 y3 y4 y5 y6 y7))
|0 => ⟨fun _ _ _ _ _ _ r h => by simp [varint_GetList.l0] at h,fun _ _ _ _ _ _ _ _ r h => by simp [varint_GetList.j1] at h⟩
|k + 1 => by
  obtain ⟨ih0,ih1⟩ := varint_GetList.mono_l k
  refine ⟨?_,?_⟩
  ·intro y0 y1 y2 y3 y4 y5
   unfold varint_GetList.l0
   repeat' (with_reducible first|exact ih1 _ _ _ _ _ _ _ _|exact varint_Get.mono _ _ _|exact LeO.refl _|exact LeO.none _|refine LeO.ite ?_ ?_|refine LeO.bind ?_ (fun _ => ?_))
  ·intro y0 y1 y2 y3 y4 y5 y6 y7
   unfold varint_GetList.j1
   repeat' (with_reducible first|exact ih0 _ _ _ _ _ _|exact LeO.refl _|exact LeO.none _|refine LeO.ite ?_ ?_|refine LeO.bind ?_ (fun _ => ?_))
theorem varint_GetList.mono : ∀ a0 a1 a2 k, LeO (varint_GetList.f k a0 a1 a2) (varint_GetList.f (k + 1) a0 a1 a2) := by
 intro a0 a1 a2 k
 obtain ⟨ih0,ih1⟩ := varint_GetList.mono_l k
 unfold varint_GetList.f
 repeat' (with_reducible first|exact ih0 _ _ _ _ _ _|exact ih1 _ _ _ _ _ _ _ _|exact varint_Get.mono _ _ _|exact LeO.refl _|exact LeO.none _|refine LeO.ite ?_ ?_|refine LeO.bind ?_ (fun _ => ?_))
theorem varint_GetList.calls (k : Nat) (A0 : Option Addr) (c0 : Nat) (l0 : List Int) (a1 : Int) (a2 : Int) (r1 : List Int) (r2 : Int) (r3 : Int) (w : World) (aT : Kd.C (Kd.int .u8) w A0 l0.length l0) (aU : l0.length ≤ c0) (h : varint_GetList.f k l0 a1 a2 = some (r1, r2, r3)) :
  Calls Tryz.prog 35 #[.slice A0 l0.length c0,.int .i64 a1,.int .i64 a2] w fun e w' => ∃ aV : Value,e = .returned (.tuple #[aV,.int .i64 r2,.int .i64 r3]) ∧ Kd.R (Kd.int .i64) 3 w' w.heap.size (fun _ => True) aV r1 ∧ Below w.heap.size w w' := by
 have aw := aK aT
 have ax := aK aU
 clear aT aU
 have HB := aK (Below.refl w.heap.size w)
 have H : ((varint_Get.f k l0 a1).bind fun ai => (if ai.2.2 = 0 then (if ai.1 > a2 then (some (([] : List Int),0,4)) else (varint_GetList.l0 k l0 ai.2.1 ([] : List Int) 0 ai.1 0)) else (some (([] : List Int),0,ai.2.2)))) = some (r1,r2,r3) := h
 clear h
 replace H := Option.bind_eq_some_iff.mp H
 obtain ⟨⟨ag,ap,ao⟩,aW,H⟩ := H
 replace H : (if ao = 0 then (if ag > a2 then (some (([] : List Int),0,4)) else (varint_GetList.l0 k l0 ap ([] : List Int) 0 ag 0)) else (some (([] : List Int),0,ao))) = some (r1,r2,r3) := H
 have A4 := aK aW
 clear aW
 by_cases c5 : ao = 0
 ·rw [if_pos c5] at H
  have ay := beq_iff_eq.mpr c5
  have az := bne_eq_false_iff_eq.mpr c5
  clear c5
  by_cases c6 : ag > a2
  ·rw [if_pos c6] at H
   have aA := decide_eq_true c6
   clear c6
   simp only [Option.some.injEq,Prod.mk.injEq] at H
   obtain ⟨rfl,rfl,rfl⟩ := H
   go_enter Tryz.func35,Tryz.ntmps35
   go_wp2_with (first|((with_reducible refine gate_callee (f := 32) rfl ?_);refine gL 21 Tryz.func32 #[.slice A0 l0.length c0,.int .i64 a1] ?_;(with_reducible refine (varint_Get.calls k _ _ l0 a1 ag ap ao _ ?ac ?ad A4.out).mono ?_);(case ac => exact cM aw.out);(case ad => exact ax.out);rintro e w' ⟨rfl,⟨nd,rfl⟩⟩;refine ⟨_,rfl,?_⟩))
   go_ret3
   exact ⟨_,by first|rfl|(simp [errW_none,errW_some] <;> rfl)|(simp [*,errW_none,errW_some] <;> rfl),by first|exact Kd.R_nil _ _ _ _ _|exact Kd.N_nil _ _ _ _ _|exact Kd.V_nil _ _ _ _ _|exact Kd.Q_nil _ _ _ _ _|exact Kd.S_nil _ _ _ _ _,bM HB.out⟩
  ·rw [if_neg c6] at H
   have aA := decide_eq_false c6
   clear c6
   have H' := aK H
   clear H
   go_enter Tryz.func35,Tryz.ntmps35
   go_wp2_with (first|((with_reducible refine gate_callee (f := 32) rfl ?_);refine gL 21 Tryz.func32 #[.slice A0 l0.length c0,.int .i64 a1] ?_;(with_reducible refine (varint_Get.calls k _ _ l0 a1 ag ap ao _ ?ac ?ad A4.out).mono ?_);(case ac => exact cM aw.out);(case ad => exact ax.out);rintro e w' ⟨rfl,⟨nd,rfl⟩⟩;refine ⟨_,rfl,?_⟩))
   go_loopg [10,12,13,32] k (fun kq a0 a3 a4 a5 w' => ∃ (ah : Int) (ae : List Int) (aa : Int) (ab : Int),a0 = .int .i64 ah ∧ a4 = .int .i64 aa ∧ a5 = .int .i64 ab ∧ Aside0 (varint_GetList.l0 kq l0 ah ae aa ag ab = some (r1,r2,r3)) ∧ Aside0 (kq ≤ k) ∧ Aside0 (Kd.R (Kd.int .i64) 3 w' w.heap.size (fun _ => True) a3 ae) ∧ Aside0 (Below w.heap.size w w'))
   case atStart => exact ⟨(ap),(([] : List Int)),(0),(0),(by first|rfl|(simp;done)|(simp [*];done)),(by first|rfl|(simp;done)|(simp [*];done)),(by first|rfl|(simp;done)|(simp [*];done)),H',⟨Nat.le_refl _⟩,⟨by first|exact Kd.R_nil _ _ _ _ _|exact Kd.N_nil _ _ _ _ _|exact Kd.V_nil _ _ _ _ _|exact Kd.Q_nil _ _ _ _ _|exact Kd.S_nil _ _ _ _ _⟩,⟨bM HB.out⟩⟩
   case round =>
    clear H'
    try clear p2
    try clear c5
    try clear ay
    try clear az
    try clear c6
    try clear aA
    obtain ⟨ah,ae,aa,ab,rfl,rfl,rfl,HA,aN,aj,HB⟩ := hrel
    cases gk with
   |zero => exact absurd HA.out (by simp [varint_GetList.l0])
   |succ k1 =>
     have H := HA.out
     clear HA
     simp only [varint_GetList.l0] at H
     by_cases c7 : ab < ag
     ·rw [if_pos c7] at H
      have aC := decide_eq_true c7
      clear c7
      replace H := Option.bind_eq_some_iff.mp H
      obtain ⟨⟨af,am,aq⟩,aX,H⟩ := H
      replace H : (if aq = 0 then (if ab > 0 then (varint_GetList.j1 k1 l0 ae aa af am ag ab (af == 0)) else (varint_GetList.j1 k1 l0 ae aa af am ag ab false)) else (some (([] : List Int),0,aq))) = some (r1,r2,r3) := H
      have A8 := aK aX
      clear aX
      by_cases c9 : aq = 0
      ·rw [if_pos c9] at H
       have aD := beq_iff_eq.mpr c9
       have aE := bne_eq_false_iff_eq.mpr c9
       clear c9
       have ar := aK H
       clear H
       go_upto_region 14 with (first|((with_reducible refine gate_callee (f := 32) rfl ?_);refine gL 38 Tryz.func32 #[.slice A0 l0.length c0,.int .i64 ah] ?_;(with_reducible refine (varint_Get.calls k1 _ _ l0 ah af am aq _ ?ac ?ad A8.out).mono ?_);(case ac => exact cM (Kd.C_below aw.out HB.out));(case ad => exact ax.out);rintro e w' ⟨rfl,⟨nd,rfl⟩⟩;refine ⟨_,rfl,?_⟩))
       (try simp only [Act.put,z1_,z2_,z3_])
       go_cut [50] (fun a6 wc => ∃ (kq : Nat) (an : Bool),a6 = .bool an ∧ Aside0 (varint_GetList.j1 kq l0 ae aa af am ag ab an = some (r1,r2,r3)) ∧ Aside0 (kq ≤ k1) ∧ Aside0 (Kd.R (Kd.int .i64) 3 wc w.heap.size (fun _ => True) u12 ae) ∧ Aside0 (Below w.heap.size w wc))
       case first =>
        have H := ar.out
        clear ar
        by_cases au : ab > 0
        ·rw [if_pos au] at H
         have ak := decide_eq_true au
         clear au
         (first|rw [ak]|(simp only [i64_w,i32_w];rw [ak])|rw [c11b1]|skip)
         have H' := aK H
         clear H
         go_wp2
         go_meet
         case rel => exact ⟨_,((af == 0)),(by first|rfl|(simp;done)|(simp [*];done)),H',⟨by have := aN.out;first|omega|exact Nat.le_refl _⟩,⟨rM aj.out⟩,⟨bM HB.out⟩⟩
        ·rw [if_neg au] at H
         have ak := decide_eq_false au
         clear au
         (first|rw [ak]|(simp only [i64_w,i32_w];rw [ak])|rw [c11b1]|skip)
         have H' := aK H
         clear H
         go_wp2
         go_meet
         case rel => exact ⟨_,(false),(by first|rfl|(simp;done)|(simp [*];done)),H',⟨by have := aN.out;first|omega|exact Nat.le_refl _⟩,⟨rM aj.out⟩,⟨bM HB.out⟩⟩
       case rest =>
        clear ar
        try clear p2
        try clear c7
        try clear aC
        try clear c9
        try clear aD
        try clear aE
        try clear p2
        obtain ⟨kq,an,rfl,HA,aY,aj,HB⟩ := hcut
        cases kq with
       |zero => exact absurd HA.out (by simp [varint_GetList.j1])
       |succ kj9 =>
         have H := HA.out
         clear HA
         simp only [varint_GetList.j1] at H
         by_cases aQ : an = true
         ·subst aQ
          rw [if_pos rfl] at H
          simp only [Option.some.injEq,Prod.mk.injEq] at H
          obtain ⟨rfl,rfl,rfl⟩ := H
          go_wp2
          go_ret3
          exact ⟨_,by first|rfl|(simp [errW_none,errW_some] <;> rfl)|(simp [*,errW_none,errW_some] <;> rfl),by first|exact Kd.R_nil _ _ _ _ _|exact Kd.N_nil _ _ _ _ _|exact Kd.V_nil _ _ _ _ _|exact Kd.Q_nil _ _ _ _ _|exact Kd.S_nil _ _ _ _ _,bM HB.out⟩
         ·replace aQ := Bool.eq_false_iff.mpr aQ
          subst aQ
          rw [if_neg (show ¬ (false = true) by decide)] at H
          by_cases av : af > (wrap64 (4611686018427387904 - aa))
          ·rw [if_pos av] at H
           have aG := decide_eq_true av
           clear av
           simp only [Option.some.injEq,Prod.mk.injEq] at H
           obtain ⟨rfl,rfl,rfl⟩ := H
           go_wp2
           go_ret3
           exact ⟨_,by first|rfl|(simp [errW_none,errW_some] <;> rfl)|(simp [*,errW_none,errW_some] <;> rfl),by first|exact Kd.R_nil _ _ _ _ _|exact Kd.N_nil _ _ _ _ _|exact Kd.V_nil _ _ _ _ _|exact Kd.Q_nil _ _ _ _ _|exact Kd.S_nil _ _ _ _ _,bM HB.out⟩
          ·rw [if_neg av] at H
           have aG := decide_eq_false av
           clear av
           obtain ⟨aZ,H⟩ := iS H
           have aH := aK aZ
           clear aZ
           obtain ⟨aI,al⟩ : ∃ y_ : List Int,y_ = (ae ++ [wrap64 (aa + af)]) := ⟨_,rfl⟩
           replace H : (varint_GetList.l0 kj9 l0 am aI (wrap64 (aa + af)) ag (wrap64 (ab + 1))) = some (r1,r2,r3) := by first|(rw [al];with_reducible exact H)|(have aR := (Option.bind_some _ _).symm.trans H;rw [al];with_reducible exact aR)|(have aR := (Option.bind_some _ _).symm.trans H;with_reducible exact aR)|with_reducible exact H|(rw [al];exact H)|exact H
           have aJ := aK al
           clear al
           have H' := aK H
           clear H
           go_wp2_with (first|((with_reducible refine gate_builtin (b := .append) (xs := #[.tmp 58,.tmp 60]) rfl ?_);at_builtin;refine Kd.R_append (Kd.int .i64) (w0 := w) w.heap.size rfl (.tmp 58) (.tmp 60) 27 3 (.int .i64 0) 8 rfl Tryz.underlying27 info3 rfl (by decide) (by omega) u12 ae (wrap64 (aa + af)) [.int .i64 (wrap64 (aa + af))] (fun _ => True) (fun _ => False) rfl rfl ?aP (fun _ hk => hk.elim) ?aF ?aO ?aB ?aS ?aL ?_;(case aP => exact rfl);(case aB => exact (bM HB.out));(case aF => exact (fun _ _ => trivial));(case aO => exact (rM aj.out));(case aS => exact (below_size (bM HB.out)));(case aL => have := aH.out;omega);intro a7 a8 ho hb hg hat;rw [← aJ.out] at ho;replace HB := aK (hb);have aM := aK (ho);clear ho hb hg hat))
           go_roundg kj9
           case measure => have := aN.out;have := aY.out;omega
           case rel => exact ⟨(am),(aI),(wrap64 (aa + af)),(wrap64 (ab + 1)),(by first|rfl|(simp;done)|(simp [*];done)),(by first|rfl|(simp;done)|(simp [*];done)),(by first|rfl|(simp;done)|(simp [*];done)),H',⟨by have := aN.out;have := aY.out;omega⟩,⟨rM aM.out⟩,⟨bM HB.out⟩⟩
      ·rw [if_neg c9] at H
       have aD := beq_eq_false_iff_ne.mpr c9
       have aE := bne_iff_ne.mpr c9
       simp only [Option.some.injEq,Prod.mk.injEq] at H
       obtain ⟨rfl,rfl,rfl⟩ := H
       go_wp2_with (first|((with_reducible refine gate_callee (f := 32) rfl ?_);refine gL 38 Tryz.func32 #[.slice A0 l0.length c0,.int .i64 ah] ?_;(with_reducible refine (varint_Get.calls k1 _ _ l0 ah af am aq _ ?ac ?ad A8.out).mono ?_);(case ac => exact cM (Kd.C_below aw.out HB.out));(case ad => exact ax.out);rintro e w' ⟨rfl,⟨nd,rfl⟩⟩;refine ⟨_,rfl,?_⟩))
       go_ret3
       exact ⟨_,by first|rfl|(simp [errW_none,errW_some] <;> rfl)|(simp [*,errW_none,errW_some] <;> rfl),by first|exact Kd.R_nil _ _ _ _ _|exact Kd.N_nil _ _ _ _ _|exact Kd.V_nil _ _ _ _ _|exact Kd.Q_nil _ _ _ _ _|exact Kd.S_nil _ _ _ _ _,bM HB.out⟩
     ·rw [if_neg c7] at H
      have aC := decide_eq_false c7
      clear c7
      simp only [Option.some.injEq,Prod.mk.injEq] at H
      obtain ⟨rfl,rfl,rfl⟩ := H
      go_wp2
      go_ret3
      exact ⟨_,by first|rfl|(simp [errW_none,errW_some] <;> rfl)|(simp [*,errW_none,errW_some] <;> rfl),rM aj.out,bM HB.out⟩
 ·rw [if_neg c5] at H
  have ay := beq_eq_false_iff_ne.mpr c5
  have az := bne_iff_ne.mpr c5
  simp only [Option.some.injEq,Prod.mk.injEq] at H
  obtain ⟨rfl,rfl,rfl⟩ := H
  go_enter Tryz.func35,Tryz.ntmps35
  go_wp2_with (first|((with_reducible refine gate_callee (f := 32) rfl ?_);refine gL 21 Tryz.func32 #[.slice A0 l0.length c0,.int .i64 a1] ?_;(with_reducible refine (varint_Get.calls k _ _ l0 a1 ag ap ao _ ?ac ?ad A4.out).mono ?_);(case ac => exact cM aw.out);(case ad => exact ax.out);rintro e w' ⟨rfl,⟨nd,rfl⟩⟩;refine ⟨_,rfl,?_⟩))
  go_ret3
  exact ⟨_,by first|rfl|(simp [errW_none,errW_some] <;> rfl)|(simp [*,errW_none,errW_some] <;> rfl),by first|exact Kd.R_nil _ _ _ _ _|exact Kd.N_nil _ _ _ _ _|exact Kd.V_nil _ _ _ _ _|exact Kd.Q_nil _ _ _ _ _|exact Kd.S_nil _ _ _ _ _,bM HB.out⟩
def varint_GetString.f (k : Nat) (l0 : List Int) (a1 : Int) (a2 : Int) : Option (ByteArray × Int × Int) := (varint_Get.f k l0 a1).bind fun aa => (if aa.2.2 = 0 then (if aa.1 > a2 then (some ((⟨#[]⟩ : ByteArray), 0, 4)) else (if (wrap64 ((l0.length : Int) - aa.2.1)) < aa.1 then (some ((⟨#[]⟩ : ByteArray), 0, 5)) else (if 0 ≤ aa.2.1 then (if aa.2.1 ≤ (wrap64 (aa.2.1 + aa.1)) then (if (wrap64 (aa.2.1 + aa.1)) ≤ (l0.length : Int) then (some (strOfNums ((l0.take ((wrap64 (aa.2.1 + aa.1)) : Int).toNat).drop (aa.2.1 : Int).toNat), wrap64 (aa.2.1 + aa.1), 0)) else (none)) else (none)) else (none)))) else (some ((⟨#[]⟩ : ByteArray), 0, aa.2.2)))
theorem varint_GetString.mono : ∀ a0 a1 a2 k, LeO (varint_GetString.f k a0 a1 a2) (varint_GetString.f (k + 1) a0 a1 a2) := by
 intro a0 a1 a2 k
 unfold varint_GetString.f
 repeat' (with_reducible first|exact varint_Get.mono _ _ _|exact LeO.refl _|exact LeO.none _|refine LeO.ite ?_ ?_|refine LeO.bind ?_ (fun _ => ?_))
theorem varint_GetString.calls (k : Nat) (A0 : Option Addr) (c0 : Nat) (l0 : List Int) (a1 : Int) (a2 : Int) (r1 : ByteArray) (r2 : Int) (r3 : Int) (w : World) (az : Kd.C (Kd.int .u8) w A0 l0.length l0) (aA : l0.length ≤ c0) (h : varint_GetString.f k l0 a1 a2 = some (r1, r2, r3)) :
  Calls Tryz.prog 37 #[.slice A0 l0.length c0,.int .i64 a1,.int .i64 a2] w fun e w' => e = .returned (.tuple #[.string r1,.int .i64 r2,.int .i64 r3]) ∧ Drawn0 w w' := by
 have am := aK az
 have an := aK aA
 clear az aA
 have H : ((varint_Get.f k l0 a1).bind fun aa => (if aa.2.2 = 0 then (if aa.1 > a2 then (some ((⟨#[]⟩ : ByteArray),0,4)) else (if (wrap64 ((l0.length : Int) - aa.2.1)) < aa.1 then (some ((⟨#[]⟩ : ByteArray),0,5)) else (if 0 ≤ aa.2.1 then (if aa.2.1 ≤ (wrap64 (aa.2.1 + aa.1)) then (if (wrap64 (aa.2.1 + aa.1)) ≤ (l0.length : Int) then (some (strOfNums ((l0.take ((wrap64 (aa.2.1 + aa.1)) : Int).toNat).drop (aa.2.1 : Int).toNat),wrap64 (aa.2.1 + aa.1),0)) else (none)) else (none)) else (none)))) else (some ((⟨#[]⟩ : ByteArray),0,aa.2.2)))) = some (r1,r2,r3) := h
 clear h
 replace H := Option.bind_eq_some_iff.mp H
 obtain ⟨⟨ac,ab,af⟩,aB,H⟩ := H
 replace H : (if af = 0 then (if ac > a2 then (some ((⟨#[]⟩ : ByteArray),0,4)) else (if (wrap64 ((l0.length : Int) - ab)) < ac then (some ((⟨#[]⟩ : ByteArray),0,5)) else (if 0 ≤ ab then (if ab ≤ (wrap64 (ab + ac)) then (if (wrap64 (ab + ac)) ≤ (l0.length : Int) then (some (strOfNums ((l0.take ((wrap64 (ab + ac)) : Int).toNat).drop (ab : Int).toNat),wrap64 (ab + ac),0)) else (none)) else (none)) else (none)))) else (some ((⟨#[]⟩ : ByteArray),0,af))) = some (r1,r2,r3) := H
 have A4 := aK aB
 clear aB
 by_cases c5 : af = 0
 ·rw [if_pos c5] at H
  have au := beq_iff_eq.mpr c5
  have av := bne_eq_false_iff_eq.mpr c5
  clear c5
  by_cases c6 : ac > a2
  ·rw [if_pos c6] at H
   have aw := decide_eq_true c6
   clear c6
   simp only [Option.some.injEq,Prod.mk.injEq] at H
   obtain ⟨rfl,rfl,rfl⟩ := H
   go_enter Tryz.func37,Tryz.ntmps37
   go_wp2_with (first|((with_reducible refine gate_callee (f := 32) rfl ?_);refine gL 15 Tryz.func32 #[.slice A0 l0.length c0,.int .i64 a1] ?_;(with_reducible refine (varint_Get.calls k _ _ l0 a1 ac ab af _ ?ad ?ae A4.out).mono ?_);(case ad => exact cM am.out);(case ae => exact an.out);rintro e w' ⟨rfl,⟨nd,rfl⟩⟩;refine ⟨_,rfl,?_⟩))
   go_ret3
   exact ⟨by first|rfl|(simp;done)|(simp [*];done),by repeat (first|exact Drawn0.refl _|apply Drawn0.step)⟩
  ·rw [if_neg c6] at H
   have aw := decide_eq_false c6
   clear c6
   by_cases c7 : (wrap64 ((l0.length : Int) - ab)) < ac
   ·rw [if_pos c7] at H
    have ax := decide_eq_true c7
    clear c7
    simp only [Option.some.injEq,Prod.mk.injEq] at H
    obtain ⟨rfl,rfl,rfl⟩ := H
    go_enter Tryz.func37,Tryz.ntmps37
    go_wp2_with (first|((with_reducible refine gate_callee (f := 32) rfl ?_);refine gL 15 Tryz.func32 #[.slice A0 l0.length c0,.int .i64 a1] ?_;(with_reducible refine (varint_Get.calls k _ _ l0 a1 ac ab af _ ?ad ?ae A4.out).mono ?_);(case ad => exact cM am.out);(case ae => exact an.out);rintro e w' ⟨rfl,⟨nd,rfl⟩⟩;refine ⟨_,rfl,?_⟩))
    go_ret3
    exact ⟨by first|rfl|(simp;done)|(simp [*];done),by repeat (first|exact Drawn0.refl _|apply Drawn0.step)⟩
   ·rw [if_neg c7] at H
    have ax := decide_eq_false c7
    clear c7
    obtain ⟨c8,H⟩ := iS H
    have aG := eq_true c8
    have aH := decide_eq_true c8
    clear c8
    obtain ⟨c9,H⟩ := iS H
    have aI := eq_true c9
    have aJ := decide_eq_true c9
    obtain ⟨c10,H⟩ := iS H
    have aC := eq_true c10
    have aD := decide_eq_true c10
    simp only [Option.some.injEq,Prod.mk.injEq] at H
    obtain ⟨rfl,rfl,rfl⟩ := H
    go_enter Tryz.func37,Tryz.ntmps37
    go_wp2_with (first|((with_reducible refine gate_callee (f := 32) rfl ?_);refine gL 15 Tryz.func32 #[.slice A0 l0.length c0,.int .i64 a1] ?_;(with_reducible refine (varint_Get.calls k _ _ l0 a1 ac ab af _ ?ad ?ae A4.out).mono ?_);(case ad => exact cM am.out);(case ae => exact an.out);rintro e w' ⟨rfl,⟨nd,rfl⟩⟩;refine ⟨_,rfl,?_⟩;obtain ⟨aL,ag,_,ah,_⟩ := info_parts info5;obtain ⟨aE,ay,ao,ap⟩ := print_mid_of (P := Tryz.prog) (Value.int .u8) 0 31 5 .i64 .i64 Tryz.underlying31 ag ah A0 c0 l0 ab (wrap64 (ab + ac)) (dA) (by first|omega|exact dA) (dA) an.out;have ai := aK (Kd.C_of_reads (h1 := fun _ => rfl) (ao _ (Kd.reads_of_C am.out)));have aF := aK ap;clear ao ap ag ah;have aq := Kd.C_string (P := Tryz.prog) (A := aE) (c := (c0 - ab.toNat)) Tryz.underlying31 Tryz.underlying5 Tryz.underlying9 ai.out;have aj := fun n_ : Nat => Kd.C_string (P := Tryz.prog) (A := aE) (c := (c0 - ab.toNat)) Tryz.underlying31 Tryz.underlying5 Tryz.underlying9 (Kd.C_drewN ai.out n_);(try (have ar : ((l0.take ((wrap64 (ab + ac)) : Int).toNat).drop (ab : Int).toNat).length = ((wrap64 (ab + ac)) : Int).toNat - (ab : Int).toNat := (by rw [z7_,z8_,Nat.min_eq_left (by simp only [decide_eq_true_eq,eq_iff_iff,iff_true] at *;omega)]);have ak := aq;have al := aj;simp only [ar] at ak al;clear ar))))
    go_ret3
    exact ⟨by first|rfl|(simp;done)|(simp [*];done),by repeat (first|exact Drawn0.refl _|apply Drawn0.step)⟩
 ·rw [if_neg c5] at H
  have au := beq_eq_false_iff_ne.mpr c5
  have av := bne_iff_ne.mpr c5
  simp only [Option.some.injEq,Prod.mk.injEq] at H
  obtain ⟨rfl,rfl,rfl⟩ := H
  go_enter Tryz.func37,Tryz.ntmps37
  go_wp2_with (first|((with_reducible refine gate_callee (f := 32) rfl ?_);refine gL 15 Tryz.func32 #[.slice A0 l0.length c0,.int .i64 a1] ?_;(with_reducible refine (varint_Get.calls k _ _ l0 a1 ac ab af _ ?ad ?ae A4.out).mono ?_);(case ad => exact cM am.out);(case ae => exact an.out);rintro e w' ⟨rfl,⟨nd,rfl⟩⟩;refine ⟨_,rfl,?_⟩))
  go_ret3
  exact ⟨by first|rfl|(simp;done)|(simp [*];done),by repeat (first|exact Drawn0.refl _|apply Drawn0.step)⟩
def posting_Valid.l0 : Nat → List Int → List Int → Int → Int → Option (Bool)
|0,_,_,_,_ => none
|k + 1,x0,x5,x6,x7 => if x7 < x6 then (if 0 ≤ x7 then (if x7 < (x5.length : Int) then (if (rd x5 x7) < 0 then (some false) else (if (rd x5 x7) > 9999 then (some false) else (if x7 > 0 then (if 0 ≤ (wrap64 (x7 - 1)) then (if (wrap64 (x7 - 1)) < (x0.length : Int) then (if (rd x5 x7) ≤ (rd x0 (wrap64 (x7 - 1))) then (some false) else (posting_Valid.l0 k x0 x5 x6 (wrap64 (x7 + 1)))) else (none)) else (none)) else (posting_Valid.l0 k x0 x5 x6 (wrap64 (x7 + 1)))))) else (none)) else (none)) else (some true)
def posting_Valid.f (k : Nat) (l0 : List Int) : Option (Bool) := posting_Valid.l0 k l0 l0 (l0.length : Int) 0
theorem posting_Valid.mono_l : ∀ k, (∀ y0 y1 y2 y3, LeO (posting_Valid.l0 k y0 y1 y2 y3) (posting_Valid.l0 (k + 1) y0 y1 y2 y3))
|0 => fun _ _ _ _ r h => by simp [posting_Valid.l0] at h
|k + 1 => by
  have ih0 := posting_Valid.mono_l k
  ·intro y0 y1 y2 y3
   unfold posting_Valid.l0
   repeat' (with_reducible first|exact ih0 _ _ _ _|exact LeO.refl _|exact LeO.none _|refine LeO.ite ?_ ?_|refine LeO.bind ?_ (fun _ => ?_))
theorem posting_Valid.mono : ∀ a0 k, LeO (posting_Valid.f k a0) (posting_Valid.f (k + 1) a0) := by
 intro a0 k
 have ih0 := posting_Valid.mono_l k
 unfold posting_Valid.f
 repeat' (with_reducible first|exact ih0 _ _ _ _|exact LeO.refl _|exact LeO.none _|refine LeO.ite ?_ ?_|refine LeO.bind ?_ (fun _ => ?_))
theorem posting_Valid.calls (k : Nat) (A0 : Option Addr) (c0 : Nat) (l0 : List Int) (r : Bool) (w : World) (ax : Kd.C (Kd.int .i64) w A0 l0.length l0) (ay : l0.length ≤ c0) (h : posting_Valid.f k l0 = some r) :
  Calls Tryz.prog 66 #[.slice A0 l0.length c0] w fun e w' => e = .returned (.bool r) ∧ Drawn0 w w' := by
 have am := aK ax
 have aE := aK ay
 clear ax ay
 have H : (posting_Valid.l0 k l0 l0 (l0.length : Int) 0) = some r := h
 clear h
 have H' := aK H
 clear H
 go_enter Tryz.func66,Tryz.ntmps66
 go_wp2
 go_loopg [7] k (fun kq v7 w' => ∃ (aa : Int),v7 = .int .i64 aa ∧ Aside0 (posting_Valid.l0 kq l0 l0 (l0.length : Int) aa = some r) ∧ Aside0 (kq ≤ k) ∧ Drawn0 w w')
 case atStart => exact ⟨(0),(by first|rfl|(simp;done)|(simp [*];done)),H',⟨Nat.le_refl _⟩,by repeat (first|exact Drawn0.refl _|apply Drawn0.step)⟩
 case round =>
  clear H'
  obtain ⟨aa,rfl,HA,aq,⟨m1,rfl⟩⟩ := hrel
  cases gk with
 |zero => exact absurd HA.out (by simp [posting_Valid.l0])
 |succ k1 =>
   have H := HA.out
   clear HA
   simp only [posting_Valid.l0] at H
   by_cases c2 : aa < (l0.length : Int)
   ·rw [if_pos c2] at H
    have ar := decide_eq_true c2
    clear c2
    obtain ⟨c3,H⟩ := iS H
    have aB := decide_eq_true c3
    clear c3
    obtain ⟨c4,H⟩ := iS H
    have aC := decide_eq_true c4
    clear c4
    by_cases c5 : (rd l0 aa) < 0
    ·rw [if_pos c5] at H
     have au := decide_eq_true c5
     clear c5
     obtain rfl := Option.some.inj H
     have ab : 0 ≤ (aa : Int) := dA
     have ac : aa < (l0.length : Int) := dA
     obtain ⟨ae,af,ad⟩ := Kd.at_int am.out aa ab ac
     cases af
     replace ab := eq_true ab
     replace ac := eq_true ac
     go_wp2
     go_ret
     exact ⟨by first|rfl|(simp;done)|(simp [*];done),by repeat (first|exact Drawn0.refl _|apply Drawn0.step)⟩
    ·rw [if_neg c5] at H
     have au := decide_eq_false c5
     clear c5
     by_cases c6 : (rd l0 aa) > 9999
     ·rw [if_pos c6] at H
      have av := decide_eq_true c6
      clear c6
      obtain rfl := Option.some.inj H
      have ab : 0 ≤ (aa : Int) := dA
      have ac : aa < (l0.length : Int) := dA
      obtain ⟨ae,af,ad⟩ := Kd.at_int am.out aa ab ac
      cases af
      replace ab := eq_true ab
      replace ac := eq_true ac
      go_wp2
      go_ret
      exact ⟨by first|rfl|(simp;done)|(simp [*];done),by repeat (first|exact Drawn0.refl _|apply Drawn0.step)⟩
     ·rw [if_neg c6] at H
      have av := decide_eq_false c6
      clear c6
      by_cases c7 : aa > 0
      ·rw [if_pos c7] at H
       have aw := decide_eq_true c7
       clear c7
       obtain ⟨ai,ak⟩ : ∃ j_ : Int,(wrap64 (aa - 1)) = j_ := ⟨_,rfl⟩
       replace H : (if 0 ≤ (ai) then (if (ai) < (l0.length : Int) then (if (rd l0 aa) ≤ (rd l0 (ai)) then (some false) else (posting_Valid.l0 k1 l0 l0 (l0.length : Int) (wrap64 (aa + 1)))) else (none)) else (none)) = some r := by first|(rw [ak] at H;exact H)|(simp only [ak] at H ⊢;exact H)
       have az : (IntKind.i64.wrap (aa - 1)) = ai := (i64_w _).trans ak
       obtain ⟨c9,H⟩ := iS H
       have aD := decide_eq_true c9
       clear c9
       obtain ⟨c10,H⟩ := iS H
       have aA := decide_eq_true c10
       clear c10
       by_cases ao : (rd l0 aa) ≤ (rd l0 (ai))
       ·rw [if_pos ao] at H
        have ap := decide_eq_true ao
        clear ao
        obtain rfl := Option.some.inj H
        have ab : 0 ≤ (aa : Int) := dA
        have ac : aa < (l0.length : Int) := dA
        obtain ⟨ae,af,ad⟩ := Kd.at_int am.out aa ab ac
        cases af
        replace ab := eq_true ab
        replace ac := eq_true ac
        have ag : 0 ≤ ((ai) : Int) := dA
        have ah : (ai) < (l0.length : Int) := dA
        obtain ⟨aj,an,al⟩ := Kd.at_int am.out (ai) ag ah
        obtain rfl : ae = aj := (by injection an)
        replace ag := eq_true ag
        replace ah := eq_true ah
        go_wp2
        go_ret
        exact ⟨by first|rfl|(simp;done)|(rw [Int.tdiv_eq_ediv_of_nonneg (by assumption)];done)|(rw [Int.tmod_eq_emod_of_nonneg (by assumption)];done)|(simp only [← ak] <;> (first|rfl|simp))|(simp [*];done),by repeat (first|exact Drawn0.refl _|apply Drawn0.step)⟩
       ·rw [if_neg ao] at H
        have ap := decide_eq_false ao
        clear ao
        have H' := aK H
        clear H
        have ab : 0 ≤ (aa : Int) := dA
        have ac : aa < (l0.length : Int) := dA
        obtain ⟨ae,af,ad⟩ := Kd.at_int am.out aa ab ac
        cases af
        replace ab := eq_true ab
        replace ac := eq_true ac
        have ag : 0 ≤ ((ai) : Int) := dA
        have ah : (ai) < (l0.length : Int) := dA
        obtain ⟨aj,an,al⟩ := Kd.at_int am.out (ai) ag ah
        obtain rfl : ae = aj := (by injection an)
        replace ag := eq_true ag
        replace ah := eq_true ah
        go_wp2
        go_roundg k1
        case measure => have := aq.out;omega
        case rel => exact ⟨(wrap64 (aa + 1)),(by first|rfl|(simp;done)|(simp [*];done)),H',⟨by have := aq.out;omega⟩,by repeat (first|exact Drawn0.refl _|apply Drawn0.step)⟩
      ·rw [if_neg c7] at H
       have aw := decide_eq_false c7
       clear c7
       have H' := aK H
       clear H
       have ab : 0 ≤ (aa : Int) := dA
       have ac : aa < (l0.length : Int) := dA
       obtain ⟨ae,af,ad⟩ := Kd.at_int am.out aa ab ac
       cases af
       replace ab := eq_true ab
       replace ac := eq_true ac
       go_wp2
       go_roundg k1
       case measure => have := aq.out;omega
       case rel => exact ⟨(wrap64 (aa + 1)),(by first|rfl|(simp;done)|(simp [*];done)),H',⟨by have := aq.out;omega⟩,by repeat (first|exact Drawn0.refl _|apply Drawn0.step)⟩
   ·rw [if_neg c2] at H
    have ar := decide_eq_false c2
    clear c2
    obtain rfl := Option.some.inj H
    go_wp2
    go_ret
    exact ⟨by first|rfl|(simp;done)|(simp [*];done),by repeat (first|exact Drawn0.refl _|apply Drawn0.step)⟩
def strings_Index.f (a0 a1 : ByteArray) : Option Int := if a1.size = 1 then some (Lib.indexByte a0.data.toList (a1.data.toList.headD 0)) else none
theorem strings_Index.calls (a0 : ByteArray) (a1 : ByteArray) (r : Int) (w : World) (h : strings_Index.f a0 a1 = some r) :
    Calls Tryz.prog 88 #[.string a0, .string a1] w fun e w' => e = .returned (.int .i64 r) ∧ Drawn0 w w' := by
  unfold strings_Index.f at h
  split at h
  case isFalse => cases h
  rename_i h1
  obtain rfl := Option.some.inj h
  have e := one_byte_ a1 h1
  have hc := Tryz.strings_Index_one a0 (a1.data.toList.headD 0) w
  rw [← e] at hc
  refine hc.mono ?_
  rintro e w' ⟨rfl, rfl⟩
  exact ⟨rfl, Drawn0.refl _⟩
def strings_Contains.f (a0 : ByteArray) (a1 : ByteArray) : Option (Bool) := (strings_Index.f a0 a1).bind fun aa => (some (decide (aa ≥ 0)))
theorem strings_Contains.calls (a0 : ByteArray) (a1 : ByteArray) (r : Bool) (w : World) (h : strings_Contains.f a0 a1 = some r) :
  Calls Tryz.prog 76 #[.string a0,.string a1] w fun e w' => e = .returned (.bool r) ∧ Drawn0 w w' := by
 have H : ((strings_Index.f a0 a1).bind fun aa => (some (decide (aa ≥ 0)))) = some r := h
 clear h
 replace H := Option.bind_eq_some_iff.mp H
 obtain ⟨aa,ab,H⟩ := H
 have A3 := aK ab
 clear ab
 obtain rfl := Option.some.inj H
 go_enter Tryz.func76,Tryz.ntmps76
 go_wp2_with (first|((with_reducible refine gate_callee (f := 88) rfl ?_);refine gL 7 Tryz.func88 #[.string a0,.string a1] ?_;(with_reducible refine (strings_Index.calls a0 a1 aa _ A3.out).mono ?_);rintro e w' ⟨rfl,⟨nd,rfl⟩⟩;refine ⟨_,rfl,?_⟩))
 go_ret
 exact ⟨by first|rfl|(simp;done)|(simp [*];done),by repeat (first|exact Drawn0.refl _|apply Drawn0.step)⟩
def strings_explode.f (aa : ByteArray) (ab : Int) : Option (List ByteArray) := none
theorem strings_explode.calls (a0 : ByteArray) (a1 : Int) (r : List ByteArray) (w : World) (h : strings_explode.f a0 a1 = some r) :
    Calls Tryz.prog 114 #[.string a0, .int .i64 a1] w fun e w' => ∃ aa : Value, e = .returned (aa) ∧ Kd.R Kd.string 9 w' w.heap.size (fun _ => True) aa r ∧ Below w.heap.size w w' := by
  cases h
def strings_Count.f (a0 a1 : ByteArray) : Option Int := if a1.size = 1 then some (Lib.countByte a0.data.toList (a1.data.toList.headD 0)) else none
theorem strings_Count.calls (a0 : ByteArray) (a1 : ByteArray) (r : Int) (w : World) (h : strings_Count.f a0 a1 = some r) :
    Calls Tryz.prog 115 #[.string a0, .string a1] w fun e w' => e = .returned (.int .i64 r) ∧ Drawn0 w w' := by
  unfold strings_Count.f at h
  split at h
  case isFalse => cases h
  rename_i h1
  obtain rfl := Option.some.inj h
  have e := one_byte_ a1 h1
  have hc := Tryz.strings_Count_one a0 (a1.data.toList.headD 0) w
  rw [← e] at hc
  refine hc.mono ?_
  rintro e w' ⟨rfl, rfl⟩
  exact ⟨rfl, Drawn0.refl _⟩
end Go.Proofs.YtmgliocboeifdaaGreatDoor.F
