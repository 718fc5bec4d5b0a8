import Derived.Test.YtmgliocboeifdaaGreatDoorFx0
import Derived.Test.YtmgliocboeifdaaGreatDoorFx15
namespace Go.Proofs.YtmgliocboeifdaaGreatDoor.F
open Go.RowKit Go.Proofs.YtmgliocboeifdaaGreatDoorW.PrintWords Go.Proofs.YtmgliocboeifdaaGreatDoorW.PrintLast Go.Proofs.YtmgliocboeifdaaGreatDoorW.PrintMore
set_option maxHeartbeats 4000000
set_option maxRecDepth 100000
attribute [local go_sem] max2_int min2_int max_two min_two max_three min_three max_four min_four
set_option linter.unusedVariables false
set_option linter.unusedSimpArgs false
mutual
def r03_GetList.l0 : Nat → List Int → Int → Int → List Int → Int → Option (List Int × Int × Int)
|0,_,_,_,_,_ => none
|k + 1,x0,x9,ad,ac,ab => if ab < x9 then ((r03_Get.f k x0 ad).bind fun aa => (if aa.2.2 = 0 then (if ab > 0 then (r03_GetList.j1 k x0 x9 ac ab aa.1 aa.2.1 (aa.1 == 0)) else (r03_GetList.j1 k x0 x9 ac ab aa.1 aa.2.1 false)) else (some (([] : List Int),0,aa.2.2)))) else (some (ac,ad,0))
def r03_GetList.j1 : Nat → List Int → Int → List Int → Int → Int → Int → Bool → Option (List Int × Int × Int)
|0,_,_,_,_,_,_,_ => none
|k + 1,x0,x9,ab,aa,ac,ad,ae => if ae = true then (some (([] : List Int),0,3)) else (if aa > 0 then (if 0 ≤ (wrap64 (aa - 1)) then (if (wrap64 (aa - 1)) < (ab.length : Int) then (r03_GetList.j2 k x0 x9 ab aa ac ad (decide (ac > (wrap64 (4611686018427387904 - (rd ab (wrap64 (aa - 1)))))))) else (none)) else (none)) else (r03_GetList.j2 k x0 x9 ab aa ac ad false))
def r03_GetList.j2 : Nat → List Int → Int → List Int → Int → Int → Int → Bool → Option (List Int × Int × Int)
|0,_,_,_,_,_,_,_ => none
|k + 1,x0,x9,aa,ab,ac,ad,ae => if ae = true then (some (([] : List Int),0,4)) else (if ab > 0 then (if 0 ≤ (wrap64 (ab - 1)) then (if (wrap64 (ab - 1)) < (aa.length : Int) then (if aa.length < 17592186044416 then (r03_GetList.l0 k x0 x9 ad (aa ++ [wrap64 (ac + (rd aa (wrap64 (ab - 1))))]) (wrap64 (ab + 1))) else (none)) else (none)) else (none)) else (if aa.length < 17592186044416 then (r03_GetList.l0 k x0 x9 ad (aa ++ [ac]) (wrap64 (ab + 1))) else (none)))
end
def r03_GetList.f (k : Nat) (l0 : List Int) (a1 : Int) (a2 : Int) : Option (List Int × Int × Int) := (r03_Get.f k l0 a1).bind fun aa => (if aa.2.2 = 0 then (if aa.1 > a2 then (some (([] : List Int), 0, 4)) else (r03_GetList.l0 k l0 aa.1 aa.2.1 ([] : List Int) 0)) else (some (([] : List Int), 0, aa.2.2)))
theorem r03_GetList.mono_l : ∀ k, (∀ y0 y1 y2 y3 y4, LeO (r03_GetList.l0 k y0 y1 y2 y3 y4) (r03_GetList.l0 (k + 1) y0 y1 y2 y3 y4)) ∧ (∀ y0 y1 y2 y3 y4 y5 y6, LeO (r03_GetList.j1 k y0 y1 y2 y3 y4 y5 y6) (r03_GetList.j1 (k + 1) y0 y1 y2 y3 y4 y5 y6)) ∧ (∀ y0 y1 y2 y3 y4 y5 y6, LeO (r03_GetList.j2 k y0 y1 y2 y3 y4 y5 y6) (r03_GetList.j2 (k + 1) y0 y1 y2 y3 y4 y5 y6))
|0 => ⟨fun _ _ _ _ _ r h => by simp [r03_GetList.l0] at h,fun _ _ _ _ _ _ _ r h => by simp [r03_GetList.j1] at h,fun _ _ _ _ _ _ _ r h => by simp [r03_GetList.j2] at h⟩
|k + 1 => by
  obtain ⟨ih0,ih1,ih2⟩ := r03_GetList.mono_l k
  refine ⟨?_,?_,?_⟩
  ·intro y0 y1 y2 y3 y4
   unfold r03_GetList.l0
   repeat' (with_reducible first|exact ih1 _ _ _ _ _ _ _|exact r03_Get.mono _ _ _|exact LeO.refl _|exact LeO.none _|refine LeO.ite ?_ ?_|refine LeO.bind ?_ (fun _ => ?_))
  ·intro y0 y1 y2 y3 y4 y5 y6
   unfold r03_GetList.j1
   repeat' (with_reducible first|exact ih2 _ _ _ _ _ _ _|exact LeO.refl _|exact LeO.none _|refine LeO.ite ?_ ?_|refine LeO.bind ?_ (fun _ => ?_))
  ·intro y0 y1 y2 y3 y4 y5 y6
   unfold r03_GetList.j2
   repeat' (with_reducible first|exact ih0 _ _ _ _ _|exact LeO.refl _|exact LeO.none _|refine LeO.ite ?_ ?_|refine LeO.bind ?_ (fun _ => ?_))
theorem r03_GetList.mono : ∀ a0 a1 a2 k, LeO (r03_GetList.f k a0 a1 a2) (r03_GetList.f (k + 1) a0 a1 a2) := by
 intro a0 a1 a2 k
 obtain ⟨ih0,ih1,ih2⟩ := r03_GetList.mono_l k
 unfold r03_GetList.f
 repeat' (with_reducible first|exact ih0 _ _ _ _ _|exact ih1 _ _ _ _ _ _ _|exact ih2 _ _ _ _ _ _ _|exact r03_Get.mono _ _ _|exact LeO.refl _|exact LeO.none _|refine LeO.ite ?_ ?_|refine LeO.bind ?_ (fun _ => ?_))
theorem r03_GetList.calls (k : Nat) (A0 : Option Addr) (c0 : Nat) (l0 : List Int) (a1 : Int) (a2 : Int) (r1 : List Int) (r2 : Int) (r3 : Int) (w : World) (bp : Kd.C (Kd.int .u8) w A0 l0.length l0) (bq : l0.length ≤ c0) (h : r03_GetList.f k l0 a1 a2 = some (r1, r2, r3)) :
  Calls Tryz.prog 39 #[.slice A0 l0.length c0,.int .i64 a1,.int .i64 a2] w fun e w' => ∃ br : Value,e = .returned (.tuple #[br,.int .i64 r2,.int .i64 r3]) ∧ Kd.R (Kd.int .i64) 3 w' w.heap.size (fun _ => True) br r1 ∧ Below w.heap.size w w' := by
 have aU := aK bp
 have aV := aK bq
 clear bp bq
 have HB := aK (Below.refl w.heap.size w)
 have H : ((r03_Get.f k l0 a1).bind fun al => (if al.2.2 = 0 then (if al.1 > a2 then (some (([] : List Int),0,4)) else (r03_GetList.l0 k l0 al.1 al.2.1 ([] : List Int) 0)) else (some (([] : List Int),0,al.2.2)))) = some (r1,r2,r3) := h
 clear h
 replace H := Option.bind_eq_some_iff.mp H
 obtain ⟨⟨ae,aw,av⟩,bs,H⟩ := H
 replace H : (if av = 0 then (if ae > a2 then (some (([] : List Int),0,4)) else (r03_GetList.l0 k l0 ae aw ([] : List Int) 0)) else (some (([] : List Int),0,av))) = some (r1,r2,r3) := H
 have A4 := aK bs
 clear bs
 by_cases c5 : av = 0
 ·rw [if_pos c5] at H
  have aW := beq_iff_eq.mpr c5
  have aX := bne_eq_false_iff_eq.mpr c5
  clear c5
  by_cases c6 : ae > a2
  ·rw [if_pos c6] at H
   have aY := decide_eq_true c6
   clear c6
   simp only [Option.some.injEq,Prod.mk.injEq] at H
   obtain ⟨rfl,rfl,rfl⟩ := H
   go_enter Tryz.func39,Tryz.ntmps39
   go_wp2_with (first|((with_reducible refine gate_callee (f := 38) rfl ?_);refine gL 20 Tryz.func38 #[.slice A0 l0.length c0,.int .i64 a1] ?_;(with_reducible refine (r03_Get.calls k _ _ l0 a1 ae aw av _ ?af ?ag A4.out).mono ?_);(case af => exact cM aU.out);(case ag => exact aV.out);rintro e w' ⟨rfl,⟨nd,rfl⟩⟩;refine ⟨_,rfl,?_⟩))
   go_ret3
   exact ⟨_,by first|rfl|(simp [errW_none,errW_some] <;> rfl)|(simp [*,errW_none,errW_some] <;> rfl),by first|exact Kd.R_nil _ _ _ _ _|exact Kd.N_nil _ _ _ _ _|exact Kd.V_nil _ _ _ _ _|exact Kd.Q_nil _ _ _ _ _|exact Kd.S_nil _ _ _ _ _,bM HB.out⟩
  ·rw [if_neg c6] at H
   have aY := decide_eq_false c6
   clear c6
   have H' := aK H
   clear H
   go_enter Tryz.func39,Tryz.ntmps39
   go_wp2_with (first|((with_reducible refine gate_callee (f := 38) rfl ?_);refine gL 20 Tryz.func38 #[.slice A0 l0.length c0,.int .i64 a1] ?_;(with_reducible refine (r03_Get.calls k _ _ l0 a1 ae aw av _ ?af ?ag A4.out).mono ?_);(case af => exact cM aU.out);(case ag => exact aV.out);rintro e w' ⟨rfl,⟨nd,rfl⟩⟩;refine ⟨_,rfl,?_⟩))
   go_loopg [10,12,13] k (fun kq bK bL bN w' => ∃ (ai : Int) (aa : List Int) (ab : Int),bK = .int .i64 ai ∧ bN = .int .i64 ab ∧ Aside0 (r03_GetList.l0 kq l0 ae ai aa ab = some (r1,r2,r3)) ∧ Aside0 (kq ≤ k) ∧ Aside0 (Kd.R (Kd.int .i64) 3 w' w.heap.size (fun _ => True) bL aa) ∧ Aside0 (Below w.heap.size w w'))
   case atStart => exact ⟨(aw),(([] : List Int)),(0),(by first|rfl|(simp;done)|(simp [*];done)),(by first|rfl|(simp;done)|(simp [*];done)),H',⟨Nat.le_refl _⟩,⟨by first|exact Kd.R_nil _ _ _ _ _|exact Kd.N_nil _ _ _ _ _|exact Kd.V_nil _ _ _ _ _|exact Kd.Q_nil _ _ _ _ _|exact Kd.S_nil _ _ _ _ _⟩,⟨bM HB.out⟩⟩
   case round =>
    clear H'
    try clear p2
    try clear c5
    try clear aW
    try clear aX
    try clear c6
    try clear aY
    obtain ⟨ai,aa,ab,rfl,rfl,HA,aE,ac,HB⟩ := hrel
    cases gk with
   |zero => exact absurd HA.out (by simp [r03_GetList.l0])
   |succ k1 =>
     have H := HA.out
     clear HA
     simp only [r03_GetList.l0] at H
     by_cases c7 : ab < ae
     ·rw [if_pos c7] at H
      have aZ := decide_eq_true c7
      clear c7
      replace H := Option.bind_eq_some_iff.mp H
      obtain ⟨⟨ad,ah,ax⟩,bu,H⟩ := H
      replace H : (if ax = 0 then (if ab > 0 then (r03_GetList.j1 k1 l0 ae aa ab ad ah (ad == 0)) else (r03_GetList.j1 k1 l0 ae aa ab ad ah false)) else (some (([] : List Int),0,ax))) = some (r1,r2,r3) := H
      have A8 := aK bu
      clear bu
      by_cases c9 : ax = 0
      ·rw [if_pos c9] at H
       have a0 := beq_iff_eq.mpr c9
       have a3 := bne_eq_false_iff_eq.mpr c9
       clear c9
       have aG := aK H
       clear H
       go_upto_region 13 with (first|((with_reducible refine gate_callee (f := 38) rfl ?_);refine gL 38 Tryz.func38 #[.slice A0 l0.length c0,.int .i64 ai] ?_;(with_reducible refine (r03_Get.calls k1 _ _ l0 ai ad ah ax _ ?af ?ag A8.out).mono ?_);(case af => exact cM (Kd.C_below aU.out HB.out));(case ag => exact aV.out);rintro e w' ⟨rfl,⟨nd,rfl⟩⟩;refine ⟨_,rfl,?_⟩))
       (try simp only [Act.put,z1_,z2_,z3_])
       go_cut [50] (fun bO wc => ∃ (kq : Nat) (ar : Bool),bO = .bool ar ∧ Aside0 (r03_GetList.j1 kq l0 ae aa ab ad ah ar = some (r1,r2,r3)) ∧ Aside0 (kq ≤ k1) ∧ Aside0 (Kd.R (Kd.int .i64) 3 wc w.heap.size (fun _ => True) u12 aa) ∧ Aside0 (Below w.heap.size w wc))
       case first =>
        have H := aG.out
        clear aG
        by_cases aN : ab > 0
        ·rw [if_pos aN] at H
         have am := decide_eq_true aN
         clear aN
         (first|rw [am]|(simp only [i64_w,i32_w];rw [am])|rw [c11b1]|skip)
         have H' := aK H
         clear H
         go_wp2
         go_meet
         case rel => exact ⟨_,((ad == 0)),(by first|rfl|(simp;done)|(simp [*];done)),H',⟨by have := aE.out;first|omega|exact Nat.le_refl _⟩,⟨rM ac.out⟩,⟨bM HB.out⟩⟩
        ·rw [if_neg aN] at H
         have am := decide_eq_false aN
         clear aN
         (first|rw [am]|(simp only [i64_w,i32_w];rw [am])|rw [c11b1]|skip)
         have H' := aK H
         clear H
         go_wp2
         go_meet
         case rel => exact ⟨_,(false),(by first|rfl|(simp;done)|(simp [*];done)),H',⟨by have := aE.out;first|omega|exact Nat.le_refl _⟩,⟨rM ac.out⟩,⟨bM HB.out⟩⟩
       case rest =>
        clear aG
        try clear p2
        try clear c7
        try clear aZ
        try clear c9
        try clear a0
        try clear a3
        try clear p2
        obtain ⟨kq,ar,rfl,HA,aQ,ac,HB⟩ := hcut
        cases kq with
       |zero => exact absurd HA.out (by simp [r03_GetList.j1])
       |succ kj9 =>
         have H := HA.out
         clear HA
         simp only [r03_GetList.j1] at H
         by_cases a4 : ar = true
         ·subst a4
          rw [if_pos rfl] at H
          simp only [Option.some.injEq,Prod.mk.injEq] at H
          obtain ⟨rfl,rfl,rfl⟩ := H
          go_wp2
          go_ret3
          exact ⟨_,by first|rfl|(simp [errW_none,errW_some] <;> rfl)|(simp [*,errW_none,errW_some] <;> rfl),by first|exact Kd.R_nil _ _ _ _ _|exact Kd.N_nil _ _ _ _ _|exact Kd.V_nil _ _ _ _ _|exact Kd.Q_nil _ _ _ _ _|exact Kd.S_nil _ _ _ _ _,bM HB.out⟩
         ·replace a4 := Bool.eq_false_iff.mpr a4
          subst a4
          rw [if_neg (show ¬ (false = true) by decide)] at H
          have aH := aK H
          clear H
          go_upto_region 15 with (fail)
          go_cut [62] (fun bP wc => ∃ (kq : Nat) (ak : Bool),bP = .bool ak ∧ Aside0 (r03_GetList.j2 kq l0 ae aa ab ad ah ak = some (r1,r2,r3)) ∧ Aside0 (kq ≤ kj9) ∧ Aside0 (Kd.R (Kd.int .i64) 3 wc w.heap.size (fun _ => True) u12 aa) ∧ Aside0 (Below w.heap.size w wc))
          case first =>
           have H := aH.out
           clear aH
           by_cases aR : ab > 0
           ·rw [if_pos aR] at H
            have an := decide_eq_true aR
            clear aR
            (first|rw [an]|(simp only [i64_w,i32_w];rw [an])|rw [c14b1]|skip)
            obtain ⟨ao,au⟩ : ∃ j_ : Int,(wrap64 (ab - 1)) = j_ := ⟨_,rfl⟩
            replace H : (if 0 ≤ (ao) then (if (ao) < (aa.length : Int) then (r03_GetList.j2 kj9 l0 ae aa ab ad ah (decide (ad > (wrap64 (4611686018427387904 - (rd aa (ao))))))) else (none)) else (none)) = some (r1,r2,r3) := by first|(rw [au] at H;exact H)|(simp only [au] at H ⊢;exact H)
            have bh : (IntKind.i64.wrap (ab - 1)) = ao := (i64_w _).trans au
            obtain ⟨bv,H⟩ := iS H
            have bx := decide_eq_true bv
            clear bv
            obtain ⟨bz,H⟩ := iS H
            have bB := decide_eq_true bz
            clear bz
            have H' := aK H
            clear H
            obtain ⟨bQ,bR,bi⟩ := Kd.R_slice ac.out
            subst bi
            have az : 0 ≤ ((ao) : Int) := dA
            have aA : (ao) < (aa.length : Int) := dA
            obtain ⟨bC,bj,aC⟩ := Kd.at_int (Kd.R_reads' ac.out).2.2 (ao) az aA
            cases bj
            replace az := eq_true az
            replace aA := eq_true aA
            go_wp2
            go_meet
            case rel => exact ⟨_,(decide (ad > (wrap64 (4611686018427387904 - (rd aa (ao)))))),(by first|rfl|(simp;done)|(rw [Int.tdiv_eq_ediv_of_nonneg (by assumption)];done)|(rw [Int.tmod_eq_emod_of_nonneg (by assumption)];done)|(simp only [← au] <;> (first|rfl|simp))|(simp [*];done)),H',⟨by have := aE.out;have := aQ.out;first|omega|exact Nat.le_refl _⟩,⟨rM ac.out⟩,⟨bM HB.out⟩⟩
           ·rw [if_neg aR] at H
            have an := decide_eq_false aR
            clear aR
            (first|rw [an]|(simp only [i64_w,i32_w];rw [an])|rw [c14b1]|skip)
            have H' := aK H
            clear H
            go_wp2
            go_meet
            case rel => exact ⟨_,(false),(by first|rfl|(simp;done)|(simp [*];done)),H',⟨by have := aE.out;have := aQ.out;first|omega|exact Nat.le_refl _⟩,⟨rM ac.out⟩,⟨bM HB.out⟩⟩
          case rest =>
           clear aH
           try clear p2
           try clear p4
           try clear q4
           try clear hx4
           try clear p6
           try clear a4
           try clear aC
           try clear p2
           try clear az
           try clear aA
           obtain ⟨kq,ak,rfl,HA,aD,ac,HB⟩ := hcut
           cases kq with
          |zero => exact absurd HA.out (by simp [r03_GetList.j2])
          |succ kj12 =>
            have H := HA.out
            clear HA
            simp only [r03_GetList.j2] at H
            by_cases bf : ak = true
            ·subst bf
             rw [if_pos rfl] at H
             simp only [Option.some.injEq,Prod.mk.injEq] at H
             obtain ⟨rfl,rfl,rfl⟩ := H
             go_wp2
             go_ret3
             exact ⟨_,by first|rfl|(simp [errW_none,errW_some] <;> rfl)|(simp [*,errW_none,errW_some] <;> rfl),by first|exact Kd.R_nil _ _ _ _ _|exact Kd.N_nil _ _ _ _ _|exact Kd.V_nil _ _ _ _ _|exact Kd.Q_nil _ _ _ _ _|exact Kd.S_nil _ _ _ _ _,bM HB.out⟩
            ·replace bf := Bool.eq_false_iff.mpr bf
             subst bf
             rw [if_neg (show ¬ (false = true) by decide)] at H
             by_cases aT : ab > 0
             ·rw [if_pos aT] at H
              have a5 := decide_eq_true aT
              clear aT
              obtain ⟨aj,ay⟩ : ∃ j_ : Int,(wrap64 (ab - 1)) = j_ := ⟨_,rfl⟩
              replace H : (if 0 ≤ (aj) then (if (aj) < (aa.length : Int) then (if aa.length < 17592186044416 then (r03_GetList.l0 kj12 l0 ae ah (aa ++ [wrap64 (ad + (rd aa (aj)))]) (wrap64 (ab + 1))) else (none)) else (none)) else (none)) = some (r1,r2,r3) := by first|(rw [ay] at H;exact H)|(simp only [ay] at H ⊢;exact H)
              have bk : (IntKind.i64.wrap (ab - 1)) = aj := (i64_w _).trans ay
              obtain ⟨bD,H⟩ := iS H
              have bE := decide_eq_true bD
              clear bD
              obtain ⟨bF,H⟩ := iS H
              have bH := decide_eq_true bF
              clear bF
              obtain ⟨bI,H⟩ := iS H
              have a6 := aK bI
              clear bI
              obtain ⟨a7,ap⟩ : ∃ y_ : List Int,y_ = (aa ++ [wrap64 (ad + (rd aa (aj)))]) := ⟨_,rfl⟩
              replace H : (r03_GetList.l0 kj12 l0 ae ah a7 (wrap64 (ab + 1))) = some (r1,r2,r3) := by first|(rw [ap];with_reducible exact H)|(have aI := (Option.bind_some _ _).symm.trans H;rw [ap];with_reducible exact aI)|(have aI := (Option.bind_some _ _).symm.trans H;with_reducible exact aI)|with_reducible exact H|(rw [ap];exact H)|exact H
              have a8 := aK ap
              clear ap
              have H' := aK H
              clear H
              obtain ⟨bS,bm,bn⟩ := Kd.R_slice ac.out
              subst bn
              have aJ : 0 ≤ ((aj) : Int) := dA
              have aM : (aj) < (aa.length : Int) := dA
              obtain ⟨a9,bo,bg⟩ := Kd.at_int (Kd.R_reads' ac.out).2.2 (aj) aJ aM
              cases bo
              replace aJ := eq_true aJ
              replace aM := eq_true aM
              go_wp2_with (first|((with_reducible refine gate_builtin (b := .append) (xs := #[.tmp 72,.tmp 74]) rfl ?_);at_builtin;refine Kd.R_append (Kd.int .i64) (w0 := w) w.heap.size rfl (.tmp 72) (.tmp 74) 27 3 (.int .i64 0) 8 rfl Tryz.underlying27 info3 rfl (by decide) (by omega) (.slice (some a9) aa.length bm) aa (wrap64 (ad + (rd aa (aj)))) [.int .i64 (wrap64 (ad + (rd aa (aj))))] (fun _ => True) (fun _ => False) rfl rfl ?aP (fun _ hk => hk.elim) ?aF ?aO ?aB ?aS ?aL ?_;(case aP => exact rfl);(case aB => exact (bM HB.out));(case aF => exact (fun _ _ => trivial));(case aO => exact (rM ac.out));(case aS => exact (below_size (bM HB.out)));(case aL => have := a6.out;omega);intro bT bV ho hb hg hat;rw [← a8.out] at ho;replace HB := aK (hb);have ba := aK (ho);clear ho hb hg hat))
              go_roundg kj12
              case measure => have := aE.out;have := aQ.out;have := aD.out;omega
              case rel => exact ⟨(ah),(a7),(wrap64 (ab + 1)),(by first|rfl|(simp;done)|(simp [*];done)),(by first|rfl|(simp;done)|(simp [*];done)),H',⟨by have := aE.out;have := aQ.out;have := aD.out;omega⟩,⟨rM ba.out⟩,⟨bM HB.out⟩⟩
             ·rw [if_neg aT] at H
              have a5 := decide_eq_false aT
              clear aT
              obtain ⟨bJ,H⟩ := iS H
              have bb := aK bJ
              clear bJ
              obtain ⟨bc,aq⟩ : ∃ y_ : List Int,y_ = (aa ++ [ad]) := ⟨_,rfl⟩
              replace H : (r03_GetList.l0 kj12 l0 ae ah bc (wrap64 (ab + 1))) = some (r1,r2,r3) := by first|(rw [aq];with_reducible exact H)|(have aI := (Option.bind_some _ _).symm.trans H;rw [aq];with_reducible exact aI)|(have aI := (Option.bind_some _ _).symm.trans H;with_reducible exact aI)|with_reducible exact H|(rw [aq];exact H)|exact H
              have bd := aK aq
              clear aq
              have H' := aK H
              clear H
              go_wp2_with (first|((with_reducible refine gate_builtin (b := .append) (xs := #[.tmp 72,.tmp 74]) rfl ?_);at_builtin;refine Kd.R_append (Kd.int .i64) (w0 := w) w.heap.size rfl (.tmp 72) (.tmp 74) 27 3 (.int .i64 0) 8 rfl Tryz.underlying27 info3 rfl (by decide) (by omega) u12 aa ad [.int .i64 ad] (fun _ => True) (fun _ => False) rfl rfl ?aP (fun _ hk => hk.elim) ?aF ?aO ?aB ?aS ?aL ?_;(case aP => exact rfl);(case aB => exact (bM HB.out));(case aF => exact (fun _ _ => trivial));(case aO => exact (rM ac.out));(case aS => exact (below_size (bM HB.out)));(case aL => have := bb.out;omega);intro bU bW ho hb hg hat;rw [← bd.out] at ho;replace HB := aK (hb);have be := aK (ho);clear ho hb hg hat))
              go_roundg kj12
              case measure => have := aE.out;have := aQ.out;have := aD.out;omega
              case rel => exact ⟨(ah),(bc),(wrap64 (ab + 1)),(by first|rfl|(simp;done)|(simp [*];done)),(by first|rfl|(simp;done)|(simp [*];done)),H',⟨by have := aE.out;have := aQ.out;have := aD.out;omega⟩,⟨rM be.out⟩,⟨bM HB.out⟩⟩
      ·rw [if_neg c9] at H
       have a0 := beq_eq_false_iff_ne.mpr c9
       have a3 := bne_iff_ne.mpr c9
       simp only [Option.some.injEq,Prod.mk.injEq] at H
       obtain ⟨rfl,rfl,rfl⟩ := H
       go_wp2_with (first|((with_reducible refine gate_callee (f := 38) rfl ?_);refine gL 38 Tryz.func38 #[.slice A0 l0.length c0,.int .i64 ai] ?_;(with_reducible refine (r03_Get.calls k1 _ _ l0 ai ad ah ax _ ?af ?ag A8.out).mono ?_);(case af => exact cM (Kd.C_below aU.out HB.out));(case ag => exact aV.out);rintro e w' ⟨rfl,⟨nd,rfl⟩⟩;refine ⟨_,rfl,?_⟩))
       go_ret3
       exact ⟨_,by first|rfl|(simp [errW_none,errW_some] <;> rfl)|(simp [*,errW_none,errW_some] <;> rfl),by first|exact Kd.R_nil _ _ _ _ _|exact Kd.N_nil _ _ _ _ _|exact Kd.V_nil _ _ _ _ _|exact Kd.Q_nil _ _ _ _ _|exact Kd.S_nil _ _ _ _ _,bM HB.out⟩
     ·rw [if_neg c7] at H
      have aZ := decide_eq_false c7
      clear c7
      simp only [Option.some.injEq,Prod.mk.injEq] at H
      obtain ⟨rfl,rfl,rfl⟩ := H
      go_wp2
      go_ret3
      exact ⟨_,by first|rfl|(simp [errW_none,errW_some] <;> rfl)|(simp [*,errW_none,errW_some] <;> rfl),rM ac.out,bM HB.out⟩
 ·rw [if_neg c5] at H
  have aW := beq_eq_false_iff_ne.mpr c5
  have aX := bne_iff_ne.mpr c5
  simp only [Option.some.injEq,Prod.mk.injEq] at H
  obtain ⟨rfl,rfl,rfl⟩ := H
  go_enter Tryz.func39,Tryz.ntmps39
  go_wp2_with (first|((with_reducible refine gate_callee (f := 38) rfl ?_);refine gL 20 Tryz.func38 #[.slice A0 l0.length c0,.int .i64 a1] ?_;(with_reducible refine (r03_Get.calls k _ _ l0 a1 ae aw av _ ?af ?ag A4.out).mono ?_);(case af => exact cM aU.out);(case ag => exact aV.out);rintro e w' ⟨rfl,⟨nd,rfl⟩⟩;refine ⟨_,rfl,?_⟩))
  go_ret3
  exact ⟨_,by first|rfl|(simp [errW_none,errW_some] <;> rfl)|(simp [*,errW_none,errW_some] <;> rfl),by first|exact Kd.R_nil _ _ _ _ _|exact Kd.N_nil _ _ _ _ _|exact Kd.V_nil _ _ _ _ _|exact Kd.Q_nil _ _ _ _ _|exact Kd.S_nil _ _ _ _ _,bM HB.out⟩
def r03_GetString.f (k : Nat) (l0 : List Int) (a1 : Int) (a2 : Int) : Option (ByteArray × Int × Int) := (r03_Get.f k l0 a1).bind fun aa => (if aa.2.2 = 0 then (if aa.1 > a2 then (some ((⟨#[]⟩ : ByteArray), 0, 4)) else (if aa.1 > (wrap64 ((l0.length : Int) - aa.2.1)) then (some ((⟨#[]⟩ : ByteArray), 0, 5)) else (if 0 ≤ aa.2.1 then (if aa.2.1 ≤ (wrap64 (aa.2.1 + aa.1)) then (if (wrap64 (aa.2.1 + aa.1)) ≤ (l0.length : Int) then (some (strOfNums ((l0.take ((wrap64 (aa.2.1 + aa.1)) : Int).toNat).drop (aa.2.1 : Int).toNat), wrap64 (aa.2.1 + aa.1), 0)) else (none)) else (none)) else (none)))) else (some ((⟨#[]⟩ : ByteArray), 0, aa.2.2)))
theorem r03_GetString.mono : ∀ a0 a1 a2 k, LeO (r03_GetString.f k a0 a1 a2) (r03_GetString.f (k + 1) a0 a1 a2) := by
 intro a0 a1 a2 k
 unfold r03_GetString.f
 repeat' (with_reducible first|exact r03_Get.mono _ _ _|exact LeO.refl _|exact LeO.none _|refine LeO.ite ?_ ?_|refine LeO.bind ?_ (fun _ => ?_))
theorem r03_GetString.calls (k : Nat) (A0 : Option Addr) (c0 : Nat) (l0 : List Int) (a1 : Int) (a2 : Int) (r1 : ByteArray) (r2 : Int) (r3 : Int) (w : World) (az : Kd.C (Kd.int .u8) w A0 l0.length l0) (aA : l0.length ≤ c0) (h : r03_GetString.f k l0 a1 a2 = some (r1, r2, r3)) :
  Calls Tryz.prog 40 #[.slice A0 l0.length c0,.int .i64 a1,.int .i64 a2] w fun e w' => e = .returned (.tuple #[.string r1,.int .i64 r2,.int .i64 r3]) ∧ Drawn0 w w' := by
 have am := aK az
 have an := aK aA
 clear az aA
 have H : ((r03_Get.f k l0 a1).bind fun aa => (if aa.2.2 = 0 then (if aa.1 > a2 then (some ((⟨#[]⟩ : ByteArray),0,4)) else (if aa.1 > (wrap64 ((l0.length : Int) - aa.2.1)) then (some ((⟨#[]⟩ : ByteArray),0,5)) else (if 0 ≤ aa.2.1 then (if aa.2.1 ≤ (wrap64 (aa.2.1 + aa.1)) then (if (wrap64 (aa.2.1 + aa.1)) ≤ (l0.length : Int) then (some (strOfNums ((l0.take ((wrap64 (aa.2.1 + aa.1)) : Int).toNat).drop (aa.2.1 : Int).toNat),wrap64 (aa.2.1 + aa.1),0)) else (none)) else (none)) else (none)))) else (some ((⟨#[]⟩ : ByteArray),0,aa.2.2)))) = some (r1,r2,r3) := h
 clear h
 replace H := Option.bind_eq_some_iff.mp H
 obtain ⟨⟨ac,ab,af⟩,aB,H⟩ := H
 replace H : (if af = 0 then (if ac > a2 then (some ((⟨#[]⟩ : ByteArray),0,4)) else (if ac > (wrap64 ((l0.length : Int) - ab)) then (some ((⟨#[]⟩ : ByteArray),0,5)) else (if 0 ≤ ab then (if ab ≤ (wrap64 (ab + ac)) then (if (wrap64 (ab + ac)) ≤ (l0.length : Int) then (some (strOfNums ((l0.take ((wrap64 (ab + ac)) : Int).toNat).drop (ab : Int).toNat),wrap64 (ab + ac),0)) else (none)) else (none)) else (none)))) else (some ((⟨#[]⟩ : ByteArray),0,af))) = some (r1,r2,r3) := H
 have A4 := aK aB
 clear aB
 by_cases c5 : af = 0
 ·rw [if_pos c5] at H
  have au := beq_iff_eq.mpr c5
  have av := bne_eq_false_iff_eq.mpr c5
  clear c5
  by_cases c6 : ac > a2
  ·rw [if_pos c6] at H
   have aw := decide_eq_true c6
   clear c6
   simp only [Option.some.injEq,Prod.mk.injEq] at H
   obtain ⟨rfl,rfl,rfl⟩ := H
   go_enter Tryz.func40,Tryz.ntmps40
   go_wp2_with (first|((with_reducible refine gate_callee (f := 38) rfl ?_);refine gL 15 Tryz.func38 #[.slice A0 l0.length c0,.int .i64 a1] ?_;(with_reducible refine (r03_Get.calls k _ _ l0 a1 ac ab af _ ?ad ?ae A4.out).mono ?_);(case ad => exact cM am.out);(case ae => exact an.out);rintro e w' ⟨rfl,⟨nd,rfl⟩⟩;refine ⟨_,rfl,?_⟩))
   go_ret3
   exact ⟨by first|rfl|(simp;done)|(simp [*];done),by repeat (first|exact Drawn0.refl _|apply Drawn0.step)⟩
  ·rw [if_neg c6] at H
   have aw := decide_eq_false c6
   clear c6
   by_cases c7 : ac > (wrap64 ((l0.length : Int) - ab))
   ·rw [if_pos c7] at H
    have ax := decide_eq_true c7
    clear c7
    simp only [Option.some.injEq,Prod.mk.injEq] at H
    obtain ⟨rfl,rfl,rfl⟩ := H
    go_enter Tryz.func40,Tryz.ntmps40
    go_wp2_with (first|((with_reducible refine gate_callee (f := 38) rfl ?_);refine gL 15 Tryz.func38 #[.slice A0 l0.length c0,.int .i64 a1] ?_;(with_reducible refine (r03_Get.calls k _ _ l0 a1 ac ab af _ ?ad ?ae A4.out).mono ?_);(case ad => exact cM am.out);(case ae => exact an.out);rintro e w' ⟨rfl,⟨nd,rfl⟩⟩;refine ⟨_,rfl,?_⟩))
    go_ret3
    exact ⟨by first|rfl|(simp;done)|(simp [*];done),by repeat (first|exact Drawn0.refl _|apply Drawn0.step)⟩
   ·rw [if_neg c7] at H
    have ax := decide_eq_false c7
    clear c7
    obtain ⟨c8,H⟩ := iS H
    have aG := eq_true c8
    have aH := decide_eq_true c8
    clear c8
    obtain ⟨c9,H⟩ := iS H
    have aI := eq_true c9
    have aJ := decide_eq_true c9
    obtain ⟨c10,H⟩ := iS H
    have aC := eq_true c10
    have aD := decide_eq_true c10
    simp only [Option.some.injEq,Prod.mk.injEq] at H
    obtain ⟨rfl,rfl,rfl⟩ := H
    go_enter Tryz.func40,Tryz.ntmps40
    go_wp2_with (first|((with_reducible refine gate_callee (f := 38) rfl ?_);refine gL 15 Tryz.func38 #[.slice A0 l0.length c0,.int .i64 a1] ?_;(with_reducible refine (r03_Get.calls k _ _ l0 a1 ac ab af _ ?ad ?ae A4.out).mono ?_);(case ad => exact cM am.out);(case ae => exact an.out);rintro e w' ⟨rfl,⟨nd,rfl⟩⟩;refine ⟨_,rfl,?_⟩;obtain ⟨aL,ag,_,ah,_⟩ := info_parts info5;obtain ⟨aE,ay,ao,ap⟩ := print_mid_of (P := Tryz.prog) (Value.int .u8) 0 31 5 .i64 .i64 Tryz.underlying31 ag ah A0 c0 l0 ab (wrap64 (ab + ac)) (dA) (by first|omega|exact dA) (dA) an.out;have ai := aK (Kd.C_of_reads (h1 := fun _ => rfl) (ao _ (Kd.reads_of_C am.out)));have aF := aK ap;clear ao ap ag ah;have aq := Kd.C_string (P := Tryz.prog) (A := aE) (c := (c0 - ab.toNat)) Tryz.underlying31 Tryz.underlying5 Tryz.underlying9 ai.out;have aj := fun n_ : Nat => Kd.C_string (P := Tryz.prog) (A := aE) (c := (c0 - ab.toNat)) Tryz.underlying31 Tryz.underlying5 Tryz.underlying9 (Kd.C_drewN ai.out n_);(try (have ar : ((l0.take ((wrap64 (ab + ac)) : Int).toNat).drop (ab : Int).toNat).length = ((wrap64 (ab + ac)) : Int).toNat - (ab : Int).toNat := (by rw [z7_,z8_,Nat.min_eq_left (by simp only [decide_eq_true_eq,eq_iff_iff,iff_true] at *;omega)]);have ak := aq;have al := aj;simp only [ar] at ak al;clear ar))))
    go_ret3
    exact ⟨by first|rfl|(simp;done)|(simp [*];done),by repeat (first|exact Drawn0.refl _|apply Drawn0.step)⟩
 ·rw [if_neg c5] at H
  have au := beq_eq_false_iff_ne.mpr c5
  have av := bne_iff_ne.mpr c5
  simp only [Option.some.injEq,Prod.mk.injEq] at H
  obtain ⟨rfl,rfl,rfl⟩ := H
  go_enter Tryz.func40,Tryz.ntmps40
  go_wp2_with (first|((with_reducible refine gate_callee (f := 38) rfl ?_);refine gL 15 Tryz.func38 #[.slice A0 l0.length c0,.int .i64 a1] ?_;(with_reducible refine (r03_Get.calls k _ _ l0 a1 ac ab af _ ?ad ?ae A4.out).mono ?_);(case ad => exact cM am.out);(case ae => exact an.out);rintro e w' ⟨rfl,⟨nd,rfl⟩⟩;refine ⟨_,rfl,?_⟩))
  go_ret3
  exact ⟨by first|rfl|(simp;done)|(simp [*];done),by repeat (first|exact Drawn0.refl _|apply Drawn0.step)⟩
end Go.Proofs.YtmgliocboeifdaaGreatDoor.F
