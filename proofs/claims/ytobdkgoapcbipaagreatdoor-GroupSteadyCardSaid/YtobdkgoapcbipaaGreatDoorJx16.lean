import Derived.Test.YtobdkgoapcbipaaGreatDoorJx0
import Derived.Test.YtobdkgoapcbipaaGreatDoorJx1
import Derived.Test.YtobdkgoapcbipaaGreatDoorJx12
import Derived.Test.YtobdkgoapcbipaaGreatDoorJx13
import Derived.Test.YtobdkgoapcbipaaGreatDoorJx15
namespace Go.Proofs.YtobdkgoapcbipaaGreatDoor.J
open Go.RowKit Go.Proofs.YtobdkgoapcbipaaGreatDoorW.PrintWords Go.Proofs.YtobdkgoapcbipaaGreatDoorW.PrintLast Go.Proofs.YtobdkgoapcbipaaGreatDoorW.PrintMore
attribute [local go_sem] max2_int min2_int max_two min_two max_three min_three max_four min_four
set_option linter.unusedVariables false
set_option linter.unusedSimpArgs false

/-! ### r43_Right: function 12 -/
mutual
def r43_Right.l0 : Nat → List (S36) → Int → Option (Int)
|0,_,_ => none
|k + 1,x0,x3 => if x3 < (x0.length : Int) then (if 0 ≤ x3 then ((r02_Simple.f k ((rd_T36 x0 x3).f0)).bind fun ab => (if ab = true then ((r43_at.f k x0 ((rd_T36 x0 x3).f0)).bind fun ac => (if ac < x3 then (some 7) else ((r43_members.f k x0 ((rd_T36 x0 x3).f0) ((rd_T36 x0 x3).f1) ((rd_T36 x0 x3).f2)).bind fun aa => (if aa = 0 then (r43_Right.l0 k x0 (wrap64 (x3 + 1))) else (some aa))))) else (some 3))) else (none)) else (r43_Right.l1 k x0 0)
def r43_Right.l1 : Nat → List (S36) → Int → Option (Int)
|0,_,_ => none
|k + 1,x0,x5 => if x5 < (x0.length : Int) then (if 0 ≤ x5 then ((r43_inside.f k x0 ((rd_T36 x0 x5).f0)).bind fun aa => ((r43_inText.f k aa ((rd_T36 x0 x5).f0)).bind fun ab => (if ab = true then (some 10) else (r43_Right.l1 k x0 (wrap64 (x5 + 1)))))) else (none)) else (r43_Right.l2 k x0 0)
def r43_Right.l2 : Nat → List (S36) → Int → Option (Int)
|0,_,_ => none
|k + 1,x0,x6 => if x6 < (x0.length : Int) then (if 0 ≤ x6 then ((r43_depth.f k x0 ((rd_T36 x0 x6).f0)).bind fun aa => (if aa > 12 then (some 4) else (r43_Right.l2 k x0 (wrap64 (x6 + 1))))) else (none)) else (some 0)
end
def r43_Right.f (k : Nat) (l0 : List (S36)) : Option (Int) := if (l0.length : Int) > 16 then (some 4) else (r43_Right.l0 k l0 0)
theorem r43_Right.mono_l : ∀ k, (∀ y0 y1, LeO (r43_Right.l0 k y0 y1) (r43_Right.l0 (k + 1) y0 y1)) ∧ (∀ y0 y1, LeO (r43_Right.l1 k y0 y1) (r43_Right.l1 (k + 1) y0 y1)) ∧ (∀ y0 y1, LeO (r43_Right.l2 k y0 y1) (r43_Right.l2 (k + 1) y0 y1))
|0 => ⟨fun _ _ r h => by simp [r43_Right.l0] at h,fun _ _ r h => by simp [r43_Right.l1] at h,fun _ _ r h => by simp [r43_Right.l2] at h⟩
|k + 1 => by
  obtain ⟨ih0,ih1,ih2⟩ := r43_Right.mono_l k
  refine ⟨?_,?_,?_⟩
  ·intro y0 y1
   unfold r43_Right.l0
   repeat' (with_reducible first|exact ih0 _ _|exact ih1 _ _|exact r02_Simple.mono _ _|exact r43_at.mono _ _ _|exact r43_members.mono _ _ _ _ _|exact LeO.refl _|exact LeO.none _|refine LeO.ite ?_ ?_|refine LeO.bind ?_ (fun _ => ?_))
  ·intro y0 y1
   unfold r43_Right.l1
   repeat' (with_reducible first|exact ih1 _ _|exact ih2 _ _|exact r43_inText.mono _ _ _|exact r43_inside.mono _ _ _|exact LeO.refl _|exact LeO.none _|refine LeO.ite ?_ ?_|refine LeO.bind ?_ (fun _ => ?_))
  ·intro y0 y1
   unfold r43_Right.l2
   repeat' (with_reducible first|exact ih2 _ _|exact r43_depth.mono _ _ _|exact LeO.refl _|exact LeO.none _|refine LeO.ite ?_ ?_|refine LeO.bind ?_ (fun _ => ?_))
theorem r43_Right.mono : ∀ a0 k, LeO (r43_Right.f k a0) (r43_Right.f (k + 1) a0) := by
 intro a0 k
 obtain ⟨ih0,ih1,ih2⟩ := r43_Right.mono_l k
 unfold r43_Right.f
 repeat' (with_reducible first|exact ih0 _ _|exact ih1 _ _|exact ih2 _ _|exact r02_Simple.mono _ _|exact r43_at.mono _ _ _|exact r43_depth.mono _ _ _|exact r43_inText.mono _ _ _|exact r43_inside.mono _ _ _|exact r43_members.mono _ _ _ _ _|exact LeO.refl _|exact LeO.none _|refine LeO.ite ?_ ?_|refine LeO.bind ?_ (fun _ => ?_))
def r43_Right.T16 : Bool × List (List Nat × List Nat) := (true, [([], []), ([], []), ([], []), ([1, 2], [1, 2]), ([3], [3]), ([4], [4]), ([0, 5], [0, 5]), ([], []), ([], []), ([7, 8], [7, 8]), ([9], [9]), ([10], [10]), ([6, 11, 6], [6, 11])])
def r43_Right.B16 : List Nat := [0, 0, 0, 6, 14, 30, 63, 0, 0, 384, 896, 1920, 4095]
theorem r43_Right.tab16 : rtab .any (opsOf Tryz.f12 16) = r43_Right.T16 := by kernel_rfl
theorem r43_Right.bits16 : waitsOk r43_Right.T16.2 r43_Right.B16 = true := by kernel_rfl
set_option maxHeartbeats 4000000 in
set_option maxRecDepth 100000 in
theorem r43_Right.calls (k : Nat) (A0 : Option Addr) (c0 : Nat) (l0 : List (S36)) (r : Int) (w : World) (dd : Kd.C k36 w A0 l0.length l0) (de : l0.length ≤ c0) (h : r43_Right.f k l0 = some r) :
  Calls Tryz.prog 12 #[.slice A0 l0.length c0] w fun e w' => e = .returned (.int .i64 r) ∧ Below w.heap.size w w' := by
 have dr := Tryz.underlying36
 have ba := aK dd
 have b6 := aK de
 clear dd de
 have HB := aK (Below.refl w.heap.size w)
 have H : (if (l0.length : Int) > 16 then (some 4) else (r43_Right.l0 k l0 0)) = some r := h
 clear h
 by_cases c2 : (l0.length : Int) > 16
 ·rw [if_pos c2] at H
  have cD := decide_eq_true c2
  have cE : decide (16 < l0.length) = true := decide_eq_true (by omega)
  clear c2
  obtain rfl := Option.some.inj H
  go_enter Tryz.func12,Tryz.ntmps12
  go_wp2
  go_ret
  exact ⟨by first|rfl|(simp [errW_none,errW_some] <;> rfl)|(simp [*,errW_none,errW_some] <;> rfl),bM HB.out⟩
 ·rw [if_neg c2] at H
  have cD := decide_eq_false c2
  have cE : decide (16 < l0.length) = false := decide_eq_false (by omega)
  clear c2
  have H' := aK H
  clear H
  go_enter Tryz.func12,Tryz.ntmps12
  go_wp2
  go_loopg [3] k (fun kq v3 w' => ∃ (aa : Int),v3 = .int .i64 aa ∧ Aside0 (r43_Right.l0 kq l0 aa = some r) ∧ Aside0 (kq ≤ k) ∧ Aside0 (Below w.heap.size w w'))
  case atStart => exact ⟨(0),(by first|rfl|(simp;done)|(simp [*];done)),H',⟨Nat.le_refl _⟩,⟨bM HB.out⟩⟩
  case round =>
   clear H'
   try clear c2
   try clear cD
   try clear cE
   try clear p2
   obtain ⟨aa,rfl,HA,cA,HB⟩ := hrel
   cases gk with
  |zero => exact absurd HA.out (by simp [r43_Right.l0])
  |succ k1 =>
    have H := HA.out
    clear HA
    simp only [r43_Right.l0] at H
    by_cases c3 : aa < (l0.length : Int)
    ·rw [if_pos c3] at H
     have cF := decide_eq_true c3
     clear c3
     obtain ⟨c4,H⟩ := iS H
     have dt := decide_eq_true c4
     clear c4
     replace H := Option.bind_eq_some_iff.mp H
     obtain ⟨cU,df,H⟩ := H
     have A5 := aK df
     clear df
     by_cases c6 : cU = true
     ·subst c6
      rw [if_pos rfl] at H
      replace H := Option.bind_eq_some_iff.mp H
      obtain ⟨b7,dg,H⟩ := H
      have A7 := aK dg
      clear dg
      by_cases c8 : b7 < aa
      ·rw [if_pos c8] at H
       have cV := decide_eq_true c8
       clear c8
       obtain rfl := Option.some.inj H
       have aM : 0 ≤ (aa : Int) := dA
       have aN : aa < (l0.length : Int) := dA
       obtain ⟨aJ,bb,bc,bd,be,bJ,af,ac,ad,aw,ax,ay,az⟩ := at_T36 ba.out aa aM aN
       cases bJ
       replace af := xM HB af
       replace ac := xM HB ac
       replace ad := xM HB ad
       have bk := aK ax
       have bm := aK aw
       clear ax aw
       have bn := aK az
       have bo := aK ay
       clear az ay
       replace aM := eq_true aM
       replace aN := eq_true aN
       go_wp2_with (first|((with_reducible refine gate_callee (f := 35) rfl ?_);refine gL 21 Tryz.func35 #[.string ((rd_T36 l0 aa).f0)] ?_;(with_reducible refine (r02_Simple.calls k1 ((rd_T36 l0 aa).f0) true _ A5.out).mono ?_);rintro e w' ⟨rfl,⟨nd,rfl⟩⟩;refine ⟨_,rfl,?_⟩;have a8 : 0 ≤ (aa : Int) := dA;have a9 : aa < (l0.length : Int) := dA;obtain ⟨bD,bS,bT,bU,bV,bW,aA,ag,ah,aF,aG,aH,aI⟩ := at_T36 ba.out aa a8 a9;obtain rfl : aJ = bD := (by injection bW);replace aA := xM HB aA;replace ag := xM HB ag;replace ah := xM HB ah;have bN := aK aG;have bO := aK aF;clear aG aF;have bP := aK aI;have bQ := aK aH;clear aI aH;replace a8 := eq_true a8;replace a9 := eq_true a9;have ea_ := Option.some.inj (ac.symm.trans ag);injection ea_ with ea_ en_ ec_;subst ea_;subst ec_;clear en_;have ea_ := Option.some.inj (ad.symm.trans ah);injection ea_ with ea_ en_ ec_;subst ea_;subst ec_;clear en_)|((with_reducible refine gate_callee (f := 36) rfl ?_);refine gL 29 Tryz.func36 #[.slice (some aJ) l0.length c0,.string ((rd_T36 l0 aa).f0)] ?_;(with_reducible refine (r43_at.calls k1 _ _ l0 ((rd_T36 l0 aa).f0) b7 _ ?ao ?ap A7.out).mono ?_);(case ao => exact Kd.C_below ba.out (bM HB.out));(case ap => exact b6.out);rintro e w' ⟨rfl,⟨nd,rfl⟩⟩;refine ⟨_,rfl,?_⟩))
       go_ret
       exact ⟨by first|rfl|(simp [errW_none,errW_some] <;> rfl)|(simp [*,errW_none,errW_some] <;> rfl),bM HB.out⟩
      ·rw [if_neg c8] at H
       have cV := decide_eq_false c8
       clear c8
       replace H := Option.bind_eq_some_iff.mp H
       obtain ⟨ch,dh,H⟩ := H
       have A9 := aK dh
       clear dh
       by_cases c10 : ch = 0
       ·rw [if_pos c10] at H
        have cG := beq_iff_eq.mpr c10
        have cH := bne_eq_false_iff_eq.mpr c10
        clear c10
        have H' := aK H
        clear H
        have aM : 0 ≤ (aa : Int) := dA
        have aN : aa < (l0.length : Int) := dA
        obtain ⟨aJ,bb,bc,bd,be,bJ,af,ac,ad,aw,ax,ay,az⟩ := at_T36 ba.out aa aM aN
        cases bJ
        replace af := xM HB af
        replace ac := xM HB ac
        replace ad := xM HB ad
        have bk := aK ax
        have bm := aK aw
        clear ax aw
        have bn := aK az
        have bo := aK ay
        clear az ay
        replace aM := eq_true aM
        replace aN := eq_true aN
        go_wp2_with (first|((with_reducible refine gate_callee (f := 35) rfl ?_);refine gL 21 Tryz.func35 #[.string ((rd_T36 l0 aa).f0)] ?_;(with_reducible refine (r02_Simple.calls k1 ((rd_T36 l0 aa).f0) true _ A5.out).mono ?_);rintro e w' ⟨rfl,⟨nd,rfl⟩⟩;refine ⟨_,rfl,?_⟩;have a8 : 0 ≤ (aa : Int) := dA;have a9 : aa < (l0.length : Int) := dA;obtain ⟨bD,bS,bT,bU,bV,bW,aA,ag,ah,aF,aG,aH,aI⟩ := at_T36 ba.out aa a8 a9;obtain rfl : aJ = bD := (by injection bW);replace aA := xM HB aA;replace ag := xM HB ag;replace ah := xM HB ah;have bN := aK aG;have bO := aK aF;clear aG aF;have bP := aK aI;have bQ := aK aH;clear aI aH;replace a8 := eq_true a8;replace a9 := eq_true a9;have ea_ := Option.some.inj (ac.symm.trans ag);injection ea_ with ea_ en_ ec_;subst ea_;subst ec_;clear en_;have ea_ := Option.some.inj (ad.symm.trans ah);injection ea_ with ea_ en_ ec_;subst ea_;subst ec_;clear en_)|((with_reducible refine gate_callee (f := 36) rfl ?_);refine gL 29 Tryz.func36 #[.slice (some aJ) l0.length c0,.string ((rd_T36 l0 aa).f0)] ?_;(with_reducible refine (r43_at.calls k1 _ _ l0 ((rd_T36 l0 aa).f0) b7 _ ?ao ?ap A7.out).mono ?_);(case ao => exact Kd.C_below ba.out (bM HB.out));(case ap => exact b6.out);rintro e w' ⟨rfl,⟨nd,rfl⟩⟩;refine ⟨_,rfl,?_⟩;have bp : 0 ≤ (aa : Int) := dA;have bq : aa < (l0.length : Int) := dA;obtain ⟨bX,ci,cj,ck,cl,cm,aL,aD,aE,aP,aQ,aR,aS⟩ := at_T36 ba.out aa bp bq;obtain rfl : aJ = bX := (by injection cm);replace aL := xM HB aL;replace aD := xM HB aD;replace aE := xM HB aE;have br := aK aQ;have bs := aK aP;clear aQ aP;have bu := aK aS;have bv := aK aR;clear aS aR;replace bp := eq_true bp;replace bq := eq_true bq;have ea_ := Option.some.inj (ac.symm.trans aD);injection ea_ with ea_ en_ ec_;subst ea_;subst ec_;clear en_;have ea_ := Option.some.inj (ad.symm.trans aE);injection ea_ with ea_ en_ ec_;subst ea_;subst ec_;clear en_)|((with_reducible refine gate_callee (f := 37) rfl ?_);refine gL 37 Tryz.func37 #[.slice (some aJ) l0.length c0,.agg #[.string ((rd_T36 l0 aa).f0),.slice bb ((rd_T36 l0 aa).f1).length bc,.slice bd ((rd_T36 l0 aa).f2).length be]] ?_;(with_reducible refine (r43_members.calls k1 _ _ l0 ((rd_T36 l0 aa).f0) _ _ ((rd_T36 l0 aa).f1) _ _ ((rd_T36 l0 aa).f2) ch _ ?ao ?ap ?bY ?bZ ?b1 ?b2 A9.out).mono ?_);(case ao => exact Kd.C_below ba.out (bM HB.out));(case ap => exact b6.out);(case bY => exact Kd.C_below br.out (bM HB.out));(case bZ => exact bs.out);(case b1 => exact Kd.C_below bu.out (bM HB.out));(case b2 => exact bv.out);rintro e du ⟨rfl,hb⟩;refine ⟨_,rfl,?_⟩;replace HB := aK (below_step (bM HB.out) hb);(try clear hb)))
        go_roundg k1
        case measure => have := cA.out;omega
        case rel => exact ⟨(wrap64 (aa + 1)),(by first|rfl|(simp;done)|(simp [*];done)),H',⟨by have := cA.out;omega⟩,⟨bM HB.out⟩⟩
       ·rw [if_neg c10] at H
        have cG := beq_eq_false_iff_ne.mpr c10
        have cH := bne_iff_ne.mpr c10
        obtain rfl := Option.some.inj H
        have aM : 0 ≤ (aa : Int) := dA
        have aN : aa < (l0.length : Int) := dA
        obtain ⟨aJ,bb,bc,bd,be,bJ,af,ac,ad,aw,ax,ay,az⟩ := at_T36 ba.out aa aM aN
        cases bJ
        replace af := xM HB af
        replace ac := xM HB ac
        replace ad := xM HB ad
        have bk := aK ax
        have bm := aK aw
        clear ax aw
        have bn := aK az
        have bo := aK ay
        clear az ay
        replace aM := eq_true aM
        replace aN := eq_true aN
        go_wp2_with (first|((with_reducible refine gate_callee (f := 35) rfl ?_);refine gL 21 Tryz.func35 #[.string ((rd_T36 l0 aa).f0)] ?_;(with_reducible refine (r02_Simple.calls k1 ((rd_T36 l0 aa).f0) true _ A5.out).mono ?_);rintro e w' ⟨rfl,⟨nd,rfl⟩⟩;refine ⟨_,rfl,?_⟩;have a8 : 0 ≤ (aa : Int) := dA;have a9 : aa < (l0.length : Int) := dA;obtain ⟨bD,bS,bT,bU,bV,bW,aA,ag,ah,aF,aG,aH,aI⟩ := at_T36 ba.out aa a8 a9;obtain rfl : aJ = bD := (by injection bW);replace aA := xM HB aA;replace ag := xM HB ag;replace ah := xM HB ah;have bN := aK aG;have bO := aK aF;clear aG aF;have bP := aK aI;have bQ := aK aH;clear aI aH;replace a8 := eq_true a8;replace a9 := eq_true a9;have ea_ := Option.some.inj (ac.symm.trans ag);injection ea_ with ea_ en_ ec_;subst ea_;subst ec_;clear en_;have ea_ := Option.some.inj (ad.symm.trans ah);injection ea_ with ea_ en_ ec_;subst ea_;subst ec_;clear en_)|((with_reducible refine gate_callee (f := 36) rfl ?_);refine gL 29 Tryz.func36 #[.slice (some aJ) l0.length c0,.string ((rd_T36 l0 aa).f0)] ?_;(with_reducible refine (r43_at.calls k1 _ _ l0 ((rd_T36 l0 aa).f0) b7 _ ?ao ?ap A7.out).mono ?_);(case ao => exact Kd.C_below ba.out (bM HB.out));(case ap => exact b6.out);rintro e w' ⟨rfl,⟨nd,rfl⟩⟩;refine ⟨_,rfl,?_⟩;have bp : 0 ≤ (aa : Int) := dA;have bq : aa < (l0.length : Int) := dA;obtain ⟨bX,ci,cj,ck,cl,cm,aL,aD,aE,aP,aQ,aR,aS⟩ := at_T36 ba.out aa bp bq;obtain rfl : aJ = bX := (by injection cm);replace aL := xM HB aL;replace aD := xM HB aD;replace aE := xM HB aE;have br := aK aQ;have bs := aK aP;clear aQ aP;have bu := aK aS;have bv := aK aR;clear aS aR;replace bp := eq_true bp;replace bq := eq_true bq;have ea_ := Option.some.inj (ac.symm.trans aD);injection ea_ with ea_ en_ ec_;subst ea_;subst ec_;clear en_;have ea_ := Option.some.inj (ad.symm.trans aE);injection ea_ with ea_ en_ ec_;subst ea_;subst ec_;clear en_)|((with_reducible refine gate_callee (f := 37) rfl ?_);refine gL 37 Tryz.func37 #[.slice (some aJ) l0.length c0,.agg #[.string ((rd_T36 l0 aa).f0),.slice bb ((rd_T36 l0 aa).f1).length bc,.slice bd ((rd_T36 l0 aa).f2).length be]] ?_;(with_reducible refine (r43_members.calls k1 _ _ l0 ((rd_T36 l0 aa).f0) _ _ ((rd_T36 l0 aa).f1) _ _ ((rd_T36 l0 aa).f2) ch _ ?ao ?ap ?bY ?bZ ?b1 ?b2 A9.out).mono ?_);(case ao => exact Kd.C_below ba.out (bM HB.out));(case ap => exact b6.out);(case bY => exact Kd.C_below br.out (bM HB.out));(case bZ => exact bs.out);(case b1 => exact Kd.C_below bu.out (bM HB.out));(case b2 => exact bv.out);rintro e dv ⟨rfl,hb⟩;refine ⟨_,rfl,?_⟩;replace HB := aK (below_step (bM HB.out) hb);(try clear hb)))
        go_ret
        exact ⟨by first|rfl|(simp [errW_none,errW_some] <;> rfl)|(simp [*,errW_none,errW_some] <;> rfl),bM HB.out⟩
     ·replace c6 := Bool.eq_false_iff.mpr c6
      subst c6
      rw [if_neg (show ¬ (false = true) by decide)] at H
      obtain rfl := Option.some.inj H
      have aM : 0 ≤ (aa : Int) := dA
      have aN : aa < (l0.length : Int) := dA
      obtain ⟨aJ,bb,bc,bd,be,bJ,af,ac,ad,aw,ax,ay,az⟩ := at_T36 ba.out aa aM aN
      cases bJ
      replace af := xM HB af
      replace ac := xM HB ac
      replace ad := xM HB ad
      have bk := aK ax
      have bm := aK aw
      clear ax aw
      have bn := aK az
      have bo := aK ay
      clear az ay
      replace aM := eq_true aM
      replace aN := eq_true aN
      go_wp2_with (first|((with_reducible refine gate_callee (f := 35) rfl ?_);refine gL 21 Tryz.func35 #[.string ((rd_T36 l0 aa).f0)] ?_;(with_reducible refine (r02_Simple.calls k1 ((rd_T36 l0 aa).f0) false _ A5.out).mono ?_);rintro e w' ⟨rfl,⟨nd,rfl⟩⟩;refine ⟨_,rfl,?_⟩))
      go_ret
      exact ⟨by first|rfl|(simp [errW_none,errW_some] <;> rfl)|(simp [*,errW_none,errW_some] <;> rfl),bM HB.out⟩
    ·rw [if_neg c3] at H
     have cF := decide_eq_false c3
     clear c3
     have H' := aK H
     clear H
     go_wp2
     go_loopg [5] k1 (fun kq v5 w' => ∃ (ab : Int),v5 = .int .i64 ab ∧ Aside0 (r43_Right.l1 kq l0 ab = some r) ∧ Aside0 (kq ≤ k1) ∧ Aside0 (Below w.heap.size w w'))
     case atStart => exact ⟨(0),(by first|rfl|(simp;done)|(simp [*];done)),H',⟨Nat.le_refl _⟩,⟨bM HB.out⟩⟩
     case round =>
      clear H'
      try clear p2
      try clear c3
      try clear cF
      try clear p3
      try clear q3
      try clear hx3
      try clear p6
      try clear af
      try clear ac
      try clear ad
      try clear aA
      try clear ag
      try clear ah
      try clear aL
      try clear aD
      try clear aE
      try clear p2
      try clear aM
      try clear a8
      try clear bp
      try clear aN
      try clear a9
      try clear bq
      obtain ⟨ab,rfl,HA,cS,HB⟩ := hrel
      cases gk with
     |zero => exact absurd HA.out (by simp [r43_Right.l1])
     |succ k2 =>
       have H := HA.out
       clear HA
       simp only [r43_Right.l1] at H
       by_cases cn : ab < (l0.length : Int)
       ·rw [if_pos cn] at H
        have cg := decide_eq_true cn
        clear cn
        obtain ⟨di,H⟩ := iS H
        have dj := decide_eq_true di
        clear di
        replace H := Option.bind_eq_some_iff.mp H
        obtain ⟨bR,cI,H⟩ := H
        have dk := aK cI
        clear cI
        replace H := Option.bind_eq_some_iff.mp H
        obtain ⟨cW,cJ,H⟩ := H
        have dl := aK cJ
        clear cJ
        by_cases cT : cW = true
        ·subst cT
         rw [if_pos rfl] at H
         obtain rfl := Option.some.inj H
         try go_wp2
         have b3 := aK (below_drew1 HB.out)
         clear HB
         have HB := b3
         clear b3
         have bE : 0 ≤ (ab : Int) := dA
         have bF : ab < (l0.length : Int) := dA
         obtain ⟨ae,bf,bg,bh,bi,co,aB,aq,ar,aT,aU,aV,aW⟩ := at_T36 ba.out ab bE bF
         have ai := ar
         have aj := aq
         have ak := aB
         cases co
         replace aB := xM HB aB
         replace aq := xM HB aq
         replace ar := xM HB ar
         have bx := aK aU
         have b8 := aK aT
         clear aU aT
         have bz := aK aW
         have b9 := aK aV
         clear aW aV
         replace bE := eq_true bE
         replace bF := eq_true bF
         have bH : 0 ≤ (ab : Int) := dA
         have bI : ab < (l0.length : Int) := dA
         obtain ⟨b4,cp,cq,cr,cs,ct,aC,au,av,aX,aY,aZ,a0⟩ := at_T36 ba.out ab bH bI
         have al := av
         have am := au
         have an := aC
         obtain rfl : ae = b4 := (by injection ct)
         replace aC := xM HB aC
         replace au := xM HB au
         replace av := xM HB av
         have bB := aK aY
         have ca := aK aX
         clear aY aX
         have bC := aK a0
         have cb := aK aZ
         clear a0 aZ
         replace bH := eq_true bH
         replace bI := eq_true bI
         have ea_ := Option.some.inj (aq.symm.trans au)
         injection ea_ with ea_ en_ ec_
         subst ea_
         subst ec_
         clear en_
         have ea_ := Option.some.inj (ar.symm.trans av)
         injection ea_ with ea_ en_ ec_
         subst ea_
         subst ec_
         clear en_
         refine start_ (n := 13) (S := fun w' => w'.cell? (ae.add ((ab).toNat * 3)) = some (.string ((rd_T36 l0 ab).f0)) ∧ w'.cell? ⟨(ae.add ((ab).toNat * 3)).block,(ae.add ((ab).toNat * 3)).off + 1,none⟩ = some (.slice bf ((rd_T36 l0 ab).f1).length bg) ∧ w'.cell? ⟨(ae.add ((ab).toNat * 3)).block,(ae.add ((ab).toNat * 3)).off + 2,none⟩ = some (.slice bh ((rd_T36 l0 ab).f2).length bi) ∧ w'.cell? (ae.add ((ab).toNat * 3)) = some (.string ((rd_T36 l0 ab).f0)) ∧ w'.cell? ⟨(ae.add ((ab).toNat * 3)).block,(ae.add ((ab).toNat * 3)).off + 1,none⟩ = some (.slice bf ((rd_T36 l0 ab).f1).length bg) ∧ w'.cell? ⟨(ae.add ((ab).toNat * 3)).block,(ae.add ((ab).toNat * 3)).off + 2,none⟩ = some (.slice bh ((rd_T36 l0 ab).f2).length bi)) (ds := []) (bA 13 0) (by kernel_rfl) rfl rfl ⟨((HB.out.cell (World.block_lt_of_cell? w _ ak)).trans ak),((HB.out.cell (World.block_lt_of_cell? w _ aj)).trans aj),((HB.out.cell (World.block_lt_of_cell? w _ ai)).trans ai),((HB.out.cell (World.block_lt_of_cell? w _ an)).trans an),((HB.out.cell (World.block_lt_of_cell? w _ am)).trans am),((HB.out.cell (World.block_lt_of_cell? w _ al)).trans al)⟩ (fun hHeld => ?_);refine with_tabW r43_Right.tab16 r43_Right.bits16 (fun HT_ HW_ => ?_)
         generalize wr.drew = w18 at HB bx bz bB bC aB aq ar aC au av hHeld ⊢
         refine pure_ (i := 0) (N := some 47) (v := ?_) (a' := ?_) (bA 13 1) rfl rfl (any_of HT_.out (by kernel_rfl)) (fun _ _ _ h => h) (Or.inl ⟨by rfl,?_⟩) ?_ ?_
         rotate_left
         ·intro w'
          go_simp
          with_reducible rfl
         rotate_left
         ·simp only [Act.put,z1_,z2_,z3_,i64_w,i32_w]
          rfl
         refine pure_ (i := 1) (N := some 48) (v := ?_) (a' := ?_) (bA 13 3) rfl rfl (any_of HT_.out (by kernel_rfl)) (fun _ _ _ h => h) (Or.inl ⟨by rfl,?_⟩) ?_ ?_
         rotate_left
         ·intro w'
          go_simp
          with_reducible rfl
         rotate_left
         ·simp only [Act.put,z1_,z2_,z3_,i64_w,i32_w]
          rfl
         refine pure_ (i := 2) (N := some 49) (v := ?_) (a' := ?_) (bA 13 7) rfl rfl (any_of HT_.out (by kernel_rfl)) (fun _ _ _ h => h) (Or.inl ⟨by rfl,?_⟩) ?_ ?_
         rotate_left
         ·intro w'
          go_simp
          with_reducible rfl
         rotate_left
         ·simp only [Act.put,z1_,z2_,z3_,i64_w,i32_w]
          rfl
         refine pure_ (i := 3) (N := some 50) (v := ?_) (a' := ?_) (bA 13 15) rfl rfl (any_of HT_.out (by kernel_rfl)) (fun _ _ _ h => h) (Or.inl ⟨by rfl,?_⟩) ?_ ?_
         rotate_left
         ·intro w'
          go_simp
          with_reducible rfl
         rotate_left
         ·simp only [Act.put,z1_,z2_,z3_,i64_w,i32_w]
          rfl
         refine pure_ (i := 4) (N := some 51) (v := ?_) (a' := ?_) (bA 13 31) rfl rfl (any_of HT_.out (by kernel_rfl)) (fun _ _ _ h => h) (Or.inl ⟨by rfl,?_⟩) ?_ ?_
         rotate_left
         ·intro w'
          go_simp
          with_reducible rfl
         rotate_left
         ·simp only [Act.put,z1_,z2_,z3_,i64_w,i32_w]
          rfl
         refine pure_ (i := 7) (N := some 54) (v := ?_) (a' := ?_) (bA 13 159) rfl rfl (any_of HT_.out (by kernel_rfl)) (fun _ _ _ h => h) (Or.inl ⟨by rfl,?_⟩) ?_ ?_
         rotate_left
         ·intro w'
          go_simp
          with_reducible rfl
         rotate_left
         ·simp only [Act.put,z1_,z2_,z3_,i64_w,i32_w]
          rfl
         refine pure_ (i := 8) (N := some 55) (v := ?_) (a' := ?_) (bA 13 415) rfl rfl (any_of HT_.out (by kernel_rfl)) (fun _ _ _ h => h) (Or.inl ⟨by rfl,?_⟩) ?_ ?_
         rotate_left
         ·intro w'
          go_simp
          with_reducible rfl
         rotate_left
         ·simp only [Act.put,z1_,z2_,z3_,i64_w,i32_w]
          rfl
         refine pure_ (i := 9) (N := some 56) (v := ?_) (a' := ?_) (bA 13 927) rfl rfl (any_of HT_.out (by kernel_rfl)) (fun _ _ _ h => h) (Or.inl ⟨by rfl,?_⟩) ?_ ?_
         rotate_left
         ·intro w'
          go_simp
          with_reducible rfl
         rotate_left
         ·simp only [Act.put,z1_,z2_,z3_,i64_w,i32_w]
          rfl
         refine pure_ (i := 10) (N := some 57) (v := ?_) (a' := ?_) (bA 13 1951) rfl rfl (any_of HT_.out (by kernel_rfl)) (fun _ _ _ h => h) (Or.inl ⟨by rfl,?_⟩) ?_ ?_
         rotate_left
         ·intro w'
          go_simp
          with_reducible rfl
         rotate_left
         ·simp only [Act.put,z1_,z2_,z3_,i64_w,i32_w]
          rfl
         refine take_ (i := 5) (N := some 52) (v := ?_) (a' := ?_) (bA 13 1983) rfl rfl (take_ofW HT_.out HW_.out (by kernel_rfl)) (fun _ _ _ h => h) (Or.inl ⟨by rfl,?_⟩) hHeld ?_ ?_
         rotate_left
         ·rintro w' ⟨s0,s1,s2,s3,s4,s5⟩
          go_simp
          with_reducible rfl
         rotate_left
         ·simp only [Act.put,z1_,z2_,z3_,i64_w,i32_w]
          rfl
         refine take_ (i := 11) (N := some 58) (v := ?_) (a' := ?_) (bA 13 4031) rfl rfl (take_ofW HT_.out HW_.out (by kernel_rfl)) (fun _ _ _ h => h) (Or.inl ⟨by rfl,?_⟩) hHeld ?_ ?_
         rotate_left
         ·rintro w' ⟨s0,s1,s2,s3,s4,s5⟩
          go_simp
          with_reducible rfl
         rotate_left
         ·simp only [Act.put,z1_,z2_,z3_,i64_w,i32_w]
          rfl
         refine one_ (i := 6) (N := some 53) (bA 13 4095) rfl rfl (one_of HT_.out (by kernel_rfl)) (by decide) (fun K hK => ?_)
         refine goes_ Tryz.func39 (by kernel_rfl) rfl #[.slice (some ae) l0.length c0,.string ((rd_T36 l0 ab).f0)] (by rfl) rfl rfl (by (try simp only [z4_,z5_,z6_]);first|done|rfl|(simp only [z7_,z8_];rfl)) ?_
         with_reducible refine (r43_inside.calls k2 _ _ l0 ((rd_T36 l0 ab).f0) bR _ ?ao ?ap dk.out).mono ?_
         (case ao => exact cM (Kd.C_below ba.out HB.out))
         (case ap => exact b6.out)
         rintro e dw ⟨cX,rfl,cK,hb⟩
         refine ⟨_,rfl,?_⟩
         have b3 := aK (Kd.V_lower (Kd.V_mono (ok' := fun k_ => True) cK (fun k_ hk_ => trivial)) (below_size (bM HB.out)))
         have cL := aK (below_step (bM HB.out) hb)
         clear HB
         have bj := b3
         have HB := cL
         clear b3 cL
         (try clear hb)
         (try clear cK)
         obtain ⟨cY,cZ,cN⟩ := Kd.V_slice bj.out
         (first|subst cN|(injection cN with f1_ f2_ f3_;have c1 := f1_.symm;have da := f3_.symm;clear f1_ f2_ f3_;subst c1;subst da))
         refine hK.out _ _ ⟨((HB.out.cell (World.block_lt_of_cell? w _ ak)).trans ak),((HB.out.cell (World.block_lt_of_cell? w _ aj)).trans aj),((HB.out.cell (World.block_lt_of_cell? w _ ai)).trans ai),((HB.out.cell (World.block_lt_of_cell? w _ an)).trans an),((HB.out.cell (World.block_lt_of_cell? w _ am)).trans am),((HB.out.cell (World.block_lt_of_cell? w _ al)).trans al)⟩ (fun hHeld => ?_)
         clear hK K
         refine norm_ (a' := ?_) ?_ ?_
         rotate_left
         ·show Act.put _ (some 53) _ = _
          simp only [Act.put,z1_,z2_,z3_,i64_w,i32_w]
          rfl
         refine one_ (i := 12) (N := some 59) (bA 13 8191) rfl rfl (one_of HT_.out (by kernel_rfl)) (by decide) (fun K hK => ?_)
         refine goes_ Tryz.func38 (by kernel_rfl) rfl #[.slice cY bR.length cZ,.string ((rd_T36 l0 ab).f0)] (by rfl) rfl rfl (by (try simp only [z4_,z5_,z6_]);first|done|rfl|(simp only [z7_,z8_];rfl)) ?_
         with_reducible refine (r43_inText.calls k2 _ _ bR ((rd_T36 l0 ab).f0) true _ ?ao ?ap dl.out).mono ?_
         (case ao => exact cM (Kd.V_reads' bj.out).2.2)
         (case ap => exact (Kd.V_reads' bj.out).2.1)
         rintro e w' ⟨rfl,⟨nd,rfl⟩⟩
         refine ⟨_,rfl,?_⟩
         refine hK.out _ _ ⟨((HB.out.cell (World.block_lt_of_cell? w _ ak)).trans ak),((HB.out.cell (World.block_lt_of_cell? w _ aj)).trans aj),((HB.out.cell (World.block_lt_of_cell? w _ ai)).trans ai),((HB.out.cell (World.block_lt_of_cell? w _ an)).trans an),((HB.out.cell (World.block_lt_of_cell? w _ am)).trans am),((HB.out.cell (World.block_lt_of_cell? w _ al)).trans al)⟩ (fun hHeld => ?_)
         clear hK K
         refine norm_ (a' := ?_) ?_ ?_
         rotate_left
         ·show Act.put _ (some 59) _ = _
          simp only [Act.put,z1_,z2_,z3_,i64_w,i32_w]
          rfl
         refine done_ (done_of HT_.out (by kernel_rfl)) ?_
         try go_wp2
         go_ret
         exact ⟨by first|rfl|(simp [errW_none,errW_some] <;> rfl)|(simp [*,errW_none,errW_some] <;> rfl),bM HB.out⟩
        ·replace cT := Bool.eq_false_iff.mpr cT
         subst cT
         rw [if_neg (show ¬ (false = true) by decide)] at H
         have H' := aK H
         clear H
         try go_wp2
         have b3 := aK (below_drew1 HB.out)
         clear HB
         have HB := b3
         clear b3
         have bE : 0 ≤ (ab : Int) := dA
         have bF : ab < (l0.length : Int) := dA
         obtain ⟨ae,bf,bg,bh,bi,co,aB,aq,ar,aT,aU,aV,aW⟩ := at_T36 ba.out ab bE bF
         have ai := ar
         have aj := aq
         have ak := aB
         cases co
         replace aB := xM HB aB
         replace aq := xM HB aq
         replace ar := xM HB ar
         have bx := aK aU
         have b8 := aK aT
         clear aU aT
         have bz := aK aW
         have b9 := aK aV
         clear aW aV
         replace bE := eq_true bE
         replace bF := eq_true bF
         have bH : 0 ≤ (ab : Int) := dA
         have bI : ab < (l0.length : Int) := dA
         obtain ⟨b4,cp,cq,cr,cs,ct,aC,au,av,aX,aY,aZ,a0⟩ := at_T36 ba.out ab bH bI
         have al := av
         have am := au
         have an := aC
         obtain rfl : ae = b4 := (by injection ct)
         replace aC := xM HB aC
         replace au := xM HB au
         replace av := xM HB av
         have bB := aK aY
         have ca := aK aX
         clear aY aX
         have bC := aK a0
         have cb := aK aZ
         clear a0 aZ
         replace bH := eq_true bH
         replace bI := eq_true bI
         have ea_ := Option.some.inj (aq.symm.trans au)
         injection ea_ with ea_ en_ ec_
         subst ea_
         subst ec_
         clear en_
         have ea_ := Option.some.inj (ar.symm.trans av)
         injection ea_ with ea_ en_ ec_
         subst ea_
         subst ec_
         clear en_
         refine start_ (n := 13) (S := fun w' => w'.cell? (ae.add ((ab).toNat * 3)) = some (.string ((rd_T36 l0 ab).f0)) ∧ w'.cell? ⟨(ae.add ((ab).toNat * 3)).block,(ae.add ((ab).toNat * 3)).off + 1,none⟩ = some (.slice bf ((rd_T36 l0 ab).f1).length bg) ∧ w'.cell? ⟨(ae.add ((ab).toNat * 3)).block,(ae.add ((ab).toNat * 3)).off + 2,none⟩ = some (.slice bh ((rd_T36 l0 ab).f2).length bi) ∧ w'.cell? (ae.add ((ab).toNat * 3)) = some (.string ((rd_T36 l0 ab).f0)) ∧ w'.cell? ⟨(ae.add ((ab).toNat * 3)).block,(ae.add ((ab).toNat * 3)).off + 1,none⟩ = some (.slice bf ((rd_T36 l0 ab).f1).length bg) ∧ w'.cell? ⟨(ae.add ((ab).toNat * 3)).block,(ae.add ((ab).toNat * 3)).off + 2,none⟩ = some (.slice bh ((rd_T36 l0 ab).f2).length bi)) (ds := []) (bA 13 0) (by kernel_rfl) rfl rfl ⟨((HB.out.cell (World.block_lt_of_cell? w _ ak)).trans ak),((HB.out.cell (World.block_lt_of_cell? w _ aj)).trans aj),((HB.out.cell (World.block_lt_of_cell? w _ ai)).trans ai),((HB.out.cell (World.block_lt_of_cell? w _ an)).trans an),((HB.out.cell (World.block_lt_of_cell? w _ am)).trans am),((HB.out.cell (World.block_lt_of_cell? w _ al)).trans al)⟩ (fun hHeld => ?_);refine with_tabW r43_Right.tab16 r43_Right.bits16 (fun HT_ HW_ => ?_)
         generalize wr.drew = w21 at HB bx bz bB bC aB aq ar aC au av hHeld ⊢
         refine pure_ (i := 0) (N := some 47) (v := ?_) (a' := ?_) (bA 13 1) rfl rfl (any_of HT_.out (by kernel_rfl)) (fun _ _ _ h => h) (Or.inl ⟨by rfl,?_⟩) ?_ ?_
         rotate_left
         ·intro w'
          go_simp
          with_reducible rfl
         rotate_left
         ·simp only [Act.put,z1_,z2_,z3_,i64_w,i32_w]
          rfl
         refine pure_ (i := 1) (N := some 48) (v := ?_) (a' := ?_) (bA 13 3) rfl rfl (any_of HT_.out (by kernel_rfl)) (fun _ _ _ h => h) (Or.inl ⟨by rfl,?_⟩) ?_ ?_
         rotate_left
         ·intro w'
          go_simp
          with_reducible rfl
         rotate_left
         ·simp only [Act.put,z1_,z2_,z3_,i64_w,i32_w]
          rfl
         refine pure_ (i := 2) (N := some 49) (v := ?_) (a' := ?_) (bA 13 7) rfl rfl (any_of HT_.out (by kernel_rfl)) (fun _ _ _ h => h) (Or.inl ⟨by rfl,?_⟩) ?_ ?_
         rotate_left
         ·intro w'
          go_simp
          with_reducible rfl
         rotate_left
         ·simp only [Act.put,z1_,z2_,z3_,i64_w,i32_w]
          rfl
         refine pure_ (i := 3) (N := some 50) (v := ?_) (a' := ?_) (bA 13 15) rfl rfl (any_of HT_.out (by kernel_rfl)) (fun _ _ _ h => h) (Or.inl ⟨by rfl,?_⟩) ?_ ?_
         rotate_left
         ·intro w'
          go_simp
          with_reducible rfl
         rotate_left
         ·simp only [Act.put,z1_,z2_,z3_,i64_w,i32_w]
          rfl
         refine pure_ (i := 4) (N := some 51) (v := ?_) (a' := ?_) (bA 13 31) rfl rfl (any_of HT_.out (by kernel_rfl)) (fun _ _ _ h => h) (Or.inl ⟨by rfl,?_⟩) ?_ ?_
         rotate_left
         ·intro w'
          go_simp
          with_reducible rfl
         rotate_left
         ·simp only [Act.put,z1_,z2_,z3_,i64_w,i32_w]
          rfl
         refine pure_ (i := 7) (N := some 54) (v := ?_) (a' := ?_) (bA 13 159) rfl rfl (any_of HT_.out (by kernel_rfl)) (fun _ _ _ h => h) (Or.inl ⟨by rfl,?_⟩) ?_ ?_
         rotate_left
         ·intro w'
          go_simp
          with_reducible rfl
         rotate_left
         ·simp only [Act.put,z1_,z2_,z3_,i64_w,i32_w]
          rfl
         refine pure_ (i := 8) (N := some 55) (v := ?_) (a' := ?_) (bA 13 415) rfl rfl (any_of HT_.out (by kernel_rfl)) (fun _ _ _ h => h) (Or.inl ⟨by rfl,?_⟩) ?_ ?_
         rotate_left
         ·intro w'
          go_simp
          with_reducible rfl
         rotate_left
         ·simp only [Act.put,z1_,z2_,z3_,i64_w,i32_w]
          rfl
         refine pure_ (i := 9) (N := some 56) (v := ?_) (a' := ?_) (bA 13 927) rfl rfl (any_of HT_.out (by kernel_rfl)) (fun _ _ _ h => h) (Or.inl ⟨by rfl,?_⟩) ?_ ?_
         rotate_left
         ·intro w'
          go_simp
          with_reducible rfl
         rotate_left
         ·simp only [Act.put,z1_,z2_,z3_,i64_w,i32_w]
          rfl
         refine pure_ (i := 10) (N := some 57) (v := ?_) (a' := ?_) (bA 13 1951) rfl rfl (any_of HT_.out (by kernel_rfl)) (fun _ _ _ h => h) (Or.inl ⟨by rfl,?_⟩) ?_ ?_
         rotate_left
         ·intro w'
          go_simp
          with_reducible rfl
         rotate_left
         ·simp only [Act.put,z1_,z2_,z3_,i64_w,i32_w]
          rfl
         refine take_ (i := 5) (N := some 52) (v := ?_) (a' := ?_) (bA 13 1983) rfl rfl (take_ofW HT_.out HW_.out (by kernel_rfl)) (fun _ _ _ h => h) (Or.inl ⟨by rfl,?_⟩) hHeld ?_ ?_
         rotate_left
         ·rintro w' ⟨s0,s1,s2,s3,s4,s5⟩
          go_simp
          with_reducible rfl
         rotate_left
         ·simp only [Act.put,z1_,z2_,z3_,i64_w,i32_w]
          rfl
         refine take_ (i := 11) (N := some 58) (v := ?_) (a' := ?_) (bA 13 4031) rfl rfl (take_ofW HT_.out HW_.out (by kernel_rfl)) (fun _ _ _ h => h) (Or.inl ⟨by rfl,?_⟩) hHeld ?_ ?_
         rotate_left
         ·rintro w' ⟨s0,s1,s2,s3,s4,s5⟩
          go_simp
          with_reducible rfl
         rotate_left
         ·simp only [Act.put,z1_,z2_,z3_,i64_w,i32_w]
          rfl
         refine one_ (i := 6) (N := some 53) (bA 13 4095) rfl rfl (one_of HT_.out (by kernel_rfl)) (by decide) (fun K hK => ?_)
         refine goes_ Tryz.func39 (by kernel_rfl) rfl #[.slice (some ae) l0.length c0,.string ((rd_T36 l0 ab).f0)] (by rfl) rfl rfl (by (try simp only [z4_,z5_,z6_]);first|done|rfl|(simp only [z7_,z8_];rfl)) ?_
         with_reducible refine (r43_inside.calls k2 _ _ l0 ((rd_T36 l0 ab).f0) bR _ ?ao ?ap dk.out).mono ?_
         (case ao => exact cM (Kd.C_below ba.out HB.out))
         (case ap => exact b6.out)
         rintro e dx ⟨cX,rfl,cK,hb⟩
         refine ⟨_,rfl,?_⟩
         have b3 := aK (Kd.V_lower (Kd.V_mono (ok' := fun k_ => True) cK (fun k_ hk_ => trivial)) (below_size (bM HB.out)))
         have cL := aK (below_step (bM HB.out) hb)
         clear HB
         have bj := b3
         have HB := cL
         clear b3 cL
         (try clear hb)
         (try clear cK)
         obtain ⟨db,dc,cO⟩ := Kd.V_slice bj.out
         (first|subst cO|(injection cO with f1_ f2_ f3_;have c1 := f1_.symm;have da := f3_.symm;clear f1_ f2_ f3_;subst c1;subst da))
         refine hK.out _ _ ⟨((HB.out.cell (World.block_lt_of_cell? w _ ak)).trans ak),((HB.out.cell (World.block_lt_of_cell? w _ aj)).trans aj),((HB.out.cell (World.block_lt_of_cell? w _ ai)).trans ai),((HB.out.cell (World.block_lt_of_cell? w _ an)).trans an),((HB.out.cell (World.block_lt_of_cell? w _ am)).trans am),((HB.out.cell (World.block_lt_of_cell? w _ al)).trans al)⟩ (fun hHeld => ?_)
         clear hK K
         refine norm_ (a' := ?_) ?_ ?_
         rotate_left
         ·show Act.put _ (some 53) _ = _
          simp only [Act.put,z1_,z2_,z3_,i64_w,i32_w]
          rfl
         refine one_ (i := 12) (N := some 59) (bA 13 8191) rfl rfl (one_of HT_.out (by kernel_rfl)) (by decide) (fun K hK => ?_)
         refine goes_ Tryz.func38 (by kernel_rfl) rfl #[.slice db bR.length dc,.string ((rd_T36 l0 ab).f0)] (by rfl) rfl rfl (by (try simp only [z4_,z5_,z6_]);first|done|rfl|(simp only [z7_,z8_];rfl)) ?_
         with_reducible refine (r43_inText.calls k2 _ _ bR ((rd_T36 l0 ab).f0) false _ ?ao ?ap dl.out).mono ?_
         (case ao => exact cM (Kd.V_reads' bj.out).2.2)
         (case ap => exact (Kd.V_reads' bj.out).2.1)
         rintro e w' ⟨rfl,⟨nd,rfl⟩⟩
         refine ⟨_,rfl,?_⟩
         refine hK.out _ _ ⟨((HB.out.cell (World.block_lt_of_cell? w _ ak)).trans ak),((HB.out.cell (World.block_lt_of_cell? w _ aj)).trans aj),((HB.out.cell (World.block_lt_of_cell? w _ ai)).trans ai),((HB.out.cell (World.block_lt_of_cell? w _ an)).trans an),((HB.out.cell (World.block_lt_of_cell? w _ am)).trans am),((HB.out.cell (World.block_lt_of_cell? w _ al)).trans al)⟩ (fun hHeld => ?_)
         clear hK K
         refine norm_ (a' := ?_) ?_ ?_
         rotate_left
         ·show Act.put _ (some 59) _ = _
          simp only [Act.put,z1_,z2_,z3_,i64_w,i32_w]
          rfl
         refine done_ (done_of HT_.out (by kernel_rfl)) ?_
         try go_wp2
         go_roundg k2
         case measure => have := cA.out;have := cS.out;omega
         case rel => exact ⟨(wrap64 (ab + 1)),(by first|rfl|(simp;done)|(simp [*];done)),H',⟨by have := cA.out;have := cS.out;omega⟩,⟨bM HB.out⟩⟩
       ·rw [if_neg cn] at H
        have cg := decide_eq_false cn
        clear cn
        have H' := aK H
        clear H
        go_wp2
        go_loopg [6] k2 (fun kq v6 w' => ∃ (aO : Int),v6 = .int .i64 aO ∧ Aside0 (r43_Right.l2 kq l0 aO = some r) ∧ Aside0 (kq ≤ k2) ∧ Aside0 (Below w.heap.size w w'))
        case atStart => exact ⟨(0),(by first|rfl|(simp;done)|(simp [*];done)),H',⟨Nat.le_refl _⟩,⟨bM HB.out⟩⟩
        case round =>
         clear H'
         try clear p2
         try clear p3
         try clear q3
         try clear hx3
         try clear p4
         try clear q4
         try clear hx4
         try clear p6
         try clear cn
         try clear cg
         try clear af
         try clear ac
         try clear ad
         try clear aA
         try clear ag
         try clear ah
         try clear aL
         try clear aD
         try clear aE
         try clear aB
         try clear aq
         try clear ar
         try clear aC
         try clear au
         try clear av
         try clear p2
         try clear p3
         try clear aM
         try clear a8
         try clear bp
         try clear bE
         try clear bH
         try clear p6
         try clear q3
         try clear aN
         try clear a9
         try clear bq
         try clear bF
         try clear bI
         obtain ⟨aO,rfl,HA,dm,HB⟩ := hrel
         cases gk with
        |zero => exact absurd HA.out (by simp [r43_Right.l2])
        |succ k3 =>
          have H := HA.out
          clear HA
          simp only [r43_Right.l2] at H
          by_cases cB : aO < (l0.length : Int)
          ·rw [if_pos cB] at H
           have cP := decide_eq_true cB
           clear cB
           obtain ⟨dn,H⟩ := iS H
           have dp := decide_eq_true dn
           clear dn
           replace H := Option.bind_eq_some_iff.mp H
           obtain ⟨cu,cQ,H⟩ := H
           have dq := aK cQ
           clear cQ
           by_cases cC : cu > 12
           ·rw [if_pos cC] at H
            have cR := decide_eq_true cC
            clear cC
            obtain rfl := Option.some.inj H
            have bK : 0 ≤ (aO : Int) := dA
            have bL : aO < (l0.length : Int) := dA
            obtain ⟨b5,cv,cw,cx,cy,cz,a1,a2,a3,a4,a5,a6,a7⟩ := at_T36 ba.out aO bK bL
            cases cz
            replace a1 := xM HB a1
            replace a2 := xM HB a2
            replace a3 := xM HB a3
            have cc := aK a5
            have cd := aK a4
            clear a5 a4
            have ce := aK a7
            have cf := aK a6
            clear a7 a6
            replace bK := eq_true bK
            replace bL := eq_true bL
            go_wp2_with (first|((with_reducible refine gate_callee (f := 40) rfl ?_);refine gL 72 Tryz.func40 #[.slice (some b5) l0.length c0,.string ((rd_T36 l0 aO).f0)] ?_;(with_reducible refine (r43_depth.calls k3 _ _ l0 ((rd_T36 l0 aO).f0) cu _ ?ao ?ap dq.out).mono ?_);(case ao => exact cM (Kd.C_below ba.out HB.out));(case ap => exact b6.out);rintro e w' ⟨rfl,⟨nd,rfl⟩⟩;refine ⟨_,rfl,?_⟩))
            go_ret
            exact ⟨by first|rfl|(simp [errW_none,errW_some] <;> rfl)|(simp [*,errW_none,errW_some] <;> rfl),bM HB.out⟩
           ·rw [if_neg cC] at H
            have cR := decide_eq_false cC
            clear cC
            have H' := aK H
            clear H
            have bK : 0 ≤ (aO : Int) := dA
            have bL : aO < (l0.length : Int) := dA
            obtain ⟨b5,cv,cw,cx,cy,cz,a1,a2,a3,a4,a5,a6,a7⟩ := at_T36 ba.out aO bK bL
            cases cz
            replace a1 := xM HB a1
            replace a2 := xM HB a2
            replace a3 := xM HB a3
            have cc := aK a5
            have cd := aK a4
            clear a5 a4
            have ce := aK a7
            have cf := aK a6
            clear a7 a6
            replace bK := eq_true bK
            replace bL := eq_true bL
            go_wp2_with (first|((with_reducible refine gate_callee (f := 40) rfl ?_);refine gL 72 Tryz.func40 #[.slice (some b5) l0.length c0,.string ((rd_T36 l0 aO).f0)] ?_;(with_reducible refine (r43_depth.calls k3 _ _ l0 ((rd_T36 l0 aO).f0) cu _ ?ao ?ap dq.out).mono ?_);(case ao => exact cM (Kd.C_below ba.out HB.out));(case ap => exact b6.out);rintro e w' ⟨rfl,⟨nd,rfl⟩⟩;refine ⟨_,rfl,?_⟩))
            go_roundg k3
            case measure => have := cA.out;have := cS.out;have := dm.out;omega
            case rel => exact ⟨(wrap64 (aO + 1)),(by first|rfl|(simp;done)|(simp [*];done)),H',⟨by have := cA.out;have := cS.out;have := dm.out;omega⟩,⟨bM HB.out⟩⟩
          ·rw [if_neg cB] at H
           have cP := decide_eq_false cB
           clear cB
           obtain rfl := Option.some.inj H
           go_wp2
           go_ret
           exact ⟨by first|rfl|(simp [errW_none,errW_some] <;> rfl)|(simp [*,errW_none,errW_some] <;> rfl),bM HB.out⟩
end Go.Proofs.YtobdkgoapcbipaaGreatDoor.J
