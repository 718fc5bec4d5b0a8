import Derived.Test.YtmgliocboeifdaaDoorKx0
import Derived.Test.YtmgliocboeifdaaDoorKx15
namespace Go.Proofs.YtmgliocboeifdaaDoor.K
open Go.RowKit Go.Proofs.YtmgliocboeifdaaDoorW.PrintWords Go.Proofs.YtmgliocboeifdaaDoorW.PrintLast Go.Proofs.YtmgliocboeifdaaDoorW.PrintMore
attribute [local go_sem] max2_int min2_int max_two min_two max_three min_three max_four min_four
set_option linter.unusedVariables false
set_option linter.unusedSimpArgs false

/-! ### l33_plain: function 14 -/
def l33_plain.l0 : Nat → List (S37) → Int → Option (Bool)
|0,_,_ => none
|k + 1,x0,x3 => if x3 < (x0.length : Int) then (if 0 ≤ x3 then (if ((rd_T37 x0 x3).f0) = (wrap64 (x3 + 1)) then (if ((rd_T37 x0 x3).f1) < 0 then (some false) else (if ((rd_T37 x0 x3).f2) < 0 then (some false) else (if ((rd_T37 x0 x3).f1) > 4611686018427387904 then (some false) else (if ((rd_T37 x0 x3).f2) > 4611686018427387904 then (some false) else ((l33_rising.f k ((rd_T37 x0 x3).f3)).bind fun t454 => (if t454 = true then ((l33_rising.f k ((rd_T37 x0 x3).f4)).bind fun t456 => (if t456 = true then (l33_plain.l0 k x0 (wrap64 (x3 + 1))) else (some false))) else (some false))))))) else (some false)) else (none)) else (some true)
def l33_plain.f (k : Nat) (l0 : List (S37)) : Option (Bool) := l33_plain.l0 k l0 0
theorem l33_plain.mono_l : ∀ k, (∀ y0 y1, LeO (l33_plain.l0 k y0 y1) (l33_plain.l0 (k + 1) y0 y1))
|0 => fun _ _ r h => by simp [l33_plain.l0] at h
|k + 1 => by
  have ih0 := l33_plain.mono_l k
  ·intro y0 y1
   unfold l33_plain.l0
   repeat' (with_reducible first|exact ih0 _ _|exact l33_rising.mono _ _|exact LeO.refl _|exact LeO.none _|refine LeO.ite ?_ ?_|refine LeO.bind ?_ (fun _ => ?_))
theorem l33_plain.mono : ∀ a0 k, LeO (l33_plain.f k a0) (l33_plain.f (k + 1) a0) := by
 intro a0 k
 have ih0 := l33_plain.mono_l k
 unfold l33_plain.f
 repeat' first
  |(with_reducible exact ih0 _ _)
  |(with_reducible exact l33_rising.mono _ _)
  |(with_reducible exact LeO.refl _)
  |(with_reducible exact LeO.none _)
  |(with_reducible refine LeO.ite ?_ ?_)
  |(with_reducible refine LeO.bind ?_ (fun _ => ?_))
  |exact ih0 _ _
  |exact l33_rising.mono _ _
  |exact LeO.none _
  |refine LeO.ite ?_ ?_
  |refine LeO.bind ?_ (fun _ => ?_)
set_option maxHeartbeats 4000000 in
set_option maxRecDepth 100000 in
theorem l33_plain.calls (k : Nat) (A0 : Option Addr) (c0 : Nat) (l0 : List (S37)) (r : Bool) (w : World) (dV : Kd.C k37 w A0 l0.length l0) (dW : l0.length ≤ c0) (h : l33_plain.f k l0 = some r) :
  Calls Tryd.prog 14 #[.slice A0 l0.length c0] w fun e w' => e = .returned (.bool r) ∧ Drawn0 w w' := by
 have bn := aK dV
 have d1 := aK dW
 clear dV dW
 have H : (l33_plain.l0 k l0 0) = some r := h
 clear h
 have H' := aK H
 clear H
 go_enter Tryd.func14,Tryd.ntmps14
 go_wp2
 go_loopg [3] k (fun kq v3 w' => ∃ (aa : Int),v3 = .int .i64 aa ∧ Aside0 (l33_plain.l0 kq l0 aa = some r) ∧ Aside0 (kq ≤ k) ∧ Drawn0 w w')
 case atStart => exact ⟨(0),(by first|rfl|(simp;done)|(simp [*];done)),H',⟨Nat.le_refl _⟩,by repeat (first|exact Drawn0.refl _|apply Drawn0.step)⟩
 case round =>
  clear H'
  obtain ⟨aa,rfl,HA,dX,⟨m1,rfl⟩⟩ := hrel
  cases gk with
 |zero => exact absurd HA.out (by simp [l33_plain.l0])
 |succ k1 =>
   have H := HA.out
   clear HA
   simp only [l33_plain.l0] at H
   by_cases c2 : aa < (l0.length : Int)
   ·rw [if_pos c2] at H
    have dM := decide_eq_true c2
    clear c2
    obtain ⟨c3,H⟩ := iS H
    have d0 := decide_eq_true c3
    clear c3
    by_cases c4 : ((rd_T37 l0 aa).f0) = (wrap64 (aa + 1))
    ·rw [if_pos c4] at H
     have dN := beq_iff_eq.mpr c4
     have dO := bne_eq_false_iff_eq.mpr c4
     clear c4
     by_cases c5 : ((rd_T37 l0 aa).f1) < 0
     ·rw [if_pos c5] at H
      have dP := decide_eq_true c5
      clear c5
      obtain rfl := Option.some.inj H
      have aI : 0 ≤ (aa : Int) := dA
      have aJ : aa < (l0.length : Int) := dA
      obtain ⟨ak,bC,bD,bE,bF,bH,bI,bJ,a8,a9,ba,ab,ac,ad,ae,af,ag,ah,ai,aj⟩ := at_T37 bn.out aa aI aJ
      cases bJ
      have bb := aK af
      have bc := aK ae
      clear af ae
      have bd := aK ah
      have be := aK ag
      clear ah ag
      have bf := aK aj
      have bg := aK ai
      clear aj ai
      replace aI := eq_true aI
      replace aJ := eq_true aJ
      have aU : 0 ≤ (aa : Int) := dA
      have aV : aa < (l0.length : Int) := dA
      obtain ⟨a7,ca,cb,cc,cd,ce,cf,cg,bp,bq,br,aF,aG,aH,al,am,an,ao,ap,aq⟩ := at_T37 bn.out aa aU aV
      obtain rfl : ak = a7 := (by injection cg)
      have bs := aK am
      have bu := aK al
      clear am al
      have bv := aK ao
      have bx := aK an
      clear ao an
      have bz := aK aq
      have bB := aK ap
      clear aq ap
      replace aU := eq_true aU
      replace aV := eq_true aV
      have ea_ := Option.some.inj (ab.symm.trans aF)
      injection ea_ with ea_ en_ ec_
      subst ea_
      subst ec_
      clear en_
      have ea_ := Option.some.inj (ac.symm.trans aG)
      injection ea_ with ea_ en_ ec_
      subst ea_
      subst ec_
      clear en_
      have ea_ := Option.some.inj (ad.symm.trans aH)
      injection ea_ with ea_ en_ ec_
      subst ea_
      subst ec_
      clear en_
      go_wp2
      go_ret
      exact ⟨by first|rfl|(simp;done)|(simp [*];done),by repeat (first|exact Drawn0.refl _|apply Drawn0.step)⟩
     ·rw [if_neg c5] at H
      have dP := decide_eq_false c5
      clear c5
      by_cases c6 : ((rd_T37 l0 aa).f2) < 0
      ·rw [if_pos c6] at H
       have dQ := decide_eq_true c6
       clear c6
       obtain rfl := Option.some.inj H
       have aI : 0 ≤ (aa : Int) := dA
       have aJ : aa < (l0.length : Int) := dA
       obtain ⟨ak,bC,bD,bE,bF,bH,bI,bJ,a8,a9,ba,ab,ac,ad,ae,af,ag,ah,ai,aj⟩ := at_T37 bn.out aa aI aJ
       cases bJ
       have bb := aK af
       have bc := aK ae
       clear af ae
       have bd := aK ah
       have be := aK ag
       clear ah ag
       have bf := aK aj
       have bg := aK ai
       clear aj ai
       replace aI := eq_true aI
       replace aJ := eq_true aJ
       have aU : 0 ≤ (aa : Int) := dA
       have aV : aa < (l0.length : Int) := dA
       obtain ⟨a7,ca,cb,cc,cd,ce,cf,cg,bp,bq,br,aF,aG,aH,al,am,an,ao,ap,aq⟩ := at_T37 bn.out aa aU aV
       obtain rfl : ak = a7 := (by injection cg)
       have bs := aK am
       have bu := aK al
       clear am al
       have bv := aK ao
       have bx := aK an
       clear ao an
       have bz := aK aq
       have bB := aK ap
       clear aq ap
       replace aU := eq_true aU
       replace aV := eq_true aV
       have ea_ := Option.some.inj (ab.symm.trans aF)
       injection ea_ with ea_ en_ ec_
       subst ea_
       subst ec_
       clear en_
       have ea_ := Option.some.inj (ac.symm.trans aG)
       injection ea_ with ea_ en_ ec_
       subst ea_
       subst ec_
       clear en_
       have ea_ := Option.some.inj (ad.symm.trans aH)
       injection ea_ with ea_ en_ ec_
       subst ea_
       subst ec_
       clear en_
       have aZ : 0 ≤ (aa : Int) := dA
       have a0 : aa < (l0.length : Int) := dA
       obtain ⟨bo,cq,cr,cs,ct,cu,cv,cw,bN,bO,bP,aL,aM,aN,ar,au,av,aw,ax,ay⟩ := at_T37 bn.out aa aZ a0
       obtain rfl : ak = bo := (by injection cw)
       have bQ := aK au
       have bR := aK ar
       clear au ar
       have bS := aK aw
       have bT := aK av
       clear aw av
       have bU := aK ay
       have bV := aK ax
       clear ay ax
       replace aZ := eq_true aZ
       replace a0 := eq_true a0
       have ea_ := Option.some.inj (ab.symm.trans aL)
       injection ea_ with ea_ en_ ec_
       subst ea_
       subst ec_
       clear en_
       have ea_ := Option.some.inj (ac.symm.trans aM)
       injection ea_ with ea_ en_ ec_
       subst ea_
       subst ec_
       clear en_
       have ea_ := Option.some.inj (ad.symm.trans aN)
       injection ea_ with ea_ en_ ec_
       subst ea_
       subst ec_
       clear en_
       go_wp2
       go_ret
       exact ⟨by first|rfl|(simp;done)|(simp [*];done),by repeat (first|exact Drawn0.refl _|apply Drawn0.step)⟩
      ·rw [if_neg c6] at H
       have dQ := decide_eq_false c6
       clear c6
       by_cases c7 : ((rd_T37 l0 aa).f1) > 4611686018427387904
       ·rw [if_pos c7] at H
        have dR := decide_eq_true c7
        clear c7
        obtain rfl := Option.some.inj H
        have aI : 0 ≤ (aa : Int) := dA
        have aJ : aa < (l0.length : Int) := dA
        obtain ⟨ak,bC,bD,bE,bF,bH,bI,bJ,a8,a9,ba,ab,ac,ad,ae,af,ag,ah,ai,aj⟩ := at_T37 bn.out aa aI aJ
        cases bJ
        have bb := aK af
        have bc := aK ae
        clear af ae
        have bd := aK ah
        have be := aK ag
        clear ah ag
        have bf := aK aj
        have bg := aK ai
        clear aj ai
        replace aI := eq_true aI
        replace aJ := eq_true aJ
        have aU : 0 ≤ (aa : Int) := dA
        have aV : aa < (l0.length : Int) := dA
        obtain ⟨a7,ca,cb,cc,cd,ce,cf,cg,bp,bq,br,aF,aG,aH,al,am,an,ao,ap,aq⟩ := at_T37 bn.out aa aU aV
        obtain rfl : ak = a7 := (by injection cg)
        have bs := aK am
        have bu := aK al
        clear am al
        have bv := aK ao
        have bx := aK an
        clear ao an
        have bz := aK aq
        have bB := aK ap
        clear aq ap
        replace aU := eq_true aU
        replace aV := eq_true aV
        have ea_ := Option.some.inj (ab.symm.trans aF)
        injection ea_ with ea_ en_ ec_
        subst ea_
        subst ec_
        clear en_
        have ea_ := Option.some.inj (ac.symm.trans aG)
        injection ea_ with ea_ en_ ec_
        subst ea_
        subst ec_
        clear en_
        have ea_ := Option.some.inj (ad.symm.trans aH)
        injection ea_ with ea_ en_ ec_
        subst ea_
        subst ec_
        clear en_
        have aZ : 0 ≤ (aa : Int) := dA
        have a0 : aa < (l0.length : Int) := dA
        obtain ⟨bo,cq,cr,cs,ct,cu,cv,cw,bN,bO,bP,aL,aM,aN,ar,au,av,aw,ax,ay⟩ := at_T37 bn.out aa aZ a0
        obtain rfl : ak = bo := (by injection cw)
        have bQ := aK au
        have bR := aK ar
        clear au ar
        have bS := aK aw
        have bT := aK av
        clear aw av
        have bU := aK ay
        have bV := aK ax
        clear ay ax
        replace aZ := eq_true aZ
        replace a0 := eq_true a0
        have ea_ := Option.some.inj (ab.symm.trans aL)
        injection ea_ with ea_ en_ ec_
        subst ea_
        subst ec_
        clear en_
        have ea_ := Option.some.inj (ac.symm.trans aM)
        injection ea_ with ea_ en_ ec_
        subst ea_
        subst ec_
        clear en_
        have ea_ := Option.some.inj (ad.symm.trans aN)
        injection ea_ with ea_ en_ ec_
        subst ea_
        subst ec_
        clear en_
        have bh : 0 ≤ (aa : Int) := dA
        have bi : aa < (l0.length : Int) := dA
        obtain ⟨bW,cA,cB,cC,cD,cE,cF,cG,ch,ci,cj,aW,aX,aY,az,aA,aB,aC,aD,aE⟩ := at_T37 bn.out aa bh bi
        obtain rfl : ak = bW := (by injection cG)
        have ck := aK aA
        have cl := aK az
        clear aA az
        have cm := aK aC
        have cn := aK aB
        clear aC aB
        have co := aK aE
        have cp := aK aD
        clear aE aD
        replace bh := eq_true bh
        replace bi := eq_true bi
        have ea_ := Option.some.inj (ab.symm.trans aW)
        injection ea_ with ea_ en_ ec_
        subst ea_
        subst ec_
        clear en_
        have ea_ := Option.some.inj (ac.symm.trans aX)
        injection ea_ with ea_ en_ ec_
        subst ea_
        subst ec_
        clear en_
        have ea_ := Option.some.inj (ad.symm.trans aY)
        injection ea_ with ea_ en_ ec_
        subst ea_
        subst ec_
        clear en_
        go_wp2
        go_ret
        exact ⟨by first|rfl|(simp;done)|(simp [*];done),by repeat (first|exact Drawn0.refl _|apply Drawn0.step)⟩
       ·rw [if_neg c7] at H
        have dR := decide_eq_false c7
        clear c7
        by_cases c8 : ((rd_T37 l0 aa).f2) > 4611686018427387904
        ·rw [if_pos c8] at H
         have dS := decide_eq_true c8
         clear c8
         obtain rfl := Option.some.inj H
         have aI : 0 ≤ (aa : Int) := dA
         have aJ : aa < (l0.length : Int) := dA
         obtain ⟨ak,bC,bD,bE,bF,bH,bI,bJ,a8,a9,ba,ab,ac,ad,ae,af,ag,ah,ai,aj⟩ := at_T37 bn.out aa aI aJ
         cases bJ
         have bb := aK af
         have bc := aK ae
         clear af ae
         have bd := aK ah
         have be := aK ag
         clear ah ag
         have bf := aK aj
         have bg := aK ai
         clear aj ai
         replace aI := eq_true aI
         replace aJ := eq_true aJ
         have aU : 0 ≤ (aa : Int) := dA
         have aV : aa < (l0.length : Int) := dA
         obtain ⟨a7,ca,cb,cc,cd,ce,cf,cg,bp,bq,br,aF,aG,aH,al,am,an,ao,ap,aq⟩ := at_T37 bn.out aa aU aV
         obtain rfl : ak = a7 := (by injection cg)
         have bs := aK am
         have bu := aK al
         clear am al
         have bv := aK ao
         have bx := aK an
         clear ao an
         have bz := aK aq
         have bB := aK ap
         clear aq ap
         replace aU := eq_true aU
         replace aV := eq_true aV
         have ea_ := Option.some.inj (ab.symm.trans aF)
         injection ea_ with ea_ en_ ec_
         subst ea_
         subst ec_
         clear en_
         have ea_ := Option.some.inj (ac.symm.trans aG)
         injection ea_ with ea_ en_ ec_
         subst ea_
         subst ec_
         clear en_
         have ea_ := Option.some.inj (ad.symm.trans aH)
         injection ea_ with ea_ en_ ec_
         subst ea_
         subst ec_
         clear en_
         have aZ : 0 ≤ (aa : Int) := dA
         have a0 : aa < (l0.length : Int) := dA
         obtain ⟨bo,cq,cr,cs,ct,cu,cv,cw,bN,bO,bP,aL,aM,aN,ar,au,av,aw,ax,ay⟩ := at_T37 bn.out aa aZ a0
         obtain rfl : ak = bo := (by injection cw)
         have bQ := aK au
         have bR := aK ar
         clear au ar
         have bS := aK aw
         have bT := aK av
         clear aw av
         have bU := aK ay
         have bV := aK ax
         clear ay ax
         replace aZ := eq_true aZ
         replace a0 := eq_true a0
         have ea_ := Option.some.inj (ab.symm.trans aL)
         injection ea_ with ea_ en_ ec_
         subst ea_
         subst ec_
         clear en_
         have ea_ := Option.some.inj (ac.symm.trans aM)
         injection ea_ with ea_ en_ ec_
         subst ea_
         subst ec_
         clear en_
         have ea_ := Option.some.inj (ad.symm.trans aN)
         injection ea_ with ea_ en_ ec_
         subst ea_
         subst ec_
         clear en_
         have bh : 0 ≤ (aa : Int) := dA
         have bi : aa < (l0.length : Int) := dA
         obtain ⟨bW,cA,cB,cC,cD,cE,cF,cG,ch,ci,cj,aW,aX,aY,az,aA,aB,aC,aD,aE⟩ := at_T37 bn.out aa bh bi
         obtain rfl : ak = bW := (by injection cG)
         have ck := aK aA
         have cl := aK az
         clear aA az
         have cm := aK aC
         have cn := aK aB
         clear aC aB
         have co := aK aE
         have cp := aK aD
         clear aE aD
         replace bh := eq_true bh
         replace bi := eq_true bi
         have ea_ := Option.some.inj (ab.symm.trans aW)
         injection ea_ with ea_ en_ ec_
         subst ea_
         subst ec_
         clear en_
         have ea_ := Option.some.inj (ac.symm.trans aX)
         injection ea_ with ea_ en_ ec_
         subst ea_
         subst ec_
         clear en_
         have ea_ := Option.some.inj (ad.symm.trans aY)
         injection ea_ with ea_ en_ ec_
         subst ea_
         subst ec_
         clear en_
         have bK : 0 ≤ (aa : Int) := dA
         have bL : aa < (l0.length : Int) := dA
         obtain ⟨cx,cX,cY,cZ,c1,da,db,dc,cH,cI,cJ,bj,bk,bm,aO,aP,aQ,aR,aS,aT⟩ := at_T37 bn.out aa bK bL
         obtain rfl : ak = cx := (by injection dc)
         have cK := aK aP
         have cL := aK aO
         clear aP aO
         have cN := aK aR
         have cO := aK aQ
         clear aR aQ
         have cP := aK aT
         have cQ := aK aS
         clear aT aS
         replace bK := eq_true bK
         replace bL := eq_true bL
         have ea_ := Option.some.inj (ab.symm.trans bj)
         injection ea_ with ea_ en_ ec_
         subst ea_
         subst ec_
         clear en_
         have ea_ := Option.some.inj (ac.symm.trans bk)
         injection ea_ with ea_ en_ ec_
         subst ea_
         subst ec_
         clear en_
         have ea_ := Option.some.inj (ad.symm.trans bm)
         injection ea_ with ea_ en_ ec_
         subst ea_
         subst ec_
         clear en_
         go_wp2
         go_ret
         exact ⟨by first|rfl|(simp;done)|(simp [*];done),by repeat (first|exact Drawn0.refl _|apply Drawn0.step)⟩
        ·rw [if_neg c8] at H
         have dS := decide_eq_false c8
         clear c8
         replace H := Option.bind_eq_some_iff.mp H
         obtain ⟨dT,dY,H⟩ := H
         have A9 := aK dY
         clear dY
         by_cases c10 : dT = true
         ·subst c10
          rw [if_pos rfl] at H
          replace H := Option.bind_eq_some_iff.mp H
          obtain ⟨dU,dK,H⟩ := H
          have dZ := aK dK
          clear dK
          by_cases dL : dU = true
          ·subst dL
           rw [if_pos rfl] at H
           have H' := aK H
           clear H
           have aI : 0 ≤ (aa : Int) := dA
           have aJ : aa < (l0.length : Int) := dA
           obtain ⟨ak,bC,bD,bE,bF,bH,bI,bJ,a8,a9,ba,ab,ac,ad,ae,af,ag,ah,ai,aj⟩ := at_T37 bn.out aa aI aJ
           cases bJ
           have bb := aK af
           have bc := aK ae
           clear af ae
           have bd := aK ah
           have be := aK ag
           clear ah ag
           have bf := aK aj
           have bg := aK ai
           clear aj ai
           replace aI := eq_true aI
           replace aJ := eq_true aJ
           have aU : 0 ≤ (aa : Int) := dA
           have aV : aa < (l0.length : Int) := dA
           obtain ⟨a7,ca,cb,cc,cd,ce,cf,cg,bp,bq,br,aF,aG,aH,al,am,an,ao,ap,aq⟩ := at_T37 bn.out aa aU aV
           obtain rfl : ak = a7 := (by injection cg)
           have bs := aK am
           have bu := aK al
           clear am al
           have bv := aK ao
           have bx := aK an
           clear ao an
           have bz := aK aq
           have bB := aK ap
           clear aq ap
           replace aU := eq_true aU
           replace aV := eq_true aV
           have ea_ := Option.some.inj (ab.symm.trans aF)
           injection ea_ with ea_ en_ ec_
           subst ea_
           subst ec_
           clear en_
           have ea_ := Option.some.inj (ac.symm.trans aG)
           injection ea_ with ea_ en_ ec_
           subst ea_
           subst ec_
           clear en_
           have ea_ := Option.some.inj (ad.symm.trans aH)
           injection ea_ with ea_ en_ ec_
           subst ea_
           subst ec_
           clear en_
           have aZ : 0 ≤ (aa : Int) := dA
           have a0 : aa < (l0.length : Int) := dA
           obtain ⟨bo,cq,cr,cs,ct,cu,cv,cw,bN,bO,bP,aL,aM,aN,ar,au,av,aw,ax,ay⟩ := at_T37 bn.out aa aZ a0
           obtain rfl : ak = bo := (by injection cw)
           have bQ := aK au
           have bR := aK ar
           clear au ar
           have bS := aK aw
           have bT := aK av
           clear aw av
           have bU := aK ay
           have bV := aK ax
           clear ay ax
           replace aZ := eq_true aZ
           replace a0 := eq_true a0
           have ea_ := Option.some.inj (ab.symm.trans aL)
           injection ea_ with ea_ en_ ec_
           subst ea_
           subst ec_
           clear en_
           have ea_ := Option.some.inj (ac.symm.trans aM)
           injection ea_ with ea_ en_ ec_
           subst ea_
           subst ec_
           clear en_
           have ea_ := Option.some.inj (ad.symm.trans aN)
           injection ea_ with ea_ en_ ec_
           subst ea_
           subst ec_
           clear en_
           have bh : 0 ≤ (aa : Int) := dA
           have bi : aa < (l0.length : Int) := dA
           obtain ⟨bW,cA,cB,cC,cD,cE,cF,cG,ch,ci,cj,aW,aX,aY,az,aA,aB,aC,aD,aE⟩ := at_T37 bn.out aa bh bi
           obtain rfl : ak = bW := (by injection cG)
           have ck := aK aA
           have cl := aK az
           clear aA az
           have cm := aK aC
           have cn := aK aB
           clear aC aB
           have co := aK aE
           have cp := aK aD
           clear aE aD
           replace bh := eq_true bh
           replace bi := eq_true bi
           have ea_ := Option.some.inj (ab.symm.trans aW)
           injection ea_ with ea_ en_ ec_
           subst ea_
           subst ec_
           clear en_
           have ea_ := Option.some.inj (ac.symm.trans aX)
           injection ea_ with ea_ en_ ec_
           subst ea_
           subst ec_
           clear en_
           have ea_ := Option.some.inj (ad.symm.trans aY)
           injection ea_ with ea_ en_ ec_
           subst ea_
           subst ec_
           clear en_
           have bK : 0 ≤ (aa : Int) := dA
           have bL : aa < (l0.length : Int) := dA
           obtain ⟨cx,cX,cY,cZ,c1,da,db,dc,cH,cI,cJ,bj,bk,bm,aO,aP,aQ,aR,aS,aT⟩ := at_T37 bn.out aa bK bL
           obtain rfl : ak = cx := (by injection dc)
           have cK := aK aP
           have cL := aK aO
           clear aP aO
           have cN := aK aR
           have cO := aK aQ
           clear aR aQ
           have cP := aK aT
           have cQ := aK aS
           clear aT aS
           replace bK := eq_true bK
           replace bL := eq_true bL
           have ea_ := Option.some.inj (ab.symm.trans bj)
           injection ea_ with ea_ en_ ec_
           subst ea_
           subst ec_
           clear en_
           have ea_ := Option.some.inj (ac.symm.trans bk)
           injection ea_ with ea_ en_ ec_
           subst ea_
           subst ec_
           clear en_
           have ea_ := Option.some.inj (ad.symm.trans bm)
           injection ea_ with ea_ en_ ec_
           subst ea_
           subst ec_
           clear en_
           have cy : 0 ≤ (aa : Int) := dA
           have cz : aa < (l0.length : Int) := dA
           obtain ⟨cW,dm,dn,dp,dq,dr,ds,dt,df,dg,dh,bX,bY,bZ,a1,a2,a3,a4,a5,a6⟩ := at_T37 bn.out aa cy cz
           obtain rfl : ak = cW := (by injection dt)
           have b0 := aK a2
           have b1 := aK a1
           clear a2 a1
           have di := aK a4
           have dj := aK a3
           clear a4 a3
           have dk := aK a6
           have dl := aK a5
           clear a6 a5
           replace cy := eq_true cy
           replace cz := eq_true cz
           have ea_ := Option.some.inj (ab.symm.trans bX)
           injection ea_ with ea_ en_ ec_
           subst ea_
           subst ec_
           clear en_
           have ea_ := Option.some.inj (ac.symm.trans bY)
           injection ea_ with ea_ en_ ec_
           subst ea_
           subst ec_
           clear en_
           have ea_ := Option.some.inj (ad.symm.trans bZ)
           injection ea_ with ea_ en_ ec_
           subst ea_
           subst ec_
           clear en_
           go_wp2_with (first|(go_at_call 26;(with_reducible refine (l33_rising.calls k1 _ _ ((rd_T37 l0 aa).f3) true _ ?b2 ?b3 A9.out).mono ?_);(case b2 => exact cM b0.out);(case b3 => exact b1.out);rintro e w' ⟨rfl,⟨nd,rfl⟩⟩;have dd : 0 ≤ (aa : Int) := dA;have de : aa < (l0.length : Int) := dA;obtain ⟨du,dD,dE,dF,dG,dH,dI,dJ,dv,dw,dx,cR,cS,cT,b4,b5,b6,b7,b8,b9⟩ := at_T37 bn.out aa dd de;obtain rfl : ak = du := (by injection dJ);have dy := aK b5;have dz := aK b4;clear b5 b4;have cU := aK b7;have cV := aK b6;clear b7 b6;have dB := aK b9;have dC := aK b8;clear b9 b8;replace dd := eq_true dd;replace de := eq_true de;have ea_ := Option.some.inj (ab.symm.trans cR);injection ea_ with ea_ en_ ec_;subst ea_;subst ec_;clear en_;have ea_ := Option.some.inj (ac.symm.trans cS);injection ea_ with ea_ en_ ec_;subst ea_;subst ec_;clear en_;have ea_ := Option.some.inj (ad.symm.trans cT);injection ea_ with ea_ en_ ec_;subst ea_;subst ec_;clear en_)|(go_at_call 26;(with_reducible refine (l33_rising.calls k1 _ _ ((rd_T37 l0 aa).f4) true _ ?b2 ?b3 dZ.out).mono ?_);(case b2 => exact cM cU.out);(case b3 => exact cV.out);rintro e w' ⟨rfl,⟨nd,rfl⟩⟩))
           go_roundg k1
           case measure => have := dX.out;omega
           case rel => exact ⟨(wrap64 (aa + 1)),(by first|rfl|(simp;done)|(simp [*];done)),H',⟨by have := dX.out;omega⟩,by repeat (first|exact Drawn0.refl _|apply Drawn0.step)⟩
          ·replace dL := Bool.eq_false_iff.mpr dL
           subst dL
           rw [if_neg (show ¬ (false = true) by decide)] at H
           obtain rfl := Option.some.inj H
           have aI : 0 ≤ (aa : Int) := dA
           have aJ : aa < (l0.length : Int) := dA
           obtain ⟨ak,bC,bD,bE,bF,bH,bI,bJ,a8,a9,ba,ab,ac,ad,ae,af,ag,ah,ai,aj⟩ := at_T37 bn.out aa aI aJ
           cases bJ
           have bb := aK af
           have bc := aK ae
           clear af ae
           have bd := aK ah
           have be := aK ag
           clear ah ag
           have bf := aK aj
           have bg := aK ai
           clear aj ai
           replace aI := eq_true aI
           replace aJ := eq_true aJ
           have aU : 0 ≤ (aa : Int) := dA
           have aV : aa < (l0.length : Int) := dA
           obtain ⟨a7,ca,cb,cc,cd,ce,cf,cg,bp,bq,br,aF,aG,aH,al,am,an,ao,ap,aq⟩ := at_T37 bn.out aa aU aV
           obtain rfl : ak = a7 := (by injection cg)
           have bs := aK am
           have bu := aK al
           clear am al
           have bv := aK ao
           have bx := aK an
           clear ao an
           have bz := aK aq
           have bB := aK ap
           clear aq ap
           replace aU := eq_true aU
           replace aV := eq_true aV
           have ea_ := Option.some.inj (ab.symm.trans aF)
           injection ea_ with ea_ en_ ec_
           subst ea_
           subst ec_
           clear en_
           have ea_ := Option.some.inj (ac.symm.trans aG)
           injection ea_ with ea_ en_ ec_
           subst ea_
           subst ec_
           clear en_
           have ea_ := Option.some.inj (ad.symm.trans aH)
           injection ea_ with ea_ en_ ec_
           subst ea_
           subst ec_
           clear en_
           have aZ : 0 ≤ (aa : Int) := dA
           have a0 : aa < (l0.length : Int) := dA
           obtain ⟨bo,cq,cr,cs,ct,cu,cv,cw,bN,bO,bP,aL,aM,aN,ar,au,av,aw,ax,ay⟩ := at_T37 bn.out aa aZ a0
           obtain rfl : ak = bo := (by injection cw)
           have bQ := aK au
           have bR := aK ar
           clear au ar
           have bS := aK aw
           have bT := aK av
           clear aw av
           have bU := aK ay
           have bV := aK ax
           clear ay ax
           replace aZ := eq_true aZ
           replace a0 := eq_true a0
           have ea_ := Option.some.inj (ab.symm.trans aL)
           injection ea_ with ea_ en_ ec_
           subst ea_
           subst ec_
           clear en_
           have ea_ := Option.some.inj (ac.symm.trans aM)
           injection ea_ with ea_ en_ ec_
           subst ea_
           subst ec_
           clear en_
           have ea_ := Option.some.inj (ad.symm.trans aN)
           injection ea_ with ea_ en_ ec_
           subst ea_
           subst ec_
           clear en_
           have bh : 0 ≤ (aa : Int) := dA
           have bi : aa < (l0.length : Int) := dA
           obtain ⟨bW,cA,cB,cC,cD,cE,cF,cG,ch,ci,cj,aW,aX,aY,az,aA,aB,aC,aD,aE⟩ := at_T37 bn.out aa bh bi
           obtain rfl : ak = bW := (by injection cG)
           have ck := aK aA
           have cl := aK az
           clear aA az
           have cm := aK aC
           have cn := aK aB
           clear aC aB
           have co := aK aE
           have cp := aK aD
           clear aE aD
           replace bh := eq_true bh
           replace bi := eq_true bi
           have ea_ := Option.some.inj (ab.symm.trans aW)
           injection ea_ with ea_ en_ ec_
           subst ea_
           subst ec_
           clear en_
           have ea_ := Option.some.inj (ac.symm.trans aX)
           injection ea_ with ea_ en_ ec_
           subst ea_
           subst ec_
           clear en_
           have ea_ := Option.some.inj (ad.symm.trans aY)
           injection ea_ with ea_ en_ ec_
           subst ea_
           subst ec_
           clear en_
           have bK : 0 ≤ (aa : Int) := dA
           have bL : aa < (l0.length : Int) := dA
           obtain ⟨cx,cX,cY,cZ,c1,da,db,dc,cH,cI,cJ,bj,bk,bm,aO,aP,aQ,aR,aS,aT⟩ := at_T37 bn.out aa bK bL
           obtain rfl : ak = cx := (by injection dc)
           have cK := aK aP
           have cL := aK aO
           clear aP aO
           have cN := aK aR
           have cO := aK aQ
           clear aR aQ
           have cP := aK aT
           have cQ := aK aS
           clear aT aS
           replace bK := eq_true bK
           replace bL := eq_true bL
           have ea_ := Option.some.inj (ab.symm.trans bj)
           injection ea_ with ea_ en_ ec_
           subst ea_
           subst ec_
           clear en_
           have ea_ := Option.some.inj (ac.symm.trans bk)
           injection ea_ with ea_ en_ ec_
           subst ea_
           subst ec_
           clear en_
           have ea_ := Option.some.inj (ad.symm.trans bm)
           injection ea_ with ea_ en_ ec_
           subst ea_
           subst ec_
           clear en_
           have cy : 0 ≤ (aa : Int) := dA
           have cz : aa < (l0.length : Int) := dA
           obtain ⟨cW,dm,dn,dp,dq,dr,ds,dt,df,dg,dh,bX,bY,bZ,a1,a2,a3,a4,a5,a6⟩ := at_T37 bn.out aa cy cz
           obtain rfl : ak = cW := (by injection dt)
           have b0 := aK a2
           have b1 := aK a1
           clear a2 a1
           have di := aK a4
           have dj := aK a3
           clear a4 a3
           have dk := aK a6
           have dl := aK a5
           clear a6 a5
           replace cy := eq_true cy
           replace cz := eq_true cz
           have ea_ := Option.some.inj (ab.symm.trans bX)
           injection ea_ with ea_ en_ ec_
           subst ea_
           subst ec_
           clear en_
           have ea_ := Option.some.inj (ac.symm.trans bY)
           injection ea_ with ea_ en_ ec_
           subst ea_
           subst ec_
           clear en_
           have ea_ := Option.some.inj (ad.symm.trans bZ)
           injection ea_ with ea_ en_ ec_
           subst ea_
           subst ec_
           clear en_
           go_wp2_with (first|(go_at_call 26;(with_reducible refine (l33_rising.calls k1 _ _ ((rd_T37 l0 aa).f3) true _ ?b2 ?b3 A9.out).mono ?_);(case b2 => exact cM b0.out);(case b3 => exact b1.out);rintro e w' ⟨rfl,⟨nd,rfl⟩⟩;have dd : 0 ≤ (aa : Int) := dA;have de : aa < (l0.length : Int) := dA;obtain ⟨du,dD,dE,dF,dG,dH,dI,dJ,dv,dw,dx,cR,cS,cT,b4,b5,b6,b7,b8,b9⟩ := at_T37 bn.out aa dd de;obtain rfl : ak = du := (by injection dJ);have dy := aK b5;have dz := aK b4;clear b5 b4;have cU := aK b7;have cV := aK b6;clear b7 b6;have dB := aK b9;have dC := aK b8;clear b9 b8;replace dd := eq_true dd;replace de := eq_true de;have ea_ := Option.some.inj (ab.symm.trans cR);injection ea_ with ea_ en_ ec_;subst ea_;subst ec_;clear en_;have ea_ := Option.some.inj (ac.symm.trans cS);injection ea_ with ea_ en_ ec_;subst ea_;subst ec_;clear en_;have ea_ := Option.some.inj (ad.symm.trans cT);injection ea_ with ea_ en_ ec_;subst ea_;subst ec_;clear en_)|(go_at_call 26;(with_reducible refine (l33_rising.calls k1 _ _ ((rd_T37 l0 aa).f4) false _ ?b2 ?b3 dZ.out).mono ?_);(case b2 => exact cM cU.out);(case b3 => exact cV.out);rintro e w' ⟨rfl,⟨nd,rfl⟩⟩))
           go_ret
           exact ⟨by first|rfl|(simp;done)|(simp [*];done),by repeat (first|exact Drawn0.refl _|apply Drawn0.step)⟩
         ·replace c10 := Bool.eq_false_iff.mpr c10
          subst c10
          rw [if_neg (show ¬ (false = true) by decide)] at H
          obtain rfl := Option.some.inj H
          have aI : 0 ≤ (aa : Int) := dA
          have aJ : aa < (l0.length : Int) := dA
          obtain ⟨ak,bC,bD,bE,bF,bH,bI,bJ,a8,a9,ba,ab,ac,ad,ae,af,ag,ah,ai,aj⟩ := at_T37 bn.out aa aI aJ
          cases bJ
          have bb := aK af
          have bc := aK ae
          clear af ae
          have bd := aK ah
          have be := aK ag
          clear ah ag
          have bf := aK aj
          have bg := aK ai
          clear aj ai
          replace aI := eq_true aI
          replace aJ := eq_true aJ
          have aU : 0 ≤ (aa : Int) := dA
          have aV : aa < (l0.length : Int) := dA
          obtain ⟨a7,ca,cb,cc,cd,ce,cf,cg,bp,bq,br,aF,aG,aH,al,am,an,ao,ap,aq⟩ := at_T37 bn.out aa aU aV
          obtain rfl : ak = a7 := (by injection cg)
          have bs := aK am
          have bu := aK al
          clear am al
          have bv := aK ao
          have bx := aK an
          clear ao an
          have bz := aK aq
          have bB := aK ap
          clear aq ap
          replace aU := eq_true aU
          replace aV := eq_true aV
          have ea_ := Option.some.inj (ab.symm.trans aF)
          injection ea_ with ea_ en_ ec_
          subst ea_
          subst ec_
          clear en_
          have ea_ := Option.some.inj (ac.symm.trans aG)
          injection ea_ with ea_ en_ ec_
          subst ea_
          subst ec_
          clear en_
          have ea_ := Option.some.inj (ad.symm.trans aH)
          injection ea_ with ea_ en_ ec_
          subst ea_
          subst ec_
          clear en_
          have aZ : 0 ≤ (aa : Int) := dA
          have a0 : aa < (l0.length : Int) := dA
          obtain ⟨bo,cq,cr,cs,ct,cu,cv,cw,bN,bO,bP,aL,aM,aN,ar,au,av,aw,ax,ay⟩ := at_T37 bn.out aa aZ a0
          obtain rfl : ak = bo := (by injection cw)
          have bQ := aK au
          have bR := aK ar
          clear au ar
          have bS := aK aw
          have bT := aK av
          clear aw av
          have bU := aK ay
          have bV := aK ax
          clear ay ax
          replace aZ := eq_true aZ
          replace a0 := eq_true a0
          have ea_ := Option.some.inj (ab.symm.trans aL)
          injection ea_ with ea_ en_ ec_
          subst ea_
          subst ec_
          clear en_
          have ea_ := Option.some.inj (ac.symm.trans aM)
          injection ea_ with ea_ en_ ec_
          subst ea_
          subst ec_
          clear en_
          have ea_ := Option.some.inj (ad.symm.trans aN)
          injection ea_ with ea_ en_ ec_
          subst ea_
          subst ec_
          clear en_
          have bh : 0 ≤ (aa : Int) := dA
          have bi : aa < (l0.length : Int) := dA
          obtain ⟨bW,cA,cB,cC,cD,cE,cF,cG,ch,ci,cj,aW,aX,aY,az,aA,aB,aC,aD,aE⟩ := at_T37 bn.out aa bh bi
          obtain rfl : ak = bW := (by injection cG)
          have ck := aK aA
          have cl := aK az
          clear aA az
          have cm := aK aC
          have cn := aK aB
          clear aC aB
          have co := aK aE
          have cp := aK aD
          clear aE aD
          replace bh := eq_true bh
          replace bi := eq_true bi
          have ea_ := Option.some.inj (ab.symm.trans aW)
          injection ea_ with ea_ en_ ec_
          subst ea_
          subst ec_
          clear en_
          have ea_ := Option.some.inj (ac.symm.trans aX)
          injection ea_ with ea_ en_ ec_
          subst ea_
          subst ec_
          clear en_
          have ea_ := Option.some.inj (ad.symm.trans aY)
          injection ea_ with ea_ en_ ec_
          subst ea_
          subst ec_
          clear en_
          have bK : 0 ≤ (aa : Int) := dA
          have bL : aa < (l0.length : Int) := dA
          obtain ⟨cx,cX,cY,cZ,c1,da,db,dc,cH,cI,cJ,bj,bk,bm,aO,aP,aQ,aR,aS,aT⟩ := at_T37 bn.out aa bK bL
          obtain rfl : ak = cx := (by injection dc)
          have cK := aK aP
          have cL := aK aO
          clear aP aO
          have cN := aK aR
          have cO := aK aQ
          clear aR aQ
          have cP := aK aT
          have cQ := aK aS
          clear aT aS
          replace bK := eq_true bK
          replace bL := eq_true bL
          have ea_ := Option.some.inj (ab.symm.trans bj)
          injection ea_ with ea_ en_ ec_
          subst ea_
          subst ec_
          clear en_
          have ea_ := Option.some.inj (ac.symm.trans bk)
          injection ea_ with ea_ en_ ec_
          subst ea_
          subst ec_
          clear en_
          have ea_ := Option.some.inj (ad.symm.trans bm)
          injection ea_ with ea_ en_ ec_
          subst ea_
          subst ec_
          clear en_
          have cy : 0 ≤ (aa : Int) := dA
          have cz : aa < (l0.length : Int) := dA
          obtain ⟨cW,dm,dn,dp,dq,dr,ds,dt,df,dg,dh,bX,bY,bZ,a1,a2,a3,a4,a5,a6⟩ := at_T37 bn.out aa cy cz
          obtain rfl : ak = cW := (by injection dt)
          have b0 := aK a2
          have b1 := aK a1
          clear a2 a1
          have di := aK a4
          have dj := aK a3
          clear a4 a3
          have dk := aK a6
          have dl := aK a5
          clear a6 a5
          replace cy := eq_true cy
          replace cz := eq_true cz
          have ea_ := Option.some.inj (ab.symm.trans bX)
          injection ea_ with ea_ en_ ec_
          subst ea_
          subst ec_
          clear en_
          have ea_ := Option.some.inj (ac.symm.trans bY)
          injection ea_ with ea_ en_ ec_
          subst ea_
          subst ec_
          clear en_
          have ea_ := Option.some.inj (ad.symm.trans bZ)
          injection ea_ with ea_ en_ ec_
          subst ea_
          subst ec_
          clear en_
          go_wp2_with (first|(go_at_call 26;(with_reducible refine (l33_rising.calls k1 _ _ ((rd_T37 l0 aa).f3) false _ ?b2 ?b3 A9.out).mono ?_);(case b2 => exact cM b0.out);(case b3 => exact b1.out);rintro e w' ⟨rfl,⟨nd,rfl⟩⟩))
          go_ret
          exact ⟨by first|rfl|(simp;done)|(simp [*];done),by repeat (first|exact Drawn0.refl _|apply Drawn0.step)⟩
    ·rw [if_neg c4] at H
     have dN := beq_eq_false_iff_ne.mpr c4
     have dO := bne_iff_ne.mpr c4
     obtain rfl := Option.some.inj H
     have aI : 0 ≤ (aa : Int) := dA
     have aJ : aa < (l0.length : Int) := dA
     obtain ⟨ak,bC,bD,bE,bF,bH,bI,bJ,a8,a9,ba,ab,ac,ad,ae,af,ag,ah,ai,aj⟩ := at_T37 bn.out aa aI aJ
     cases bJ
     have bb := aK af
     have bc := aK ae
     clear af ae
     have bd := aK ah
     have be := aK ag
     clear ah ag
     have bf := aK aj
     have bg := aK ai
     clear aj ai
     replace aI := eq_true aI
     replace aJ := eq_true aJ
     go_wp2
     go_ret
     exact ⟨by first|rfl|(simp;done)|(simp [*];done),by repeat (first|exact Drawn0.refl _|apply Drawn0.step)⟩
   ·rw [if_neg c2] at H
    have dM := decide_eq_false c2
    clear c2
    obtain rfl := Option.some.inj H
    go_wp2
    go_ret
    exact ⟨by first|rfl|(simp;done)|(simp [*];done),by repeat (first|exact Drawn0.refl _|apply Drawn0.step)⟩
end Go.Proofs.YtmgliocboeifdaaDoor.K
