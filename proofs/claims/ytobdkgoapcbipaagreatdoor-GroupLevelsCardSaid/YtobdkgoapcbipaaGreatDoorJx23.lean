import Derived.Test.YtobdkgoapcbipaaGreatDoorJx0
import Derived.Test.YtobdkgoapcbipaaGreatDoorJx2
import Derived.Test.YtobdkgoapcbipaaGreatDoorJx11
import Derived.Test.YtobdkgoapcbipaaGreatDoorJx16
namespace Go.Proofs.YtobdkgoapcbipaaGreatDoor.J
open Go.RowKit Go.Proofs.YtobdkgoapcbipaaGreatDoorW.PrintWords Go.Proofs.YtobdkgoapcbipaaGreatDoorW.PrintLast Go.Proofs.YtobdkgoapcbipaaGreatDoorW.PrintMore
attribute [local go_sem] max2_int min2_int max_two min_two max_three min_three max_four min_four
set_option linter.unusedVariables false
set_option linter.unusedSimpArgs false

/-! ### l43_GroupLevels: function 8 -/
mutual
def l43_GroupLevels.j0 : Nat → List (S36) → ByteArray → Bool → Option (Bool)
|0,_,_,_ => none
|k + 1,x0,x1,aa => if aa = true then (some true) else (l43_GroupLevels.l0 k x0 x1 false 0)
def l43_GroupLevels.l0 : Nat → List (S36) → ByteArray → Bool → Int → Option (Bool)
|0,_,_,_,_ => none
|k + 1,x0,x1,x5,x6 => if x6 < (x0.length : Int) then (if x5 = true then (l43_GroupLevels.j2 k x0 x1 true x6) else (if 0 ≤ x6 then (l43_GroupLevels.j2 k x0 x1 (((rd_T36 x0 x6).f0).toList == x1.toList) x6) else (none))) else ((group_Depth.f k x0 x1).bind fun aa => (some (x5 == (decide (aa > 0)))))
def l43_GroupLevels.j2 : Nat → List (S36) → ByteArray → Bool → Int → Option (Bool)
|0,_,_,_,_ => none
|k + 1,x0,x1,x5,x6 => l43_GroupLevels.l1 k x0 x1 x5 x6 0 0
def l43_GroupLevels.l1 : Nat → List (S36) → ByteArray → Bool → Int → Int → Int → Option (Bool)
|0,_,_,_,_,_,_ => none
|k + 1,x0,x1,x5,x6,x7,x8 => if 0 ≤ x6 then (if x6 < (x0.length : Int) then (if x8 < (((rd_T36 x0 x6).f2).length : Int) then (if 0 ≤ x8 then ((group_Depth.f k x0 (rdOf ByteArray.empty ((rd_T36 x0 x6).f2) x8)).bind fun aa => (if aa > x7 then (l43_GroupLevels.l1 k x0 x1 x5 x6 aa (wrap64 (x8 + 1))) else (l43_GroupLevels.l1 k x0 x1 x5 x6 x7 (wrap64 (x8 + 1))))) else (none)) else ((group_Depth.f k x0 ((rd_T36 x0 x6).f0)).bind fun ab => (if ab = (wrap64 (x7 + 1)) then (if ab > 12 then (some false) else (l43_GroupLevels.l0 k x0 x1 x5 (wrap64 (x6 + 1)))) else (some false)))) else (none)) else (none)
end
def l43_GroupLevels.f (k : Nat) (l0 : List (S36)) (a1 : ByteArray) : Option (Bool) := (l43_alive.f k).bind fun aa => (if aa = true then ((l43_few.f k l0).bind fun ab => (if ab = true then (if (a1.size : Int) > 100 then (l43_GroupLevels.j0 k l0 a1 true) else ((r43_Right.f k l0).bind fun ac => (l43_GroupLevels.j0 k l0 a1 (ac != 0)))) else (l43_GroupLevels.j0 k l0 a1 true))) else (some false))
theorem l43_GroupLevels.mono_l : ∀ k, (∀ y0 y1 y2, LeO (l43_GroupLevels.j0 k y0 y1 y2) (l43_GroupLevels.j0 (k + 1) y0 y1 y2)) ∧ (∀ y0 y1 y2 y3, LeO (l43_GroupLevels.l0 k y0 y1 y2 y3) (l43_GroupLevels.l0 (k + 1) y0 y1 y2 y3)) ∧ (∀ y0 y1 y2 y3, LeO (l43_GroupLevels.j2 k y0 y1 y2 y3) (l43_GroupLevels.j2 (k + 1) y0 y1 y2 y3)) ∧ (∀ y0 y1 y2 y3 y4 y5, LeO (l43_GroupLevels.l1 k y0 y1 y2 y3 y4 y5) (l43_GroupLevels.l1 (k + 1) y0 y1 y2 y3 y4 y5))
|0 => ⟨fun _ _ _ r h => by simp [l43_GroupLevels.j0] at h,fun _ _ _ _ r h => by simp [l43_GroupLevels.l0] at h,fun _ _ _ _ r h => by simp [l43_GroupLevels.j2] at h,fun _ _ _ _ _ _ r h => by simp [l43_GroupLevels.l1] at h⟩
|k + 1 => by
  obtain ⟨ih0,ih1,ih2,ih3⟩ := l43_GroupLevels.mono_l k
  refine ⟨?_,?_,?_,?_⟩
  ·intro y0 y1 y2
   unfold l43_GroupLevels.j0
   repeat' (with_reducible first|exact ih1 _ _ _ _|exact LeO.refl _|exact LeO.none _|refine LeO.ite ?_ ?_|refine LeO.bind ?_ (fun _ => ?_))
  ·intro y0 y1 y2 y3
   unfold l43_GroupLevels.l0
   repeat' (with_reducible first|exact ih2 _ _ _ _|exact group_Depth.mono _ _ _|exact LeO.refl _|exact LeO.none _|refine LeO.ite ?_ ?_|refine LeO.bind ?_ (fun _ => ?_))
  ·intro y0 y1 y2 y3
   unfold l43_GroupLevels.j2
   repeat' (with_reducible first|exact ih3 _ _ _ _ _ _|exact LeO.refl _|exact LeO.none _|refine LeO.ite ?_ ?_|refine LeO.bind ?_ (fun _ => ?_))
  ·intro y0 y1 y2 y3 y4 y5
   unfold l43_GroupLevels.l1
   repeat' (with_reducible first|exact ih1 _ _ _ _|exact ih3 _ _ _ _ _ _|exact group_Depth.mono _ _ _|exact LeO.refl _|exact LeO.none _|refine LeO.ite ?_ ?_|refine LeO.bind ?_ (fun _ => ?_))
theorem l43_GroupLevels.mono : ∀ a0 a1 k, LeO (l43_GroupLevels.f k a0 a1) (l43_GroupLevels.f (k + 1) a0 a1) := by
 intro a0 a1 k
 obtain ⟨ih0,ih1,ih2,ih3⟩ := l43_GroupLevels.mono_l k
 unfold l43_GroupLevels.f
 repeat' (with_reducible first|exact ih0 _ _ _|exact ih1 _ _ _ _|exact ih2 _ _ _ _|exact ih3 _ _ _ _ _ _|exact l43_alive.mono _|exact l43_few.mono _ _|exact r43_Right.mono _ _|exact group_Depth.mono _ _ _|exact LeO.refl _|exact LeO.none _|refine LeO.ite ?_ ?_|refine LeO.bind ?_ (fun _ => ?_))
set_option maxHeartbeats 4000000 in
set_option maxRecDepth 100000 in
theorem l43_GroupLevels.calls (k : Nat) (A0 : Option Addr) (c0 : Nat) (l0 : List (S36)) (a1 : ByteArray) (r : Bool) (w : World) (cl : Kd.C k36 w A0 l0.length l0) (cm : l0.length ≤ c0) (h : l43_GroupLevels.f k l0 a1 = some r) :
  Calls Tryz.prog 8 #[.slice A0 l0.length c0,.string a1] w fun e w' => e = .returned (.bool r) ∧ Below w.heap.size w w' := by
 have aP := aK cl
 have bp := aK cm
 clear cl cm
 have HB := aK (Below.refl w.heap.size w)
 unfold l43_GroupLevels.f at h
 have H := h
 clear h
 replace H := Option.bind_eq_some_iff.mp H
 obtain ⟨cb,cn,H⟩ := H
 have A3 := aK cn
 clear cn
 by_cases c4 : cb = true
 ·subst c4
  rw [if_pos rfl] at H
  have cc := aK H
  clear H
  go_enter Tryz.func8,Tryz.ntmps8
  go_upto_region 3 with (first|((with_reducible refine gate_callee (f := 9) rfl ?_);refine gL 11 Tryz.func9 #[] ?_;(with_reducible refine (l43_alive.calls k  true _ A3.out).mono ?_);rintro e w6 ⟨rfl,hb⟩;refine ⟨_,rfl,?_⟩;replace HB := aK (below_step (bM HB.out) hb);(try clear hb)))
  (try simp only [Act.put,z1_,z2_,z3_])
  go_cut [25] (fun cy wc => ∃ (kq : Nat) (a3 : Bool),cy = .bool a3 ∧ Aside0 (l43_GroupLevels.j0 kq l0 a1 a3 = some r) ∧ Aside0 (kq ≤ k) ∧ Aside0 (Below w.heap.size w wc))
  case first =>
   have H := cc.out
   clear cc
   replace H := Option.bind_eq_some_iff.mp H
   obtain ⟨cd,co,H⟩ := H
   have A7 := aK co
   clear co
   by_cases c8 : cd = true
   ·subst c8
    rw [if_pos rfl] at H
    by_cases c9 : (a1.size : Int) > 100
    ·rw [if_pos c9] at H
     have be := decide_eq_true c9
     have bD : decide (100 < a1.size) = true := decide_eq_true (by omega)
     clear c9
     (first|rw [be]|(simp only [i64_w,i32_w];rw [be])|rw [bD]|skip)
     have H' := aK H
     clear H
     go_wp2_with (first|((with_reducible refine gate_callee (f := 10) rfl ?_);refine gL 14 Tryz.func10 #[.slice A0 l0.length c0] ?_;(with_reducible refine (l43_few.calls k _ _ l0 true _ ?ai ?aj A7.out).mono ?_);(case ai => exact cM (Kd.C_below aP.out HB.out));(case aj => exact bp.out);rintro e w' ⟨rfl,⟨nd,rfl⟩⟩;refine ⟨_,rfl,?_⟩))
     go_meet
     case rel => exact ⟨_,(true),(by first|rfl|(simp;done)|(simp [*];done)),H',⟨by first|omega|exact Nat.le_refl _⟩,⟨bM HB.out⟩⟩
    ·rw [if_neg c9] at H
     have be := decide_eq_false c9
     have bD : decide (100 < a1.size) = false := decide_eq_false (by omega)
     clear c9
     (first|rw [be]|(simp only [i64_w,i32_w];rw [be])|rw [bD]|skip)
     replace H := Option.bind_eq_some_iff.mp H
     obtain ⟨bT,bU,H⟩ := H
     have cz := aK bU
     clear bU
     have H' := aK H
     clear H
     go_wp2_with (first|((with_reducible refine gate_callee (f := 10) rfl ?_);refine gL 14 Tryz.func10 #[.slice A0 l0.length c0] ?_;(with_reducible refine (l43_few.calls k _ _ l0 true _ ?ai ?aj A7.out).mono ?_);(case ai => exact cM (Kd.C_below aP.out HB.out));(case aj => exact bp.out);rintro e w' ⟨rfl,⟨nd,rfl⟩⟩;refine ⟨_,rfl,?_⟩)|(go_at_call 12;(with_reducible refine (r43_Right.calls k _ _ l0 bT _ ?ai ?aj cz.out).mono ?_);(case ai => exact Kd.C_below aP.out (bM HB.out));(case aj => exact bp.out);rintro e cB ⟨rfl,hb⟩;replace HB := aK (below_step (bM HB.out) hb);(try clear hb)))
     go_meet
     case rel => exact ⟨_,((bT != 0)),(by first|rfl|(simp;done)|(simp [*];done)),H',⟨by first|omega|exact Nat.le_refl _⟩,⟨bM HB.out⟩⟩
   ·replace c8 := Bool.eq_false_iff.mpr c8
    subst c8
    rw [if_neg (show ¬ (false = true) by decide)] at H
    have H' := aK H
    clear H
    go_wp2_with (first|((with_reducible refine gate_callee (f := 10) rfl ?_);refine gL 14 Tryz.func10 #[.slice A0 l0.length c0] ?_;(with_reducible refine (l43_few.calls k _ _ l0 false _ ?ai ?aj A7.out).mono ?_);(case ai => exact cM (Kd.C_below aP.out HB.out));(case aj => exact bp.out);rintro e w' ⟨rfl,⟨nd,rfl⟩⟩;refine ⟨_,rfl,?_⟩))
    go_meet
    case rel => exact ⟨_,(true),(by first|rfl|(simp;done)|(simp [*];done)),H',⟨by first|omega|exact Nat.le_refl _⟩,⟨bM HB.out⟩⟩
  case rest =>
   clear cc
   try clear p2
   try clear c4
   obtain ⟨kq,a3,rfl,HA,bx,HB⟩ := hcut
   cases kq with
  |zero => exact absurd HA.out (by simp [l43_GroupLevels.j0])
  |succ kj4 =>
    have H := HA.out
    clear HA
    simp only [l43_GroupLevels.j0] at H
    by_cases bV : a3 = true
    ·subst bV
     rw [if_pos rfl] at H
     obtain rfl := Option.some.inj H
     go_wp2
     go_ret
     exact ⟨by first|rfl|(simp [errW_none,errW_some] <;> rfl)|(simp [*,errW_none,errW_some] <;> rfl),bM HB.out⟩
    ·replace bV := Bool.eq_false_iff.mpr bV
     subst bV
     rw [if_neg (show ¬ (false = true) by decide)] at H
     have H' := aK H
     clear H
     go_wp2
     go_loopg [5,6] kj4 (fun kq v5 v6 w' => ∃ (bq : Bool) (aa : Int),v5 = .bool bq ∧ v6 = .int .i64 aa ∧ Aside0 (l43_GroupLevels.l0 kq l0 a1 bq aa = some r) ∧ Aside0 (kq ≤ kj4) ∧ Aside0 (Below w.heap.size w w'))
     case atStart => exact ⟨(false),(0),(by first|rfl|(simp;done)|(simp [*];done)),(by first|rfl|(simp;done)|(simp [*];done)),H',⟨Nat.le_refl _⟩,⟨bM HB.out⟩⟩
     case round =>
      clear H'
      try clear p2
      try clear bV
      try clear p2
      obtain ⟨bq,aa,rfl,rfl,HA,bz,HB⟩ := hrel
      cases gk with
     |zero => exact absurd HA.out (by simp [l43_GroupLevels.l0])
     |succ k2 =>
       have H := HA.out
       clear HA
       simp only [l43_GroupLevels.l0] at H
       by_cases bE : aa < (l0.length : Int)
       ·rw [if_pos bE] at H
        have bB := decide_eq_true bE
        clear bE
        have bF := aK H
        clear H
        go_upto_region 9 with (fail)
        go_cut [5] (fun v5 wc => ∃ (kq : Nat) (aW : Bool),v5 = .bool aW ∧ Aside0 (l43_GroupLevels.j2 kq l0 a1 aW aa = some r) ∧ Aside0 (kq ≤ k2) ∧ Aside0 (Below w.heap.size w wc))
        case first =>
         have H := bF.out
         clear bF
         by_cases b6 : bq = true
         ·subst b6
          rw [if_pos rfl] at H
          have H' := aK H
          clear H
          go_wp2
          go_meet
          case rel => exact ⟨_,(true),(by first|rfl|(simp;done)|(simp [*];done)),H',⟨by have := bx.out;have := bz.out;first|omega|exact Nat.le_refl _⟩,⟨bM HB.out⟩⟩
         ·replace b6 := Bool.eq_false_iff.mpr b6
          subst b6
          rw [if_neg (show ¬ (false = true) by decide)] at H
          obtain ⟨cp,H⟩ := iS H
          have bC := decide_eq_true cp
          clear cp
          (first|rw [bC]|(simp only [i64_w,i32_w];rw [bC])|rw [c16b1]|skip)
          have H' := aK H
          clear H
          have bf : 0 ≤ (aa : Int) := dA
          have bg : aa < (l0.length : Int) := dA
          obtain ⟨cq,ce,cf,cg,ch,ci,aF,aG,aH,a4,a5,a6,a7⟩ := at_T36 aP.out aa bf bg
          cases ci
          replace aF := xM HB aF
          replace aG := xM HB aG
          replace aH := xM HB aH
          have b7 := aK a5
          have b8 := aK a4
          clear a5 a4
          have b9 := aK a7
          have ca := aK a6
          clear a7 a6
          replace bf := eq_true bf
          replace bg := eq_true bg
          go_wp2
          go_meet
          case rel => exact ⟨_,((((rd_T36 l0 aa).f0).toList == a1.toList)),(by first|rfl|(simp;done)|(simp [*];done)),H',⟨by have := bx.out;have := bz.out;first|omega|exact Nat.le_refl _⟩,⟨bM HB.out⟩⟩
        case rest =>
         clear bF
         try clear p2
         try clear p6
         try clear q6
         try clear hx6
         try clear bE
         try clear bB
         try clear aF
         try clear aG
         try clear aH
         try clear p2
         try clear bf
         try clear bg
         obtain ⟨kq,aW,rfl,HA,bc,HB⟩ := hcut
         cases kq with
        |zero => exact absurd HA.out (by simp [l43_GroupLevels.j2])
        |succ kj13 =>
          have H := HA.out
          clear HA
          simp only [l43_GroupLevels.j2] at H
          have H' := aK H
          clear H
          go_wp2
          go_loopg [7,8] kj13 (fun kq v7 v8 w' => ∃ (bd : Int) (ay : Int),v7 = .int .i64 bd ∧ v8 = .int .i64 ay ∧ Aside0 (l43_GroupLevels.l1 kq l0 a1 aW aa bd ay = some r) ∧ Aside0 (kq ≤ kj13) ∧ Aside0 (Below w.heap.size w w'))
          case atStart => exact ⟨(0),(0),(by first|rfl|(simp;done)|(simp [*];done)),(by first|rfl|(simp;done)|(simp [*];done)),H',⟨Nat.le_refl _⟩,⟨bM HB.out⟩⟩
          case round =>
           clear H'
           try clear p2
           try clear p6
           try clear q6
           try clear hx6
           try clear aF
           try clear aG
           try clear aH
           try clear p2
           try clear p6
           try clear bf
           try clear q6
           try clear bg
           obtain ⟨bd,ay,rfl,rfl,HA,bP,HB⟩ := hrel
           cases gk with
          |zero => exact absurd HA.out (by simp [l43_GroupLevels.l1])
          |succ k4 =>
            have H := HA.out
            clear HA
            simp only [l43_GroupLevels.l1] at H
            obtain ⟨cr,H⟩ := iS H
            have cs := decide_eq_true cr
            clear cr
            obtain ⟨ct,H⟩ := iS H
            have cu := decide_eq_true ct
            clear ct
            by_cases bQ : ay < (((rd_T36 l0 aa).f2).length : Int)
            ·rw [if_pos bQ] at H
             have bW := decide_eq_true bQ
             clear bQ
             obtain ⟨cv,H⟩ := iS H
             have cw := decide_eq_true cv
             clear cv
             replace H := Option.bind_eq_some_iff.mp H
             obtain ⟨br,bX,H⟩ := H
             have cx := aK bX
             clear bX
             by_cases bR : br > bd
             ·rw [if_pos bR] at H
              have bY := decide_eq_true bR
              clear bR
              have H' := aK H
              clear H
              have au : 0 ≤ (aa : Int) := dA
              have av : aa < (l0.length : Int) := dA
              obtain ⟨am,aQ,aR,aS,aT,aU,ad,ab,ac,ae,af,ag,ah⟩ := at_T36 aP.out aa au av
              cases aU
              replace ad := xM HB ad
              replace ab := xM HB ab
              replace ac := xM HB ac
              have aI := aK af
              have aJ := aK ae
              clear af ae
              have aL := aK ah
              have aM := aK ag
              clear ah ag
              replace au := eq_true au
              replace av := eq_true av
              have aY : 0 ≤ (aa : Int) := dA
              have aZ : aa < (l0.length : Int) := dA
              obtain ⟨bh,bH,bI,bJ,bK,bL,az,aw,ax,aA,aB,aC,aD⟩ := at_T36 aP.out aa aY aZ
              obtain rfl : am = bh := (by injection bL)
              replace az := xM HB az
              replace aw := xM HB aw
              replace ax := xM HB ax
              have bs := aK aB
              have bu := aK aA
              clear aB aA
              have aV := aK aD
              have bv := aK aC
              clear aD aC
              replace aY := eq_true aY
              replace aZ := eq_true aZ
              have ea_ := Option.some.inj (ab.symm.trans aw)
              injection ea_ with ea_ en_ ec_
              subst ea_
              subst ec_
              clear en_
              have ea_ := Option.some.inj (ac.symm.trans ax)
              injection ea_ with ea_ en_ ec_
              subst ea_
              subst ec_
              clear en_
              have a0 : 0 ≤ (ay : Int) := dA
              have a2 : ay < (((rd_T36 l0 aa).f2).length : Int) := dA
              obtain ⟨bZ,bN,aE⟩ := Kd.at_string aV.out ay a0 a2
              cases bN
              replace aE := xM HB aE
              replace a0 := eq_true a0
              replace a2 := eq_true a2
              go_wp2_with (first|((with_reducible refine gate_callee (f := 21) rfl ?_);refine gL 61 Tryz.func21 #[.slice (some am) l0.length c0,.string (rdOf ByteArray.empty ((rd_T36 l0 aa).f2) ay)] ?_;(with_reducible refine (group_Depth.calls k4 _ _ l0 (rdOf ByteArray.empty ((rd_T36 l0 aa).f2) ay) br _ ?ai ?aj cx.out).mono ?_);(case ai => exact cM (Kd.C_below aP.out HB.out));(case aj => exact bp.out);rintro e cC ⟨rfl,hb⟩;refine ⟨_,rfl,?_⟩;replace HB := aK (below_step (bM HB.out) hb);(try clear hb)))
              go_roundg k4
              case measure => have := bx.out;have := bz.out;have := bc.out;have := bP.out;omega
              case rel => exact ⟨(br),(wrap64 (ay + 1)),(by first|rfl|(simp;done)|(simp [*];done)),(by first|rfl|(simp;done)|(simp [*];done)),H',⟨by have := bx.out;have := bz.out;have := bc.out;have := bP.out;omega⟩,⟨bM HB.out⟩⟩
             ·rw [if_neg bR] at H
              have bY := decide_eq_false bR
              clear bR
              have H' := aK H
              clear H
              have au : 0 ≤ (aa : Int) := dA
              have av : aa < (l0.length : Int) := dA
              obtain ⟨am,aQ,aR,aS,aT,aU,ad,ab,ac,ae,af,ag,ah⟩ := at_T36 aP.out aa au av
              cases aU
              replace ad := xM HB ad
              replace ab := xM HB ab
              replace ac := xM HB ac
              have aI := aK af
              have aJ := aK ae
              clear af ae
              have aL := aK ah
              have aM := aK ag
              clear ah ag
              replace au := eq_true au
              replace av := eq_true av
              have aY : 0 ≤ (aa : Int) := dA
              have aZ : aa < (l0.length : Int) := dA
              obtain ⟨bh,bH,bI,bJ,bK,bL,az,aw,ax,aA,aB,aC,aD⟩ := at_T36 aP.out aa aY aZ
              obtain rfl : am = bh := (by injection bL)
              replace az := xM HB az
              replace aw := xM HB aw
              replace ax := xM HB ax
              have bs := aK aB
              have bu := aK aA
              clear aB aA
              have aV := aK aD
              have bv := aK aC
              clear aD aC
              replace aY := eq_true aY
              replace aZ := eq_true aZ
              have ea_ := Option.some.inj (ab.symm.trans aw)
              injection ea_ with ea_ en_ ec_
              subst ea_
              subst ec_
              clear en_
              have ea_ := Option.some.inj (ac.symm.trans ax)
              injection ea_ with ea_ en_ ec_
              subst ea_
              subst ec_
              clear en_
              have a0 : 0 ≤ (ay : Int) := dA
              have a2 : ay < (((rd_T36 l0 aa).f2).length : Int) := dA
              obtain ⟨bZ,bN,aE⟩ := Kd.at_string aV.out ay a0 a2
              cases bN
              replace aE := xM HB aE
              replace a0 := eq_true a0
              replace a2 := eq_true a2
              go_wp2_with (first|((with_reducible refine gate_callee (f := 21) rfl ?_);refine gL 61 Tryz.func21 #[.slice (some am) l0.length c0,.string (rdOf ByteArray.empty ((rd_T36 l0 aa).f2) ay)] ?_;(with_reducible refine (group_Depth.calls k4 _ _ l0 (rdOf ByteArray.empty ((rd_T36 l0 aa).f2) ay) br _ ?ai ?aj cx.out).mono ?_);(case ai => exact cM (Kd.C_below aP.out HB.out));(case aj => exact bp.out);rintro e cD ⟨rfl,hb⟩;refine ⟨_,rfl,?_⟩;replace HB := aK (below_step (bM HB.out) hb);(try clear hb)))
              go_roundg k4
              case measure => have := bx.out;have := bz.out;have := bc.out;have := bP.out;omega
              case rel => exact ⟨(bd),(wrap64 (ay + 1)),(by first|rfl|(simp;done)|(simp [*];done)),(by first|rfl|(simp;done)|(simp [*];done)),H',⟨by have := bx.out;have := bz.out;have := bc.out;have := bP.out;omega⟩,⟨bM HB.out⟩⟩
            ·rw [if_neg bQ] at H
             have bW := decide_eq_false bQ
             clear bQ
             replace H := Option.bind_eq_some_iff.mp H
             obtain ⟨bi,b1,H⟩ := H
             have cj := aK b1
             clear b1
             by_cases bO : bi = (wrap64 (bd + 1))
             ·rw [if_pos bO] at H
              have b2 := beq_iff_eq.mpr bO
              have b3 := bne_eq_false_iff_eq.mpr bO
              clear bO
              by_cases bS : bi > 12
              ·rw [if_pos bS] at H
               have b4 := decide_eq_true bS
               clear bS
               obtain rfl := Option.some.inj H
               have au : 0 ≤ (aa : Int) := dA
               have av : aa < (l0.length : Int) := dA
               obtain ⟨am,aQ,aR,aS,aT,aU,ad,ab,ac,ae,af,ag,ah⟩ := at_T36 aP.out aa au av
               cases aU
               replace ad := xM HB ad
               replace ab := xM HB ab
               replace ac := xM HB ac
               have aI := aK af
               have aJ := aK ae
               clear af ae
               have aL := aK ah
               have aM := aK ag
               clear ah ag
               replace au := eq_true au
               replace av := eq_true av
               have aN : 0 ≤ (aa : Int) := dA
               have aO : aa < (l0.length : Int) := dA
               obtain ⟨aX,bj,bk,bm,bn,bo,an,ak,al,ao,ap,aq,ar⟩ := at_T36 aP.out aa aN aO
               obtain rfl : am = aX := (by injection bo)
               replace an := xM HB an
               replace ak := xM HB ak
               replace al := xM HB al
               have a8 := aK ap
               have a9 := aK ao
               clear ap ao
               have ba := aK ar
               have bb := aK aq
               clear ar aq
               replace aN := eq_true aN
               replace aO := eq_true aO
               have ea_ := Option.some.inj (ab.symm.trans ak)
               injection ea_ with ea_ en_ ec_
               subst ea_
               subst ec_
               clear en_
               have ea_ := Option.some.inj (ac.symm.trans al)
               injection ea_ with ea_ en_ ec_
               subst ea_
               subst ec_
               clear en_
               go_wp2_with (first|((with_reducible refine gate_callee (f := 21) rfl ?_);refine gL 72 Tryz.func21 #[.slice (some am) l0.length c0,.string ((rd_T36 l0 aa).f0)] ?_;(with_reducible refine (group_Depth.calls k4 _ _ l0 ((rd_T36 l0 aa).f0) bi _ ?ai ?aj cj.out).mono ?_);(case ai => exact cM (Kd.C_below aP.out HB.out));(case aj => exact bp.out);rintro e cE ⟨rfl,hb⟩;refine ⟨_,rfl,?_⟩;replace HB := aK (below_step (bM HB.out) hb);(try clear hb)))
               go_ret
               exact ⟨by first|rfl|(simp [errW_none,errW_some] <;> rfl)|(simp [*,errW_none,errW_some] <;> rfl),bM HB.out⟩
              ·rw [if_neg bS] at H
               have b4 := decide_eq_false bS
               clear bS
               have H' := aK H
               clear H
               have au : 0 ≤ (aa : Int) := dA
               have av : aa < (l0.length : Int) := dA
               obtain ⟨am,aQ,aR,aS,aT,aU,ad,ab,ac,ae,af,ag,ah⟩ := at_T36 aP.out aa au av
               cases aU
               replace ad := xM HB ad
               replace ab := xM HB ab
               replace ac := xM HB ac
               have aI := aK af
               have aJ := aK ae
               clear af ae
               have aL := aK ah
               have aM := aK ag
               clear ah ag
               replace au := eq_true au
               replace av := eq_true av
               have aN : 0 ≤ (aa : Int) := dA
               have aO : aa < (l0.length : Int) := dA
               obtain ⟨aX,bj,bk,bm,bn,bo,an,ak,al,ao,ap,aq,ar⟩ := at_T36 aP.out aa aN aO
               obtain rfl : am = aX := (by injection bo)
               replace an := xM HB an
               replace ak := xM HB ak
               replace al := xM HB al
               have a8 := aK ap
               have a9 := aK ao
               clear ap ao
               have ba := aK ar
               have bb := aK aq
               clear ar aq
               replace aN := eq_true aN
               replace aO := eq_true aO
               have ea_ := Option.some.inj (ab.symm.trans ak)
               injection ea_ with ea_ en_ ec_
               subst ea_
               subst ec_
               clear en_
               have ea_ := Option.some.inj (ac.symm.trans al)
               injection ea_ with ea_ en_ ec_
               subst ea_
               subst ec_
               clear en_
               go_wp2_with (first|((with_reducible refine gate_callee (f := 21) rfl ?_);refine gL 72 Tryz.func21 #[.slice (some am) l0.length c0,.string ((rd_T36 l0 aa).f0)] ?_;(with_reducible refine (group_Depth.calls k4 _ _ l0 ((rd_T36 l0 aa).f0) bi _ ?ai ?aj cj.out).mono ?_);(case ai => exact cM (Kd.C_below aP.out HB.out));(case aj => exact bp.out);rintro e cF ⟨rfl,hb⟩;refine ⟨_,rfl,?_⟩;replace HB := aK (below_step (bM HB.out) hb);(try clear hb)))
               go_roundg k4
               case measure => have := bx.out;have := bz.out;have := bc.out;have := bP.out;omega
               case rel => exact ⟨(aW),(wrap64 (aa + 1)),(by first|rfl|(simp;done)|(simp [*];done)),(by first|rfl|(simp;done)|(simp [*];done)),H',⟨by have := bx.out;have := bz.out;have := bc.out;have := bP.out;omega⟩,⟨bM HB.out⟩⟩
             ·rw [if_neg bO] at H
              have b2 := beq_eq_false_iff_ne.mpr bO
              have b3 := bne_iff_ne.mpr bO
              obtain rfl := Option.some.inj H
              have au : 0 ≤ (aa : Int) := dA
              have av : aa < (l0.length : Int) := dA
              obtain ⟨am,aQ,aR,aS,aT,aU,ad,ab,ac,ae,af,ag,ah⟩ := at_T36 aP.out aa au av
              cases aU
              replace ad := xM HB ad
              replace ab := xM HB ab
              replace ac := xM HB ac
              have aI := aK af
              have aJ := aK ae
              clear af ae
              have aL := aK ah
              have aM := aK ag
              clear ah ag
              replace au := eq_true au
              replace av := eq_true av
              have aN : 0 ≤ (aa : Int) := dA
              have aO : aa < (l0.length : Int) := dA
              obtain ⟨aX,bj,bk,bm,bn,bo,an,ak,al,ao,ap,aq,ar⟩ := at_T36 aP.out aa aN aO
              obtain rfl : am = aX := (by injection bo)
              replace an := xM HB an
              replace ak := xM HB ak
              replace al := xM HB al
              have a8 := aK ap
              have a9 := aK ao
              clear ap ao
              have ba := aK ar
              have bb := aK aq
              clear ar aq
              replace aN := eq_true aN
              replace aO := eq_true aO
              have ea_ := Option.some.inj (ab.symm.trans ak)
              injection ea_ with ea_ en_ ec_
              subst ea_
              subst ec_
              clear en_
              have ea_ := Option.some.inj (ac.symm.trans al)
              injection ea_ with ea_ en_ ec_
              subst ea_
              subst ec_
              clear en_
              go_wp2_with (first|((with_reducible refine gate_callee (f := 21) rfl ?_);refine gL 72 Tryz.func21 #[.slice (some am) l0.length c0,.string ((rd_T36 l0 aa).f0)] ?_;(with_reducible refine (group_Depth.calls k4 _ _ l0 ((rd_T36 l0 aa).f0) bi _ ?ai ?aj cj.out).mono ?_);(case ai => exact cM (Kd.C_below aP.out HB.out));(case aj => exact bp.out);rintro e cG ⟨rfl,hb⟩;refine ⟨_,rfl,?_⟩;replace HB := aK (below_step (bM HB.out) hb);(try clear hb)))
              go_ret
              exact ⟨by first|rfl|(simp [errW_none,errW_some] <;> rfl)|(simp [*,errW_none,errW_some] <;> rfl),bM HB.out⟩
       ·rw [if_neg bE] at H
        have bB := decide_eq_false bE
        clear bE
        replace H := Option.bind_eq_some_iff.mp H
        obtain ⟨ck,b5,H⟩ := H
        have cA := aK b5
        clear b5
        obtain rfl := Option.some.inj H
        go_wp2_with (first|((with_reducible refine gate_callee (f := 21) rfl ?_);refine gL 84 Tryz.func21 #[.slice A0 l0.length c0,.string a1] ?_;(with_reducible refine (group_Depth.calls k2 _ _ l0 a1 ck _ ?ai ?aj cA.out).mono ?_);(case ai => exact cM (Kd.C_below aP.out HB.out));(case aj => exact bp.out);rintro e cH ⟨rfl,hb⟩;refine ⟨_,rfl,?_⟩;replace HB := aK (below_step (bM HB.out) hb);(try clear hb)))
        go_ret
        exact ⟨by first|rfl|(simp [errW_none,errW_some] <;> rfl)|(simp [*,errW_none,errW_some] <;> rfl),bM HB.out⟩
 ·replace c4 := Bool.eq_false_iff.mpr c4
  subst c4
  rw [if_neg (show ¬ (false = true) by decide)] at H
  obtain rfl := Option.some.inj H
  go_enter Tryz.func8,Tryz.ntmps8
  go_wp2_with (first|((with_reducible refine gate_callee (f := 9) rfl ?_);refine gL 11 Tryz.func9 #[] ?_;(with_reducible refine (l43_alive.calls k  false _ A3.out).mono ?_);rintro e cI ⟨rfl,hb⟩;refine ⟨_,rfl,?_⟩;replace HB := aK (below_step (bM HB.out) hb);(try clear hb)))
  go_ret
  exact ⟨by first|rfl|(simp [errW_none,errW_some] <;> rfl)|(simp [*,errW_none,errW_some] <;> rfl),bM HB.out⟩
end Go.Proofs.YtobdkgoapcbipaaGreatDoor.J
