import Derived.Test.YtgadbpljlpclnaaGreatDoorHx0
import Derived.Test.YtgadbpljlpclnaaGreatDoorHx4
namespace Go.Proofs.YtgadbpljlpclnaaGreatDoor.H
open Go.RowKit Go.Proofs.YtgadbpljlpclnaaGreatDoorW.PrintWords Go.Proofs.YtgadbpljlpclnaaGreatDoorW.PrintLast Go.Proofs.YtgadbpljlpclnaaGreatDoorW.PrintMore
set_option maxHeartbeats 4000000
set_option maxRecDepth 100000
attribute [local go_sem] max2_int min2_int max_two min_two max_three min_three max_four min_four
set_option linter.unusedVariables false
set_option linter.unusedSimpArgs false

/-! ### r25_Right: function 68 -/
mutual
def r25_Right.l0 : Nat → List (S55) → Int → Option (Int)
|0,_,_ => none
|k + 1,x0,x3 => if x3 < (x0.length : Int) then (if 0 ≤ x3 then ((r02_ValidPath.f k ((rd_T55 x0 x3).f0)).bind fun aa => (if aa = true then (if ((rd_T55 x0 x3).f1) < 1 then (r25_Right.j1 k x0 x3 true) else (r25_Right.j1 k x0 x3 (decide (((rd_T55 x0 x3).f1) > 9999)))) else (some 3))) else (none)) else (some 0)
def r25_Right.j1 : Nat → List (S55) → Int → Bool → Option (Int)
|0,_,_,_ => none
|k + 1,x0,x3,aa => if aa = true then (some 2) else (if x3 > 0 then (if 0 ≤ x3 then (if x3 < (x0.length : Int) then (if 0 ≤ (wrap64 (x3 - 1)) then (if (wrap64 (x3 - 1)) < (x0.length : Int) then (r25_Right.j2 k x0 x3 (!(Op.bytesLess (((rd_T55 x0 (wrap64 (x3 - 1))).f0).toList) (((rd_T55 x0 x3).f0).toList)))) else (none)) else (none)) else (none)) else (none)) else (r25_Right.j2 k x0 x3 false))
def r25_Right.j2 : Nat → List (S55) → Int → Bool → Option (Int)
|0,_,_,_ => none
|k + 1,x0,x3,aa => if aa = true then (some 7) else (r25_Right.l1 k x0 x3 0)
def r25_Right.l1 : Nat → List (S55) → Int → Int → Option (Int)
|0,_,_,_ => none
|k + 1,x0,x3,x4 => if x4 < (x0.length : Int) then (if x4 = x3 then (r25_Right.l1 k x0 x3 (wrap64 (x4 + 1))) else (if 0 ≤ x3 then (if x3 < (x0.length : Int) then (if 0 ≤ x4 then ((r02_Under.f ((rd_T55 x0 x3).f0) ((rd_T55 x0 x4).f0)).bind fun aa => (if aa = true then (some 14) else (r25_Right.l1 k x0 x3 (wrap64 (x4 + 1))))) else (none)) else (none)) else (none))) else (r25_Right.l0 k x0 (wrap64 (x3 + 1)))
end
def r25_Right.f (k : Nat) (l0 : List (S55)) : Option (Int) := if (l0.length : Int) > 32 then (some 4) else (r25_Right.l0 k l0 0)
theorem r25_Right.mono_l : ∀ k, (∀ y0 y1, LeO (r25_Right.l0 k y0 y1) (r25_Right.l0 (k + 1) y0 y1)) ∧ (∀ y0 y1 y2, LeO (r25_Right.j1 k y0 y1 y2) (r25_Right.j1 (k + 1) y0 y1 y2)) ∧ (∀ y0 y1 y2, LeO (r25_Right.j2 k y0 y1 y2) (r25_Right.j2 (k + 1) y0 y1 y2)) ∧ (∀ y0 y1 y2, LeO (r25_Right.l1 k y0 y1 y2) (r25_Right.l1 (k + 1) y0 y1 y2))
|0 => ⟨fun _ _ r h => by simp [r25_Right.l0] at h,fun _ _ _ r h => by simp [r25_Right.j1] at h,fun _ _ _ r h => by simp [r25_Right.j2] at h,fun _ _ _ r h => by simp [r25_Right.l1] at h⟩
|k + 1 => by
  obtain ⟨ih0,ih1,ih2,ih3⟩ := r25_Right.mono_l k
  refine ⟨?_,?_,?_,?_⟩
  ·intro y0 y1
   unfold r25_Right.l0
   repeat' (with_reducible first|exact ih1 _ _ _|exact r02_ValidPath.mono _ _|exact LeO.refl _|exact LeO.none _|refine LeO.ite ?_ ?_|refine LeO.bind ?_ (fun _ => ?_))
  ·intro y0 y1 y2
   unfold r25_Right.j1
   repeat' (with_reducible first|exact ih2 _ _ _|exact LeO.refl _|exact LeO.none _|refine LeO.ite ?_ ?_|refine LeO.bind ?_ (fun _ => ?_))
  ·intro y0 y1 y2
   unfold r25_Right.j2
   repeat' (with_reducible first|exact ih3 _ _ _|exact LeO.refl _|exact LeO.none _|refine LeO.ite ?_ ?_|refine LeO.bind ?_ (fun _ => ?_))
  ·intro y0 y1 y2
   unfold r25_Right.l1
   repeat' (with_reducible first|exact ih0 _ _|exact ih3 _ _ _|exact LeO.refl _|exact LeO.none _|refine LeO.ite ?_ ?_|refine LeO.bind ?_ (fun _ => ?_))
theorem r25_Right.mono : ∀ a0 k, LeO (r25_Right.f k a0) (r25_Right.f (k + 1) a0) := by
 intro a0 k
 obtain ⟨ih0,ih1,ih2,ih3⟩ := r25_Right.mono_l k
 unfold r25_Right.f
 repeat' (with_reducible first|exact ih0 _ _|exact ih1 _ _ _|exact ih2 _ _ _|exact ih3 _ _ _|exact r02_ValidPath.mono _ _|exact LeO.refl _|exact LeO.none _|refine LeO.ite ?_ ?_|refine LeO.bind ?_ (fun _ => ?_))
theorem r25_Right.calls (k : Nat) (A0 : Option Addr) (c0 : Nat) (l0 : List (S55)) (r : Int) (w : World) (bq : Kd.C k55 w A0 l0.length l0) (br : l0.length ≤ c0) (h : r25_Right.f k l0 = some r) :
  Calls Tryz.prog 68 #[.slice A0 l0.length c0] w fun e w' => e = .returned (.int .i64 r) ∧ Drawn0 w w' := by
 have aE := aK bq
 have bP := aK br
 clear bq br
 have H : (if (l0.length : Int) > 32 then (some 4) else (r25_Right.l0 k l0 0)) = some r := h
 clear h
 by_cases c2 : (l0.length : Int) > 32
 ·rw [if_pos c2] at H
  have a5 := decide_eq_true c2
  have a6 : decide (32 < l0.length) = true := decide_eq_true (by omega)
  clear c2
  obtain rfl := Option.some.inj H
  go_enter Tryz.func68,Tryz.ntmps68
  go_wp2
  repeat (go_quiet (fail);try go_wp2)
  go_ret
  exact ⟨by first|rfl|(simp;done)|(simp [*];done),by repeat (first|exact Drawn0.refl _|apply Drawn0.step)⟩
 ·rw [if_neg c2] at H
  have a5 := decide_eq_false c2
  have a6 : decide (32 < l0.length) = false := decide_eq_false (by omega)
  clear c2
  have H' := aK H
  clear H
  go_enter Tryz.func68,Tryz.ntmps68
  go_wp2
  repeat (go_quiet (fail);try go_wp2)
  go_loopg [3] k (fun kq v3 w' => ∃ (aa : Int),v3 = .int .i64 aa ∧ Aside0 (r25_Right.l0 kq l0 aa = some r) ∧ Aside0 (kq ≤ k) ∧ Drawn0 w w')
  case atStart => exact ⟨(0),(by first|rfl|(simp;done)|(simp [*];done)),H',⟨Nat.le_refl _⟩,by repeat (first|exact Drawn0.refl _|apply Drawn0.step)⟩
  case round =>
   clear H'
   try clear c2
   try clear a5
   try clear a6
   try clear p2
   obtain ⟨aa,rfl,HA,aO,⟨m1,rfl⟩⟩ := hrel
   cases gk with
  |zero => exact absurd HA.out (by simp [r25_Right.l0])
  |succ k1 =>
    have H := HA.out
    clear HA
    simp only [r25_Right.l0] at H
    by_cases c3 : aa < (l0.length : Int)
    ·rw [if_pos c3] at H
     have a7 := decide_eq_true c3
     clear c3
     obtain ⟨c4,H⟩ := iS H
     have bh := decide_eq_true c4
     clear c4
     replace H := Option.bind_eq_some_iff.mp H
     obtain ⟨bi,bs,H⟩ := H
     have A5 := aK bs
     clear bs
     by_cases c6 : bi = true
     ·subst c6
      rw [if_pos rfl] at H
      have bj := aK H
      clear H
      have ah : 0 ≤ (aa : Int) := dA
      have ai : aa < (l0.length : Int) := dA
      obtain ⟨ac,aU,ad,ae⟩ := at_T55 aE.out aa ah ai
      cases aU
      replace ah := eq_true ah
      replace ai := eq_true ai
      go_upto_region 8 with (first|(go_at_call 93;(with_reducible refine (r02_ValidPath.calls k1 ((rd_T55 l0 aa).f0) true _ A5.out).mono ?_);rintro e w' ⟨rfl,⟨nd,rfl⟩⟩;(try first|exact ⟨rfl,_,World.drewN_drewN _ _ _⟩|exact ⟨rfl,_,Eq.trans (World.drewN_drewN _ _ _) (congrArg (World.drewN _) (Nat.add_assoc _ _ _))⟩)))
      repeat (go_quiet (first|(go_at_call 93;(with_reducible refine (r02_ValidPath.calls k1 ((rd_T55 l0 aa).f0) true _ A5.out).mono ?_);rintro e w' ⟨rfl,⟨nd,rfl⟩⟩;(try first|exact ⟨rfl,_,World.drewN_drewN _ _ _⟩|exact ⟨rfl,_,Eq.trans (World.drewN_drewN _ _ _) (congrArg (World.drewN _) (Nat.add_assoc _ _ _))⟩)));go_upto_region 8 with (first|(go_at_call 93;(with_reducible refine (r02_ValidPath.calls k1 ((rd_T55 l0 aa).f0) true _ A5.out).mono ?_);rintro e w' ⟨rfl,⟨nd,rfl⟩⟩;(try first|exact ⟨rfl,_,World.drewN_drewN _ _ _⟩|exact ⟨rfl,_,Eq.trans (World.drewN_drewN _ _ _) (congrArg (World.drewN _) (Nat.add_assoc _ _ _))⟩))))
      (try simp only [Act.put,z1_,z2_,z3_])
      go_cut [34] (fun bN wc => ∃ (kq : Nat) (av : Bool),bN = .bool av ∧ Aside0 (r25_Right.j1 kq l0 aa av = some r) ∧ Aside0 (kq ≤ k1) ∧ Drawn0 w wc)
      case first =>
       have H := bj.out
       clear bj
       by_cases c8 : ((rd_T55 l0 aa).f1) < 1
       ·rw [if_pos c8] at H
        have aF := decide_eq_true c8
        clear c8
        (first|rw [aF]|(simp only [i64_w,i32_w];rw [aF])|rw [c8b1]|skip)
        have H' := aK H
        clear H
        have aj : 0 ≤ (aa : Int) := dA
        have ak : aa < (l0.length : Int) := dA
        obtain ⟨aG,aV,af,ag⟩ := at_T55 aE.out aa aj ak
        obtain rfl : ac = aG := (by injection aV)
        replace aj := eq_true aj
        replace ak := eq_true ak
        go_wp2
        repeat (go_quiet (fail);try go_wp2)
        go_meet
        case rel => exact ⟨_,(true),(by first|rfl|(simp;done)|(simp [*];done)),H',⟨by have := aO.out;first|omega|exact Nat.le_refl _⟩,by repeat (first|exact Drawn0.refl _|apply Drawn0.step)⟩
       ·rw [if_neg c8] at H
        have aF := decide_eq_false c8
        clear c8
        (first|rw [aF]|(simp only [i64_w,i32_w];rw [aF])|rw [c8b1]|skip)
        have H' := aK H
        clear H
        have aj : 0 ≤ (aa : Int) := dA
        have ak : aa < (l0.length : Int) := dA
        obtain ⟨aG,aV,af,ag⟩ := at_T55 aE.out aa aj ak
        obtain rfl : ac = aG := (by injection aV)
        replace aj := eq_true aj
        replace ak := eq_true ak
        have aC : 0 ≤ (aa : Int) := dA
        have aD : aa < (l0.length : Int) := dA
        obtain ⟨a8,bk,al,am⟩ := at_T55 aE.out aa aC aD
        obtain rfl : ac = a8 := (by injection bk)
        replace aC := eq_true aC
        replace aD := eq_true aD
        go_wp2
        repeat (go_quiet (fail);try go_wp2)
        go_meet
        case rel => exact ⟨_,(decide (((rd_T55 l0 aa).f1) > 9999)),(by first|rfl|(simp;done)|(simp [*];done)),H',⟨by have := aO.out;first|omega|exact Nat.le_refl _⟩,by repeat (first|exact Drawn0.refl _|apply Drawn0.step)⟩
      case rest =>
       clear bj
       try clear p1
       try clear q1
       try clear hx1
       try clear p2
       try clear c3
       try clear a7
       try clear c4
       try clear bh
       try clear c6
       try clear ad
       try clear ae
       try clear af
       try clear ag
       try clear al
       try clear am
       try clear ah
       try clear aj
       try clear aC
       try clear p2
       try clear ai
       try clear ak
       try clear aD
       obtain ⟨kq,av,rfl,HA,aT,⟨bQ,rfl⟩⟩ := hcut
       cases kq with
      |zero => exact absurd HA.out (by simp [r25_Right.j1])
      |succ kj6 =>
        have H := HA.out
        clear HA
        simp only [r25_Right.j1] at H
        by_cases c9 : av = true
        ·subst c9
         rw [if_pos rfl] at H
         obtain rfl := Option.some.inj H
         go_wp2
         repeat (go_quiet (fail);try go_wp2)
         go_ret
         exact ⟨by first|rfl|(simp;done)|(simp [*];done),by repeat (first|exact Drawn0.refl _|apply Drawn0.step)⟩
        ·replace c9 := Bool.eq_false_iff.mpr c9
         subst c9
         rw [if_neg (show ¬ (false = true) by decide)] at H
         have aW := aK H
         clear H
         go_upto_region 10 with (fail)
         repeat (go_quiet (fail);go_upto_region 10 with (fail))
         go_cut [50] (fun bO wc => ∃ (kq : Nat) (aw : Bool),bO = .bool aw ∧ Aside0 (r25_Right.j2 kq l0 aa aw = some r) ∧ Aside0 (kq ≤ kj6) ∧ Drawn0 w wc)
         case first =>
          have H := aW.out
          clear aW
          by_cases a0 : aa > 0
          ·rw [if_pos a0] at H
           have an := decide_eq_true a0
           clear a0
           (first|rw [an]|(simp only [i64_w,i32_w];rw [an])|rw [c11b1]|skip)
           obtain ⟨bu,H⟩ := iS H
           have bv := decide_eq_true bu
           clear bu
           obtain ⟨bx,H⟩ := iS H
           have bz := decide_eq_true bx
           clear bx
           obtain ⟨ao,ax⟩ : ∃ j_ : Int,(wrap64 (aa - 1)) = j_ := ⟨_,rfl⟩
           replace H : (if 0 ≤ (ao) then (if (ao) < (l0.length : Int) then (r25_Right.j2 kj6 l0 aa (!(Op.bytesLess (((rd_T55 l0 (ao)).f0).toList) (((rd_T55 l0 aa).f0).toList)))) else (none)) else (none)) = some r := by first|(rw [ax] at H;exact H)|(simp only [ax] at H ⊢;exact H)
           have bm : (IntKind.i64.wrap (aa - 1)) = ao := (i64_w _).trans ax
           obtain ⟨bB,H⟩ := iS H
           have bC := decide_eq_true bB
           clear bB
           obtain ⟨bD,H⟩ := iS H
           have bE := decide_eq_true bD
           clear bD
           have H' := aK H
           clear H
           have aH : 0 ≤ (aa : Int) := dA
           have aI : aa < (l0.length : Int) := dA
           obtain ⟨a9,bn,ay,az⟩ := at_T55 aE.out aa aH aI
           obtain rfl : ac = a9 := (by injection bn)
           replace aH := eq_true aH
           replace aI := eq_true aI
           have aJ : 0 ≤ ((ao) : Int) := dA
           have aL : (ao) < (l0.length : Int) := dA
           obtain ⟨ba,bo,aA,aB⟩ := at_T55 aE.out (ao) aJ aL
           obtain rfl : ac = ba := (by injection bo)
           replace aJ := eq_true aJ
           replace aL := eq_true aL
           go_wp2
           repeat (go_quiet (fail);try go_wp2)
           go_meet
           case rel => exact ⟨_,(!(Op.bytesLess (((rd_T55 l0 (ao)).f0).toList) (((rd_T55 l0 aa).f0).toList))),(by first|rfl|(simp;done)|(rw [Int.tdiv_eq_ediv_of_nonneg (by assumption)];done)|(rw [Int.tmod_eq_emod_of_nonneg (by assumption)];done)|(simp only [← ax] <;> (first|rfl|simp))|(simp [*];done)),H',⟨by have := aO.out;have := aT.out;first|omega|exact Nat.le_refl _⟩,by repeat (first|exact Drawn0.refl _|apply Drawn0.step)⟩
          ·rw [if_neg a0] at H
           have an := decide_eq_false a0
           clear a0
           (first|rw [an]|(simp only [i64_w,i32_w];rw [an])|rw [c11b1]|skip)
           have H' := aK H
           clear H
           go_wp2
           repeat (go_quiet (fail);try go_wp2)
           go_meet
           case rel => exact ⟨_,(false),(by first|rfl|(simp;done)|(simp [*];done)),H',⟨by have := aO.out;have := aT.out;first|omega|exact Nat.le_refl _⟩,by repeat (first|exact Drawn0.refl _|apply Drawn0.step)⟩
         case rest =>
          clear aW
          try clear p1
          try clear q1
          try clear hx1
          try clear p2
          try clear p6
          try clear c9
          try clear p12
          try clear q12
          try clear hx12
          try clear ad
          try clear ae
          try clear af
          try clear ag
          try clear al
          try clear am
          try clear ay
          try clear az
          try clear aA
          try clear aB
          try clear p1
          try clear ah
          try clear aj
          try clear aC
          try clear aH
          try clear aJ
          try clear p2
          try clear q1
          try clear ai
          try clear ak
          try clear aD
          try clear aI
          try clear aL
          obtain ⟨kq,aw,rfl,HA,a1,⟨bR,rfl⟩⟩ := hcut
          cases kq with
         |zero => exact absurd HA.out (by simp [r25_Right.j2])
         |succ kj9 =>
           have H := HA.out
           clear HA
           simp only [r25_Right.j2] at H
           by_cases bb : aw = true
           ·subst bb
            rw [if_pos rfl] at H
            obtain rfl := Option.some.inj H
            go_wp2
            repeat (go_quiet (fail);try go_wp2)
            go_ret
            exact ⟨by first|rfl|(simp;done)|(simp [*];done),by repeat (first|exact Drawn0.refl _|apply Drawn0.step)⟩
           ·replace bb := Bool.eq_false_iff.mpr bb
            subst bb
            rw [if_neg (show ¬ (false = true) by decide)] at H
            have H' := aK H
            clear H
            go_wp2
            repeat (go_quiet (fail);try go_wp2)
            go_loopg [4] kj9 (fun kq v4 w' => ∃ (ab : Int),v4 = .int .i64 ab ∧ Aside0 (r25_Right.l1 kq l0 aa ab = some r) ∧ Aside0 (kq ≤ kj9) ∧ Drawn0 w w')
            case atStart => exact ⟨(0),(by first|rfl|(simp;done)|(simp [*];done)),H',⟨Nat.le_refl _⟩,by repeat (first|exact Drawn0.refl _|apply Drawn0.step)⟩
            case round =>
             clear H'
             try clear p1
             try clear q1
             try clear hx1
             try clear p2
             try clear p6
             try clear p12
             try clear q12
             try clear hx12
             try clear bb
             try clear ad
             try clear ae
             try clear af
             try clear ag
             try clear al
             try clear am
             try clear ay
             try clear az
             try clear aA
             try clear aB
             try clear p1
             try clear p12
             try clear ah
             try clear aj
             try clear aC
             try clear aH
             try clear aJ
             try clear p2
             try clear p6
             try clear q1
             try clear q12
             try clear ai
             try clear ak
             try clear aD
             try clear aI
             try clear aL
             obtain ⟨ab,rfl,HA,a2,⟨m4,rfl⟩⟩ := hrel
             cases gk with
            |zero => exact absurd HA.out (by simp [r25_Right.l1])
            |succ k4 =>
              have H := HA.out
              clear HA
              simp only [r25_Right.l1] at H
              by_cases a3 : ab < (l0.length : Int)
              ·rw [if_pos a3] at H
               have bc := decide_eq_true a3
               clear a3
               by_cases aX : ab = aa
               ·rw [if_pos aX] at H
                have bd := beq_iff_eq.mpr aX
                have be := bne_eq_false_iff_eq.mpr aX
                clear aX
                have H' := aK H
                clear H
                go_wp2
                repeat (go_quiet (fail);try go_wp2)
                go_roundg k4
                case measure => have := aO.out;have := aT.out;have := a1.out;have := a2.out;omega
                case rel => exact ⟨(wrap64 (ab + 1)),(by first|rfl|(simp;done)|(simp [*];done)),H',⟨by have := aO.out;have := aT.out;have := a1.out;have := a2.out;omega⟩,by repeat (first|exact Drawn0.refl _|apply Drawn0.step)⟩
               ·rw [if_neg aX] at H
                have bd := beq_eq_false_iff_ne.mpr aX
                have be := bne_iff_ne.mpr aX
                obtain ⟨bF,H⟩ := iS H
                have bH := decide_eq_true bF
                clear bF
                obtain ⟨bI,H⟩ := iS H
                have bJ := decide_eq_true bI
                clear bI
                obtain ⟨bK,H⟩ := iS H
                have bL := decide_eq_true bK
                clear bK
                replace H := Option.bind_eq_some_iff.mp H
                obtain ⟨bp,bf,H⟩ := H
                have a4 := aK bf
                clear bf
                by_cases bg : bp = true
                ·subst bg
                 rw [if_pos rfl] at H
                 obtain rfl := Option.some.inj H
                 have ap : 0 ≤ (aa : Int) := dA
                 have aq : aa < (l0.length : Int) := dA
                 obtain ⟨aM,aY,aP,aQ⟩ := at_T55 aE.out aa ap aq
                 obtain rfl : ac = aM := (by injection aY)
                 replace ap := eq_true ap
                 replace aq := eq_true aq
                 have ar : 0 ≤ (ab : Int) := dA
                 have au : ab < (l0.length : Int) := dA
                 obtain ⟨aN,aZ,aR,aS⟩ := at_T55 aE.out ab ar au
                 obtain rfl : ac = aN := (by injection aZ)
                 replace ar := eq_true ar
                 replace au := eq_true au
                 go_wp2_with (first|(go_at_call 94;(with_reducible refine (r02_Under.calls ((rd_T55 l0 aa).f0) ((rd_T55 l0 ab).f0) true _ a4.out).mono ?_);rintro e w' ⟨rfl,⟨nd,rfl⟩⟩;(try first|exact ⟨rfl,_,World.drewN_drewN _ _ _⟩|exact ⟨rfl,_,Eq.trans (World.drewN_drewN _ _ _) (congrArg (World.drewN _) (Nat.add_assoc _ _ _))⟩)))
                 repeat (go_quiet (first|(go_at_call 94;(with_reducible refine (r02_Under.calls ((rd_T55 l0 aa).f0) ((rd_T55 l0 ab).f0) true _ a4.out).mono ?_);rintro e w' ⟨rfl,⟨nd,rfl⟩⟩;(try first|exact ⟨rfl,_,World.drewN_drewN _ _ _⟩|exact ⟨rfl,_,Eq.trans (World.drewN_drewN _ _ _) (congrArg (World.drewN _) (Nat.add_assoc _ _ _))⟩)));try go_wp2_with (first|(go_at_call 94;(with_reducible refine (r02_Under.calls ((rd_T55 l0 aa).f0) ((rd_T55 l0 ab).f0) true _ a4.out).mono ?_);rintro e w' ⟨rfl,⟨nd,rfl⟩⟩;(try first|exact ⟨rfl,_,World.drewN_drewN _ _ _⟩|exact ⟨rfl,_,Eq.trans (World.drewN_drewN _ _ _) (congrArg (World.drewN _) (Nat.add_assoc _ _ _))⟩))))
                 go_ret
                 exact ⟨by first|rfl|(simp;done)|(simp [*];done),by repeat (first|exact Drawn0.refl _|apply Drawn0.step)⟩
                ·replace bg := Bool.eq_false_iff.mpr bg
                 subst bg
                 rw [if_neg (show ¬ (false = true) by decide)] at H
                 have H' := aK H
                 clear H
                 have ap : 0 ≤ (aa : Int) := dA
                 have aq : aa < (l0.length : Int) := dA
                 obtain ⟨aM,aY,aP,aQ⟩ := at_T55 aE.out aa ap aq
                 obtain rfl : ac = aM := (by injection aY)
                 replace ap := eq_true ap
                 replace aq := eq_true aq
                 have ar : 0 ≤ (ab : Int) := dA
                 have au : ab < (l0.length : Int) := dA
                 obtain ⟨aN,aZ,aR,aS⟩ := at_T55 aE.out ab ar au
                 obtain rfl : ac = aN := (by injection aZ)
                 replace ar := eq_true ar
                 replace au := eq_true au
                 go_wp2_with (first|(go_at_call 94;(with_reducible refine (r02_Under.calls ((rd_T55 l0 aa).f0) ((rd_T55 l0 ab).f0) false _ a4.out).mono ?_);rintro e w' ⟨rfl,⟨nd,rfl⟩⟩;(try first|exact ⟨rfl,_,World.drewN_drewN _ _ _⟩|exact ⟨rfl,_,Eq.trans (World.drewN_drewN _ _ _) (congrArg (World.drewN _) (Nat.add_assoc _ _ _))⟩)))
                 repeat (go_quiet (first|(go_at_call 94;(with_reducible refine (r02_Under.calls ((rd_T55 l0 aa).f0) ((rd_T55 l0 ab).f0) false _ a4.out).mono ?_);rintro e w' ⟨rfl,⟨nd,rfl⟩⟩;(try first|exact ⟨rfl,_,World.drewN_drewN _ _ _⟩|exact ⟨rfl,_,Eq.trans (World.drewN_drewN _ _ _) (congrArg (World.drewN _) (Nat.add_assoc _ _ _))⟩)));try go_wp2_with (first|(go_at_call 94;(with_reducible refine (r02_Under.calls ((rd_T55 l0 aa).f0) ((rd_T55 l0 ab).f0) false _ a4.out).mono ?_);rintro e w' ⟨rfl,⟨nd,rfl⟩⟩;(try first|exact ⟨rfl,_,World.drewN_drewN _ _ _⟩|exact ⟨rfl,_,Eq.trans (World.drewN_drewN _ _ _) (congrArg (World.drewN _) (Nat.add_assoc _ _ _))⟩))))
                 go_roundg k4
                 case measure => have := aO.out;have := aT.out;have := a1.out;have := a2.out;omega
                 case rel => exact ⟨(wrap64 (ab + 1)),(by first|rfl|(simp;done)|(simp [*];done)),H',⟨by have := aO.out;have := aT.out;have := a1.out;have := a2.out;omega⟩,by repeat (first|exact Drawn0.refl _|apply Drawn0.step)⟩
              ·rw [if_neg a3] at H
               have bc := decide_eq_false a3
               clear a3
               have H' := aK H
               clear H
               go_wp2
               repeat (go_quiet (fail);try go_wp2)
               go_roundg k4
               case measure => have := aO.out;have := aT.out;have := a1.out;have := a2.out;omega
               case rel => exact ⟨(wrap64 (aa + 1)),(by first|rfl|(simp;done)|(simp [*];done)),H',⟨by have := aO.out;have := aT.out;have := a1.out;have := a2.out;omega⟩,by repeat (first|exact Drawn0.refl _|apply Drawn0.step)⟩
     ·replace c6 := Bool.eq_false_iff.mpr c6
      subst c6
      rw [if_neg (show ¬ (false = true) by decide)] at H
      obtain rfl := Option.some.inj H
      have ah : 0 ≤ (aa : Int) := dA
      have ai : aa < (l0.length : Int) := dA
      obtain ⟨ac,aU,ad,ae⟩ := at_T55 aE.out aa ah ai
      cases aU
      replace ah := eq_true ah
      replace ai := eq_true ai
      go_wp2_with (first|(go_at_call 93;(with_reducible refine (r02_ValidPath.calls k1 ((rd_T55 l0 aa).f0) false _ A5.out).mono ?_);rintro e w' ⟨rfl,⟨nd,rfl⟩⟩;(try first|exact ⟨rfl,_,World.drewN_drewN _ _ _⟩|exact ⟨rfl,_,Eq.trans (World.drewN_drewN _ _ _) (congrArg (World.drewN _) (Nat.add_assoc _ _ _))⟩)))
      repeat (go_quiet (first|(go_at_call 93;(with_reducible refine (r02_ValidPath.calls k1 ((rd_T55 l0 aa).f0) false _ A5.out).mono ?_);rintro e w' ⟨rfl,⟨nd,rfl⟩⟩;(try first|exact ⟨rfl,_,World.drewN_drewN _ _ _⟩|exact ⟨rfl,_,Eq.trans (World.drewN_drewN _ _ _) (congrArg (World.drewN _) (Nat.add_assoc _ _ _))⟩)));try go_wp2_with (first|(go_at_call 93;(with_reducible refine (r02_ValidPath.calls k1 ((rd_T55 l0 aa).f0) false _ A5.out).mono ?_);rintro e w' ⟨rfl,⟨nd,rfl⟩⟩;(try first|exact ⟨rfl,_,World.drewN_drewN _ _ _⟩|exact ⟨rfl,_,Eq.trans (World.drewN_drewN _ _ _) (congrArg (World.drewN _) (Nat.add_assoc _ _ _))⟩))))
      go_ret
      exact ⟨by first|rfl|(simp;done)|(simp [*];done),by repeat (first|exact Drawn0.refl _|apply Drawn0.step)⟩
    ·rw [if_neg c3] at H
     have a7 := decide_eq_false c3
     clear c3
     obtain rfl := Option.some.inj H
     go_wp2
     repeat (go_quiet (fail);try go_wp2)
     go_ret
     exact ⟨by first|rfl|(simp;done)|(simp [*];done),by repeat (first|exact Drawn0.refl _|apply Drawn0.step)⟩

/-! ### r25_there: function 69 -/
def r25_there.l0 : Nat → List (S55) → ByteArray → Int → Option (Bool)
|0,_,_,_ => none
|k + 1,x0,x1,x5 => if x5 < (x0.length : Int) then (if 0 ≤ x5 then (if ((rd_T55 x0 x5).f0).toList = x1.toList then (some true) else (r25_there.l0 k x0 x1 (wrap64 (x5 + 1)))) else (none)) else (some false)
def r25_there.f (k : Nat) (l0 : List (S55)) (a1 : ByteArray) : Option (Bool) := r25_there.l0 k l0 a1 0
theorem r25_there.mono_l : ∀ k, (∀ y0 y1 y2, LeO (r25_there.l0 k y0 y1 y2) (r25_there.l0 (k + 1) y0 y1 y2))
|0 => fun _ _ _ r h => by simp [r25_there.l0] at h
|k + 1 => by
  have ih0 := r25_there.mono_l k
  ·intro y0 y1 y2
   unfold r25_there.l0
   repeat' (with_reducible first|exact ih0 _ _ _|exact LeO.refl _|exact LeO.none _|refine LeO.ite ?_ ?_|refine LeO.bind ?_ (fun _ => ?_))
theorem r25_there.mono : ∀ a0 a1 k, LeO (r25_there.f k a0 a1) (r25_there.f (k + 1) a0 a1) := by
 intro a0 a1 k
 have ih0 := r25_there.mono_l k
 unfold r25_there.f
 repeat' (with_reducible first|exact ih0 _ _ _|exact LeO.refl _|exact LeO.none _|refine LeO.ite ?_ ?_|refine LeO.bind ?_ (fun _ => ?_))
theorem r25_there.calls (k : Nat) (A0 : Option Addr) (c0 : Nat) (l0 : List (S55)) (a1 : ByteArray) (r : Bool) (w : World) (ak : Kd.C k55 w A0 l0.length l0) (al : l0.length ≤ c0) (h : r25_there.f k l0 a1 = some r) :
  Calls Tryz.prog 69 #[.slice A0 l0.length c0,.string a1] w fun e w' => e = .returned (.bool r) ∧ Drawn0 w w' := by
 have am := aK ak
 have ap := aK al
 clear ak al
 have H : (r25_there.l0 k l0 a1 0) = some r := h
 clear h
 have H' := aK H
 clear H
 go_enter Tryz.func69,Tryz.ntmps69
 go_wp2
 go_loopg [5] k (fun kq v5 w' => ∃ (aa : Int),v5 = .int .i64 aa ∧ Aside0 (r25_there.l0 kq l0 a1 aa = some r) ∧ Aside0 (kq ≤ k) ∧ Drawn0 w w')
 case atStart => exact ⟨(0),(by first|rfl|(simp;done)|(simp [*];done)),H',⟨Nat.le_refl _⟩,by repeat (first|exact Drawn0.refl _|apply Drawn0.step)⟩
 case round =>
  clear H'
  try clear p2
  obtain ⟨aa,rfl,HA,an,⟨m1,rfl⟩⟩ := hrel
  cases gk with
 |zero => exact absurd HA.out (by simp [r25_there.l0])
 |succ k1 =>
   have H := HA.out
   clear HA
   simp only [r25_there.l0] at H
   by_cases c3 : aa < (l0.length : Int)
   ·rw [if_pos c3] at H
    have ah := decide_eq_true c3
    clear c3
    obtain ⟨c4,H⟩ := iS H
    have ao := decide_eq_true c4
    clear c4
    by_cases c5 : ((rd_T55 l0 aa).f0).toList = a1.toList
    ·rw [if_pos c5] at H
     have ai := beq_iff_eq.mpr c5
     have aj := bne_eq_false_iff_eq.mpr c5
     clear c5
     obtain rfl := Option.some.inj H
     have ab : 0 ≤ (aa : Int) := dA
     have ac : aa < (l0.length : Int) := dA
     obtain ⟨ag,af,ad,ae⟩ := at_T55 am.out aa ab ac
     cases af
     replace ab := eq_true ab
     replace ac := eq_true ac
     go_wp2
     go_ret
     exact ⟨by first|rfl|(simp;done)|(simp [*];done),by repeat (first|exact Drawn0.refl _|apply Drawn0.step)⟩
    ·rw [if_neg c5] at H
     have ai := beq_eq_false_iff_ne.mpr c5
     have aj := bne_iff_ne.mpr c5
     have H' := aK H
     clear H
     have ab : 0 ≤ (aa : Int) := dA
     have ac : aa < (l0.length : Int) := dA
     obtain ⟨ag,af,ad,ae⟩ := at_T55 am.out aa ab ac
     cases af
     replace ab := eq_true ab
     replace ac := eq_true ac
     go_wp2
     go_roundg k1
     case measure => have := an.out;omega
     case rel => exact ⟨(wrap64 (aa + 1)),(by first|rfl|(simp;done)|(simp [*];done)),H',⟨by have := an.out;omega⟩,by repeat (first|exact Drawn0.refl _|apply Drawn0.step)⟩
   ·rw [if_neg c3] at H
    have ah := decide_eq_false c3
    clear c3
    obtain rfl := Option.some.inj H
    go_wp2
    go_ret
    exact ⟨by first|rfl|(simp;done)|(simp [*];done),by repeat (first|exact Drawn0.refl _|apply Drawn0.step)⟩
end Go.Proofs.YtgadbpljlpclnaaGreatDoor.H
