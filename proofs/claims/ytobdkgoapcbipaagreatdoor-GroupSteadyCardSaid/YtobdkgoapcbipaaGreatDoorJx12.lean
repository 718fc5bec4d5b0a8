import Derived.Test.YtobdkgoapcbipaaGreatDoorJx0
import Derived.Test.YtobdkgoapcbipaaGreatDoorJx11
namespace Go.Proofs.YtobdkgoapcbipaaGreatDoor.J
open Go.RowKit Go.Proofs.YtobdkgoapcbipaaGreatDoorW.PrintWords Go.Proofs.YtobdkgoapcbipaaGreatDoorW.PrintLast Go.Proofs.YtobdkgoapcbipaaGreatDoorW.PrintMore
set_option maxHeartbeats 4000000
set_option maxRecDepth 100000
attribute [local go_sem] max2_int min2_int max_two min_two max_three min_three max_four min_four
set_option linter.unusedVariables false
set_option linter.unusedSimpArgs false

/-! ### r02_Digit: function 94 -/
def r02_Digit.f (a0 : Int) : Option (Bool) := if a0 ≥ 48 then (some (decide (a0 ≤ 57))) else (some false)
theorem r02_Digit.calls (a0 : Int) (r : Bool) (w : World) (h : r02_Digit.f a0 = some r) :
  Calls Tryz.prog 94 #[.int .u8 a0] w fun e w' => e = .returned (.bool r) ∧ Drawn0 w w' := by
 have H : (if a0 ≥ 48 then (some (decide (a0 ≤ 57))) else (some false)) = some r := h
 clear h
 by_cases c2 : a0 ≥ 48
 ·rw [if_pos c2] at H
  have aa := decide_eq_true c2
  clear c2
  obtain rfl := Option.some.inj H
  go_enter Tryz.func94,Tryz.ntmps94
  go_wp2
  go_ret
  exact ⟨by first|rfl|(simp;done)|(simp [*];done),by repeat (first|exact Drawn0.refl _|apply Drawn0.step)⟩
 ·rw [if_neg c2] at H
  have aa := decide_eq_false c2
  clear c2
  obtain rfl := Option.some.inj H
  go_enter Tryz.func94,Tryz.ntmps94
  go_wp2
  go_ret
  exact ⟨by first|rfl|(simp;done)|(simp [*];done),by repeat (first|exact Drawn0.refl _|apply Drawn0.step)⟩

/-! ### r02_name: function 70 -/
mutual
def r02_name.j0 : Nat → ByteArray → Bool → Option (Bool)
|0,_,_ => none
|k + 1,x0,aa => if aa = true then (some false) else (r02_name.l0 k x0 0)
def r02_name.l0 : Nat → ByteArray → Int → Option (Bool)
|0,_,_ => none
|k + 1,x0,x3 => if x3 < (x0.size : Int) then (if 0 ≤ x3 then ((r02_Letter.f (bt x0 x3)).bind fun aa => (if aa = true then (r02_name.l0 k x0 (wrap64 (x3 + 1))) else ((r02_Digit.f (bt x0 x3)).bind fun ab => (if ab = true then (r02_name.l0 k x0 (wrap64 (x3 + 1))) else (if (bt x0 x3) = 46 then (r02_name.l0 k x0 (wrap64 (x3 + 1))) else (if (bt x0 x3) = 95 then (r02_name.l0 k x0 (wrap64 (x3 + 1))) else (if (bt x0 x3) = 45 then (r02_name.l0 k x0 (wrap64 (x3 + 1))) else (some false)))))))) else (none)) else (some true)
end
def r02_name.f (k : Nat) (a0 : ByteArray) : Option (Bool) := if (a0.size : Int) < 1 then (r02_name.j0 k a0 true) else (if (a0.size : Int) > 24 then (r02_name.j0 k a0 true) else (if a0.toList = ([46] : List UInt8) then (r02_name.j0 k a0 true) else (r02_name.j0 k a0 (a0.toList == ([46, 46] : List UInt8)))))
theorem r02_name.mono_l : ∀ k, (∀ y0 y1, LeO (r02_name.j0 k y0 y1) (r02_name.j0 (k + 1) y0 y1)) ∧ (∀ y0 y1, LeO (r02_name.l0 k y0 y1) (r02_name.l0 (k + 1) y0 y1))
|0 => ⟨fun _ _ r h => by simp [r02_name.j0] at h,fun _ _ r h => by simp [r02_name.l0] at h⟩
|k + 1 => by
  obtain ⟨ih0,ih1⟩ := r02_name.mono_l k
  refine ⟨?_,?_⟩
  ·intro y0 y1
   unfold r02_name.j0
   repeat' (with_reducible first|exact ih1 _ _|exact LeO.refl _|exact LeO.none _|refine LeO.ite ?_ ?_|refine LeO.bind ?_ (fun _ => ?_))
  ·intro y0 y1
   unfold r02_name.l0
   repeat' (with_reducible first|exact ih1 _ _|exact LeO.refl _|exact LeO.none _|refine LeO.ite ?_ ?_|refine LeO.bind ?_ (fun _ => ?_))
theorem r02_name.mono : ∀ a0 k, LeO (r02_name.f k a0) (r02_name.f (k + 1) a0) := by
 intro a0 k
 obtain ⟨ih0,ih1⟩ := r02_name.mono_l k
 unfold r02_name.f
 repeat' (with_reducible first|exact ih0 _ _|exact ih1 _ _|exact LeO.refl _|exact LeO.none _|refine LeO.ite ?_ ?_|refine LeO.bind ?_ (fun _ => ?_))
theorem r02_name.calls (k : Nat) (a0 : ByteArray) (r : Bool) (w : World) (h : r02_name.f k a0 = some r) :
  Calls Tryz.prog 70 #[.string a0] w fun e w' => e = .returned (.bool r) ∧ Drawn0 w w' := by
 unfold r02_name.f at h
 have H := h
 clear h
 have aJ := aK H
 clear H
 go_enter Tryz.func70,Tryz.ntmps70
 go_upto_region 1 with (fail)
 go_cut [19] (fun aT wc => ∃ (kq : Nat) (ab : Bool),aT = .bool ab ∧ Aside0 (r02_name.j0 kq a0 ab = some r) ∧ Aside0 (kq ≤ k) ∧ Drawn0 w wc)
 case first =>
  have H := aJ.out
  clear aJ
  by_cases c3 : (a0.size : Int) < 1
  ·rw [if_pos c3] at H
   have ae := decide_eq_true c3
   have am : decide (a0.size < 1) = true := decide_eq_true (by omega)
   clear c3
   (first|rw [ae]|(simp only [i64_w,i32_w];rw [ae])|rw [am]|skip)
   have H' := aK H
   clear H
   go_wp2
   go_meet
   case rel => exact ⟨_,(true),(by first|rfl|(simp;done)|(simp [*];done)),H',⟨by first|omega|exact Nat.le_refl _⟩,by repeat (first|exact Drawn0.refl _|apply Drawn0.step)⟩
  ·rw [if_neg c3] at H
   have ae := decide_eq_false c3
   have am : decide (a0.size < 1) = false := decide_eq_false (by omega)
   clear c3
   (first|rw [ae]|(simp only [i64_w,i32_w];rw [ae])|rw [am]|skip)
   by_cases c4 : (a0.size : Int) > 24
   ·rw [if_pos c4] at H
    have aL := decide_eq_true c4
    have aM : decide (24 < a0.size) = true := decide_eq_true (by omega)
    clear c4
    have H' := aK H
    clear H
    go_wp2
    go_meet
    case rel => exact ⟨_,(true),(by first|rfl|(simp;done)|(simp [*];done)),H',⟨by first|omega|exact Nat.le_refl _⟩,by repeat (first|exact Drawn0.refl _|apply Drawn0.step)⟩
   ·rw [if_neg c4] at H
    have aL := decide_eq_false c4
    have aM : decide (24 < a0.size) = false := decide_eq_false (by omega)
    clear c4
    by_cases c5 : a0.toList = ([46] : List UInt8)
    ·rw [if_pos c5] at H
     have aN := beq_iff_eq.mpr c5
     have aO := bne_eq_false_iff_eq.mpr c5
     clear c5
     have H' := aK H
     clear H
     go_wp2
     go_meet
     case rel => exact ⟨_,(true),(by first|rfl|(simp;done)|(simp [*];done)),H',⟨by first|omega|exact Nat.le_refl _⟩,by repeat (first|exact Drawn0.refl _|apply Drawn0.step)⟩
    ·rw [if_neg c5] at H
     have aN := beq_eq_false_iff_ne.mpr c5
     have aO := bne_iff_ne.mpr c5
     have H' := aK H
     clear H
     go_wp2
     go_meet
     case rel => exact ⟨_,((a0.toList == ([46,46] : List UInt8))),(by first|rfl|(simp;done)|(simp [*];done)),H',⟨by first|omega|exact Nat.le_refl _⟩,by repeat (first|exact Drawn0.refl _|apply Drawn0.step)⟩
 case rest =>
  clear aJ
  try clear p2
  obtain ⟨kq,ab,rfl,HA,ah,⟨aV,rfl⟩⟩ := hcut
  cases kq with
 |zero => exact absurd HA.out (by simp [r02_name.j0])
 |succ kj1 =>
   have H := HA.out
   clear HA
   simp only [r02_name.j0] at H
   by_cases c6 : ab = true
   ·subst c6
    rw [if_pos rfl] at H
    obtain rfl := Option.some.inj H
    go_wp2
    go_ret
    exact ⟨by first|rfl|(simp;done)|(simp [*];done),by repeat (first|exact Drawn0.refl _|apply Drawn0.step)⟩
   ·replace c6 := Bool.eq_false_iff.mpr c6
    subst c6
    rw [if_neg (show ¬ (false = true) by decide)] at H
    have H' := aK H
    clear H
    go_wp2
    go_loopg [3] kj1 (fun kq v3 w' => ∃ (aa : Int),v3 = .int .i64 aa ∧ Aside0 (r02_name.l0 kq a0 aa = some r) ∧ Aside0 (kq ≤ kj1) ∧ Drawn0 w w')
    case atStart => exact ⟨(0),(by first|rfl|(simp;done)|(simp [*];done)),H',⟨Nat.le_refl _⟩,by repeat (first|exact Drawn0.refl _|apply Drawn0.step)⟩
    case round =>
     clear H'
     try clear p2
     try clear c6
     try clear p2
     obtain ⟨aa,rfl,HA,ai,⟨m2,rfl⟩⟩ := hrel
     cases gk with
    |zero => exact absurd HA.out (by simp [r02_name.l0])
    |succ k2 =>
      have H := HA.out
      clear HA
      simp only [r02_name.l0] at H
      by_cases c7 : aa < (a0.size : Int)
      ·rw [if_pos c7] at H
       have aP := decide_eq_true c7
       clear c7
       obtain ⟨c8,H⟩ := iS H
       have aU := decide_eq_true c8
       clear c8
       replace H := Option.bind_eq_some_iff.mp H
       obtain ⟨aQ,au,H⟩ := H
       have ar := aK au
       clear au
       by_cases aH : aQ = true
       ·subst aH
        rw [if_pos rfl] at H
        have H' := aK H
        clear H
        have p9 : 0 ≤ (aa : Int) := dA
        have q9 : aa < (a0.size : Int) := dA
        have av := bt_at a0 aa
        replace p9 := eq_true p9
        replace q9 := eq_true q9
        go_wp2_with (first|((with_reducible refine gate_callee (f := 93) rfl ?_);refine gL 29 Tryz.func93 #[.int .u8 (bt a0 aa)] ?_;(with_reducible refine (r02_Letter.calls (bt a0 aa) true _ ar.out).mono ?_);rintro e w' ⟨rfl,⟨nd,rfl⟩⟩;refine ⟨_,rfl,?_⟩))
        go_roundg k2
        case measure => have := ah.out;have := ai.out;omega
        case rel => exact ⟨(wrap64 (aa + 1)),(by first|rfl|(simp;done)|(simp [*];done)),H',⟨by have := ah.out;have := ai.out;omega⟩,by repeat (first|exact Drawn0.refl _|apply Drawn0.step)⟩
       ·replace aH := Bool.eq_false_iff.mpr aH
        subst aH
        rw [if_neg (show ¬ (false = true) by decide)] at H
        replace H := Option.bind_eq_some_iff.mp H
        obtain ⟨aR,aw,H⟩ := H
        have ax := aK aw
        clear aw
        by_cases aI : aR = true
        ·subst aI
         rw [if_pos rfl] at H
         have H' := aK H
         clear H
         have p9 : 0 ≤ (aa : Int) := dA
         have q9 : aa < (a0.size : Int) := dA
         have av := bt_at a0 aa
         replace p9 := eq_true p9
         replace q9 := eq_true q9
         go_wp2_with (first|((with_reducible refine gate_callee (f := 93) rfl ?_);refine gL 29 Tryz.func93 #[.int .u8 (bt a0 aa)] ?_;(with_reducible refine (r02_Letter.calls (bt a0 aa) false _ ar.out).mono ?_);rintro e w' ⟨rfl,⟨nd,rfl⟩⟩;refine ⟨_,rfl,?_⟩;have ac : 0 ≤ (aa : Int) := dA;have ad : aa < (a0.size : Int) := dA;have aj := bt_at a0 aa;replace ac := eq_true ac;replace ad := eq_true ad)|(go_at_call 94;(with_reducible refine (r02_Digit.calls (bt a0 aa) true _ ax.out).mono ?_);rintro e w' ⟨rfl,⟨nd,rfl⟩⟩))
         go_roundg k2
         case measure => have := ah.out;have := ai.out;omega
         case rel => exact ⟨(wrap64 (aa + 1)),(by first|rfl|(simp;done)|(simp [*];done)),H',⟨by have := ah.out;have := ai.out;omega⟩,by repeat (first|exact Drawn0.refl _|apply Drawn0.step)⟩
        ·replace aI := Bool.eq_false_iff.mpr aI
         subst aI
         rw [if_neg (show ¬ (false = true) by decide)] at H
         by_cases an : (bt a0 aa) = 46
         ·rw [if_pos an] at H
          have ay := beq_iff_eq.mpr an
          have az := bne_eq_false_iff_eq.mpr an
          clear an
          have H' := aK H
          clear H
          have p9 : 0 ≤ (aa : Int) := dA
          have q9 : aa < (a0.size : Int) := dA
          have av := bt_at a0 aa
          replace p9 := eq_true p9
          replace q9 := eq_true q9
          go_wp2_with (first|((with_reducible refine gate_callee (f := 93) rfl ?_);refine gL 29 Tryz.func93 #[.int .u8 (bt a0 aa)] ?_;(with_reducible refine (r02_Letter.calls (bt a0 aa) false _ ar.out).mono ?_);rintro e w' ⟨rfl,⟨nd,rfl⟩⟩;refine ⟨_,rfl,?_⟩;have ac : 0 ≤ (aa : Int) := dA;have ad : aa < (a0.size : Int) := dA;have aj := bt_at a0 aa;replace ac := eq_true ac;replace ad := eq_true ad)|(go_at_call 94;(with_reducible refine (r02_Digit.calls (bt a0 aa) false _ ax.out).mono ?_);rintro e w' ⟨rfl,⟨nd,rfl⟩⟩;have af : 0 ≤ (aa : Int) := dA;have ag : aa < (a0.size : Int) := dA;have ao := bt_at a0 aa;replace af := eq_true af;replace ag := eq_true ag))
          go_roundg k2
          case measure => have := ah.out;have := ai.out;omega
          case rel => exact ⟨(wrap64 (aa + 1)),(by first|rfl|(simp;done)|(simp [*];done)),H',⟨by have := ah.out;have := ai.out;omega⟩,by repeat (first|exact Drawn0.refl _|apply Drawn0.step)⟩
         ·rw [if_neg an] at H
          have ay := beq_eq_false_iff_ne.mpr an
          have az := bne_iff_ne.mpr an
          by_cases ap : (bt a0 aa) = 95
          ·rw [if_pos ap] at H
           have aA := beq_iff_eq.mpr ap
           have aB := bne_eq_false_iff_eq.mpr ap
           clear ap
           have H' := aK H
           clear H
           have p9 : 0 ≤ (aa : Int) := dA
           have q9 : aa < (a0.size : Int) := dA
           have av := bt_at a0 aa
           replace p9 := eq_true p9
           replace q9 := eq_true q9
           go_wp2_with (first|((with_reducible refine gate_callee (f := 93) rfl ?_);refine gL 29 Tryz.func93 #[.int .u8 (bt a0 aa)] ?_;(with_reducible refine (r02_Letter.calls (bt a0 aa) false _ ar.out).mono ?_);rintro e w' ⟨rfl,⟨nd,rfl⟩⟩;refine ⟨_,rfl,?_⟩;have ac : 0 ≤ (aa : Int) := dA;have ad : aa < (a0.size : Int) := dA;have aj := bt_at a0 aa;replace ac := eq_true ac;replace ad := eq_true ad)|(go_at_call 94;(with_reducible refine (r02_Digit.calls (bt a0 aa) false _ ax.out).mono ?_);rintro e w' ⟨rfl,⟨nd,rfl⟩⟩;have af : 0 ≤ (aa : Int) := dA;have ag : aa < (a0.size : Int) := dA;have ao := bt_at a0 aa;replace af := eq_true af;replace ag := eq_true ag;have ak : 0 ≤ (aa : Int) := dA;have al : aa < (a0.size : Int) := dA;have aC := bt_at a0 aa;replace ak := eq_true ak;replace al := eq_true al))
           go_roundg k2
           case measure => have := ah.out;have := ai.out;omega
           case rel => exact ⟨(wrap64 (aa + 1)),(by first|rfl|(simp;done)|(simp [*];done)),H',⟨by have := ah.out;have := ai.out;omega⟩,by repeat (first|exact Drawn0.refl _|apply Drawn0.step)⟩
          ·rw [if_neg ap] at H
           have aA := beq_eq_false_iff_ne.mpr ap
           have aB := bne_iff_ne.mpr ap
           by_cases aq : (bt a0 aa) = 45
           ·rw [if_pos aq] at H
            have aD := beq_iff_eq.mpr aq
            have aE := bne_eq_false_iff_eq.mpr aq
            clear aq
            have H' := aK H
            clear H
            have p9 : 0 ≤ (aa : Int) := dA
            have q9 : aa < (a0.size : Int) := dA
            have av := bt_at a0 aa
            replace p9 := eq_true p9
            replace q9 := eq_true q9
            go_wp2_with (first|((with_reducible refine gate_callee (f := 93) rfl ?_);refine gL 29 Tryz.func93 #[.int .u8 (bt a0 aa)] ?_;(with_reducible refine (r02_Letter.calls (bt a0 aa) false _ ar.out).mono ?_);rintro e w' ⟨rfl,⟨nd,rfl⟩⟩;refine ⟨_,rfl,?_⟩;have ac : 0 ≤ (aa : Int) := dA;have ad : aa < (a0.size : Int) := dA;have aj := bt_at a0 aa;replace ac := eq_true ac;replace ad := eq_true ad)|(go_at_call 94;(with_reducible refine (r02_Digit.calls (bt a0 aa) false _ ax.out).mono ?_);rintro e w' ⟨rfl,⟨nd,rfl⟩⟩;have af : 0 ≤ (aa : Int) := dA;have ag : aa < (a0.size : Int) := dA;have ao := bt_at a0 aa;replace af := eq_true af;replace ag := eq_true ag;have ak : 0 ≤ (aa : Int) := dA;have al : aa < (a0.size : Int) := dA;have aC := bt_at a0 aa;replace ak := eq_true ak;replace al := eq_true al;have aF : 0 ≤ (aa : Int) := dA;have aG : aa < (a0.size : Int) := dA;have aS := bt_at a0 aa;replace aF := eq_true aF;replace aG := eq_true aG))
            go_roundg k2
            case measure => have := ah.out;have := ai.out;omega
            case rel => exact ⟨(wrap64 (aa + 1)),(by first|rfl|(simp;done)|(simp [*];done)),H',⟨by have := ah.out;have := ai.out;omega⟩,by repeat (first|exact Drawn0.refl _|apply Drawn0.step)⟩
           ·rw [if_neg aq] at H
            have aD := beq_eq_false_iff_ne.mpr aq
            have aE := bne_iff_ne.mpr aq
            obtain rfl := Option.some.inj H
            have p9 : 0 ≤ (aa : Int) := dA
            have q9 : aa < (a0.size : Int) := dA
            have av := bt_at a0 aa
            replace p9 := eq_true p9
            replace q9 := eq_true q9
            go_wp2_with (first|((with_reducible refine gate_callee (f := 93) rfl ?_);refine gL 29 Tryz.func93 #[.int .u8 (bt a0 aa)] ?_;(with_reducible refine (r02_Letter.calls (bt a0 aa) false _ ar.out).mono ?_);rintro e w' ⟨rfl,⟨nd,rfl⟩⟩;refine ⟨_,rfl,?_⟩;have ac : 0 ≤ (aa : Int) := dA;have ad : aa < (a0.size : Int) := dA;have aj := bt_at a0 aa;replace ac := eq_true ac;replace ad := eq_true ad)|(go_at_call 94;(with_reducible refine (r02_Digit.calls (bt a0 aa) false _ ax.out).mono ?_);rintro e w' ⟨rfl,⟨nd,rfl⟩⟩;have af : 0 ≤ (aa : Int) := dA;have ag : aa < (a0.size : Int) := dA;have ao := bt_at a0 aa;replace af := eq_true af;replace ag := eq_true ag;have ak : 0 ≤ (aa : Int) := dA;have al : aa < (a0.size : Int) := dA;have aC := bt_at a0 aa;replace ak := eq_true ak;replace al := eq_true al;have aF : 0 ≤ (aa : Int) := dA;have aG : aa < (a0.size : Int) := dA;have aS := bt_at a0 aa;replace aF := eq_true aF;replace aG := eq_true aG))
            go_ret
            exact ⟨by first|rfl|(simp;done)|(simp [*];done),by repeat (first|exact Drawn0.refl _|apply Drawn0.step)⟩
      ·rw [if_neg c7] at H
       have aP := decide_eq_false c7
       clear c7
       obtain rfl := Option.some.inj H
       go_wp2
       go_ret
       exact ⟨by first|rfl|(simp;done)|(simp [*];done),by repeat (first|exact Drawn0.refl _|apply Drawn0.step)⟩

/-! ### r02_ValidPath: function 59 -/
mutual
def r02_ValidPath.l0 : Nat → ByteArray → Int → Int → Option (Bool)
|0,_,_,_ => none
|k + 1,x0,x3,x4 => if x4 ≤ (x0.size : Int) then (if x4 = (x0.size : Int) then (r02_ValidPath.j1 k x0 x3 x4 true) else (if 0 ≤ x4 then (if x4 < (x0.size : Int) then (r02_ValidPath.j1 k x0 x3 x4 ((bt x0 x4) == 47)) else (none)) else (none))) else (some true)
def r02_ValidPath.j1 : Nat → ByteArray → Int → Int → Bool → Option (Bool)
|0,_,_,_,_ => none
|k + 1,x0,x3,x4,ab => if ab = true then (if 0 ≤ x3 then (if x3 ≤ x4 then (if x4 ≤ (x0.size : Int) then ((r02_name.f k (x0.extract (x3 : Int).toNat (x4 : Int).toNat)).bind fun aa => (if aa = true then (r02_ValidPath.l0 k x0 (wrap64 (x4 + 1)) (wrap64 (x4 + 1))) else (some false))) else (none)) else (none)) else (none)) else (r02_ValidPath.l0 k x0 x3 (wrap64 (x4 + 1)))
end
def r02_ValidPath.f (k : Nat) (a0 : ByteArray) : Option (Bool) := if (a0.size : Int) > 60 then (some false) else (r02_ValidPath.l0 k a0 0 0)
theorem r02_ValidPath.mono_l : ∀ k, (∀ y0 y1 y2, LeO (r02_ValidPath.l0 k y0 y1 y2) (r02_ValidPath.l0 (k + 1) y0 y1 y2)) ∧ (∀ y0 y1 y2 y3, LeO (r02_ValidPath.j1 k y0 y1 y2 y3) (r02_ValidPath.j1 (k + 1) y0 y1 y2 y3))
|0 => ⟨fun _ _ _ r h => by simp [r02_ValidPath.l0] at h,fun _ _ _ _ r h => by simp [r02_ValidPath.j1] at h⟩
|k + 1 => by
  obtain ⟨ih0,ih1⟩ := r02_ValidPath.mono_l k
  refine ⟨?_,?_⟩
  ·intro y0 y1 y2
   unfold r02_ValidPath.l0
   repeat' (with_reducible first|exact ih1 _ _ _ _|exact LeO.refl _|exact LeO.none _|refine LeO.ite ?_ ?_|refine LeO.bind ?_ (fun _ => ?_))
  ·intro y0 y1 y2 y3
   unfold r02_ValidPath.j1
   repeat' (with_reducible first|exact ih0 _ _ _|exact r02_name.mono _ _|exact LeO.refl _|exact LeO.none _|refine LeO.ite ?_ ?_|refine LeO.bind ?_ (fun _ => ?_))
theorem r02_ValidPath.mono : ∀ a0 k, LeO (r02_ValidPath.f k a0) (r02_ValidPath.f (k + 1) a0) := by
 intro a0 k
 obtain ⟨ih0,ih1⟩ := r02_ValidPath.mono_l k
 unfold r02_ValidPath.f
 repeat' (with_reducible first|exact ih0 _ _ _|exact ih1 _ _ _ _|exact r02_name.mono _ _|exact LeO.refl _|exact LeO.none _|refine LeO.ite ?_ ?_|refine LeO.bind ?_ (fun _ => ?_))
theorem r02_ValidPath.calls (k : Nat) (a0 : ByteArray) (r : Bool) (w : World) (h : r02_ValidPath.f k a0 = some r) :
  Calls Tryz.prog 59 #[.string a0] w fun e w' => e = .returned (.bool r) ∧ Drawn0 w w' := by
 have H : (if (a0.size : Int) > 60 then (some false) else (r02_ValidPath.l0 k a0 0 0)) = some r := h
 clear h
 by_cases c2 : (a0.size : Int) > 60
 ·rw [if_pos c2] at H
  have ag := decide_eq_true c2
  have ah : decide (60 < a0.size) = true := decide_eq_true (by omega)
  clear c2
  obtain rfl := Option.some.inj H
  go_enter Tryz.func59,Tryz.ntmps59
  go_wp2
  go_ret
  exact ⟨by first|rfl|(simp;done)|(simp [*];done),by repeat (first|exact Drawn0.refl _|apply Drawn0.step)⟩
 ·rw [if_neg c2] at H
  have ag := decide_eq_false c2
  have ah : decide (60 < a0.size) = false := decide_eq_false (by omega)
  clear c2
  have H' := aK H
  clear H
  go_enter Tryz.func59,Tryz.ntmps59
  go_wp2
  go_loopg [3,4] k (fun kq v3 v4 w' => ∃ (ab : Int) (aa : Int),v3 = .int .i64 ab ∧ v4 = .int .i64 aa ∧ Aside0 (r02_ValidPath.l0 kq a0 ab aa = some r) ∧ Aside0 (kq ≤ k) ∧ Drawn0 w w')
  case atStart => exact ⟨(0),(0),(by first|rfl|(simp;done)|(simp [*];done)),(by first|rfl|(simp;done)|(simp [*];done)),H',⟨Nat.le_refl _⟩,by repeat (first|exact Drawn0.refl _|apply Drawn0.step)⟩
  case round =>
   clear H'
   try clear c2
   try clear ag
   try clear ah
   try clear p2
   obtain ⟨ab,aa,rfl,rfl,HA,af,⟨m1,rfl⟩⟩ := hrel
   cases gk with
  |zero => exact absurd HA.out (by simp [r02_ValidPath.l0])
  |succ k1 =>
    have H := HA.out
    clear HA
    simp only [r02_ValidPath.l0] at H
    by_cases c3 : aa ≤ (a0.size : Int)
    ·rw [if_pos c3] at H
     have ai := decide_eq_true c3
     clear c3
     have am := aK H
     clear H
     go_upto_region 7 with (fail)
     go_cut [23] (fun az wc => ∃ (kq : Nat) (ac : Bool),az = .bool ac ∧ Aside0 (r02_ValidPath.j1 kq a0 ab aa ac = some r) ∧ Aside0 (kq ≤ k1) ∧ Drawn0 w wc)
     case first =>
      have H := am.out
      clear am
      by_cases c5 : aa = (a0.size : Int)
      ·rw [if_pos c5] at H
       have ad := beq_iff_eq.mpr c5
       have ae := bne_eq_false_iff_eq.mpr c5
       clear c5
       (first|rw [ad]|(simp only [i64_w,i32_w];rw [ad])|rw [ae]|skip)
       have H' := aK H
       clear H
       go_wp2
       go_meet
       case rel => exact ⟨_,(true),(by first|rfl|(simp;done)|(simp [*];done)),H',⟨by have := af.out;first|omega|exact Nat.le_refl _⟩,by repeat (first|exact Drawn0.refl _|apply Drawn0.step)⟩
      ·rw [if_neg c5] at H
       have ad := beq_eq_false_iff_ne.mpr c5
       have ae := bne_iff_ne.mpr c5
       (first|rw [ad]|(simp only [i64_w,i32_w];rw [ad])|rw [ae]|skip)
       obtain ⟨c6,H⟩ := iS H
       have aA := decide_eq_true c6
       clear c6
       obtain ⟨c7,H⟩ := iS H
       have aB := decide_eq_true c7
       clear c7
       have H' := aK H
       clear H
       have p8 : 0 ≤ (aa : Int) := dA
       have q8 : aa < (a0.size : Int) := dA
       have aC := bt_at a0 aa
       replace p8 := eq_true p8
       replace q8 := eq_true q8
       go_wp2
       go_meet
       case rel => exact ⟨_,(((bt a0 aa) == 47)),(by first|rfl|(simp;done)|(simp [*];done)),H',⟨by have := af.out;first|omega|exact Nat.le_refl _⟩,by repeat (first|exact Drawn0.refl _|apply Drawn0.step)⟩
     case rest =>
      clear am
      try clear p2
      try clear c3
      try clear ai
      try clear p8
      try clear q8
      try clear aC
      try clear p2
      try clear p8
      try clear q8
      obtain ⟨kq,ac,rfl,HA,ak,⟨aD,rfl⟩⟩ := hcut
      cases kq with
     |zero => exact absurd HA.out (by simp [r02_ValidPath.j1])
     |succ kj3 =>
       have H := HA.out
       clear HA
       simp only [r02_ValidPath.j1] at H
       by_cases c9 : ac = true
       ·subst c9
        rw [if_pos rfl] at H
        obtain ⟨c10,H⟩ := iS H
        have aq := eq_true c10
        have ar := decide_eq_true c10
        clear c10
        obtain ⟨an,H⟩ := iS H
        have au := eq_true an
        have av := decide_eq_true an
        clear an
        obtain ⟨ao,H⟩ := iS H
        have aw := eq_true ao
        have ax := decide_eq_true ao
        clear ao
        replace H := Option.bind_eq_some_iff.mp H
        obtain ⟨ap,aj,H⟩ := H
        have ay := aK aj
        clear aj
        by_cases al : ap = true
        ·subst al
         rw [if_pos rfl] at H
         have H' := aK H
         clear H
         go_wp2_with (first|((with_reducible refine gate_callee (f := 70) rfl ?_);refine gL 28 Tryz.func70 #[.string (a0.extract (ab : Int).toNat (aa : Int).toNat)] ?_;(with_reducible refine (r02_name.calls kj3 (a0.extract (ab : Int).toNat (aa : Int).toNat) true _ ay.out).mono ?_);rintro e w' ⟨rfl,⟨nd,rfl⟩⟩;refine ⟨_,rfl,?_⟩))
         go_roundg kj3
         case measure => have := af.out;have := ak.out;omega
         case rel => exact ⟨(wrap64 (aa + 1)),(wrap64 (aa + 1)),(by first|rfl|(simp;done)|(simp [*];done)),(by first|rfl|(simp;done)|(simp [*];done)),H',⟨by have := af.out;have := ak.out;omega⟩,by repeat (first|exact Drawn0.refl _|apply Drawn0.step)⟩
        ·replace al := Bool.eq_false_iff.mpr al
         subst al
         rw [if_neg (show ¬ (false = true) by decide)] at H
         obtain rfl := Option.some.inj H
         go_wp2_with (first|((with_reducible refine gate_callee (f := 70) rfl ?_);refine gL 28 Tryz.func70 #[.string (a0.extract (ab : Int).toNat (aa : Int).toNat)] ?_;(with_reducible refine (r02_name.calls kj3 (a0.extract (ab : Int).toNat (aa : Int).toNat) false _ ay.out).mono ?_);rintro e w' ⟨rfl,⟨nd,rfl⟩⟩;refine ⟨_,rfl,?_⟩))
         go_ret
         exact ⟨by first|rfl|(simp;done)|(simp [*];done),by repeat (first|exact Drawn0.refl _|apply Drawn0.step)⟩
       ·replace c9 := Bool.eq_false_iff.mpr c9
        subst c9
        rw [if_neg (show ¬ (false = true) by decide)] at H
        have H' := aK H
        clear H
        go_wp2
        go_roundg kj3
        case measure => have := af.out;have := ak.out;omega
        case rel => exact ⟨(ab),(wrap64 (aa + 1)),(by first|rfl|(simp;done)|(simp [*];done)),(by first|rfl|(simp;done)|(simp [*];done)),H',⟨by have := af.out;have := ak.out;omega⟩,by repeat (first|exact Drawn0.refl _|apply Drawn0.step)⟩
    ·rw [if_neg c3] at H
     have ai := decide_eq_false c3
     clear c3
     obtain rfl := Option.some.inj H
     go_wp2
     go_ret
     exact ⟨by first|rfl|(simp;done)|(simp [*];done),by repeat (first|exact Drawn0.refl _|apply Drawn0.step)⟩

/-! ### r02_last: function 60 -/
def r02_last.l0 : Nat → ByteArray → Int → Int → Int → Option (Int)
|0,_,_,_,_ => none
|k + 1,x0,x1,x5,x6 => if x6 < (x0.size : Int) then (if 0 ≤ x6 then (if (bt x0 x6) = x1 then (r02_last.l0 k x0 x1 x6 (wrap64 (x6 + 1))) else (r02_last.l0 k x0 x1 x5 (wrap64 (x6 + 1)))) else (none)) else (some x5)
def r02_last.f (k : Nat) (a0 : ByteArray) (a1 : Int) : Option (Int) := r02_last.l0 k a0 a1 (-1) 0
theorem r02_last.mono_l : ∀ k, (∀ y0 y1 y2 y3, LeO (r02_last.l0 k y0 y1 y2 y3) (r02_last.l0 (k + 1) y0 y1 y2 y3))
|0 => fun _ _ _ _ r h => by simp [r02_last.l0] at h
|k + 1 => by
  have ih0 := r02_last.mono_l k
  ·intro y0 y1 y2 y3
   unfold r02_last.l0
   repeat' (with_reducible first|exact ih0 _ _ _ _|exact LeO.refl _|exact LeO.none _|refine LeO.ite ?_ ?_|refine LeO.bind ?_ (fun _ => ?_))
theorem r02_last.mono : ∀ a0 a1 k, LeO (r02_last.f k a0 a1) (r02_last.f (k + 1) a0 a1) := by
 intro a0 a1 k
 have ih0 := r02_last.mono_l k
 unfold r02_last.f
 repeat' (with_reducible first|exact ih0 _ _ _ _|exact LeO.refl _|exact LeO.none _|refine LeO.ite ?_ ?_|refine LeO.bind ?_ (fun _ => ?_))
theorem r02_last.calls (k : Nat) (a0 : ByteArray) (a1 : Int) (r : Int) (w : World) (h : r02_last.f k a0 a1 = some r) :
  Calls Tryz.prog 60 #[.string a0,.int .u8 a1] w fun e w' => e = .returned (.int .i64 r) ∧ Drawn0 w w' := by
 have H : (r02_last.l0 k a0 a1 (-1) 0) = some r := h
 clear h
 have H' := aK H
 clear H
 go_enter Tryz.func60,Tryz.ntmps60
 go_wp2
 go_loopg [5,6] k (fun kq v5 v6 w' => ∃ (ab : Int) (aa : Int),v5 = .int .i64 ab ∧ v6 = .int .i64 aa ∧ Aside0 (r02_last.l0 kq a0 a1 ab aa = some r) ∧ Aside0 (kq ≤ k) ∧ Drawn0 w w')
 case atStart => exact ⟨((-1)),(0),(by first|rfl|(simp;done)|(simp [*];done)),(by first|rfl|(simp;done)|(simp [*];done)),H',⟨Nat.le_refl _⟩,by repeat (first|exact Drawn0.refl _|apply Drawn0.step)⟩
 case round =>
  clear H'
  try clear p2
  obtain ⟨ab,aa,rfl,rfl,HA,ac,⟨m1,rfl⟩⟩ := hrel
  cases gk with
 |zero => exact absurd HA.out (by simp [r02_last.l0])
 |succ k1 =>
   have H := HA.out
   clear HA
   simp only [r02_last.l0] at H
   by_cases c3 : aa < (a0.size : Int)
   ·rw [if_pos c3] at H
    have ad := decide_eq_true c3
    clear c3
    obtain ⟨c4,H⟩ := iS H
    have ag := decide_eq_true c4
    clear c4
    by_cases c6 : (bt a0 aa) = a1
    ·rw [if_pos c6] at H
     have ae := beq_iff_eq.mpr c6
     have af := bne_eq_false_iff_eq.mpr c6
     clear c6
     have H' := aK H
     clear H
     have p5 : 0 ≤ (aa : Int) := dA
     have q5 : aa < (a0.size : Int) := dA
     have ah := bt_at a0 aa
     replace p5 := eq_true p5
     replace q5 := eq_true q5
     go_wp2
     go_roundg k1
     case measure => have := ac.out;omega
     case rel => exact ⟨(aa),(wrap64 (aa + 1)),(by first|rfl|(simp;done)|(simp [*];done)),(by first|rfl|(simp;done)|(simp [*];done)),H',⟨by have := ac.out;omega⟩,by repeat (first|exact Drawn0.refl _|apply Drawn0.step)⟩
    ·rw [if_neg c6] at H
     have ae := beq_eq_false_iff_ne.mpr c6
     have af := bne_iff_ne.mpr c6
     have H' := aK H
     clear H
     have p5 : 0 ≤ (aa : Int) := dA
     have q5 : aa < (a0.size : Int) := dA
     have ah := bt_at a0 aa
     replace p5 := eq_true p5
     replace q5 := eq_true q5
     go_wp2
     go_roundg k1
     case measure => have := ac.out;omega
     case rel => exact ⟨(ab),(wrap64 (aa + 1)),(by first|rfl|(simp;done)|(simp [*];done)),(by first|rfl|(simp;done)|(simp [*];done)),H',⟨by have := ac.out;omega⟩,by repeat (first|exact Drawn0.refl _|apply Drawn0.step)⟩
   ·rw [if_neg c3] at H
    have ad := decide_eq_false c3
    clear c3
    obtain rfl := Option.some.inj H
    go_wp2
    go_ret
    exact ⟨by first|rfl|(simp;done)|(simp [*];done),by repeat (first|exact Drawn0.refl _|apply Drawn0.step)⟩

/-! ### r02_Simple: function 35 -/
def r02_Simple.f (k : Nat) (a0 : ByteArray) : Option (Bool) := (r02_ValidPath.f k a0).bind fun aa => (if aa = true then ((r02_last.f k a0 47).bind fun ab => (some (decide (ab < 0)))) else (some false))
theorem r02_Simple.mono : ∀ a0 k, LeO (r02_Simple.f k a0) (r02_Simple.f (k + 1) a0) := by
 intro a0 k
 unfold r02_Simple.f
 repeat' (with_reducible first|exact r02_ValidPath.mono _ _|exact r02_last.mono _ _ _|exact LeO.refl _|exact LeO.none _|refine LeO.ite ?_ ?_|refine LeO.bind ?_ (fun _ => ?_))
theorem r02_Simple.calls (k : Nat) (a0 : ByteArray) (r : Bool) (w : World) (h : r02_Simple.f k a0 = some r) :
  Calls Tryz.prog 35 #[.string a0] w fun e w' => e = .returned (.bool r) ∧ Drawn0 w w' := by
 have H : ((r02_ValidPath.f k a0).bind fun aa => (if aa = true then ((r02_last.f k a0 47).bind fun ab => (some (decide (ab < 0)))) else (some false))) = some r := h
 clear h
 replace H := Option.bind_eq_some_iff.mp H
 obtain ⟨aa,ac,H⟩ := H
 have A2 := aK ac
 clear ac
 by_cases c3 : aa = true
 ·subst c3
  rw [if_pos rfl] at H
  replace H := Option.bind_eq_some_iff.mp H
  obtain ⟨ab,ad,H⟩ := H
  have A4 := aK ad
  clear ad
  obtain rfl := Option.some.inj H
  go_enter Tryz.func35,Tryz.ntmps35
  go_wp2_with (first|((with_reducible refine gate_callee (f := 59) rfl ?_);refine gL 4 Tryz.func59 #[.string a0] ?_;(with_reducible refine (r02_ValidPath.calls k a0 true _ A2.out).mono ?_);rintro e w' ⟨rfl,⟨nd,rfl⟩⟩;refine ⟨_,rfl,?_⟩)|(go_at_call 60;(with_reducible refine (r02_last.calls k a0 47 ab _ A4.out).mono ?_);rintro e w' ⟨rfl,⟨nd,rfl⟩⟩))
  go_ret
  exact ⟨by first|rfl|(simp;done)|(simp [*];done),by repeat (first|exact Drawn0.refl _|apply Drawn0.step)⟩
 ·replace c3 := Bool.eq_false_iff.mpr c3
  subst c3
  rw [if_neg (show ¬ (false = true) by decide)] at H
  obtain rfl := Option.some.inj H
  go_enter Tryz.func35,Tryz.ntmps35
  go_wp2_with (first|((with_reducible refine gate_callee (f := 59) rfl ?_);refine gL 4 Tryz.func59 #[.string a0] ?_;(with_reducible refine (r02_ValidPath.calls k a0 false _ A2.out).mono ?_);rintro e w' ⟨rfl,⟨nd,rfl⟩⟩;refine ⟨_,rfl,?_⟩))
  go_ret
  exact ⟨by first|rfl|(simp;done)|(simp [*];done),by repeat (first|exact Drawn0.refl _|apply Drawn0.step)⟩

/-! ### r05_In: function 29 -/
def r05_In.l0 : Nat → List Int → Int → Int → Option (Bool)
|0,_,_,_ => none
|k + 1,x0,x1,x5 => if x5 < (x0.length : Int) then (if 0 ≤ x5 then (if (rd x0 x5) = x1 then (some true) else (r05_In.l0 k x0 x1 (wrap64 (x5 + 1)))) else (none)) else (some false)
def r05_In.f (k : Nat) (l0 : List Int) (a1 : Int) : Option (Bool) := r05_In.l0 k l0 a1 0
theorem r05_In.mono_l : ∀ k, (∀ y0 y1 y2, LeO (r05_In.l0 k y0 y1 y2) (r05_In.l0 (k + 1) y0 y1 y2))
|0 => fun _ _ _ r h => by simp [r05_In.l0] at h
|k + 1 => by
  have ih0 := r05_In.mono_l k
  ·intro y0 y1 y2
   unfold r05_In.l0
   repeat' (with_reducible first|exact ih0 _ _ _|exact LeO.refl _|exact LeO.none _|refine LeO.ite ?_ ?_|refine LeO.bind ?_ (fun _ => ?_))
theorem r05_In.mono : ∀ a0 a1 k, LeO (r05_In.f k a0 a1) (r05_In.f (k + 1) a0 a1) := by
 intro a0 a1 k
 have ih0 := r05_In.mono_l k
 unfold r05_In.f
 repeat' (with_reducible first|exact ih0 _ _ _|exact LeO.refl _|exact LeO.none _|refine LeO.ite ?_ ?_|refine LeO.bind ?_ (fun _ => ?_))
theorem r05_In.calls (k : Nat) (A0 : Option Addr) (c0 : Nat) (l0 : List Int) (a1 : Int) (r : Bool) (w : World) (aj : Kd.C (Kd.int .i64) w A0 l0.length l0) (ak : l0.length ≤ c0) (h : r05_In.f k l0 a1 = some r) :
  Calls Tryz.prog 29 #[.slice A0 l0.length c0,.int .i64 a1] w fun e w' => e = .returned (.bool r) ∧ Drawn0 w w' := by
 have al := aK aj
 have ao := aK ak
 clear aj ak
 have H : (r05_In.l0 k l0 a1 0) = some r := h
 clear h
 have H' := aK H
 clear H
 go_enter Tryz.func29,Tryz.ntmps29
 go_wp2
 go_loopg [5] k (fun kq v5 w' => ∃ (aa : Int),v5 = .int .i64 aa ∧ Aside0 (r05_In.l0 kq l0 a1 aa = some r) ∧ Aside0 (kq ≤ k) ∧ Drawn0 w w')
 case atStart => exact ⟨(0),(by first|rfl|(simp;done)|(simp [*];done)),H',⟨Nat.le_refl _⟩,by repeat (first|exact Drawn0.refl _|apply Drawn0.step)⟩
 case round =>
  clear H'
  try clear p2
  obtain ⟨aa,rfl,HA,am,⟨m1,rfl⟩⟩ := hrel
  cases gk with
 |zero => exact absurd HA.out (by simp [r05_In.l0])
 |succ k1 =>
   have H := HA.out
   clear HA
   simp only [r05_In.l0] at H
   by_cases c3 : aa < (l0.length : Int)
   ·rw [if_pos c3] at H
    have ag := decide_eq_true c3
    clear c3
    obtain ⟨c4,H⟩ := iS H
    have an := decide_eq_true c4
    clear c4
    by_cases c5 : (rd l0 aa) = a1
    ·rw [if_pos c5] at H
     have ah := beq_iff_eq.mpr c5
     have ai := bne_eq_false_iff_eq.mpr c5
     clear c5
     obtain rfl := Option.some.inj H
     have ab : 0 ≤ (aa : Int) := dA
     have ac : aa < (l0.length : Int) := dA
     obtain ⟨af,ae,ad⟩ := Kd.at_int al.out aa ab ac
     cases ae
     replace ab := eq_true ab
     replace ac := eq_true ac
     go_wp2
     go_ret
     exact ⟨by first|rfl|(simp;done)|(simp [*];done),by repeat (first|exact Drawn0.refl _|apply Drawn0.step)⟩
    ·rw [if_neg c5] at H
     have ah := beq_eq_false_iff_ne.mpr c5
     have ai := bne_iff_ne.mpr c5
     have H' := aK H
     clear H
     have ab : 0 ≤ (aa : Int) := dA
     have ac : aa < (l0.length : Int) := dA
     obtain ⟨af,ae,ad⟩ := Kd.at_int al.out aa ab ac
     cases ae
     replace ab := eq_true ab
     replace ac := eq_true ac
     go_wp2
     go_roundg k1
     case measure => have := am.out;omega
     case rel => exact ⟨(wrap64 (aa + 1)),(by first|rfl|(simp;done)|(simp [*];done)),H',⟨by have := am.out;omega⟩,by repeat (first|exact Drawn0.refl _|apply Drawn0.step)⟩
   ·rw [if_neg c3] at H
    have ag := decide_eq_false c3
    clear c3
    obtain rfl := Option.some.inj H
    go_wp2
    go_ret
    exact ⟨by first|rfl|(simp;done)|(simp [*];done),by repeat (first|exact Drawn0.refl _|apply Drawn0.step)⟩
end Go.Proofs.YtobdkgoapcbipaaGreatDoor.J
