import Derived.Test.YtgadbpljlpclnaaGreatDoorHx0
import Derived.Test.YtgadbpljlpclnaaGreatDoorHx3
namespace Go.Proofs.YtgadbpljlpclnaaGreatDoor.H
open Go.RowKit Go.Proofs.YtgadbpljlpclnaaGreatDoorW.PrintWords Go.Proofs.YtgadbpljlpclnaaGreatDoorW.PrintLast Go.Proofs.YtgadbpljlpclnaaGreatDoorW.PrintMore
set_option maxHeartbeats 4000000
set_option maxRecDepth 100000
attribute [local go_sem] max2_int min2_int max_two min_two max_three min_three max_four min_four
set_option linter.unusedVariables false
set_option linter.unusedSimpArgs false

/-! ### r02_ValidPath: function 93 -/
mutual
def r02_ValidPath.l0 : Nat → ByteArray → Int → Int → Option (Bool)
|0,_,_,_ => none
|k + 1,x0,x3,x4 => if x4 ≤ (x0.size : Int) then (if x4 = (x0.size : Int) then (r02_ValidPath.j1 k x0 x3 x4 true) else (if 0 ≤ x4 then (if x4 < (x0.size : Int) then (r02_ValidPath.j1 k x0 x3 x4 ((bt x0 x4) == 47)) else (none)) else (none))) else (some true)
def r02_ValidPath.j1 : Nat → ByteArray → Int → Int → Bool → Option (Bool)
|0,_,_,_,_ => none
|k + 1,x0,x3,x4,ab => if ab = true then (if 0 ≤ x3 then (if x3 ≤ x4 then (if x4 ≤ (x0.size : Int) then ((r02_name.f k (x0.extract (x3 : Int).toNat (x4 : Int).toNat)).bind fun aa => (if aa = true then (r02_ValidPath.l0 k x0 (wrap64 (x4 + 1)) (wrap64 (x4 + 1))) else (some false))) else (none)) else (none)) else (none)) else (r02_ValidPath.l0 k x0 x3 (wrap64 (x4 + 1)))
end
def r02_ValidPath.f (k : Nat) (a0 : ByteArray) : Option (Bool) := if (a0.size : Int) > 60 then (some false) else (r02_ValidPath.l0 k a0 0 0)
theorem r02_ValidPath.mono_l : ∀ k, (∀ y0 y1 y2, LeO (r02_ValidPath.l0 k y0 y1 y2) (r02_ValidPath.l0 (k + 1) y0 y1 y2)) ∧ (∀ y0 y1 y2 y3, LeO (r02_ValidPath.j1 k y0 y1 y2 y3) (r02_ValidPath.j1 (k + 1) y0 y1 y2 y3))
|0 => ⟨fun _ _ _ r h => by simp [r02_ValidPath.l0] at h,fun _ _ _ _ r h => by simp [r02_ValidPath.j1] at h⟩
|k + 1 => by
  obtain ⟨ih0,ih1⟩ := r02_ValidPath.mono_l k
  refine ⟨?_,?_⟩
  ·intro y0 y1 y2
   unfold r02_ValidPath.l0
   repeat' (with_reducible first|exact ih1 _ _ _ _|exact LeO.refl _|exact LeO.none _|refine LeO.ite ?_ ?_|refine LeO.bind ?_ (fun _ => ?_))
  ·intro y0 y1 y2 y3
   unfold r02_ValidPath.j1
   repeat' (with_reducible first|exact ih0 _ _ _|exact r02_name.mono _ _|exact LeO.refl _|exact LeO.none _|refine LeO.ite ?_ ?_|refine LeO.bind ?_ (fun _ => ?_))
theorem r02_ValidPath.mono : ∀ a0 k, LeO (r02_ValidPath.f k a0) (r02_ValidPath.f (k + 1) a0) := by
 intro a0 k
 obtain ⟨ih0,ih1⟩ := r02_ValidPath.mono_l k
 unfold r02_ValidPath.f
 repeat' (with_reducible first|exact ih0 _ _ _|exact ih1 _ _ _ _|exact r02_name.mono _ _|exact LeO.refl _|exact LeO.none _|refine LeO.ite ?_ ?_|refine LeO.bind ?_ (fun _ => ?_))
theorem r02_ValidPath.calls (k : Nat) (a0 : ByteArray) (r : Bool) (w : World) (h : r02_ValidPath.f k a0 = some r) :
  Calls Tryz.prog 93 #[.string a0] w fun e w' => e = .returned (.bool r) ∧ Drawn0 w w' := by
 have H : (if (a0.size : Int) > 60 then (some false) else (r02_ValidPath.l0 k a0 0 0)) = some r := h
 clear h
 by_cases c2 : (a0.size : Int) > 60
 ·rw [if_pos c2] at H
  have ag := decide_eq_true c2
  have ah : decide (60 < a0.size) = true := decide_eq_true (by omega)
  clear c2
  obtain rfl := Option.some.inj H
  go_enter Tryz.func93,Tryz.ntmps93
  go_wp2
  go_ret
  exact ⟨by first|rfl|(simp;done)|(simp [*];done),by repeat (first|exact Drawn0.refl _|apply Drawn0.step)⟩
 ·rw [if_neg c2] at H
  have ag := decide_eq_false c2
  have ah : decide (60 < a0.size) = false := decide_eq_false (by omega)
  clear c2
  have H' := aK H
  clear H
  go_enter Tryz.func93,Tryz.ntmps93
  go_wp2
  go_loopg [3,4] k (fun kq v3 v4 w' => ∃ (ab : Int) (aa : Int),v3 = .int .i64 ab ∧ v4 = .int .i64 aa ∧ Aside0 (r02_ValidPath.l0 kq a0 ab aa = some r) ∧ Aside0 (kq ≤ k) ∧ Drawn0 w w')
  case atStart => exact ⟨(0),(0),(by first|rfl|(simp;done)|(simp [*];done)),(by first|rfl|(simp;done)|(simp [*];done)),H',⟨Nat.le_refl _⟩,by repeat (first|exact Drawn0.refl _|apply Drawn0.step)⟩
  case round =>
   clear H'
   try clear c2
   try clear ag
   try clear ah
   try clear p2
   obtain ⟨ab,aa,rfl,rfl,HA,af,⟨m1,rfl⟩⟩ := hrel
   cases gk with
  |zero => exact absurd HA.out (by simp [r02_ValidPath.l0])
  |succ k1 =>
    have H := HA.out
    clear HA
    simp only [r02_ValidPath.l0] at H
    by_cases c3 : aa ≤ (a0.size : Int)
    ·rw [if_pos c3] at H
     have ai := decide_eq_true c3
     clear c3
     have am := aK H
     clear H
     go_upto_region 7 with (fail)
     go_cut [23] (fun az wc => ∃ (kq : Nat) (ac : Bool),az = .bool ac ∧ Aside0 (r02_ValidPath.j1 kq a0 ab aa ac = some r) ∧ Aside0 (kq ≤ k1) ∧ Drawn0 w wc)
     case first =>
      have H := am.out
      clear am
      by_cases c5 : aa = (a0.size : Int)
      ·rw [if_pos c5] at H
       have ad := beq_iff_eq.mpr c5
       have ae := bne_eq_false_iff_eq.mpr c5
       clear c5
       (first|rw [ad]|(simp only [i64_w,i32_w];rw [ad])|rw [ae]|skip)
       have H' := aK H
       clear H
       go_wp2
       go_meet
       case rel => exact ⟨_,(true),(by first|rfl|(simp;done)|(simp [*];done)),H',⟨by have := af.out;first|omega|exact Nat.le_refl _⟩,by repeat (first|exact Drawn0.refl _|apply Drawn0.step)⟩
      ·rw [if_neg c5] at H
       have ad := beq_eq_false_iff_ne.mpr c5
       have ae := bne_iff_ne.mpr c5
       (first|rw [ad]|(simp only [i64_w,i32_w];rw [ad])|rw [ae]|skip)
       obtain ⟨c6,H⟩ := iS H
       have aA := decide_eq_true c6
       clear c6
       obtain ⟨c7,H⟩ := iS H
       have aB := decide_eq_true c7
       clear c7
       have H' := aK H
       clear H
       have p8 : 0 ≤ (aa : Int) := dA
       have q8 : aa < (a0.size : Int) := dA
       have aC := bt_at a0 aa
       replace p8 := eq_true p8
       replace q8 := eq_true q8
       go_wp2
       go_meet
       case rel => exact ⟨_,(((bt a0 aa) == 47)),(by first|rfl|(simp;done)|(simp [*];done)),H',⟨by have := af.out;first|omega|exact Nat.le_refl _⟩,by repeat (first|exact Drawn0.refl _|apply Drawn0.step)⟩
     case rest =>
      clear am
      try clear p2
      try clear c3
      try clear ai
      try clear p8
      try clear q8
      try clear aC
      try clear p2
      try clear p8
      try clear q8
      obtain ⟨kq,ac,rfl,HA,ak,⟨aD,rfl⟩⟩ := hcut
      cases kq with
     |zero => exact absurd HA.out (by simp [r02_ValidPath.j1])
     |succ kj3 =>
       have H := HA.out
       clear HA
       simp only [r02_ValidPath.j1] at H
       by_cases c9 : ac = true
       ·subst c9
        rw [if_pos rfl] at H
        obtain ⟨c10,H⟩ := iS H
        have aq := eq_true c10
        have ar := decide_eq_true c10
        clear c10
        obtain ⟨an,H⟩ := iS H
        have au := eq_true an
        have av := decide_eq_true an
        clear an
        obtain ⟨ao,H⟩ := iS H
        have aw := eq_true ao
        have ax := decide_eq_true ao
        clear ao
        replace H := Option.bind_eq_some_iff.mp H
        obtain ⟨ap,aj,H⟩ := H
        have ay := aK aj
        clear aj
        by_cases al : ap = true
        ·subst al
         rw [if_pos rfl] at H
         have H' := aK H
         clear H
         go_wp2_with (first|((with_reducible refine gate_callee (f := 107) rfl ?_);refine gL 28 Tryz.func107 #[.string (a0.extract (ab : Int).toNat (aa : Int).toNat)] ?_;(with_reducible refine (r02_name.calls kj3 (a0.extract (ab : Int).toNat (aa : Int).toNat) true _ ay.out).mono ?_);rintro e w' ⟨rfl,⟨nd,rfl⟩⟩;refine ⟨_,rfl,?_⟩))
         go_roundg kj3
         case measure => have := af.out;have := ak.out;omega
         case rel => exact ⟨(wrap64 (aa + 1)),(wrap64 (aa + 1)),(by first|rfl|(simp;done)|(simp [*];done)),(by first|rfl|(simp;done)|(simp [*];done)),H',⟨by have := af.out;have := ak.out;omega⟩,by repeat (first|exact Drawn0.refl _|apply Drawn0.step)⟩
        ·replace al := Bool.eq_false_iff.mpr al
         subst al
         rw [if_neg (show ¬ (false = true) by decide)] at H
         obtain rfl := Option.some.inj H
         go_wp2_with (first|((with_reducible refine gate_callee (f := 107) rfl ?_);refine gL 28 Tryz.func107 #[.string (a0.extract (ab : Int).toNat (aa : Int).toNat)] ?_;(with_reducible refine (r02_name.calls kj3 (a0.extract (ab : Int).toNat (aa : Int).toNat) false _ ay.out).mono ?_);rintro e w' ⟨rfl,⟨nd,rfl⟩⟩;refine ⟨_,rfl,?_⟩))
         go_ret
         exact ⟨by first|rfl|(simp;done)|(simp [*];done),by repeat (first|exact Drawn0.refl _|apply Drawn0.step)⟩
       ·replace c9 := Bool.eq_false_iff.mpr c9
        subst c9
        rw [if_neg (show ¬ (false = true) by decide)] at H
        have H' := aK H
        clear H
        go_wp2
        go_roundg kj3
        case measure => have := af.out;have := ak.out;omega
        case rel => exact ⟨(ab),(wrap64 (aa + 1)),(by first|rfl|(simp;done)|(simp [*];done)),(by first|rfl|(simp;done)|(simp [*];done)),H',⟨by have := af.out;have := ak.out;omega⟩,by repeat (first|exact Drawn0.refl _|apply Drawn0.step)⟩
    ·rw [if_neg c3] at H
     have ai := decide_eq_false c3
     clear c3
     obtain rfl := Option.some.inj H
     go_wp2
     go_ret
     exact ⟨by first|rfl|(simp;done)|(simp [*];done),by repeat (first|exact Drawn0.refl _|apply Drawn0.step)⟩

/-! ### r02_Under: function 94 -/
def r02_Under.f (a0 : ByteArray) (a1 : ByteArray) : Option (Bool) := if a1.toList = ([] : List UInt8) then (some true) else (if (a0.size : Int) > (a1.size : Int) then (if 0 ≤ (a1.size : Int) then (if (a1.size : Int) ≤ (a0.size : Int) then (if (a0.extract 0 ((a1.size : Int) : Int).toNat).toList = a1.toList then (if (a1.size : Int) < (a0.size : Int) then (some ((bt a0 (a1.size : Int)) == 47)) else (none)) else (some false)) else (none)) else (none)) else (some false))
theorem r02_Under.calls (a0 : ByteArray) (a1 : ByteArray) (r : Bool) (w : World) (h : r02_Under.f a0 a1 = some r) :
  Calls Tryz.prog 94 #[.string a0,.string a1] w fun e w' => e = .returned (.bool r) ∧ Drawn0 w w' := by
 unfold r02_Under.f at h
 have H := h
 clear h
 by_cases c3 : a1.toList = ([] : List UInt8)
 ·rw [if_pos c3] at H
  have ac := beq_iff_eq.mpr c3
  have ad := bne_eq_false_iff_eq.mpr c3
  clear c3
  obtain rfl := Option.some.inj H
  go_enter Tryz.func94,Tryz.ntmps94
  go_wp2
  go_ret
  exact ⟨by first|rfl|(simp;done)|(simp [*];done),by repeat (first|exact Drawn0.refl _|apply Drawn0.step)⟩
 ·rw [if_neg c3] at H
  have ac := beq_eq_false_iff_ne.mpr c3
  have ad := bne_iff_ne.mpr c3
  by_cases c4 : (a0.size : Int) > (a1.size : Int)
  ·rw [if_pos c4] at H
   have ae := decide_eq_true c4
   have af : decide (a1.size < a0.size) = true := decide_eq_true (Int.ofNat_lt.mp c4)
   clear c4
   obtain ⟨c5,H⟩ := iS H
   have ah := eq_true c5
   have ai := decide_eq_true c5
   clear c5
   obtain ⟨c6,H⟩ := iS H
   have aj := eq_true c6
   have ak := decide_eq_true c6
   clear c6
   by_cases c7 : (a0.extract 0 ((a1.size : Int) : Int).toNat).toList = a1.toList
   ·rw [if_pos c7] at H
    have aa := beq_iff_eq.mpr c7
    simp only [Int.toNat_natCast] at aa
    have ab := bne_eq_false_iff_eq.mpr c7
    simp only [Int.toNat_natCast] at ab
    clear c7
    obtain ⟨c8,H⟩ := iS H
    have al := decide_eq_true c8
    have am : decide (a1.size < a0.size) = true := decide_eq_true (Int.ofNat_lt.mp c8)
    clear c8
    obtain rfl := Option.some.inj H
    have p9 : 0 ≤ ((a1.size : Int) : Int) := dA
    have q9 : (a1.size : Int) < (a0.size : Int) := dA
    have ag := bt_at a0 (a1.size : Int)
    simp only [Int.toNat_natCast] at ag
    replace ag := ag (by omega)
    replace p9 := eq_true p9
    replace q9 := eq_true q9
    go_enter Tryz.func94,Tryz.ntmps94
    go_wp2
    go_ret
    exact ⟨by first|rfl|(simp;done)|(simp [*];done),by repeat (first|exact Drawn0.refl _|apply Drawn0.step)⟩
   ·rw [if_neg c7] at H
    have aa := beq_eq_false_iff_ne.mpr c7
    simp only [Int.toNat_natCast] at aa
    have ab := bne_iff_ne.mpr c7
    simp only [Int.toNat_natCast] at ab
    obtain rfl := Option.some.inj H
    go_enter Tryz.func94,Tryz.ntmps94
    go_wp2
    go_ret
    exact ⟨by first|rfl|(simp;done)|(simp [*];done),by repeat (first|exact Drawn0.refl _|apply Drawn0.step)⟩
  ·rw [if_neg c4] at H
   have ae := decide_eq_false c4
   have af : decide (a1.size < a0.size) = false := decide_eq_false (fun h => c4 (Int.ofNat_lt.mpr h))
   clear c4
   obtain rfl := Option.some.inj H
   go_enter Tryz.func94,Tryz.ntmps94
   go_wp2
   go_ret
   exact ⟨by first|rfl|(simp;done)|(simp [*];done),by repeat (first|exact Drawn0.refl _|apply Drawn0.step)⟩
end Go.Proofs.YtgadbpljlpclnaaGreatDoor.H
