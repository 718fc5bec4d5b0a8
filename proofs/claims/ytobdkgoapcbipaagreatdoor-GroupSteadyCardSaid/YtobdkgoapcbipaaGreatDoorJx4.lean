import Derived.Test.YtobdkgoapcbipaaGreatDoorJx0
import Derived.Test.YtobdkgoapcbipaaGreatDoorJx2
import Derived.Test.YtobdkgoapcbipaaGreatDoorJx3
namespace Go.Proofs.YtobdkgoapcbipaaGreatDoor.J
open Go.RowKit Go.Proofs.YtobdkgoapcbipaaGreatDoorW.PrintWords Go.Proofs.YtobdkgoapcbipaaGreatDoorW.PrintLast Go.Proofs.YtobdkgoapcbipaaGreatDoorW.PrintMore
set_option maxHeartbeats 4000000
set_option maxRecDepth 100000
attribute [local go_sem] max2_int min2_int max_two min_two max_three min_three max_four min_four
set_option linter.unusedVariables false
set_option linter.unusedSimpArgs false

/-! ### glob_ValidPath: function 56 -/
mutual
def glob_ValidPath.l0 : Nat → List ByteArray → Int → Int → Option (Bool)
|0,_,_,_ => none
|k + 1,ab,ac,aa => if aa < ac then (if 0 ≤ aa then (if aa < (ab.length : Int) then (if (rdOf ByteArray.empty ab aa).toList = ([46] : List UInt8) then (glob_ValidPath.j1 k (rdOf ByteArray.empty ab aa) ab ac aa true) else (if (rdOf ByteArray.empty ab aa).toList = ([46,46] : List UInt8) then (glob_ValidPath.j1 k (rdOf ByteArray.empty ab aa) ab ac aa true) else (if ((rdOf ByteArray.empty ab aa).size : Int) < 1 then (glob_ValidPath.j1 k (rdOf ByteArray.empty ab aa) ab ac aa true) else (glob_ValidPath.j1 k (rdOf ByteArray.empty ab aa) ab ac aa (decide (((rdOf ByteArray.empty ab aa).size : Int) > 24)))))) else (none)) else (none)) else (some true)
def glob_ValidPath.j1 : Nat → ByteArray → List ByteArray → Int → Int → Bool → Option (Bool)
|0,_,_,_,_,_ => none
|k + 1,x4,aa,ab,ac,ad => if ad = true then (some false) else (glob_ValidPath.l1 k x4 0 aa ab ac)
def glob_ValidPath.l1 : Nat → ByteArray → Int → List ByteArray → Int → Int → Option (Bool)
|0,_,_,_,_,_ => none
|k + 1,x4,x5,ab,ac,ad => if x5 = (x4.size : Int) then (glob_ValidPath.l0 k ab ac (wrap64 (ad + 1))) else (if 0 ≤ x5 then (if x5 < (x4.size : Int) then ((glob_letter.f (bt x4 x5)).bind fun aa => (if aa = true then (glob_ValidPath.l1 k x4 (wrap64 (x5 + 1)) ab ac ad) else (some false))) else (none)) else (none))
end
def glob_ValidPath.f (k : Nat) (a0 : ByteArray) : Option (Bool) := if (a0.size : Int) > 60 then (some false) else ((strings_Split.f k a0 (⟨#[47]⟩ : ByteArray)).bind fun aa => (glob_ValidPath.l0 k aa (aa.length : Int) 0))
theorem glob_ValidPath.mono_l : ∀ k, (∀ y0 y1 y2, LeO (glob_ValidPath.l0 k y0 y1 y2) (glob_ValidPath.l0 (k + 1) y0 y1 y2)) ∧ (∀ y0 y1 y2 y3 y4, LeO (glob_ValidPath.j1 k y0 y1 y2 y3 y4) (glob_ValidPath.j1 (k + 1) y0 y1 y2 y3 y4)) ∧ (∀ y0 y1 y2 y3 y4, LeO (glob_ValidPath.l1 k y0 y1 y2 y3 y4) (glob_ValidPath.l1 (k + 1) y0 y1 y2 y3 y4))
|0 => ⟨fun _ _ _ r h => by simp [glob_ValidPath.l0] at h,fun _ _ _ _ _ r h => by simp [glob_ValidPath.j1] at h,fun _ _ _ _ _ r h => by simp [glob_ValidPath.l1] at h⟩
|k + 1 => by
  obtain ⟨ih0,ih1,ih2⟩ := glob_ValidPath.mono_l k
  refine ⟨?_,?_,?_⟩
  ·intro y0 y1 y2
   unfold glob_ValidPath.l0
   repeat' (with_reducible first|exact ih1 _ _ _ _ _|exact LeO.refl _|exact LeO.none _|refine LeO.ite ?_ ?_|refine LeO.bind ?_ (fun _ => ?_))
  ·intro y0 y1 y2 y3 y4
   unfold glob_ValidPath.j1
   repeat' (with_reducible first|exact ih2 _ _ _ _ _|exact LeO.refl _|exact LeO.none _|refine LeO.ite ?_ ?_|refine LeO.bind ?_ (fun _ => ?_))
  ·intro y0 y1 y2 y3 y4
   unfold glob_ValidPath.l1
   repeat' (with_reducible first|exact ih0 _ _ _|exact ih2 _ _ _ _ _|exact LeO.refl _|exact LeO.none _|refine LeO.ite ?_ ?_|refine LeO.bind ?_ (fun _ => ?_))
theorem glob_ValidPath.mono : ∀ a0 k, LeO (glob_ValidPath.f k a0) (glob_ValidPath.f (k + 1) a0) := by
 intro a0 k
 obtain ⟨ih0,ih1,ih2⟩ := glob_ValidPath.mono_l k
 unfold glob_ValidPath.f
 repeat' (with_reducible first|exact ih0 _ _ _|exact ih1 _ _ _ _ _|exact ih2 _ _ _ _ _|exact strings_Split.mono _ _ _|exact LeO.refl _|exact LeO.none _|refine LeO.ite ?_ ?_|refine LeO.bind ?_ (fun _ => ?_))
theorem glob_ValidPath.calls (k : Nat) (a0 : ByteArray) (r : Bool) (w : World) (h : glob_ValidPath.f k a0 = some r) :
  Calls Tryz.prog 56 #[.string a0] w fun e w' => e = .returned (.bool r) ∧ Below w.heap.size w w' := by
 have HB := aK (Below.refl w.heap.size w)
 have H : (if (a0.size : Int) > 60 then (some false) else ((strings_Split.f k a0 (⟨#[47]⟩ : ByteArray)).bind fun ab => (glob_ValidPath.l0 k ab (ab.length : Int) 0))) = some r := h
 clear h
 by_cases c2 : (a0.size : Int) > 60
 ·rw [if_pos c2] at H
  have aq := decide_eq_true c2
  have ar : decide (60 < a0.size) = true := decide_eq_true (by omega)
  clear c2
  obtain rfl := Option.some.inj H
  go_enter Tryz.func56,Tryz.ntmps56
  go_wp2
  go_step3
  go_wp2
  (try (go_step3;go_wp2))
  first|go_ret|(rw [Exit.noGoto_ret];go_ret)
  exact ⟨by first|rfl|(simp [errW_none,errW_some] <;> rfl)|(simp [*,errW_none,errW_some] <;> rfl),bM HB.out⟩
 ·rw [if_neg c2] at H
  have aq := decide_eq_false c2
  have ar : decide (60 < a0.size) = false := decide_eq_false (by omega)
  clear c2
  replace H := Option.bind_eq_some_iff.mp H
  obtain ⟨ab,aT,H⟩ := H
  have A3 := aK aT
  clear aT
  have H' := aK H
  clear H
  go_enter Tryz.func56,Tryz.ntmps56
  go_wp2
  go_step3
  go_wp2_with (first|((with_reducible refine gate_callee (f := 67) rfl ?_);refine gL 10 Tryz.func67 #[.string a0,.string (⟨#[47]⟩ : ByteArray)] ?_;(with_reducible refine (strings_Split.calls k a0 (⟨#[47]⟩ : ByteArray) ab _ A3.out).mono ?_);rintro e w4 ⟨aL,rfl,au,hb⟩;refine ⟨_,rfl,?_⟩;have af := aK (Kd.R_lower au (below_size (bM HB.out)));replace HB := aK (below_step (bM HB.out) hb);(try clear hb);(try clear au);obtain ⟨aU,aG,aM⟩ := Kd.R_slice af.out;subst aM))
  (try (go_step3;go_wp2_with (first|((with_reducible refine gate_callee (f := 67) rfl ?_);refine gL 10 Tryz.func67 #[.string a0,.string (⟨#[47]⟩ : ByteArray)] ?_;(with_reducible refine (strings_Split.calls k a0 (⟨#[47]⟩ : ByteArray) ab _ A3.out).mono ?_);rintro e w4 ⟨aL,rfl,au,hb⟩;refine ⟨_,rfl,?_⟩;have af := aK (Kd.R_lower au (below_size (bM HB.out)));replace HB := aK (below_step (bM HB.out) hb);(try clear hb);(try clear au);obtain ⟨aU,aG,aM⟩ := Kd.R_slice af.out;subst aM))))
  go_loopg [12] k (fun kq a1 w' => ∃ (aa : Int),a1 = .int .i64 aa ∧ Aside0 (glob_ValidPath.l0 kq ab (ab.length : Int) aa = some r) ∧ Aside0 (kq ≤ k) ∧ Aside0 (Kd.R Kd.string 9 w' w.heap.size (fun _ => True) (.slice aU ab.length aG) ab) ∧ Aside0 (Below w.heap.size w w'))
  case atStart => exact ⟨(0),(by first|rfl|(simp;done)|(simp [*];done)),H',⟨Nat.le_refl _⟩,⟨rM af.out⟩,⟨bM HB.out⟩⟩
  case round =>
   clear H'
   try clear c2
   try clear aq
   try clear ar
   try clear p2
   obtain ⟨aa,rfl,HA,al,ac,HB⟩ := hrel
   cases gk with
  |zero => exact absurd HA.out (by simp [glob_ValidPath.l0])
  |succ k1 =>
    have H := HA.out
    clear HA
    simp only [glob_ValidPath.l0] at H
    by_cases c6 : aa < (ab.length : Int)
    ·rw [if_pos c6] at H
     have av := decide_eq_true c6
     clear c6
     obtain ⟨c7,H⟩ := iS H
     have aN := decide_eq_true c7
     clear c7
     obtain ⟨c8,H⟩ := iS H
     have aO := decide_eq_true c8
     clear c8
     have aP := aK H
     clear H
     have ai : 0 ≤ (aa : Int) := dA
     have aj : aa < (ab.length : Int) := dA
     obtain ⟨am,aQ,ag⟩ := Kd.at_string (Kd.R_reads' ac.out).2.2 aa ai aj
     cases aQ
     replace ai := eq_true ai
     replace aj := eq_true aj
     go_upto_region 6 with (fail)
     go_cut [31] (fun a2 wc => ∃ (kq : Nat) (ah : Bool),a2 = .bool ah ∧ Aside0 (glob_ValidPath.j1 kq (rdOf ByteArray.empty ab aa) ab (ab.length : Int) aa ah = some r) ∧ Aside0 (kq ≤ k1) ∧ Aside0 (Kd.R Kd.string 9 wc w.heap.size (fun _ => True) (.slice (some am) ab.length aG) ab) ∧ Aside0 (Below w.heap.size w wc))
     case first =>
      have H := aP.out
      clear aP
      by_cases c10 : (rdOf ByteArray.empty ab aa).toList = ([46] : List UInt8)
      ·rw [if_pos c10] at H
       have ae := beq_iff_eq.mpr c10
       have ak := bne_eq_false_iff_eq.mpr c10
       clear c10
       (first|rw [ae]|(simp only [i64_w,i32_w];rw [ae])|rw [ak]|skip)
       have H' := aK H
       clear H
       go_wp2
       go_meet
       case rel => exact ⟨_,(true),(by first|rfl|(simp;done)|(simp [*];done)),H',⟨by have := al.out;first|omega|exact Nat.le_refl _⟩,⟨rM ac.out⟩,⟨bM HB.out⟩⟩
      ·rw [if_neg c10] at H
       have ae := beq_eq_false_iff_ne.mpr c10
       have ak := bne_iff_ne.mpr c10
       (first|rw [ae]|(simp only [i64_w,i32_w];rw [ae])|rw [ak]|skip)
       by_cases an : (rdOf ByteArray.empty ab aa).toList = ([46,46] : List UInt8)
       ·rw [if_pos an] at H
        have aw := beq_iff_eq.mpr an
        have ax := bne_eq_false_iff_eq.mpr an
        clear an
        have H' := aK H
        clear H
        go_wp2
        go_meet
        case rel => exact ⟨_,(true),(by first|rfl|(simp;done)|(simp [*];done)),H',⟨by have := al.out;first|omega|exact Nat.le_refl _⟩,⟨rM ac.out⟩,⟨bM HB.out⟩⟩
       ·rw [if_neg an] at H
        have aw := beq_eq_false_iff_ne.mpr an
        have ax := bne_iff_ne.mpr an
        by_cases ap : ((rdOf ByteArray.empty ab aa).size : Int) < 1
        ·rw [if_pos ap] at H
         have ay := decide_eq_true ap
         have az : decide ((rdOf ByteArray.empty ab aa).size < 1) = true := decide_eq_true (by omega)
         clear ap
         have H' := aK H
         clear H
         go_wp2
         go_meet
         case rel => exact ⟨_,(true),(by first|rfl|(simp;done)|(simp [*];done)),H',⟨by have := al.out;first|omega|exact Nat.le_refl _⟩,⟨rM ac.out⟩,⟨bM HB.out⟩⟩
        ·rw [if_neg ap] at H
         have ay := decide_eq_false ap
         have az : decide ((rdOf ByteArray.empty ab aa).size < 1) = false := decide_eq_false (by omega)
         clear ap
         have H' := aK H
         clear H
         go_wp2
         go_meet
         case rel => exact ⟨_,(decide (((rdOf ByteArray.empty ab aa).size : Int) > 24)),(by first|rfl|(simp;done)|(simp [*];done)),H',⟨by have := al.out;first|omega|exact Nat.le_refl _⟩,⟨rM ac.out⟩,⟨bM HB.out⟩⟩
     case rest =>
      clear aP
      try clear p1
      try clear q1
      try clear hx1
      try clear p2
      try clear c6
      try clear av
      try clear c7
      try clear aN
      try clear c8
      try clear aO
      try clear ag
      try clear ai
      try clear p2
      try clear aj
      obtain ⟨kq,ah,rfl,HA,aH,ac,HB⟩ := hcut
      cases kq with
     |zero => exact absurd HA.out (by simp [glob_ValidPath.j1])
     |succ kj8 =>
       have H := HA.out
       clear HA
       simp only [glob_ValidPath.j1] at H
       by_cases aA : ah = true
       ·subst aA
        rw [if_pos rfl] at H
        obtain rfl := Option.some.inj H
        go_wp2
        first|go_ret|(rw [Exit.noGoto_ret];go_ret)
        exact ⟨by first|rfl|(simp [errW_none,errW_some] <;> rfl)|(simp [*,errW_none,errW_some] <;> rfl),bM HB.out⟩
       ·replace aA := Bool.eq_false_iff.mpr aA
        subst aA
        rw [if_neg (show ¬ (false = true) by decide)] at H
        have H' := aK H
        clear H
        go_wp2
        go_loopg [5] kj8 (fun kq v5 w' => ∃ (ad : Int),v5 = .int .i64 ad ∧ Aside0 (glob_ValidPath.l1 kq (rdOf ByteArray.empty ab aa) ad ab (ab.length : Int) aa = some r) ∧ Aside0 (kq ≤ kj8) ∧ Aside0 (Kd.R Kd.string 9 w' w.heap.size (fun _ => True) (.slice (some am) ab.length aG) ab) ∧ Aside0 (Below w.heap.size w w'))
        case atStart => exact ⟨(0),(by first|rfl|(simp;done)|(simp [*];done)),H',⟨Nat.le_refl _⟩,⟨rM ac.out⟩,⟨bM HB.out⟩⟩
        case round =>
         clear H'
         try clear p1
         try clear q1
         try clear hx1
         try clear p2
         try clear aA
         try clear ag
         try clear p1
         try clear ai
         try clear p2
         try clear q1
         try clear aj
         obtain ⟨ad,rfl,HA,aI,ac,HB⟩ := hrel
         cases gk with
        |zero => exact absurd HA.out (by simp [glob_ValidPath.l1])
        |succ k3 =>
          have H := HA.out
          clear HA
          simp only [glob_ValidPath.l1] at H
          by_cases ao : ad = ((rdOf ByteArray.empty ab aa).size : Int)
          ·rw [if_pos ao] at H
           have aB := beq_iff_eq.mpr ao
           have aC := bne_eq_false_iff_eq.mpr ao
           clear ao
           have H' := aK H
           clear H
           go_wp2
           go_roundg k3
           case measure => have := al.out;have := aH.out;have := aI.out;omega
           case rel => exact ⟨(wrap64 (aa + 1)),(by first|rfl|(simp;done)|(simp [*];done)),H',⟨by have := al.out;have := aH.out;have := aI.out;omega⟩,⟨rM ac.out⟩,⟨bM HB.out⟩⟩
          ·rw [if_neg ao] at H
           have aB := beq_eq_false_iff_ne.mpr ao
           have aC := bne_iff_ne.mpr ao
           obtain ⟨aV,H⟩ := iS H
           have aW := decide_eq_true aV
           clear aV
           obtain ⟨aX,H⟩ := iS H
           have aY := decide_eq_true aX
           clear aX
           replace H := Option.bind_eq_some_iff.mp H
           obtain ⟨aR,aD,H⟩ := H
           have aZ := aK aD
           clear aD
           by_cases aJ : aR = true
           ·subst aJ
            rw [if_pos rfl] at H
            have H' := aK H
            clear H
            have aE : 0 ≤ (ad : Int) := dA
            have aF : ad < ((rdOf ByteArray.empty ab aa).size : Int) := dA
            have aS := bt_at (rdOf ByteArray.empty ab aa) ad
            replace aE := eq_true aE
            replace aF := eq_true aF
            go_wp2_with (first|((with_reducible refine gate_callee (f := 68) rfl ?_);refine gL 41 Tryz.func68 #[.int .u8 (bt (rdOf ByteArray.empty ab aa) ad)] ?_;(with_reducible refine (glob_letter.calls (bt (rdOf ByteArray.empty ab aa) ad) true _ aZ.out).mono ?_);rintro e w' ⟨rfl,⟨nd,rfl⟩⟩;refine ⟨_,rfl,?_⟩))
            go_roundg k3
            case measure => have := al.out;have := aH.out;have := aI.out;omega
            case rel => exact ⟨(wrap64 (ad + 1)),(by first|rfl|(simp;done)|(simp [*];done)),H',⟨by have := al.out;have := aH.out;have := aI.out;omega⟩,⟨rM ac.out⟩,⟨bM HB.out⟩⟩
           ·replace aJ := Bool.eq_false_iff.mpr aJ
            subst aJ
            rw [if_neg (show ¬ (false = true) by decide)] at H
            obtain rfl := Option.some.inj H
            have aE : 0 ≤ (ad : Int) := dA
            have aF : ad < ((rdOf ByteArray.empty ab aa).size : Int) := dA
            have aS := bt_at (rdOf ByteArray.empty ab aa) ad
            replace aE := eq_true aE
            replace aF := eq_true aF
            go_wp2_with (first|((with_reducible refine gate_callee (f := 68) rfl ?_);refine gL 41 Tryz.func68 #[.int .u8 (bt (rdOf ByteArray.empty ab aa) ad)] ?_;(with_reducible refine (glob_letter.calls (bt (rdOf ByteArray.empty ab aa) ad) false _ aZ.out).mono ?_);rintro e w' ⟨rfl,⟨nd,rfl⟩⟩;refine ⟨_,rfl,?_⟩))
            first|go_ret|(rw [Exit.noGoto_ret];go_ret)
            exact ⟨by first|rfl|(simp [errW_none,errW_some] <;> rfl)|(simp [*,errW_none,errW_some] <;> rfl),bM HB.out⟩
    ·rw [if_neg c6] at H
     have av := decide_eq_false c6
     clear c6
     obtain rfl := Option.some.inj H
     go_wp2
     first|go_ret|(rw [Exit.noGoto_ret];go_ret)
     exact ⟨by first|rfl|(simp [errW_none,errW_some] <;> rfl)|(simp [*,errW_none,errW_some] <;> rfl),bM HB.out⟩

/-! ### strings_Contains: function 57 -/
def strings_Contains.f (a0 : ByteArray) (a1 : ByteArray) : Option (Bool) := (strings_Index.f a0 a1).bind fun aa => (some (decide (aa ≥ 0)))
theorem strings_Contains.calls (a0 : ByteArray) (a1 : ByteArray) (r : Bool) (w : World) (h : strings_Contains.f a0 a1 = some r) :
  Calls Tryz.prog 57 #[.string a0,.string a1] w fun e w' => e = .returned (.bool r) ∧ Drawn0 w w' := by
 have H : ((strings_Index.f a0 a1).bind fun aa => (some (decide (aa ≥ 0)))) = some r := h
 clear h
 replace H := Option.bind_eq_some_iff.mp H
 obtain ⟨aa,ab,H⟩ := H
 have A3 := aK ab
 clear ab
 obtain rfl := Option.some.inj H
 go_enter Tryz.func57,Tryz.ntmps57
 go_wp2_with (first|((with_reducible refine gate_callee (f := 69) rfl ?_);refine gL 7 Tryz.func69 #[.string a0,.string a1] ?_;(with_reducible refine (strings_Index.calls a0 a1 aa _ A3.out).mono ?_);rintro e w' ⟨rfl,⟨nd,rfl⟩⟩;refine ⟨_,rfl,?_⟩))
 go_ret
 exact ⟨by first|rfl|(simp;done)|(simp [*];done),by repeat (first|exact Drawn0.refl _|apply Drawn0.step)⟩
end Go.Proofs.YtobdkgoapcbipaaGreatDoor.J
