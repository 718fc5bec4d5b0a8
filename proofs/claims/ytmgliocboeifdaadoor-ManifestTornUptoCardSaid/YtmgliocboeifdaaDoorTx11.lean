-- Written by hp.py, a program of this session, over the kit's print of the translation. Not trusted: Lean checks it.
import Derived.Test.YtmgliocboeifdaaDoorTx0
import Derived.Test.YtmgliocboeifdaaDoorTx9
import Derived.Test.YtmgliocboeifdaaDoorTx10
namespace Go.Proofs.YtmgliocboeifdaaDoor.T
open Go.RowKit Go.Proofs.YtmgliocboeifdaaDoorW.PrintWords Go.Proofs.YtmgliocboeifdaaDoorW.PrintLast Go.Proofs.YtmgliocboeifdaaDoorW.PrintMore
attribute [local go_sem] max2_int min2_int max_two min_two max_three min_three max_four min_four   -- for this text's walks alone
set_option linter.unusedVariables false
set_option linter.unusedSimpArgs false

/-! ### glob_ValidPath: function 61 -/
mutual
def glob_ValidPath.l0 : Nat → List ByteArray → Int → Int → Option (Bool)
|0,_,_,_ => none
|k + 1,x10,x11,x12 => if x12 < x11 then (if 0 ≤ x12 then (if x12 < (x10.length : Int) then (if (rdOf ByteArray.empty x10 x12).toList = ([46] : List UInt8) then (glob_ValidPath.j1 k (rdOf ByteArray.empty x10 x12) x10 x11 x12 true) else (if (rdOf ByteArray.empty x10 x12).toList = ([46,46] : List UInt8) then (glob_ValidPath.j1 k (rdOf ByteArray.empty x10 x12) x10 x11 x12 true) else (if ((rdOf ByteArray.empty x10 x12).size : Int) < 1 then (glob_ValidPath.j1 k (rdOf ByteArray.empty x10 x12) x10 x11 x12 true) else (glob_ValidPath.j1 k (rdOf ByteArray.empty x10 x12) x10 x11 x12 (decide (((rdOf ByteArray.empty x10 x12).size : Int) > 24)))))) else (none)) else (none)) else (some true)
def glob_ValidPath.j1 : Nat → ByteArray → List ByteArray → Int → Int → Bool → Option (Bool)
|0,_,_,_,_,_ => none
|k + 1,x4,x10,x11,x12,x31 => if x31 = true then (some false) else (glob_ValidPath.l1 k x4 0 x10 x11 x12)
def glob_ValidPath.l1 : Nat → ByteArray → Int → List ByteArray → Int → Int → Option (Bool)
|0,_,_,_,_,_ => none
|k + 1,x4,x5,x10,x11,x12 => if x5 = (x4.size : Int) then (glob_ValidPath.l0 k x10 x11 (wrap64 (x12 + 1))) else (if 0 ≤ x5 then (if x5 < (x4.size : Int) then ((glob_letter.f (bt x4 x5)).bind fun t339 => (if t339 = true then (glob_ValidPath.l1 k x4 (wrap64 (x5 + 1)) x10 x11 x12) else (some false))) else (none)) else (none))
end
def glob_ValidPath.f (k : Nat) (a0 : ByteArray) : Option (Bool) := if (a0.size : Int) > 60 then (some false) else ((strings_Split.f k a0 (⟨#[47]⟩ : ByteArray)).bind fun t335 => (glob_ValidPath.l0 k t335 (t335.length : Int) 0))
theorem glob_ValidPath.mono_l : ∀ k, (∀ y0 y1 y2, LeO (glob_ValidPath.l0 k y0 y1 y2) (glob_ValidPath.l0 (k + 1) y0 y1 y2)) ∧ (∀ y0 y1 y2 y3 y4, LeO (glob_ValidPath.j1 k y0 y1 y2 y3 y4) (glob_ValidPath.j1 (k + 1) y0 y1 y2 y3 y4)) ∧ (∀ y0 y1 y2 y3 y4, LeO (glob_ValidPath.l1 k y0 y1 y2 y3 y4) (glob_ValidPath.l1 (k + 1) y0 y1 y2 y3 y4))
|0 => ⟨fun _ _ _ r h => by simp [glob_ValidPath.l0] at h,fun _ _ _ _ _ r h => by simp [glob_ValidPath.j1] at h,fun _ _ _ _ _ r h => by simp [glob_ValidPath.l1] at h⟩
|k + 1 => by
  obtain ⟨ih0,ih1,ih2⟩ := glob_ValidPath.mono_l k
  refine ⟨?_,?_,?_⟩
  ·intro y0 y1 y2
   unfold glob_ValidPath.l0
   repeat' (with_reducible first|exact ih1 _ _ _ _ _|exact LeO.refl _|exact LeO.none _|refine LeO.ite ?_ ?_|refine LeO.bind ?_ (fun _ => ?_))
  ·intro y0 y1 y2 y3 y4
   unfold glob_ValidPath.j1
   repeat' (with_reducible first|exact ih2 _ _ _ _ _|exact LeO.refl _|exact LeO.none _|refine LeO.ite ?_ ?_|refine LeO.bind ?_ (fun _ => ?_))
  ·intro y0 y1 y2 y3 y4
   unfold glob_ValidPath.l1
   repeat' (with_reducible first|exact ih0 _ _ _|exact ih2 _ _ _ _ _|exact LeO.refl _|exact LeO.none _|refine LeO.ite ?_ ?_|refine LeO.bind ?_ (fun _ => ?_))
theorem glob_ValidPath.mono : ∀ a0 k, LeO (glob_ValidPath.f k a0) (glob_ValidPath.f (k + 1) a0) := by
 intro a0 k
 obtain ⟨ih0,ih1,ih2⟩ := glob_ValidPath.mono_l k
 unfold glob_ValidPath.f
 repeat' first
  |(with_reducible exact ih0 _ _ _)
  |(with_reducible exact ih1 _ _ _ _ _)
  |(with_reducible exact ih2 _ _ _ _ _)
  |(with_reducible exact strings_Split.mono _ _ _)
  |(with_reducible exact LeO.refl _)
  |(with_reducible exact LeO.none _)
  |(with_reducible refine LeO.ite ?_ ?_)
  |(with_reducible refine LeO.bind ?_ (fun _ => ?_))
  |exact ih0 _ _ _
  |exact ih1 _ _ _ _ _
  |exact ih2 _ _ _ _ _
  |exact strings_Split.mono _ _ _
  |exact LeO.none _
  |refine LeO.ite ?_ ?_
  |refine LeO.bind ?_ (fun _ => ?_)
set_option maxHeartbeats 4000000 in
set_option maxRecDepth 100000 in
theorem glob_ValidPath.calls (k : Nat) (a0 : ByteArray) (r : Bool) (w : World) (h : glob_ValidPath.f k a0 = some r) :
  Calls Tryd.prog 61 #[.string a0] w fun e w' => e = .returned (.bool r) ∧ Below w.heap.size w w' := by
 have HB := aK (Below.refl w.heap.size w)
 have H : (if (a0.size : Int) > 60 then (some false) else ((strings_Split.f k a0 (⟨#[47]⟩ : ByteArray)).bind fun t335 => (glob_ValidPath.l0 k t335 (t335.length : Int) 0))) = some r := h
 clear h
 by_cases c2 : (a0.size : Int) > 60
 ·rw [if_pos c2] at H
  have c2b0 := decide_eq_true c2
  have c2b1 : decide (60 < a0.size) = true := decide_eq_true (by omega)
  clear c2
  obtain rfl := Option.some.inj H
  go_enter Tryd.func61,Tryd.ntmps61
  go_wp2
  go_step3
  go_wp2
  (try (go_step3;go_wp2))
  first|go_ret|(rw [Exit.noGoto_ret];go_ret)
  exact ⟨by first|rfl|(simp [errW_none,errW_some] <;> rfl)|(simp [*,errW_none,errW_some] <;> rfl),bM HB.out⟩
 ·rw [if_neg c2] at H
  have c2b0 := decide_eq_false c2
  have c2b1 : decide (60 < a0.size) = false := decide_eq_false (by omega)
  clear c2
  replace H := Option.bind_eq_some_iff.mp H
  obtain ⟨t335,A30,H⟩ := H
  have A3 := aK A30
  clear A30
  have H' := aK H
  clear H
  go_enter Tryd.func61,Tryd.ntmps61
  go_wp2
  go_step3
  go_wp2_with (first|((with_reducible refine gate_callee (f := 70) rfl ?_);refine goesL_ (some 10) rfl rfl Tryd.func70 (by kernel_rfl) rfl #[.string a0,.string (⟨#[47]⟩ : ByteArray)] rfl (by (try simp only [List.map_toArray,List.map_cons,List.map_nil]);first|done|rfl|(simp only [List.length_drop,List.length_take];rfl)) ?_;(with_reducible refine (strings_Split.calls k a0 (⟨#[47]⟩ : ByteArray) t335 _ A3.out).mono ?_);rintro e w4 ⟨v336,rfl,ho0,hb⟩;refine ⟨_,rfl,?_⟩;have HO337 := aK (Kd.R_lower ho0 (below_size (bM HB.out)));replace HB := aK (below_step (bM HB.out) hb);(try clear hb);(try clear ho0);obtain ⟨Ao5,co5,eo5⟩ := Kd.R_slice HO337.out;subst eo5))
  (try (go_step3;go_wp2_with (first|((with_reducible refine gate_callee (f := 70) rfl ?_);refine goesL_ (some 10) rfl rfl Tryd.func70 (by kernel_rfl) rfl #[.string a0,.string (⟨#[47]⟩ : ByteArray)] rfl (by (try simp only [List.map_toArray,List.map_cons,List.map_nil]);first|done|rfl|(simp only [List.length_drop,List.length_take];rfl)) ?_;(with_reducible refine (strings_Split.calls k a0 (⟨#[47]⟩ : ByteArray) t335 _ A3.out).mono ?_);rintro e w4 ⟨v336,rfl,ho0,hb⟩;refine ⟨_,rfl,?_⟩;have HO337 := aK (Kd.R_lower ho0 (below_size (bM HB.out)));replace HB := aK (below_step (bM HB.out) hb);(try clear hb);(try clear ho0);obtain ⟨Ao5,co5,eo5⟩ := Kd.R_slice HO337.out;subst eo5))))
  go_loopg [12] k (fun kq v12 w' => ∃ (x12_1 : Int),v12 = .int .i64 x12_1 ∧ Aside0 (glob_ValidPath.l0 kq t335 (t335.length : Int) x12_1 = some r) ∧ Aside0 (kq ≤ k) ∧ Aside0 (Kd.R Kd.string 9 w' w.heap.size (fun _ => True) (.slice Ao5 t335.length co5) t335) ∧ Aside0 (Below w.heap.size w w'))
  case atStart => exact ⟨(0),(by first|rfl|(simp;done)|(simp [*];done)),H',⟨Nat.le_refl _⟩,⟨rM HO337.out⟩,⟨bM HB.out⟩⟩
  case round =>
   clear H'
   try clear c2
   try clear c2b0
   try clear c2b1
   try clear p2
   obtain ⟨x12_1,rfl,HA,HK1,HO_10,HB⟩ := hrel
   cases gk with
  |zero => exact absurd HA.out (by simp [glob_ValidPath.l0])
  |succ k1 =>
    have H := HA.out
    clear HA
    simp only [glob_ValidPath.l0] at H
    by_cases c6 : x12_1 < (t335.length : Int)
    ·rw [if_pos c6] at H
     have c6b0 := decide_eq_true c6
     clear c6
     obtain ⟨c7,H⟩ := iS H
     have c7b0 := decide_eq_true c7
     clear c7
     obtain ⟨c8,H⟩ := iS H
     have c8b0 := decide_eq_true c8
     clear c8
     have HC9 := aK H
     clear H
     have p338 : 0 ≤ (x12_1 : Int) := of_decide_eq_true (by assumption)
     have q338 : x12_1 < (t335.length : Int) := of_decide_eq_true (by assumption)
     obtain ⟨ad338,e338,hx338_0⟩ := Kd.at_string (Kd.R_reads' HO_10.out).2.2 x12_1 p338 q338
     cases e338
     replace p338 := eq_true p338
     replace q338 := eq_true q338
     go_upto_region 6 with (fail)
     go_cut [31] (fun v31 wc => ∃ (kq : Nat) (x31_8 : Bool),v31 = .bool x31_8 ∧ Aside0 (glob_ValidPath.j1 kq (rdOf ByteArray.empty t335 x12_1) t335 (t335.length : Int) x12_1 x31_8 = some r) ∧ Aside0 (kq ≤ k1) ∧ Aside0 (Kd.R Kd.string 9 wc w.heap.size (fun _ => True) (.slice (some ad338) t335.length co5) t335) ∧ Aside0 (Below w.heap.size w wc))
     case first =>
      have H := HC9.out
      clear HC9
      by_cases c10 : (rdOf ByteArray.empty t335 x12_1).toList = ([46] : List UInt8)
      ·rw [if_pos c10] at H
       have c10b0 := beq_iff_eq.mpr c10
       have c10b1 := bne_eq_false_iff_eq.mpr c10
       clear c10
       (first|rw [c10b0]|(simp only [i64_w,i32_w];rw [c10b0])|rw [c10b1]|skip)
       have H' := aK H
       clear H
       go_wp2
       go_meet
       case rel => exact ⟨_,(true),(by first|rfl|(simp;done)|(simp [*];done)),H',⟨by have := HK1.out;first|omega|exact Nat.le_refl _⟩,⟨rM HO_10.out⟩,⟨bM HB.out⟩⟩
      ·rw [if_neg c10] at H
       have c10b0 := beq_eq_false_iff_ne.mpr c10
       have c10b1 := bne_iff_ne.mpr c10
       (first|rw [c10b0]|(simp only [i64_w,i32_w];rw [c10b0])|rw [c10b1]|skip)
       by_cases c11 : (rdOf ByteArray.empty t335 x12_1).toList = ([46,46] : List UInt8)
       ·rw [if_pos c11] at H
        have c11b0 := beq_iff_eq.mpr c11
        have c11b1 := bne_eq_false_iff_eq.mpr c11
        clear c11
        have H' := aK H
        clear H
        go_wp2
        go_meet
        case rel => exact ⟨_,(true),(by first|rfl|(simp;done)|(simp [*];done)),H',⟨by have := HK1.out;first|omega|exact Nat.le_refl _⟩,⟨rM HO_10.out⟩,⟨bM HB.out⟩⟩
       ·rw [if_neg c11] at H
        have c11b0 := beq_eq_false_iff_ne.mpr c11
        have c11b1 := bne_iff_ne.mpr c11
        by_cases c12 : ((rdOf ByteArray.empty t335 x12_1).size : Int) < 1
        ·rw [if_pos c12] at H
         have c12b0 := decide_eq_true c12
         have c12b1 : decide ((rdOf ByteArray.empty t335 x12_1).size < 1) = true := decide_eq_true (by omega)
         clear c12
         have H' := aK H
         clear H
         go_wp2
         go_meet
         case rel => exact ⟨_,(true),(by first|rfl|(simp;done)|(simp [*];done)),H',⟨by have := HK1.out;first|omega|exact Nat.le_refl _⟩,⟨rM HO_10.out⟩,⟨bM HB.out⟩⟩
        ·rw [if_neg c12] at H
         have c12b0 := decide_eq_false c12
         have c12b1 : decide ((rdOf ByteArray.empty t335 x12_1).size < 1) = false := decide_eq_false (by omega)
         clear c12
         have H' := aK H
         clear H
         go_wp2
         go_meet
         case rel => exact ⟨_,(decide (((rdOf ByteArray.empty t335 x12_1).size : Int) > 24)),(by first|rfl|(simp;done)|(simp [*];done)),H',⟨by have := HK1.out;first|omega|exact Nat.le_refl _⟩,⟨rM HO_10.out⟩,⟨bM HB.out⟩⟩
     case rest =>
      clear HC9
      try clear p2
      try clear p3
      try clear q3
      try clear hx3
      try clear c6
      try clear c6b0
      try clear c7
      try clear c7b0
      try clear c8
      try clear c8b0
      try clear hx338_0
      try clear p2
      try clear p338
      try clear q338
      obtain ⟨kq,x31_8,rfl,HA,HJ8,HO_10,HB⟩ := hcut
      cases kq with
     |zero => exact absurd HA.out (by simp [glob_ValidPath.j1])
     |succ kj8 =>
       have H := HA.out
       clear HA
       simp only [glob_ValidPath.j1] at H
       by_cases c13 : x31_8 = true
       ·subst c13
        rw [if_pos rfl] at H
        obtain rfl := Option.some.inj H
        go_wp2
        first|go_ret|(rw [Exit.noGoto_ret];go_ret)
        exact ⟨by first|rfl|(simp [errW_none,errW_some] <;> rfl)|(simp [*,errW_none,errW_some] <;> rfl),bM HB.out⟩
       ·replace c13 := Bool.eq_false_iff.mpr c13
        subst c13
        rw [if_neg (show ¬ (false = true) by decide)] at H
        have H' := aK H
        clear H
        go_wp2
        go_loopg [5] kj8 (fun kq v5 w' => ∃ (x5_3 : Int),v5 = .int .i64 x5_3 ∧ Aside0 (glob_ValidPath.l1 kq (rdOf ByteArray.empty t335 x12_1) x5_3 t335 (t335.length : Int) x12_1 = some r) ∧ Aside0 (kq ≤ kj8) ∧ Aside0 (Kd.R Kd.string 9 w' w.heap.size (fun _ => True) (.slice (some ad338) t335.length co5) t335) ∧ Aside0 (Below w.heap.size w w'))
        case atStart => exact ⟨(0),(by first|rfl|(simp;done)|(simp [*];done)),H',⟨Nat.le_refl _⟩,⟨rM HO_10.out⟩,⟨bM HB.out⟩⟩
        case round =>
         clear H'
         try clear p2
         try clear p3
         try clear q3
         try clear hx3
         try clear c13
         try clear hx338_0
         try clear p2
         try clear p3
         try clear p338
         try clear q3
         try clear q338
         obtain ⟨x5_3,rfl,HA,HK3,HO_10,HB⟩ := hrel
         cases gk with
        |zero => exact absurd HA.out (by simp [glob_ValidPath.l1])
        |succ k3 =>
          have H := HA.out
          clear HA
          simp only [glob_ValidPath.l1] at H
          by_cases c14 : x5_3 = ((rdOf ByteArray.empty t335 x12_1).size : Int)
          ·rw [if_pos c14] at H
           have c14b0 := beq_iff_eq.mpr c14
           have c14b1 := bne_eq_false_iff_eq.mpr c14
           clear c14
           have H' := aK H
           clear H
           go_wp2
           go_roundg k3
           case measure => have := HK1.out;have := HJ8.out;have := HK3.out;omega
           case rel => exact ⟨(wrap64 (x12_1 + 1)),(by first|rfl|(simp;done)|(simp [*];done)),H',⟨by have := HK1.out;have := HJ8.out;have := HK3.out;omega⟩,⟨rM HO_10.out⟩,⟨bM HB.out⟩⟩
          ·rw [if_neg c14] at H
           have c14b0 := beq_eq_false_iff_ne.mpr c14
           have c14b1 := bne_iff_ne.mpr c14
           obtain ⟨c15,H⟩ := iS H
           have c15b0 := decide_eq_true c15
           clear c15
           obtain ⟨c16,H⟩ := iS H
           have c16b0 := decide_eq_true c16
           clear c16
           replace H := Option.bind_eq_some_iff.mp H
           obtain ⟨t339,A180,H⟩ := H
           have A18 := aK A180
           clear A180
           by_cases c19 : t339 = true
           ·subst c19
            rw [if_pos rfl] at H
            have H' := aK H
            clear H
            have p17 : 0 ≤ (x5_3 : Int) := of_decide_eq_true (by assumption)
            have q17 : x5_3 < ((rdOf ByteArray.empty t335 x12_1).size : Int) := of_decide_eq_true (by assumption)
            have hx17 := bt_at (rdOf ByteArray.empty t335 x12_1) x5_3
            replace p17 := eq_true p17
            replace q17 := eq_true q17
            go_wp2_with (first|((with_reducible refine gate_callee (f := 71) rfl ?_);refine goesL_ (some 41) rfl rfl Tryd.func71 (by kernel_rfl) rfl #[.int .u8 (bt (rdOf ByteArray.empty t335 x12_1) x5_3)] rfl (by (try simp only [List.map_toArray,List.map_cons,List.map_nil]);first|done|rfl|(simp only [List.length_drop,List.length_take];rfl)) ?_;(with_reducible refine (glob_letter.calls (bt (rdOf ByteArray.empty t335 x12_1) x5_3) true _ A18.out).mono ?_);rintro e w' ⟨rfl,⟨nd,rfl⟩⟩;refine ⟨_,rfl,?_⟩))
            go_roundg k3
            case measure => have := HK1.out;have := HJ8.out;have := HK3.out;omega
            case rel => exact ⟨(wrap64 (x5_3 + 1)),(by first|rfl|(simp;done)|(simp [*];done)),H',⟨by have := HK1.out;have := HJ8.out;have := HK3.out;omega⟩,⟨rM HO_10.out⟩,⟨bM HB.out⟩⟩
           ·replace c19 := Bool.eq_false_iff.mpr c19
            subst c19
            rw [if_neg (show ¬ (false = true) by decide)] at H
            obtain rfl := Option.some.inj H
            have p17 : 0 ≤ (x5_3 : Int) := of_decide_eq_true (by assumption)
            have q17 : x5_3 < ((rdOf ByteArray.empty t335 x12_1).size : Int) := of_decide_eq_true (by assumption)
            have hx17 := bt_at (rdOf ByteArray.empty t335 x12_1) x5_3
            replace p17 := eq_true p17
            replace q17 := eq_true q17
            go_wp2_with (first|((with_reducible refine gate_callee (f := 71) rfl ?_);refine goesL_ (some 41) rfl rfl Tryd.func71 (by kernel_rfl) rfl #[.int .u8 (bt (rdOf ByteArray.empty t335 x12_1) x5_3)] rfl (by (try simp only [List.map_toArray,List.map_cons,List.map_nil]);first|done|rfl|(simp only [List.length_drop,List.length_take];rfl)) ?_;(with_reducible refine (glob_letter.calls (bt (rdOf ByteArray.empty t335 x12_1) x5_3) false _ A18.out).mono ?_);rintro e w' ⟨rfl,⟨nd,rfl⟩⟩;refine ⟨_,rfl,?_⟩))
            first|go_ret|(rw [Exit.noGoto_ret];go_ret)
            exact ⟨by first|rfl|(simp [errW_none,errW_some] <;> rfl)|(simp [*,errW_none,errW_some] <;> rfl),bM HB.out⟩
    ·rw [if_neg c6] at H
     have c6b0 := decide_eq_false c6
     clear c6
     obtain rfl := Option.some.inj H
     go_wp2
     first|go_ret|(rw [Exit.noGoto_ret];go_ret)
     exact ⟨by first|rfl|(simp [errW_none,errW_some] <;> rfl)|(simp [*,errW_none,errW_some] <;> rfl),bM HB.out⟩

/-! ### manifest_branches: function 53 -/
def manifest_branches.l0 : Nat → List ByteArray → List ByteArray → Int → Int → Option (Bool)
|0,_,_,_,_ => none
|k + 1,x0,x5,x6,x7 => if x7 < x6 then (if 0 ≤ x7 then (if x7 < (x5.length : Int) then ((strings_Contains.f (rdOf ByteArray.empty x5 x7) (⟨#[47]⟩ : ByteArray)).bind fun t341 => (if t341 = true then (some false) else ((glob_ValidPath.f k (rdOf ByteArray.empty x5 x7)).bind fun t342 => (if t342 = true then (if x7 > 0 then (if 0 ≤ (wrap64 (x7 - 1)) then (if (wrap64 (x7 - 1)) < (x0.length : Int) then (if ((Op.bytesLess ((rdOf ByteArray.empty x0 (wrap64 (x7 - 1))).toList) ((rdOf ByteArray.empty x5 x7).toList)) = true) then (manifest_branches.l0 k x0 x5 x6 (wrap64 (x7 + 1))) else (some false)) else (none)) else (none)) else (manifest_branches.l0 k x0 x5 x6 (wrap64 (x7 + 1)))) else (some false))))) else (none)) else (none)) else (some (decide ((x0.length : Int) > 0)))
def manifest_branches.f (k : Nat) (l0 : List ByteArray) : Option (Bool) := manifest_branches.l0 k l0 l0 (l0.length : Int) 0
theorem manifest_branches.mono_l : ∀ k, (∀ y0 y1 y2 y3, LeO (manifest_branches.l0 k y0 y1 y2 y3) (manifest_branches.l0 (k + 1) y0 y1 y2 y3))
|0 => fun _ _ _ _ r h => by simp [manifest_branches.l0] at h
|k + 1 => by
  have ih0 := manifest_branches.mono_l k
  ·intro y0 y1 y2 y3
   unfold manifest_branches.l0
   repeat' (with_reducible first|exact ih0 _ _ _ _|exact glob_ValidPath.mono _ _|exact LeO.refl _|exact LeO.none _|refine LeO.ite ?_ ?_|refine LeO.bind ?_ (fun _ => ?_))
theorem manifest_branches.mono : ∀ a0 k, LeO (manifest_branches.f k a0) (manifest_branches.f (k + 1) a0) := by
 intro a0 k
 have ih0 := manifest_branches.mono_l k
 unfold manifest_branches.f
 repeat' first
  |(with_reducible exact ih0 _ _ _ _)
  |(with_reducible exact glob_ValidPath.mono _ _)
  |(with_reducible exact LeO.refl _)
  |(with_reducible exact LeO.none _)
  |(with_reducible refine LeO.ite ?_ ?_)
  |(with_reducible refine LeO.bind ?_ (fun _ => ?_))
  |exact ih0 _ _ _ _
  |exact glob_ValidPath.mono _ _
  |exact LeO.none _
  |refine LeO.ite ?_ ?_
  |refine LeO.bind ?_ (fun _ => ?_)
set_option maxHeartbeats 4000000 in
set_option maxRecDepth 100000 in
theorem manifest_branches.calls (k : Nat) (A0 : Option Addr) (c0 : Nat) (l0 : List ByteArray) (r : Bool) (w : World) (hr0 : Kd.C Kd.string w A0 l0.length l0) (hc0 : l0.length ≤ c0) (h : manifest_branches.f k l0 = some r) :
  Calls Tryd.prog 53 #[.slice A0 l0.length c0] w fun e w' => e = .returned (.bool r) ∧ Below w.heap.size w w' := by
 have HR0 := aK hr0
 have HC0 := aK hc0
 clear hr0 hc0
 have HB := aK (Below.refl w.heap.size w)
 have H : (manifest_branches.l0 k l0 l0 (l0.length : Int) 0) = some r := h
 clear h
 have H' := aK H
 clear H
 go_enter Tryd.func53,Tryd.ntmps53
 go_wp2
 go_loopg [7] k (fun kq v7 w' => ∃ (x7_1 : Int),v7 = .int .i64 x7_1 ∧ Aside0 (manifest_branches.l0 kq l0 l0 (l0.length : Int) x7_1 = some r) ∧ Aside0 (kq ≤ k) ∧ Aside0 (Below w.heap.size w w'))
 case atStart => exact ⟨(0),(by first|rfl|(simp;done)|(simp [*];done)),H',⟨Nat.le_refl _⟩,⟨bM HB.out⟩⟩
 case round =>
  clear H'
  obtain ⟨x7_1,rfl,HA,HK1,HB⟩ := hrel
  cases gk with
 |zero => exact absurd HA.out (by simp [manifest_branches.l0])
 |succ k1 =>
   have H := HA.out
   clear HA
   simp only [manifest_branches.l0] at H
   by_cases c2 : x7_1 < (l0.length : Int)
   ·rw [if_pos c2] at H
    have c2b0 := decide_eq_true c2
    clear c2
    obtain ⟨c3,H⟩ := iS H
    have c3b0 := decide_eq_true c3
    clear c3
    obtain ⟨c4,H⟩ := iS H
    have c4b0 := decide_eq_true c4
    clear c4
    replace H := Option.bind_eq_some_iff.mp H
    obtain ⟨t341,A50,H⟩ := H
    have A5 := aK A50
    clear A50
    by_cases c6 : t341 = true
    ·subst c6
     rw [if_pos rfl] at H
     obtain rfl := Option.some.inj H
     have p340 : 0 ≤ (x7_1 : Int) := of_decide_eq_true (by assumption)
     have q340 : x7_1 < (l0.length : Int) := of_decide_eq_true (by assumption)
     obtain ⟨ad340,e340,hx340_0⟩ := Kd.at_string HR0.out x7_1 p340 q340
     cases e340
     replace hx340_0 := xM HB hx340_0
     replace p340 := eq_true p340
     replace q340 := eq_true q340
     go_wp2_with (first|((with_reducible refine gate_callee (f := 60) rfl ?_);refine goesL_ (some 13) rfl rfl Tryd.func60 (by kernel_rfl) rfl #[.string (rdOf ByteArray.empty l0 x7_1),.string (⟨#[47]⟩ : ByteArray)] rfl (by (try simp only [List.map_toArray,List.map_cons,List.map_nil]);first|done|rfl|(simp only [List.length_drop,List.length_take];rfl)) ?_;(with_reducible refine (strings_Contains.calls (rdOf ByteArray.empty l0 x7_1) (⟨#[47]⟩ : ByteArray) true _ A5.out).mono ?_);rintro e w' ⟨rfl,⟨nd,rfl⟩⟩;refine ⟨_,rfl,?_⟩))
     go_ret
     exact ⟨by first|rfl|(simp [errW_none,errW_some] <;> rfl)|(simp [*,errW_none,errW_some] <;> rfl),bM HB.out⟩
    ·replace c6 := Bool.eq_false_iff.mpr c6
     subst c6
     rw [if_neg (show ¬ (false = true) by decide)] at H
     replace H := Option.bind_eq_some_iff.mp H
     obtain ⟨t342,A70,H⟩ := H
     have A7 := aK A70
     clear A70
     by_cases c8 : t342 = true
     ·subst c8
      rw [if_pos rfl] at H
      by_cases c9 : x7_1 > 0
      ·rw [if_pos c9] at H
       have c9b0 := decide_eq_true c9
       clear c9
       obtain ⟨ji10,hji10⟩ : ∃ j_ : Int,(wrap64 (x7_1 - 1)) = j_ := ⟨_,rfl⟩
       replace H : (if 0 ≤ (ji10) then (if (ji10) < (l0.length : Int) then (if ((Op.bytesLess ((rdOf ByteArray.empty l0 (ji10)).toList) ((rdOf ByteArray.empty l0 x7_1).toList)) = true) then (manifest_branches.l0 k1 l0 l0 (l0.length : Int) (wrap64 (x7_1 + 1))) else (some false)) else (none)) else (none)) = some r := by first|(rw [hji10] at H;exact H)|(simp only [hji10] at H ⊢;exact H)
       (try rw [hji10] at A5)
       (try rw [hji10] at A7)
       have hji10w : (IntKind.i64.wrap (x7_1 - 1)) = ji10 := (i64_w _).trans hji10
       obtain ⟨c11,H⟩ := iS H
       have c11b0 := decide_eq_true c11
       clear c11
       obtain ⟨c12,H⟩ := iS H
       have c12b0 := decide_eq_true c12
       clear c12
       by_cases c13 : ((Op.bytesLess ((rdOf ByteArray.empty l0 (ji10)).toList) ((rdOf ByteArray.empty l0 x7_1).toList)) = true)
       ·rw [if_pos c13] at H
        have c13b0 : (Op.bytesLess ((rdOf ByteArray.empty l0 (ji10)).toList) ((rdOf ByteArray.empty l0 x7_1).toList)) = true := c13
        clear c13
        have H' := aK H
        clear H
        have p340 : 0 ≤ (x7_1 : Int) := of_decide_eq_true (by assumption)
        have q340 : x7_1 < (l0.length : Int) := of_decide_eq_true (by assumption)
        obtain ⟨ad340,e340,hx340_0⟩ := Kd.at_string HR0.out x7_1 p340 q340
        cases e340
        replace hx340_0 := xM HB hx340_0
        replace p340 := eq_true p340
        replace q340 := eq_true q340
        go_wp2_with (first|((with_reducible refine gate_callee (f := 60) rfl ?_);refine goesL_ (some 13) rfl rfl Tryd.func60 (by kernel_rfl) rfl #[.string (rdOf ByteArray.empty l0 x7_1),.string (⟨#[47]⟩ : ByteArray)] rfl (by (try simp only [List.map_toArray,List.map_cons,List.map_nil]);first|done|rfl|(simp only [List.length_drop,List.length_take];rfl)) ?_;(with_reducible refine (strings_Contains.calls (rdOf ByteArray.empty l0 x7_1) (⟨#[47]⟩ : ByteArray) false _ A5.out).mono ?_);rintro e w' ⟨rfl,⟨nd,rfl⟩⟩;refine ⟨_,rfl,?_⟩)|(go_at_call 61;(with_reducible refine (glob_ValidPath.calls k1 (rdOf ByteArray.empty l0 x7_1) true _ A7.out).mono ?_);rintro e w14 ⟨rfl,hb⟩;replace HB := aK (below_step (bM HB.out) hb);(try clear hb);have p343 : 0 ≤ ((ji10) : Int) := of_decide_eq_true (by assumption);have q343 : (ji10) < (l0.length : Int) := of_decide_eq_true (by assumption);obtain ⟨ad343,e343,hx343_0⟩ := Kd.at_string HR0.out (ji10) p343 q343;obtain rfl : ad340 = ad343 := (by injection e343);replace hx343_0 := xM HB hx343_0;replace p343 := eq_true p343;replace q343 := eq_true q343))
        go_roundg k1
        case measure => have := HK1.out;omega
        case rel => exact ⟨(wrap64 (x7_1 + 1)),(by first|rfl|(simp;done)|(simp [*];done)),H',⟨by have := HK1.out;omega⟩,⟨bM HB.out⟩⟩
       ·rw [if_neg c13] at H
        have c13b0 : (Op.bytesLess ((rdOf ByteArray.empty l0 (ji10)).toList) ((rdOf ByteArray.empty l0 x7_1).toList)) = false := by simpa using c13
        clear c13
        obtain rfl := Option.some.inj H
        have p340 : 0 ≤ (x7_1 : Int) := of_decide_eq_true (by assumption)
        have q340 : x7_1 < (l0.length : Int) := of_decide_eq_true (by assumption)
        obtain ⟨ad340,e340,hx340_0⟩ := Kd.at_string HR0.out x7_1 p340 q340
        cases e340
        replace hx340_0 := xM HB hx340_0
        replace p340 := eq_true p340
        replace q340 := eq_true q340
        go_wp2_with (first|((with_reducible refine gate_callee (f := 60) rfl ?_);refine goesL_ (some 13) rfl rfl Tryd.func60 (by kernel_rfl) rfl #[.string (rdOf ByteArray.empty l0 x7_1),.string (⟨#[47]⟩ : ByteArray)] rfl (by (try simp only [List.map_toArray,List.map_cons,List.map_nil]);first|done|rfl|(simp only [List.length_drop,List.length_take];rfl)) ?_;(with_reducible refine (strings_Contains.calls (rdOf ByteArray.empty l0 x7_1) (⟨#[47]⟩ : ByteArray) false _ A5.out).mono ?_);rintro e w' ⟨rfl,⟨nd,rfl⟩⟩;refine ⟨_,rfl,?_⟩)|(go_at_call 61;(with_reducible refine (glob_ValidPath.calls k1 (rdOf ByteArray.empty l0 x7_1) true _ A7.out).mono ?_);rintro e w15 ⟨rfl,hb⟩;replace HB := aK (below_step (bM HB.out) hb);(try clear hb);have p343 : 0 ≤ ((ji10) : Int) := of_decide_eq_true (by assumption);have q343 : (ji10) < (l0.length : Int) := of_decide_eq_true (by assumption);obtain ⟨ad343,e343,hx343_0⟩ := Kd.at_string HR0.out (ji10) p343 q343;obtain rfl : ad340 = ad343 := (by injection e343);replace hx343_0 := xM HB hx343_0;replace p343 := eq_true p343;replace q343 := eq_true q343))
        go_ret
        exact ⟨by first|rfl|(simp [errW_none,errW_some] <;> rfl)|(simp only [← hji10];first|rfl|(simp [errW_none,errW_some] <;> rfl))|(simp [*,errW_none,errW_some] <;> rfl),bM HB.out⟩
      ·rw [if_neg c9] at H
       have c9b0 := decide_eq_false c9
       clear c9
       have H' := aK H
       clear H
       have p340 : 0 ≤ (x7_1 : Int) := of_decide_eq_true (by assumption)
       have q340 : x7_1 < (l0.length : Int) := of_decide_eq_true (by assumption)
       obtain ⟨ad340,e340,hx340_0⟩ := Kd.at_string HR0.out x7_1 p340 q340
       cases e340
       replace hx340_0 := xM HB hx340_0
       replace p340 := eq_true p340
       replace q340 := eq_true q340
       go_wp2_with (first|((with_reducible refine gate_callee (f := 60) rfl ?_);refine goesL_ (some 13) rfl rfl Tryd.func60 (by kernel_rfl) rfl #[.string (rdOf ByteArray.empty l0 x7_1),.string (⟨#[47]⟩ : ByteArray)] rfl (by (try simp only [List.map_toArray,List.map_cons,List.map_nil]);first|done|rfl|(simp only [List.length_drop,List.length_take];rfl)) ?_;(with_reducible refine (strings_Contains.calls (rdOf ByteArray.empty l0 x7_1) (⟨#[47]⟩ : ByteArray) false _ A5.out).mono ?_);rintro e w' ⟨rfl,⟨nd,rfl⟩⟩;refine ⟨_,rfl,?_⟩)|(go_at_call 61;(with_reducible refine (glob_ValidPath.calls k1 (rdOf ByteArray.empty l0 x7_1) true _ A7.out).mono ?_);rintro e w16 ⟨rfl,hb⟩;replace HB := aK (below_step (bM HB.out) hb);(try clear hb)))
       go_roundg k1
       case measure => have := HK1.out;omega
       case rel => exact ⟨(wrap64 (x7_1 + 1)),(by first|rfl|(simp;done)|(simp [*];done)),H',⟨by have := HK1.out;omega⟩,⟨bM HB.out⟩⟩
     ·replace c8 := Bool.eq_false_iff.mpr c8
      subst c8
      rw [if_neg (show ¬ (false = true) by decide)] at H
      obtain rfl := Option.some.inj H
      have p340 : 0 ≤ (x7_1 : Int) := of_decide_eq_true (by assumption)
      have q340 : x7_1 < (l0.length : Int) := of_decide_eq_true (by assumption)
      obtain ⟨ad340,e340,hx340_0⟩ := Kd.at_string HR0.out x7_1 p340 q340
      cases e340
      replace hx340_0 := xM HB hx340_0
      replace p340 := eq_true p340
      replace q340 := eq_true q340
      go_wp2_with (first|((with_reducible refine gate_callee (f := 60) rfl ?_);refine goesL_ (some 13) rfl rfl Tryd.func60 (by kernel_rfl) rfl #[.string (rdOf ByteArray.empty l0 x7_1),.string (⟨#[47]⟩ : ByteArray)] rfl (by (try simp only [List.map_toArray,List.map_cons,List.map_nil]);first|done|rfl|(simp only [List.length_drop,List.length_take];rfl)) ?_;(with_reducible refine (strings_Contains.calls (rdOf ByteArray.empty l0 x7_1) (⟨#[47]⟩ : ByteArray) false _ A5.out).mono ?_);rintro e w' ⟨rfl,⟨nd,rfl⟩⟩;refine ⟨_,rfl,?_⟩)|(go_at_call 61;(with_reducible refine (glob_ValidPath.calls k1 (rdOf ByteArray.empty l0 x7_1) false _ A7.out).mono ?_);rintro e w17 ⟨rfl,hb⟩;replace HB := aK (below_step (bM HB.out) hb);(try clear hb)))
      go_ret
      exact ⟨by first|rfl|(simp [errW_none,errW_some] <;> rfl)|(simp [*,errW_none,errW_some] <;> rfl),bM HB.out⟩
   ·rw [if_neg c2] at H
    have c2b0 := decide_eq_false c2
    clear c2
    obtain rfl := Option.some.inj H
    go_wp2
    go_ret
    exact ⟨by first|rfl|(simp [errW_none,errW_some] <;> rfl)|(simp [*,errW_none,errW_some] <;> rfl),bM HB.out⟩

end Go.Proofs.YtmgliocboeifdaaDoor.T
