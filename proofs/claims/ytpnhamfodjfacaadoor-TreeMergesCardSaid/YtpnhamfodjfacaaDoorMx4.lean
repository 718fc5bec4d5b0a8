-- Written by hp.py, a program of this session, over the kit's print of the translation. Not trusted: Lean checks it.
import Derived.Test.YtpnhamfodjfacaaDoorMx0
import Derived.Test.YtpnhamfodjfacaaDoorMx3
namespace Go.Proofs.YtpnhamfodjfacaaDoor.M
open Go.RowKit Go.Proofs.YtpnhamfodjfacaaDoorW.PrintWords Go.Proofs.YtpnhamfodjfacaaDoorW.PrintLast Go.Proofs.YtpnhamfodjfacaaDoorW.PrintMore
attribute [local go_sem] max2_int min2_int max_two min_two max_three min_three max_four min_four   -- for this text's walks alone
set_option linter.unusedVariables false
set_option linter.unusedSimpArgs false

/-! ### glob_ValidPath: function 31 -/
mutual
def glob_ValidPath.l0 : Nat → List ByteArray → Int → Int → Option (Bool)
|0,_,_,_ => none
|k + 1,x10,x11,x12 => if x12 < x11 then (if 0 ≤ x12 then (if x12 < (x10.length : Int) then (if (rdOf ByteArray.empty x10 x12).toList = ([46] : List UInt8) then (glob_ValidPath.j1 k (rdOf ByteArray.empty x10 x12) x10 x11 x12 true) else (if (rdOf ByteArray.empty x10 x12).toList = ([46,46] : List UInt8) then (glob_ValidPath.j1 k (rdOf ByteArray.empty x10 x12) x10 x11 x12 true) else (if ((rdOf ByteArray.empty x10 x12).size : Int) < 1 then (glob_ValidPath.j1 k (rdOf ByteArray.empty x10 x12) x10 x11 x12 true) else (glob_ValidPath.j1 k (rdOf ByteArray.empty x10 x12) x10 x11 x12 (decide (((rdOf ByteArray.empty x10 x12).size : Int) > 24)))))) else (none)) else (none)) else (some true)
def glob_ValidPath.j1 : Nat → ByteArray → List ByteArray → Int → Int → Bool → Option (Bool)
|0,_,_,_,_,_ => none
|k + 1,x4,x10,x11,x12,x31 => if x31 = true then (some false) else (glob_ValidPath.l1 k x4 0 x10 x11 x12)
def glob_ValidPath.l1 : Nat → ByteArray → Int → List ByteArray → Int → Int → Option (Bool)
|0,_,_,_,_,_ => none
|k + 1,x4,x5,x10,x11,x12 => if x5 = (x4.size : Int) then (glob_ValidPath.l0 k x10 x11 (wrap64 (x12 + 1))) else (if 0 ≤ x5 then (if x5 < (x4.size : Int) then ((glob_letter.f (bt x4 x5)).bind fun t125 => (if t125 = true then (glob_ValidPath.l1 k x4 (wrap64 (x5 + 1)) x10 x11 x12) else (some false))) else (none)) else (none))
end
def glob_ValidPath.f (k : Nat) (a0 : ByteArray) : Option (Bool) := if (a0.size : Int) > 60 then (some false) else ((strings_Split.f k a0 (⟨#[47]⟩ : ByteArray)).bind fun t121 => (glob_ValidPath.l0 k t121 (t121.length : Int) 0))
theorem glob_ValidPath.mono_l : ∀ k, (∀ y0 y1 y2, LeO (glob_ValidPath.l0 k y0 y1 y2) (glob_ValidPath.l0 (k + 1) y0 y1 y2)) ∧ (∀ y0 y1 y2 y3 y4, LeO (glob_ValidPath.j1 k y0 y1 y2 y3 y4) (glob_ValidPath.j1 (k + 1) y0 y1 y2 y3 y4)) ∧ (∀ y0 y1 y2 y3 y4, LeO (glob_ValidPath.l1 k y0 y1 y2 y3 y4) (glob_ValidPath.l1 (k + 1) y0 y1 y2 y3 y4))
|0 => ⟨fun _ _ _ r h => by simp [glob_ValidPath.l0] at h,fun _ _ _ _ _ r h => by simp [glob_ValidPath.j1] at h,fun _ _ _ _ _ r h => by simp [glob_ValidPath.l1] at h⟩
|k + 1 => by
  obtain ⟨ih0,ih1,ih2⟩ := glob_ValidPath.mono_l k
  refine ⟨?_,?_,?_⟩
  ·intro y0 y1 y2
   unfold glob_ValidPath.l0
   repeat' first
  |(with_reducible exact ih0 _ _ _)
  |(with_reducible exact ih1 _ _ _ _ _)
  |(with_reducible exact ih2 _ _ _ _ _)
  |(with_reducible exact strings_Split.mono _ _ _)
  |(with_reducible exact LeO.refl _)
  |(with_reducible exact LeO.none _)
  |(with_reducible refine LeO.ite ?_ ?_)
  |(with_reducible refine LeO.bind ?_ (fun _ => ?_))
  |exact ih0 _ _ _
  |exact ih1 _ _ _ _ _
  |exact ih2 _ _ _ _ _
  |exact strings_Split.mono _ _ _
  |exact LeO.none _
  |refine LeO.ite ?_ ?_
  |refine LeO.bind ?_ (fun _ => ?_)
  ·intro y0 y1 y2 y3 y4
   unfold glob_ValidPath.j1
   repeat' first
  |(with_reducible exact ih0 _ _ _)
  |(with_reducible exact ih1 _ _ _ _ _)
  |(with_reducible exact ih2 _ _ _ _ _)
  |(with_reducible exact strings_Split.mono _ _ _)
  |(with_reducible exact LeO.refl _)
  |(with_reducible exact LeO.none _)
  |(with_reducible refine LeO.ite ?_ ?_)
  |(with_reducible refine LeO.bind ?_ (fun _ => ?_))
  |exact ih0 _ _ _
  |exact ih1 _ _ _ _ _
  |exact ih2 _ _ _ _ _
  |exact strings_Split.mono _ _ _
  |exact LeO.none _
  |refine LeO.ite ?_ ?_
  |refine LeO.bind ?_ (fun _ => ?_)
  ·intro y0 y1 y2 y3 y4
   unfold glob_ValidPath.l1
   repeat' first
  |(with_reducible exact ih0 _ _ _)
  |(with_reducible exact ih1 _ _ _ _ _)
  |(with_reducible exact ih2 _ _ _ _ _)
  |(with_reducible exact strings_Split.mono _ _ _)
  |(with_reducible exact LeO.refl _)
  |(with_reducible exact LeO.none _)
  |(with_reducible refine LeO.ite ?_ ?_)
  |(with_reducible refine LeO.bind ?_ (fun _ => ?_))
  |exact ih0 _ _ _
  |exact ih1 _ _ _ _ _
  |exact ih2 _ _ _ _ _
  |exact strings_Split.mono _ _ _
  |exact LeO.none _
  |refine LeO.ite ?_ ?_
  |refine LeO.bind ?_ (fun _ => ?_)
theorem glob_ValidPath.mono : ∀ a0 k, LeO (glob_ValidPath.f k a0) (glob_ValidPath.f (k + 1) a0) := by
 intro a0 k
 obtain ⟨ih0,ih1,ih2⟩ := glob_ValidPath.mono_l k
 unfold glob_ValidPath.f
 repeat' first
  |(with_reducible exact ih0 _ _ _)
  |(with_reducible exact ih1 _ _ _ _ _)
  |(with_reducible exact ih2 _ _ _ _ _)
  |(with_reducible exact strings_Split.mono _ _ _)
  |(with_reducible exact LeO.refl _)
  |(with_reducible exact LeO.none _)
  |(with_reducible refine LeO.ite ?_ ?_)
  |(with_reducible refine LeO.bind ?_ (fun _ => ?_))
  |exact ih0 _ _ _
  |exact ih1 _ _ _ _ _
  |exact ih2 _ _ _ _ _
  |exact strings_Split.mono _ _ _
  |exact LeO.none _
  |refine LeO.ite ?_ ?_
  |refine LeO.bind ?_ (fun _ => ?_)
set_option maxHeartbeats 4000000 in
set_option maxRecDepth 100000 in
theorem glob_ValidPath.calls (k : Nat) (a0 : ByteArray) (r : Bool) (w : World) (h : glob_ValidPath.f k a0 = some r) :
  Calls Tryd.prog 31 #[.string a0] w fun e w' => e = .returned (.bool r) ∧ Below w.heap.size w w' := by
 have HB := Aside0.mk (Below.refl w.heap.size w)
 have H : (if (a0.size : Int) > 60 then (some false) else ((strings_Split.f k a0 (⟨#[47]⟩ : ByteArray)).bind fun t121 => (glob_ValidPath.l0 k t121 (t121.length : Int) 0))) = some r := h
 clear h
 by_cases c2 : (a0.size : Int) > 60
 ·rw [if_pos c2] at H
  have c2b0 : decide (60 < (a0.size : Int)) = true := decide_eq_true c2
  have c2b1 : decide (60 < a0.size) = true := decide_eq_true (by omega)
  clear c2
  obtain rfl := Option.some.inj H
  go_enter Tryd.func31,Tryd.ntmps31
  go_wp2
  go_step3
  go_wp2
  (try (go_step3;go_wp2))
  first|go_ret|(rw [Exit.noGoto_ret];go_ret)
  exact ⟨by first|rfl|(simp [errW_none,errW_some] <;> rfl)|(simp [*,errW_none,errW_some] <;> rfl),bM HB.out⟩
 ·rw [if_neg c2] at H
  have c2b0 : decide (60 < (a0.size : Int)) = false := decide_eq_false c2
  have c2b1 : decide (60 < a0.size) = false := decide_eq_false (by omega)
  clear c2
  replace H := Option.bind_eq_some_iff.mp H
  obtain ⟨t121,A30,H⟩ := H
  replace H : (glob_ValidPath.l0 k t121 (t121.length : Int) 0) = some r := H
  have A3 := Aside0.mk A30
  clear A30
  have H' := Aside0.mk H
  clear H
  go_enter Tryd.func31,Tryd.ntmps31
  go_wp2
  go_step3
  go_wp2_with (first|((with_reducible refine gate_callee (f := 43) rfl ?_);refine goesL_ (some 10) rfl rfl Tryd.func43 (by kernel_rfl) rfl #[.string a0,.string (⟨#[47]⟩ : ByteArray)] rfl (by (try simp only [List.map_toArray,List.map_cons,List.map_nil]);first|done|rfl|(simp only [List.length_drop,List.length_take];rfl)) ?_;(with_reducible refine (strings_Split.calls k a0 (⟨#[47]⟩ : ByteArray) t121 _ A3.out).mono ?_);rintro e w4 ⟨v122,rfl,ho0,hb⟩;refine ⟨_,rfl,?_⟩;have n0_ := Aside0.mk (Kd.R_lower ho0 (below_size (bM HB.out)));have n1_ := Aside0.mk (below_step (bM HB.out) hb);clear HB;have HO123 := n0_;have HB := n1_;clear n0_ n1_;(try clear hb);(try clear hb2);(try clear hk);(try clear hi);(try clear ho0);obtain ⟨Ao5,co5,eo5⟩ := Kd.R_slice HO123.out;subst eo5))
  (try (go_step3;go_wp2_with (first|((with_reducible refine gate_callee (f := 43) rfl ?_);refine goesL_ (some 10) rfl rfl Tryd.func43 (by kernel_rfl) rfl #[.string a0,.string (⟨#[47]⟩ : ByteArray)] rfl (by (try simp only [List.map_toArray,List.map_cons,List.map_nil]);first|done|rfl|(simp only [List.length_drop,List.length_take];rfl)) ?_;(with_reducible refine (strings_Split.calls k a0 (⟨#[47]⟩ : ByteArray) t121 _ A3.out).mono ?_);rintro e w4 ⟨v122,rfl,ho0,hb⟩;refine ⟨_,rfl,?_⟩;have n0_ := Aside0.mk (Kd.R_lower ho0 (below_size (bM HB.out)));have n1_ := Aside0.mk (below_step (bM HB.out) hb);clear HB;have HO123 := n0_;have HB := n1_;clear n0_ n1_;(try clear hb);(try clear hb2);(try clear hk);(try clear hi);(try clear ho0);obtain ⟨Ao5,co5,eo5⟩ := Kd.R_slice HO123.out;subst eo5))))
  go_loopg [12] k (fun kq v12 w' => ∃ (x12_1 : Int),v12 = .int .i64 x12_1 ∧ Aside0 (glob_ValidPath.l0 kq t121 (t121.length : Int) x12_1 = some r) ∧ Aside0 (kq ≤ k) ∧ Aside0 (Kd.R Kd.string 9 w' w.heap.size (fun _ => True) (.slice Ao5 t121.length co5) t121) ∧ Aside0 (Below w.heap.size w w'))
  case atStart => exact ⟨(0),(by first|rfl|(simp;done)|(simp [*];done)),H',⟨Nat.le_refl _⟩,⟨rM HO123.out⟩,⟨bM HB.out⟩⟩
  case round =>
   clear H'
   try clear c2
   try clear c2b0
   try clear c2b1
   try clear p2
   try clear c3
   try clear c4
   obtain ⟨x12_1,rfl,HA,HK1,HO_10,HB⟩ := hrel
   cases gk with
  |zero => exact absurd HA.out (by simp [glob_ValidPath.l0])
  |succ k1 =>
    have H := HA.out
    clear HA
    simp only [glob_ValidPath.l0] at H
    by_cases c6 : x12_1 < (t121.length : Int)
    ·rw [if_pos c6] at H
     have c6b0 : decide (x12_1 < (t121.length : Int)) = true := decide_eq_true c6
     clear c6
     by_cases c7 : 0 ≤ x12_1
     ·rw [if_pos c7] at H
      have c7b0 : decide (0 ≤ x12_1) = true := decide_eq_true c7
      clear c7
      by_cases c8 : x12_1 < (t121.length : Int)
      ·rw [if_pos c8] at H
       have c8b0 : decide (x12_1 < (t121.length : Int)) = true := decide_eq_true c8
       clear c8
       have HC9 := Aside0.mk H
       clear H
       have p124 : 0 ≤ (x12_1 : Int) := of_decide_eq_true (by first|(with_reducible assumption)|assumption)
       have q124 : x12_1 < (t121.length : Int) := of_decide_eq_true (by first|(with_reducible assumption)|assumption)
       obtain ⟨ad124,e124,hx124_0⟩ := Kd.at_string (Kd.R_reads' HO_10.out).2.2 x12_1 p124 q124
       cases e124
       replace p124 := eq_true p124
       replace q124 := eq_true q124
       go_upto_region 6 with (fail)
       go_cut [31] (fun v31 wc => ∃ (kq : Nat) (x31_8 : Bool),v31 = .bool x31_8 ∧ Aside0 (glob_ValidPath.j1 kq (rdOf ByteArray.empty t121 x12_1) t121 (t121.length : Int) x12_1 x31_8 = some r) ∧ Aside0 (kq ≤ k1) ∧ Aside0 (Kd.R Kd.string 9 wc w.heap.size (fun _ => True) (.slice (some ad124) t121.length co5) t121) ∧ Aside0 (Below w.heap.size w wc))
       case first =>
        have H := HC9.out
        clear HC9
        by_cases c10 : (rdOf ByteArray.empty t121 x12_1).toList = ([46] : List UInt8)
        ·rw [if_pos c10] at H
         have c10b0 : ((rdOf ByteArray.empty t121 x12_1).toList == ([46] : List UInt8)) = true := beq_iff_eq.mpr c10
         have c10b1 : ((rdOf ByteArray.empty t121 x12_1).toList != ([46] : List UInt8)) = false := bne_eq_false_iff_eq.mpr c10
         clear c10
         (first|rw [c10b0]|(simp only [i64_w,i32_w];rw [c10b0])|rw [c10b1]|skip)
         have H' := Aside0.mk H
         clear H
         go_wp2
         go_meet
         case rel => exact ⟨_,(true),(by first|rfl|(simp;done)|(simp [*];done)),H',⟨by have := HK1.out;first|omega|exact Nat.le_refl _⟩,⟨rM HO_10.out⟩,⟨bM HB.out⟩⟩
        ·rw [if_neg c10] at H
         have c10b0 : ((rdOf ByteArray.empty t121 x12_1).toList == ([46] : List UInt8)) = false := beq_eq_false_iff_ne.mpr c10
         have c10b1 : ((rdOf ByteArray.empty t121 x12_1).toList != ([46] : List UInt8)) = true := bne_iff_ne.mpr c10
         (first|rw [c10b0]|(simp only [i64_w,i32_w];rw [c10b0])|rw [c10b1]|skip)
         by_cases c11 : (rdOf ByteArray.empty t121 x12_1).toList = ([46,46] : List UInt8)
         ·rw [if_pos c11] at H
          have c11b0 : ((rdOf ByteArray.empty t121 x12_1).toList == ([46,46] : List UInt8)) = true := beq_iff_eq.mpr c11
          have c11b1 : ((rdOf ByteArray.empty t121 x12_1).toList != ([46,46] : List UInt8)) = false := bne_eq_false_iff_eq.mpr c11
          clear c11
          have H' := Aside0.mk H
          clear H
          go_wp2
          go_meet
          case rel => exact ⟨_,(true),(by first|rfl|(simp;done)|(simp [*];done)),H',⟨by have := HK1.out;first|omega|exact Nat.le_refl _⟩,⟨rM HO_10.out⟩,⟨bM HB.out⟩⟩
         ·rw [if_neg c11] at H
          have c11b0 : ((rdOf ByteArray.empty t121 x12_1).toList == ([46,46] : List UInt8)) = false := beq_eq_false_iff_ne.mpr c11
          have c11b1 : ((rdOf ByteArray.empty t121 x12_1).toList != ([46,46] : List UInt8)) = true := bne_iff_ne.mpr c11
          by_cases c12 : ((rdOf ByteArray.empty t121 x12_1).size : Int) < 1
          ·rw [if_pos c12] at H
           have c12b0 : decide (((rdOf ByteArray.empty t121 x12_1).size : Int) < 1) = true := decide_eq_true c12
           have c12b1 : decide ((rdOf ByteArray.empty t121 x12_1).size < 1) = true := decide_eq_true (by omega)
           clear c12
           have H' := Aside0.mk H
           clear H
           go_wp2
           go_meet
           case rel => exact ⟨_,(true),(by first|rfl|(simp;done)|(simp [*];done)),H',⟨by have := HK1.out;first|omega|exact Nat.le_refl _⟩,⟨rM HO_10.out⟩,⟨bM HB.out⟩⟩
          ·rw [if_neg c12] at H
           have c12b0 : decide (((rdOf ByteArray.empty t121 x12_1).size : Int) < 1) = false := decide_eq_false c12
           have c12b1 : decide ((rdOf ByteArray.empty t121 x12_1).size < 1) = false := decide_eq_false (by omega)
           clear c12
           have H' := Aside0.mk H
           clear H
           go_wp2
           go_meet
           case rel => exact ⟨_,(decide (((rdOf ByteArray.empty t121 x12_1).size : Int) > 24)),(by first|rfl|(simp;done)|(simp [*];done)),H',⟨by have := HK1.out;first|omega|exact Nat.le_refl _⟩,⟨rM HO_10.out⟩,⟨bM HB.out⟩⟩
       case rest =>
        clear HC9
        try clear c1
        try clear p1
        try clear q1
        try clear hx1
        try clear c2
        try clear c2b0
        try clear c2b1
        try clear p2
        try clear c3
        try clear c4
        try clear c6
        try clear c6b0
        try clear c7
        try clear c7b0
        try clear c8
        try clear c8b0
        try clear c10
        try clear c10b0
        try clear c10b1
        try clear c11
        try clear c11b0
        try clear c11b1
        try clear c12
        try clear c12b0
        try clear c12b1
        try clear p12
        try clear q12
        try clear hx12
        try clear hx124_0
        try clear p124
        try clear p2
        try clear q124
        obtain ⟨kq,x31_8,rfl,HA,HJ8,HO_10,HB⟩ := hcut
        cases kq with
       |zero => exact absurd HA.out (by simp [glob_ValidPath.j1])
       |succ kj8 =>
         have H := HA.out
         clear HA
         simp only [glob_ValidPath.j1] at H
         by_cases c13 : x31_8 = true
         ·subst c13
          have H1 : (some false) = some r := by rw [if_pos rfl] at H;exact H
          clear H
          have H := H1
          clear H1
          obtain rfl := Option.some.inj H
          go_wp2
          first|go_ret|(rw [Exit.noGoto_ret];go_ret)
          exact ⟨by first|rfl|(simp [errW_none,errW_some] <;> rfl)|(simp [*,errW_none,errW_some] <;> rfl),bM HB.out⟩
         ·replace c13 := Bool.eq_false_iff.mpr c13
          subst c13
          have H1 : (glob_ValidPath.l1 kj8 (rdOf ByteArray.empty t121 x12_1) 0 t121 (t121.length : Int) x12_1) = some r := by rw [if_neg (show ¬ (false = true) by decide)] at H;exact H
          clear H
          have H := H1
          clear H1
          have H' := Aside0.mk H
          clear H
          go_wp2
          go_loopg [5] kj8 (fun kq v5 w' => ∃ (x5_3 : Int),v5 = .int .i64 x5_3 ∧ Aside0 (glob_ValidPath.l1 kq (rdOf ByteArray.empty t121 x12_1) x5_3 t121 (t121.length : Int) x12_1 = some r) ∧ Aside0 (kq ≤ kj8) ∧ Aside0 (Kd.R Kd.string 9 w' w.heap.size (fun _ => True) (.slice (some ad124) t121.length co5) t121) ∧ Aside0 (Below w.heap.size w w'))
          case atStart => exact ⟨(0),(by first|rfl|(simp;done)|(simp [*];done)),H',⟨Nat.le_refl _⟩,⟨rM HO_10.out⟩,⟨bM HB.out⟩⟩
          case round =>
           clear H'
           try clear c1
           try clear p1
           try clear q1
           try clear hx1
           try clear c2
           try clear c2b0
           try clear c2b1
           try clear p2
           try clear c3
           try clear c4
           try clear c6
           try clear c6b0
           try clear c7
           try clear c7b0
           try clear c8
           try clear c8b0
           try clear c10
           try clear c10b0
           try clear c10b1
           try clear c11
           try clear c11b0
           try clear c11b1
           try clear c12
           try clear c12b0
           try clear c12b1
           try clear p12
           try clear q12
           try clear hx12
           try clear c13
           try clear hx124_0
           try clear p1
           try clear p12
           try clear p124
           try clear p2
           try clear q1
           try clear q12
           try clear q124
           obtain ⟨x5_3,rfl,HA,HK3,HO_10,HB⟩ := hrel
           cases gk with
          |zero => exact absurd HA.out (by simp [glob_ValidPath.l1])
          |succ k3 =>
            have H := HA.out
            clear HA
            simp only [glob_ValidPath.l1] at H
            by_cases c14 : x5_3 = ((rdOf ByteArray.empty t121 x12_1).size : Int)
            ·rw [if_pos c14] at H
             have c14b0 : (x5_3 == ((rdOf ByteArray.empty t121 x12_1).size : Int)) = true := beq_iff_eq.mpr c14
             have c14b1 : (x5_3 != ((rdOf ByteArray.empty t121 x12_1).size : Int)) = false := bne_eq_false_iff_eq.mpr c14
             clear c14
             have H' := Aside0.mk H
             clear H
             go_wp2
             go_roundg k3
             case measure => have := HK1.out;have := HJ8.out;have := HK3.out;omega
             case rel => exact ⟨(wrap64 (x12_1 + 1)),(by first|rfl|(simp;done)|(simp [*];done)),H',⟨by have := HK1.out;have := HJ8.out;have := HK3.out;omega⟩,⟨rM HO_10.out⟩,⟨bM HB.out⟩⟩
            ·rw [if_neg c14] at H
             have c14b0 : (x5_3 == ((rdOf ByteArray.empty t121 x12_1).size : Int)) = false := beq_eq_false_iff_ne.mpr c14
             have c14b1 : (x5_3 != ((rdOf ByteArray.empty t121 x12_1).size : Int)) = true := bne_iff_ne.mpr c14
             by_cases c15 : 0 ≤ x5_3
             ·rw [if_pos c15] at H
              have c15b0 : decide (0 ≤ x5_3) = true := decide_eq_true c15
              clear c15
              by_cases c16 : x5_3 < ((rdOf ByteArray.empty t121 x12_1).size : Int)
              ·rw [if_pos c16] at H
               have c16b0 : decide (x5_3 < ((rdOf ByteArray.empty t121 x12_1).size : Int)) = true := decide_eq_true c16
               clear c16
               replace H := Option.bind_eq_some_iff.mp H
               obtain ⟨t125,A180,H⟩ := H
               replace H : (if t125 = true then (glob_ValidPath.l1 k3 (rdOf ByteArray.empty t121 x12_1) (wrap64 (x5_3 + 1)) t121 (t121.length : Int) x12_1) else (some false)) = some r := H
               have A18 := Aside0.mk A180
               clear A180
               by_cases c19 : t125 = true
               ·subst c19
                have H1 : (glob_ValidPath.l1 k3 (rdOf ByteArray.empty t121 x12_1) (wrap64 (x5_3 + 1)) t121 (t121.length : Int) x12_1) = some r := by rw [if_pos rfl] at H;exact H
                clear H
                have H := H1
                clear H1
                have H' := Aside0.mk H
                clear H
                have p17 : 0 ≤ (x5_3 : Int) := of_decide_eq_true (by first|(with_reducible assumption)|assumption)
                have q17 : x5_3 < ((rdOf ByteArray.empty t121 x12_1).size : Int) := of_decide_eq_true (by first|(with_reducible assumption)|assumption)
                have hx17 := bt_at (rdOf ByteArray.empty t121 x12_1) x5_3
                replace p17 := eq_true p17
                replace q17 := eq_true q17
                go_wp2_with (first|((with_reducible refine gate_callee (f := 44) rfl ?_);refine goesL_ (some 41) rfl rfl Tryd.func44 (by kernel_rfl) rfl #[.int .u8 (bt (rdOf ByteArray.empty t121 x12_1) x5_3)] rfl (by (try simp only [List.map_toArray,List.map_cons,List.map_nil]);first|done|rfl|(simp only [List.length_drop,List.length_take];rfl)) ?_;(with_reducible refine (glob_letter.calls (bt (rdOf ByteArray.empty t121 x12_1) x5_3) true _ A18.out).mono ?_);rintro e w' ⟨rfl,⟨nd,rfl⟩⟩;refine ⟨_,rfl,?_⟩))
                go_roundg k3
                case measure => have := HK1.out;have := HJ8.out;have := HK3.out;omega
                case rel => exact ⟨(wrap64 (x5_3 + 1)),(by first|rfl|(simp;done)|(simp [*];done)),H',⟨by have := HK1.out;have := HJ8.out;have := HK3.out;omega⟩,⟨rM HO_10.out⟩,⟨bM HB.out⟩⟩
               ·replace c19 := Bool.eq_false_iff.mpr c19
                subst c19
                have H1 : (some false) = some r := by rw [if_neg (show ¬ (false = true) by decide)] at H;exact H
                clear H
                have H := H1
                clear H1
                obtain rfl := Option.some.inj H
                have p17 : 0 ≤ (x5_3 : Int) := of_decide_eq_true (by first|(with_reducible assumption)|assumption)
                have q17 : x5_3 < ((rdOf ByteArray.empty t121 x12_1).size : Int) := of_decide_eq_true (by first|(with_reducible assumption)|assumption)
                have hx17 := bt_at (rdOf ByteArray.empty t121 x12_1) x5_3
                replace p17 := eq_true p17
                replace q17 := eq_true q17
                go_wp2_with (first|((with_reducible refine gate_callee (f := 44) rfl ?_);refine goesL_ (some 41) rfl rfl Tryd.func44 (by kernel_rfl) rfl #[.int .u8 (bt (rdOf ByteArray.empty t121 x12_1) x5_3)] rfl (by (try simp only [List.map_toArray,List.map_cons,List.map_nil]);first|done|rfl|(simp only [List.length_drop,List.length_take];rfl)) ?_;(with_reducible refine (glob_letter.calls (bt (rdOf ByteArray.empty t121 x12_1) x5_3) false _ A18.out).mono ?_);rintro e w' ⟨rfl,⟨nd,rfl⟩⟩;refine ⟨_,rfl,?_⟩))
                first|go_ret|(rw [Exit.noGoto_ret];go_ret)
                exact ⟨by first|rfl|(simp [errW_none,errW_some] <;> rfl)|(simp [*,errW_none,errW_some] <;> rfl),bM HB.out⟩
              ·rw [if_neg c16] at H
               exact absurd H (by simp)
             ·rw [if_neg c15] at H
              exact absurd H (by simp)
      ·rw [if_neg c8] at H
       exact absurd H (by simp)
     ·rw [if_neg c7] at H
      exact absurd H (by simp)
    ·rw [if_neg c6] at H
     have c6b0 : decide (x12_1 < (t121.length : Int)) = false := decide_eq_false c6
     clear c6
     obtain rfl := Option.some.inj H
     go_wp2
     first|go_ret|(rw [Exit.noGoto_ret];go_ret)
     exact ⟨by first|rfl|(simp [errW_none,errW_some] <;> rfl)|(simp [*,errW_none,errW_some] <;> rfl),bM HB.out⟩

/-! ### stringslite_HasPrefix: function 51 -/
def stringslite_HasPrefix.f (a0 : ByteArray) (a1 : ByteArray) : Option (Bool) := if (a0.size : Int) ≥ (a1.size : Int) then (if 0 ≤ (a1.size : Int) then (if (a1.size : Int) ≤ (a0.size : Int) then (some ((a0.extract 0 ((a1.size : Int) : Int).toNat).toList == a1.toList)) else (none)) else (none)) else (some false)
set_option maxHeartbeats 4000000 in
set_option maxRecDepth 100000 in
theorem stringslite_HasPrefix.calls (a0 : ByteArray) (a1 : ByteArray) (r : Bool) (w : World) (h : stringslite_HasPrefix.f a0 a1 = some r) :
  Calls Tryd.prog 51 #[.string a0,.string a1] w fun e w' => e = .returned (.bool r) ∧ Drawn0 w w' := by
 have H : (if (a0.size : Int) ≥ (a1.size : Int) then (if 0 ≤ (a1.size : Int) then (if (a1.size : Int) ≤ (a0.size : Int) then (some ((a0.extract 0 ((a1.size : Int) : Int).toNat).toList == a1.toList)) else (none)) else (none)) else (some false)) = some r := h
 clear h
 by_cases c3 : (a0.size : Int) ≥ (a1.size : Int)
 ·rw [if_pos c3] at H
  have c3b0 : decide ((a1.size : Int) ≤ (a0.size : Int)) = true := decide_eq_true c3
  have c3b1 : decide (a1.size ≤ a0.size) = true := decide_eq_true (Int.ofNat_le.mp c3)
  clear c3
  by_cases c4 : 0 ≤ (a1.size : Int)
  ·rw [if_pos c4] at H
   have c4b0 := eq_true c4
   have c4b1 : decide (0 ≤ (a1.size : Int)) = true := decide_eq_true c4
   clear c4
   by_cases c5 : (a1.size : Int) ≤ (a0.size : Int)
   ·rw [if_pos c5] at H
    have c5b0 := eq_true c5
    have c5b1 : decide ((a1.size : Int) ≤ (a0.size : Int)) = true := decide_eq_true c5
    clear c5
    obtain rfl := Option.some.inj H
    go_enter Tryd.func51,Tryd.ntmps51
    go_wp2
    go_ret
    exact ⟨by first|rfl|(simp;done)|(simp [*];done),by repeat (first|exact Drawn0.refl _|apply Drawn0.step)⟩
   ·rw [if_neg c5] at H
    exact absurd H (by simp)
  ·rw [if_neg c4] at H
   exact absurd H (by simp)
 ·rw [if_neg c3] at H
  have c3b0 : decide ((a1.size : Int) ≤ (a0.size : Int)) = false := decide_eq_false c3
  have c3b1 : decide (a1.size ≤ a0.size) = false := decide_eq_false (fun h => c3 (Int.ofNat_le.mpr h))
  clear c3
  obtain rfl := Option.some.inj H
  go_enter Tryd.func51,Tryd.ntmps51
  go_wp2
  go_ret
  exact ⟨by first|rfl|(simp;done)|(simp [*];done),by repeat (first|exact Drawn0.refl _|apply Drawn0.step)⟩

/-! ### strings_HasPrefix: function 45 -/
def strings_HasPrefix.f (a0 : ByteArray) (a1 : ByteArray) : Option (Bool) := (stringslite_HasPrefix.f a0 a1).bind fun t126 => (some t126)
set_option maxHeartbeats 4000000 in
set_option maxRecDepth 100000 in
theorem strings_HasPrefix.calls (a0 : ByteArray) (a1 : ByteArray) (r : Bool) (w : World) (h : strings_HasPrefix.f a0 a1 = some r) :
  Calls Tryd.prog 45 #[.string a0,.string a1] w fun e w' => e = .returned (.bool r) ∧ Drawn0 w w' := by
 have H : ((stringslite_HasPrefix.f a0 a1).bind fun t126 => (some t126)) = some r := h
 clear h
 replace H := Option.bind_eq_some_iff.mp H
 obtain ⟨t126,A30,H⟩ := H
 replace H : (some t126) = some r := H
 have A3 := Aside0.mk A30
 clear A30
 obtain rfl := Option.some.inj H
 go_enter Tryd.func45,Tryd.ntmps45
 go_wp2_with (first|((with_reducible refine gate_callee (f := 51) rfl ?_);refine goesL_ (some 7) rfl rfl Tryd.func51 (by kernel_rfl) rfl #[.string a0,.string a1] rfl (by (try simp only [List.map_toArray,List.map_cons,List.map_nil]);first|done|rfl|(simp only [List.length_drop,List.length_take];rfl)) ?_;(with_reducible refine (stringslite_HasPrefix.calls a0 a1 t126 _ A3.out).mono ?_);rintro e w' ⟨rfl,⟨nd,rfl⟩⟩;refine ⟨_,rfl,?_⟩))
 go_ret
 exact ⟨by first|rfl|(simp;done)|(simp [*];done),by repeat (first|exact Drawn0.refl _|apply Drawn0.step)⟩

/-! ### glob_Under: function 32 -/
def glob_Under.f (a0 : ByteArray) (a1 : ByteArray) : Option (Bool) := if a1.toList = ([] : List UInt8) then (some true) else (if a1.size + 1 ≤ 9223372036854775807 then ((strings_HasPrefix.f a0 (a1 ++ (⟨#[47]⟩ : ByteArray))).bind fun t127 => (some t127)) else (none))
set_option maxHeartbeats 4000000 in
set_option maxRecDepth 100000 in
theorem glob_Under.calls (a0 : ByteArray) (a1 : ByteArray) (r : Bool) (w : World) (h : glob_Under.f a0 a1 = some r) :
  Calls Tryd.prog 32 #[.string a0,.string a1] w fun e w' => e = .returned (.bool r) ∧ Drawn0 w w' := by
 have H : (if a1.toList = ([] : List UInt8) then (some true) else (if a1.size + 1 ≤ 9223372036854775807 then ((strings_HasPrefix.f a0 (a1 ++ (⟨#[47]⟩ : ByteArray))).bind fun t127 => (some t127)) else (none))) = some r := h
 clear h
 by_cases c3 : a1.toList = ([] : List UInt8)
 ·rw [if_pos c3] at H
  have c3b0 : (a1.toList == ([] : List UInt8)) = true := beq_iff_eq.mpr c3
  have c3b1 : (a1.toList != ([] : List UInt8)) = false := bne_eq_false_iff_eq.mpr c3
  clear c3
  obtain rfl := Option.some.inj H
  go_enter Tryd.func32,Tryd.ntmps32
  go_wp2
  go_ret
  exact ⟨by first|rfl|(simp;done)|(simp [*];done),by repeat (first|exact Drawn0.refl _|apply Drawn0.step)⟩
 ·rw [if_neg c3] at H
  have c3b0 : (a1.toList == ([] : List UInt8)) = false := beq_eq_false_iff_ne.mpr c3
  have c3b1 : (a1.toList != ([] : List UInt8)) = true := bne_iff_ne.mpr c3
  by_cases c4 : a1.size + 1 ≤ 9223372036854775807
  ·rw [if_pos c4] at H
   have c4b0 := eq_true c4
   have c4b1 : decide (a1.size + 1 ≤ 9223372036854775807) = true := decide_eq_true c4
   try have c4b2 : (9223372036854775807 < a1.size + 1) = False := eq_false (Nat.not_lt.2 c4)
   replace H := Option.bind_eq_some_iff.mp H
   obtain ⟨t127,A50,H⟩ := H
   replace H : (some t127) = some r := H
   have A5 := Aside0.mk A50
   clear A50
   obtain rfl := Option.some.inj H
   go_enter Tryd.func32,Tryd.ntmps32
   go_wp2_with (first|(go_at_call 45;(with_reducible refine (strings_HasPrefix.calls a0 (a1 ++ (⟨#[47]⟩ : ByteArray)) t127 _ A5.out).mono ?_);rintro e w' ⟨rfl,⟨nd,rfl⟩⟩))
   go_ret
   exact ⟨by first|rfl|(simp;done)|(simp [*];done),by repeat (first|exact Drawn0.refl _|apply Drawn0.step)⟩
  ·rw [if_neg c4] at H
   exact absurd H (by simp)

end Go.Proofs.YtpnhamfodjfacaaDoor.M
