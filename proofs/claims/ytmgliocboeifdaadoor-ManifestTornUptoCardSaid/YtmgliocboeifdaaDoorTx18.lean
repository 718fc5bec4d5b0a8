-- Written by hp.py, a program of this session, over the kit's print of the translation. Not trusted: Lean checks it.
import Derived.Test.YtmgliocboeifdaaDoorTx0
import Derived.Test.YtmgliocboeifdaaDoorTx5
import Derived.Test.YtmgliocboeifdaaDoorTx6
import Derived.Test.YtmgliocboeifdaaDoorTx7
import Derived.Test.YtmgliocboeifdaaDoorTx9
import Derived.Test.YtmgliocboeifdaaDoorTx15
import Derived.Test.YtmgliocboeifdaaDoorTx17
namespace Go.Proofs.YtmgliocboeifdaaDoor.T
open Go.RowKit Go.Proofs.YtmgliocboeifdaaDoorW.PrintWords Go.Proofs.YtmgliocboeifdaaDoorW.PrintLast Go.Proofs.YtmgliocboeifdaaDoorW.PrintMore
attribute [local go_sem] max2_int min2_int max_two min_two max_three min_three max_four min_four   -- for this text's walks alone
set_option linter.unusedVariables false
set_option linter.unusedSimpArgs false

/-! ### codesearchlaw33_ManifestTorn: function 4 -/
mutual
def codesearchlaw33_ManifestTorn.j0 : Nat → List (S37) → Int → List Int → Bool → Option (Bool)
|0,_,_,_,_ => none
|k + 1,x0,x1,x2,x29 => if x29 = true then (some true) else ((manifest_Write.f k x0).bind fun t463 => (if (wrap64 ((t463.length : Int) + 1)) = 0 then (none) else (codesearchlaw33_ManifestTorn.l0 k x0 x2 t463 (Int.tmod (wrap64 (x1)) (wrap64 ((t463.length : Int) + 1))) 0 0 1)))
def codesearchlaw33_ManifestTorn.l0 : Nat → List (S37) → List Int → List Int → Int → Int → Int → Int → Option (Bool)
|0,_,_,_,_,_,_,_ => none
|k + 1,x0,x2,x7,x8,x9,x10,x11 => if x11 ≤ (x0.length : Int) then (if 0 ≤ x11 then ((manifest_Write.f k (x0.take (x11 : Int).toNat)).bind fun t470 => (if (t470.length : Int) ≤ x8 then (codesearchlaw33_ManifestTorn.l0 k x0 x2 x7 x8 x11 (t470.length : Int) (wrap64 (x11 + 1))) else (codesearchlaw33_ManifestTorn.l0 k x0 x2 x7 x8 x9 x10 (wrap64 (x11 + 1))))) else (none)) else (if 0 ≤ x8 then (if x8 ≤ (x7.length : Int) then ((manifest_Recover.f k (x7.take (x8 : Int).toNat)).bind fun bt477 => (if bt477.2 = x10 then (if 0 ≤ x9 then (if x9 ≤ (x0.length : Int) then ((codesearchref33_SameAll.f k bt477.1 (x0.take (x9 : Int).toNat)).bind fun t485 => (codesearchlaw33_ManifestTorn.j2 k x0 x2 x7 x8 x9 (!t485))) else (none)) else (none)) else (codesearchlaw33_ManifestTorn.j2 k x0 x2 x7 x8 x9 true))) else (none)) else (none))
def codesearchlaw33_ManifestTorn.j2 : Nat → List (S37) → List Int → List Int → Int → Int → Bool → Option (Bool)
|0,_,_,_,_,_,_ => none
|k + 1,x0,x2,x7,x8,x9,x71 => if x71 = true then (some false) else (codesearchlaw33_ManifestTorn.l1 k x0 x2 x7 x8 x9 ([] : List Int) 0)
def codesearchlaw33_ManifestTorn.l1 : Nat → List (S37) → List Int → List Int → Int → Int → List Int → Int → Option (Bool)
|0,_,_,_,_,_,_,_ => none
|k + 1,x0,x2,x7,x8,x9,x15,x16 => if x16 < x8 then (if 0 ≤ x16 then (if x16 < (x7.length : Int) then (if x15.length < 140737488355328 then (codesearchlaw33_ManifestTorn.l1 k x0 x2 x7 x8 x9 (x15 ++ [rd x7 x16]) (wrap64 (x16 + 1))) else (none)) else (none)) else (none)) else (codesearchlaw33_ManifestTorn.l2 k x0 x2 x9 x15 0)
def codesearchlaw33_ManifestTorn.l2 : Nat → List (S37) → List Int → Int → List Int → Int → Option (Bool)
|0,_,_,_,_,_ => none
|k + 1,x0,x2,x9,x15,x17 => if x17 < (x2.length : Int) then (if 0 ≤ x17 then (if x15.length < 140737488355328 then (codesearchlaw33_ManifestTorn.l2 k x0 x2 x9 (x15 ++ [rd x2 x17]) (wrap64 (x17 + 1))) else (none)) else (none)) else ((manifest_Recover.f k x15).bind fun bt494 => (if (bt494.1.length : Int) ≥ x9 then (if 0 ≤ x9 then (if x9 ≤ (bt494.1.length : Int) then (if x9 ≤ (x0.length : Int) then ((codesearchref33_SameAll.f k (bt494.1.take (x9 : Int).toNat) (x0.take (x9 : Int).toNat)).bind fun t506 => (some t506)) else (none)) else (none)) else (none)) else (some false)))
end
def codesearchlaw33_ManifestTorn.f (k : Nat) (l0 : List (S37)) (a1 : Int) (l2 : List Int) : Option (Bool) := (codesearchlaw33_alive.f k).bind fun t460 => (if t460 = true then ((codesearchlaw33_small.f k l0).bind fun t461 => (if t461 = true then ((codesearchlaw33_plain.f k l0).bind fun t462 => (codesearchlaw33_ManifestTorn.j0 k l0 a1 l2 (!t462))) else (codesearchlaw33_ManifestTorn.j0 k l0 a1 l2 true))) else (some false))
theorem codesearchlaw33_ManifestTorn.mono_l : ∀ k, (∀ y0 y1 y2 y3, LeO (codesearchlaw33_ManifestTorn.j0 k y0 y1 y2 y3) (codesearchlaw33_ManifestTorn.j0 (k + 1) y0 y1 y2 y3)) ∧ (∀ y0 y1 y2 y3 y4 y5 y6, LeO (codesearchlaw33_ManifestTorn.l0 k y0 y1 y2 y3 y4 y5 y6) (codesearchlaw33_ManifestTorn.l0 (k + 1) y0 y1 y2 y3 y4 y5 y6)) ∧ (∀ y0 y1 y2 y3 y4 y5, LeO (codesearchlaw33_ManifestTorn.j2 k y0 y1 y2 y3 y4 y5) (codesearchlaw33_ManifestTorn.j2 (k + 1) y0 y1 y2 y3 y4 y5)) ∧ (∀ y0 y1 y2 y3 y4 y5 y6, LeO (codesearchlaw33_ManifestTorn.l1 k y0 y1 y2 y3 y4 y5 y6) (codesearchlaw33_ManifestTorn.l1 (k + 1) y0 y1 y2 y3 y4 y5 y6)) ∧ (∀ y0 y1 y2 y3 y4, LeO (codesearchlaw33_ManifestTorn.l2 k y0 y1 y2 y3 y4) (codesearchlaw33_ManifestTorn.l2 (k + 1) y0 y1 y2 y3 y4))
|0 => ⟨fun _ _ _ _ r h => by simp [codesearchlaw33_ManifestTorn.j0] at h,fun _ _ _ _ _ _ _ r h => by simp [codesearchlaw33_ManifestTorn.l0] at h,fun _ _ _ _ _ _ r h => by simp [codesearchlaw33_ManifestTorn.j2] at h,fun _ _ _ _ _ _ _ r h => by simp [codesearchlaw33_ManifestTorn.l1] at h,fun _ _ _ _ _ r h => by simp [codesearchlaw33_ManifestTorn.l2] at h⟩
|k + 1 => by
  obtain ⟨ih0,ih1,ih2,ih3,ih4⟩ := codesearchlaw33_ManifestTorn.mono_l k
  refine ⟨?_,?_,?_,?_,?_⟩
  ·intro y0 y1 y2 y3
   unfold codesearchlaw33_ManifestTorn.j0
   repeat' (with_reducible first|exact ih1 _ _ _ _ _ _ _|exact manifest_Write.mono _ _|exact LeO.refl _|exact LeO.none _|refine LeO.ite ?_ ?_|refine LeO.bind ?_ (fun _ => ?_))
  ·intro y0 y1 y2 y3 y4 y5 y6
   unfold codesearchlaw33_ManifestTorn.l0
   repeat' (with_reducible first|exact ih1 _ _ _ _ _ _ _|exact ih2 _ _ _ _ _ _|exact codesearchref33_SameAll.mono _ _ _|exact manifest_Recover.mono _ _|exact manifest_Write.mono _ _|exact LeO.refl _|exact LeO.none _|refine LeO.ite ?_ ?_|refine LeO.bind ?_ (fun _ => ?_))
  ·intro y0 y1 y2 y3 y4 y5
   unfold codesearchlaw33_ManifestTorn.j2
   repeat' (with_reducible first|exact ih3 _ _ _ _ _ _ _|exact LeO.refl _|exact LeO.none _|refine LeO.ite ?_ ?_|refine LeO.bind ?_ (fun _ => ?_))
  ·intro y0 y1 y2 y3 y4 y5 y6
   unfold codesearchlaw33_ManifestTorn.l1
   repeat' (with_reducible first|exact ih3 _ _ _ _ _ _ _|exact ih4 _ _ _ _ _|exact LeO.refl _|exact LeO.none _|refine LeO.ite ?_ ?_|refine LeO.bind ?_ (fun _ => ?_))
  ·intro y0 y1 y2 y3 y4
   unfold codesearchlaw33_ManifestTorn.l2
   repeat' (with_reducible first|exact ih4 _ _ _ _ _|exact codesearchref33_SameAll.mono _ _ _|exact manifest_Recover.mono _ _|exact LeO.refl _|exact LeO.none _|refine LeO.ite ?_ ?_|refine LeO.bind ?_ (fun _ => ?_))
theorem codesearchlaw33_ManifestTorn.mono : ∀ a0 a1 a2 k, LeO (codesearchlaw33_ManifestTorn.f k a0 a1 a2) (codesearchlaw33_ManifestTorn.f (k + 1) a0 a1 a2) := by
 intro a0 a1 a2 k
 obtain ⟨ih0,ih1,ih2,ih3,ih4⟩ := codesearchlaw33_ManifestTorn.mono_l k
 unfold codesearchlaw33_ManifestTorn.f
 repeat' first
  |(with_reducible exact ih0 _ _ _ _)
  |(with_reducible exact ih1 _ _ _ _ _ _ _)
  |(with_reducible exact ih2 _ _ _ _ _ _)
  |(with_reducible exact ih3 _ _ _ _ _ _ _)
  |(with_reducible exact ih4 _ _ _ _ _)
  |(with_reducible exact codesearchlaw33_alive.mono _)
  |(with_reducible exact codesearchlaw33_plain.mono _ _)
  |(with_reducible exact codesearchlaw33_small.mono _ _)
  |(with_reducible exact codesearchref33_SameAll.mono _ _ _)
  |(with_reducible exact manifest_Recover.mono _ _)
  |(with_reducible exact manifest_Write.mono _ _)
  |(with_reducible exact LeO.refl _)
  |(with_reducible exact LeO.none _)
  |(with_reducible refine LeO.ite ?_ ?_)
  |(with_reducible refine LeO.bind ?_ (fun _ => ?_))
  |exact ih0 _ _ _ _
  |exact ih1 _ _ _ _ _ _ _
  |exact ih2 _ _ _ _ _ _
  |exact ih3 _ _ _ _ _ _ _
  |exact ih4 _ _ _ _ _
  |exact codesearchlaw33_alive.mono _
  |exact codesearchlaw33_plain.mono _ _
  |exact codesearchlaw33_small.mono _ _
  |exact codesearchref33_SameAll.mono _ _ _
  |exact manifest_Recover.mono _ _
  |exact manifest_Write.mono _ _
  |exact LeO.none _
  |refine LeO.ite ?_ ?_
  |refine LeO.bind ?_ (fun _ => ?_)
def codesearchlaw33_ManifestTorn.T28 : Bool × List (List Nat × List Nat) := (true, [([], []), ([0], [0]), ([], []), ([1, 2], [1, 2]), ([3], [3]), ([4], [4]), ([4], [4]), ([5, 6, 4], [4, 5, 6]), ([4], [4]), ([4], [4]), ([8, 9, 4], [4, 8, 9]), ([7, 10, 4, 4], [4, 7, 10]), ([4, 11], [4, 11]), ([12, 11, 0, 1, 2, 3, 4, 5, 6, 7, 8, 9, 10, 11, 12], [12])])
def codesearchlaw33_ManifestTorn.B28 : List Nat := [0, 1, 0, 7, 15, 31, 31, 127, 31, 31, 799, 2047, 4095, 8191]
theorem codesearchlaw33_ManifestTorn.tab28 : rtab .any (opsOf Tryd.f4 28) = codesearchlaw33_ManifestTorn.T28 := by kernel_rfl
theorem codesearchlaw33_ManifestTorn.bits28 : waitsOk codesearchlaw33_ManifestTorn.T28.2 codesearchlaw33_ManifestTorn.B28 = true := by kernel_rfl
set_option maxHeartbeats 4000000 in
set_option maxRecDepth 100000 in
theorem codesearchlaw33_ManifestTorn.calls (k : Nat) (A0 : Option Addr) (c0 : Nat) (l0 : List (S37)) (a1 : Int) (A2 : Option Addr) (c2 : Nat) (l2 : List Int) (r : Bool) (w : World) (hr0 : Kd.C k37 w A0 l0.length l0) (hc0 : l0.length ≤ c0) (hr2 : Kd.C (Kd.int .u8) w A2 l2.length l2) (hc2 : l2.length ≤ c2) (h : codesearchlaw33_ManifestTorn.f k l0 a1 l2 = some r) :
  Calls Tryd.prog 4 #[.slice A0 l0.length c0,.int .u16 a1,.slice A2 l2.length c2] w fun e w' => e = .returned (.bool r) ∧ Below w.heap.size w w' := by
 have HR0 := aK hr0
 have HC0 := aK hc0
 clear hr0 hc0
 have HR2 := aK hr2
 have HC2 := aK hc2
 clear hr2 hc2
 have HB := aK (Below.refl w.heap.size w)
 unfold codesearchlaw33_ManifestTorn.f at h
 have H := h
 clear h
 replace H := Option.bind_eq_some_iff.mp H
 obtain ⟨t460,A40,H⟩ := H
 have A4 := aK A40
 clear A40
 by_cases c5 : t460 = true
 ·subst c5
  rw [if_pos rfl] at H
  have HC6 := aK H
  clear H
  go_enter Tryd.func4,Tryd.ntmps4
  go_upto_region 3 with (first|((with_reducible refine gate_callee (f := 7) rfl ?_);refine goesL_ (some 20) rfl rfl Tryd.func7 (by kernel_rfl) rfl #[] rfl (by (try simp only [List.map_toArray,List.map_cons,List.map_nil]);first|done|rfl|(simp only [List.length_drop,List.length_take];rfl)) ?_;(with_reducible refine (codesearchlaw33_alive.calls k  true _ A4.out).mono ?_);rintro e w7 ⟨rfl,hb⟩;refine ⟨_,rfl,?_⟩;replace HB := aK (below_step (bM HB.out) hb);(try clear hb);(try clear hk)))
  (try simp only [Act.put,List.setIfInBounds_toArray,List.set_cons_zero,List.set_cons_succ])
  go_cut [29] (fun v29 wc => ∃ (kq : Nat) (x29_5 : Bool),v29 = .bool x29_5 ∧ Aside0 (codesearchlaw33_ManifestTorn.j0 kq l0 a1 l2 x29_5 = some r) ∧ Aside0 (kq ≤ k) ∧ Aside0 (Below w.heap.size w wc))
  case first =>
   have H := HC6.out
   clear HC6
   replace H := Option.bind_eq_some_iff.mp H
   obtain ⟨t461,A80,H⟩ := H
   have A8 := aK A80
   clear A80
   by_cases c9 : t461 = true
   ·subst c9
    rw [if_pos rfl] at H
    replace H := Option.bind_eq_some_iff.mp H
    obtain ⟨t462,A100,H⟩ := H
    have A10 := aK A100
    clear A100
    have H' := aK H
    clear H
    go_wp2_with (first|((with_reducible refine gate_callee (f := 8) rfl ?_);refine goesL_ (some 23) rfl rfl Tryd.func8 (by kernel_rfl) rfl #[.slice A0 l0.length c0] rfl (by (try simp only [List.map_toArray,List.map_cons,List.map_nil]);first|done|rfl|(simp only [List.length_drop,List.length_take];rfl)) ?_;(with_reducible refine (codesearchlaw33_small.calls k _ _ l0 true _ ?side1 ?side2 A8.out).mono ?_);(case side1 => exact cM (Kd.C_below HR0.out HB.out));(case side2 => exact HC0.out);rintro e w' ⟨rfl,⟨nd,rfl⟩⟩;refine ⟨_,rfl,?_⟩)|(go_at_call 14;(with_reducible refine (codesearchlaw33_plain.calls k _ _ l0 t462 _ ?side1 ?side2 A10.out).mono ?_);(case side1 => exact Kd.C_below HR0.out (bM HB.out));(case side2 => exact HC0.out);rintro e w' ⟨rfl,⟨nd,rfl⟩⟩))
    go_meet
    case rel => exact ⟨_,(!t462),(by first|rfl|(simp;done)|(simp [*];done)),H',⟨by first|omega|exact Nat.le_refl _⟩,⟨bM HB.out⟩⟩
   ·replace c9 := Bool.eq_false_iff.mpr c9
    subst c9
    rw [if_neg (show ¬ (false = true) by decide)] at H
    have H' := aK H
    clear H
    go_wp2_with (first|((with_reducible refine gate_callee (f := 8) rfl ?_);refine goesL_ (some 23) rfl rfl Tryd.func8 (by kernel_rfl) rfl #[.slice A0 l0.length c0] rfl (by (try simp only [List.map_toArray,List.map_cons,List.map_nil]);first|done|rfl|(simp only [List.length_drop,List.length_take];rfl)) ?_;(with_reducible refine (codesearchlaw33_small.calls k _ _ l0 false _ ?side1 ?side2 A8.out).mono ?_);(case side1 => exact cM (Kd.C_below HR0.out HB.out));(case side2 => exact HC0.out);rintro e w' ⟨rfl,⟨nd,rfl⟩⟩;refine ⟨_,rfl,?_⟩))
    go_meet
    case rel => exact ⟨_,(true),(by first|rfl|(simp;done)|(simp [*];done)),H',⟨by first|omega|exact Nat.le_refl _⟩,⟨bM HB.out⟩⟩
  case rest =>
   clear HC6
   try clear p2
   try clear c5
   obtain ⟨kq,x29_5,rfl,HA,HJ5,HB⟩ := hcut
   cases kq with
  |zero => exact absurd HA.out (by simp [codesearchlaw33_ManifestTorn.j0])
  |succ kj5 =>
    have H := HA.out
    clear HA
    simp only [codesearchlaw33_ManifestTorn.j0] at H
    by_cases c11 : x29_5 = true
    ·subst c11
     rw [if_pos rfl] at H
     obtain rfl := Option.some.inj H
     go_wp2
     go_ret
     exact ⟨by first|rfl|(simp [errW_none,errW_some] <;> rfl)|(simp [*,errW_none,errW_some] <;> rfl),bM HB.out⟩
    ·replace c11 := Bool.eq_false_iff.mpr c11
     subst c11
     rw [if_neg (show ¬ (false = true) by decide)] at H
     replace H := Option.bind_eq_some_iff.mp H
     obtain ⟨t463,A120,H⟩ := H
     have A12 := aK A120
     clear A120
     obtain ⟨c13,H⟩ := iN H
     have c13b0 := beq_eq_false_iff_ne.mpr c13
     have c13b1 := bne_iff_ne.mpr c13
     have H' := aK H
     clear H
     go_wp2_with (first|((with_reducible refine gate_callee (f := 15) rfl ?_);refine goesL_ (some 31) rfl rfl Tryd.func15 (by kernel_rfl) rfl #[.slice A0 l0.length c0] rfl (by (try simp only [List.map_toArray,List.map_cons,List.map_nil]);first|done|rfl|(simp only [List.length_drop,List.length_take];rfl)) ?_;(with_reducible refine (manifest_Write.calls kj5 _ _ l0 t463 _ ?side1 ?side2 A12.out).mono ?_);(case side1 => exact cM (Kd.C_below HR0.out HB.out));(case side2 => exact HC0.out);rintro e w14 ⟨v464,rfl,ho0,hb⟩;refine ⟨_,rfl,?_⟩;have HO465 := aK (Kd.R_lower ho0 (below_size (bM HB.out)));replace HB := aK (below_step (bM HB.out) hb);(try clear hb);(try clear hk);(try clear ho0);obtain ⟨Ao15,co15,eo15⟩ := Kd.R_slice HO465.out;subst eo15))
     go_loopg [9,10,11] kj5 (fun kq v9 v10 v11 w' => ∃ (x9_2 : Int) (x10_2 : Int) (x11_2 : Int),v9 = .int .i64 x9_2 ∧ v10 = .int .i64 x10_2 ∧ v11 = .int .i64 x11_2 ∧ Aside0 (codesearchlaw33_ManifestTorn.l0 kq l0 l2 t463 (Int.tmod (wrap64 (a1)) (wrap64 ((t463.length : Int) + 1))) x9_2 x10_2 x11_2 = some r) ∧ Aside0 (kq ≤ kj5) ∧ Aside0 (Kd.R (Kd.int .u8) 5 w' w.heap.size (fun _ => True) (.slice Ao15 t463.length co15) t463) ∧ Aside0 (Below w.heap.size w w'))
     case atStart => exact ⟨(0),(0),(1),(by first|rfl|(simp;done)|(simp [*];done)),(by first|rfl|(simp;done)|(simp [*];done)),(by first|rfl|(simp;done)|(simp [*];done)),H',⟨Nat.le_refl _⟩,⟨rM HO465.out⟩,⟨bM HB.out⟩⟩
     case round =>
      clear H'
      try clear p2
      try clear p6
      try clear c11
      try clear c13
      try clear c13b0
      try clear c13b1
      try clear p2
      obtain ⟨x9_2,x10_2,x11_2,rfl,rfl,rfl,HA,HK2,HO_7,HB⟩ := hrel
      cases gk with
     |zero => exact absurd HA.out (by simp [codesearchlaw33_ManifestTorn.l0])
     |succ k2 =>
       have H := HA.out
       clear HA
       simp only [codesearchlaw33_ManifestTorn.l0] at H
       by_cases c16 : x11_2 ≤ (l0.length : Int)
       ·rw [if_pos c16] at H
        have c16b0 := decide_eq_true c16
        clear c16
        obtain ⟨c17,H⟩ := iS H
        have c17b0 := eq_true c17
        have c17b1 := decide_eq_true c17
        clear c17
        have c18b0 := eq_true (of_decide_eq_true (by assumption) : x11_2 ≤ (l0.length : Int))
        obtain ⟨y466,hy466⟩ : ∃ y_ : List (S37),y_ = (l0.take (x11_2 : Int).toNat) := ⟨_,rfl⟩
        replace H : ((manifest_Write.f k2 y466).bind fun t470 => (if (t470.length : Int) ≤ (Int.tmod (wrap64 (a1)) (wrap64 ((t463.length : Int) + 1))) then (codesearchlaw33_ManifestTorn.l0 k2 l0 l2 t463 (Int.tmod (wrap64 (a1)) (wrap64 ((t463.length : Int) + 1))) x11_2 (t470.length : Int) (wrap64 (x11_2 + 1))) else (codesearchlaw33_ManifestTorn.l0 k2 l0 l2 t463 (Int.tmod (wrap64 (a1)) (wrap64 ((t463.length : Int) + 1))) x9_2 x10_2 (wrap64 (x11_2 + 1))))) = some r := by first|(rw [hy466];with_reducible exact H)|(have H2_ := (Option.bind_some _ _).symm.trans H;rw [hy466];with_reducible exact H2_)|(have H2_ := (Option.bind_some _ _).symm.trans H;with_reducible exact H2_)|with_reducible exact H|(rw [hy466];exact H)|exact H
        have Ny466 := aK hy466
        clear hy466
        replace H := Option.bind_eq_some_iff.mp H
        obtain ⟨t470,A190,H⟩ := H
        have A19 := aK A190
        clear A190
        by_cases c20 : (t470.length : Int) ≤ (Int.tmod (wrap64 (a1)) (wrap64 ((t463.length : Int) + 1)))
        ·rw [if_pos c20] at H
         have c20b0 := decide_eq_true c20
         clear c20
         have H' := aK H
         clear H
         have q21 : (x11_2 : Int) ≤ ((l0.length : Int) : Int) := of_decide_eq_true (by assumption)
         obtain ⟨i021,hi021,_,hsz21,_⟩ := info_parts info37
         have hroom21 : l0.length ≤ c0 := HC0.out
         have hC21 : Kd.C k37 _ A0 l0.length l0 := HR0.out
         have hcut21 := cut_to (P := Tryd.prog) 22 37 .i64 Tryd.underlying22 hi021 A0 l0.length c0 x11_2 (of_decide_eq_true (by assumption)) q21 hroom21
         have hr21 := Kd.C_take (m := (x11_2 : Int).toNat) hC21 (by omega)
         have hy21 : y466.length = (x11_2 : Int).toNat := (by rw [Ny466.out,List.length_take];omega)
         rw [← Ny466.out] at hr21
         rw [← hy21] at hcut21
         have HR469 := aK hr21
         have HC469 := aK (show y466.length ≤ c0 from by omega)
         clear hr21 hC21 hroom21 hi021 hsz21
         have KY21 := aK hy21
         clear hy21
         replace q21 := eq_true q21
         go_wp2_with (first|((with_reducible refine gate_callee (f := 15) rfl ?_);refine goesL_ (some 47) rfl rfl Tryd.func15 (by kernel_rfl) rfl #[.slice A0 y466.length c0] rfl (by (try simp only [List.map_toArray,List.map_cons,List.map_nil]);first|done|rfl|(simp only [List.length_drop,List.length_take];rfl)) ?_;(with_reducible refine (manifest_Write.calls k2 _ _ y466 t470 _ ?side1 ?side2 A19.out).mono ?_);(case side1 => exact cM (Kd.C_below HR469.out HB.out));(case side2 => exact HC469.out);rintro e w22 ⟨v471,rfl,ho0,hb⟩;refine ⟨_,rfl,?_⟩;have HO472 := aK (Kd.R_lower (Kd.R_new' ho0 (Kd.R_lt (rM HO_7.out))) (below_size (bM HB.out)));replace HO_7 := aK (Kd.R_elder' (rM HO_7.out) (Kd.R_base ho0) hb);replace HB := aK (below_step (bM HB.out) hb);(try clear hb);(try clear hk);(try clear ho0);obtain ⟨Ao23,co23,eo23⟩ := Kd.R_slice HO472.out;subst eo23))
         go_roundg k2
         case measure => have := HJ5.out;have := HK2.out;omega
         case rel => exact ⟨(x11_2),((t470.length : Int)),(wrap64 (x11_2 + 1)),(by first|rfl|(simp;done)|(simp [*];done)),(by first|rfl|(simp;done)|(simp [*];done)),(by first|rfl|(simp;done)|(simp [*];done)),H',⟨by have := HJ5.out;have := HK2.out;omega⟩,⟨rM (Kd.R_mono HO_7.out (fun _ hk => trivial))⟩,⟨bM HB.out⟩⟩
        ·rw [if_neg c20] at H
         have c20b0 := decide_eq_false c20
         clear c20
         have H' := aK H
         clear H
         have q24 : (x11_2 : Int) ≤ ((l0.length : Int) : Int) := of_decide_eq_true (by assumption)
         obtain ⟨i024,hi024,_,hsz24,_⟩ := info_parts info37
         have hroom24 : l0.length ≤ c0 := HC0.out
         have hC24 : Kd.C k37 _ A0 l0.length l0 := HR0.out
         have hcut24 := cut_to (P := Tryd.prog) 22 37 .i64 Tryd.underlying22 hi024 A0 l0.length c0 x11_2 (of_decide_eq_true (by assumption)) q24 hroom24
         have hr24 := Kd.C_take (m := (x11_2 : Int).toNat) hC24 (by omega)
         have hy24 : y466.length = (x11_2 : Int).toNat := (by rw [Ny466.out,List.length_take];omega)
         rw [← Ny466.out] at hr24
         rw [← hy24] at hcut24
         have HR469 := aK hr24
         have HC469 := aK (show y466.length ≤ c0 from by omega)
         clear hr24 hC24 hroom24 hi024 hsz24
         have KY24 := aK hy24
         clear hy24
         replace q24 := eq_true q24
         go_wp2_with (first|((with_reducible refine gate_callee (f := 15) rfl ?_);refine goesL_ (some 47) rfl rfl Tryd.func15 (by kernel_rfl) rfl #[.slice A0 y466.length c0] rfl (by (try simp only [List.map_toArray,List.map_cons,List.map_nil]);first|done|rfl|(simp only [List.length_drop,List.length_take];rfl)) ?_;(with_reducible refine (manifest_Write.calls k2 _ _ y466 t470 _ ?side1 ?side2 A19.out).mono ?_);(case side1 => exact cM (Kd.C_below HR469.out HB.out));(case side2 => exact HC469.out);rintro e w25 ⟨v471,rfl,ho0,hb⟩;refine ⟨_,rfl,?_⟩;have HO472 := aK (Kd.R_lower (Kd.R_new' ho0 (Kd.R_lt (rM HO_7.out))) (below_size (bM HB.out)));replace HO_7 := aK (Kd.R_elder' (rM HO_7.out) (Kd.R_base ho0) hb);replace HB := aK (below_step (bM HB.out) hb);(try clear hb);(try clear hk);(try clear ho0);obtain ⟨Ao26,co26,eo26⟩ := Kd.R_slice HO472.out;subst eo26))
         go_roundg k2
         case measure => have := HJ5.out;have := HK2.out;omega
         case rel => exact ⟨(x9_2),(x10_2),(wrap64 (x11_2 + 1)),(by first|rfl|(simp;done)|(simp [*];done)),(by first|rfl|(simp;done)|(simp [*];done)),(by first|rfl|(simp;done)|(simp [*];done)),H',⟨by have := HJ5.out;have := HK2.out;omega⟩,⟨rM (Kd.R_mono HO_7.out (fun _ hk => trivial))⟩,⟨bM HB.out⟩⟩
       ·rw [if_neg c16] at H
        have c16b0 := decide_eq_false c16
        clear c16
        obtain ⟨ji27,hji27⟩ : ∃ j_ : Int,(Int.tmod (wrap64 (a1)) (wrap64 ((t463.length : Int) + 1))) = j_ := ⟨_,rfl⟩
        replace H : (if 0 ≤ (ji27) then (if (ji27) ≤ (t463.length : Int) then ((manifest_Recover.f k2 (t463.take ((ji27) : Int).toNat)).bind fun bt477 => (if bt477.2 = x10_2 then (if 0 ≤ x9_2 then (if x9_2 ≤ (l0.length : Int) then ((codesearchref33_SameAll.f k2 bt477.1 (l0.take (x9_2 : Int).toNat)).bind fun t485 => (codesearchlaw33_ManifestTorn.j2 k2 l0 l2 t463 (ji27) x9_2 (!t485))) else (none)) else (none)) else (codesearchlaw33_ManifestTorn.j2 k2 l0 l2 t463 (ji27) x9_2 true))) else (none)) else (none)) = some r := by first|(rw [hji27] at H;exact H)|(simp only [hji27] at H ⊢;exact H)
        obtain ⟨c28,H⟩ := iS H
        have c28b0 := eq_true c28
        have c28b1 := decide_eq_true c28
        clear c28
        obtain ⟨c29,H⟩ := iS H
        have c29b0 := eq_true c29
        have c29b1 := decide_eq_true c29
        clear c29
        obtain ⟨y473,hy473⟩ : ∃ y_ : List Int,y_ = (t463.take ((ji27) : Int).toNat) := ⟨_,rfl⟩
        replace H : ((manifest_Recover.f k2 y473).bind fun bt477 => (if bt477.2 = x10_2 then (if 0 ≤ x9_2 then (if x9_2 ≤ (l0.length : Int) then ((codesearchref33_SameAll.f k2 bt477.1 (l0.take (x9_2 : Int).toNat)).bind fun t485 => (codesearchlaw33_ManifestTorn.j2 k2 l0 l2 t463 (ji27) x9_2 (!t485))) else (none)) else (none)) else (codesearchlaw33_ManifestTorn.j2 k2 l0 l2 t463 (ji27) x9_2 true))) = some r := by first|(rw [hy473];with_reducible exact H)|(have H2_ := (Option.bind_some _ _).symm.trans H;rw [hy473];with_reducible exact H2_)|(have H2_ := (Option.bind_some _ _).symm.trans H;with_reducible exact H2_)|with_reducible exact H|(rw [hy473];exact H)|exact H
        have Ny473 := aK hy473
        clear hy473
        replace H := Option.bind_eq_some_iff.mp H
        obtain ⟨⟨t477,t478⟩,A300,H⟩ := H
        replace H : (if t478 = x10_2 then (if 0 ≤ x9_2 then (if x9_2 ≤ (l0.length : Int) then ((codesearchref33_SameAll.f k2 t477 (l0.take (x9_2 : Int).toNat)).bind fun t485 => (codesearchlaw33_ManifestTorn.j2 k2 l0 l2 t463 (ji27) x9_2 (!t485))) else (none)) else (none)) else (codesearchlaw33_ManifestTorn.j2 k2 l0 l2 t463 (ji27) x9_2 true)) = some r := H
        have A30 := aK A300
        clear A300
        have HC31 := aK H
        clear H
        have q32 : ((ji27) : Int) ≤ ((t463.length : Int) : Int) := of_decide_eq_true (by assumption)
        obtain ⟨i032,hi032,_,hsz32,_⟩ := info_parts info5
        have hroom32 : t463.length ≤ co15 := (Kd.R_reads' HO_7.out).2.1
        have hC32 : Kd.C (Kd.int .u8) _ Ao15 t463.length t463 := (Kd.R_reads' HO_7.out).2.2
        have hcut32 := cut_to (P := Tryd.prog) 29 5 .i64 Tryd.underlying29 hi032 Ao15 t463.length co15 (ji27) (of_decide_eq_true (by assumption)) q32 hroom32
        have hr32 := Kd.C_take (m := ((ji27) : Int).toNat) hC32 (by omega)
        have hy32 : y473.length = ((ji27) : Int).toNat := (by rw [Ny473.out,List.length_take];omega)
        rw [← Ny473.out] at hr32
        rw [← hy32] at hcut32
        have HR476 := aK hr32
        have HC476 := aK (show y473.length ≤ co15 from by omega)
        clear hr32 hC32 hroom32 hi032 hsz32
        have KY32 := aK hy32
        clear hy32
        have KL32 := aK (show ((ji27) : Int).toNat ≤ t463.length from by omega)
        replace q32 := eq_true q32
        go_upto_region 16 with (first|((with_reducible refine gate_callee (f := 16) rfl ?_);refine goesL_ (some 58) rfl rfl Tryd.func16 (by kernel_rfl) rfl #[.slice Ao15 y473.length co15] rfl (by (try simp only [List.map_toArray,List.map_cons,List.map_nil]);first|done|rfl|(simp only [List.length_drop,List.length_take];rfl)) ?_;(with_reducible refine (manifest_Recover.calls k2 _ _ y473 t477 t478 _ ?side1 ?side2 A30.out).mono ?_);(case side1 => repeat (first|exact (cM HR476.out)|(with_reducible refine Kd.C_alloc ?_ _)|(with_reducible refine Kd.C_drewN ?_ _)|(with_reducible refine Kd.C_drew ?_)));(case side2 => exact HC476.out);rintro e w33 ⟨v479,rfl,ho0,hb⟩;refine ⟨_,rfl,?_⟩;replace HO_7 := aK (Kd.R_below (rM HO_7.out) hb);have HO480 := aK (Kd.S_lower ho0 (below_size (bM HB.out)));replace HR476 := aK (Kd.C_below (cM HR476.out) hb);replace HB := aK (below_step (bM HB.out) hb);(try clear hb);(try clear hk);(try clear ho0)))
        (try simp only [Act.put,List.setIfInBounds_toArray,List.set_cons_zero,List.set_cons_succ])
        go_cut [71] (fun v71 wc => ∃ (kq : Nat) (x71_30 : Bool),v71 = .bool x71_30 ∧ Aside0 (codesearchlaw33_ManifestTorn.j2 kq l0 l2 t463 (ji27) x9_2 x71_30 = some r) ∧ Aside0 (kq ≤ k2) ∧ Aside0 (Kd.R (Kd.int .u8) 5 wc w.heap.size (fun _ => True) (.slice Ao15 t463.length co15) t463) ∧ Aside0 (Kd.C (Kd.int .u8) wc Ao15 y473.length y473) ∧ Aside0 (Below w.heap.size w wc))
        case first =>
         have H := HC31.out
         clear HC31
         by_cases c34 : t478 = x10_2
         ·rw [if_pos c34] at H
          have c34b0 := beq_iff_eq.mpr c34
          have c34b1 := bne_eq_false_iff_eq.mpr c34
          clear c34
          (first|rw [c34b0]|(simp only [i64_w,i32_w];rw [c34b0])|rw [c34b1]|skip)
          obtain ⟨c35,H⟩ := iS H
          have c35b0 := eq_true c35
          have c35b1 := decide_eq_true c35
          clear c35
          obtain ⟨c36,H⟩ := iS H
          have c36b0 := eq_true c36
          have c36b1 := decide_eq_true c36
          clear c36
          obtain ⟨y481,hy481⟩ : ∃ y_ : List (S37),y_ = (l0.take (x9_2 : Int).toNat) := ⟨_,rfl⟩
          replace H : ((codesearchref33_SameAll.f k2 t477 y481).bind fun t485 => (codesearchlaw33_ManifestTorn.j2 k2 l0 l2 t463 (ji27) x9_2 (!t485))) = some r := by first|(rw [hy481];with_reducible exact H)|(have H2_ := (Option.bind_some _ _).symm.trans H;rw [hy481];with_reducible exact H2_)|(have H2_ := (Option.bind_some _ _).symm.trans H;with_reducible exact H2_)|with_reducible exact H|(rw [hy481];exact H)|exact H
          have Ny481 := aK hy481
          clear hy481
          replace H := Option.bind_eq_some_iff.mp H
          obtain ⟨t485,A370,H⟩ := H
          have A37 := aK A370
          clear A370
          have H' := aK H
          clear H
          have q38 : (x9_2 : Int) ≤ ((l0.length : Int) : Int) := of_decide_eq_true (by assumption)
          obtain ⟨i038,hi038,_,hsz38,_⟩ := info_parts info37
          have hroom38 : l0.length ≤ c0 := HC0.out
          have hC38 : Kd.C k37 _ A0 l0.length l0 := HR0.out
          have hcut38 := cut_to (P := Tryd.prog) 22 37 .i64 Tryd.underlying22 hi038 A0 l0.length c0 x9_2 (of_decide_eq_true (by assumption)) q38 hroom38
          have hr38 := Kd.C_take (m := (x9_2 : Int).toNat) hC38 (by omega)
          have hy38 : y481.length = (x9_2 : Int).toNat := (by rw [Ny481.out,List.length_take];omega)
          rw [← Ny481.out] at hr38
          rw [← hy38] at hcut38
          have HR484 := aK hr38
          have HC484 := aK (show y481.length ≤ c0 from by omega)
          clear hr38 hC38 hroom38 hi038 hsz38
          have KY38 := aK hy38
          clear hy38
          replace q38 := eq_true q38
          obtain ⟨Ao39,co39,eo39⟩ := Kd.S_slice HO480.out
          subst eo39
          go_wp2_with (first|(go_at_call 17;(with_reducible refine (codesearchref33_SameAll.calls k2 _ _ t477 _ _ y481 t485 _ ?side1 ?side2 ?side3 ?side4 A37.out).mono ?_);(case side1 => exact cM (Kd.S_reads' HO480.out).2.2);(case side2 => exact (Kd.S_reads' HO480.out).2.1);(case side3 => exact cM (Kd.C_below HR484.out HB.out));(case side4 => exact HC484.out);rintro e w40 ⟨rfl,hb⟩;replace HO_7 := aK (Kd.R_below (rM HO_7.out) hb);replace HR476 := aK (Kd.C_below (cM HR476.out) hb);replace HB := aK (below_step (bM HB.out) hb);(try clear hb);(try clear hk)))
          go_meet
          case rel => exact ⟨_,(!t485),(by first|rfl|(simp;done)|(simp [*];done)),H',⟨by have := HJ5.out;have := HK2.out;first|omega|exact Nat.le_refl _⟩,⟨rM HO_7.out⟩,⟨by repeat (first|(with_reducible exact HR476.out)|(with_reducible refine Kd.C_alloc ?_ _)|(with_reducible refine Kd.C_drewN ?_ _)|(with_reducible refine Kd.C_drew ?_)|exact HR476.out)⟩,⟨bM HB.out⟩⟩
         ·rw [if_neg c34] at H
          have c34b0 := beq_eq_false_iff_ne.mpr c34
          have c34b1 := bne_iff_ne.mpr c34
          (first|rw [c34b0]|(simp only [i64_w,i32_w];rw [c34b0])|rw [c34b1]|skip)
          have H' := aK H
          clear H
          go_wp2
          go_meet
          case rel => exact ⟨_,(true),(by first|rfl|(simp;done)|(simp [*];done)),H',⟨by have := HJ5.out;have := HK2.out;first|omega|exact Nat.le_refl _⟩,⟨rM HO_7.out⟩,⟨by repeat (first|(with_reducible exact HR476.out)|(with_reducible refine Kd.C_alloc ?_ _)|(with_reducible refine Kd.C_drewN ?_ _)|(with_reducible refine Kd.C_drew ?_)|exact HR476.out)⟩,⟨bM HB.out⟩⟩
        case rest =>
         clear HC31
         try clear p2
         try clear q2
         try clear q3
         try clear p6
         try clear c16
         try clear c16b0
         try clear q21
         try clear q24
         try clear c28
         try clear c28b0
         try clear c28b1
         try clear c29
         try clear c29b0
         try clear c29b1
         try clear q32
         try clear q38
         try clear p2
         try clear p6
         try clear q21
         try clear q24
         try clear q32
         try clear q38
         obtain ⟨kq,x71_30,rfl,HA,HJ30,HO_7,HR476,HB⟩ := hcut
         cases kq with
        |zero => exact absurd HA.out (by simp [codesearchlaw33_ManifestTorn.j2])
        |succ kj30 =>
          have H := HA.out
          clear HA
          simp only [codesearchlaw33_ManifestTorn.j2] at H
          by_cases c41 : x71_30 = true
          ·subst c41
           rw [if_pos rfl] at H
           obtain rfl := Option.some.inj H
           go_wp2
           go_ret
           exact ⟨by first|rfl|(simp [errW_none,errW_some] <;> rfl)|(simp only [← hji27];first|rfl|(simp [errW_none,errW_some] <;> rfl))|(simp [*,errW_none,errW_some] <;> rfl),bM HB.out⟩
          ·replace c41 := Bool.eq_false_iff.mpr c41
           subst c41
           rw [if_neg (show ¬ (false = true) by decide)] at H
           have H' := aK H
           clear H
           go_wp2
           go_loopg [15,16] kj30 (fun kq v15 v16 w' => ∃ (x15_4 : List Int) (x16_4 : Int),v16 = .int .i64 x16_4 ∧ Aside0 (codesearchlaw33_ManifestTorn.l1 kq l0 l2 t463 (ji27) x9_2 x15_4 x16_4 = some r) ∧ Aside0 (kq ≤ kj30) ∧ Aside0 (Kd.R (Kd.int .u8) 5 w' w.heap.size (fun k_ => some k_ ≠ (v15 : Value).ownBlock) (.slice Ao15 t463.length co15) t463) ∧ Aside0 (Kd.R (Kd.int .u8) 5 w' w.heap.size (fun k_ => some k_ ≠ ((.slice Ao15 t463.length co15) : Value).ownBlock) v15 x15_4) ∧ Aside0 (Kd.C (Kd.int .u8) w' Ao15 y473.length y473) ∧ Aside0 (Below w.heap.size w w'))
           case atStart => exact ⟨(([] : List Int)),(0),(by first|rfl|(simp;done)|(simp [*];done)),H',⟨Nat.le_refl _⟩,⟨rM (Kd.R_mono HO_7.out (fun _ hk => (by simp [Value.ownBlock])))⟩,⟨by first|exact Kd.R_nil _ _ _ _ _|exact Kd.N_nil _ _ _ _ _|exact Kd.V_nil _ _ _ _ _|exact Kd.Q_nil _ _ _ _ _|exact Kd.S_nil _ _ _ _ _⟩,⟨by repeat (first|(with_reducible exact HR476.out)|(with_reducible refine Kd.C_alloc ?_ _)|(with_reducible refine Kd.C_drewN ?_ _)|(with_reducible refine Kd.C_drew ?_)|exact HR476.out)⟩,⟨bM HB.out⟩⟩
           case round =>
            clear H'
            try clear p2
            try clear q2
            try clear q3
            try clear p6
            try clear q21
            try clear q24
            try clear q32
            try clear q38
            try clear c41
            try clear p2
            try clear p6
            try clear q2
            try clear q21
            try clear q24
            try clear q3
            try clear q32
            try clear q38
            obtain ⟨x15_4,x16_4,rfl,HA,HK4,HO_7,HO_15,HR476,HB⟩ := hrel
            cases gk with
           |zero => exact absurd HA.out (by simp [codesearchlaw33_ManifestTorn.l1])
           |succ k4 =>
             have H := HA.out
             clear HA
             simp only [codesearchlaw33_ManifestTorn.l1] at H
             by_cases c42 : x16_4 < (ji27)
             ·rw [if_pos c42] at H
              have c42b0 := decide_eq_true c42
              clear c42
              obtain ⟨c43,H⟩ := iS H
              have c43b0 := decide_eq_true c43
              clear c43
              obtain ⟨c44,H⟩ := iS H
              have c44b0 := decide_eq_true c44
              clear c44
              obtain ⟨c45,H⟩ := iS H
              have LMc45 := aK c45
              clear c45
              obtain ⟨y487,hy487⟩ : ∃ y_ : List Int,y_ = (x15_4 ++ [rd t463 x16_4]) := ⟨_,rfl⟩
              replace H : (codesearchlaw33_ManifestTorn.l1 k4 l0 l2 t463 (ji27) x9_2 y487 (wrap64 (x16_4 + 1))) = some r := by first|(rw [hy487];with_reducible exact H)|(have H2_ := (Option.bind_some _ _).symm.trans H;rw [hy487];with_reducible exact H2_)|(have H2_ := (Option.bind_some _ _).symm.trans H;with_reducible exact H2_)|with_reducible exact H|(rw [hy487];exact H)|exact H
              have Ny487 := aK hy487
              clear hy487
              have H' := aK H
              clear H
              have p486 : 0 ≤ (x16_4 : Int) := of_decide_eq_true (by assumption)
              have q486 : x16_4 < (t463.length : Int) := of_decide_eq_true (by assumption)
              obtain ⟨ad486,e486,hx486_0⟩ := Kd.at_int (Kd.R_reads' HO_7.out).2.2 x16_4 p486 q486
              cases e486
              replace p486 := eq_true p486
              replace q486 := eq_true q486
              go_wp2_with (first|((with_reducible refine gate_builtin (b := .append) (xs := #[.tmp 77,.tmp 82]) rfl ?_);at_builtin;refine Kd.R_append (Kd.int .u8) (w0 := w) w.heap.size rfl (.tmp 77) (.tmp 82) 29 5 (.int .u8 0) 1 rfl Tryd.underlying29 info5 rfl (by decide) (by omega) u15 x15_4 (rd t463 x16_4) [.int .u8 (rd t463 x16_4)] (fun k_ => some k_ ≠ (.slice (some ad486) t463.length co15 : Value).ownBlock) (fun _ => False) rfl rfl ?aP (fun _ hk => hk.elim) ?aF ?aO ?aB ?aS ?aL ?_;(case aP => exact rfl);(case aB => exact (bM HB.out));(case aF => exact (fun k_ hk => Kd.fresh' (Kd.R_lt (rM HO_7.out)) k_ hk));(case aO => exact (rM HO_15.out));(case aS => exact (below_size (bM HB.out)));(case aL => have := LMc45.out;omega);intro v488 w46 ho hb hg hat;rw [← Ny487.out] at ho;replace HB := aK (hb);replace HR476 := aK ((show Kd.C (Kd.int .u8) w46 (some ad486) y473.length y473 from by rw [Ny473.out];exact Kd.C_take (m := ((ji27) : Int).toNat) ((Kd.R_reads' (Kd.R_after (ok := (fun _ => True)) (by (with_reducible repeat (first|apply Kd.R_alloc|apply Kd.R_drewN|apply Kd.R_drew));exact Kd.R_mono HO_7.out (fun _ hk => ⟨trivial,hk⟩)) hg hat)).2.2) KL32.out));replace HO_7 := aK (Kd.R_after (ok := (fun _ => True)) (by (with_reducible repeat (first|apply Kd.R_alloc|apply Kd.R_drewN|apply Kd.R_drew));exact Kd.R_mono HO_7.out (fun _ hk => ⟨trivial,hk⟩)) hg hat);have HO489 := aK (ho);clear ho hb hg hat))
              go_roundg k4
              case measure => have := HJ5.out;have := HK2.out;have := HJ30.out;have := HK4.out;omega
              case rel => exact ⟨(y487),(wrap64 (x16_4 + 1)),(by first|rfl|(simp;done)|(simp [*];done)),H',⟨by have := HJ5.out;have := HK2.out;have := HJ30.out;have := HK4.out;omega⟩,⟨by (with_reducible repeat (first|apply Kd.R_alloc|apply Kd.R_drewN|apply Kd.R_drew));exact Kd.R_mono HO_7.out (fun _ hk => hk.2)⟩,⟨rM HO489.out⟩,⟨by repeat (first|(with_reducible exact HR476.out)|(with_reducible refine Kd.C_alloc ?_ _)|(with_reducible refine Kd.C_drewN ?_ _)|(with_reducible refine Kd.C_drew ?_)|exact HR476.out)⟩,⟨bM HB.out⟩⟩
             ·rw [if_neg c42] at H
              have c42b0 := decide_eq_false c42
              clear c42
              have H' := aK H
              clear H
              go_wp2
              go_loopg [15,17] k4 (fun kq v15 v17 w' => ∃ (x15_5 : List Int) (x17_5 : Int),v17 = .int .i64 x17_5 ∧ Aside0 (codesearchlaw33_ManifestTorn.l2 kq l0 l2 x9_2 x15_5 x17_5 = some r) ∧ Aside0 (kq ≤ k4) ∧ Aside0 (Kd.R (Kd.int .u8) 5 w' w.heap.size (fun _ => True) v15 x15_5) ∧ Aside0 (Below w.heap.size w w'))
              case atStart => exact ⟨(x15_4),(0),(by first|rfl|(simp;done)|(simp [*];done)),H',⟨Nat.le_refl _⟩,⟨rM (Kd.R_mono HO_15.out (fun _ hk => trivial))⟩,⟨bM HB.out⟩⟩
              case round =>
               clear H'
               try clear p2
               try clear q2
               try clear q3
               try clear p4
               try clear q4
               try clear hx4
               try clear p6
               try clear q21
               try clear q24
               try clear q32
               try clear q38
               try clear c42
               try clear c42b0
               try clear hx486_0
               try clear p2
               try clear p486
               try clear p6
               try clear q2
               try clear q21
               try clear q24
               try clear q3
               try clear q32
               try clear q38
               try clear q486
               obtain ⟨x15_5,x17_5,rfl,HA,HK5,HO_15,HB⟩ := hrel
               cases gk with
              |zero => exact absurd HA.out (by simp [codesearchlaw33_ManifestTorn.l2])
              |succ k5 =>
                have H := HA.out
                clear HA
                simp only [codesearchlaw33_ManifestTorn.l2] at H
                by_cases c47 : x17_5 < (l2.length : Int)
                ·rw [if_pos c47] at H
                 have c47b0 := decide_eq_true c47
                 clear c47
                 obtain ⟨c48,H⟩ := iS H
                 have c48b0 := decide_eq_true c48
                 clear c48
                 obtain ⟨c49,H⟩ := iS H
                 have LMc49 := aK c49
                 clear c49
                 obtain ⟨y491,hy491⟩ : ∃ y_ : List Int,y_ = (x15_5 ++ [rd l2 x17_5]) := ⟨_,rfl⟩
                 replace H : (codesearchlaw33_ManifestTorn.l2 k5 l0 l2 x9_2 y491 (wrap64 (x17_5 + 1))) = some r := by first|(rw [hy491];with_reducible exact H)|(have H2_ := (Option.bind_some _ _).symm.trans H;rw [hy491];with_reducible exact H2_)|(have H2_ := (Option.bind_some _ _).symm.trans H;with_reducible exact H2_)|with_reducible exact H|(rw [hy491];exact H)|exact H
                 have Ny491 := aK hy491
                 clear hy491
                 have H' := aK H
                 clear H
                 have p490 : 0 ≤ (x17_5 : Int) := of_decide_eq_true (by assumption)
                 have q490 : x17_5 < (l2.length : Int) := of_decide_eq_true (by assumption)
                 obtain ⟨ad490,e490,hx490_0⟩ := Kd.at_int HR2.out x17_5 p490 q490
                 cases e490
                 replace hx490_0 := xM HB hx490_0
                 replace p490 := eq_true p490
                 replace q490 := eq_true q490
                 go_wp2_with (first|((with_reducible refine gate_builtin (b := .append) (xs := #[.tmp 90,.tmp 95]) rfl ?_);at_builtin;refine Kd.R_append (Kd.int .u8) (w0 := w) w.heap.size rfl (.tmp 90) (.tmp 95) 29 5 (.int .u8 0) 1 rfl Tryd.underlying29 info5 rfl (by decide) (by omega) u15 x15_5 (rd l2 x17_5) [.int .u8 (rd l2 x17_5)] (fun _ => True) (fun _ => False) rfl rfl ?aP (fun _ hk => hk.elim) ?aF ?aO ?aB ?aS ?aL ?_;(case aP => exact rfl);(case aB => exact (bM HB.out));(case aF => exact (fun _ _ => trivial));(case aO => exact (rM HO_15.out));(case aS => exact (below_size (bM HB.out)));(case aL => have := LMc49.out;omega);intro v492 w50 ho hb hg hat;rw [← Ny491.out] at ho;replace HB := aK (hb);have HO493 := aK (ho);clear ho hb hg hat))
                 go_roundg k5
                 case measure => have := HJ5.out;have := HK2.out;have := HJ30.out;have := HK4.out;have := HK5.out;omega
                 case rel => exact ⟨(y491),(wrap64 (x17_5 + 1)),(by first|rfl|(simp;done)|(simp [*];done)),H',⟨by have := HJ5.out;have := HK2.out;have := HJ30.out;have := HK4.out;have := HK5.out;omega⟩,⟨rM HO493.out⟩,⟨bM HB.out⟩⟩
                ·rw [if_neg c47] at H
                 have c47b0 := decide_eq_false c47
                 clear c47
                 replace H := Option.bind_eq_some_iff.mp H
                 obtain ⟨⟨t494,t495⟩,A510,H⟩ := H
                 replace H : (if (t494.length : Int) ≥ x9_2 then (if 0 ≤ x9_2 then (if x9_2 ≤ (t494.length : Int) then (if x9_2 ≤ (l0.length : Int) then ((codesearchref33_SameAll.f k5 (t494.take (x9_2 : Int).toNat) (l0.take (x9_2 : Int).toNat)).bind fun t506 => (some t506)) else (none)) else (none)) else (none)) else (some false)) = some r := H
                 have A51 := aK A510
                 clear A510
                 by_cases c52 : (t494.length : Int) ≥ x9_2
                 ·rw [if_pos c52] at H
                  have c52b0 := decide_eq_true c52
                  clear c52
                  obtain ⟨c53,H⟩ := iS H
                  have c53b0 := eq_true c53
                  have c53b1 := decide_eq_true c53
                  clear c53
                  obtain ⟨c54,H⟩ := iS H
                  have c54b0 := eq_true c54
                  have c54b1 := decide_eq_true c54
                  clear c54
                  obtain ⟨y498,hy498⟩ : ∃ y_ : List (S37),y_ = (t494.take (x9_2 : Int).toNat) := ⟨_,rfl⟩
                  replace H : (if x9_2 ≤ (l0.length : Int) then ((codesearchref33_SameAll.f k5 y498 (l0.take (x9_2 : Int).toNat)).bind fun t506 => (some t506)) else (none)) = some r := by first|(rw [hy498];with_reducible exact H)|(have H2_ := (Option.bind_some _ _).symm.trans H;rw [hy498];with_reducible exact H2_)|(have H2_ := (Option.bind_some _ _).symm.trans H;with_reducible exact H2_)|with_reducible exact H|(rw [hy498];exact H)|exact H
                  have Ny498 := aK hy498
                  clear hy498
                  have c55b0 := eq_true (of_decide_eq_true (by assumption) : 0 ≤ x9_2)
                  obtain ⟨c56,H⟩ := iS H
                  have c56b0 := eq_true c56
                  have c56b1 := decide_eq_true c56
                  clear c56
                  obtain ⟨y502,hy502⟩ : ∃ y_ : List (S37),y_ = (l0.take (x9_2 : Int).toNat) := ⟨_,rfl⟩
                  replace H : ((codesearchref33_SameAll.f k5 y498 y502).bind fun t506 => (some t506)) = some r := by first|(rw [hy502];with_reducible exact H)|(have H2_ := (Option.bind_some _ _).symm.trans H;rw [hy502];with_reducible exact H2_)|(have H2_ := (Option.bind_some _ _).symm.trans H;with_reducible exact H2_)|with_reducible exact H|(rw [hy502];exact H)|exact H
                  have Ny502 := aK hy502
                  clear hy502
                  replace H := Option.bind_eq_some_iff.mp H
                  obtain ⟨t506,A570,H⟩ := H
                  have A57 := aK A570
                  clear A570
                  obtain rfl := Option.some.inj H
                  obtain ⟨Ao58,co58,eo58⟩ := Kd.R_slice HO_15.out
                  subst eo58
                  try go_wp2_with (first|((with_reducible refine gate_callee (f := 16) rfl ?_);refine goesL_ (some 99) rfl rfl Tryd.func16 (by kernel_rfl) rfl #[.slice Ao58 x15_5.length co58] rfl (by (try simp only [List.map_toArray,List.map_cons,List.map_nil]);first|done|rfl|(simp only [List.length_drop,List.length_take];rfl)) ?_;(with_reducible refine (manifest_Recover.calls k5 _ _ x15_5 t494 t495 _ ?side1 ?side2 A51.out).mono ?_);(case side1 => exact cM (Kd.R_reads' HO_15.out).2.2);(case side2 => exact (Kd.R_reads' HO_15.out).2.1);rintro e w59 ⟨v496,rfl,ho0,hb⟩;refine ⟨_,rfl,?_⟩;replace HO_15 := aK (Kd.R_below (rM HO_15.out) hb);have HO497 := aK (Kd.S_lower ho0 (below_size (bM HB.out)));replace HB := aK (below_step (bM HB.out) hb);(try clear hb);(try clear hk);(try clear ho0)))
                  have n0_ := aK (Kd.R_drew HO_15.out)
                  have n1_ := aK (Kd.S_drew HO497.out)
                  have n2_ := aK (below_drew1 HB.out)
                  clear HO_15
                  clear HO497
                  clear HB
                  have HO_15 := n0_
                  have HO497 := n1_
                  have HB := n2_
                  clear n0_ n1_ n2_
                  obtain ⟨Ao61,co61,eo61⟩ := Kd.S_slice HO497.out
                  (first|subst eo61|(injection eo61 with f1_ f2_ f3_;have f4_ := f1_.symm;have f5_ := f3_.symm;clear f1_ f2_ f3_;subst f4_;subst f5_))
                  have q62 : (x9_2 : Int) ≤ ((t494.length : Int) : Int) := of_decide_eq_true (by assumption)
                  obtain ⟨i062,hi062,_,hsz62,_⟩ := info_parts info37
                  have hroom62 : t494.length ≤ co61 := (Kd.S_reads' HO497.out).2.1
                  have hC62 : Kd.C k37 _ Ao61 t494.length t494 := (Kd.S_reads' HO497.out).2.2
                  have hcut62 := cut_to (P := Tryd.prog) 22 37 .i64 Tryd.underlying22 hi062 Ao61 t494.length co61 x9_2 (of_decide_eq_true (by assumption)) q62 hroom62
                  have hr62 := Kd.C_take (m := (x9_2 : Int).toNat) hC62 (by omega)
                  have hy62 : y498.length = (x9_2 : Int).toNat := (by rw [Ny498.out,List.length_take];omega)
                  rw [← Ny498.out] at hr62
                  rw [← hy62] at hcut62
                  have HR501 := aK hr62
                  have HC501 := aK (show y498.length ≤ co61 from by omega)
                  clear hr62 hC62 hroom62 hi062 hsz62
                  have KY62 := aK hy62
                  clear hy62
                  have KL62 := aK (show (x9_2 : Int).toNat ≤ t494.length from by omega)
                  replace q62 := eq_true q62
                  have q63 : (x9_2 : Int) ≤ ((l0.length : Int) : Int) := of_decide_eq_true (by assumption)
                  obtain ⟨i063,hi063,_,hsz63,_⟩ := info_parts info37
                  have hroom63 : l0.length ≤ c0 := HC0.out
                  have hC63 : Kd.C k37 _ A0 l0.length l0 := HR0.out
                  have hcut63 := cut_to (P := Tryd.prog) 22 37 .i64 Tryd.underlying22 hi063 A0 l0.length c0 x9_2 (of_decide_eq_true (by assumption)) q63 hroom63
                  have hr63 := Kd.C_take (m := (x9_2 : Int).toNat) hC63 (by omega)
                  have hy63 : y502.length = (x9_2 : Int).toNat := (by rw [Ny502.out,List.length_take];omega)
                  rw [← Ny502.out] at hr63
                  rw [← hy63] at hcut63
                  have HR505 := aK hr63
                  have HC505 := aK (show y502.length ≤ c0 from by omega)
                  clear hr63 hC63 hroom63 hi063 hsz63
                  have KY63 := aK hy63
                  clear hy63
                  replace q63 := eq_true q63
                  refine start_ (n := 14) (S := fun w' => True) (ds := []) #[false,false,false,false,false,false,false,false,false,false,false,false,false,false] (by kernel_rfl) rfl rfl trivial (fun hHeld => ?_);refine with_tabW codesearchlaw33_ManifestTorn.tab28 codesearchlaw33_ManifestTorn.bits28 (fun HT_ HW_ => ?_)
                  generalize w59.drew = w60 at HO_15 HO497 HB HR501 HR505 hHeld ⊢
                  refine pure_ (i := 0) (N := some 102) (v := ?_) (a' := ?_) #[true,false,false,false,false,false,false,false,false,false,false,false,false,false] rfl rfl (any_of HT_.out (by kernel_rfl)) (fun _ _ _ h => h) (Or.inl ⟨by rfl,?_⟩) ?_ ?_
                  rotate_left
                  ·intro w'
                   go_simp
                   with_reducible rfl
                  rotate_left
                  ·simp only [Act.put,List.setIfInBounds_toArray,List.set_cons_zero,List.set_cons_succ,i64_w,i32_w]
                   rfl
                  refine pure_ (i := 1) (N := some 103) (v := ?_) (a' := ?_) #[true,true,false,false,false,false,false,false,false,false,false,false,false,false] rfl rfl (any_of HT_.out (by kernel_rfl)) (fun _ _ _ h => h) (Or.inl ⟨by rfl,?_⟩) ?_ ?_
                  rotate_left
                  ·intro w'
                   go_simp
                   with_reducible rfl
                  rotate_left
                  ·simp only [Act.put,List.setIfInBounds_toArray,List.set_cons_zero,List.set_cons_succ,i64_w,i32_w]
                   rfl
                  refine pure_ (i := 2) (N := some 104) (v := ?_) (a' := ?_) #[true,true,true,false,false,false,false,false,false,false,false,false,false,false] rfl rfl (any_of HT_.out (by kernel_rfl)) (fun _ _ _ h => h) (Or.inl ⟨by rfl,?_⟩) ?_ ?_
                  rotate_left
                  ·intro w'
                   go_simp
                   with_reducible rfl
                  rotate_left
                  ·simp only [Act.put,List.setIfInBounds_toArray,List.set_cons_zero,List.set_cons_succ,i64_w,i32_w]
                   rfl
                  refine pure_ (i := 3) (N := some 105) (v := ?_) (a' := ?_) #[true,true,true,true,false,false,false,false,false,false,false,false,false,false] rfl rfl (any_of HT_.out (by kernel_rfl)) (fun _ _ _ h => h) (Or.inl ⟨by rfl,?_⟩) ?_ ?_
                  rotate_left
                  ·intro w'
                   go_simp
                   with_reducible rfl
                  rotate_left
                  ·simp only [Act.put,List.setIfInBounds_toArray,List.set_cons_zero,List.set_cons_succ,i64_w,i32_w]
                   rfl
                  refine pure_ (i := 4) (N := some 106) (v := ?_) (a' := ?_) #[true,true,true,true,true,false,false,false,false,false,false,false,false,false] rfl rfl (any_of HT_.out (by kernel_rfl)) (fun _ _ _ h => h) (Or.inl ⟨by rfl,?_⟩) ?_ ?_
                  rotate_left
                  ·intro w'
                   go_simp
                   with_reducible rfl
                  rotate_left
                  ·simp only [Act.put,List.setIfInBounds_toArray,List.set_cons_zero,List.set_cons_succ,i64_w,i32_w]
                   rfl
                  refine pure_ (i := 5) (N := some 107) (v := ?_) (a' := ?_) #[true,true,true,true,true,true,false,false,false,false,false,false,false,false] rfl rfl (any_of HT_.out (by kernel_rfl)) (fun _ _ _ h => h) (Or.inl ⟨by rfl,?_⟩) ?_ ?_
                  rotate_left
                  ·intro w'
                   go_simp
                   with_reducible rfl
                  rotate_left
                  ·simp only [Act.put,List.setIfInBounds_toArray,List.set_cons_zero,List.set_cons_succ,i64_w,i32_w]
                   rfl
                  refine pure_ (i := 6) (N := some 108) (v := ?_) (a' := ?_) #[true,true,true,true,true,true,true,false,false,false,false,false,false,false] rfl rfl (any_of HT_.out (by kernel_rfl)) (fun _ _ _ h => h) (Or.inl ⟨by rfl,?_⟩) ?_ ?_
                  rotate_left
                  ·intro w'
                   go_simp
                   with_reducible rfl
                  rotate_left
                  ·simp only [Act.put,List.setIfInBounds_toArray,List.set_cons_zero,List.set_cons_succ,i64_w,i32_w]
                   rfl
                  refine pure_ (i := 7) (N := some 109) (v := ?_) (a' := ?_) #[true,true,true,true,true,true,true,true,false,false,false,false,false,false] rfl rfl (any_of HT_.out (by kernel_rfl)) (fun _ _ _ h => h) (Or.inl ⟨by rfl,?_⟩) ?_ ?_
                  rotate_left
                  ·intro w'
                   go_simp
                   with_reducible rfl
                  rotate_left
                  ·simp only [Act.put,List.setIfInBounds_toArray,List.set_cons_zero,List.set_cons_succ,i64_w,i32_w]
                   rfl
                  refine pure_ (i := 8) (N := some 110) (v := ?_) (a' := ?_) #[true,true,true,true,true,true,true,true,true,false,false,false,false,false] rfl rfl (any_of HT_.out (by kernel_rfl)) (fun _ _ _ h => h) (Or.inl ⟨by rfl,?_⟩) ?_ ?_
                  rotate_left
                  ·intro w'
                   go_simp
                   with_reducible rfl
                  rotate_left
                  ·simp only [Act.put,List.setIfInBounds_toArray,List.set_cons_zero,List.set_cons_succ,i64_w,i32_w]
                   rfl
                  refine pure_ (i := 9) (N := some 111) (v := ?_) (a' := ?_) #[true,true,true,true,true,true,true,true,true,true,false,false,false,false] rfl rfl (any_of HT_.out (by kernel_rfl)) (fun _ _ _ h => h) (Or.inl ⟨by rfl,?_⟩) ?_ ?_
                  rotate_left
                  ·intro w'
                   go_simp
                   with_reducible rfl
                  rotate_left
                  ·simp only [Act.put,List.setIfInBounds_toArray,List.set_cons_zero,List.set_cons_succ,i64_w,i32_w]
                   rfl
                  refine pure_ (i := 10) (N := some 112) (v := ?_) (a' := ?_) #[true,true,true,true,true,true,true,true,true,true,true,false,false,false] rfl rfl (any_of HT_.out (by kernel_rfl)) (fun _ _ _ h => h) (Or.inl ⟨by rfl,?_⟩) ?_ ?_
                  rotate_left
                  ·intro w'
                   go_simp
                   with_reducible rfl
                  rotate_left
                  ·simp only [Act.put,List.setIfInBounds_toArray,List.set_cons_zero,List.set_cons_succ,i64_w,i32_w]
                   rfl
                  refine one_ (i := 11) (N := some 113) #[true,true,true,true,true,true,true,true,true,true,true,true,false,false] rfl rfl (one_of HT_.out (by kernel_rfl)) (by decide) (fun K hK => ?_)
                  refine goes_ Tryd.func17 (by kernel_rfl) rfl #[.slice Ao61 y498.length co61,.slice A0 y502.length c0] (by rfl) rfl rfl (by (try simp only [List.map_toArray,List.map_cons,List.map_nil]);first|done|rfl|(simp only [List.length_drop,List.length_take];rfl)) ?_
                  with_reducible refine (codesearchref33_SameAll.calls k5 _ _ y498 _ _ y502 t506 _ ?side1 ?side2 ?side3 ?side4 A57.out).mono ?_
                  (case side1 => repeat (first|exact (cM HR501.out)|(with_reducible refine Kd.C_alloc ?_ _)|(with_reducible refine Kd.C_drewN ?_ _)|(with_reducible refine Kd.C_drew ?_)))
                  (case side2 => exact HC501.out)
                  (case side3 => exact cM (Kd.C_below HR505.out HB.out))
                  (case side4 => exact HC505.out)
                  rintro e w64 ⟨rfl,hb⟩
                  refine ⟨_,rfl,?_⟩
                  have n0_ := aK (Kd.R_below (rM HO_15.out) hb)
                  have n1_ := aK (Kd.S_below (by (with_reducible repeat (first|apply Kd.S_alloc|apply Kd.S_drewN|apply Kd.S_drew));exact HO497.out) hb)
                  have n2_ := aK (Kd.C_below (cM HR501.out) hb)
                  have n3_ := aK (below_step (bM HB.out) hb)
                  clear HO_15
                  clear HO497
                  clear HR501
                  clear HB
                  have HO_15 := n0_
                  have HO497 := n1_
                  have HR501 := n2_
                  have HB := n3_
                  clear n0_ n1_ n2_ n3_
                  (try clear hb)
                  
                  (try clear hk)
                  
                  refine hK.out _ _ trivial (fun hHeld => ?_)
                  clear hK K
                  refine norm_ (a' := ?_) ?_ ?_
                  rotate_left
                  ·show Act.put _ (some 113) _ = _
                   simp only [Act.put,List.setIfInBounds_toArray,List.set_cons_zero,List.set_cons_succ,i64_w,i32_w]
                   rfl
                  refine pure_ (i := 12) (N := some 114) (v := ?_) (a' := ?_) #[true,true,true,true,true,true,true,true,true,true,true,true,true,false] rfl rfl (any_of HT_.out (by kernel_rfl)) (fun _ _ _ h => h) (Or.inl ⟨by rfl,?_⟩) ?_ ?_
                  rotate_left
                  ·intro w'
                   go_simp
                   with_reducible rfl
                  rotate_left
                  ·simp only [Act.put,List.setIfInBounds_toArray,List.set_cons_zero,List.set_cons_succ,i64_w,i32_w]
                   rfl
                  refine pure_ (i := 13) (N := some 6) (v := ?_) (a' := ?_) #[true,true,true,true,true,true,true,true,true,true,true,true,true,true] rfl rfl (any_of HT_.out (by kernel_rfl)) (fun _ _ _ h => h) (Or.inl ⟨by rfl,?_⟩) ?_ ?_
                  rotate_left
                  ·intro w'
                   go_simp
                   with_reducible rfl
                  rotate_left
                  ·simp only [Act.put,List.setIfInBounds_toArray,List.set_cons_zero,List.set_cons_succ,i64_w,i32_w]
                   rfl
                  refine done_ (done_of HT_.out (by kernel_rfl)) ?_
                  try go_wp2
                  go_ret
                  exact ⟨by first|rfl|(simp [errW_none,errW_some] <;> rfl)|(simp only [← hji27];first|rfl|(simp [errW_none,errW_some] <;> rfl))|(simp [*,errW_none,errW_some] <;> rfl),bM HB.out⟩
                 ·rw [if_neg c52] at H
                  have c52b0 := decide_eq_false c52
                  clear c52
                  obtain rfl := Option.some.inj H
                  obtain ⟨Ao65,co65,eo65⟩ := Kd.R_slice HO_15.out
                  subst eo65
                  try go_wp2_with (first|((with_reducible refine gate_callee (f := 16) rfl ?_);refine goesL_ (some 99) rfl rfl Tryd.func16 (by kernel_rfl) rfl #[.slice Ao65 x15_5.length co65] rfl (by (try simp only [List.map_toArray,List.map_cons,List.map_nil]);first|done|rfl|(simp only [List.length_drop,List.length_take];rfl)) ?_;(with_reducible refine (manifest_Recover.calls k5 _ _ x15_5 t494 t495 _ ?side1 ?side2 A51.out).mono ?_);(case side1 => exact cM (Kd.R_reads' HO_15.out).2.2);(case side2 => exact (Kd.R_reads' HO_15.out).2.1);rintro e w66 ⟨v496,rfl,ho0,hb⟩;refine ⟨_,rfl,?_⟩;replace HO_15 := aK (Kd.R_below (rM HO_15.out) hb);have HO497 := aK (Kd.S_lower ho0 (below_size (bM HB.out)));replace HB := aK (below_step (bM HB.out) hb);(try clear hb);(try clear hk);(try clear ho0)))
                  have n0_ := aK (Kd.R_drew HO_15.out)
                  have n1_ := aK (Kd.S_drew HO497.out)
                  have n2_ := aK (below_drew1 HB.out)
                  clear HO_15
                  clear HO497
                  clear HB
                  have HO_15 := n0_
                  have HO497 := n1_
                  have HB := n2_
                  clear n0_ n1_ n2_
                  obtain ⟨Ao68,co68,eo68⟩ := Kd.S_slice HO497.out
                  (first|subst eo68|(injection eo68 with f1_ f2_ f3_;have f4_ := f1_.symm;have f5_ := f3_.symm;clear f1_ f2_ f3_;subst f4_;subst f5_))
                  refine start_ (n := 14) (S := fun w' => True) (ds := []) #[false,false,false,false,false,false,false,false,false,false,false,false,false,false] (by kernel_rfl) rfl rfl trivial (fun hHeld => ?_);refine with_tabW codesearchlaw33_ManifestTorn.tab28 codesearchlaw33_ManifestTorn.bits28 (fun HT_ HW_ => ?_)
                  generalize w66.drew = w67 at HO_15 HO497 HB hHeld ⊢
                  refine pure_ (i := 0) (N := some 102) (v := ?_) (a' := ?_) #[true,false,false,false,false,false,false,false,false,false,false,false,false,false] rfl rfl (any_of HT_.out (by kernel_rfl)) (fun _ _ _ h => h) (Or.inl ⟨by rfl,?_⟩) ?_ ?_
                  rotate_left
                  ·intro w'
                   go_simp
                   with_reducible rfl
                  rotate_left
                  ·simp only [Act.put,List.setIfInBounds_toArray,List.set_cons_zero,List.set_cons_succ,i64_w,i32_w]
                   rfl
                  refine pure_ (i := 1) (N := some 103) (v := ?_) (a' := ?_) #[true,true,false,false,false,false,false,false,false,false,false,false,false,false] rfl rfl (any_of HT_.out (by kernel_rfl)) (fun _ _ _ h => h) (Or.inl ⟨by rfl,?_⟩) ?_ ?_
                  rotate_left
                  ·intro w'
                   go_simp
                   with_reducible rfl
                  rotate_left
                  ·simp only [Act.put,List.setIfInBounds_toArray,List.set_cons_zero,List.set_cons_succ,i64_w,i32_w]
                   rfl
                  refine pure_ (i := 2) (N := some 104) (v := ?_) (a' := ?_) #[true,true,true,false,false,false,false,false,false,false,false,false,false,false] rfl rfl (any_of HT_.out (by kernel_rfl)) (fun _ _ _ h => h) (Or.inl ⟨by rfl,?_⟩) ?_ ?_
                  rotate_left
                  ·intro w'
                   go_simp
                   with_reducible rfl
                  rotate_left
                  ·simp only [Act.put,List.setIfInBounds_toArray,List.set_cons_zero,List.set_cons_succ,i64_w,i32_w]
                   rfl
                  refine pure_ (i := 3) (N := some 105) (v := ?_) (a' := ?_) #[true,true,true,true,false,false,false,false,false,false,false,false,false,false] rfl rfl (any_of HT_.out (by kernel_rfl)) (fun _ _ _ h => h) (Or.inl ⟨by rfl,?_⟩) ?_ ?_
                  rotate_left
                  ·intro w'
                   go_simp
                   with_reducible rfl
                  rotate_left
                  ·simp only [Act.put,List.setIfInBounds_toArray,List.set_cons_zero,List.set_cons_succ,i64_w,i32_w]
                   rfl
                  refine pure_ (i := 4) (N := some 106) (v := ?_) (a' := ?_) #[true,true,true,true,true,false,false,false,false,false,false,false,false,false] rfl rfl (any_of HT_.out (by kernel_rfl)) (fun _ _ _ h => h) (Or.inl ⟨by rfl,?_⟩) ?_ ?_
                  rotate_left
                  ·intro w'
                   go_simp
                   with_reducible rfl
                  rotate_left
                  ·simp only [Act.put,List.setIfInBounds_toArray,List.set_cons_zero,List.set_cons_succ,i64_w,i32_w]
                   rfl
                  refine pure_ (i := 5) (N := some 107) (v := undef) (a' := ?_) #[true,true,true,true,true,true,false,false,false,false,false,false,false,false] rfl rfl (any_of HT_.out (by kernel_rfl)) (fun _ _ _ h => h) (Or.inr ⟨by rfl,rfl⟩) ?_ ?_
                  rotate_left
                  ·simp only [Act.put,List.setIfInBounds_toArray,List.set_cons_zero,List.set_cons_succ,i64_w,i32_w]
                   rfl
                  refine pure_ (i := 6) (N := some 108) (v := undef) (a' := ?_) #[true,true,true,true,true,true,true,false,false,false,false,false,false,false] rfl rfl (any_of HT_.out (by kernel_rfl)) (fun _ _ _ h => h) (Or.inr ⟨by rfl,rfl⟩) ?_ ?_
                  rotate_left
                  ·simp only [Act.put,List.setIfInBounds_toArray,List.set_cons_zero,List.set_cons_succ,i64_w,i32_w]
                   rfl
                  refine pure_ (i := 7) (N := some 109) (v := undef) (a' := ?_) #[true,true,true,true,true,true,true,true,false,false,false,false,false,false] rfl rfl (any_of HT_.out (by kernel_rfl)) (fun _ _ _ h => h) (Or.inr ⟨by rfl,rfl⟩) ?_ ?_
                  rotate_left
                  ·simp only [Act.put,List.setIfInBounds_toArray,List.set_cons_zero,List.set_cons_succ,i64_w,i32_w]
                   rfl
                  refine pure_ (i := 8) (N := some 110) (v := undef) (a' := ?_) #[true,true,true,true,true,true,true,true,true,false,false,false,false,false] rfl rfl (any_of HT_.out (by kernel_rfl)) (fun _ _ _ h => h) (Or.inr ⟨by rfl,rfl⟩) ?_ ?_
                  rotate_left
                  ·simp only [Act.put,List.setIfInBounds_toArray,List.set_cons_zero,List.set_cons_succ,i64_w,i32_w]
                   rfl
                  refine pure_ (i := 9) (N := some 111) (v := undef) (a' := ?_) #[true,true,true,true,true,true,true,true,true,true,false,false,false,false] rfl rfl (any_of HT_.out (by kernel_rfl)) (fun _ _ _ h => h) (Or.inr ⟨by rfl,rfl⟩) ?_ ?_
                  rotate_left
                  ·simp only [Act.put,List.setIfInBounds_toArray,List.set_cons_zero,List.set_cons_succ,i64_w,i32_w]
                   rfl
                  refine pure_ (i := 10) (N := some 112) (v := undef) (a' := ?_) #[true,true,true,true,true,true,true,true,true,true,true,false,false,false] rfl rfl (any_of HT_.out (by kernel_rfl)) (fun _ _ _ h => h) (Or.inr ⟨by rfl,rfl⟩) ?_ ?_
                  rotate_left
                  ·simp only [Act.put,List.setIfInBounds_toArray,List.set_cons_zero,List.set_cons_succ,i64_w,i32_w]
                   rfl
                  refine pure_ (i := 11) (N := some 113) (v := undef) (a' := ?_) #[true,true,true,true,true,true,true,true,true,true,true,true,false,false] rfl rfl (any_of HT_.out (by kernel_rfl)) (fun _ _ _ h => h) (Or.inr ⟨by rfl,rfl⟩) ?_ ?_
                  rotate_left
                  ·simp only [Act.put,List.setIfInBounds_toArray,List.set_cons_zero,List.set_cons_succ,i64_w,i32_w]
                   rfl
                  refine pure_ (i := 12) (N := some 114) (v := ?_) (a' := ?_) #[true,true,true,true,true,true,true,true,true,true,true,true,true,false] rfl rfl (any_of HT_.out (by kernel_rfl)) (fun _ _ _ h => h) (Or.inl ⟨by rfl,?_⟩) ?_ ?_
                  rotate_left
                  ·intro w'
                   go_simp
                   with_reducible rfl
                  rotate_left
                  ·simp only [Act.put,List.setIfInBounds_toArray,List.set_cons_zero,List.set_cons_succ,i64_w,i32_w]
                   rfl
                  refine pure_ (i := 13) (N := some 6) (v := ?_) (a' := ?_) #[true,true,true,true,true,true,true,true,true,true,true,true,true,true] rfl rfl (any_of HT_.out (by kernel_rfl)) (fun _ _ _ h => h) (Or.inl ⟨by rfl,?_⟩) ?_ ?_
                  rotate_left
                  ·intro w'
                   go_simp
                   with_reducible rfl
                  rotate_left
                  ·simp only [Act.put,List.setIfInBounds_toArray,List.set_cons_zero,List.set_cons_succ,i64_w,i32_w]
                   rfl
                  refine done_ (done_of HT_.out (by kernel_rfl)) ?_
                  try go_wp2
                  go_ret
                  exact ⟨by first|rfl|(simp [errW_none,errW_some] <;> rfl)|(simp only [← hji27];first|rfl|(simp [errW_none,errW_some] <;> rfl))|(simp [*,errW_none,errW_some] <;> rfl),bM HB.out⟩
 ·replace c5 := Bool.eq_false_iff.mpr c5
  subst c5
  rw [if_neg (show ¬ (false = true) by decide)] at H
  obtain rfl := Option.some.inj H
  go_enter Tryd.func4,Tryd.ntmps4
  go_wp2_with (first|((with_reducible refine gate_callee (f := 7) rfl ?_);refine goesL_ (some 20) rfl rfl Tryd.func7 (by kernel_rfl) rfl #[] rfl (by (try simp only [List.map_toArray,List.map_cons,List.map_nil]);first|done|rfl|(simp only [List.length_drop,List.length_take];rfl)) ?_;(with_reducible refine (codesearchlaw33_alive.calls k  false _ A4.out).mono ?_);rintro e w69 ⟨rfl,hb⟩;refine ⟨_,rfl,?_⟩;replace HB := aK (below_step (bM HB.out) hb);(try clear hb);(try clear hk)))
  go_ret
  exact ⟨by first|rfl|(simp [errW_none,errW_some] <;> rfl)|(simp [*,errW_none,errW_some] <;> rfl),bM HB.out⟩

end Go.Proofs.YtmgliocboeifdaaDoor.T
