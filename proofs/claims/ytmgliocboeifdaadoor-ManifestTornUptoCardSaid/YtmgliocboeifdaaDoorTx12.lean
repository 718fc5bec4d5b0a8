-- Written by hp.py, a program of this session, over the kit's print of the translation. Not trusted: Lean checks it.
import Derived.Test.YtmgliocboeifdaaDoorTx0
import Derived.Test.YtmgliocboeifdaaDoorTx6
import Derived.Test.YtmgliocboeifdaaDoorTx9
import Derived.Test.YtmgliocboeifdaaDoorTx11
namespace Go.Proofs.YtmgliocboeifdaaDoor.T
open Go.RowKit Go.Proofs.YtmgliocboeifdaaDoorW.PrintWords Go.Proofs.YtmgliocboeifdaaDoorW.PrintLast Go.Proofs.YtmgliocboeifdaaDoorW.PrintMore
attribute [local go_sem] max2_int min2_int max_two min_two max_three min_three max_four min_four   -- for this text's walks alone
set_option linter.unusedVariables false
set_option linter.unusedSimpArgs false

/-! ### manifest_fields: function 47 -/
mutual
def manifest_fields.j0 : Nat → Bool → Int → Int → Int → List Int → List Int → List ByteArray → Option (Bool)
|0,_,_,_,_,_,_,_ => none
|k + 1,x3,x345000,x345001,x345002,x345003,x345004,x345005 => if x345001 = 2 then (manifest_fields.j1 k x3 true x345000 x345001 x345002 x345003 x345004 x345005) else (manifest_fields.j1 k x3 (x345001 == 4) x345000 x345001 x345002 x345003 x345004 x345005)
def manifest_fields.j1 : Nat → Bool → Bool → Int → Int → Int → List Int → List Int → List ByteArray → Option (Bool)
|0,_,_,_,_,_,_,_,_ => none
|k + 1,x3,x4,x345000,x345001,x345002,x345003,x345004,x345005 => if x345001 < 1 then (manifest_fields.j2 k x3 x4 true x345000 x345001 x345002 x345003 x345004 x345005) else (manifest_fields.j2 k x3 x4 (decide (x345001 > 4)) x345000 x345001 x345002 x345003 x345004 x345005)
def manifest_fields.j2 : Nat → Bool → Bool → Bool → Int → Int → Int → List Int → List Int → List ByteArray → Option (Bool)
|0,_,_,_,_,_,_,_,_,_ => none
|k + 1,x3,x4,x21,x345000,x345001,x345002,x345003,x345004,x345005 => if x21 = true then (some false) else (if x3 = true then (manifest_fields.j3 k x3 x4 false x345000 x345001 x345002 x345003 x345004 x345005) else (manifest_fields.j3 k x3 x4 (x345002 != 0) x345000 x345001 x345002 x345003 x345004 x345005))
def manifest_fields.j3 : Nat → Bool → Bool → Bool → Int → Int → Int → List Int → List Int → List ByteArray → Option (Bool)
|0,_,_,_,_,_,_,_,_,_ => none
|k + 1,x3,x4,x30,x345000,x345001,x345002,x345003,x345004,x345005 => if x30 = true then (manifest_fields.j4 k x3 x30 x345000 x345001 x345002 x345003 x345004 x345005) else (if x4 = true then (manifest_fields.j4 k x3 false x345000 x345001 x345002 x345003 x345004 x345005) else (manifest_fields.j4 k x3 (decide ((x345003.length : Int) > 0)) x345000 x345001 x345002 x345003 x345004 x345005))
def manifest_fields.j4 : Nat → Bool → Bool → Int → Int → Int → List Int → List Int → List ByteArray → Option (Bool)
|0,_,_,_,_,_,_,_,_ => none
|k + 1,x3,x30,x345000,x345001,x345002,x345003,x345004,x345005 => if x30 = true then (some false) else (if x345001 = 3 then (manifest_fields.j5 k x3 false x345000 x345001 x345002 x345003 x345004 x345005) else (manifest_fields.j5 k x3 (decide ((x345004.length : Int) > 0)) x345000 x345001 x345002 x345003 x345004 x345005))
def manifest_fields.j5 : Nat → Bool → Bool → Int → Int → Int → List Int → List Int → List ByteArray → Option (Bool)
|0,_,_,_,_,_,_,_,_ => none
|k + 1,x3,x46,x345000,x345001,x345002,x345003,x345004,x345005 => if x46 = true then (manifest_fields.j6 k x3 x46 x345000 x345001 x345002 x345003 x345004 x345005) else (if x345001 = 4 then (manifest_fields.j6 k x3 false x345000 x345001 x345002 x345003 x345004 x345005) else (manifest_fields.j6 k x3 (decide ((x345005.length : Int) > 0)) x345000 x345001 x345002 x345003 x345004 x345005))
def manifest_fields.j6 : Nat → Bool → Bool → Int → Int → Int → List Int → List Int → List ByteArray → Option (Bool)
|0,_,_,_,_,_,_,_,_ => none
|k + 1,x3,x46,x345000,x345001,x345002,x345003,x345004,x345005 => if x46 = true then (some false) else (if x3 = true then (if x345002 < 1 then (manifest_fields.j7 k true x345000 x345001 x345002 x345003 x345004 x345005) else (manifest_fields.j7 k (decide (x345002 > 9999)) x345000 x345001 x345002 x345003 x345004 x345005)) else (manifest_fields.j7 k false x345000 x345001 x345002 x345003 x345004 x345005))
def manifest_fields.j7 : Nat → Bool → Int → Int → Int → List Int → List Int → List ByteArray → Option (Bool)
|0,_,_,_,_,_,_,_ => none
|k + 1,x65,x345000,x345001,x345002,x345003,x345004,x345005 => if x65 = true then (some false) else ((posting_Valid.f k x345003).bind fun t345 => (if t345 = true then ((posting_Valid.f k x345004).bind fun t346 => (if t346 = true then (if x345001 = 4 then (if (x345003.length : Int) < 2 then ((manifest_branches.f k x345005).bind fun t347 => (some t347)) else (some false)) else (some true)) else (some false))) else (some false)))
end
def manifest_fields.f (k : Nat) (a0_0 : Int) (a0_1 : Int) (a0_2 : Int) (l0_3 : List Int) (l0_4 : List Int) (l0_5 : List ByteArray) : Option (Bool) := if a0_1 = 1 then (manifest_fields.j0 k true a0_0 a0_1 a0_2 l0_3 l0_4 l0_5) else (manifest_fields.j0 k (a0_1 == 3) a0_0 a0_1 a0_2 l0_3 l0_4 l0_5)
theorem manifest_fields.mono_l : ∀ k, (∀ y0 y1 y2 y3 y4 y5 y6, LeO (manifest_fields.j0 k y0 y1 y2 y3 y4 y5 y6) (manifest_fields.j0 (k + 1) y0 y1 y2 y3 y4 y5 y6)) ∧ (∀ y0 y1 y2 y3 y4 y5 y6 y7, LeO (manifest_fields.j1 k y0 y1 y2 y3 y4 y5 y6 y7) (manifest_fields.j1 (k + 1) y0 y1 y2 y3 y4 y5 y6 y7)) ∧ (∀ y0 y1 y2 y3 y4 y5 y6 y7 y8, LeO (manifest_fields.j2 k y0 y1 y2 y3 y4 y5 y6 y7 y8) (manifest_fields.j2 (k + 1) y0 y1 y2 y3 y4 y5 y6 y7 y8)) ∧ (∀ y0 y1 y2 y3 y4 y5 y6 y7 y8, LeO (manifest_fields.j3 k y0 y1 y2 y3 y4 y5 y6 y7 y8) (manifest_fields.j3 (k + 1) y0 y1 y2 y3 y4 y5 y6 y7 y8)) ∧ (∀ y0 y1 y2 y3 y4 y5 y6 y7, LeO (manifest_fields.j4 k y0 y1 y2 y3 y4 y5 y6 y7) (manifest_fields.j4 (k + 1) y0 y1 y2 y3 y4 y5 y6 y7)) ∧ (∀ y0 y1 y2 y3 y4 y5 y6 y7, LeO (manifest_fields.j5 k y0 y1 y2 y3 y4 y5 y6 y7) (manifest_fields.j5 (k + 1) y0 y1 y2 y3 y4 y5 y6 y7)) ∧ (∀ y0 y1 y2 y3 y4 y5 y6 y7, LeO (manifest_fields.j6 k y0 y1 y2 y3 y4 y5 y6 y7) (manifest_fields.j6 (k + 1) y0 y1 y2 y3 y4 y5 y6 y7)) ∧ (∀ y0 y1 y2 y3 y4 y5 y6, LeO (manifest_fields.j7 k y0 y1 y2 y3 y4 y5 y6) (manifest_fields.j7 (k + 1) y0 y1 y2 y3 y4 y5 y6))
|0 => ⟨fun _ _ _ _ _ _ _ r h => by simp [manifest_fields.j0] at h,fun _ _ _ _ _ _ _ _ r h => by simp [manifest_fields.j1] at h,fun _ _ _ _ _ _ _ _ _ r h => by simp [manifest_fields.j2] at h,fun _ _ _ _ _ _ _ _ _ r h => by simp [manifest_fields.j3] at h,fun _ _ _ _ _ _ _ _ r h => by simp [manifest_fields.j4] at h,fun _ _ _ _ _ _ _ _ r h => by simp [manifest_fields.j5] at h,fun _ _ _ _ _ _ _ _ r h => by simp [manifest_fields.j6] at h,fun _ _ _ _ _ _ _ r h => by simp [manifest_fields.j7] at h⟩
|k + 1 => by
  obtain ⟨ih0,ih1,ih2,ih3,ih4,ih5,ih6,ih7⟩ := manifest_fields.mono_l k
  refine ⟨?_,?_,?_,?_,?_,?_,?_,?_⟩
  ·intro y0 y1 y2 y3 y4 y5 y6
   unfold manifest_fields.j0
   repeat' (with_reducible first|exact ih1 _ _ _ _ _ _ _ _|exact LeO.refl _|exact LeO.none _|refine LeO.ite ?_ ?_|refine LeO.bind ?_ (fun _ => ?_))
  ·intro y0 y1 y2 y3 y4 y5 y6 y7
   unfold manifest_fields.j1
   repeat' (with_reducible first|exact ih2 _ _ _ _ _ _ _ _ _|exact LeO.refl _|exact LeO.none _|refine LeO.ite ?_ ?_|refine LeO.bind ?_ (fun _ => ?_))
  ·intro y0 y1 y2 y3 y4 y5 y6 y7 y8
   unfold manifest_fields.j2
   repeat' (with_reducible first|exact ih3 _ _ _ _ _ _ _ _ _|exact LeO.refl _|exact LeO.none _|refine LeO.ite ?_ ?_|refine LeO.bind ?_ (fun _ => ?_))
  ·intro y0 y1 y2 y3 y4 y5 y6 y7 y8
   unfold manifest_fields.j3
   repeat' (with_reducible first|exact ih4 _ _ _ _ _ _ _ _|exact LeO.refl _|exact LeO.none _|refine LeO.ite ?_ ?_|refine LeO.bind ?_ (fun _ => ?_))
  ·intro y0 y1 y2 y3 y4 y5 y6 y7
   unfold manifest_fields.j4
   repeat' (with_reducible first|exact ih5 _ _ _ _ _ _ _ _|exact LeO.refl _|exact LeO.none _|refine LeO.ite ?_ ?_|refine LeO.bind ?_ (fun _ => ?_))
  ·intro y0 y1 y2 y3 y4 y5 y6 y7
   unfold manifest_fields.j5
   repeat' (with_reducible first|exact ih6 _ _ _ _ _ _ _ _|exact LeO.refl _|exact LeO.none _|refine LeO.ite ?_ ?_|refine LeO.bind ?_ (fun _ => ?_))
  ·intro y0 y1 y2 y3 y4 y5 y6 y7
   unfold manifest_fields.j6
   repeat' (with_reducible first|exact ih7 _ _ _ _ _ _ _|exact LeO.refl _|exact LeO.none _|refine LeO.ite ?_ ?_|refine LeO.bind ?_ (fun _ => ?_))
  ·intro y0 y1 y2 y3 y4 y5 y6
   unfold manifest_fields.j7
   repeat' (with_reducible first|exact manifest_branches.mono _ _|exact posting_Valid.mono _ _|exact LeO.refl _|exact LeO.none _|refine LeO.ite ?_ ?_|refine LeO.bind ?_ (fun _ => ?_))
theorem manifest_fields.mono : ∀ a0 a1 a2 a3 a4 a5 k, LeO (manifest_fields.f k a0 a1 a2 a3 a4 a5) (manifest_fields.f (k + 1) a0 a1 a2 a3 a4 a5) := by
 intro a0 a1 a2 a3 a4 a5 k
 obtain ⟨ih0,ih1,ih2,ih3,ih4,ih5,ih6,ih7⟩ := manifest_fields.mono_l k
 unfold manifest_fields.f
 repeat' first
  |(with_reducible exact ih0 _ _ _ _ _ _ _)
  |(with_reducible exact ih1 _ _ _ _ _ _ _ _)
  |(with_reducible exact ih2 _ _ _ _ _ _ _ _ _)
  |(with_reducible exact ih3 _ _ _ _ _ _ _ _ _)
  |(with_reducible exact ih4 _ _ _ _ _ _ _ _)
  |(with_reducible exact ih5 _ _ _ _ _ _ _ _)
  |(with_reducible exact ih6 _ _ _ _ _ _ _ _)
  |(with_reducible exact ih7 _ _ _ _ _ _ _)
  |(with_reducible exact manifest_branches.mono _ _)
  |(with_reducible exact posting_Valid.mono _ _)
  |(with_reducible exact LeO.refl _)
  |(with_reducible exact LeO.none _)
  |(with_reducible refine LeO.ite ?_ ?_)
  |(with_reducible refine LeO.bind ?_ (fun _ => ?_))
  |exact ih0 _ _ _ _ _ _ _
  |exact ih1 _ _ _ _ _ _ _ _
  |exact ih2 _ _ _ _ _ _ _ _ _
  |exact ih3 _ _ _ _ _ _ _ _ _
  |exact ih4 _ _ _ _ _ _ _ _
  |exact ih5 _ _ _ _ _ _ _ _
  |exact ih6 _ _ _ _ _ _ _ _
  |exact ih7 _ _ _ _ _ _ _
  |exact manifest_branches.mono _ _
  |exact posting_Valid.mono _ _
  |exact LeO.none _
  |refine LeO.ite ?_ ?_
  |refine LeO.bind ?_ (fun _ => ?_)
set_option maxHeartbeats 4000000 in
set_option maxRecDepth 100000 in
theorem manifest_fields.calls (k : Nat) (a0_0 : Int) (a0_1 : Int) (a0_2 : Int) (A0_3 : Option Addr) (c0_3 : Nat) (l0_3 : List Int) (A0_4 : Option Addr) (c0_4 : Nat) (l0_4 : List Int) (A0_5 : Option Addr) (c0_5 : Nat) (l0_5 : List ByteArray) (r : Bool) (w : World) (hr0_3 : Kd.C (Kd.int .i64) w A0_3 l0_3.length l0_3) (hc0_3 : l0_3.length ≤ c0_3) (hr0_4 : Kd.C (Kd.int .i64) w A0_4 l0_4.length l0_4) (hc0_4 : l0_4.length ≤ c0_4) (hr0_5 : Kd.C Kd.string w A0_5 l0_5.length l0_5) (hc0_5 : l0_5.length ≤ c0_5) (h : manifest_fields.f k a0_0 a0_1 a0_2 l0_3 l0_4 l0_5 = some r) :
  Calls Tryd.prog 47 #[.agg #[.int .i64 a0_0,.int .i64 a0_1,.int .i64 a0_2,.slice A0_3 l0_3.length c0_3,.slice A0_4 l0_4.length c0_4,.slice A0_5 l0_5.length c0_5]] w fun e w' => e = .returned (.bool r) ∧ Below w.heap.size w w' := by
 have hu37 := Tryd.underlying37
 have HR0_3 := aK hr0_3
 have HC0_3 := aK hc0_3
 clear hr0_3 hc0_3
 have HR0_4 := aK hr0_4
 have HC0_4 := aK hc0_4
 clear hr0_4 hc0_4
 have HR0_5 := aK hr0_5
 have HC0_5 := aK hc0_5
 clear hr0_5 hc0_5
 have HB := aK (Below.refl w.heap.size w)
 have H : (if a0_1 = 1 then (manifest_fields.j0 k true a0_0 a0_1 a0_2 l0_3 l0_4 l0_5) else (manifest_fields.j0 k (a0_1 == 3) a0_0 a0_1 a0_2 l0_3 l0_4 l0_5)) = some r := h
 clear h
 have HC2 := aK H
 clear H
 go_enter Tryd.func47,Tryd.ntmps47
 go_upto_region 1 with (first|((with_reducible refine gate_dst (N := 1) rfl ?_);(try (refine gate_guard (by rfl) ?_;dsimp only));refine box_event ?hg (N := 1) ?hd (cs := #[.int .i64 a0_0,.int .i64 a0_1,.int .i64 a0_2,.slice A0_3 l0_3.length c0_3,.slice A0_4 l0_4.length c0_4,.slice A0_5 l0_5.length c0_5]) (t := 37) ?hr ?_;(case hd => rfl);(case hg => rfl);(case hr => first|(go_simp;done)|(go_simp;rfl));intro gb344 hg w3 hbox hb;have BK344 := aK (hbox);have GW344 := aK ((by rw [hg];exact (below_size (bM HB.out)) : w.heap.size ≤ gb344));have GJ344 := Ge.mk GW344.out;have GE344 := aK ((by rw [hg];exact (below_size (bM HB.out)) : w.heap.size ≤ gb344));have GI344 := Ge.mk GE344.out;replace HB := aK (below_step (bM HB.out) hb);clear hb hbox hg))
 (try simp only [Act.put,List.setIfInBounds_toArray,List.set_cons_zero,List.set_cons_succ])
 go_cut [3] (fun v3 wc => ∃ (kq : Nat) (x3_1 : Bool),v3 = .bool x3_1 ∧ Aside0 (manifest_fields.j0 kq x3_1 a0_0 a0_1 a0_2 l0_3 l0_4 l0_5 = some r) ∧ Aside0 (kq ≤ k) ∧ Aside0 (wc.heap[gb344]? = some (.cells #[.int .i64 a0_0,.int .i64 a0_1,.int .i64 a0_2,(.slice A0_3 l0_3.length c0_3),(.slice A0_4 l0_4.length c0_4),(.slice A0_5 l0_5.length c0_5)] 37 (0,0))) ∧ Aside0 (Below w.heap.size w wc))
 case first =>
  have H := HC2.out
  clear HC2
  by_cases c4 : a0_1 = 1
  ·rw [if_pos c4] at H
   have c4b0 := beq_iff_eq.mpr c4
   have c4b1 := bne_eq_false_iff_eq.mpr c4
   clear c4
   (first|rw [c4b0]|(simp only [i64_w,i32_w];rw [c4b0])|rw [c4b1]|skip)
   have H' := aK H
   clear H
   obtain ⟨_,_,_,_,_,_,_,_,_,_,_,_⟩ := bk6_ BK344.out
   go_wp2
   go_meet
   case rel => exact ⟨_,(true),(by first|rfl|(simp;done)|(simp [*];done)),H',⟨by first|omega|exact Nat.le_refl _⟩,⟨kM BK344.out⟩,⟨bG HB.out⟩⟩
  ·rw [if_neg c4] at H
   have c4b0 := beq_eq_false_iff_ne.mpr c4
   have c4b1 := bne_iff_ne.mpr c4
   (first|rw [c4b0]|(simp only [i64_w,i32_w];rw [c4b0])|rw [c4b1]|skip)
   have H' := aK H
   clear H
   obtain ⟨_,_,_,_,_,_,_,_,_,_,_,_⟩ := bk6_ BK344.out
   go_wp2
   go_meet
   case rel => exact ⟨_,((a0_1 == 3)),(by first|rfl|(simp;done)|(simp [*];done)),H',⟨by first|omega|exact Nat.le_refl _⟩,⟨kM BK344.out⟩,⟨bG HB.out⟩⟩
 case rest =>
  clear HC2
  try clear p2
  obtain ⟨kq,x3_1,rfl,HA,HJ1,BK344,HB⟩ := hcut
  cases kq with
 |zero => exact absurd HA.out (by simp [manifest_fields.j0])
 |succ kj1 =>
   have H := HA.out
   clear HA
   simp only [manifest_fields.j0] at H
   have HC7 := aK H
   clear H
   go_upto_region 2 with (fail)
   go_cut [4] (fun v4 wc => ∃ (kq : Nat) (x4_6 : Bool),v4 = .bool x4_6 ∧ Aside0 (manifest_fields.j1 kq x3_1 x4_6 a0_0 a0_1 a0_2 l0_3 l0_4 l0_5 = some r) ∧ Aside0 (kq ≤ kj1) ∧ Aside0 (wc.heap[gb344]? = some (.cells #[.int .i64 a0_0,.int .i64 a0_1,.int .i64 a0_2,(.slice A0_3 l0_3.length c0_3),(.slice A0_4 l0_4.length c0_4),(.slice A0_5 l0_5.length c0_5)] 37 (0,0))) ∧ Aside0 (Below w.heap.size w wc))
   case first =>
    have H := HC7.out
    clear HC7
    by_cases c8 : a0_1 = 2
    ·rw [if_pos c8] at H
     have c8b0 := beq_iff_eq.mpr c8
     have c8b1 := bne_eq_false_iff_eq.mpr c8
     clear c8
     (first|rw [c8b0]|(simp only [i64_w,i32_w];rw [c8b0])|rw [c8b1]|skip)
     have H' := aK H
     clear H
     obtain ⟨_,_,_,_,_,_,_,_,_,_,_,_⟩ := bk6_ BK344.out
     go_wp2
     go_meet
     case rel => exact ⟨_,(true),(by first|rfl|(simp;done)|(simp [*];done)),H',⟨by have := HJ1.out;first|omega|exact Nat.le_refl _⟩,⟨kM BK344.out⟩,⟨bG HB.out⟩⟩
    ·rw [if_neg c8] at H
     have c8b0 := beq_eq_false_iff_ne.mpr c8
     have c8b1 := bne_iff_ne.mpr c8
     (first|rw [c8b0]|(simp only [i64_w,i32_w];rw [c8b0])|rw [c8b1]|skip)
     have H' := aK H
     clear H
     obtain ⟨_,_,_,_,_,_,_,_,_,_,_,_⟩ := bk6_ BK344.out
     go_wp2
     go_meet
     case rel => exact ⟨_,((a0_1 == 4)),(by first|rfl|(simp;done)|(simp [*];done)),H',⟨by have := HJ1.out;first|omega|exact Nat.le_refl _⟩,⟨kM BK344.out⟩,⟨bG HB.out⟩⟩
   case rest =>
    clear HC7
    try clear p2
    try clear p2
    obtain ⟨kq,x4_6,rfl,HA,HJ6,BK344,HB⟩ := hcut
    cases kq with
   |zero => exact absurd HA.out (by simp [manifest_fields.j1])
   |succ kj6 =>
     have H := HA.out
     clear HA
     simp only [manifest_fields.j1] at H
     have HC11 := aK H
     clear H
     go_upto_region 3 with (fail)
     go_cut [21] (fun v21 wc => ∃ (kq : Nat) (x21_10 : Bool),v21 = .bool x21_10 ∧ Aside0 (manifest_fields.j2 kq x3_1 x4_6 x21_10 a0_0 a0_1 a0_2 l0_3 l0_4 l0_5 = some r) ∧ Aside0 (kq ≤ kj6) ∧ Aside0 (wc.heap[gb344]? = some (.cells #[.int .i64 a0_0,.int .i64 a0_1,.int .i64 a0_2,(.slice A0_3 l0_3.length c0_3),(.slice A0_4 l0_4.length c0_4),(.slice A0_5 l0_5.length c0_5)] 37 (0,0))) ∧ Aside0 (Below w.heap.size w wc))
     case first =>
      have H := HC11.out
      clear HC11
      by_cases c12 : a0_1 < 1
      ·rw [if_pos c12] at H
       have c12b0 := decide_eq_true c12
       clear c12
       (first|rw [c12b0]|(simp only [i64_w,i32_w];rw [c12b0])|rw [c12b1]|skip)
       have H' := aK H
       clear H
       obtain ⟨_,_,_,_,_,_,_,_,_,_,_,_⟩ := bk6_ BK344.out
       go_wp2
       go_meet
       case rel => exact ⟨_,(true),(by first|rfl|(simp;done)|(simp [*];done)),H',⟨by have := HJ1.out;have := HJ6.out;first|omega|exact Nat.le_refl _⟩,⟨kM BK344.out⟩,⟨bG HB.out⟩⟩
      ·rw [if_neg c12] at H
       have c12b0 := decide_eq_false c12
       clear c12
       (first|rw [c12b0]|(simp only [i64_w,i32_w];rw [c12b0])|rw [c12b1]|skip)
       have H' := aK H
       clear H
       obtain ⟨_,_,_,_,_,_,_,_,_,_,_,_⟩ := bk6_ BK344.out
       go_wp2
       go_meet
       case rel => exact ⟨_,(decide (a0_1 > 4)),(by first|rfl|(simp;done)|(simp [*];done)),H',⟨by have := HJ1.out;have := HJ6.out;first|omega|exact Nat.le_refl _⟩,⟨kM BK344.out⟩,⟨bG HB.out⟩⟩
     case rest =>
      clear HC11
      try clear p2
      try clear p2
      obtain ⟨kq,x21_10,rfl,HA,HJ10,BK344,HB⟩ := hcut
      cases kq with
     |zero => exact absurd HA.out (by simp [manifest_fields.j2])
     |succ kj10 =>
       have H := HA.out
       clear HA
       simp only [manifest_fields.j2] at H
       by_cases c15 : x21_10 = true
       ·subst c15
        rw [if_pos rfl] at H
        obtain rfl := Option.some.inj H
        go_wp2
        go_ret
        exact ⟨by first|rfl|(simp [errW_none,errW_some] <;> rfl)|(simp [*,errW_none,errW_some] <;> rfl),bG HB.out⟩
       ·replace c15 := Bool.eq_false_iff.mpr c15
        subst c15
        rw [if_neg (show ¬ (false = true) by decide)] at H
        have HC16 := aK H
        clear H
        go_upto_region 5 with (fail)
        go_cut [30] (fun v30 wc => ∃ (kq : Nat) (x30_15 : Bool),v30 = .bool x30_15 ∧ Aside0 (manifest_fields.j3 kq x3_1 x4_6 x30_15 a0_0 a0_1 a0_2 l0_3 l0_4 l0_5 = some r) ∧ Aside0 (kq ≤ kj10) ∧ Aside0 (wc.heap[gb344]? = some (.cells #[.int .i64 a0_0,.int .i64 a0_1,.int .i64 a0_2,(.slice A0_3 l0_3.length c0_3),(.slice A0_4 l0_4.length c0_4),(.slice A0_5 l0_5.length c0_5)] 37 (0,0))) ∧ Aside0 (Below w.heap.size w wc))
        case first =>
         have H := HC16.out
         clear HC16
         by_cases c17 : x3_1 = true
         ·subst c17
          rw [if_pos rfl] at H
          have H' := aK H
          clear H
          go_wp2
          go_meet
          case rel => exact ⟨_,(false),(by first|rfl|(simp;done)|(simp [*];done)),H',⟨by have := HJ1.out;have := HJ6.out;have := HJ10.out;first|omega|exact Nat.le_refl _⟩,⟨kM BK344.out⟩,⟨bG HB.out⟩⟩
         ·replace c17 := Bool.eq_false_iff.mpr c17
          subst c17
          rw [if_neg (show ¬ (false = true) by decide)] at H
          have H' := aK H
          clear H
          obtain ⟨_,_,_,_,_,_,_,_,_,_,_,_⟩ := bk6_ BK344.out
          go_wp2
          go_meet
          case rel => exact ⟨_,((a0_2 != 0)),(by first|rfl|(simp;done)|(simp [*];done)),H',⟨by have := HJ1.out;have := HJ6.out;have := HJ10.out;first|omega|exact Nat.le_refl _⟩,⟨kM BK344.out⟩,⟨bG HB.out⟩⟩
        case rest =>
         clear HC16
         try clear p2
         try clear c15
         try clear p2
         obtain ⟨kq,x30_15,rfl,HA,HJ15,BK344,HB⟩ := hcut
         cases kq with
        |zero => exact absurd HA.out (by simp [manifest_fields.j3])
        |succ kj15 =>
          have H := HA.out
          clear HA
          simp only [manifest_fields.j3] at H
          have HC19 := aK H
          clear H
          go_upto_if 30 with (fail)
          go_cut [30] (fun v30 wc => ∃ (kq : Nat) (x30_18 : Bool),v30 = .bool x30_18 ∧ Aside0 (manifest_fields.j4 kq x3_1 x30_18 a0_0 a0_1 a0_2 l0_3 l0_4 l0_5 = some r) ∧ Aside0 (kq ≤ kj15) ∧ Aside0 (wc.heap[gb344]? = some (.cells #[.int .i64 a0_0,.int .i64 a0_1,.int .i64 a0_2,(.slice A0_3 l0_3.length c0_3),(.slice A0_4 l0_4.length c0_4),(.slice A0_5 l0_5.length c0_5)] 37 (0,0))) ∧ Aside0 (Below w.heap.size w wc))
          case first =>
           have H := HC19.out
           clear HC19
           by_cases c20 : x30_15 = true
           ·subst c20
            rw [if_pos rfl] at H
            have H' := aK H
            clear H
            go_wp2
            go_meet
            case rel => exact ⟨_,(true),(by first|rfl|(simp;done)|(simp [*];done)),H',⟨by have := HJ1.out;have := HJ6.out;have := HJ10.out;have := HJ15.out;first|omega|exact Nat.le_refl _⟩,⟨kM BK344.out⟩,⟨bG HB.out⟩⟩
           ·replace c20 := Bool.eq_false_iff.mpr c20
            subst c20
            rw [if_neg (show ¬ (false = true) by decide)] at H
            by_cases c21 : x4_6 = true
            ·subst c21
             rw [if_pos rfl] at H
             have H' := aK H
             clear H
             go_wp2
             go_meet
             case rel => exact ⟨_,(false),(by first|rfl|(simp;done)|(simp [*];done)),H',⟨by have := HJ1.out;have := HJ6.out;have := HJ10.out;have := HJ15.out;first|omega|exact Nat.le_refl _⟩,⟨kM BK344.out⟩,⟨bG HB.out⟩⟩
            ·replace c21 := Bool.eq_false_iff.mpr c21
             subst c21
             rw [if_neg (show ¬ (false = true) by decide)] at H
             have H' := aK H
             clear H
             obtain ⟨_,_,_,_,_,_,_,_,_,_,_,_⟩ := bk6_ BK344.out
             go_wp2
             go_meet
             case rel => exact ⟨_,(decide ((l0_3.length : Int) > 0)),(by first|rfl|(simp;done)|(simp [*];done)),H',⟨by have := HJ1.out;have := HJ6.out;have := HJ10.out;have := HJ15.out;first|omega|exact Nat.le_refl _⟩,⟨kM BK344.out⟩,⟨bG HB.out⟩⟩
          case rest =>
           clear HC19
           try clear p2
           try clear p2
           obtain ⟨kq,x30_18,rfl,HA,HJ18,BK344,HB⟩ := hcut
           cases kq with
          |zero => exact absurd HA.out (by simp [manifest_fields.j4])
          |succ kj18 =>
            have H := HA.out
            clear HA
            simp only [manifest_fields.j4] at H
            by_cases c23 : x30_18 = true
            ·subst c23
             rw [if_pos rfl] at H
             obtain rfl := Option.some.inj H
             go_wp2
             go_ret
             exact ⟨by first|rfl|(simp [errW_none,errW_some] <;> rfl)|(simp [*,errW_none,errW_some] <;> rfl),bG HB.out⟩
            ·replace c23 := Bool.eq_false_iff.mpr c23
             subst c23
             rw [if_neg (show ¬ (false = true) by decide)] at H
             have HC24 := aK H
             clear H
             go_upto_region 8 with (fail)
             go_cut [46] (fun v46 wc => ∃ (kq : Nat) (x46_23 : Bool),v46 = .bool x46_23 ∧ Aside0 (manifest_fields.j5 kq x3_1 x46_23 a0_0 a0_1 a0_2 l0_3 l0_4 l0_5 = some r) ∧ Aside0 (kq ≤ kj18) ∧ Aside0 (wc.heap[gb344]? = some (.cells #[.int .i64 a0_0,.int .i64 a0_1,.int .i64 a0_2,(.slice A0_3 l0_3.length c0_3),(.slice A0_4 l0_4.length c0_4),(.slice A0_5 l0_5.length c0_5)] 37 (0,0))) ∧ Aside0 (Below w.heap.size w wc))
             case first =>
              have H := HC24.out
              clear HC24
              by_cases c25 : a0_1 = 3
              ·rw [if_pos c25] at H
               have c25b0 := beq_iff_eq.mpr c25
               have c25b1 := bne_eq_false_iff_eq.mpr c25
               clear c25
               (first|rw [c25b0]|(simp only [i64_w,i32_w];rw [c25b0])|rw [c25b1]|skip)
               have H' := aK H
               clear H
               obtain ⟨_,_,_,_,_,_,_,_,_,_,_,_⟩ := bk6_ BK344.out
               go_wp2
               go_meet
               case rel => exact ⟨_,(false),(by first|rfl|(simp;done)|(simp [*];done)),H',⟨by have := HJ1.out;have := HJ6.out;have := HJ10.out;have := HJ15.out;have := HJ18.out;first|omega|exact Nat.le_refl _⟩,⟨kM BK344.out⟩,⟨bG HB.out⟩⟩
              ·rw [if_neg c25] at H
               have c25b0 := beq_eq_false_iff_ne.mpr c25
               have c25b1 := bne_iff_ne.mpr c25
               (first|rw [c25b0]|(simp only [i64_w,i32_w];rw [c25b0])|rw [c25b1]|skip)
               have H' := aK H
               clear H
               obtain ⟨_,_,_,_,_,_,_,_,_,_,_,_⟩ := bk6_ BK344.out
               go_wp2
               go_meet
               case rel => exact ⟨_,(decide ((l0_4.length : Int) > 0)),(by first|rfl|(simp;done)|(simp [*];done)),H',⟨by have := HJ1.out;have := HJ6.out;have := HJ10.out;have := HJ15.out;have := HJ18.out;first|omega|exact Nat.le_refl _⟩,⟨kM BK344.out⟩,⟨bG HB.out⟩⟩
             case rest =>
              clear HC24
              try clear p2
              try clear c23
              try clear p2
              obtain ⟨kq,x46_23,rfl,HA,HJ23,BK344,HB⟩ := hcut
              cases kq with
             |zero => exact absurd HA.out (by simp [manifest_fields.j5])
             |succ kj23 =>
               have H := HA.out
               clear HA
               simp only [manifest_fields.j5] at H
               have HC28 := aK H
               clear H
               go_upto_if 46 with (fail)
               go_cut [46] (fun v46 wc => ∃ (kq : Nat) (x46_27 : Bool),v46 = .bool x46_27 ∧ Aside0 (manifest_fields.j6 kq x3_1 x46_27 a0_0 a0_1 a0_2 l0_3 l0_4 l0_5 = some r) ∧ Aside0 (kq ≤ kj23) ∧ Aside0 (wc.heap[gb344]? = some (.cells #[.int .i64 a0_0,.int .i64 a0_1,.int .i64 a0_2,(.slice A0_3 l0_3.length c0_3),(.slice A0_4 l0_4.length c0_4),(.slice A0_5 l0_5.length c0_5)] 37 (0,0))) ∧ Aside0 (Below w.heap.size w wc))
               case first =>
                have H := HC28.out
                clear HC28
                by_cases c29 : x46_23 = true
                ·subst c29
                 rw [if_pos rfl] at H
                 have H' := aK H
                 clear H
                 go_wp2
                 go_meet
                 case rel => exact ⟨_,(true),(by first|rfl|(simp;done)|(simp [*];done)),H',⟨by have := HJ1.out;have := HJ6.out;have := HJ10.out;have := HJ15.out;have := HJ18.out;have := HJ23.out;first|omega|exact Nat.le_refl _⟩,⟨kM BK344.out⟩,⟨bG HB.out⟩⟩
                ·replace c29 := Bool.eq_false_iff.mpr c29
                 subst c29
                 rw [if_neg (show ¬ (false = true) by decide)] at H
                 by_cases c30 : a0_1 = 4
                 ·rw [if_pos c30] at H
                  have c30b0 := beq_iff_eq.mpr c30
                  have c30b1 := bne_eq_false_iff_eq.mpr c30
                  clear c30
                  (first|rw [c30b0]|(simp only [i64_w,i32_w];rw [c30b0])|rw [c30b1]|skip)
                  have H' := aK H
                  clear H
                  obtain ⟨_,_,_,_,_,_,_,_,_,_,_,_⟩ := bk6_ BK344.out
                  go_wp2
                  go_meet
                  case rel => exact ⟨_,(false),(by first|rfl|(simp;done)|(simp [*];done)),H',⟨by have := HJ1.out;have := HJ6.out;have := HJ10.out;have := HJ15.out;have := HJ18.out;have := HJ23.out;first|omega|exact Nat.le_refl _⟩,⟨kM BK344.out⟩,⟨bG HB.out⟩⟩
                 ·rw [if_neg c30] at H
                  have c30b0 := beq_eq_false_iff_ne.mpr c30
                  have c30b1 := bne_iff_ne.mpr c30
                  (first|rw [c30b0]|(simp only [i64_w,i32_w];rw [c30b0])|rw [c30b1]|skip)
                  have H' := aK H
                  clear H
                  obtain ⟨_,_,_,_,_,_,_,_,_,_,_,_⟩ := bk6_ BK344.out
                  go_wp2
                  go_meet
                  case rel => exact ⟨_,(decide ((l0_5.length : Int) > 0)),(by first|rfl|(simp;done)|(simp [*];done)),H',⟨by have := HJ1.out;have := HJ6.out;have := HJ10.out;have := HJ15.out;have := HJ18.out;have := HJ23.out;first|omega|exact Nat.le_refl _⟩,⟨kM BK344.out⟩,⟨bG HB.out⟩⟩
               case rest =>
                clear HC28
                try clear p2
                try clear p2
                obtain ⟨kq,x46_27,rfl,HA,HJ27,BK344,HB⟩ := hcut
                cases kq with
               |zero => exact absurd HA.out (by simp [manifest_fields.j6])
               |succ kj27 =>
                 have H := HA.out
                 clear HA
                 simp only [manifest_fields.j6] at H
                 by_cases c33 : x46_27 = true
                 ·subst c33
                  rw [if_pos rfl] at H
                  obtain rfl := Option.some.inj H
                  go_wp2
                  go_ret
                  exact ⟨by first|rfl|(simp [errW_none,errW_some] <;> rfl)|(simp [*,errW_none,errW_some] <;> rfl),bG HB.out⟩
                 ·replace c33 := Bool.eq_false_iff.mpr c33
                  subst c33
                  rw [if_neg (show ¬ (false = true) by decide)] at H
                  have HC34 := aK H
                  clear H
                  go_upto_region 11 with (fail)
                  go_cut [65] (fun v65 wc => ∃ (kq : Nat) (x65_33 : Bool),v65 = .bool x65_33 ∧ Aside0 (manifest_fields.j7 kq x65_33 a0_0 a0_1 a0_2 l0_3 l0_4 l0_5 = some r) ∧ Aside0 (kq ≤ kj27) ∧ Aside0 (wc.heap[gb344]? = some (.cells #[.int .i64 a0_0,.int .i64 a0_1,.int .i64 a0_2,(.slice A0_3 l0_3.length c0_3),(.slice A0_4 l0_4.length c0_4),(.slice A0_5 l0_5.length c0_5)] 37 (0,0))) ∧ Aside0 (Below w.heap.size w wc))
                  case first =>
                   have H := HC34.out
                   clear HC34
                   by_cases c35 : x3_1 = true
                   ·subst c35
                    rw [if_pos rfl] at H
                    by_cases c36 : a0_2 < 1
                    ·rw [if_pos c36] at H
                     have c36b0 := decide_eq_true c36
                     clear c36
                     (first|rw [c36b0]|(simp only [i64_w,i32_w];rw [c36b0])|rw [c36b1]|skip)
                     have H' := aK H
                     clear H
                     obtain ⟨_,_,_,_,_,_,_,_,_,_,_,_⟩ := bk6_ BK344.out
                     go_wp2
                     go_meet
                     case rel => exact ⟨_,(true),(by first|rfl|(simp;done)|(simp [*];done)),H',⟨by have := HJ1.out;have := HJ6.out;have := HJ10.out;have := HJ15.out;have := HJ18.out;have := HJ23.out;have := HJ27.out;first|omega|exact Nat.le_refl _⟩,⟨kM BK344.out⟩,⟨bG HB.out⟩⟩
                    ·rw [if_neg c36] at H
                     have c36b0 := decide_eq_false c36
                     clear c36
                     (first|rw [c36b0]|(simp only [i64_w,i32_w];rw [c36b0])|rw [c36b1]|skip)
                     have H' := aK H
                     clear H
                     obtain ⟨_,_,_,_,_,_,_,_,_,_,_,_⟩ := bk6_ BK344.out
                     go_wp2
                     go_meet
                     case rel => exact ⟨_,(decide (a0_2 > 9999)),(by first|rfl|(simp;done)|(simp [*];done)),H',⟨by have := HJ1.out;have := HJ6.out;have := HJ10.out;have := HJ15.out;have := HJ18.out;have := HJ23.out;have := HJ27.out;first|omega|exact Nat.le_refl _⟩,⟨kM BK344.out⟩,⟨bG HB.out⟩⟩
                   ·replace c35 := Bool.eq_false_iff.mpr c35
                    subst c35
                    rw [if_neg (show ¬ (false = true) by decide)] at H
                    have H' := aK H
                    clear H
                    go_wp2
                    go_meet
                    case rel => exact ⟨_,(false),(by first|rfl|(simp;done)|(simp [*];done)),H',⟨by have := HJ1.out;have := HJ6.out;have := HJ10.out;have := HJ15.out;have := HJ18.out;have := HJ23.out;have := HJ27.out;first|omega|exact Nat.le_refl _⟩,⟨kM BK344.out⟩,⟨bG HB.out⟩⟩
                  case rest =>
                   clear HC34
                   try clear p2
                   try clear c33
                   try clear p2
                   obtain ⟨kq,x65_33,rfl,HA,HJ33,BK344,HB⟩ := hcut
                   cases kq with
                  |zero => exact absurd HA.out (by simp [manifest_fields.j7])
                  |succ kj33 =>
                    have H := HA.out
                    clear HA
                    simp only [manifest_fields.j7] at H
                    by_cases c39 : x65_33 = true
                    ·subst c39
                     rw [if_pos rfl] at H
                     obtain rfl := Option.some.inj H
                     go_wp2
                     go_ret
                     exact ⟨by first|rfl|(simp [errW_none,errW_some] <;> rfl)|(simp [*,errW_none,errW_some] <;> rfl),bG HB.out⟩
                    ·replace c39 := Bool.eq_false_iff.mpr c39
                     subst c39
                     rw [if_neg (show ¬ (false = true) by decide)] at H
                     replace H := Option.bind_eq_some_iff.mp H
                     obtain ⟨t345,A400,H⟩ := H
                     have A40 := aK A400
                     clear A400
                     by_cases c41 : t345 = true
                     ·subst c41
                      rw [if_pos rfl] at H
                      replace H := Option.bind_eq_some_iff.mp H
                      obtain ⟨t346,A420,H⟩ := H
                      have A42 := aK A420
                      clear A420
                      by_cases c43 : t346 = true
                      ·subst c43
                       rw [if_pos rfl] at H
                       by_cases c44 : a0_1 = 4
                       ·rw [if_pos c44] at H
                        have c44b0 := beq_iff_eq.mpr c44
                        have c44b1 := bne_eq_false_iff_eq.mpr c44
                        clear c44
                        by_cases c45 : (l0_3.length : Int) < 2
                        ·rw [if_pos c45] at H
                         have c45b0 := decide_eq_true c45
                         have c45b1 : decide (l0_3.length < 2) = true := decide_eq_true (by omega)
                         clear c45
                         replace H := Option.bind_eq_some_iff.mp H
                         obtain ⟨t347,A460,H⟩ := H
                         have A46 := aK A460
                         clear A460
                         obtain rfl := Option.some.inj H
                         obtain ⟨_,_,_,_,_,_,_,_,_,_,_,_⟩ := bk6_ BK344.out
                         go_wp2_with (first|((with_reducible refine gate_callee (f := 52) rfl ?_);refine goesL_ (some 80) rfl rfl Tryd.func52 (by kernel_rfl) rfl #[.slice A0_3 l0_3.length c0_3] rfl (by (try simp only [List.map_toArray,List.map_cons,List.map_nil]);first|done|rfl|(simp only [List.length_drop,List.length_take];rfl)) ?_;(with_reducible refine (posting_Valid.calls kj33 _ _ l0_3 true _ ?side1 ?side2 A40.out).mono ?_);(case side1 => exact cM (Kd.C_below HR0_3.out HB.out));(case side2 => exact HC0_3.out);rintro e w' ⟨rfl,⟨nd,rfl⟩⟩;refine ⟨_,rfl,?_⟩)|(go_at_call 52;(with_reducible refine (posting_Valid.calls kj33 _ _ l0_4 true _ ?side1 ?side2 A42.out).mono ?_);(case side1 => exact Kd.C_below HR0_4.out (bG HB.out));(case side2 => exact HC0_4.out);rintro e w' ⟨rfl,⟨nd,rfl⟩⟩)|(go_at_call 53;(with_reducible refine (manifest_branches.calls kj33 _ _ l0_5 t347 _ ?side1 ?side2 A46.out).mono ?_);(case side1 => exact Kd.C_below HR0_5.out (bG HB.out));(case side2 => exact HC0_5.out);rintro e w48 ⟨rfl,hb⟩;replace BK344 := aK (blk_below (kM BK344.out) hb);replace HB := aK (below_step (bG HB.out) hb);(try clear hb)))
                         go_ret
                         exact ⟨by first|rfl|(simp [errW_none,errW_some] <;> rfl)|(simp [*,errW_none,errW_some] <;> rfl),bG HB.out⟩
                        ·rw [if_neg c45] at H
                         have c45b0 := decide_eq_false c45
                         have c45b1 : decide (l0_3.length < 2) = false := decide_eq_false (by omega)
                         clear c45
                         obtain rfl := Option.some.inj H
                         obtain ⟨_,_,_,_,_,_,_,_,_,_,_,_⟩ := bk6_ BK344.out
                         go_wp2_with (first|((with_reducible refine gate_callee (f := 52) rfl ?_);refine goesL_ (some 80) rfl rfl Tryd.func52 (by kernel_rfl) rfl #[.slice A0_3 l0_3.length c0_3] rfl (by (try simp only [List.map_toArray,List.map_cons,List.map_nil]);first|done|rfl|(simp only [List.length_drop,List.length_take];rfl)) ?_;(with_reducible refine (posting_Valid.calls kj33 _ _ l0_3 true _ ?side1 ?side2 A40.out).mono ?_);(case side1 => exact cM (Kd.C_below HR0_3.out HB.out));(case side2 => exact HC0_3.out);rintro e w' ⟨rfl,⟨nd,rfl⟩⟩;refine ⟨_,rfl,?_⟩)|(go_at_call 52;(with_reducible refine (posting_Valid.calls kj33 _ _ l0_4 true _ ?side1 ?side2 A42.out).mono ?_);(case side1 => exact Kd.C_below HR0_4.out (bG HB.out));(case side2 => exact HC0_4.out);rintro e w' ⟨rfl,⟨nd,rfl⟩⟩))
                         go_ret
                         exact ⟨by first|rfl|(simp [errW_none,errW_some] <;> rfl)|(simp [*,errW_none,errW_some] <;> rfl),bG HB.out⟩
                       ·rw [if_neg c44] at H
                        have c44b0 := beq_eq_false_iff_ne.mpr c44
                        have c44b1 := bne_iff_ne.mpr c44
                        obtain rfl := Option.some.inj H
                        obtain ⟨_,_,_,_,_,_,_,_,_,_,_,_⟩ := bk6_ BK344.out
                        go_wp2_with (first|((with_reducible refine gate_callee (f := 52) rfl ?_);refine goesL_ (some 80) rfl rfl Tryd.func52 (by kernel_rfl) rfl #[.slice A0_3 l0_3.length c0_3] rfl (by (try simp only [List.map_toArray,List.map_cons,List.map_nil]);first|done|rfl|(simp only [List.length_drop,List.length_take];rfl)) ?_;(with_reducible refine (posting_Valid.calls kj33 _ _ l0_3 true _ ?side1 ?side2 A40.out).mono ?_);(case side1 => exact cM (Kd.C_below HR0_3.out HB.out));(case side2 => exact HC0_3.out);rintro e w' ⟨rfl,⟨nd,rfl⟩⟩;refine ⟨_,rfl,?_⟩)|(go_at_call 52;(with_reducible refine (posting_Valid.calls kj33 _ _ l0_4 true _ ?side1 ?side2 A42.out).mono ?_);(case side1 => exact Kd.C_below HR0_4.out (bG HB.out));(case side2 => exact HC0_4.out);rintro e w' ⟨rfl,⟨nd,rfl⟩⟩))
                        go_ret
                        exact ⟨by first|rfl|(simp [errW_none,errW_some] <;> rfl)|(simp [*,errW_none,errW_some] <;> rfl),bG HB.out⟩
                      ·replace c43 := Bool.eq_false_iff.mpr c43
                       subst c43
                       rw [if_neg (show ¬ (false = true) by decide)] at H
                       obtain rfl := Option.some.inj H
                       obtain ⟨_,_,_,_,_,_,_,_,_,_,_,_⟩ := bk6_ BK344.out
                       go_wp2_with (first|((with_reducible refine gate_callee (f := 52) rfl ?_);refine goesL_ (some 80) rfl rfl Tryd.func52 (by kernel_rfl) rfl #[.slice A0_3 l0_3.length c0_3] rfl (by (try simp only [List.map_toArray,List.map_cons,List.map_nil]);first|done|rfl|(simp only [List.length_drop,List.length_take];rfl)) ?_;(with_reducible refine (posting_Valid.calls kj33 _ _ l0_3 true _ ?side1 ?side2 A40.out).mono ?_);(case side1 => exact cM (Kd.C_below HR0_3.out HB.out));(case side2 => exact HC0_3.out);rintro e w' ⟨rfl,⟨nd,rfl⟩⟩;refine ⟨_,rfl,?_⟩)|(go_at_call 52;(with_reducible refine (posting_Valid.calls kj33 _ _ l0_4 false _ ?side1 ?side2 A42.out).mono ?_);(case side1 => exact Kd.C_below HR0_4.out (bG HB.out));(case side2 => exact HC0_4.out);rintro e w' ⟨rfl,⟨nd,rfl⟩⟩))
                       go_ret
                       exact ⟨by first|rfl|(simp [errW_none,errW_some] <;> rfl)|(simp [*,errW_none,errW_some] <;> rfl),bG HB.out⟩
                     ·replace c41 := Bool.eq_false_iff.mpr c41
                      subst c41
                      rw [if_neg (show ¬ (false = true) by decide)] at H
                      obtain rfl := Option.some.inj H
                      obtain ⟨_,_,_,_,_,_,_,_,_,_,_,_⟩ := bk6_ BK344.out
                      go_wp2_with (first|((with_reducible refine gate_callee (f := 52) rfl ?_);refine goesL_ (some 80) rfl rfl Tryd.func52 (by kernel_rfl) rfl #[.slice A0_3 l0_3.length c0_3] rfl (by (try simp only [List.map_toArray,List.map_cons,List.map_nil]);first|done|rfl|(simp only [List.length_drop,List.length_take];rfl)) ?_;(with_reducible refine (posting_Valid.calls kj33 _ _ l0_3 false _ ?side1 ?side2 A40.out).mono ?_);(case side1 => exact cM (Kd.C_below HR0_3.out HB.out));(case side2 => exact HC0_3.out);rintro e w' ⟨rfl,⟨nd,rfl⟩⟩;refine ⟨_,rfl,?_⟩))
                      go_ret
                      exact ⟨by first|rfl|(simp [errW_none,errW_some] <;> rfl)|(simp [*,errW_none,errW_some] <;> rfl),bG HB.out⟩

end Go.Proofs.YtmgliocboeifdaaDoor.T
