-- Written by hp.py, a program of this session, over the kit's print of the translation. Not trusted: Lean checks it.
import Derived.Test.YtmgliocboeifdaaGreatDoorRx0
import Derived.Test.YtmgliocboeifdaaGreatDoorRx11
import Derived.Test.YtmgliocboeifdaaGreatDoorRx15
import Derived.Test.YtmgliocboeifdaaGreatDoorRx16
namespace Go.Proofs.YtmgliocboeifdaaGreatDoor.R
open Go.RowKit Go.Proofs.YtmgliocboeifdaaGreatDoorW.PrintWords Go.Proofs.YtmgliocboeifdaaGreatDoorW.PrintLast Go.Proofs.YtmgliocboeifdaaGreatDoorW.PrintMore
attribute [local go_sem] max2_int min2_int max_two min_two max_three min_three max_four min_four   -- for this text's walks alone
set_option linter.unusedVariables false
set_option linter.unusedSimpArgs false

/-! ### codesearchref33_fields: function 26 -/
mutual
def codesearchref33_fields.j0 : Nat → Bool → Int → Int → Int → List Int → List Int → List ByteArray → Option (Bool)
|0,_,_,_,_,_,_,_ => none
|k + 1,x13,x456000,x456001,x456002,x456003,x456004,x456005 => if x13 = true then (some false) else (if x456001 = 1 then (codesearchref33_fields.j1 k true x456000 x456001 x456002 x456003 x456004 x456005) else (codesearchref33_fields.j1 k (x456001 == 3) x456000 x456001 x456002 x456003 x456004 x456005))
def codesearchref33_fields.j1 : Nat → Bool → Int → Int → Int → List Int → List Int → List ByteArray → Option (Bool)
|0,_,_,_,_,_,_,_ => none
|k + 1,x3,x456000,x456001,x456002,x456003,x456004,x456005 => if x456001 = 2 then (codesearchref33_fields.j2 k x3 true x456000 x456001 x456002 x456003 x456004 x456005) else (codesearchref33_fields.j2 k x3 (x456001 == 4) x456000 x456001 x456002 x456003 x456004 x456005)
def codesearchref33_fields.j2 : Nat → Bool → Bool → Int → Int → Int → List Int → List Int → List ByteArray → Option (Bool)
|0,_,_,_,_,_,_,_,_ => none
|k + 1,x3,x4,x456000,x456001,x456002,x456003,x456004,x456005 => if x3 = true then (if x4 = true then (if x456001 = 3 then (if x456001 = 4 then (codesearchref33_fields.j3 k x3 false x456000 x456001 x456002 x456003 x456004 x456005) else (codesearchref33_fields.j3 k x3 (decide ((x456005.length : Int) > 0)) x456000 x456001 x456002 x456003 x456004 x456005)) else (if (x456004.length : Int) > 0 then (codesearchref33_fields.j3 k x3 true x456000 x456001 x456002 x456003 x456004 x456005) else (if x456001 = 4 then (codesearchref33_fields.j3 k x3 false x456000 x456001 x456002 x456003 x456004 x456005) else (codesearchref33_fields.j3 k x3 (decide ((x456005.length : Int) > 0)) x456000 x456001 x456002 x456003 x456004 x456005)))) else (if (x456003.length : Int) > 0 then (codesearchref33_fields.j3 k x3 true x456000 x456001 x456002 x456003 x456004 x456005) else (if x456001 = 3 then (if x456001 = 4 then (codesearchref33_fields.j3 k x3 false x456000 x456001 x456002 x456003 x456004 x456005) else (codesearchref33_fields.j3 k x3 (decide ((x456005.length : Int) > 0)) x456000 x456001 x456002 x456003 x456004 x456005)) else (if (x456004.length : Int) > 0 then (codesearchref33_fields.j3 k x3 true x456000 x456001 x456002 x456003 x456004 x456005) else (if x456001 = 4 then (codesearchref33_fields.j3 k x3 false x456000 x456001 x456002 x456003 x456004 x456005) else (codesearchref33_fields.j3 k x3 (decide ((x456005.length : Int) > 0)) x456000 x456001 x456002 x456003 x456004 x456005)))))) else (if x456002 = 0 then (if x4 = true then (if x456001 = 3 then (if x456001 = 4 then (codesearchref33_fields.j3 k x3 false x456000 x456001 x456002 x456003 x456004 x456005) else (codesearchref33_fields.j3 k x3 (decide ((x456005.length : Int) > 0)) x456000 x456001 x456002 x456003 x456004 x456005)) else (if (x456004.length : Int) > 0 then (codesearchref33_fields.j3 k x3 true x456000 x456001 x456002 x456003 x456004 x456005) else (if x456001 = 4 then (codesearchref33_fields.j3 k x3 false x456000 x456001 x456002 x456003 x456004 x456005) else (codesearchref33_fields.j3 k x3 (decide ((x456005.length : Int) > 0)) x456000 x456001 x456002 x456003 x456004 x456005)))) else (if (x456003.length : Int) > 0 then (codesearchref33_fields.j3 k x3 true x456000 x456001 x456002 x456003 x456004 x456005) else (if x456001 = 3 then (if x456001 = 4 then (codesearchref33_fields.j3 k x3 false x456000 x456001 x456002 x456003 x456004 x456005) else (codesearchref33_fields.j3 k x3 (decide ((x456005.length : Int) > 0)) x456000 x456001 x456002 x456003 x456004 x456005)) else (if (x456004.length : Int) > 0 then (codesearchref33_fields.j3 k x3 true x456000 x456001 x456002 x456003 x456004 x456005) else (if x456001 = 4 then (codesearchref33_fields.j3 k x3 false x456000 x456001 x456002 x456003 x456004 x456005) else (codesearchref33_fields.j3 k x3 (decide ((x456005.length : Int) > 0)) x456000 x456001 x456002 x456003 x456004 x456005)))))) else (codesearchref33_fields.j3 k x3 true x456000 x456001 x456002 x456003 x456004 x456005))
def codesearchref33_fields.j3 : Nat → Bool → Bool → Int → Int → Int → List Int → List Int → List ByteArray → Option (Bool)
|0,_,_,_,_,_,_,_,_ => none
|k + 1,x3,x68,x456000,x456001,x456002,x456003,x456004,x456005 => if x68 = true then (some false) else (if x3 = true then (if x456002 < 1 then (codesearchref33_fields.j4 k true x456000 x456001 x456002 x456003 x456004 x456005) else (if x456002 > 9999 then (codesearchref33_fields.j4 k true x456000 x456001 x456002 x456003 x456004 x456005) else ((codesearchref05_Valid.f k x456003).bind fun t456 => (if t456 = true then ((codesearchref05_Valid.f k x456004).bind fun t457 => (codesearchref33_fields.j4 k (!t457) x456000 x456001 x456002 x456003 x456004 x456005)) else (codesearchref33_fields.j4 k true x456000 x456001 x456002 x456003 x456004 x456005))))) else ((codesearchref05_Valid.f k x456003).bind fun t458 => (if t458 = true then ((codesearchref05_Valid.f k x456004).bind fun t459 => (codesearchref33_fields.j4 k (!t459) x456000 x456001 x456002 x456003 x456004 x456005)) else (codesearchref33_fields.j4 k true x456000 x456001 x456002 x456003 x456004 x456005))))
def codesearchref33_fields.j4 : Nat → Bool → Int → Int → Int → List Int → List Int → List ByteArray → Option (Bool)
|0,_,_,_,_,_,_,_ => none
|k + 1,x91,x456000,x456001,x456002,x456003,x456004,x456005 => if x91 = true then (some false) else (if x456001 = 4 then (codesearchref33_fields.l0 k 0 x456000 x456001 x456002 x456003 x456004 x456005) else (some true))
def codesearchref33_fields.l0 : Nat → Int → Int → Int → Int → List Int → List Int → List ByteArray → Option (Bool)
|0,_,_,_,_,_,_,_ => none
|k + 1,x5,x456000,x456001,x456002,x456003,x456004,x456005 => if x5 < (x456005.length : Int) then (if 0 ≤ x5 then ((codesearchref33_name.f k (rdOf ByteArray.empty x456005 x5)).bind fun t461 => (if t461 = true then (if x5 > 0 then (if 0 ≤ (wrap64 (x5 - 1)) then (if (wrap64 (x5 - 1)) < (x456005.length : Int) then (if ((Op.bytesLess ((rdOf ByteArray.empty x456005 (wrap64 (x5 - 1))).toList) ((rdOf ByteArray.empty x456005 x5).toList)) = true) then (codesearchref33_fields.l0 k (wrap64 (x5 + 1)) x456000 x456001 x456002 x456003 x456004 x456005) else (some false)) else (none)) else (none)) else (codesearchref33_fields.l0 k (wrap64 (x5 + 1)) x456000 x456001 x456002 x456003 x456004 x456005)) else (some false))) else (none)) else (if (x456005.length : Int) > 0 then (some (decide ((x456003.length : Int) ≤ 1))) else (some false))
end
def codesearchref33_fields.f (k : Nat) (a0_0 : Int) (a0_1 : Int) (a0_2 : Int) (l0_3 : List Int) (l0_4 : List Int) (l0_5 : List ByteArray) : Option (Bool) := if a0_1 < 1 then (codesearchref33_fields.j0 k true a0_0 a0_1 a0_2 l0_3 l0_4 l0_5) else (codesearchref33_fields.j0 k (decide (a0_1 > 4)) a0_0 a0_1 a0_2 l0_3 l0_4 l0_5)
theorem codesearchref33_fields.mono_l : ∀ k, (∀ y0 y1 y2 y3 y4 y5 y6, LeO (codesearchref33_fields.j0 k y0 y1 y2 y3 y4 y5 y6) (codesearchref33_fields.j0 (k + 1) y0 y1 y2 y3 y4 y5 y6)) ∧ (∀ y0 y1 y2 y3 y4 y5 y6, LeO (codesearchref33_fields.j1 k y0 y1 y2 y3 y4 y5 y6) (codesearchref33_fields.j1 (k + 1) y0 y1 y2 y3 y4 y5 y6)) ∧ (∀ y0 y1 y2 y3 y4 y5 y6 y7, LeO (codesearchref33_fields.j2 k y0 y1 y2 y3 y4 y5 y6 y7) (codesearchref33_fields.j2 (k + 1) y0 y1 y2 y3 y4 y5 y6 y7)) ∧ (∀ y0 y1 y2 y3 y4 y5 y6 y7, LeO (codesearchref33_fields.j3 k y0 y1 y2 y3 y4 y5 y6 y7) (codesearchref33_fields.j3 (k + 1) y0 y1 y2 y3 y4 y5 y6 y7)) ∧ (∀ y0 y1 y2 y3 y4 y5 y6, LeO (codesearchref33_fields.j4 k y0 y1 y2 y3 y4 y5 y6) (codesearchref33_fields.j4 (k + 1) y0 y1 y2 y3 y4 y5 y6)) ∧ (∀ y0 y1 y2 y3 y4 y5 y6, LeO (codesearchref33_fields.l0 k y0 y1 y2 y3 y4 y5 y6) (codesearchref33_fields.l0 (k + 1) y0 y1 y2 y3 y4 y5 y6))
|0 => ⟨fun _ _ _ _ _ _ _ r h => by simp [codesearchref33_fields.j0] at h,fun _ _ _ _ _ _ _ r h => by simp [codesearchref33_fields.j1] at h,fun _ _ _ _ _ _ _ _ r h => by simp [codesearchref33_fields.j2] at h,fun _ _ _ _ _ _ _ _ r h => by simp [codesearchref33_fields.j3] at h,fun _ _ _ _ _ _ _ r h => by simp [codesearchref33_fields.j4] at h,fun _ _ _ _ _ _ _ r h => by simp [codesearchref33_fields.l0] at h⟩
|k + 1 => by
  obtain ⟨ih0,ih1,ih2,ih3,ih4,ih5⟩ := codesearchref33_fields.mono_l k
  refine ⟨?_,?_,?_,?_,?_,?_⟩
  ·intro y0 y1 y2 y3 y4 y5 y6
   unfold codesearchref33_fields.j0
   repeat' (with_reducible first|exact ih1 _ _ _ _ _ _ _|exact LeO.refl _|exact LeO.none _|refine LeO.ite ?_ ?_|refine LeO.bind ?_ (fun _ => ?_))
  ·intro y0 y1 y2 y3 y4 y5 y6
   unfold codesearchref33_fields.j1
   repeat' (with_reducible first|exact ih2 _ _ _ _ _ _ _ _|exact LeO.refl _|exact LeO.none _|refine LeO.ite ?_ ?_|refine LeO.bind ?_ (fun _ => ?_))
  ·intro y0 y1 y2 y3 y4 y5 y6 y7
   unfold codesearchref33_fields.j2
   repeat' (with_reducible first|exact ih3 _ _ _ _ _ _ _ _|exact LeO.refl _|exact LeO.none _|refine LeO.ite ?_ ?_|refine LeO.bind ?_ (fun _ => ?_))
  ·intro y0 y1 y2 y3 y4 y5 y6 y7
   unfold codesearchref33_fields.j3
   repeat' (with_reducible first|exact ih4 _ _ _ _ _ _ _|exact codesearchref05_Valid.mono _ _|exact LeO.refl _|exact LeO.none _|refine LeO.ite ?_ ?_|refine LeO.bind ?_ (fun _ => ?_))
  ·intro y0 y1 y2 y3 y4 y5 y6
   unfold codesearchref33_fields.j4
   repeat' (with_reducible first|exact ih5 _ _ _ _ _ _ _|exact LeO.refl _|exact LeO.none _|refine LeO.ite ?_ ?_|refine LeO.bind ?_ (fun _ => ?_))
  ·intro y0 y1 y2 y3 y4 y5 y6
   unfold codesearchref33_fields.l0
   repeat' (with_reducible first|exact ih5 _ _ _ _ _ _ _|exact codesearchref33_name.mono _ _|exact LeO.refl _|exact LeO.none _|refine LeO.ite ?_ ?_|refine LeO.bind ?_ (fun _ => ?_))
theorem codesearchref33_fields.mono : ∀ a0 a1 a2 a3 a4 a5 k, LeO (codesearchref33_fields.f k a0 a1 a2 a3 a4 a5) (codesearchref33_fields.f (k + 1) a0 a1 a2 a3 a4 a5) := by
 intro a0 a1 a2 a3 a4 a5 k
 obtain ⟨ih0,ih1,ih2,ih3,ih4,ih5⟩ := codesearchref33_fields.mono_l k
 unfold codesearchref33_fields.f
 repeat' first
  |(with_reducible exact ih0 _ _ _ _ _ _ _)
  |(with_reducible exact ih1 _ _ _ _ _ _ _)
  |(with_reducible exact ih2 _ _ _ _ _ _ _ _)
  |(with_reducible exact ih3 _ _ _ _ _ _ _ _)
  |(with_reducible exact ih4 _ _ _ _ _ _ _)
  |(with_reducible exact ih5 _ _ _ _ _ _ _)
  |(with_reducible exact codesearchref05_Valid.mono _ _)
  |(with_reducible exact codesearchref33_name.mono _ _)
  |(with_reducible exact LeO.refl _)
  |(with_reducible exact LeO.none _)
  |(with_reducible refine LeO.ite ?_ ?_)
  |(with_reducible refine LeO.bind ?_ (fun _ => ?_))
  |exact ih0 _ _ _ _ _ _ _
  |exact ih1 _ _ _ _ _ _ _
  |exact ih2 _ _ _ _ _ _ _ _
  |exact ih3 _ _ _ _ _ _ _ _
  |exact ih4 _ _ _ _ _ _ _
  |exact ih5 _ _ _ _ _ _ _
  |exact codesearchref05_Valid.mono _ _
  |exact codesearchref33_name.mono _ _
  |exact LeO.none _
  |refine LeO.ite ?_ ?_
  |refine LeO.bind ?_ (fun _ => ?_)
set_option maxHeartbeats 4000000 in
set_option maxRecDepth 100000 in
theorem codesearchref33_fields.calls (k : Nat) (a0_0 : Int) (a0_1 : Int) (a0_2 : Int) (A0_3 : Option Addr) (c0_3 : Nat) (l0_3 : List Int) (A0_4 : Option Addr) (c0_4 : Nat) (l0_4 : List Int) (A0_5 : Option Addr) (c0_5 : Nat) (l0_5 : List ByteArray) (r : Bool) (w : World) (hr0_3 : Kd.C (Kd.int .i64) w A0_3 l0_3.length l0_3) (hc0_3 : l0_3.length ≤ c0_3) (hr0_4 : Kd.C (Kd.int .i64) w A0_4 l0_4.length l0_4) (hc0_4 : l0_4.length ≤ c0_4) (hr0_5 : Kd.C Kd.string w A0_5 l0_5.length l0_5) (hc0_5 : l0_5.length ≤ c0_5) (h : codesearchref33_fields.f k a0_0 a0_1 a0_2 l0_3 l0_4 l0_5 = some r) :
  Calls Tryz.prog 26 #[.agg #[.int .i64 a0_0,.int .i64 a0_1,.int .i64 a0_2,.slice A0_3 l0_3.length c0_3,.slice A0_4 l0_4.length c0_4,.slice A0_5 l0_5.length c0_5]] w fun e w' => e = .returned (.bool r) ∧ Below w.heap.size w w' := by
 have hu30 := Tryz.underlying30
 have HR0_3 := aK hr0_3
 have HC0_3 := aK hc0_3
 clear hr0_3 hc0_3
 have HR0_4 := aK hr0_4
 have HC0_4 := aK hc0_4
 clear hr0_4 hc0_4
 have HR0_5 := aK hr0_5
 have HC0_5 := aK hc0_5
 clear hr0_5 hc0_5
 have HB := aK (Below.refl w.heap.size w)
 have H : (if a0_1 < 1 then (codesearchref33_fields.j0 k true a0_0 a0_1 a0_2 l0_3 l0_4 l0_5) else (codesearchref33_fields.j0 k (decide (a0_1 > 4)) a0_0 a0_1 a0_2 l0_3 l0_4 l0_5)) = some r := h
 clear h
 have HC2 := aK H
 clear H
 go_enter Tryz.func26,Tryz.ntmps26
 go_upto_region 1 with (first|((with_reducible refine gate_dst (N := 1) rfl ?_);(try (refine gate_guard (by rfl) ?_;dsimp only));refine box_event ?hg (N := 1) ?hd (cs := #[.int .i64 a0_0,.int .i64 a0_1,.int .i64 a0_2,.slice A0_3 l0_3.length c0_3,.slice A0_4 l0_4.length c0_4,.slice A0_5 l0_5.length c0_5]) (t := 30) ?hr ?_;(case hd => rfl);(case hg => rfl);(case hr => first|(go_simp;done)|(go_simp;rfl));intro gb455 hg w3 hbox hb;have BK455 := aK (hbox);have GW455 := aK ((by rw [hg];exact (below_size (bM HB.out)) : w.heap.size ≤ gb455));have GJ455 := Ge.mk GW455.out;have GE455 := aK ((by rw [hg];exact (below_size (bM HB.out)) : w.heap.size ≤ gb455));have GI455 := Ge.mk GE455.out;replace HB := aK (below_step (bM HB.out) hb);clear hb hbox hg))
 repeat (go_quiet (first|((with_reducible refine gate_dst (N := 1) rfl ?_);(try (refine gate_guard (by rfl) ?_;dsimp only));refine box_event ?hg (N := 1) ?hd (cs := #[.int .i64 a0_0,.int .i64 a0_1,.int .i64 a0_2,.slice A0_3 l0_3.length c0_3,.slice A0_4 l0_4.length c0_4,.slice A0_5 l0_5.length c0_5]) (t := 30) ?hr ?_;(case hd => rfl);(case hg => rfl);(case hr => first|(go_simp;done)|(go_simp;rfl));intro gb455 hg w3 hbox hb;have BK455 := aK (hbox);have GW455 := aK ((by rw [hg];exact (below_size (bM HB.out)) : w.heap.size ≤ gb455));have GJ455 := Ge.mk GW455.out;have GE455 := aK ((by rw [hg];exact (below_size (bM HB.out)) : w.heap.size ≤ gb455));have GI455 := Ge.mk GE455.out;replace HB := aK (below_step (bM HB.out) hb);clear hb hbox hg));go_upto_region 1 with (first|((with_reducible refine gate_dst (N := 1) rfl ?_);(try (refine gate_guard (by rfl) ?_;dsimp only));refine box_event ?hg (N := 1) ?hd (cs := #[.int .i64 a0_0,.int .i64 a0_1,.int .i64 a0_2,.slice A0_3 l0_3.length c0_3,.slice A0_4 l0_4.length c0_4,.slice A0_5 l0_5.length c0_5]) (t := 30) ?hr ?_;(case hd => rfl);(case hg => rfl);(case hr => first|(go_simp;done)|(go_simp;rfl));intro gb455 hg w3 hbox hb;have BK455 := aK (hbox);have GW455 := aK ((by rw [hg];exact (below_size (bM HB.out)) : w.heap.size ≤ gb455));have GJ455 := Ge.mk GW455.out;have GE455 := aK ((by rw [hg];exact (below_size (bM HB.out)) : w.heap.size ≤ gb455));have GI455 := Ge.mk GE455.out;replace HB := aK (below_step (bM HB.out) hb);clear hb hbox hg)))
 (try simp only [Act.put,List.setIfInBounds_toArray,List.set_cons_zero,List.set_cons_succ])
 go_cut [13] (fun v13 wc => ∃ (kq : Nat) (x13_1 : Bool),v13 = .bool x13_1 ∧ Aside0 (codesearchref33_fields.j0 kq x13_1 a0_0 a0_1 a0_2 l0_3 l0_4 l0_5 = some r) ∧ Aside0 (kq ≤ k) ∧ Aside0 (wc.heap[gb455]? = some (.cells #[.int .i64 a0_0,.int .i64 a0_1,.int .i64 a0_2,(.slice A0_3 l0_3.length c0_3),(.slice A0_4 l0_4.length c0_4),(.slice A0_5 l0_5.length c0_5)] 30 (0,0))) ∧ Aside0 (Below w.heap.size w wc))
 case first =>
  have H := HC2.out
  clear HC2
  by_cases c4 : a0_1 < 1
  ·rw [if_pos c4] at H
   have c4b0 := decide_eq_true c4
   clear c4
   (first|rw [c4b0]|(simp only [i64_w,i32_w];rw [c4b0])|rw [c4b1]|skip)
   as_aux_lemma =>
    have H' := aK H
    clear H
    obtain ⟨_,_,_,_,_,_,_,_,_,_,_,_⟩ := bk6_ BK455.out
    go_wp2
    repeat (go_quiet (fail);try go_wp2)
    go_meet
    case rel => exact ⟨_,(true),(by first|rfl|(simp;done)|(simp [*];done)),H',⟨by first|omega|exact Nat.le_refl _⟩,⟨kM BK455.out⟩,⟨bG HB.out⟩⟩
  ·rw [if_neg c4] at H
   have c4b0 := decide_eq_false c4
   clear c4
   (first|rw [c4b0]|(simp only [i64_w,i32_w];rw [c4b0])|rw [c4b1]|skip)
   as_aux_lemma =>
    have H' := aK H
    clear H
    obtain ⟨_,_,_,_,_,_,_,_,_,_,_,_⟩ := bk6_ BK455.out
    go_wp2
    repeat (go_quiet (fail);try go_wp2)
    go_meet
    case rel => exact ⟨_,(decide (a0_1 > 4)),(by first|rfl|(simp;done)|(simp [*];done)),H',⟨by first|omega|exact Nat.le_refl _⟩,⟨kM BK455.out⟩,⟨bG HB.out⟩⟩
 case rest =>
  clear HC2
  try clear p2
  obtain ⟨kq,x13_1,rfl,HA,HJ1,BK455,HB⟩ := hcut
  cases kq with
 |zero => exact absurd HA.out (by simp [codesearchref33_fields.j0])
 |succ kj1 =>
   have H := HA.out
   clear HA
   simp only [codesearchref33_fields.j0] at H
   by_cases c7 : x13_1 = true
   ·subst c7
    rw [if_pos rfl] at H
    as_aux_lemma =>
     obtain rfl := Option.some.inj H
     go_wp2
     repeat (go_quiet (fail);try go_wp2)
     go_ret
     exact ⟨by first|rfl|(simp [errW_none,errW_some] <;> rfl)|(simp [*,errW_none,errW_some] <;> rfl),bG HB.out⟩
   ·replace c7 := Bool.eq_false_iff.mpr c7
    subst c7
    rw [if_neg (show ¬ (false = true) by decide)] at H
    have HC8 := aK H
    clear H
    go_upto_region 3 with (fail)
    repeat (go_quiet (fail);go_upto_region 3 with (fail))
    go_cut [3] (fun v3 wc => ∃ (kq : Nat) (x3_7 : Bool),v3 = .bool x3_7 ∧ Aside0 (codesearchref33_fields.j1 kq x3_7 a0_0 a0_1 a0_2 l0_3 l0_4 l0_5 = some r) ∧ Aside0 (kq ≤ kj1) ∧ Aside0 (wc.heap[gb455]? = some (.cells #[.int .i64 a0_0,.int .i64 a0_1,.int .i64 a0_2,(.slice A0_3 l0_3.length c0_3),(.slice A0_4 l0_4.length c0_4),(.slice A0_5 l0_5.length c0_5)] 30 (0,0))) ∧ Aside0 (Below w.heap.size w wc))
    case first =>
     have H := HC8.out
     clear HC8
     by_cases c9 : a0_1 = 1
     ·rw [if_pos c9] at H
      have c9b0 := beq_iff_eq.mpr c9
      have c9b1 := bne_eq_false_iff_eq.mpr c9
      clear c9
      (first|rw [c9b0]|(simp only [i64_w,i32_w];rw [c9b0])|rw [c9b1]|skip)
      as_aux_lemma =>
       have H' := aK H
       clear H
       obtain ⟨_,_,_,_,_,_,_,_,_,_,_,_⟩ := bk6_ BK455.out
       go_wp2
       repeat (go_quiet (fail);try go_wp2)
       go_meet
       case rel => exact ⟨_,(true),(by first|rfl|(simp;done)|(simp [*];done)),H',⟨by have := HJ1.out;first|omega|exact Nat.le_refl _⟩,⟨kM BK455.out⟩,⟨bG HB.out⟩⟩
     ·rw [if_neg c9] at H
      have c9b0 := beq_eq_false_iff_ne.mpr c9
      have c9b1 := bne_iff_ne.mpr c9
      (first|rw [c9b0]|(simp only [i64_w,i32_w];rw [c9b0])|rw [c9b1]|skip)
      as_aux_lemma =>
       have H' := aK H
       clear H
       obtain ⟨_,_,_,_,_,_,_,_,_,_,_,_⟩ := bk6_ BK455.out
       go_wp2
       repeat (go_quiet (fail);try go_wp2)
       go_meet
       case rel => exact ⟨_,((a0_1 == 3)),(by first|rfl|(simp;done)|(simp [*];done)),H',⟨by have := HJ1.out;first|omega|exact Nat.le_refl _⟩,⟨kM BK455.out⟩,⟨bG HB.out⟩⟩
    case rest =>
     clear HC8
     try clear p2
     try clear c7
     try clear p2
     obtain ⟨kq,x3_7,rfl,HA,HJ7,BK455,HB⟩ := hcut
     cases kq with
    |zero => exact absurd HA.out (by simp [codesearchref33_fields.j1])
    |succ kj7 =>
      have H := HA.out
      clear HA
      simp only [codesearchref33_fields.j1] at H
      have HC12 := aK H
      clear H
      go_upto_region 4 with (fail)
      repeat (go_quiet (fail);go_upto_region 4 with (fail))
      go_cut [4] (fun v4 wc => ∃ (kq : Nat) (x4_11 : Bool),v4 = .bool x4_11 ∧ Aside0 (codesearchref33_fields.j2 kq x3_7 x4_11 a0_0 a0_1 a0_2 l0_3 l0_4 l0_5 = some r) ∧ Aside0 (kq ≤ kj7) ∧ Aside0 (wc.heap[gb455]? = some (.cells #[.int .i64 a0_0,.int .i64 a0_1,.int .i64 a0_2,(.slice A0_3 l0_3.length c0_3),(.slice A0_4 l0_4.length c0_4),(.slice A0_5 l0_5.length c0_5)] 30 (0,0))) ∧ Aside0 (Below w.heap.size w wc))
      case first =>
       have H := HC12.out
       clear HC12
       by_cases c13 : a0_1 = 2
       ·rw [if_pos c13] at H
        have c13b0 := beq_iff_eq.mpr c13
        have c13b1 := bne_eq_false_iff_eq.mpr c13
        clear c13
        (first|rw [c13b0]|(simp only [i64_w,i32_w];rw [c13b0])|rw [c13b1]|skip)
        as_aux_lemma =>
         have H' := aK H
         clear H
         obtain ⟨_,_,_,_,_,_,_,_,_,_,_,_⟩ := bk6_ BK455.out
         go_wp2
         repeat (go_quiet (fail);try go_wp2)
         go_meet
         case rel => exact ⟨_,(true),(by first|rfl|(simp;done)|(simp [*];done)),H',⟨by have := HJ1.out;have := HJ7.out;first|omega|exact Nat.le_refl _⟩,⟨kM BK455.out⟩,⟨bG HB.out⟩⟩
       ·rw [if_neg c13] at H
        have c13b0 := beq_eq_false_iff_ne.mpr c13
        have c13b1 := bne_iff_ne.mpr c13
        (first|rw [c13b0]|(simp only [i64_w,i32_w];rw [c13b0])|rw [c13b1]|skip)
        as_aux_lemma =>
         have H' := aK H
         clear H
         obtain ⟨_,_,_,_,_,_,_,_,_,_,_,_⟩ := bk6_ BK455.out
         go_wp2
         repeat (go_quiet (fail);try go_wp2)
         go_meet
         case rel => exact ⟨_,((a0_1 == 4)),(by first|rfl|(simp;done)|(simp [*];done)),H',⟨by have := HJ1.out;have := HJ7.out;first|omega|exact Nat.le_refl _⟩,⟨kM BK455.out⟩,⟨bG HB.out⟩⟩
      case rest =>
       clear HC12
       try clear p2
       try clear p2
       obtain ⟨kq,x4_11,rfl,HA,HJ11,BK455,HB⟩ := hcut
       cases kq with
      |zero => exact absurd HA.out (by simp [codesearchref33_fields.j2])
      |succ kj11 =>
        have H := HA.out
        clear HA
        simp only [codesearchref33_fields.j2] at H
        have HC16 := aK H
        clear H
        go_upto_region 5 with (fail)
        repeat (go_quiet (fail);go_upto_region 5 with (fail))
        go_cut [68] (fun v68 wc => ∃ (kq : Nat) (x68_15 : Bool),v68 = .bool x68_15 ∧ Aside0 (codesearchref33_fields.j3 kq x3_7 x68_15 a0_0 a0_1 a0_2 l0_3 l0_4 l0_5 = some r) ∧ Aside0 (kq ≤ kj11) ∧ Aside0 (wc.heap[gb455]? = some (.cells #[.int .i64 a0_0,.int .i64 a0_1,.int .i64 a0_2,(.slice A0_3 l0_3.length c0_3),(.slice A0_4 l0_4.length c0_4),(.slice A0_5 l0_5.length c0_5)] 30 (0,0))) ∧ Aside0 (Below w.heap.size w wc))
        case first =>
         have H := HC16.out
         clear HC16
         by_cases c17 : x3_7 = true
         ·subst c17
          rw [if_pos rfl] at H
          by_cases c18 : x4_11 = true
          ·subst c18
           rw [if_pos rfl] at H
           by_cases c19 : a0_1 = 3
           ·rw [if_pos c19] at H
            have c19b0 := beq_iff_eq.mpr c19
            have c19b1 := bne_eq_false_iff_eq.mpr c19
            clear c19
            (first|rw [c19b0]|(simp only [i64_w,i32_w];rw [c19b0])|rw [c19b1]|skip)
            by_cases c20 : a0_1 = 4
            ·rw [if_pos c20] at H
             have c20b0 := beq_iff_eq.mpr c20
             have c20b1 := bne_eq_false_iff_eq.mpr c20
             clear c20
             as_aux_lemma =>
              have H' := aK H
              clear H
              obtain ⟨_,_,_,_,_,_,_,_,_,_,_,_⟩ := bk6_ BK455.out
              go_wp2
              repeat (go_quiet (fail);try go_wp2)
              go_meet
              case rel => exact ⟨_,(false),(by first|rfl|(simp;done)|(simp [*];done)),H',⟨by have := HJ1.out;have := HJ7.out;have := HJ11.out;first|omega|exact Nat.le_refl _⟩,⟨kM BK455.out⟩,⟨bG HB.out⟩⟩
            ·rw [if_neg c20] at H
             have c20b0 := beq_eq_false_iff_ne.mpr c20
             have c20b1 := bne_iff_ne.mpr c20
             as_aux_lemma =>
              have H' := aK H
              clear H
              obtain ⟨_,_,_,_,_,_,_,_,_,_,_,_⟩ := bk6_ BK455.out
              go_wp2
              repeat (go_quiet (fail);try go_wp2)
              go_meet
              case rel => exact ⟨_,(decide ((l0_5.length : Int) > 0)),(by first|rfl|(simp;done)|(simp [*];done)),H',⟨by have := HJ1.out;have := HJ7.out;have := HJ11.out;first|omega|exact Nat.le_refl _⟩,⟨kM BK455.out⟩,⟨bG HB.out⟩⟩
           ·rw [if_neg c19] at H
            have c19b0 := beq_eq_false_iff_ne.mpr c19
            have c19b1 := bne_iff_ne.mpr c19
            (first|rw [c19b0]|(simp only [i64_w,i32_w];rw [c19b0])|rw [c19b1]|skip)
            by_cases c23 : (l0_4.length : Int) > 0
            ·rw [if_pos c23] at H
             have c23b0 := decide_eq_true c23
             have c23b1 : decide (0 < l0_4.length) = true := decide_eq_true (by omega)
             clear c23
             as_aux_lemma =>
              have H' := aK H
              clear H
              obtain ⟨_,_,_,_,_,_,_,_,_,_,_,_⟩ := bk6_ BK455.out
              go_wp2
              repeat (go_quiet (fail);try go_wp2)
              go_meet
              case rel => exact ⟨_,(true),(by first|rfl|(simp;done)|(simp [*];done)),H',⟨by have := HJ1.out;have := HJ7.out;have := HJ11.out;first|omega|exact Nat.le_refl _⟩,⟨kM BK455.out⟩,⟨bG HB.out⟩⟩
            ·rw [if_neg c23] at H
             have c23b0 := decide_eq_false c23
             have c23b1 : decide (0 < l0_4.length) = false := decide_eq_false (by omega)
             clear c23
             by_cases c25 : a0_1 = 4
             ·rw [if_pos c25] at H
              have c25b0 := beq_iff_eq.mpr c25
              have c25b1 := bne_eq_false_iff_eq.mpr c25
              clear c25
              as_aux_lemma =>
               have H' := aK H
               clear H
               obtain ⟨_,_,_,_,_,_,_,_,_,_,_,_⟩ := bk6_ BK455.out
               go_wp2
               repeat (go_quiet (fail);try go_wp2)
               go_meet
               case rel => exact ⟨_,(false),(by first|rfl|(simp;done)|(simp [*];done)),H',⟨by have := HJ1.out;have := HJ7.out;have := HJ11.out;first|omega|exact Nat.le_refl _⟩,⟨kM BK455.out⟩,⟨bG HB.out⟩⟩
             ·rw [if_neg c25] at H
              have c25b0 := beq_eq_false_iff_ne.mpr c25
              have c25b1 := bne_iff_ne.mpr c25
              as_aux_lemma =>
               have H' := aK H
               clear H
               obtain ⟨_,_,_,_,_,_,_,_,_,_,_,_⟩ := bk6_ BK455.out
               go_wp2
               repeat (go_quiet (fail);try go_wp2)
               go_meet
               case rel => exact ⟨_,(decide ((l0_5.length : Int) > 0)),(by first|rfl|(simp;done)|(simp [*];done)),H',⟨by have := HJ1.out;have := HJ7.out;have := HJ11.out;first|omega|exact Nat.le_refl _⟩,⟨kM BK455.out⟩,⟨bG HB.out⟩⟩
          ·replace c18 := Bool.eq_false_iff.mpr c18
           subst c18
           rw [if_neg (show ¬ (false = true) by decide)] at H
           by_cases c28 : (l0_3.length : Int) > 0
           ·rw [if_pos c28] at H
            have c28b0 := decide_eq_true c28
            have c28b1 : decide (0 < l0_3.length) = true := decide_eq_true (by omega)
            clear c28
            as_aux_lemma =>
             have H' := aK H
             clear H
             obtain ⟨_,_,_,_,_,_,_,_,_,_,_,_⟩ := bk6_ BK455.out
             go_wp2
             repeat (go_quiet (fail);try go_wp2)
             go_meet
             case rel => exact ⟨_,(true),(by first|rfl|(simp;done)|(simp [*];done)),H',⟨by have := HJ1.out;have := HJ7.out;have := HJ11.out;first|omega|exact Nat.le_refl _⟩,⟨kM BK455.out⟩,⟨bG HB.out⟩⟩
           ·rw [if_neg c28] at H
            have c28b0 := decide_eq_false c28
            have c28b1 : decide (0 < l0_3.length) = false := decide_eq_false (by omega)
            clear c28
            by_cases c30 : a0_1 = 3
            ·rw [if_pos c30] at H
             have c30b0 := beq_iff_eq.mpr c30
             have c30b1 := bne_eq_false_iff_eq.mpr c30
             clear c30
             by_cases c31 : a0_1 = 4
             ·rw [if_pos c31] at H
              have c31b0 := beq_iff_eq.mpr c31
              have c31b1 := bne_eq_false_iff_eq.mpr c31
              clear c31
              as_aux_lemma =>
               have H' := aK H
               clear H
               obtain ⟨_,_,_,_,_,_,_,_,_,_,_,_⟩ := bk6_ BK455.out
               go_wp2
               repeat (go_quiet (fail);try go_wp2)
               go_meet
               case rel => exact ⟨_,(false),(by first|rfl|(simp;done)|(simp [*];done)),H',⟨by have := HJ1.out;have := HJ7.out;have := HJ11.out;first|omega|exact Nat.le_refl _⟩,⟨kM BK455.out⟩,⟨bG HB.out⟩⟩
             ·rw [if_neg c31] at H
              have c31b0 := beq_eq_false_iff_ne.mpr c31
              have c31b1 := bne_iff_ne.mpr c31
              as_aux_lemma =>
               have H' := aK H
               clear H
               obtain ⟨_,_,_,_,_,_,_,_,_,_,_,_⟩ := bk6_ BK455.out
               go_wp2
               repeat (go_quiet (fail);try go_wp2)
               go_meet
               case rel => exact ⟨_,(decide ((l0_5.length : Int) > 0)),(by first|rfl|(simp;done)|(simp [*];done)),H',⟨by have := HJ1.out;have := HJ7.out;have := HJ11.out;first|omega|exact Nat.le_refl _⟩,⟨kM BK455.out⟩,⟨bG HB.out⟩⟩
            ·rw [if_neg c30] at H
             have c30b0 := beq_eq_false_iff_ne.mpr c30
             have c30b1 := bne_iff_ne.mpr c30
             by_cases c34 : (l0_4.length : Int) > 0
             ·rw [if_pos c34] at H
              have c34b0 := decide_eq_true c34
              have c34b1 : decide (0 < l0_4.length) = true := decide_eq_true (by omega)
              clear c34
              as_aux_lemma =>
               have H' := aK H
               clear H
               obtain ⟨_,_,_,_,_,_,_,_,_,_,_,_⟩ := bk6_ BK455.out
               go_wp2
               repeat (go_quiet (fail);try go_wp2)
               go_meet
               case rel => exact ⟨_,(true),(by first|rfl|(simp;done)|(simp [*];done)),H',⟨by have := HJ1.out;have := HJ7.out;have := HJ11.out;first|omega|exact Nat.le_refl _⟩,⟨kM BK455.out⟩,⟨bG HB.out⟩⟩
             ·rw [if_neg c34] at H
              have c34b0 := decide_eq_false c34
              have c34b1 : decide (0 < l0_4.length) = false := decide_eq_false (by omega)
              clear c34
              by_cases c36 : a0_1 = 4
              ·rw [if_pos c36] at H
               have c36b0 := beq_iff_eq.mpr c36
               have c36b1 := bne_eq_false_iff_eq.mpr c36
               clear c36
               as_aux_lemma =>
                have H' := aK H
                clear H
                obtain ⟨_,_,_,_,_,_,_,_,_,_,_,_⟩ := bk6_ BK455.out
                go_wp2
                repeat (go_quiet (fail);try go_wp2)
                go_meet
                case rel => exact ⟨_,(false),(by first|rfl|(simp;done)|(simp [*];done)),H',⟨by have := HJ1.out;have := HJ7.out;have := HJ11.out;first|omega|exact Nat.le_refl _⟩,⟨kM BK455.out⟩,⟨bG HB.out⟩⟩
              ·rw [if_neg c36] at H
               have c36b0 := beq_eq_false_iff_ne.mpr c36
               have c36b1 := bne_iff_ne.mpr c36
               as_aux_lemma =>
                have H' := aK H
                clear H
                obtain ⟨_,_,_,_,_,_,_,_,_,_,_,_⟩ := bk6_ BK455.out
                go_wp2
                repeat (go_quiet (fail);try go_wp2)
                go_meet
                case rel => exact ⟨_,(decide ((l0_5.length : Int) > 0)),(by first|rfl|(simp;done)|(simp [*];done)),H',⟨by have := HJ1.out;have := HJ7.out;have := HJ11.out;first|omega|exact Nat.le_refl _⟩,⟨kM BK455.out⟩,⟨bG HB.out⟩⟩
         ·replace c17 := Bool.eq_false_iff.mpr c17
          subst c17
          rw [if_neg (show ¬ (false = true) by decide)] at H
          by_cases c39 : a0_2 = 0
          ·rw [if_pos c39] at H
           have c39b0 := beq_iff_eq.mpr c39
           have c39b1 := bne_eq_false_iff_eq.mpr c39
           clear c39
           by_cases c40 : x4_11 = true
           ·subst c40
            rw [if_pos rfl] at H
            by_cases c41 : a0_1 = 3
            ·rw [if_pos c41] at H
             have c41b0 := beq_iff_eq.mpr c41
             have c41b1 := bne_eq_false_iff_eq.mpr c41
             clear c41
             by_cases c42 : a0_1 = 4
             ·rw [if_pos c42] at H
              have c42b0 := beq_iff_eq.mpr c42
              have c42b1 := bne_eq_false_iff_eq.mpr c42
              clear c42
              as_aux_lemma =>
               have H' := aK H
               clear H
               obtain ⟨_,_,_,_,_,_,_,_,_,_,_,_⟩ := bk6_ BK455.out
               go_wp2
               repeat (go_quiet (fail);try go_wp2)
               go_meet
               case rel => exact ⟨_,(false),(by first|rfl|(simp;done)|(simp [*];done)),H',⟨by have := HJ1.out;have := HJ7.out;have := HJ11.out;first|omega|exact Nat.le_refl _⟩,⟨kM BK455.out⟩,⟨bG HB.out⟩⟩
             ·rw [if_neg c42] at H
              have c42b0 := beq_eq_false_iff_ne.mpr c42
              have c42b1 := bne_iff_ne.mpr c42
              as_aux_lemma =>
               have H' := aK H
               clear H
               obtain ⟨_,_,_,_,_,_,_,_,_,_,_,_⟩ := bk6_ BK455.out
               go_wp2
               repeat (go_quiet (fail);try go_wp2)
               go_meet
               case rel => exact ⟨_,(decide ((l0_5.length : Int) > 0)),(by first|rfl|(simp;done)|(simp [*];done)),H',⟨by have := HJ1.out;have := HJ7.out;have := HJ11.out;first|omega|exact Nat.le_refl _⟩,⟨kM BK455.out⟩,⟨bG HB.out⟩⟩
            ·rw [if_neg c41] at H
             have c41b0 := beq_eq_false_iff_ne.mpr c41
             have c41b1 := bne_iff_ne.mpr c41
             by_cases c45 : (l0_4.length : Int) > 0
             ·rw [if_pos c45] at H
              have c45b0 := decide_eq_true c45
              have c45b1 : decide (0 < l0_4.length) = true := decide_eq_true (by omega)
              clear c45
              as_aux_lemma =>
               have H' := aK H
               clear H
               obtain ⟨_,_,_,_,_,_,_,_,_,_,_,_⟩ := bk6_ BK455.out
               go_wp2
               repeat (go_quiet (fail);try go_wp2)
               go_meet
               case rel => exact ⟨_,(true),(by first|rfl|(simp;done)|(simp [*];done)),H',⟨by have := HJ1.out;have := HJ7.out;have := HJ11.out;first|omega|exact Nat.le_refl _⟩,⟨kM BK455.out⟩,⟨bG HB.out⟩⟩
             ·rw [if_neg c45] at H
              have c45b0 := decide_eq_false c45
              have c45b1 : decide (0 < l0_4.length) = false := decide_eq_false (by omega)
              clear c45
              by_cases c47 : a0_1 = 4
              ·rw [if_pos c47] at H
               have c47b0 := beq_iff_eq.mpr c47
               have c47b1 := bne_eq_false_iff_eq.mpr c47
               clear c47
               as_aux_lemma =>
                have H' := aK H
                clear H
                obtain ⟨_,_,_,_,_,_,_,_,_,_,_,_⟩ := bk6_ BK455.out
                go_wp2
                repeat (go_quiet (fail);try go_wp2)
                go_meet
                case rel => exact ⟨_,(false),(by first|rfl|(simp;done)|(simp [*];done)),H',⟨by have := HJ1.out;have := HJ7.out;have := HJ11.out;first|omega|exact Nat.le_refl _⟩,⟨kM BK455.out⟩,⟨bG HB.out⟩⟩
              ·rw [if_neg c47] at H
               have c47b0 := beq_eq_false_iff_ne.mpr c47
               have c47b1 := bne_iff_ne.mpr c47
               as_aux_lemma =>
                have H' := aK H
                clear H
                obtain ⟨_,_,_,_,_,_,_,_,_,_,_,_⟩ := bk6_ BK455.out
                go_wp2
                repeat (go_quiet (fail);try go_wp2)
                go_meet
                case rel => exact ⟨_,(decide ((l0_5.length : Int) > 0)),(by first|rfl|(simp;done)|(simp [*];done)),H',⟨by have := HJ1.out;have := HJ7.out;have := HJ11.out;first|omega|exact Nat.le_refl _⟩,⟨kM BK455.out⟩,⟨bG HB.out⟩⟩
           ·replace c40 := Bool.eq_false_iff.mpr c40
            subst c40
            rw [if_neg (show ¬ (false = true) by decide)] at H
            by_cases c50 : (l0_3.length : Int) > 0
            ·rw [if_pos c50] at H
             have c50b0 := decide_eq_true c50
             have c50b1 : decide (0 < l0_3.length) = true := decide_eq_true (by omega)
             clear c50
             as_aux_lemma =>
              have H' := aK H
              clear H
              obtain ⟨_,_,_,_,_,_,_,_,_,_,_,_⟩ := bk6_ BK455.out
              go_wp2
              repeat (go_quiet (fail);try go_wp2)
              go_meet
              case rel => exact ⟨_,(true),(by first|rfl|(simp;done)|(simp [*];done)),H',⟨by have := HJ1.out;have := HJ7.out;have := HJ11.out;first|omega|exact Nat.le_refl _⟩,⟨kM BK455.out⟩,⟨bG HB.out⟩⟩
            ·rw [if_neg c50] at H
             have c50b0 := decide_eq_false c50
             have c50b1 : decide (0 < l0_3.length) = false := decide_eq_false (by omega)
             clear c50
             by_cases c52 : a0_1 = 3
             ·rw [if_pos c52] at H
              have c52b0 := beq_iff_eq.mpr c52
              have c52b1 := bne_eq_false_iff_eq.mpr c52
              clear c52
              by_cases c53 : a0_1 = 4
              ·rw [if_pos c53] at H
               have c53b0 := beq_iff_eq.mpr c53
               have c53b1 := bne_eq_false_iff_eq.mpr c53
               clear c53
               as_aux_lemma =>
                have H' := aK H
                clear H
                obtain ⟨_,_,_,_,_,_,_,_,_,_,_,_⟩ := bk6_ BK455.out
                go_wp2
                repeat (go_quiet (fail);try go_wp2)
                go_meet
                case rel => exact ⟨_,(false),(by first|rfl|(simp;done)|(simp [*];done)),H',⟨by have := HJ1.out;have := HJ7.out;have := HJ11.out;first|omega|exact Nat.le_refl _⟩,⟨kM BK455.out⟩,⟨bG HB.out⟩⟩
              ·rw [if_neg c53] at H
               have c53b0 := beq_eq_false_iff_ne.mpr c53
               have c53b1 := bne_iff_ne.mpr c53
               as_aux_lemma =>
                have H' := aK H
                clear H
                obtain ⟨_,_,_,_,_,_,_,_,_,_,_,_⟩ := bk6_ BK455.out
                go_wp2
                repeat (go_quiet (fail);try go_wp2)
                go_meet
                case rel => exact ⟨_,(decide ((l0_5.length : Int) > 0)),(by first|rfl|(simp;done)|(simp [*];done)),H',⟨by have := HJ1.out;have := HJ7.out;have := HJ11.out;first|omega|exact Nat.le_refl _⟩,⟨kM BK455.out⟩,⟨bG HB.out⟩⟩
             ·rw [if_neg c52] at H
              have c52b0 := beq_eq_false_iff_ne.mpr c52
              have c52b1 := bne_iff_ne.mpr c52
              by_cases c56 : (l0_4.length : Int) > 0
              ·rw [if_pos c56] at H
               have c56b0 := decide_eq_true c56
               have c56b1 : decide (0 < l0_4.length) = true := decide_eq_true (by omega)
               clear c56
               as_aux_lemma =>
                have H' := aK H
                clear H
                obtain ⟨_,_,_,_,_,_,_,_,_,_,_,_⟩ := bk6_ BK455.out
                go_wp2
                repeat (go_quiet (fail);try go_wp2)
                go_meet
                case rel => exact ⟨_,(true),(by first|rfl|(simp;done)|(simp [*];done)),H',⟨by have := HJ1.out;have := HJ7.out;have := HJ11.out;first|omega|exact Nat.le_refl _⟩,⟨kM BK455.out⟩,⟨bG HB.out⟩⟩
              ·rw [if_neg c56] at H
               have c56b0 := decide_eq_false c56
               have c56b1 : decide (0 < l0_4.length) = false := decide_eq_false (by omega)
               clear c56
               by_cases c58 : a0_1 = 4
               ·rw [if_pos c58] at H
                have c58b0 := beq_iff_eq.mpr c58
                have c58b1 := bne_eq_false_iff_eq.mpr c58
                clear c58
                as_aux_lemma =>
                 have H' := aK H
                 clear H
                 obtain ⟨_,_,_,_,_,_,_,_,_,_,_,_⟩ := bk6_ BK455.out
                 go_wp2
                 repeat (go_quiet (fail);try go_wp2)
                 go_meet
                 case rel => exact ⟨_,(false),(by first|rfl|(simp;done)|(simp [*];done)),H',⟨by have := HJ1.out;have := HJ7.out;have := HJ11.out;first|omega|exact Nat.le_refl _⟩,⟨kM BK455.out⟩,⟨bG HB.out⟩⟩
               ·rw [if_neg c58] at H
                have c58b0 := beq_eq_false_iff_ne.mpr c58
                have c58b1 := bne_iff_ne.mpr c58
                as_aux_lemma =>
                 have H' := aK H
                 clear H
                 obtain ⟨_,_,_,_,_,_,_,_,_,_,_,_⟩ := bk6_ BK455.out
                 go_wp2
                 repeat (go_quiet (fail);try go_wp2)
                 go_meet
                 case rel => exact ⟨_,(decide ((l0_5.length : Int) > 0)),(by first|rfl|(simp;done)|(simp [*];done)),H',⟨by have := HJ1.out;have := HJ7.out;have := HJ11.out;first|omega|exact Nat.le_refl _⟩,⟨kM BK455.out⟩,⟨bG HB.out⟩⟩
          ·rw [if_neg c39] at H
           have c39b0 := beq_eq_false_iff_ne.mpr c39
           have c39b1 := bne_iff_ne.mpr c39
           as_aux_lemma =>
            have H' := aK H
            clear H
            obtain ⟨_,_,_,_,_,_,_,_,_,_,_,_⟩ := bk6_ BK455.out
            go_wp2
            repeat (go_quiet (fail);try go_wp2)
            go_meet
            case rel => exact ⟨_,(true),(by first|rfl|(simp;done)|(simp [*];done)),H',⟨by have := HJ1.out;have := HJ7.out;have := HJ11.out;first|omega|exact Nat.le_refl _⟩,⟨kM BK455.out⟩,⟨bG HB.out⟩⟩
        case rest =>
         clear HC16
         try clear p2
         obtain ⟨kq,x68_15,rfl,HA,HJ15,BK455,HB⟩ := hcut
         cases kq with
        |zero => exact absurd HA.out (by simp [codesearchref33_fields.j3])
        |succ kj15 =>
          have H := HA.out
          clear HA
          simp only [codesearchref33_fields.j3] at H
          by_cases c62 : x68_15 = true
          ·subst c62
           rw [if_pos rfl] at H
           as_aux_lemma =>
            obtain rfl := Option.some.inj H
            go_wp2
            repeat (go_quiet (fail);try go_wp2)
            go_ret
            exact ⟨by first|rfl|(simp [errW_none,errW_some] <;> rfl)|(simp [*,errW_none,errW_some] <;> rfl),bG HB.out⟩
          ·replace c62 := Bool.eq_false_iff.mpr c62
           subst c62
           rw [if_neg (show ¬ (false = true) by decide)] at H
           have HC63 := aK H
           clear H
           go_upto_region 7 with (fail)
           repeat (go_quiet (fail);go_upto_region 7 with (fail))
           go_cut [91] (fun v91 wc => ∃ (kq : Nat) (x91_62 : Bool),v91 = .bool x91_62 ∧ Aside0 (codesearchref33_fields.j4 kq x91_62 a0_0 a0_1 a0_2 l0_3 l0_4 l0_5 = some r) ∧ Aside0 (kq ≤ kj15) ∧ Aside0 (wc.heap[gb455]? = some (.cells #[.int .i64 a0_0,.int .i64 a0_1,.int .i64 a0_2,(.slice A0_3 l0_3.length c0_3),(.slice A0_4 l0_4.length c0_4),(.slice A0_5 l0_5.length c0_5)] 30 (0,0))) ∧ Aside0 (Below w.heap.size w wc))
           case first =>
            have H := HC63.out
            clear HC63
            by_cases c64 : x3_7 = true
            ·subst c64
             rw [if_pos rfl] at H
             by_cases c65 : a0_2 < 1
             ·rw [if_pos c65] at H
              have c65b0 := decide_eq_true c65
              clear c65
              (first|rw [c65b0]|(simp only [i64_w,i32_w];rw [c65b0])|rw [c65b1]|skip)
              as_aux_lemma =>
               have H' := aK H
               clear H
               obtain ⟨_,_,_,_,_,_,_,_,_,_,_,_⟩ := bk6_ BK455.out
               go_wp2
               repeat (go_quiet (fail);try go_wp2)
               go_meet
               case rel => exact ⟨_,(true),(by first|rfl|(simp;done)|(simp [*];done)),H',⟨by have := HJ1.out;have := HJ7.out;have := HJ11.out;have := HJ15.out;first|omega|exact Nat.le_refl _⟩,⟨kM BK455.out⟩,⟨bG HB.out⟩⟩
             ·rw [if_neg c65] at H
              have c65b0 := decide_eq_false c65
              clear c65
              (first|rw [c65b0]|(simp only [i64_w,i32_w];rw [c65b0])|rw [c65b1]|skip)
              by_cases c67 : a0_2 > 9999
              ·rw [if_pos c67] at H
               have c67b0 := decide_eq_true c67
               clear c67
               as_aux_lemma =>
                have H' := aK H
                clear H
                obtain ⟨_,_,_,_,_,_,_,_,_,_,_,_⟩ := bk6_ BK455.out
                go_wp2
                repeat (go_quiet (fail);try go_wp2)
                go_meet
                case rel => exact ⟨_,(true),(by first|rfl|(simp;done)|(simp [*];done)),H',⟨by have := HJ1.out;have := HJ7.out;have := HJ11.out;have := HJ15.out;first|omega|exact Nat.le_refl _⟩,⟨kM BK455.out⟩,⟨bG HB.out⟩⟩
              ·rw [if_neg c67] at H
               have c67b0 := decide_eq_false c67
               clear c67
               replace H := Option.bind_eq_some_iff.mp H
               obtain ⟨t456,A690,H⟩ := H
               have A69 := aK A690
               clear A690
               by_cases c70 : t456 = true
               ·subst c70
                rw [if_pos rfl] at H
                replace H := Option.bind_eq_some_iff.mp H
                obtain ⟨t457,A710,H⟩ := H
                have A71 := aK A710
                clear A710
                as_aux_lemma =>
                 have H' := aK H
                 clear H
                 obtain ⟨_,_,_,_,_,_,_,_,_,_,_,_⟩ := bk6_ BK455.out
                 go_wp2_with (first|(go_at_call 56;(with_reducible refine (codesearchref05_Valid.calls kj15 _ _ l0_3 true _ ?side1 ?side2 A69.out).mono ?_);(case side1 => exact cM (Kd.C_below HR0_3.out HB.out));(case side2 => exact HC0_3.out);rintro e w' ⟨rfl,⟨nd,rfl⟩⟩;(try first|exact ⟨rfl,_,World.drewN_drewN _ _ _⟩|exact ⟨rfl,_,Eq.trans (World.drewN_drewN _ _ _) (congrArg (World.drewN _) (Nat.add_assoc _ _ _))⟩))|(go_at_call 56;(with_reducible refine (codesearchref05_Valid.calls kj15 _ _ l0_4 t457 _ ?side1 ?side2 A71.out).mono ?_);(case side1 => exact Kd.C_below HR0_4.out (bG HB.out));(case side2 => exact HC0_4.out);rintro e w' ⟨rfl,⟨nd,rfl⟩⟩;(try first|exact ⟨rfl,_,World.drewN_drewN _ _ _⟩|exact ⟨rfl,_,Eq.trans (World.drewN_drewN _ _ _) (congrArg (World.drewN _) (Nat.add_assoc _ _ _))⟩)))
                 repeat (go_quiet (first|(go_at_call 56;(with_reducible refine (codesearchref05_Valid.calls kj15 _ _ l0_3 true _ ?side1 ?side2 A69.out).mono ?_);(case side1 => exact cM (Kd.C_below HR0_3.out HB.out));(case side2 => exact HC0_3.out);rintro e w' ⟨rfl,⟨nd,rfl⟩⟩;(try first|exact ⟨rfl,_,World.drewN_drewN _ _ _⟩|exact ⟨rfl,_,Eq.trans (World.drewN_drewN _ _ _) (congrArg (World.drewN _) (Nat.add_assoc _ _ _))⟩))|(go_at_call 56;(with_reducible refine (codesearchref05_Valid.calls kj15 _ _ l0_4 t457 _ ?side1 ?side2 A71.out).mono ?_);(case side1 => exact Kd.C_below HR0_4.out (bG HB.out));(case side2 => exact HC0_4.out);rintro e w' ⟨rfl,⟨nd,rfl⟩⟩;(try first|exact ⟨rfl,_,World.drewN_drewN _ _ _⟩|exact ⟨rfl,_,Eq.trans (World.drewN_drewN _ _ _) (congrArg (World.drewN _) (Nat.add_assoc _ _ _))⟩)));try go_wp2_with (first|(go_at_call 56;(with_reducible refine (codesearchref05_Valid.calls kj15 _ _ l0_3 true _ ?side1 ?side2 A69.out).mono ?_);(case side1 => exact cM (Kd.C_below HR0_3.out HB.out));(case side2 => exact HC0_3.out);rintro e w' ⟨rfl,⟨nd,rfl⟩⟩;(try first|exact ⟨rfl,_,World.drewN_drewN _ _ _⟩|exact ⟨rfl,_,Eq.trans (World.drewN_drewN _ _ _) (congrArg (World.drewN _) (Nat.add_assoc _ _ _))⟩))|(go_at_call 56;(with_reducible refine (codesearchref05_Valid.calls kj15 _ _ l0_4 t457 _ ?side1 ?side2 A71.out).mono ?_);(case side1 => exact Kd.C_below HR0_4.out (bG HB.out));(case side2 => exact HC0_4.out);rintro e w' ⟨rfl,⟨nd,rfl⟩⟩;(try first|exact ⟨rfl,_,World.drewN_drewN _ _ _⟩|exact ⟨rfl,_,Eq.trans (World.drewN_drewN _ _ _) (congrArg (World.drewN _) (Nat.add_assoc _ _ _))⟩))))
                 go_meet
                 case rel => exact ⟨_,(!t457),(by first|rfl|(simp;done)|(simp [*];done)),H',⟨by have := HJ1.out;have := HJ7.out;have := HJ11.out;have := HJ15.out;first|omega|exact Nat.le_refl _⟩,⟨kM BK455.out⟩,⟨bG HB.out⟩⟩
               ·replace c70 := Bool.eq_false_iff.mpr c70
                subst c70
                rw [if_neg (show ¬ (false = true) by decide)] at H
                as_aux_lemma =>
                 have H' := aK H
                 clear H
                 obtain ⟨_,_,_,_,_,_,_,_,_,_,_,_⟩ := bk6_ BK455.out
                 go_wp2_with (first|(go_at_call 56;(with_reducible refine (codesearchref05_Valid.calls kj15 _ _ l0_3 false _ ?side1 ?side2 A69.out).mono ?_);(case side1 => exact cM (Kd.C_below HR0_3.out HB.out));(case side2 => exact HC0_3.out);rintro e w' ⟨rfl,⟨nd,rfl⟩⟩;(try first|exact ⟨rfl,_,World.drewN_drewN _ _ _⟩|exact ⟨rfl,_,Eq.trans (World.drewN_drewN _ _ _) (congrArg (World.drewN _) (Nat.add_assoc _ _ _))⟩)))
                 repeat (go_quiet (first|(go_at_call 56;(with_reducible refine (codesearchref05_Valid.calls kj15 _ _ l0_3 false _ ?side1 ?side2 A69.out).mono ?_);(case side1 => exact cM (Kd.C_below HR0_3.out HB.out));(case side2 => exact HC0_3.out);rintro e w' ⟨rfl,⟨nd,rfl⟩⟩;(try first|exact ⟨rfl,_,World.drewN_drewN _ _ _⟩|exact ⟨rfl,_,Eq.trans (World.drewN_drewN _ _ _) (congrArg (World.drewN _) (Nat.add_assoc _ _ _))⟩)));try go_wp2_with (first|(go_at_call 56;(with_reducible refine (codesearchref05_Valid.calls kj15 _ _ l0_3 false _ ?side1 ?side2 A69.out).mono ?_);(case side1 => exact cM (Kd.C_below HR0_3.out HB.out));(case side2 => exact HC0_3.out);rintro e w' ⟨rfl,⟨nd,rfl⟩⟩;(try first|exact ⟨rfl,_,World.drewN_drewN _ _ _⟩|exact ⟨rfl,_,Eq.trans (World.drewN_drewN _ _ _) (congrArg (World.drewN _) (Nat.add_assoc _ _ _))⟩))))
                 go_meet
                 case rel => exact ⟨_,(true),(by first|rfl|(simp;done)|(simp [*];done)),H',⟨by have := HJ1.out;have := HJ7.out;have := HJ11.out;have := HJ15.out;first|omega|exact Nat.le_refl _⟩,⟨kM BK455.out⟩,⟨bG HB.out⟩⟩
            ·replace c64 := Bool.eq_false_iff.mpr c64
             subst c64
             rw [if_neg (show ¬ (false = true) by decide)] at H
             replace H := Option.bind_eq_some_iff.mp H
             obtain ⟨t458,A740,H⟩ := H
             have A74 := aK A740
             clear A740
             by_cases c75 : t458 = true
             ·subst c75
              rw [if_pos rfl] at H
              replace H := Option.bind_eq_some_iff.mp H
              obtain ⟨t459,A760,H⟩ := H
              have A76 := aK A760
              clear A760
              as_aux_lemma =>
               have H' := aK H
               clear H
               obtain ⟨_,_,_,_,_,_,_,_,_,_,_,_⟩ := bk6_ BK455.out
               go_wp2_with (first|(go_at_call 56;(with_reducible refine (codesearchref05_Valid.calls kj15 _ _ l0_3 true _ ?side1 ?side2 A74.out).mono ?_);(case side1 => exact cM (Kd.C_below HR0_3.out HB.out));(case side2 => exact HC0_3.out);rintro e w' ⟨rfl,⟨nd,rfl⟩⟩;(try first|exact ⟨rfl,_,World.drewN_drewN _ _ _⟩|exact ⟨rfl,_,Eq.trans (World.drewN_drewN _ _ _) (congrArg (World.drewN _) (Nat.add_assoc _ _ _))⟩))|(go_at_call 56;(with_reducible refine (codesearchref05_Valid.calls kj15 _ _ l0_4 t459 _ ?side1 ?side2 A76.out).mono ?_);(case side1 => exact Kd.C_below HR0_4.out (bG HB.out));(case side2 => exact HC0_4.out);rintro e w' ⟨rfl,⟨nd,rfl⟩⟩;(try first|exact ⟨rfl,_,World.drewN_drewN _ _ _⟩|exact ⟨rfl,_,Eq.trans (World.drewN_drewN _ _ _) (congrArg (World.drewN _) (Nat.add_assoc _ _ _))⟩)))
               repeat (go_quiet (first|(go_at_call 56;(with_reducible refine (codesearchref05_Valid.calls kj15 _ _ l0_3 true _ ?side1 ?side2 A74.out).mono ?_);(case side1 => exact cM (Kd.C_below HR0_3.out HB.out));(case side2 => exact HC0_3.out);rintro e w' ⟨rfl,⟨nd,rfl⟩⟩;(try first|exact ⟨rfl,_,World.drewN_drewN _ _ _⟩|exact ⟨rfl,_,Eq.trans (World.drewN_drewN _ _ _) (congrArg (World.drewN _) (Nat.add_assoc _ _ _))⟩))|(go_at_call 56;(with_reducible refine (codesearchref05_Valid.calls kj15 _ _ l0_4 t459 _ ?side1 ?side2 A76.out).mono ?_);(case side1 => exact Kd.C_below HR0_4.out (bG HB.out));(case side2 => exact HC0_4.out);rintro e w' ⟨rfl,⟨nd,rfl⟩⟩;(try first|exact ⟨rfl,_,World.drewN_drewN _ _ _⟩|exact ⟨rfl,_,Eq.trans (World.drewN_drewN _ _ _) (congrArg (World.drewN _) (Nat.add_assoc _ _ _))⟩)));try go_wp2_with (first|(go_at_call 56;(with_reducible refine (codesearchref05_Valid.calls kj15 _ _ l0_3 true _ ?side1 ?side2 A74.out).mono ?_);(case side1 => exact cM (Kd.C_below HR0_3.out HB.out));(case side2 => exact HC0_3.out);rintro e w' ⟨rfl,⟨nd,rfl⟩⟩;(try first|exact ⟨rfl,_,World.drewN_drewN _ _ _⟩|exact ⟨rfl,_,Eq.trans (World.drewN_drewN _ _ _) (congrArg (World.drewN _) (Nat.add_assoc _ _ _))⟩))|(go_at_call 56;(with_reducible refine (codesearchref05_Valid.calls kj15 _ _ l0_4 t459 _ ?side1 ?side2 A76.out).mono ?_);(case side1 => exact Kd.C_below HR0_4.out (bG HB.out));(case side2 => exact HC0_4.out);rintro e w' ⟨rfl,⟨nd,rfl⟩⟩;(try first|exact ⟨rfl,_,World.drewN_drewN _ _ _⟩|exact ⟨rfl,_,Eq.trans (World.drewN_drewN _ _ _) (congrArg (World.drewN _) (Nat.add_assoc _ _ _))⟩))))
               go_meet
               case rel => exact ⟨_,(!t459),(by first|rfl|(simp;done)|(simp [*];done)),H',⟨by have := HJ1.out;have := HJ7.out;have := HJ11.out;have := HJ15.out;first|omega|exact Nat.le_refl _⟩,⟨kM BK455.out⟩,⟨bG HB.out⟩⟩
             ·replace c75 := Bool.eq_false_iff.mpr c75
              subst c75
              rw [if_neg (show ¬ (false = true) by decide)] at H
              as_aux_lemma =>
               have H' := aK H
               clear H
               obtain ⟨_,_,_,_,_,_,_,_,_,_,_,_⟩ := bk6_ BK455.out
               go_wp2_with (first|(go_at_call 56;(with_reducible refine (codesearchref05_Valid.calls kj15 _ _ l0_3 false _ ?side1 ?side2 A74.out).mono ?_);(case side1 => exact cM (Kd.C_below HR0_3.out HB.out));(case side2 => exact HC0_3.out);rintro e w' ⟨rfl,⟨nd,rfl⟩⟩;(try first|exact ⟨rfl,_,World.drewN_drewN _ _ _⟩|exact ⟨rfl,_,Eq.trans (World.drewN_drewN _ _ _) (congrArg (World.drewN _) (Nat.add_assoc _ _ _))⟩)))
               repeat (go_quiet (first|(go_at_call 56;(with_reducible refine (codesearchref05_Valid.calls kj15 _ _ l0_3 false _ ?side1 ?side2 A74.out).mono ?_);(case side1 => exact cM (Kd.C_below HR0_3.out HB.out));(case side2 => exact HC0_3.out);rintro e w' ⟨rfl,⟨nd,rfl⟩⟩;(try first|exact ⟨rfl,_,World.drewN_drewN _ _ _⟩|exact ⟨rfl,_,Eq.trans (World.drewN_drewN _ _ _) (congrArg (World.drewN _) (Nat.add_assoc _ _ _))⟩)));try go_wp2_with (first|(go_at_call 56;(with_reducible refine (codesearchref05_Valid.calls kj15 _ _ l0_3 false _ ?side1 ?side2 A74.out).mono ?_);(case side1 => exact cM (Kd.C_below HR0_3.out HB.out));(case side2 => exact HC0_3.out);rintro e w' ⟨rfl,⟨nd,rfl⟩⟩;(try first|exact ⟨rfl,_,World.drewN_drewN _ _ _⟩|exact ⟨rfl,_,Eq.trans (World.drewN_drewN _ _ _) (congrArg (World.drewN _) (Nat.add_assoc _ _ _))⟩))))
               go_meet
               case rel => exact ⟨_,(true),(by first|rfl|(simp;done)|(simp [*];done)),H',⟨by have := HJ1.out;have := HJ7.out;have := HJ11.out;have := HJ15.out;first|omega|exact Nat.le_refl _⟩,⟨kM BK455.out⟩,⟨bG HB.out⟩⟩
           case rest =>
            clear HC63
            try clear p2
            try clear c62
            try clear p2
            obtain ⟨kq,x91_62,rfl,HA,HJ62,BK455,HB⟩ := hcut
            cases kq with
           |zero => exact absurd HA.out (by simp [codesearchref33_fields.j4])
           |succ kj62 =>
             have H := HA.out
             clear HA
             simp only [codesearchref33_fields.j4] at H
             by_cases c79 : x91_62 = true
             ·subst c79
              rw [if_pos rfl] at H
              as_aux_lemma =>
               obtain rfl := Option.some.inj H
               go_wp2
               repeat (go_quiet (fail);try go_wp2)
               go_ret
               exact ⟨by first|rfl|(simp [errW_none,errW_some] <;> rfl)|(simp [*,errW_none,errW_some] <;> rfl),bG HB.out⟩
             ·replace c79 := Bool.eq_false_iff.mpr c79
              subst c79
              rw [if_neg (show ¬ (false = true) by decide)] at H
              by_cases c80 : a0_1 = 4
              ·rw [if_pos c80] at H
               have c80b0 := beq_iff_eq.mpr c80
               have c80b1 := bne_eq_false_iff_eq.mpr c80
               clear c80
               have H' := aK H
               clear H
               obtain ⟨hcz81_0,hcz81_1,hcz81_2,hcz81_3,hcz81_4,hcz81_5,hfz81_0,hfz81_1,hfz81_2,hfz81_3,hfz81_4,hfz81_5⟩ := bk6_ BK455.out
               go_wp2
               repeat (go_quiet (fail);try go_wp2)
               go_loopg [5] kj62 (fun kq v5 w' => ∃ (x5_6 : Int),v5 = .int .i64 x5_6 ∧ Aside0 (codesearchref33_fields.l0 kq x5_6 a0_0 a0_1 a0_2 l0_3 l0_4 l0_5 = some r) ∧ Aside0 (kq ≤ kj62) ∧ Aside0 (w'.heap[gb455]? = some (.cells #[.int .i64 a0_0,.int .i64 a0_1,.int .i64 a0_2,(.slice A0_3 l0_3.length c0_3),(.slice A0_4 l0_4.length c0_4),(.slice A0_5 l0_5.length c0_5)] 30 (0,0))) ∧ Aside0 (Below w.heap.size w w'))
               case atStart => exact ⟨(0),(by first|rfl|(simp;done)|(simp [*];done)),H',⟨Nat.le_refl _⟩,⟨kM BK455.out⟩,⟨bG HB.out⟩⟩
               case round =>
                clear H'
                try clear p2
                try clear c79
                try clear c80
                try clear c80b0
                try clear c80b1
                try clear hcz81_0
                try clear hcz81_1
                try clear hcz81_2
                try clear hcz81_3
                try clear hcz81_4
                try clear hcz81_5
                try clear hfz81_0
                try clear hfz81_1
                try clear hfz81_2
                try clear hfz81_3
                try clear hfz81_4
                try clear hfz81_5
                try clear p2
                obtain ⟨x5_6,rfl,HA,HK6,BK455,HB⟩ := hrel
                cases gk with
               |zero => exact absurd HA.out (by simp [codesearchref33_fields.l0])
               |succ k6 =>
                 have H := HA.out
                 clear HA
                 simp only [codesearchref33_fields.l0] at H
                 by_cases c82 : x5_6 < (l0_5.length : Int)
                 ·rw [if_pos c82] at H
                  have c82b0 := decide_eq_true c82
                  clear c82
                  obtain ⟨c83,H⟩ := iS H
                  have c83b0 := decide_eq_true c83
                  clear c83
                  replace H := Option.bind_eq_some_iff.mp H
                  obtain ⟨t461,A840,H⟩ := H
                  have A84 := aK A840
                  clear A840
                  by_cases c85 : t461 = true
                  ·subst c85
                   rw [if_pos rfl] at H
                   by_cases c86 : x5_6 > 0
                   ·rw [if_pos c86] at H
                    have c86b0 := decide_eq_true c86
                    clear c86
                    obtain ⟨ji87,hji87⟩ : ∃ j_ : Int,(wrap64 (x5_6 - 1)) = j_ := ⟨_,rfl⟩
                    replace H : (if 0 ≤ (ji87) then (if (ji87) < (l0_5.length : Int) then (if ((Op.bytesLess ((rdOf ByteArray.empty l0_5 (ji87)).toList) ((rdOf ByteArray.empty l0_5 x5_6).toList)) = true) then (codesearchref33_fields.l0 k6 (wrap64 (x5_6 + 1)) a0_0 a0_1 a0_2 l0_3 l0_4 l0_5) else (some false)) else (none)) else (none)) = some r := by first|(rw [hji87] at H;exact H)|(simp only [hji87] at H ⊢;exact H)
                    (try rw [hji87] at A84)
                    have hji87w : (IntKind.i64.wrap (x5_6 - 1)) = ji87 := (i64_w _).trans hji87
                    obtain ⟨c88,H⟩ := iS H
                    have c88b0 := decide_eq_true c88
                    clear c88
                    obtain ⟨c89,H⟩ := iS H
                    have c89b0 := decide_eq_true c89
                    clear c89
                    by_cases c90 : ((Op.bytesLess ((rdOf ByteArray.empty l0_5 (ji87)).toList) ((rdOf ByteArray.empty l0_5 x5_6).toList)) = true)
                    ·rw [if_pos c90] at H
                     have c90b0 : (Op.bytesLess ((rdOf ByteArray.empty l0_5 (ji87)).toList) ((rdOf ByteArray.empty l0_5 x5_6).toList)) = true := c90
                     clear c90
                     as_aux_lemma =>
                      have H' := aK H
                      clear H
                      obtain ⟨_,_,_,_,_,_,_,_,_,_,_,_⟩ := bk6_ BK455.out
                      have p460 : 0 ≤ (x5_6 : Int) := of_decide_eq_true (by assumption)
                      have q460 : x5_6 < (l0_5.length : Int) := of_decide_eq_true (by assumption)
                      obtain ⟨ad460,e460,hx460_0⟩ := Kd.at_string HR0_5.out x5_6 p460 q460
                      cases e460
                      replace hx460_0 := xM HB hx460_0
                      replace p460 := eq_true p460
                      replace q460 := eq_true q460
                      go_wp2_with (first|(go_at_call 57;(with_reducible refine (codesearchref33_name.calls k6 (rdOf ByteArray.empty l0_5 x5_6) true _ A84.out).mono ?_);rintro e w' ⟨rfl,⟨nd,rfl⟩⟩;(try first|exact ⟨rfl,_,World.drewN_drewN _ _ _⟩|exact ⟨rfl,_,Eq.trans (World.drewN_drewN _ _ _) (congrArg (World.drewN _) (Nat.add_assoc _ _ _))⟩);have p462 : 0 ≤ (x5_6 : Int) := of_decide_eq_true (by assumption);have q462 : x5_6 < (l0_5.length : Int) := of_decide_eq_true (by assumption);obtain ⟨ad462,e462,hx462_0⟩ := Kd.at_string HR0_5.out x5_6 p462 q462;obtain rfl : ad460 = ad462 := (by injection e462);replace hx462_0 := xM HB hx462_0;replace p462 := eq_true p462;replace q462 := eq_true q462;have p463 : 0 ≤ ((ji87) : Int) := of_decide_eq_true (by assumption);have q463 : (ji87) < (l0_5.length : Int) := of_decide_eq_true (by assumption);obtain ⟨ad463,e463,hx463_0⟩ := Kd.at_string HR0_5.out (ji87) p463 q463;obtain rfl : ad460 = ad463 := (by injection e463);replace hx463_0 := xM HB hx463_0;replace p463 := eq_true p463;replace q463 := eq_true q463))
                      repeat (go_quiet (first|(go_at_call 57;(with_reducible refine (codesearchref33_name.calls k6 (rdOf ByteArray.empty l0_5 x5_6) true _ A84.out).mono ?_);rintro e w' ⟨rfl,⟨nd,rfl⟩⟩;(try first|exact ⟨rfl,_,World.drewN_drewN _ _ _⟩|exact ⟨rfl,_,Eq.trans (World.drewN_drewN _ _ _) (congrArg (World.drewN _) (Nat.add_assoc _ _ _))⟩);have p462 : 0 ≤ (x5_6 : Int) := of_decide_eq_true (by assumption);have q462 : x5_6 < (l0_5.length : Int) := of_decide_eq_true (by assumption);obtain ⟨ad462,e462,hx462_0⟩ := Kd.at_string HR0_5.out x5_6 p462 q462;obtain rfl : ad460 = ad462 := (by injection e462);replace hx462_0 := xM HB hx462_0;replace p462 := eq_true p462;replace q462 := eq_true q462;have p463 : 0 ≤ ((ji87) : Int) := of_decide_eq_true (by assumption);have q463 : (ji87) < (l0_5.length : Int) := of_decide_eq_true (by assumption);obtain ⟨ad463,e463,hx463_0⟩ := Kd.at_string HR0_5.out (ji87) p463 q463;obtain rfl : ad460 = ad463 := (by injection e463);replace hx463_0 := xM HB hx463_0;replace p463 := eq_true p463;replace q463 := eq_true q463));try go_wp2_with (first|(go_at_call 57;(with_reducible refine (codesearchref33_name.calls k6 (rdOf ByteArray.empty l0_5 x5_6) true _ A84.out).mono ?_);rintro e w' ⟨rfl,⟨nd,rfl⟩⟩;(try first|exact ⟨rfl,_,World.drewN_drewN _ _ _⟩|exact ⟨rfl,_,Eq.trans (World.drewN_drewN _ _ _) (congrArg (World.drewN _) (Nat.add_assoc _ _ _))⟩);have p462 : 0 ≤ (x5_6 : Int) := of_decide_eq_true (by assumption);have q462 : x5_6 < (l0_5.length : Int) := of_decide_eq_true (by assumption);obtain ⟨ad462,e462,hx462_0⟩ := Kd.at_string HR0_5.out x5_6 p462 q462;obtain rfl : ad460 = ad462 := (by injection e462);replace hx462_0 := xM HB hx462_0;replace p462 := eq_true p462;replace q462 := eq_true q462;have p463 : 0 ≤ ((ji87) : Int) := of_decide_eq_true (by assumption);have q463 : (ji87) < (l0_5.length : Int) := of_decide_eq_true (by assumption);obtain ⟨ad463,e463,hx463_0⟩ := Kd.at_string HR0_5.out (ji87) p463 q463;obtain rfl : ad460 = ad463 := (by injection e463);replace hx463_0 := xM HB hx463_0;replace p463 := eq_true p463;replace q463 := eq_true q463)))
                      go_roundg k6
                      case measure => have := HJ1.out;have := HJ7.out;have := HJ11.out;have := HJ15.out;have := HJ62.out;have := HK6.out;omega
                      case rel => exact ⟨(wrap64 (x5_6 + 1)),(by first|rfl|(simp;done)|(simp [*];done)),H',⟨by have := HJ1.out;have := HJ7.out;have := HJ11.out;have := HJ15.out;have := HJ62.out;have := HK6.out;omega⟩,⟨kM BK455.out⟩,⟨bG HB.out⟩⟩
                    ·rw [if_neg c90] at H
                     have c90b0 : (Op.bytesLess ((rdOf ByteArray.empty l0_5 (ji87)).toList) ((rdOf ByteArray.empty l0_5 x5_6).toList)) = false := by simpa using c90
                     clear c90
                     as_aux_lemma =>
                      obtain rfl := Option.some.inj H
                      obtain ⟨_,_,_,_,_,_,_,_,_,_,_,_⟩ := bk6_ BK455.out
                      have p460 : 0 ≤ (x5_6 : Int) := of_decide_eq_true (by assumption)
                      have q460 : x5_6 < (l0_5.length : Int) := of_decide_eq_true (by assumption)
                      obtain ⟨ad460,e460,hx460_0⟩ := Kd.at_string HR0_5.out x5_6 p460 q460
                      cases e460
                      replace hx460_0 := xM HB hx460_0
                      replace p460 := eq_true p460
                      replace q460 := eq_true q460
                      go_wp2_with (first|(go_at_call 57;(with_reducible refine (codesearchref33_name.calls k6 (rdOf ByteArray.empty l0_5 x5_6) true _ A84.out).mono ?_);rintro e w' ⟨rfl,⟨nd,rfl⟩⟩;(try first|exact ⟨rfl,_,World.drewN_drewN _ _ _⟩|exact ⟨rfl,_,Eq.trans (World.drewN_drewN _ _ _) (congrArg (World.drewN _) (Nat.add_assoc _ _ _))⟩);have p462 : 0 ≤ (x5_6 : Int) := of_decide_eq_true (by assumption);have q462 : x5_6 < (l0_5.length : Int) := of_decide_eq_true (by assumption);obtain ⟨ad462,e462,hx462_0⟩ := Kd.at_string HR0_5.out x5_6 p462 q462;obtain rfl : ad460 = ad462 := (by injection e462);replace hx462_0 := xM HB hx462_0;replace p462 := eq_true p462;replace q462 := eq_true q462;have p463 : 0 ≤ ((ji87) : Int) := of_decide_eq_true (by assumption);have q463 : (ji87) < (l0_5.length : Int) := of_decide_eq_true (by assumption);obtain ⟨ad463,e463,hx463_0⟩ := Kd.at_string HR0_5.out (ji87) p463 q463;obtain rfl : ad460 = ad463 := (by injection e463);replace hx463_0 := xM HB hx463_0;replace p463 := eq_true p463;replace q463 := eq_true q463))
                      repeat (go_quiet (first|(go_at_call 57;(with_reducible refine (codesearchref33_name.calls k6 (rdOf ByteArray.empty l0_5 x5_6) true _ A84.out).mono ?_);rintro e w' ⟨rfl,⟨nd,rfl⟩⟩;(try first|exact ⟨rfl,_,World.drewN_drewN _ _ _⟩|exact ⟨rfl,_,Eq.trans (World.drewN_drewN _ _ _) (congrArg (World.drewN _) (Nat.add_assoc _ _ _))⟩);have p462 : 0 ≤ (x5_6 : Int) := of_decide_eq_true (by assumption);have q462 : x5_6 < (l0_5.length : Int) := of_decide_eq_true (by assumption);obtain ⟨ad462,e462,hx462_0⟩ := Kd.at_string HR0_5.out x5_6 p462 q462;obtain rfl : ad460 = ad462 := (by injection e462);replace hx462_0 := xM HB hx462_0;replace p462 := eq_true p462;replace q462 := eq_true q462;have p463 : 0 ≤ ((ji87) : Int) := of_decide_eq_true (by assumption);have q463 : (ji87) < (l0_5.length : Int) := of_decide_eq_true (by assumption);obtain ⟨ad463,e463,hx463_0⟩ := Kd.at_string HR0_5.out (ji87) p463 q463;obtain rfl : ad460 = ad463 := (by injection e463);replace hx463_0 := xM HB hx463_0;replace p463 := eq_true p463;replace q463 := eq_true q463));try go_wp2_with (first|(go_at_call 57;(with_reducible refine (codesearchref33_name.calls k6 (rdOf ByteArray.empty l0_5 x5_6) true _ A84.out).mono ?_);rintro e w' ⟨rfl,⟨nd,rfl⟩⟩;(try first|exact ⟨rfl,_,World.drewN_drewN _ _ _⟩|exact ⟨rfl,_,Eq.trans (World.drewN_drewN _ _ _) (congrArg (World.drewN _) (Nat.add_assoc _ _ _))⟩);have p462 : 0 ≤ (x5_6 : Int) := of_decide_eq_true (by assumption);have q462 : x5_6 < (l0_5.length : Int) := of_decide_eq_true (by assumption);obtain ⟨ad462,e462,hx462_0⟩ := Kd.at_string HR0_5.out x5_6 p462 q462;obtain rfl : ad460 = ad462 := (by injection e462);replace hx462_0 := xM HB hx462_0;replace p462 := eq_true p462;replace q462 := eq_true q462;have p463 : 0 ≤ ((ji87) : Int) := of_decide_eq_true (by assumption);have q463 : (ji87) < (l0_5.length : Int) := of_decide_eq_true (by assumption);obtain ⟨ad463,e463,hx463_0⟩ := Kd.at_string HR0_5.out (ji87) p463 q463;obtain rfl : ad460 = ad463 := (by injection e463);replace hx463_0 := xM HB hx463_0;replace p463 := eq_true p463;replace q463 := eq_true q463)))
                      go_ret
                      exact ⟨by first|rfl|(simp [errW_none,errW_some] <;> rfl)|(simp only [← hji87];first|rfl|(simp [errW_none,errW_some] <;> rfl))|(simp [*,errW_none,errW_some] <;> rfl),bG HB.out⟩
                   ·rw [if_neg c86] at H
                    have c86b0 := decide_eq_false c86
                    clear c86
                    as_aux_lemma =>
                     have H' := aK H
                     clear H
                     obtain ⟨_,_,_,_,_,_,_,_,_,_,_,_⟩ := bk6_ BK455.out
                     have p460 : 0 ≤ (x5_6 : Int) := of_decide_eq_true (by assumption)
                     have q460 : x5_6 < (l0_5.length : Int) := of_decide_eq_true (by assumption)
                     obtain ⟨ad460,e460,hx460_0⟩ := Kd.at_string HR0_5.out x5_6 p460 q460
                     cases e460
                     replace hx460_0 := xM HB hx460_0
                     replace p460 := eq_true p460
                     replace q460 := eq_true q460
                     go_wp2_with (first|(go_at_call 57;(with_reducible refine (codesearchref33_name.calls k6 (rdOf ByteArray.empty l0_5 x5_6) true _ A84.out).mono ?_);rintro e w' ⟨rfl,⟨nd,rfl⟩⟩;(try first|exact ⟨rfl,_,World.drewN_drewN _ _ _⟩|exact ⟨rfl,_,Eq.trans (World.drewN_drewN _ _ _) (congrArg (World.drewN _) (Nat.add_assoc _ _ _))⟩)))
                     repeat (go_quiet (first|(go_at_call 57;(with_reducible refine (codesearchref33_name.calls k6 (rdOf ByteArray.empty l0_5 x5_6) true _ A84.out).mono ?_);rintro e w' ⟨rfl,⟨nd,rfl⟩⟩;(try first|exact ⟨rfl,_,World.drewN_drewN _ _ _⟩|exact ⟨rfl,_,Eq.trans (World.drewN_drewN _ _ _) (congrArg (World.drewN _) (Nat.add_assoc _ _ _))⟩)));try go_wp2_with (first|(go_at_call 57;(with_reducible refine (codesearchref33_name.calls k6 (rdOf ByteArray.empty l0_5 x5_6) true _ A84.out).mono ?_);rintro e w' ⟨rfl,⟨nd,rfl⟩⟩;(try first|exact ⟨rfl,_,World.drewN_drewN _ _ _⟩|exact ⟨rfl,_,Eq.trans (World.drewN_drewN _ _ _) (congrArg (World.drewN _) (Nat.add_assoc _ _ _))⟩))))
                     go_roundg k6
                     case measure => have := HJ1.out;have := HJ7.out;have := HJ11.out;have := HJ15.out;have := HJ62.out;have := HK6.out;omega
                     case rel => exact ⟨(wrap64 (x5_6 + 1)),(by first|rfl|(simp;done)|(simp [*];done)),H',⟨by have := HJ1.out;have := HJ7.out;have := HJ11.out;have := HJ15.out;have := HJ62.out;have := HK6.out;omega⟩,⟨kM BK455.out⟩,⟨bG HB.out⟩⟩
                  ·replace c85 := Bool.eq_false_iff.mpr c85
                   subst c85
                   rw [if_neg (show ¬ (false = true) by decide)] at H
                   as_aux_lemma =>
                    obtain rfl := Option.some.inj H
                    obtain ⟨_,_,_,_,_,_,_,_,_,_,_,_⟩ := bk6_ BK455.out
                    have p460 : 0 ≤ (x5_6 : Int) := of_decide_eq_true (by assumption)
                    have q460 : x5_6 < (l0_5.length : Int) := of_decide_eq_true (by assumption)
                    obtain ⟨ad460,e460,hx460_0⟩ := Kd.at_string HR0_5.out x5_6 p460 q460
                    cases e460
                    replace hx460_0 := xM HB hx460_0
                    replace p460 := eq_true p460
                    replace q460 := eq_true q460
                    go_wp2_with (first|(go_at_call 57;(with_reducible refine (codesearchref33_name.calls k6 (rdOf ByteArray.empty l0_5 x5_6) false _ A84.out).mono ?_);rintro e w' ⟨rfl,⟨nd,rfl⟩⟩;(try first|exact ⟨rfl,_,World.drewN_drewN _ _ _⟩|exact ⟨rfl,_,Eq.trans (World.drewN_drewN _ _ _) (congrArg (World.drewN _) (Nat.add_assoc _ _ _))⟩)))
                    repeat (go_quiet (first|(go_at_call 57;(with_reducible refine (codesearchref33_name.calls k6 (rdOf ByteArray.empty l0_5 x5_6) false _ A84.out).mono ?_);rintro e w' ⟨rfl,⟨nd,rfl⟩⟩;(try first|exact ⟨rfl,_,World.drewN_drewN _ _ _⟩|exact ⟨rfl,_,Eq.trans (World.drewN_drewN _ _ _) (congrArg (World.drewN _) (Nat.add_assoc _ _ _))⟩)));try go_wp2_with (first|(go_at_call 57;(with_reducible refine (codesearchref33_name.calls k6 (rdOf ByteArray.empty l0_5 x5_6) false _ A84.out).mono ?_);rintro e w' ⟨rfl,⟨nd,rfl⟩⟩;(try first|exact ⟨rfl,_,World.drewN_drewN _ _ _⟩|exact ⟨rfl,_,Eq.trans (World.drewN_drewN _ _ _) (congrArg (World.drewN _) (Nat.add_assoc _ _ _))⟩))))
                    go_ret
                    exact ⟨by first|rfl|(simp [errW_none,errW_some] <;> rfl)|(simp [*,errW_none,errW_some] <;> rfl),bG HB.out⟩
                 ·rw [if_neg c82] at H
                  have c82b0 := decide_eq_false c82
                  clear c82
                  by_cases c95 : (l0_5.length : Int) > 0
                  ·rw [if_pos c95] at H
                   have c95b0 := decide_eq_true c95
                   have c95b1 : decide (0 < l0_5.length) = true := decide_eq_true (by omega)
                   clear c95
                   as_aux_lemma =>
                    obtain rfl := Option.some.inj H
                    obtain ⟨_,_,_,_,_,_,_,_,_,_,_,_⟩ := bk6_ BK455.out
                    go_wp2
                    repeat (go_quiet (fail);try go_wp2)
                    go_ret
                    exact ⟨by first|rfl|(simp [errW_none,errW_some] <;> rfl)|(simp [*,errW_none,errW_some] <;> rfl),bG HB.out⟩
                  ·rw [if_neg c95] at H
                   have c95b0 := decide_eq_false c95
                   have c95b1 : decide (0 < l0_5.length) = false := decide_eq_false (by omega)
                   clear c95
                   as_aux_lemma =>
                    obtain rfl := Option.some.inj H
                    obtain ⟨_,_,_,_,_,_,_,_,_,_,_,_⟩ := bk6_ BK455.out
                    go_wp2
                    repeat (go_quiet (fail);try go_wp2)
                    go_ret
                    exact ⟨by first|rfl|(simp [errW_none,errW_some] <;> rfl)|(simp [*,errW_none,errW_some] <;> rfl),bG HB.out⟩
              ·rw [if_neg c80] at H
               have c80b0 := beq_eq_false_iff_ne.mpr c80
               have c80b1 := bne_iff_ne.mpr c80
               as_aux_lemma =>
                obtain rfl := Option.some.inj H
                obtain ⟨_,_,_,_,_,_,_,_,_,_,_,_⟩ := bk6_ BK455.out
                go_wp2
                repeat (go_quiet (fail);try go_wp2)
                go_ret
                exact ⟨by first|rfl|(simp [errW_none,errW_some] <;> rfl)|(simp [*,errW_none,errW_some] <;> rfl),bG HB.out⟩

end Go.Proofs.YtmgliocboeifdaaGreatDoor.R
