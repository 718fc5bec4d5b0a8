-- Written by hp.py, a program of this session, over the kit's print of the translation. Not trusted: Lean checks it.
import Derived.Test.YtmgliocboeifdaaGreatDoorRx0
import Derived.Test.YtmgliocboeifdaaGreatDoorRx11
import Derived.Test.YtmgliocboeifdaaGreatDoorRx17
import Derived.Test.YtmgliocboeifdaaGreatDoorRx18
import Derived.Test.YtmgliocboeifdaaGreatDoorRx19
namespace Go.Proofs.YtmgliocboeifdaaGreatDoor.R
open Go.RowKit Go.Proofs.YtmgliocboeifdaaGreatDoorW.PrintWords Go.Proofs.YtmgliocboeifdaaGreatDoorW.PrintLast Go.Proofs.YtmgliocboeifdaaGreatDoorW.PrintMore
attribute [local go_sem] max2_int min2_int max_two min_two max_three min_three max_four min_four   -- for this text's walks alone
set_option linter.unusedVariables false
set_option linter.unusedSimpArgs false

/-! ### codesearchref33_Right: function 9 -/
mutual
def codesearchref33_Right.l0 : Nat → List (S30) → Int → Option (Int)
|0,_,_ => none
|k + 1,x0,x3 => if x3 < (x0.length : Int) then (if 0 ≤ x3 then (if ((rd_T30 x0 x3).f0) = (wrap64 (x3 + 1)) then ((codesearchref33_fields.f k ((rd_T30 x0 x3).f0) ((rd_T30 x0 x3).f1) ((rd_T30 x0 x3).f2) ((rd_T30 x0 x3).f3) ((rd_T30 x0 x3).f4) ((rd_T30 x0 x3).f5)).bind fun t511 => (if t511 = true then (if ((rd_T30 x0 x3).f1) = 1 then (codesearchref33_Right.j1 k x0 x3 true ((rd_T30 x0 x3).f0) ((rd_T30 x0 x3).f1) ((rd_T30 x0 x3).f2) ((rd_T30 x0 x3).f3) ((rd_T30 x0 x3).f4) ((rd_T30 x0 x3).f5)) else (codesearchref33_Right.j1 k x0 x3 (((rd_T30 x0 x3).f1) == 3) ((rd_T30 x0 x3).f0) ((rd_T30 x0 x3).f1) ((rd_T30 x0 x3).f2) ((rd_T30 x0 x3).f3) ((rd_T30 x0 x3).f4) ((rd_T30 x0 x3).f5))) else (some 1))) else (some 2)) else (none)) else (some 0)
def codesearchref33_Right.j1 : Nat → List (S30) → Int → Bool → Int → Int → Int → List Int → List Int → List ByteArray → Option (Int)
|0,_,_,_,_,_,_,_,_,_ => none
|k + 1,x0,x3,x5,x511000,x511001,x511002,x511003,x511004,x511005 => codesearchref33_Right.l1 k x0 x3 x5 0 x511000 x511001 x511002 x511003 x511004 x511005
def codesearchref33_Right.l1 : Nat → List (S30) → Int → Bool → Int → Int → Int → Int → List Int → List Int → List ByteArray → Option (Int)
|0,_,_,_,_,_,_,_,_,_,_ => none
|k + 1,x0,x3,x5,x6,x511000,x511001,x511002,x511003,x511004,x511005 => if x5 = true then (codesearchref33_Right.j3 k x0 x3 x5 x6 (decide (x6 < x3)) x511000 x511001 x511002 x511003 x511004 x511005) else (codesearchref33_Right.j3 k x0 x3 x5 x6 false x511000 x511001 x511002 x511003 x511004 x511005)
def codesearchref33_Right.j3 : Nat → List (S30) → Int → Bool → Int → Bool → Int → Int → Int → List Int → List Int → List ByteArray → Option (Int)
|0,_,_,_,_,_,_,_,_,_,_,_ => none
|k + 1,x0,x3,x5,x6,x40,x511000,x511001,x511002,x511003,x511004,x511005 => if x40 = true then (if 0 ≤ x6 then (if x6 < (x0.length : Int) then (if ((rd_T30 x0 x6).f2) ≥ x511002 then (some 7) else (codesearchref33_Right.l1 k x0 x3 x5 (wrap64 (x6 + 1)) x511000 x511001 x511002 x511003 x511004 x511005)) else (none)) else (none)) else (if 0 ≤ x3 then (if x3 ≤ (x0.length : Int) then ((codesearchref33_Live.f k (x0.take (x3 : Int).toNat)).bind fun t517 => (codesearchref33_Right.l2 k x0 x3 t517 0 x511000 x511001 x511002 x511003 x511004 x511005)) else (none)) else (none))
def codesearchref33_Right.l2 : Nat → List (S30) → Int → List Int → Int → Int → Int → Int → List Int → List Int → List ByteArray → Option (Int)
|0,_,_,_,_,_,_,_,_,_,_ => none
|k + 1,x0,x3,x7,x8,x511000,x511001,x511002,x511003,x511004,x511005 => if x8 < (x511004.length : Int) then (if 0 ≤ x8 then ((codesearchref33_has.f k x7 (rd x511004 x8)).bind fun t521 => (if t521 = true then (codesearchref33_Right.l2 k x0 x3 x7 (wrap64 (x8 + 1)) x511000 x511001 x511002 x511003 x511004 x511005) else (some 8))) else (none)) else (if x511001 = 3 then (if (x511004.length : Int) = 0 then (some 1) else (if x511001 = 2 then (if (x511003.length : Int) = 0 then (some 1) else (codesearchref33_Right.l0 k x0 (wrap64 (x3 + 1)))) else (if x511001 = 4 then (if (x511003.length : Int) = 0 then (some 1) else (codesearchref33_Right.l0 k x0 (wrap64 (x3 + 1)))) else (codesearchref33_Right.l0 k x0 (wrap64 (x3 + 1)))))) else (if x511001 = 2 then (if (x511003.length : Int) = 0 then (some 1) else (codesearchref33_Right.l0 k x0 (wrap64 (x3 + 1)))) else (if x511001 = 4 then (if (x511003.length : Int) = 0 then (some 1) else (codesearchref33_Right.l0 k x0 (wrap64 (x3 + 1)))) else (codesearchref33_Right.l0 k x0 (wrap64 (x3 + 1))))))
end
def codesearchref33_Right.f (k : Nat) (l0 : List (S30)) : Option (Int) := codesearchref33_Right.l0 k l0 0
theorem codesearchref33_Right.mono_l : ∀ k, (∀ y0 y1, LeO (codesearchref33_Right.l0 k y0 y1) (codesearchref33_Right.l0 (k + 1) y0 y1)) ∧ (∀ y0 y1 y2 y3 y4 y5 y6 y7 y8, LeO (codesearchref33_Right.j1 k y0 y1 y2 y3 y4 y5 y6 y7 y8) (codesearchref33_Right.j1 (k + 1) y0 y1 y2 y3 y4 y5 y6 y7 y8)) ∧ (∀ y0 y1 y2 y3 y4 y5 y6 y7 y8 y9, LeO (codesearchref33_Right.l1 k y0 y1 y2 y3 y4 y5 y6 y7 y8 y9) (codesearchref33_Right.l1 (k + 1) y0 y1 y2 y3 y4 y5 y6 y7 y8 y9)) ∧ (∀ y0 y1 y2 y3 y4 y5 y6 y7 y8 y9 y10, LeO (codesearchref33_Right.j3 k y0 y1 y2 y3 y4 y5 y6 y7 y8 y9 y10) (codesearchref33_Right.j3 (k + 1) y0 y1 y2 y3 y4 y5 y6 y7 y8 y9 y10)) ∧ (∀ y0 y1 y2 y3 y4 y5 y6 y7 y8 y9, LeO (codesearchref33_Right.l2 k y0 y1 y2 y3 y4 y5 y6 y7 y8 y9) (codesearchref33_Right.l2 (k + 1) y0 y1 y2 y3 y4 y5 y6 y7 y8 y9))
|0 => ⟨fun _ _ r h => by simp [codesearchref33_Right.l0] at h,fun _ _ _ _ _ _ _ _ _ r h => by simp [codesearchref33_Right.j1] at h,fun _ _ _ _ _ _ _ _ _ _ r h => by simp [codesearchref33_Right.l1] at h,fun _ _ _ _ _ _ _ _ _ _ _ r h => by simp [codesearchref33_Right.j3] at h,fun _ _ _ _ _ _ _ _ _ _ r h => by simp [codesearchref33_Right.l2] at h⟩
|k + 1 => by
  obtain ⟨ih0,ih1,ih2,ih3,ih4⟩ := codesearchref33_Right.mono_l k
  refine ⟨?_,?_,?_,?_,?_⟩
  ·intro y0 y1
   unfold codesearchref33_Right.l0
   repeat' (with_reducible first|exact ih1 _ _ _ _ _ _ _ _ _|exact codesearchref33_fields.mono _ _ _ _ _ _ _|exact LeO.refl _|exact LeO.none _|refine LeO.ite ?_ ?_|refine LeO.bind ?_ (fun _ => ?_))
  ·intro y0 y1 y2 y3 y4 y5 y6 y7 y8
   unfold codesearchref33_Right.j1
   repeat' (with_reducible first|exact ih2 _ _ _ _ _ _ _ _ _ _|exact LeO.refl _|exact LeO.none _|refine LeO.ite ?_ ?_|refine LeO.bind ?_ (fun _ => ?_))
  ·intro y0 y1 y2 y3 y4 y5 y6 y7 y8 y9
   unfold codesearchref33_Right.l1
   repeat' (with_reducible first|exact ih3 _ _ _ _ _ _ _ _ _ _ _|exact LeO.refl _|exact LeO.none _|refine LeO.ite ?_ ?_|refine LeO.bind ?_ (fun _ => ?_))
  ·intro y0 y1 y2 y3 y4 y5 y6 y7 y8 y9 y10
   unfold codesearchref33_Right.j3
   repeat' (with_reducible first|exact ih2 _ _ _ _ _ _ _ _ _ _|exact ih4 _ _ _ _ _ _ _ _ _ _|exact codesearchref33_Live.mono _ _|exact LeO.refl _|exact LeO.none _|refine LeO.ite ?_ ?_|refine LeO.bind ?_ (fun _ => ?_))
  ·intro y0 y1 y2 y3 y4 y5 y6 y7 y8 y9
   unfold codesearchref33_Right.l2
   repeat' (with_reducible first|exact ih0 _ _|exact ih4 _ _ _ _ _ _ _ _ _ _|exact codesearchref33_has.mono _ _ _|exact LeO.refl _|exact LeO.none _|refine LeO.ite ?_ ?_|refine LeO.bind ?_ (fun _ => ?_))
theorem codesearchref33_Right.mono : ∀ a0 k, LeO (codesearchref33_Right.f k a0) (codesearchref33_Right.f (k + 1) a0) := by
 intro a0 k
 obtain ⟨ih0,ih1,ih2,ih3,ih4⟩ := codesearchref33_Right.mono_l k
 unfold codesearchref33_Right.f
 repeat' first
  |(with_reducible exact ih0 _ _)
  |(with_reducible exact ih1 _ _ _ _ _ _ _ _ _)
  |(with_reducible exact ih2 _ _ _ _ _ _ _ _ _ _)
  |(with_reducible exact ih3 _ _ _ _ _ _ _ _ _ _ _)
  |(with_reducible exact ih4 _ _ _ _ _ _ _ _ _ _)
  |(with_reducible exact codesearchref33_Live.mono _ _)
  |(with_reducible exact codesearchref33_fields.mono _ _ _ _ _ _ _)
  |(with_reducible exact codesearchref33_has.mono _ _ _)
  |(with_reducible exact LeO.refl _)
  |(with_reducible exact LeO.none _)
  |(with_reducible refine LeO.ite ?_ ?_)
  |(with_reducible refine LeO.bind ?_ (fun _ => ?_))
  |exact ih0 _ _
  |exact ih1 _ _ _ _ _ _ _ _ _
  |exact ih2 _ _ _ _ _ _ _ _ _ _
  |exact ih3 _ _ _ _ _ _ _ _ _ _ _
  |exact ih4 _ _ _ _ _ _ _ _ _ _
  |exact codesearchref33_Live.mono _ _
  |exact codesearchref33_fields.mono _ _ _ _ _ _ _
  |exact codesearchref33_has.mono _ _ _
  |exact LeO.none _
  |refine LeO.ite ?_ ?_
  |refine LeO.bind ?_ (fun _ => ?_)
set_option maxHeartbeats 4000000 in
set_option maxRecDepth 100000 in
theorem codesearchref33_Right.calls (k : Nat) (A0 : Option Addr) (c0 : Nat) (l0 : List (S30)) (r : Int) (w : World) (hr0 : Kd.C k30 w A0 l0.length l0) (hc0 : l0.length ≤ c0) (h : codesearchref33_Right.f k l0 = some r) :
  Calls Tryz.prog 9 #[.slice A0 l0.length c0] w fun e w' => e = .returned (.int .i64 r) ∧ Below w.heap.size w w' := by
 have hu30 := Tryz.underlying30
 have HR0 := aK hr0
 have HC0 := aK hc0
 clear hr0 hc0
 have HB := aK (Below.refl w.heap.size w)
 have H : (codesearchref33_Right.l0 k l0 0) = some r := h
 clear h
 have H' := aK H
 clear H
 go_enter Tryz.func9,Tryz.ntmps9
 go_wp2
 repeat (go_quiet (fail);try go_wp2)
 go_loopg [3] k (fun kq v3 w' => ∃ (x3_1 : Int),v3 = .int .i64 x3_1 ∧ Aside0 (codesearchref33_Right.l0 kq l0 x3_1 = some r) ∧ Aside0 (kq ≤ k) ∧ Aside0 (Below w.heap.size w w'))
 case atStart => exact ⟨(0),(by first|rfl|(simp;done)|(simp [*];done)),H',⟨Nat.le_refl _⟩,⟨bM HB.out⟩⟩
 case round =>
  clear H'
  obtain ⟨x3_1,rfl,HA,HK1,HB⟩ := hrel
  cases gk with
 |zero => exact absurd HA.out (by simp [codesearchref33_Right.l0])
 |succ k1 =>
   have H := HA.out
   clear HA
   simp only [codesearchref33_Right.l0] at H
   by_cases c2 : x3_1 < (l0.length : Int)
   ·rw [if_pos c2] at H
    have c2b0 := decide_eq_true c2
    clear c2
    obtain ⟨c3,H⟩ := iS H
    have c3b0 := decide_eq_true c3
    clear c3
    by_cases c4 : ((rd_T30 l0 x3_1).f0) = (wrap64 (x3_1 + 1))
    ·rw [if_pos c4] at H
     have c4b0 := beq_iff_eq.mpr c4
     have c4b1 := bne_eq_false_iff_eq.mpr c4
     clear c4
     replace H := Option.bind_eq_some_iff.mp H
     obtain ⟨t511,A50,H⟩ := H
     have A5 := aK A50
     clear A50
     by_cases c6 : t511 = true
     ·subst c6
      rw [if_pos rfl] at H
      have HC7 := aK H
      clear H
      have p509 : 0 ≤ (x3_1 : Int) := of_decide_eq_true (by assumption)
      have q509 : x3_1 < (l0.length : Int) := of_decide_eq_true (by assumption)
      obtain ⟨ad509,A509_3,c509_3,A509_4,c509_4,A509_5,c509_5,e509,hx509_0,hx509_1,hx509_2,hx509_3,hx509_4,hx509_5,hl509_3,hi509_3,hl509_4,hi509_4,hl509_5,hi509_5⟩ := at_T30 HR0.out x3_1 p509 q509
      cases e509
      replace hx509_0 := xM HB hx509_0
      replace hx509_1 := xM HB hx509_1
      replace hx509_2 := xM HB hx509_2
      replace hx509_3 := xM HB hx509_3
      replace hx509_4 := xM HB hx509_4
      replace hx509_5 := xM HB hx509_5
      have HR509_3 := aK hi509_3
      have HC509_3 := aK hl509_3
      clear hi509_3 hl509_3
      have HR509_4 := aK hi509_4
      have HC509_4 := aK hl509_4
      clear hi509_4 hl509_4
      have HR509_5 := aK hi509_5
      have HC509_5 := aK hl509_5
      clear hi509_5 hl509_5
      replace p509 := eq_true p509
      replace q509 := eq_true q509
      go_upto_region 9 with (first|((with_reducible refine gate_dst (N := 4) rfl ?_);(try (refine gate_guard (by rfl) ?_;dsimp only));refine box_event ?hg (N := 4) ?hd (cs := #[.int .i64 0,.int .i64 0,.int .i64 0,.slice none 0 0,.slice none 0 0,.slice none 0 0]) (t := 30) ?hr ?_;(case hd => rfl);(case hg => rfl);(case hr => first|(go_simp;done)|(go_simp;rfl));intro gb510 hg w8 hbox hb;have BK510 := aK (hbox);have GW510 := aK ((by rw [hg];exact (below_size (bM HB.out)) : w.heap.size ≤ gb510));have GJ510 := Ge.mk GW510.out;have GE510 := aK ((by rw [hg];exact (below_size (bM HB.out)) : w.heap.size ≤ gb510));have GI510 := Ge.mk GE510.out;replace HB := aK (below_step (bM HB.out) hb);clear hb hbox hg;obtain ⟨hcz9_0,hcz9_1,hcz9_2,hcz9_3,hcz9_4,hcz9_5,hfz9_0,hfz9_1,hfz9_2,hfz9_3,hfz9_4,hfz9_5⟩ := bk6_ BK510.out)|(go_at_call 26;(with_reducible refine (codesearchref33_fields.calls k1 ((rd_T30 l0 x3_1).f0) ((rd_T30 l0 x3_1).f1) ((rd_T30 l0 x3_1).f2) _ _ ((rd_T30 l0 x3_1).f3) _ _ ((rd_T30 l0 x3_1).f4) _ _ ((rd_T30 l0 x3_1).f5) true _ ?side1 ?side2 ?side3 ?side4 ?side5 ?side6 A5.out).mono ?_);(case side1 => exact Kd.C_below HR509_3.out (bG HB.out));(case side2 => exact HC509_3.out);(case side3 => exact Kd.C_below HR509_4.out (bG HB.out));(case side4 => exact HC509_4.out);(case side5 => exact Kd.C_below HR509_5.out (bG HB.out));(case side6 => exact HC509_5.out);rintro e w10 ⟨rfl,hb⟩;replace BK510 := aK (blk_below (g := gb510) (o := .cells #[.int .i64 ((rd_T30 l0 x3_1).f0),.int .i64 ((rd_T30 l0 x3_1).f1),.int .i64 ((rd_T30 l0 x3_1).f2),.slice A509_3 ((rd_T30 l0 x3_1).f3).length c509_3,.slice A509_4 ((rd_T30 l0 x3_1).f4).length c509_4,.slice A509_5 ((rd_T30 l0 x3_1).f5).length c509_5] 30 (0,0)) (by (with_reducible repeat (first|refine blk_drewN ?_ _|refine blk_drew ?_|refine blk_alloc ?_ _));refine blk_put (cs := #[.int .i64 ((rd_T30 l0 x3_1).f0),.int .i64 ((rd_T30 l0 x3_1).f1),.int .i64 ((rd_T30 l0 x3_1).f2),.slice A509_3 ((rd_T30 l0 x3_1).f3).length c509_3,.slice A509_4 ((rd_T30 l0 x3_1).f4).length c509_4,.slice none 0 0]) ?_ 5 _ rfl;(with_reducible repeat (first|refine blk_drewN ?_ _|refine blk_drew ?_|refine blk_alloc ?_ _));refine blk_put (cs := #[.int .i64 ((rd_T30 l0 x3_1).f0),.int .i64 ((rd_T30 l0 x3_1).f1),.int .i64 ((rd_T30 l0 x3_1).f2),.slice A509_3 ((rd_T30 l0 x3_1).f3).length c509_3,.slice none 0 0,.slice none 0 0]) ?_ 4 _ rfl;(with_reducible repeat (first|refine blk_drewN ?_ _|refine blk_drew ?_|refine blk_alloc ?_ _));refine blk_put (cs := #[.int .i64 ((rd_T30 l0 x3_1).f0),.int .i64 ((rd_T30 l0 x3_1).f1),.int .i64 ((rd_T30 l0 x3_1).f2),.slice none 0 0,.slice none 0 0,.slice none 0 0]) ?_ 3 _ rfl;(with_reducible repeat (first|refine blk_drewN ?_ _|refine blk_drew ?_|refine blk_alloc ?_ _));refine blk_put (cs := #[.int .i64 ((rd_T30 l0 x3_1).f0),.int .i64 ((rd_T30 l0 x3_1).f1),.int .i64 0,.slice none 0 0,.slice none 0 0,.slice none 0 0]) ?_ 2 _ rfl;(with_reducible repeat (first|refine blk_drewN ?_ _|refine blk_drew ?_|refine blk_alloc ?_ _));refine blk_put (cs := #[.int .i64 ((rd_T30 l0 x3_1).f0),.int .i64 0,.int .i64 0,.slice none 0 0,.slice none 0 0,.slice none 0 0]) ?_ 1 _ rfl;(with_reducible repeat (first|refine blk_drewN ?_ _|refine blk_drew ?_|refine blk_alloc ?_ _));refine blk_put (cs := #[.int .i64 0,.int .i64 0,.int .i64 0,.slice none 0 0,.slice none 0 0,.slice none 0 0]) ?_ 0 _ rfl;(with_reducible repeat (first|refine blk_drewN ?_ _|refine blk_drew ?_|refine blk_alloc ?_ _));exact BK510.out) hb);replace HB := aK (below_step (bG HB.out) hb);(try clear hb)))
      repeat (go_quiet (first|((with_reducible refine gate_dst (N := 4) rfl ?_);(try (refine gate_guard (by rfl) ?_;dsimp only));refine box_event ?hg (N := 4) ?hd (cs := #[.int .i64 0,.int .i64 0,.int .i64 0,.slice none 0 0,.slice none 0 0,.slice none 0 0]) (t := 30) ?hr ?_;(case hd => rfl);(case hg => rfl);(case hr => first|(go_simp;done)|(go_simp;rfl));intro gb510 hg w8 hbox hb;have BK510 := aK (hbox);have GW510 := aK ((by rw [hg];exact (below_size (bM HB.out)) : w.heap.size ≤ gb510));have GJ510 := Ge.mk GW510.out;have GE510 := aK ((by rw [hg];exact (below_size (bM HB.out)) : w.heap.size ≤ gb510));have GI510 := Ge.mk GE510.out;replace HB := aK (below_step (bM HB.out) hb);clear hb hbox hg;obtain ⟨hcz9_0,hcz9_1,hcz9_2,hcz9_3,hcz9_4,hcz9_5,hfz9_0,hfz9_1,hfz9_2,hfz9_3,hfz9_4,hfz9_5⟩ := bk6_ BK510.out)|(go_at_call 26;(with_reducible refine (codesearchref33_fields.calls k1 ((rd_T30 l0 x3_1).f0) ((rd_T30 l0 x3_1).f1) ((rd_T30 l0 x3_1).f2) _ _ ((rd_T30 l0 x3_1).f3) _ _ ((rd_T30 l0 x3_1).f4) _ _ ((rd_T30 l0 x3_1).f5) true _ ?side1 ?side2 ?side3 ?side4 ?side5 ?side6 A5.out).mono ?_);(case side1 => exact Kd.C_below HR509_3.out (bG HB.out));(case side2 => exact HC509_3.out);(case side3 => exact Kd.C_below HR509_4.out (bG HB.out));(case side4 => exact HC509_4.out);(case side5 => exact Kd.C_below HR509_5.out (bG HB.out));(case side6 => exact HC509_5.out);rintro e w10 ⟨rfl,hb⟩;replace BK510 := aK (blk_below (g := gb510) (o := .cells #[.int .i64 ((rd_T30 l0 x3_1).f0),.int .i64 ((rd_T30 l0 x3_1).f1),.int .i64 ((rd_T30 l0 x3_1).f2),.slice A509_3 ((rd_T30 l0 x3_1).f3).length c509_3,.slice A509_4 ((rd_T30 l0 x3_1).f4).length c509_4,.slice A509_5 ((rd_T30 l0 x3_1).f5).length c509_5] 30 (0,0)) (by (with_reducible repeat (first|refine blk_drewN ?_ _|refine blk_drew ?_|refine blk_alloc ?_ _));refine blk_put (cs := #[.int .i64 ((rd_T30 l0 x3_1).f0),.int .i64 ((rd_T30 l0 x3_1).f1),.int .i64 ((rd_T30 l0 x3_1).f2),.slice A509_3 ((rd_T30 l0 x3_1).f3).length c509_3,.slice A509_4 ((rd_T30 l0 x3_1).f4).length c509_4,.slice none 0 0]) ?_ 5 _ rfl;(with_reducible repeat (first|refine blk_drewN ?_ _|refine blk_drew ?_|refine blk_alloc ?_ _));refine blk_put (cs := #[.int .i64 ((rd_T30 l0 x3_1).f0),.int .i64 ((rd_T30 l0 x3_1).f1),.int .i64 ((rd_T30 l0 x3_1).f2),.slice A509_3 ((rd_T30 l0 x3_1).f3).length c509_3,.slice none 0 0,.slice none 0 0]) ?_ 4 _ rfl;(with_reducible repeat (first|refine blk_drewN ?_ _|refine blk_drew ?_|refine blk_alloc ?_ _));refine blk_put (cs := #[.int .i64 ((rd_T30 l0 x3_1).f0),.int .i64 ((rd_T30 l0 x3_1).f1),.int .i64 ((rd_T30 l0 x3_1).f2),.slice none 0 0,.slice none 0 0,.slice none 0 0]) ?_ 3 _ rfl;(with_reducible repeat (first|refine blk_drewN ?_ _|refine blk_drew ?_|refine blk_alloc ?_ _));refine blk_put (cs := #[.int .i64 ((rd_T30 l0 x3_1).f0),.int .i64 ((rd_T30 l0 x3_1).f1),.int .i64 0,.slice none 0 0,.slice none 0 0,.slice none 0 0]) ?_ 2 _ rfl;(with_reducible repeat (first|refine blk_drewN ?_ _|refine blk_drew ?_|refine blk_alloc ?_ _));refine blk_put (cs := #[.int .i64 ((rd_T30 l0 x3_1).f0),.int .i64 0,.int .i64 0,.slice none 0 0,.slice none 0 0,.slice none 0 0]) ?_ 1 _ rfl;(with_reducible repeat (first|refine blk_drewN ?_ _|refine blk_drew ?_|refine blk_alloc ?_ _));refine blk_put (cs := #[.int .i64 0,.int .i64 0,.int .i64 0,.slice none 0 0,.slice none 0 0,.slice none 0 0]) ?_ 0 _ rfl;(with_reducible repeat (first|refine blk_drewN ?_ _|refine blk_drew ?_|refine blk_alloc ?_ _));exact BK510.out) hb);replace HB := aK (below_step (bG HB.out) hb);(try clear hb)));go_upto_region 9 with (first|((with_reducible refine gate_dst (N := 4) rfl ?_);(try (refine gate_guard (by rfl) ?_;dsimp only));refine box_event ?hg (N := 4) ?hd (cs := #[.int .i64 0,.int .i64 0,.int .i64 0,.slice none 0 0,.slice none 0 0,.slice none 0 0]) (t := 30) ?hr ?_;(case hd => rfl);(case hg => rfl);(case hr => first|(go_simp;done)|(go_simp;rfl));intro gb510 hg w8 hbox hb;have BK510 := aK (hbox);have GW510 := aK ((by rw [hg];exact (below_size (bM HB.out)) : w.heap.size ≤ gb510));have GJ510 := Ge.mk GW510.out;have GE510 := aK ((by rw [hg];exact (below_size (bM HB.out)) : w.heap.size ≤ gb510));have GI510 := Ge.mk GE510.out;replace HB := aK (below_step (bM HB.out) hb);clear hb hbox hg;obtain ⟨hcz9_0,hcz9_1,hcz9_2,hcz9_3,hcz9_4,hcz9_5,hfz9_0,hfz9_1,hfz9_2,hfz9_3,hfz9_4,hfz9_5⟩ := bk6_ BK510.out)|(go_at_call 26;(with_reducible refine (codesearchref33_fields.calls k1 ((rd_T30 l0 x3_1).f0) ((rd_T30 l0 x3_1).f1) ((rd_T30 l0 x3_1).f2) _ _ ((rd_T30 l0 x3_1).f3) _ _ ((rd_T30 l0 x3_1).f4) _ _ ((rd_T30 l0 x3_1).f5) true _ ?side1 ?side2 ?side3 ?side4 ?side5 ?side6 A5.out).mono ?_);(case side1 => exact Kd.C_below HR509_3.out (bG HB.out));(case side2 => exact HC509_3.out);(case side3 => exact Kd.C_below HR509_4.out (bG HB.out));(case side4 => exact HC509_4.out);(case side5 => exact Kd.C_below HR509_5.out (bG HB.out));(case side6 => exact HC509_5.out);rintro e w10 ⟨rfl,hb⟩;replace BK510 := aK (blk_below (g := gb510) (o := .cells #[.int .i64 ((rd_T30 l0 x3_1).f0),.int .i64 ((rd_T30 l0 x3_1).f1),.int .i64 ((rd_T30 l0 x3_1).f2),.slice A509_3 ((rd_T30 l0 x3_1).f3).length c509_3,.slice A509_4 ((rd_T30 l0 x3_1).f4).length c509_4,.slice A509_5 ((rd_T30 l0 x3_1).f5).length c509_5] 30 (0,0)) (by (with_reducible repeat (first|refine blk_drewN ?_ _|refine blk_drew ?_|refine blk_alloc ?_ _));refine blk_put (cs := #[.int .i64 ((rd_T30 l0 x3_1).f0),.int .i64 ((rd_T30 l0 x3_1).f1),.int .i64 ((rd_T30 l0 x3_1).f2),.slice A509_3 ((rd_T30 l0 x3_1).f3).length c509_3,.slice A509_4 ((rd_T30 l0 x3_1).f4).length c509_4,.slice none 0 0]) ?_ 5 _ rfl;(with_reducible repeat (first|refine blk_drewN ?_ _|refine blk_drew ?_|refine blk_alloc ?_ _));refine blk_put (cs := #[.int .i64 ((rd_T30 l0 x3_1).f0),.int .i64 ((rd_T30 l0 x3_1).f1),.int .i64 ((rd_T30 l0 x3_1).f2),.slice A509_3 ((rd_T30 l0 x3_1).f3).length c509_3,.slice none 0 0,.slice none 0 0]) ?_ 4 _ rfl;(with_reducible repeat (first|refine blk_drewN ?_ _|refine blk_drew ?_|refine blk_alloc ?_ _));refine blk_put (cs := #[.int .i64 ((rd_T30 l0 x3_1).f0),.int .i64 ((rd_T30 l0 x3_1).f1),.int .i64 ((rd_T30 l0 x3_1).f2),.slice none 0 0,.slice none 0 0,.slice none 0 0]) ?_ 3 _ rfl;(with_reducible repeat (first|refine blk_drewN ?_ _|refine blk_drew ?_|refine blk_alloc ?_ _));refine blk_put (cs := #[.int .i64 ((rd_T30 l0 x3_1).f0),.int .i64 ((rd_T30 l0 x3_1).f1),.int .i64 0,.slice none 0 0,.slice none 0 0,.slice none 0 0]) ?_ 2 _ rfl;(with_reducible repeat (first|refine blk_drewN ?_ _|refine blk_drew ?_|refine blk_alloc ?_ _));refine blk_put (cs := #[.int .i64 ((rd_T30 l0 x3_1).f0),.int .i64 0,.int .i64 0,.slice none 0 0,.slice none 0 0,.slice none 0 0]) ?_ 1 _ rfl;(with_reducible repeat (first|refine blk_drewN ?_ _|refine blk_drew ?_|refine blk_alloc ?_ _));refine blk_put (cs := #[.int .i64 0,.int .i64 0,.int .i64 0,.slice none 0 0,.slice none 0 0,.slice none 0 0]) ?_ 0 _ rfl;(with_reducible repeat (first|refine blk_drewN ?_ _|refine blk_drew ?_|refine blk_alloc ?_ _));exact BK510.out) hb);replace HB := aK (below_step (bG HB.out) hb);(try clear hb))))
      (try simp only [Act.put,List.setIfInBounds_toArray,List.set_cons_zero,List.set_cons_succ])
      go_cut [5] (fun v5 wc => ∃ (kq : Nat) (x5_6 : Bool),v5 = .bool x5_6 ∧ Aside0 (codesearchref33_Right.j1 kq l0 x3_1 x5_6 ((rd_T30 l0 x3_1).f0) ((rd_T30 l0 x3_1).f1) ((rd_T30 l0 x3_1).f2) ((rd_T30 l0 x3_1).f3) ((rd_T30 l0 x3_1).f4) ((rd_T30 l0 x3_1).f5) = some r) ∧ Aside0 (kq ≤ k1) ∧ Aside0 (wc.heap[gb510]? = some (.cells #[.int .i64 ((rd_T30 l0 x3_1).f0),.int .i64 ((rd_T30 l0 x3_1).f1),.int .i64 ((rd_T30 l0 x3_1).f2),(.slice A509_3 ((rd_T30 l0 x3_1).f3).length c509_3),(.slice A509_4 ((rd_T30 l0 x3_1).f4).length c509_4),(.slice A509_5 ((rd_T30 l0 x3_1).f5).length c509_5)] 30 (0,0))) ∧ Aside0 (Below w.heap.size w wc))
      case first =>
       have H := HC7.out
       clear HC7
       by_cases c11 : ((rd_T30 l0 x3_1).f1) = 1
       ·rw [if_pos c11] at H
        have c11b0 := beq_iff_eq.mpr c11
        have c11b1 := bne_eq_false_iff_eq.mpr c11
        clear c11
        (first|rw [c11b0]|(simp only [i64_w,i32_w];rw [c11b0])|rw [c11b1]|skip)
        have H' := aK H
        clear H
        obtain ⟨_,_,_,_,_,_,_,_,_,_,_,_⟩ := bk6_ BK510.out
        go_wp2
        repeat (go_quiet (fail);try go_wp2)
        go_meet
        case rel => exact ⟨_,(true),(by first|rfl|(simp;done)|(simp [*];done)),H',⟨by have := HK1.out;first|omega|exact Nat.le_refl _⟩,⟨kM BK510.out⟩,⟨bG HB.out⟩⟩
       ·rw [if_neg c11] at H
        have c11b0 := beq_eq_false_iff_ne.mpr c11
        have c11b1 := bne_iff_ne.mpr c11
        (first|rw [c11b0]|(simp only [i64_w,i32_w];rw [c11b0])|rw [c11b1]|skip)
        have H' := aK H
        clear H
        obtain ⟨_,_,_,_,_,_,_,_,_,_,_,_⟩ := bk6_ BK510.out
        go_wp2
        repeat (go_quiet (fail);try go_wp2)
        go_meet
        case rel => exact ⟨_,((((rd_T30 l0 x3_1).f1) == 3)),(by first|rfl|(simp;done)|(simp [*];done)),H',⟨by have := HK1.out;first|omega|exact Nat.le_refl _⟩,⟨kM BK510.out⟩,⟨bG HB.out⟩⟩
      case rest =>
       clear HC7
       try clear c2
       try clear c2b0
       try clear p2
       try clear c3
       try clear c3b0
       try clear c4
       try clear c4b0
       try clear c4b1
       try clear p5
       try clear q5
       try clear hx5
       try clear c6
       try clear p6
       try clear hcz9_0
       try clear hcz9_1
       try clear hcz9_2
       try clear hcz9_3
       try clear hcz9_4
       try clear hcz9_5
       try clear hfz9_0
       try clear hfz9_1
       try clear hfz9_2
       try clear hfz9_3
       try clear hfz9_4
       try clear hfz9_5
       try clear hx509_0
       try clear hx509_1
       try clear hx509_2
       try clear hx509_3
       try clear hx509_4
       try clear hx509_5
       try clear p509
       try clear q509
       obtain ⟨kq,x5_6,rfl,HA,HJ6,BK510,HB⟩ := hcut
       cases kq with
      |zero => exact absurd HA.out (by simp [codesearchref33_Right.j1])
      |succ kj6 =>
        have H := HA.out
        clear HA
        simp only [codesearchref33_Right.j1] at H
        have H' := aK H
        clear H
        go_wp2
        repeat (go_quiet (fail);try go_wp2)
        go_loopg [6] kj6 (fun kq v6 w' => ∃ (x6_3 : Int),v6 = .int .i64 x6_3 ∧ Aside0 (codesearchref33_Right.l1 kq l0 x3_1 x5_6 x6_3 ((rd_T30 l0 x3_1).f0) ((rd_T30 l0 x3_1).f1) ((rd_T30 l0 x3_1).f2) ((rd_T30 l0 x3_1).f3) ((rd_T30 l0 x3_1).f4) ((rd_T30 l0 x3_1).f5) = some r) ∧ Aside0 (kq ≤ kj6) ∧ Aside0 (w'.heap[gb510]? = some (.cells #[.int .i64 ((rd_T30 l0 x3_1).f0),.int .i64 ((rd_T30 l0 x3_1).f1),.int .i64 ((rd_T30 l0 x3_1).f2),(.slice A509_3 ((rd_T30 l0 x3_1).f3).length c509_3),(.slice A509_4 ((rd_T30 l0 x3_1).f4).length c509_4),(.slice A509_5 ((rd_T30 l0 x3_1).f5).length c509_5)] 30 (0,0))) ∧ Aside0 (Below w.heap.size w w'))
        case atStart => exact ⟨(0),(by first|rfl|(simp;done)|(simp [*];done)),H',⟨Nat.le_refl _⟩,⟨kM BK510.out⟩,⟨bG HB.out⟩⟩
        case round =>
         clear H'
         try clear p2
         try clear p5
         try clear q5
         try clear hx5
         try clear p6
         try clear hx509_0
         try clear hx509_1
         try clear hx509_2
         try clear hx509_3
         try clear hx509_4
         try clear hx509_5
         try clear p2
         try clear p5
         try clear p509
         try clear p6
         try clear q5
         try clear q509
         obtain ⟨x6_3,rfl,HA,HK3,BK510,HB⟩ := hrel
         cases gk with
        |zero => exact absurd HA.out (by simp [codesearchref33_Right.l1])
        |succ k3 =>
          have H := HA.out
          clear HA
          simp only [codesearchref33_Right.l1] at H
          have HC14 := aK H
          clear H
          go_upto_region 11 with (fail)
          repeat (go_quiet (fail);go_upto_region 11 with (fail))
          go_cut [40] (fun v40 wc => ∃ (kq : Nat) (x40_13 : Bool),v40 = .bool x40_13 ∧ Aside0 (codesearchref33_Right.j3 kq l0 x3_1 x5_6 x6_3 x40_13 ((rd_T30 l0 x3_1).f0) ((rd_T30 l0 x3_1).f1) ((rd_T30 l0 x3_1).f2) ((rd_T30 l0 x3_1).f3) ((rd_T30 l0 x3_1).f4) ((rd_T30 l0 x3_1).f5) = some r) ∧ Aside0 (kq ≤ k3) ∧ Aside0 (wc.heap[gb510]? = some (.cells #[.int .i64 ((rd_T30 l0 x3_1).f0),.int .i64 ((rd_T30 l0 x3_1).f1),.int .i64 ((rd_T30 l0 x3_1).f2),(.slice A509_3 ((rd_T30 l0 x3_1).f3).length c509_3),(.slice A509_4 ((rd_T30 l0 x3_1).f4).length c509_4),(.slice A509_5 ((rd_T30 l0 x3_1).f5).length c509_5)] 30 (0,0))) ∧ Aside0 (Below w.heap.size w wc))
          case first =>
           have H := HC14.out
           clear HC14
           by_cases c15 : x5_6 = true
           ·subst c15
            rw [if_pos rfl] at H
            have H' := aK H
            clear H
            go_wp2
            repeat (go_quiet (fail);try go_wp2)
            go_meet
            case rel => exact ⟨_,(decide (x6_3 < x3_1)),(by first|rfl|(simp;done)|(simp [*];done)),H',⟨by have := HK1.out;have := HJ6.out;have := HK3.out;first|omega|exact Nat.le_refl _⟩,⟨kM BK510.out⟩,⟨bG HB.out⟩⟩
           ·replace c15 := Bool.eq_false_iff.mpr c15
            subst c15
            rw [if_neg (show ¬ (false = true) by decide)] at H
            have H' := aK H
            clear H
            go_wp2
            repeat (go_quiet (fail);try go_wp2)
            go_meet
            case rel => exact ⟨_,(false),(by first|rfl|(simp;done)|(simp [*];done)),H',⟨by have := HK1.out;have := HJ6.out;have := HK3.out;first|omega|exact Nat.le_refl _⟩,⟨kM BK510.out⟩,⟨bG HB.out⟩⟩
          case rest =>
           clear HC14
           try clear p2
           try clear p5
           try clear q5
           try clear hx5
           try clear p6
           try clear hx509_0
           try clear hx509_1
           try clear hx509_2
           try clear hx509_3
           try clear hx509_4
           try clear hx509_5
           try clear p2
           try clear p5
           try clear p509
           try clear p6
           try clear q5
           try clear q509
           obtain ⟨kq,x40_13,rfl,HA,HJ13,BK510,HB⟩ := hcut
           cases kq with
          |zero => exact absurd HA.out (by simp [codesearchref33_Right.j3])
          |succ kj13 =>
            have H := HA.out
            clear HA
            simp only [codesearchref33_Right.j3] at H
            by_cases c16 : x40_13 = true
            ·subst c16
             rw [if_pos rfl] at H
             obtain ⟨c17,H⟩ := iS H
             have c17b0 := decide_eq_true c17
             clear c17
             obtain ⟨c18,H⟩ := iS H
             have c18b0 := decide_eq_true c18
             clear c18
             by_cases c19 : ((rd_T30 l0 x6_3).f2) ≥ ((rd_T30 l0 x3_1).f2)
             ·rw [if_pos c19] at H
              have c19b0 := decide_eq_true c19
              clear c19
              obtain rfl := Option.some.inj H
              have p512 : 0 ≤ (x6_3 : Int) := of_decide_eq_true (by assumption)
              have q512 : x6_3 < (l0.length : Int) := of_decide_eq_true (by assumption)
              obtain ⟨ad512,A512_3,c512_3,A512_4,c512_4,A512_5,c512_5,e512,hx512_0,hx512_1,hx512_2,hx512_3,hx512_4,hx512_5,hl512_3,hi512_3,hl512_4,hi512_4,hl512_5,hi512_5⟩ := at_T30 HR0.out x6_3 p512 q512
              obtain rfl : ad509 = ad512 := (by injection e512)
              replace hx512_0 := xM HB hx512_0
              replace hx512_1 := xM HB hx512_1
              replace hx512_2 := xM HB hx512_2
              replace hx512_3 := xM HB hx512_3
              replace hx512_4 := xM HB hx512_4
              replace hx512_5 := xM HB hx512_5
              have HR512_3 := aK hi512_3
              have HC512_3 := aK hl512_3
              clear hi512_3 hl512_3
              have HR512_4 := aK hi512_4
              have HC512_4 := aK hl512_4
              clear hi512_4 hl512_4
              have HR512_5 := aK hi512_5
              have HC512_5 := aK hl512_5
              clear hi512_5 hl512_5
              replace p512 := eq_true p512
              replace q512 := eq_true q512
              obtain ⟨_,_,_,_,_,_,_,_,_,_,_,_⟩ := bk6_ BK510.out
              go_wp2
              repeat (go_quiet (fail);try go_wp2)
              go_ret
              exact ⟨by first|rfl|(simp [errW_none,errW_some] <;> rfl)|(simp [*,errW_none,errW_some] <;> rfl),bG HB.out⟩
             ·rw [if_neg c19] at H
              have c19b0 := decide_eq_false c19
              clear c19
              have H' := aK H
              clear H
              have p512 : 0 ≤ (x6_3 : Int) := of_decide_eq_true (by assumption)
              have q512 : x6_3 < (l0.length : Int) := of_decide_eq_true (by assumption)
              obtain ⟨ad512,A512_3,c512_3,A512_4,c512_4,A512_5,c512_5,e512,hx512_0,hx512_1,hx512_2,hx512_3,hx512_4,hx512_5,hl512_3,hi512_3,hl512_4,hi512_4,hl512_5,hi512_5⟩ := at_T30 HR0.out x6_3 p512 q512
              obtain rfl : ad509 = ad512 := (by injection e512)
              replace hx512_0 := xM HB hx512_0
              replace hx512_1 := xM HB hx512_1
              replace hx512_2 := xM HB hx512_2
              replace hx512_3 := xM HB hx512_3
              replace hx512_4 := xM HB hx512_4
              replace hx512_5 := xM HB hx512_5
              have HR512_3 := aK hi512_3
              have HC512_3 := aK hl512_3
              clear hi512_3 hl512_3
              have HR512_4 := aK hi512_4
              have HC512_4 := aK hl512_4
              clear hi512_4 hl512_4
              have HR512_5 := aK hi512_5
              have HC512_5 := aK hl512_5
              clear hi512_5 hl512_5
              replace p512 := eq_true p512
              replace q512 := eq_true q512
              obtain ⟨_,_,_,_,_,_,_,_,_,_,_,_⟩ := bk6_ BK510.out
              go_wp2
              repeat (go_quiet (fail);try go_wp2)
              go_roundg kj13
              case measure => have := HK1.out;have := HJ6.out;have := HK3.out;have := HJ13.out;omega
              case rel => exact ⟨(wrap64 (x6_3 + 1)),(by first|rfl|(simp;done)|(simp [*];done)),H',⟨by have := HK1.out;have := HJ6.out;have := HK3.out;have := HJ13.out;omega⟩,⟨kM BK510.out⟩,⟨bG HB.out⟩⟩
            ·replace c16 := Bool.eq_false_iff.mpr c16
             subst c16
             rw [if_neg (show ¬ (false = true) by decide)] at H
             obtain ⟨c22,H⟩ := iS H
             have c22b0 := eq_true c22
             have c22b1 := decide_eq_true c22
             clear c22
             obtain ⟨c23,H⟩ := iS H
             have c23b0 := eq_true c23
             have c23b1 := decide_eq_true c23
             clear c23
             obtain ⟨y513,hy513⟩ : ∃ y_ : List (S30),y_ = (l0.take (x3_1 : Int).toNat) := ⟨_,rfl⟩
             replace H : ((codesearchref33_Live.f kj13 y513).bind fun t517 => (codesearchref33_Right.l2 kj13 l0 x3_1 t517 0 ((rd_T30 l0 x3_1).f0) ((rd_T30 l0 x3_1).f1) ((rd_T30 l0 x3_1).f2) ((rd_T30 l0 x3_1).f3) ((rd_T30 l0 x3_1).f4) ((rd_T30 l0 x3_1).f5))) = some r := by first|(rw [hy513];with_reducible exact H)|(have H2_ := (Option.bind_some _ _).symm.trans H;rw [hy513];with_reducible exact H2_)|(have H2_ := (Option.bind_some _ _).symm.trans H;with_reducible exact H2_)|with_reducible exact H|(rw [hy513];exact H)|exact H
             have Ny513 := aK hy513
             clear hy513
             replace H := Option.bind_eq_some_iff.mp H
             obtain ⟨t517,A240,H⟩ := H
             have A24 := aK A240
             clear A240
             have H' := aK H
             clear H
             have q25 : (x3_1 : Int) ≤ ((l0.length : Int) : Int) := of_decide_eq_true (by assumption)
             obtain ⟨i025,hi025,_,hsz25,_⟩ := info_parts info30
             have hroom25 : l0.length ≤ c0 := HC0.out
             have hC25 : Kd.C k30 _ (some ad509) l0.length l0 := HR0.out
             have hcut25 := cut_to (P := Tryz.prog) 22 30 .i64 Tryz.underlying22 hi025 (some ad509) l0.length c0 x3_1 (of_decide_eq_true (by assumption)) q25 hroom25
             have hr25 := Kd.C_take (m := (x3_1 : Int).toNat) hC25 (by omega)
             have hy25 : y513.length = (x3_1 : Int).toNat := (by rw [Ny513.out,List.length_take];omega)
             rw [← Ny513.out] at hr25
             rw [← hy25] at hcut25
             have HR516 := aK hr25
             have HC516 := aK (show y513.length ≤ c0 from by omega)
             clear hr25 hC25 hroom25 hi025 hsz25
             have KY25 := aK hy25
             clear hy25
             replace q25 := eq_true q25
             go_wp2_with (first|(go_at_call 27;(with_reducible refine (codesearchref33_Live.calls kj13 _ _ y513 t517 _ ?side1 ?side2 A24.out).mono ?_);(case side1 => exact cM (Kd.C_below HR516.out HB.out));(case side2 => exact HC516.out);rintro e w26 ⟨v518,rfl,ho0,hb⟩;have HO519 := aK (Kd.R_lower ho0 (below_size (bG HB.out)));replace BK510 := aK (blk_below (kM BK510.out) hb);replace HB := aK (below_step (bG HB.out) hb);(try clear hb);(try clear ho0)))
             repeat (go_quiet (first|(go_at_call 27;(with_reducible refine (codesearchref33_Live.calls kj13 _ _ y513 t517 _ ?side1 ?side2 A24.out).mono ?_);(case side1 => exact cM (Kd.C_below HR516.out HB.out));(case side2 => exact HC516.out);rintro e w26 ⟨v518,rfl,ho0,hb⟩;have HO519 := aK (Kd.R_lower ho0 (below_size (bG HB.out)));replace BK510 := aK (blk_below (kM BK510.out) hb);replace HB := aK (below_step (bG HB.out) hb);(try clear hb);(try clear ho0)));try go_wp2_with (first|(go_at_call 27;(with_reducible refine (codesearchref33_Live.calls kj13 _ _ y513 t517 _ ?side1 ?side2 A24.out).mono ?_);(case side1 => exact cM (Kd.C_below HR516.out HB.out));(case side2 => exact HC516.out);rintro e w26 ⟨v518,rfl,ho0,hb⟩;have HO519 := aK (Kd.R_lower ho0 (below_size (bG HB.out)));replace BK510 := aK (blk_below (kM BK510.out) hb);replace HB := aK (below_step (bG HB.out) hb);(try clear hb);(try clear ho0))))
             go_loopg [8] kj13 (fun kq v8 w' => ∃ (x8_5 : Int),v8 = .int .i64 x8_5 ∧ Aside0 (codesearchref33_Right.l2 kq l0 x3_1 t517 x8_5 ((rd_T30 l0 x3_1).f0) ((rd_T30 l0 x3_1).f1) ((rd_T30 l0 x3_1).f2) ((rd_T30 l0 x3_1).f3) ((rd_T30 l0 x3_1).f4) ((rd_T30 l0 x3_1).f5) = some r) ∧ Aside0 (kq ≤ kj13) ∧ Aside0 (Kd.R (Kd.int .i64) 3 w' w.heap.size (fun _ => True) v518 t517) ∧ Aside0 (w'.heap[gb510]? = some (.cells #[.int .i64 ((rd_T30 l0 x3_1).f0),.int .i64 ((rd_T30 l0 x3_1).f1),.int .i64 ((rd_T30 l0 x3_1).f2),(.slice A509_3 ((rd_T30 l0 x3_1).f3).length c509_3),(.slice A509_4 ((rd_T30 l0 x3_1).f4).length c509_4),(.slice A509_5 ((rd_T30 l0 x3_1).f5).length c509_5)] 30 (0,0))) ∧ Aside0 (Below w.heap.size w w'))
             case atStart => exact ⟨(0),(by first|rfl|(simp;done)|(simp [*];done)),H',⟨Nat.le_refl _⟩,⟨rM HO519.out⟩,⟨kM BK510.out⟩,⟨bG HB.out⟩⟩
             case round =>
              clear H'
              try clear p2
              try clear q2
              try clear p5
              try clear q5
              try clear hx5
              try clear p6
              try clear c16
              try clear c22
              try clear c22b0
              try clear c22b1
              try clear c23
              try clear c23b0
              try clear c23b1
              try clear q25
              try clear hx509_0
              try clear hx509_1
              try clear hx509_2
              try clear hx509_3
              try clear hx509_4
              try clear hx509_5
              try clear hx512_0
              try clear hx512_1
              try clear hx512_2
              try clear hx512_3
              try clear hx512_4
              try clear hx512_5
              try clear p2
              try clear p5
              try clear p509
              try clear p512
              try clear p6
              try clear q25
              try clear q5
              try clear q509
              try clear q512
              obtain ⟨x8_5,rfl,HA,HK5,HO_7,BK510,HB⟩ := hrel
              cases gk with
             |zero => exact absurd HA.out (by simp [codesearchref33_Right.l2])
             |succ k5 =>
               have H := HA.out
               clear HA
               simp only [codesearchref33_Right.l2] at H
               by_cases c27 : x8_5 < (((rd_T30 l0 x3_1).f4).length : Int)
               ·rw [if_pos c27] at H
                have c27b0 := decide_eq_true c27
                clear c27
                obtain ⟨c28,H⟩ := iS H
                have c28b0 := decide_eq_true c28
                clear c28
                replace H := Option.bind_eq_some_iff.mp H
                obtain ⟨t521,A290,H⟩ := H
                have A29 := aK A290
                clear A290
                by_cases c30 : t521 = true
                ·subst c30
                 rw [if_pos rfl] at H
                 have H' := aK H
                 clear H
                 obtain ⟨_,_,_,_,_,_,_,_,_,_,_,_⟩ := bk6_ BK510.out
                 have p520 : 0 ≤ (x8_5 : Int) := of_decide_eq_true (by assumption)
                 have q520 : x8_5 < (((rd_T30 l0 x3_1).f4).length : Int) := of_decide_eq_true (by assumption)
                 obtain ⟨ad520,e520,hx520_0⟩ := Kd.at_int HR509_4.out x8_5 p520 q520
                 cases e520
                 replace hx520_0 := xM HB hx520_0
                 replace p520 := eq_true p520
                 replace q520 := eq_true q520
                 obtain ⟨Ao32,co32,eo32⟩ := Kd.R_slice HO_7.out
                 subst eo32
                 go_wp2_with (first|(go_at_call 28;(with_reducible refine (codesearchref33_has.calls k5 _ _ t517 (rd ((rd_T30 l0 x3_1).f4) x8_5) true _ ?side1 ?side2 A29.out).mono ?_);(case side1 => exact cM (Kd.R_reads' HO_7.out).2.2);(case side2 => exact (Kd.R_reads' HO_7.out).2.1);rintro e w' ⟨rfl,⟨nd,rfl⟩⟩;(try first|exact ⟨rfl,_,World.drewN_drewN _ _ _⟩|exact ⟨rfl,_,Eq.trans (World.drewN_drewN _ _ _) (congrArg (World.drewN _) (Nat.add_assoc _ _ _))⟩)))
                 repeat (go_quiet (first|(go_at_call 28;(with_reducible refine (codesearchref33_has.calls k5 _ _ t517 (rd ((rd_T30 l0 x3_1).f4) x8_5) true _ ?side1 ?side2 A29.out).mono ?_);(case side1 => exact cM (Kd.R_reads' HO_7.out).2.2);(case side2 => exact (Kd.R_reads' HO_7.out).2.1);rintro e w' ⟨rfl,⟨nd,rfl⟩⟩;(try first|exact ⟨rfl,_,World.drewN_drewN _ _ _⟩|exact ⟨rfl,_,Eq.trans (World.drewN_drewN _ _ _) (congrArg (World.drewN _) (Nat.add_assoc _ _ _))⟩)));try go_wp2_with (first|(go_at_call 28;(with_reducible refine (codesearchref33_has.calls k5 _ _ t517 (rd ((rd_T30 l0 x3_1).f4) x8_5) true _ ?side1 ?side2 A29.out).mono ?_);(case side1 => exact cM (Kd.R_reads' HO_7.out).2.2);(case side2 => exact (Kd.R_reads' HO_7.out).2.1);rintro e w' ⟨rfl,⟨nd,rfl⟩⟩;(try first|exact ⟨rfl,_,World.drewN_drewN _ _ _⟩|exact ⟨rfl,_,Eq.trans (World.drewN_drewN _ _ _) (congrArg (World.drewN _) (Nat.add_assoc _ _ _))⟩))))
                 go_roundg k5
                 case measure => have := HK1.out;have := HJ6.out;have := HK3.out;have := HJ13.out;have := HK5.out;omega
                 case rel => exact ⟨(wrap64 (x8_5 + 1)),(by first|rfl|(simp;done)|(simp [*];done)),H',⟨by have := HK1.out;have := HJ6.out;have := HK3.out;have := HJ13.out;have := HK5.out;omega⟩,⟨rM HO_7.out⟩,⟨kM BK510.out⟩,⟨bG HB.out⟩⟩
                ·replace c30 := Bool.eq_false_iff.mpr c30
                 subst c30
                 rw [if_neg (show ¬ (false = true) by decide)] at H
                 obtain rfl := Option.some.inj H
                 obtain ⟨_,_,_,_,_,_,_,_,_,_,_,_⟩ := bk6_ BK510.out
                 have p520 : 0 ≤ (x8_5 : Int) := of_decide_eq_true (by assumption)
                 have q520 : x8_5 < (((rd_T30 l0 x3_1).f4).length : Int) := of_decide_eq_true (by assumption)
                 obtain ⟨ad520,e520,hx520_0⟩ := Kd.at_int HR509_4.out x8_5 p520 q520
                 cases e520
                 replace hx520_0 := xM HB hx520_0
                 replace p520 := eq_true p520
                 replace q520 := eq_true q520
                 obtain ⟨Ao34,co34,eo34⟩ := Kd.R_slice HO_7.out
                 subst eo34
                 go_wp2_with (first|(go_at_call 28;(with_reducible refine (codesearchref33_has.calls k5 _ _ t517 (rd ((rd_T30 l0 x3_1).f4) x8_5) false _ ?side1 ?side2 A29.out).mono ?_);(case side1 => exact cM (Kd.R_reads' HO_7.out).2.2);(case side2 => exact (Kd.R_reads' HO_7.out).2.1);rintro e w' ⟨rfl,⟨nd,rfl⟩⟩;(try first|exact ⟨rfl,_,World.drewN_drewN _ _ _⟩|exact ⟨rfl,_,Eq.trans (World.drewN_drewN _ _ _) (congrArg (World.drewN _) (Nat.add_assoc _ _ _))⟩)))
                 repeat (go_quiet (first|(go_at_call 28;(with_reducible refine (codesearchref33_has.calls k5 _ _ t517 (rd ((rd_T30 l0 x3_1).f4) x8_5) false _ ?side1 ?side2 A29.out).mono ?_);(case side1 => exact cM (Kd.R_reads' HO_7.out).2.2);(case side2 => exact (Kd.R_reads' HO_7.out).2.1);rintro e w' ⟨rfl,⟨nd,rfl⟩⟩;(try first|exact ⟨rfl,_,World.drewN_drewN _ _ _⟩|exact ⟨rfl,_,Eq.trans (World.drewN_drewN _ _ _) (congrArg (World.drewN _) (Nat.add_assoc _ _ _))⟩)));try go_wp2_with (first|(go_at_call 28;(with_reducible refine (codesearchref33_has.calls k5 _ _ t517 (rd ((rd_T30 l0 x3_1).f4) x8_5) false _ ?side1 ?side2 A29.out).mono ?_);(case side1 => exact cM (Kd.R_reads' HO_7.out).2.2);(case side2 => exact (Kd.R_reads' HO_7.out).2.1);rintro e w' ⟨rfl,⟨nd,rfl⟩⟩;(try first|exact ⟨rfl,_,World.drewN_drewN _ _ _⟩|exact ⟨rfl,_,Eq.trans (World.drewN_drewN _ _ _) (congrArg (World.drewN _) (Nat.add_assoc _ _ _))⟩))))
                 go_ret
                 exact ⟨by first|rfl|(simp [errW_none,errW_some] <;> rfl)|(simp [*,errW_none,errW_some] <;> rfl),bG HB.out⟩
               ·rw [if_neg c27] at H
                have c27b0 := decide_eq_false c27
                clear c27
                by_cases c35 : ((rd_T30 l0 x3_1).f1) = 3
                ·rw [if_pos c35] at H
                 have c35b0 := beq_iff_eq.mpr c35
                 have c35b1 := bne_eq_false_iff_eq.mpr c35
                 clear c35
                 by_cases c36 : (((rd_T30 l0 x3_1).f4).length : Int) = 0
                 ·rw [if_pos c36] at H
                  have c36b0 := beq_iff_eq.mpr c36
                  have c36b1 := bne_eq_false_iff_eq.mpr c36
                  clear c36
                  obtain rfl := Option.some.inj H
                  obtain ⟨_,_,_,_,_,_,_,_,_,_,_,_⟩ := bk6_ BK510.out
                  go_wp2
                  repeat (go_quiet (fail);try go_wp2)
                  go_ret
                  exact ⟨by first|rfl|(simp [errW_none,errW_some] <;> rfl)|(simp [*,errW_none,errW_some] <;> rfl),bG HB.out⟩
                 ·rw [if_neg c36] at H
                  have c36b0 := beq_eq_false_iff_ne.mpr c36
                  have c36b1 := bne_iff_ne.mpr c36
                  have c36b2 : ¬ (((rd_T30 l0 x3_1).f4) = []) := fun h_ => c36 (by rw [h_];rfl)
                  by_cases c38 : ((rd_T30 l0 x3_1).f1) = 2
                  ·rw [if_pos c38] at H
                   have c38b0 := beq_iff_eq.mpr c38
                   have c38b1 := bne_eq_false_iff_eq.mpr c38
                   clear c38
                   by_cases c39 : (((rd_T30 l0 x3_1).f3).length : Int) = 0
                   ·rw [if_pos c39] at H
                    have c39b0 := beq_iff_eq.mpr c39
                    have c39b1 := bne_eq_false_iff_eq.mpr c39
                    clear c39
                    obtain rfl := Option.some.inj H
                    obtain ⟨_,_,_,_,_,_,_,_,_,_,_,_⟩ := bk6_ BK510.out
                    go_wp2
                    repeat (go_quiet (fail);try go_wp2)
                    go_ret
                    exact ⟨by first|rfl|(simp [errW_none,errW_some] <;> rfl)|(simp [*,errW_none,errW_some] <;> rfl),bG HB.out⟩
                   ·rw [if_neg c39] at H
                    have c39b0 := beq_eq_false_iff_ne.mpr c39
                    have c39b1 := bne_iff_ne.mpr c39
                    have c39b2 : ¬ (((rd_T30 l0 x3_1).f3) = []) := fun h_ => c39 (by rw [h_];rfl)
                    have H' := aK H
                    clear H
                    obtain ⟨_,_,_,_,_,_,_,_,_,_,_,_⟩ := bk6_ BK510.out
                    go_wp2
                    repeat (go_quiet (fail);try go_wp2)
                    go_roundg k5
                    case measure => have := HK1.out;have := HJ6.out;have := HK3.out;have := HJ13.out;have := HK5.out;omega
                    case rel => exact ⟨(wrap64 (x3_1 + 1)),(by first|rfl|(simp;done)|(simp [*];done)),H',⟨by have := HK1.out;have := HJ6.out;have := HK3.out;have := HJ13.out;have := HK5.out;omega⟩,⟨bG HB.out⟩⟩
                  ·rw [if_neg c38] at H
                   have c38b0 := beq_eq_false_iff_ne.mpr c38
                   have c38b1 := bne_iff_ne.mpr c38
                   by_cases c42 : ((rd_T30 l0 x3_1).f1) = 4
                   ·rw [if_pos c42] at H
                    have c42b0 := beq_iff_eq.mpr c42
                    have c42b1 := bne_eq_false_iff_eq.mpr c42
                    clear c42
                    by_cases c43 : (((rd_T30 l0 x3_1).f3).length : Int) = 0
                    ·rw [if_pos c43] at H
                     have c43b0 := beq_iff_eq.mpr c43
                     have c43b1 := bne_eq_false_iff_eq.mpr c43
                     clear c43
                     obtain rfl := Option.some.inj H
                     obtain ⟨_,_,_,_,_,_,_,_,_,_,_,_⟩ := bk6_ BK510.out
                     go_wp2
                     repeat (go_quiet (fail);try go_wp2)
                     go_ret
                     exact ⟨by first|rfl|(simp [errW_none,errW_some] <;> rfl)|(simp [*,errW_none,errW_some] <;> rfl),bG HB.out⟩
                    ·rw [if_neg c43] at H
                     have c43b0 := beq_eq_false_iff_ne.mpr c43
                     have c43b1 := bne_iff_ne.mpr c43
                     have c43b2 : ¬ (((rd_T30 l0 x3_1).f3) = []) := fun h_ => c43 (by rw [h_];rfl)
                     have H' := aK H
                     clear H
                     obtain ⟨_,_,_,_,_,_,_,_,_,_,_,_⟩ := bk6_ BK510.out
                     go_wp2
                     repeat (go_quiet (fail);try go_wp2)
                     go_roundg k5
                     case measure => have := HK1.out;have := HJ6.out;have := HK3.out;have := HJ13.out;have := HK5.out;omega
                     case rel => exact ⟨(wrap64 (x3_1 + 1)),(by first|rfl|(simp;done)|(simp [*];done)),H',⟨by have := HK1.out;have := HJ6.out;have := HK3.out;have := HJ13.out;have := HK5.out;omega⟩,⟨bG HB.out⟩⟩
                   ·rw [if_neg c42] at H
                    have c42b0 := beq_eq_false_iff_ne.mpr c42
                    have c42b1 := bne_iff_ne.mpr c42
                    have H' := aK H
                    clear H
                    obtain ⟨_,_,_,_,_,_,_,_,_,_,_,_⟩ := bk6_ BK510.out
                    go_wp2
                    repeat (go_quiet (fail);try go_wp2)
                    go_roundg k5
                    case measure => have := HK1.out;have := HJ6.out;have := HK3.out;have := HJ13.out;have := HK5.out;omega
                    case rel => exact ⟨(wrap64 (x3_1 + 1)),(by first|rfl|(simp;done)|(simp [*];done)),H',⟨by have := HK1.out;have := HJ6.out;have := HK3.out;have := HJ13.out;have := HK5.out;omega⟩,⟨bG HB.out⟩⟩
                ·rw [if_neg c35] at H
                 have c35b0 := beq_eq_false_iff_ne.mpr c35
                 have c35b1 := bne_iff_ne.mpr c35
                 by_cases c47 : ((rd_T30 l0 x3_1).f1) = 2
                 ·rw [if_pos c47] at H
                  have c47b0 := beq_iff_eq.mpr c47
                  have c47b1 := bne_eq_false_iff_eq.mpr c47
                  clear c47
                  by_cases c48 : (((rd_T30 l0 x3_1).f3).length : Int) = 0
                  ·rw [if_pos c48] at H
                   have c48b0 := beq_iff_eq.mpr c48
                   have c48b1 := bne_eq_false_iff_eq.mpr c48
                   clear c48
                   obtain rfl := Option.some.inj H
                   obtain ⟨_,_,_,_,_,_,_,_,_,_,_,_⟩ := bk6_ BK510.out
                   go_wp2
                   repeat (go_quiet (fail);try go_wp2)
                   go_ret
                   exact ⟨by first|rfl|(simp [errW_none,errW_some] <;> rfl)|(simp [*,errW_none,errW_some] <;> rfl),bG HB.out⟩
                  ·rw [if_neg c48] at H
                   have c48b0 := beq_eq_false_iff_ne.mpr c48
                   have c48b1 := bne_iff_ne.mpr c48
                   have c48b2 : ¬ (((rd_T30 l0 x3_1).f3) = []) := fun h_ => c48 (by rw [h_];rfl)
                   have H' := aK H
                   clear H
                   obtain ⟨_,_,_,_,_,_,_,_,_,_,_,_⟩ := bk6_ BK510.out
                   go_wp2
                   repeat (go_quiet (fail);try go_wp2)
                   go_roundg k5
                   case measure => have := HK1.out;have := HJ6.out;have := HK3.out;have := HJ13.out;have := HK5.out;omega
                   case rel => exact ⟨(wrap64 (x3_1 + 1)),(by first|rfl|(simp;done)|(simp [*];done)),H',⟨by have := HK1.out;have := HJ6.out;have := HK3.out;have := HJ13.out;have := HK5.out;omega⟩,⟨bG HB.out⟩⟩
                 ·rw [if_neg c47] at H
                  have c47b0 := beq_eq_false_iff_ne.mpr c47
                  have c47b1 := bne_iff_ne.mpr c47
                  by_cases c51 : ((rd_T30 l0 x3_1).f1) = 4
                  ·rw [if_pos c51] at H
                   have c51b0 := beq_iff_eq.mpr c51
                   have c51b1 := bne_eq_false_iff_eq.mpr c51
                   clear c51
                   by_cases c52 : (((rd_T30 l0 x3_1).f3).length : Int) = 0
                   ·rw [if_pos c52] at H
                    have c52b0 := beq_iff_eq.mpr c52
                    have c52b1 := bne_eq_false_iff_eq.mpr c52
                    clear c52
                    obtain rfl := Option.some.inj H
                    obtain ⟨_,_,_,_,_,_,_,_,_,_,_,_⟩ := bk6_ BK510.out
                    go_wp2
                    repeat (go_quiet (fail);try go_wp2)
                    go_ret
                    exact ⟨by first|rfl|(simp [errW_none,errW_some] <;> rfl)|(simp [*,errW_none,errW_some] <;> rfl),bG HB.out⟩
                   ·rw [if_neg c52] at H
                    have c52b0 := beq_eq_false_iff_ne.mpr c52
                    have c52b1 := bne_iff_ne.mpr c52
                    have c52b2 : ¬ (((rd_T30 l0 x3_1).f3) = []) := fun h_ => c52 (by rw [h_];rfl)
                    have H' := aK H
                    clear H
                    obtain ⟨_,_,_,_,_,_,_,_,_,_,_,_⟩ := bk6_ BK510.out
                    go_wp2
                    repeat (go_quiet (fail);try go_wp2)
                    go_roundg k5
                    case measure => have := HK1.out;have := HJ6.out;have := HK3.out;have := HJ13.out;have := HK5.out;omega
                    case rel => exact ⟨(wrap64 (x3_1 + 1)),(by first|rfl|(simp;done)|(simp [*];done)),H',⟨by have := HK1.out;have := HJ6.out;have := HK3.out;have := HJ13.out;have := HK5.out;omega⟩,⟨bG HB.out⟩⟩
                  ·rw [if_neg c51] at H
                   have c51b0 := beq_eq_false_iff_ne.mpr c51
                   have c51b1 := bne_iff_ne.mpr c51
                   have H' := aK H
                   clear H
                   obtain ⟨_,_,_,_,_,_,_,_,_,_,_,_⟩ := bk6_ BK510.out
                   go_wp2
                   repeat (go_quiet (fail);try go_wp2)
                   go_roundg k5
                   case measure => have := HK1.out;have := HJ6.out;have := HK3.out;have := HJ13.out;have := HK5.out;omega
                   case rel => exact ⟨(wrap64 (x3_1 + 1)),(by first|rfl|(simp;done)|(simp [*];done)),H',⟨by have := HK1.out;have := HJ6.out;have := HK3.out;have := HJ13.out;have := HK5.out;omega⟩,⟨bG HB.out⟩⟩
     ·replace c6 := Bool.eq_false_iff.mpr c6
      subst c6
      rw [if_neg (show ¬ (false = true) by decide)] at H
      obtain rfl := Option.some.inj H
      have p509 : 0 ≤ (x3_1 : Int) := of_decide_eq_true (by assumption)
      have q509 : x3_1 < (l0.length : Int) := of_decide_eq_true (by assumption)
      obtain ⟨ad509,A509_3,c509_3,A509_4,c509_4,A509_5,c509_5,e509,hx509_0,hx509_1,hx509_2,hx509_3,hx509_4,hx509_5,hl509_3,hi509_3,hl509_4,hi509_4,hl509_5,hi509_5⟩ := at_T30 HR0.out x3_1 p509 q509
      cases e509
      replace hx509_0 := xM HB hx509_0
      replace hx509_1 := xM HB hx509_1
      replace hx509_2 := xM HB hx509_2
      replace hx509_3 := xM HB hx509_3
      replace hx509_4 := xM HB hx509_4
      replace hx509_5 := xM HB hx509_5
      have HR509_3 := aK hi509_3
      have HC509_3 := aK hl509_3
      clear hi509_3 hl509_3
      have HR509_4 := aK hi509_4
      have HC509_4 := aK hl509_4
      clear hi509_4 hl509_4
      have HR509_5 := aK hi509_5
      have HC509_5 := aK hl509_5
      clear hi509_5 hl509_5
      replace p509 := eq_true p509
      replace q509 := eq_true q509
      go_wp2_with (first|((with_reducible refine gate_dst (N := 4) rfl ?_);(try (refine gate_guard (by rfl) ?_;dsimp only));refine box_event ?hg (N := 4) ?hd (cs := #[.int .i64 0,.int .i64 0,.int .i64 0,.slice none 0 0,.slice none 0 0,.slice none 0 0]) (t := 30) ?hr ?_;(case hd => rfl);(case hg => rfl);(case hr => first|(go_simp;done)|(go_simp;rfl));intro gb510 hg w56 hbox hb;have BK510 := aK (hbox);have GW510 := aK ((by rw [hg];exact (below_size (bM HB.out)) : w.heap.size ≤ gb510));have GJ510 := Ge.mk GW510.out;have GE510 := aK ((by rw [hg];exact (below_size (bM HB.out)) : w.heap.size ≤ gb510));have GI510 := Ge.mk GE510.out;replace HB := aK (below_step (bM HB.out) hb);clear hb hbox hg;obtain ⟨hcz57_0,hcz57_1,hcz57_2,hcz57_3,hcz57_4,hcz57_5,hfz57_0,hfz57_1,hfz57_2,hfz57_3,hfz57_4,hfz57_5⟩ := bk6_ BK510.out)|(go_at_call 26;(with_reducible refine (codesearchref33_fields.calls k1 ((rd_T30 l0 x3_1).f0) ((rd_T30 l0 x3_1).f1) ((rd_T30 l0 x3_1).f2) _ _ ((rd_T30 l0 x3_1).f3) _ _ ((rd_T30 l0 x3_1).f4) _ _ ((rd_T30 l0 x3_1).f5) false _ ?side1 ?side2 ?side3 ?side4 ?side5 ?side6 A5.out).mono ?_);(case side1 => exact Kd.C_below HR509_3.out (bG HB.out));(case side2 => exact HC509_3.out);(case side3 => exact Kd.C_below HR509_4.out (bG HB.out));(case side4 => exact HC509_4.out);(case side5 => exact Kd.C_below HR509_5.out (bG HB.out));(case side6 => exact HC509_5.out);rintro e w58 ⟨rfl,hb⟩;replace BK510 := aK (blk_below (g := gb510) (o := .cells #[.int .i64 ((rd_T30 l0 x3_1).f0),.int .i64 ((rd_T30 l0 x3_1).f1),.int .i64 ((rd_T30 l0 x3_1).f2),.slice A509_3 ((rd_T30 l0 x3_1).f3).length c509_3,.slice A509_4 ((rd_T30 l0 x3_1).f4).length c509_4,.slice A509_5 ((rd_T30 l0 x3_1).f5).length c509_5] 30 (0,0)) (by (with_reducible repeat (first|refine blk_drewN ?_ _|refine blk_drew ?_|refine blk_alloc ?_ _));refine blk_put (cs := #[.int .i64 ((rd_T30 l0 x3_1).f0),.int .i64 ((rd_T30 l0 x3_1).f1),.int .i64 ((rd_T30 l0 x3_1).f2),.slice A509_3 ((rd_T30 l0 x3_1).f3).length c509_3,.slice A509_4 ((rd_T30 l0 x3_1).f4).length c509_4,.slice none 0 0]) ?_ 5 _ rfl;(with_reducible repeat (first|refine blk_drewN ?_ _|refine blk_drew ?_|refine blk_alloc ?_ _));refine blk_put (cs := #[.int .i64 ((rd_T30 l0 x3_1).f0),.int .i64 ((rd_T30 l0 x3_1).f1),.int .i64 ((rd_T30 l0 x3_1).f2),.slice A509_3 ((rd_T30 l0 x3_1).f3).length c509_3,.slice none 0 0,.slice none 0 0]) ?_ 4 _ rfl;(with_reducible repeat (first|refine blk_drewN ?_ _|refine blk_drew ?_|refine blk_alloc ?_ _));refine blk_put (cs := #[.int .i64 ((rd_T30 l0 x3_1).f0),.int .i64 ((rd_T30 l0 x3_1).f1),.int .i64 ((rd_T30 l0 x3_1).f2),.slice none 0 0,.slice none 0 0,.slice none 0 0]) ?_ 3 _ rfl;(with_reducible repeat (first|refine blk_drewN ?_ _|refine blk_drew ?_|refine blk_alloc ?_ _));refine blk_put (cs := #[.int .i64 ((rd_T30 l0 x3_1).f0),.int .i64 ((rd_T30 l0 x3_1).f1),.int .i64 0,.slice none 0 0,.slice none 0 0,.slice none 0 0]) ?_ 2 _ rfl;(with_reducible repeat (first|refine blk_drewN ?_ _|refine blk_drew ?_|refine blk_alloc ?_ _));refine blk_put (cs := #[.int .i64 ((rd_T30 l0 x3_1).f0),.int .i64 0,.int .i64 0,.slice none 0 0,.slice none 0 0,.slice none 0 0]) ?_ 1 _ rfl;(with_reducible repeat (first|refine blk_drewN ?_ _|refine blk_drew ?_|refine blk_alloc ?_ _));refine blk_put (cs := #[.int .i64 0,.int .i64 0,.int .i64 0,.slice none 0 0,.slice none 0 0,.slice none 0 0]) ?_ 0 _ rfl;(with_reducible repeat (first|refine blk_drewN ?_ _|refine blk_drew ?_|refine blk_alloc ?_ _));exact BK510.out) hb);replace HB := aK (below_step (bG HB.out) hb);(try clear hb)))
      repeat (go_quiet (first|((with_reducible refine gate_dst (N := 4) rfl ?_);(try (refine gate_guard (by rfl) ?_;dsimp only));refine box_event ?hg (N := 4) ?hd (cs := #[.int .i64 0,.int .i64 0,.int .i64 0,.slice none 0 0,.slice none 0 0,.slice none 0 0]) (t := 30) ?hr ?_;(case hd => rfl);(case hg => rfl);(case hr => first|(go_simp;done)|(go_simp;rfl));intro gb510 hg w56 hbox hb;have BK510 := aK (hbox);have GW510 := aK ((by rw [hg];exact (below_size (bM HB.out)) : w.heap.size ≤ gb510));have GJ510 := Ge.mk GW510.out;have GE510 := aK ((by rw [hg];exact (below_size (bM HB.out)) : w.heap.size ≤ gb510));have GI510 := Ge.mk GE510.out;replace HB := aK (below_step (bM HB.out) hb);clear hb hbox hg;obtain ⟨hcz57_0,hcz57_1,hcz57_2,hcz57_3,hcz57_4,hcz57_5,hfz57_0,hfz57_1,hfz57_2,hfz57_3,hfz57_4,hfz57_5⟩ := bk6_ BK510.out)|(go_at_call 26;(with_reducible refine (codesearchref33_fields.calls k1 ((rd_T30 l0 x3_1).f0) ((rd_T30 l0 x3_1).f1) ((rd_T30 l0 x3_1).f2) _ _ ((rd_T30 l0 x3_1).f3) _ _ ((rd_T30 l0 x3_1).f4) _ _ ((rd_T30 l0 x3_1).f5) false _ ?side1 ?side2 ?side3 ?side4 ?side5 ?side6 A5.out).mono ?_);(case side1 => exact Kd.C_below HR509_3.out (bG HB.out));(case side2 => exact HC509_3.out);(case side3 => exact Kd.C_below HR509_4.out (bG HB.out));(case side4 => exact HC509_4.out);(case side5 => exact Kd.C_below HR509_5.out (bG HB.out));(case side6 => exact HC509_5.out);rintro e w58 ⟨rfl,hb⟩;replace BK510 := aK (blk_below (g := gb510) (o := .cells #[.int .i64 ((rd_T30 l0 x3_1).f0),.int .i64 ((rd_T30 l0 x3_1).f1),.int .i64 ((rd_T30 l0 x3_1).f2),.slice A509_3 ((rd_T30 l0 x3_1).f3).length c509_3,.slice A509_4 ((rd_T30 l0 x3_1).f4).length c509_4,.slice A509_5 ((rd_T30 l0 x3_1).f5).length c509_5] 30 (0,0)) (by (with_reducible repeat (first|refine blk_drewN ?_ _|refine blk_drew ?_|refine blk_alloc ?_ _));refine blk_put (cs := #[.int .i64 ((rd_T30 l0 x3_1).f0),.int .i64 ((rd_T30 l0 x3_1).f1),.int .i64 ((rd_T30 l0 x3_1).f2),.slice A509_3 ((rd_T30 l0 x3_1).f3).length c509_3,.slice A509_4 ((rd_T30 l0 x3_1).f4).length c509_4,.slice none 0 0]) ?_ 5 _ rfl;(with_reducible repeat (first|refine blk_drewN ?_ _|refine blk_drew ?_|refine blk_alloc ?_ _));refine blk_put (cs := #[.int .i64 ((rd_T30 l0 x3_1).f0),.int .i64 ((rd_T30 l0 x3_1).f1),.int .i64 ((rd_T30 l0 x3_1).f2),.slice A509_3 ((rd_T30 l0 x3_1).f3).length c509_3,.slice none 0 0,.slice none 0 0]) ?_ 4 _ rfl;(with_reducible repeat (first|refine blk_drewN ?_ _|refine blk_drew ?_|refine blk_alloc ?_ _));refine blk_put (cs := #[.int .i64 ((rd_T30 l0 x3_1).f0),.int .i64 ((rd_T30 l0 x3_1).f1),.int .i64 ((rd_T30 l0 x3_1).f2),.slice none 0 0,.slice none 0 0,.slice none 0 0]) ?_ 3 _ rfl;(with_reducible repeat (first|refine blk_drewN ?_ _|refine blk_drew ?_|refine blk_alloc ?_ _));refine blk_put (cs := #[.int .i64 ((rd_T30 l0 x3_1).f0),.int .i64 ((rd_T30 l0 x3_1).f1),.int .i64 0,.slice none 0 0,.slice none 0 0,.slice none 0 0]) ?_ 2 _ rfl;(with_reducible repeat (first|refine blk_drewN ?_ _|refine blk_drew ?_|refine blk_alloc ?_ _));refine blk_put (cs := #[.int .i64 ((rd_T30 l0 x3_1).f0),.int .i64 0,.int .i64 0,.slice none 0 0,.slice none 0 0,.slice none 0 0]) ?_ 1 _ rfl;(with_reducible repeat (first|refine blk_drewN ?_ _|refine blk_drew ?_|refine blk_alloc ?_ _));refine blk_put (cs := #[.int .i64 0,.int .i64 0,.int .i64 0,.slice none 0 0,.slice none 0 0,.slice none 0 0]) ?_ 0 _ rfl;(with_reducible repeat (first|refine blk_drewN ?_ _|refine blk_drew ?_|refine blk_alloc ?_ _));exact BK510.out) hb);replace HB := aK (below_step (bG HB.out) hb);(try clear hb)));try go_wp2_with (first|((with_reducible refine gate_dst (N := 4) rfl ?_);(try (refine gate_guard (by rfl) ?_;dsimp only));refine box_event ?hg (N := 4) ?hd (cs := #[.int .i64 0,.int .i64 0,.int .i64 0,.slice none 0 0,.slice none 0 0,.slice none 0 0]) (t := 30) ?hr ?_;(case hd => rfl);(case hg => rfl);(case hr => first|(go_simp;done)|(go_simp;rfl));intro gb510 hg w56 hbox hb;have BK510 := aK (hbox);have GW510 := aK ((by rw [hg];exact (below_size (bM HB.out)) : w.heap.size ≤ gb510));have GJ510 := Ge.mk GW510.out;have GE510 := aK ((by rw [hg];exact (below_size (bM HB.out)) : w.heap.size ≤ gb510));have GI510 := Ge.mk GE510.out;replace HB := aK (below_step (bM HB.out) hb);clear hb hbox hg;obtain ⟨hcz57_0,hcz57_1,hcz57_2,hcz57_3,hcz57_4,hcz57_5,hfz57_0,hfz57_1,hfz57_2,hfz57_3,hfz57_4,hfz57_5⟩ := bk6_ BK510.out)|(go_at_call 26;(with_reducible refine (codesearchref33_fields.calls k1 ((rd_T30 l0 x3_1).f0) ((rd_T30 l0 x3_1).f1) ((rd_T30 l0 x3_1).f2) _ _ ((rd_T30 l0 x3_1).f3) _ _ ((rd_T30 l0 x3_1).f4) _ _ ((rd_T30 l0 x3_1).f5) false _ ?side1 ?side2 ?side3 ?side4 ?side5 ?side6 A5.out).mono ?_);(case side1 => exact Kd.C_below HR509_3.out (bG HB.out));(case side2 => exact HC509_3.out);(case side3 => exact Kd.C_below HR509_4.out (bG HB.out));(case side4 => exact HC509_4.out);(case side5 => exact Kd.C_below HR509_5.out (bG HB.out));(case side6 => exact HC509_5.out);rintro e w58 ⟨rfl,hb⟩;replace BK510 := aK (blk_below (g := gb510) (o := .cells #[.int .i64 ((rd_T30 l0 x3_1).f0),.int .i64 ((rd_T30 l0 x3_1).f1),.int .i64 ((rd_T30 l0 x3_1).f2),.slice A509_3 ((rd_T30 l0 x3_1).f3).length c509_3,.slice A509_4 ((rd_T30 l0 x3_1).f4).length c509_4,.slice A509_5 ((rd_T30 l0 x3_1).f5).length c509_5] 30 (0,0)) (by (with_reducible repeat (first|refine blk_drewN ?_ _|refine blk_drew ?_|refine blk_alloc ?_ _));refine blk_put (cs := #[.int .i64 ((rd_T30 l0 x3_1).f0),.int .i64 ((rd_T30 l0 x3_1).f1),.int .i64 ((rd_T30 l0 x3_1).f2),.slice A509_3 ((rd_T30 l0 x3_1).f3).length c509_3,.slice A509_4 ((rd_T30 l0 x3_1).f4).length c509_4,.slice none 0 0]) ?_ 5 _ rfl;(with_reducible repeat (first|refine blk_drewN ?_ _|refine blk_drew ?_|refine blk_alloc ?_ _));refine blk_put (cs := #[.int .i64 ((rd_T30 l0 x3_1).f0),.int .i64 ((rd_T30 l0 x3_1).f1),.int .i64 ((rd_T30 l0 x3_1).f2),.slice A509_3 ((rd_T30 l0 x3_1).f3).length c509_3,.slice none 0 0,.slice none 0 0]) ?_ 4 _ rfl;(with_reducible repeat (first|refine blk_drewN ?_ _|refine blk_drew ?_|refine blk_alloc ?_ _));refine blk_put (cs := #[.int .i64 ((rd_T30 l0 x3_1).f0),.int .i64 ((rd_T30 l0 x3_1).f1),.int .i64 ((rd_T30 l0 x3_1).f2),.slice none 0 0,.slice none 0 0,.slice none 0 0]) ?_ 3 _ rfl;(with_reducible repeat (first|refine blk_drewN ?_ _|refine blk_drew ?_|refine blk_alloc ?_ _));refine blk_put (cs := #[.int .i64 ((rd_T30 l0 x3_1).f0),.int .i64 ((rd_T30 l0 x3_1).f1),.int .i64 0,.slice none 0 0,.slice none 0 0,.slice none 0 0]) ?_ 2 _ rfl;(with_reducible repeat (first|refine blk_drewN ?_ _|refine blk_drew ?_|refine blk_alloc ?_ _));refine blk_put (cs := #[.int .i64 ((rd_T30 l0 x3_1).f0),.int .i64 0,.int .i64 0,.slice none 0 0,.slice none 0 0,.slice none 0 0]) ?_ 1 _ rfl;(with_reducible repeat (first|refine blk_drewN ?_ _|refine blk_drew ?_|refine blk_alloc ?_ _));refine blk_put (cs := #[.int .i64 0,.int .i64 0,.int .i64 0,.slice none 0 0,.slice none 0 0,.slice none 0 0]) ?_ 0 _ rfl;(with_reducible repeat (first|refine blk_drewN ?_ _|refine blk_drew ?_|refine blk_alloc ?_ _));exact BK510.out) hb);replace HB := aK (below_step (bG HB.out) hb);(try clear hb))))
      go_ret
      exact ⟨by first|rfl|(simp [errW_none,errW_some] <;> rfl)|(simp [*,errW_none,errW_some] <;> rfl),bG HB.out⟩
    ·rw [if_neg c4] at H
     have c4b0 := beq_eq_false_iff_ne.mpr c4
     have c4b1 := bne_iff_ne.mpr c4
     obtain rfl := Option.some.inj H
     have p509 : 0 ≤ (x3_1 : Int) := of_decide_eq_true (by assumption)
     have q509 : x3_1 < (l0.length : Int) := of_decide_eq_true (by assumption)
     obtain ⟨ad509,A509_3,c509_3,A509_4,c509_4,A509_5,c509_5,e509,hx509_0,hx509_1,hx509_2,hx509_3,hx509_4,hx509_5,hl509_3,hi509_3,hl509_4,hi509_4,hl509_5,hi509_5⟩ := at_T30 HR0.out x3_1 p509 q509
     cases e509
     replace hx509_0 := xM HB hx509_0
     replace hx509_1 := xM HB hx509_1
     replace hx509_2 := xM HB hx509_2
     replace hx509_3 := xM HB hx509_3
     replace hx509_4 := xM HB hx509_4
     replace hx509_5 := xM HB hx509_5
     have HR509_3 := aK hi509_3
     have HC509_3 := aK hl509_3
     clear hi509_3 hl509_3
     have HR509_4 := aK hi509_4
     have HC509_4 := aK hl509_4
     clear hi509_4 hl509_4
     have HR509_5 := aK hi509_5
     have HC509_5 := aK hl509_5
     clear hi509_5 hl509_5
     replace p509 := eq_true p509
     replace q509 := eq_true q509
     go_wp2_with (first|((with_reducible refine gate_dst (N := 4) rfl ?_);(try (refine gate_guard (by rfl) ?_;dsimp only));refine box_event ?hg (N := 4) ?hd (cs := #[.int .i64 0,.int .i64 0,.int .i64 0,.slice none 0 0,.slice none 0 0,.slice none 0 0]) (t := 30) ?hr ?_;(case hd => rfl);(case hg => rfl);(case hr => first|(go_simp;done)|(go_simp;rfl));intro gb510 hg w59 hbox hb;have BK510 := aK (hbox);have GW510 := aK ((by rw [hg];exact (below_size (bM HB.out)) : w.heap.size ≤ gb510));have GJ510 := Ge.mk GW510.out;have GE510 := aK ((by rw [hg];exact (below_size (bM HB.out)) : w.heap.size ≤ gb510));have GI510 := Ge.mk GE510.out;replace HB := aK (below_step (bM HB.out) hb);clear hb hbox hg;obtain ⟨hcz60_0,hcz60_1,hcz60_2,hcz60_3,hcz60_4,hcz60_5,hfz60_0,hfz60_1,hfz60_2,hfz60_3,hfz60_4,hfz60_5⟩ := bk6_ BK510.out))
     repeat (go_quiet (first|((with_reducible refine gate_dst (N := 4) rfl ?_);(try (refine gate_guard (by rfl) ?_;dsimp only));refine box_event ?hg (N := 4) ?hd (cs := #[.int .i64 0,.int .i64 0,.int .i64 0,.slice none 0 0,.slice none 0 0,.slice none 0 0]) (t := 30) ?hr ?_;(case hd => rfl);(case hg => rfl);(case hr => first|(go_simp;done)|(go_simp;rfl));intro gb510 hg w59 hbox hb;have BK510 := aK (hbox);have GW510 := aK ((by rw [hg];exact (below_size (bM HB.out)) : w.heap.size ≤ gb510));have GJ510 := Ge.mk GW510.out;have GE510 := aK ((by rw [hg];exact (below_size (bM HB.out)) : w.heap.size ≤ gb510));have GI510 := Ge.mk GE510.out;replace HB := aK (below_step (bM HB.out) hb);clear hb hbox hg;obtain ⟨hcz60_0,hcz60_1,hcz60_2,hcz60_3,hcz60_4,hcz60_5,hfz60_0,hfz60_1,hfz60_2,hfz60_3,hfz60_4,hfz60_5⟩ := bk6_ BK510.out));try go_wp2_with (first|((with_reducible refine gate_dst (N := 4) rfl ?_);(try (refine gate_guard (by rfl) ?_;dsimp only));refine box_event ?hg (N := 4) ?hd (cs := #[.int .i64 0,.int .i64 0,.int .i64 0,.slice none 0 0,.slice none 0 0,.slice none 0 0]) (t := 30) ?hr ?_;(case hd => rfl);(case hg => rfl);(case hr => first|(go_simp;done)|(go_simp;rfl));intro gb510 hg w59 hbox hb;have BK510 := aK (hbox);have GW510 := aK ((by rw [hg];exact (below_size (bM HB.out)) : w.heap.size ≤ gb510));have GJ510 := Ge.mk GW510.out;have GE510 := aK ((by rw [hg];exact (below_size (bM HB.out)) : w.heap.size ≤ gb510));have GI510 := Ge.mk GE510.out;replace HB := aK (below_step (bM HB.out) hb);clear hb hbox hg;obtain ⟨hcz60_0,hcz60_1,hcz60_2,hcz60_3,hcz60_4,hcz60_5,hfz60_0,hfz60_1,hfz60_2,hfz60_3,hfz60_4,hfz60_5⟩ := bk6_ BK510.out)))
     go_ret
     exact ⟨by first|rfl|(simp [errW_none,errW_some] <;> rfl)|(simp [*,errW_none,errW_some] <;> rfl),bG HB.out⟩
   ·rw [if_neg c2] at H
    have c2b0 := decide_eq_false c2
    clear c2
    obtain rfl := Option.some.inj H
    go_wp2
    repeat (go_quiet (fail);try go_wp2)
    go_ret
    exact ⟨by first|rfl|(simp [errW_none,errW_some] <;> rfl)|(simp [*,errW_none,errW_some] <;> rfl),bM HB.out⟩

end Go.Proofs.YtmgliocboeifdaaGreatDoor.R
