-- Written by hp.py, a program of this session, over the kit's print of the translation. Not trusted: Lean checks it.
import Derived.Test.YtmgliocboeifdaaDoorTx0
import Derived.Test.YtmgliocboeifdaaDoorTx6
import Derived.Test.YtmgliocboeifdaaDoorTx12
import Derived.Test.YtmgliocboeifdaaDoorTx13
namespace Go.Proofs.YtmgliocboeifdaaDoor.T
open Go.RowKit Go.Proofs.YtmgliocboeifdaaDoorW.PrintWords Go.Proofs.YtmgliocboeifdaaDoorW.PrintLast Go.Proofs.YtmgliocboeifdaaDoorW.PrintMore
attribute [local go_sem] max2_int min2_int max_two min_two max_three min_three max_four min_four   -- for this text's walks alone
set_option linter.unusedVariables false
set_option linter.unusedSimpArgs false

/-! ### manifest_check: function 41 -/
mutual
def manifest_check.j0 : Nat → Bool → List Int → List Int → Int → Int → Int → Int → List Int → List Int → List ByteArray → Option (Int)
|0,_,_,_,_,_,_,_,_,_,_ => none
|k + 1,x7,x351000,x351001,x351002,x352000,x352001,x352002,x352003,x352004,x352005 => if x7 = true then (manifest_check.j1 k (decide (x352002 ≤ x351002)) x351000 x351001 x351002 x352000 x352001 x352002 x352003 x352004 x352005) else (manifest_check.j1 k false x351000 x351001 x351002 x352000 x352001 x352002 x352003 x352004 x352005)
def manifest_check.j1 : Nat → Bool → List Int → List Int → Int → Int → Int → Int → List Int → List Int → List ByteArray → Option (Int)
|0,_,_,_,_,_,_,_,_,_,_ => none
|k + 1,x34,x351000,x351001,x351002,x352000,x352001,x352002,x352003,x352004,x352005 => if x34 = true then (some 7) else (manifest_check.l0 k x352004 (x352004.length : Int) 0 x351000 x351001 x351002 x352000 x352001 x352002 x352003 x352004 x352005)
def manifest_check.l0 : Nat → List Int → Int → Int → List Int → List Int → Int → Int → Int → Int → List Int → List Int → List ByteArray → Option (Int)
|0,_,_,_,_,_,_,_,_,_,_,_,_ => none
|k + 1,x36,x37,x38,x351000,x351001,x351002,x352000,x352001,x352002,x352003,x352004,x352005 => if x38 < x37 then (if 0 ≤ x38 then (if x38 < (x36.length : Int) then ((slices_Contains_int_int.f k x351000 (rd x36 x38)).bind fun t354 => (if t354 = true then (manifest_check.l0 k x36 x37 (wrap64 (x38 + 1)) x351000 x351001 x351002 x352000 x352001 x352002 x352003 x352004 x352005) else (some 8))) else (none)) else (none)) else (if x352001 = 2 then (if (x352003.length : Int) = 0 then (some 1) else (if x352001 = 3 then (if (x352004.length : Int) = 0 then (some 1) else (some 0)) else (some 0))) else (if x352001 = 4 then (if (x352003.length : Int) = 0 then (some 1) else (if x352001 = 3 then (if (x352004.length : Int) = 0 then (some 1) else (some 0)) else (some 0))) else (if x352001 = 3 then (if (x352004.length : Int) = 0 then (some 1) else (some 0)) else (some 0))))
end
def manifest_check.f (k : Nat) (l0_0 : List Int) (l0_1 : List Int) (a0_2 : Int) (a1 : Int) (a2_0 : Int) (a2_1 : Int) (a2_2 : Int) (l2_3 : List Int) (l2_4 : List Int) (l2_5 : List ByteArray) : Option (Int) := if a2_0 = (wrap64 (a1 + 1)) then ((manifest_fields.f k a2_0 a2_1 a2_2 l2_3 l2_4 l2_5).bind fun t352 => (if t352 = true then (if a2_1 = 1 then (manifest_check.j0 k true l0_0 l0_1 a0_2 a2_0 a2_1 a2_2 l2_3 l2_4 l2_5) else (manifest_check.j0 k (a2_1 == 3) l0_0 l0_1 a0_2 a2_0 a2_1 a2_2 l2_3 l2_4 l2_5)) else (some 1))) else (some 2)
theorem manifest_check.mono_l : ∀ k, (∀ y0 y1 y2 y3 y4 y5 y6 y7 y8 y9, LeO (manifest_check.j0 k y0 y1 y2 y3 y4 y5 y6 y7 y8 y9) (manifest_check.j0 (k + 1) y0 y1 y2 y3 y4 y5 y6 y7 y8 y9)) ∧ (∀ y0 y1 y2 y3 y4 y5 y6 y7 y8 y9, LeO (manifest_check.j1 k y0 y1 y2 y3 y4 y5 y6 y7 y8 y9) (manifest_check.j1 (k + 1) y0 y1 y2 y3 y4 y5 y6 y7 y8 y9)) ∧ (∀ y0 y1 y2 y3 y4 y5 y6 y7 y8 y9 y10 y11, LeO (manifest_check.l0 k y0 y1 y2 y3 y4 y5 y6 y7 y8 y9 y10 y11) (manifest_check.l0 (k + 1) y0 y1 y2 y3 y4 y5 y6 y7 y8 y9 y10 y11))
|0 => ⟨fun _ _ _ _ _ _ _ _ _ _ r h => by simp [manifest_check.j0] at h,fun _ _ _ _ _ _ _ _ _ _ r h => by simp [manifest_check.j1] at h,fun _ _ _ _ _ _ _ _ _ _ _ _ r h => by simp [manifest_check.l0] at h⟩
|k + 1 => by
  obtain ⟨ih0,ih1,ih2⟩ := manifest_check.mono_l k
  refine ⟨?_,?_,?_⟩
  ·intro y0 y1 y2 y3 y4 y5 y6 y7 y8 y9
   unfold manifest_check.j0
   repeat' (with_reducible first|exact ih1 _ _ _ _ _ _ _ _ _ _|exact LeO.refl _|exact LeO.none _|refine LeO.ite ?_ ?_|refine LeO.bind ?_ (fun _ => ?_))
  ·intro y0 y1 y2 y3 y4 y5 y6 y7 y8 y9
   unfold manifest_check.j1
   repeat' (with_reducible first|exact ih2 _ _ _ _ _ _ _ _ _ _ _ _|exact LeO.refl _|exact LeO.none _|refine LeO.ite ?_ ?_|refine LeO.bind ?_ (fun _ => ?_))
  ·intro y0 y1 y2 y3 y4 y5 y6 y7 y8 y9 y10 y11
   unfold manifest_check.l0
   repeat' (with_reducible first|exact ih2 _ _ _ _ _ _ _ _ _ _ _ _|exact slices_Contains_int_int.mono _ _ _|exact LeO.refl _|exact LeO.none _|refine LeO.ite ?_ ?_|refine LeO.bind ?_ (fun _ => ?_))
theorem manifest_check.mono : ∀ a0 a1 a2 a3 a4 a5 a6 a7 a8 a9 k, LeO (manifest_check.f k a0 a1 a2 a3 a4 a5 a6 a7 a8 a9) (manifest_check.f (k + 1) a0 a1 a2 a3 a4 a5 a6 a7 a8 a9) := by
 intro a0 a1 a2 a3 a4 a5 a6 a7 a8 a9 k
 obtain ⟨ih0,ih1,ih2⟩ := manifest_check.mono_l k
 unfold manifest_check.f
 repeat' first
  |(with_reducible exact ih0 _ _ _ _ _ _ _ _ _ _)
  |(with_reducible exact ih1 _ _ _ _ _ _ _ _ _ _)
  |(with_reducible exact ih2 _ _ _ _ _ _ _ _ _ _ _ _)
  |(with_reducible exact manifest_fields.mono _ _ _ _ _ _ _)
  |(with_reducible exact slices_Contains_int_int.mono _ _ _)
  |(with_reducible exact LeO.refl _)
  |(with_reducible exact LeO.none _)
  |(with_reducible refine LeO.ite ?_ ?_)
  |(with_reducible refine LeO.bind ?_ (fun _ => ?_))
  |exact ih0 _ _ _ _ _ _ _ _ _ _
  |exact ih1 _ _ _ _ _ _ _ _ _ _
  |exact ih2 _ _ _ _ _ _ _ _ _ _ _ _
  |exact manifest_fields.mono _ _ _ _ _ _ _
  |exact slices_Contains_int_int.mono _ _ _
  |exact LeO.none _
  |refine LeO.ite ?_ ?_
  |refine LeO.bind ?_ (fun _ => ?_)
set_option maxHeartbeats 4000000 in
set_option maxRecDepth 100000 in
theorem manifest_check.calls (k : Nat) (A0_0 : Option Addr) (c0_0 : Nat) (l0_0 : List Int) (A0_1 : Option Addr) (c0_1 : Nat) (l0_1 : List Int) (a0_2 : Int) (a1 : Int) (a2_0 : Int) (a2_1 : Int) (a2_2 : Int) (A2_3 : Option Addr) (c2_3 : Nat) (l2_3 : List Int) (A2_4 : Option Addr) (c2_4 : Nat) (l2_4 : List Int) (A2_5 : Option Addr) (c2_5 : Nat) (l2_5 : List ByteArray) (r : Int) (w : World) (hr0_0 : Kd.C (Kd.int .i64) w A0_0 l0_0.length l0_0) (hc0_0 : l0_0.length ≤ c0_0) (hr0_1 : Kd.C (Kd.int .i64) w A0_1 l0_1.length l0_1) (hc0_1 : l0_1.length ≤ c0_1) (hr2_3 : Kd.C (Kd.int .i64) w A2_3 l2_3.length l2_3) (hc2_3 : l2_3.length ≤ c2_3) (hr2_4 : Kd.C (Kd.int .i64) w A2_4 l2_4.length l2_4) (hc2_4 : l2_4.length ≤ c2_4) (hr2_5 : Kd.C Kd.string w A2_5 l2_5.length l2_5) (hc2_5 : l2_5.length ≤ c2_5) (h : manifest_check.f k l0_0 l0_1 a0_2 a1 a2_0 a2_1 a2_2 l2_3 l2_4 l2_5 = some r) :
  Calls Tryd.prog 41 #[.agg #[.slice A0_0 l0_0.length c0_0,.slice A0_1 l0_1.length c0_1,.int .i64 a0_2],.int .i64 a1,.agg #[.int .i64 a2_0,.int .i64 a2_1,.int .i64 a2_2,.slice A2_3 l2_3.length c2_3,.slice A2_4 l2_4.length c2_4,.slice A2_5 l2_5.length c2_5]] w fun e w' => e = .returned (.int .i64 r) ∧ Below w.heap.size w w' := by
 have hu48 := Tryd.underlying48
 have hu37 := Tryd.underlying37
 have HR0_0 := aK hr0_0
 have HC0_0 := aK hc0_0
 clear hr0_0 hc0_0
 have HR0_1 := aK hr0_1
 have HC0_1 := aK hc0_1
 clear hr0_1 hc0_1
 have HR2_3 := aK hr2_3
 have HC2_3 := aK hc2_3
 clear hr2_3 hc2_3
 have HR2_4 := aK hr2_4
 have HC2_4 := aK hc2_4
 clear hr2_4 hc2_4
 have HR2_5 := aK hr2_5
 have HC2_5 := aK hc2_5
 clear hr2_5 hc2_5
 have HB := aK (Below.refl w.heap.size w)
 unfold manifest_check.f at h
 have H := h
 clear h
 by_cases c4 : a2_0 = (wrap64 (a1 + 1))
 ·rw [if_pos c4] at H
  have c4b0 := beq_iff_eq.mpr c4
  have c4b1 := bne_eq_false_iff_eq.mpr c4
  clear c4
  replace H := Option.bind_eq_some_iff.mp H
  obtain ⟨t352,A50,H⟩ := H
  have A5 := aK A50
  clear A50
  by_cases c6 : t352 = true
  ·subst c6
   rw [if_pos rfl] at H
   have HC7 := aK H
   clear H
   go_enter Tryd.func41,Tryd.ntmps41
   go_upto_region 5 with (first|((with_reducible refine gate_dst (N := 3) rfl ?_);(try (refine gate_guard (by rfl) ?_;dsimp only));refine box_event ?hg (N := 3) ?hd (cs := #[.slice A0_0 l0_0.length c0_0,.slice A0_1 l0_1.length c0_1,.int .i64 a0_2]) (t := 48) ?hr ?_;(case hd => rfl);(case hg => rfl);(case hr => first|(go_simp;done)|(go_simp;rfl));intro gb350 hg w8 hbox hb;have BK350 := aK (hbox);have GW350 := aK ((by rw [hg];exact (below_size (bM HB.out)) : w.heap.size ≤ gb350));have GJ350 := Ge.mk GW350.out;have GE350 := aK ((by rw [hg];exact (below_size (bM HB.out)) : w.heap.size ≤ gb350));have GI350 := Ge.mk GE350.out;replace HB := aK (below_step (bM HB.out) hb);clear hb hbox hg)|((with_reducible refine gate_dst (N := 5) rfl ?_);(try (refine gate_guard (by rfl) ?_;dsimp only));refine box_event ?hg (N := 5) ?hd (cs := #[.int .i64 a2_0,.int .i64 a2_1,.int .i64 a2_2,.slice A2_3 l2_3.length c2_3,.slice A2_4 l2_4.length c2_4,.slice A2_5 l2_5.length c2_5]) (t := 37) ?hr ?_;(case hd => rfl);(case hg => rfl);(case hr => first|(go_simp;done)|(go_simp;rfl));intro gb351 hg w9 hbox hb;have BK351 := aK (hbox);have GW351 := aK ((by rw [hg];exact (below_size (bG HB.out)) : w.heap.size ≤ gb351));have GJ351 := Ge.mk GW351.out;have GE351 := aK ((by rw [hg];exact (below_size (bG HB.out)) : w.heap.size ≤ gb351));have GI351 := Ge.mk GE351.out;replace HB := aK (below_step (bG HB.out) hb);have NB350_351 := aK (nbL BK350.out hg);have NB351_350 := aK (nbR BK350.out hg);replace BK350 := aK (blk_below (kM BK350.out) hb);clear hb hbox hg;have hnb10 := NB351_350.out;have hnc10 := NB350_351.out;obtain ⟨hcz11_0,hcz11_1,hcz11_2,hcz11_3,hcz11_4,hcz11_5,hfz11_0,hfz11_1,hfz11_2,hfz11_3,hfz11_4,hfz11_5⟩ := bk6_ BK351.out)|((with_reducible refine gate_callee (f := 47) rfl ?_);refine goesL_ (some 17) rfl rfl Tryd.func47 (by kernel_rfl) rfl #[.agg #[.int .i64 a2_0,.int .i64 a2_1,.int .i64 a2_2,.slice A2_3 l2_3.length c2_3,.slice A2_4 l2_4.length c2_4,.slice A2_5 l2_5.length c2_5]] rfl (by (try simp only [List.map_toArray,List.map_cons,List.map_nil]);first|done|rfl|(simp only [List.length_drop,List.length_take];rfl)) ?_;(with_reducible refine (manifest_fields.calls k a2_0 a2_1 a2_2 _ _ l2_3 _ _ l2_4 _ _ l2_5 true _ ?side1 ?side2 ?side3 ?side4 ?side5 ?side6 A5.out).mono ?_);(case side1 => exact cM (Kd.C_below HR2_3.out HB.out));(case side2 => exact HC2_3.out);(case side3 => exact cM (Kd.C_below HR2_4.out HB.out));(case side4 => exact HC2_4.out);(case side5 => exact cM (Kd.C_below HR2_5.out HB.out));(case side6 => exact HC2_5.out);rintro e w12 ⟨rfl,hb⟩;refine ⟨_,rfl,?_⟩;replace BK350 := aK (blk_below (kM BK350.out) hb);replace BK351 := aK (blk_below (kM BK351.out) hb);replace HB := aK (below_step (bG HB.out) hb);(try clear hb)))
   (try simp only [Act.put,List.setIfInBounds_toArray,List.set_cons_zero,List.set_cons_succ])
   go_cut [7] (fun v7 wc => ∃ (kq : Nat) (x7_6 : Bool),v7 = .bool x7_6 ∧ Aside0 (manifest_check.j0 kq x7_6 l0_0 l0_1 a0_2 a2_0 a2_1 a2_2 l2_3 l2_4 l2_5 = some r) ∧ Aside0 (kq ≤ k) ∧ Aside0 (wc.heap[gb350]? = some (.cells #[(.slice A0_0 l0_0.length c0_0),(.slice A0_1 l0_1.length c0_1),.int .i64 a0_2] 48 (0,0))) ∧ Aside0 (wc.heap[gb351]? = some (.cells #[.int .i64 a2_0,.int .i64 a2_1,.int .i64 a2_2,(.slice A2_3 l2_3.length c2_3),(.slice A2_4 l2_4.length c2_4),(.slice A2_5 l2_5.length c2_5)] 37 (0,0))) ∧ Aside0 (Below w.heap.size w wc))
   case first =>
    have H := HC7.out
    clear HC7
    by_cases c13 : a2_1 = 1
    ·rw [if_pos c13] at H
     have c13b0 := beq_iff_eq.mpr c13
     have c13b1 := bne_eq_false_iff_eq.mpr c13
     clear c13
     (first|rw [c13b0]|(simp only [i64_w,i32_w];rw [c13b0])|rw [c13b1]|skip)
     have H' := aK H
     clear H
     have hnb14 := NB351_350.out
     have hnc14 := NB350_351.out
     obtain ⟨_,_,_,_,_,_,_,_,_,_,_,_⟩ := bk6_ BK351.out
     go_wp2
     go_meet
     case rel => exact ⟨_,(true),(by first|rfl|(simp;done)|(simp [*];done)),H',⟨by first|omega|exact Nat.le_refl _⟩,⟨kM BK350.out⟩,⟨kM BK351.out⟩,⟨bG HB.out⟩⟩
    ·rw [if_neg c13] at H
     have c13b0 := beq_eq_false_iff_ne.mpr c13
     have c13b1 := bne_iff_ne.mpr c13
     (first|rw [c13b0]|(simp only [i64_w,i32_w];rw [c13b0])|rw [c13b1]|skip)
     have H' := aK H
     clear H
     have hnb16 := NB351_350.out
     have hnc16 := NB350_351.out
     obtain ⟨_,_,_,_,_,_,_,_,_,_,_,_⟩ := bk6_ BK351.out
     go_wp2
     go_meet
     case rel => exact ⟨_,((a2_1 == 3)),(by first|rfl|(simp;done)|(simp [*];done)),H',⟨by first|omega|exact Nat.le_refl _⟩,⟨kM BK350.out⟩,⟨kM BK351.out⟩,⟨bG HB.out⟩⟩
   case rest =>
    clear HC7
    try clear p2
    try clear c4
    try clear c4b0
    try clear c4b1
    try clear c6
    try clear p6
    try clear hcz11_0
    try clear hcz11_1
    try clear hcz11_2
    try clear hcz11_3
    try clear hcz11_4
    try clear hcz11_5
    try clear hfz11_0
    try clear hfz11_1
    try clear hfz11_2
    try clear hfz11_3
    try clear hfz11_4
    try clear hfz11_5
    obtain ⟨kq,x7_6,rfl,HA,HJ6,BK350,BK351,HB⟩ := hcut
    cases kq with
   |zero => exact absurd HA.out (by simp [manifest_check.j0])
   |succ kj6 =>
     have H := HA.out
     clear HA
     simp only [manifest_check.j0] at H
     have HC18 := aK H
     clear H
     go_upto_region 6 with (fail)
     go_cut [34] (fun v34 wc => ∃ (kq : Nat) (x34_17 : Bool),v34 = .bool x34_17 ∧ Aside0 (manifest_check.j1 kq x34_17 l0_0 l0_1 a0_2 a2_0 a2_1 a2_2 l2_3 l2_4 l2_5 = some r) ∧ Aside0 (kq ≤ kj6) ∧ Aside0 (wc.heap[gb350]? = some (.cells #[(.slice A0_0 l0_0.length c0_0),(.slice A0_1 l0_1.length c0_1),.int .i64 a0_2] 48 (0,0))) ∧ Aside0 (wc.heap[gb351]? = some (.cells #[.int .i64 a2_0,.int .i64 a2_1,.int .i64 a2_2,(.slice A2_3 l2_3.length c2_3),(.slice A2_4 l2_4.length c2_4),(.slice A2_5 l2_5.length c2_5)] 37 (0,0))) ∧ Aside0 (Below w.heap.size w wc))
     case first =>
      have H := HC18.out
      clear HC18
      by_cases c19 : x7_6 = true
      ·subst c19
       rw [if_pos rfl] at H
       have H' := aK H
       clear H
       have hnb20 := NB351_350.out
       have hnc20 := NB350_351.out
       obtain ⟨_,_,_,_,_,_,_,_,_,_,_,_⟩ := bk6_ BK351.out
       obtain ⟨_,_,_,_,_,_⟩ := bk3_ BK350.out
       go_wp2
       go_meet
       case rel => exact ⟨_,(decide (a2_2 ≤ a0_2)),(by first|rfl|(simp;done)|(simp [*];done)),H',⟨by have := HJ6.out;first|omega|exact Nat.le_refl _⟩,⟨kM BK350.out⟩,⟨kM BK351.out⟩,⟨bG HB.out⟩⟩
      ·replace c19 := Bool.eq_false_iff.mpr c19
       subst c19
       rw [if_neg (show ¬ (false = true) by decide)] at H
       have H' := aK H
       clear H
       go_wp2
       go_meet
       case rel => exact ⟨_,(false),(by first|rfl|(simp;done)|(simp [*];done)),H',⟨by have := HJ6.out;first|omega|exact Nat.le_refl _⟩,⟨kM BK350.out⟩,⟨kM BK351.out⟩,⟨bG HB.out⟩⟩
     case rest =>
      clear HC18
      try clear p2
      try clear p6
      try clear p2
      try clear p6
      obtain ⟨kq,x34_17,rfl,HA,HJ17,BK350,BK351,HB⟩ := hcut
      cases kq with
     |zero => exact absurd HA.out (by simp [manifest_check.j1])
     |succ kj17 =>
       have H := HA.out
       clear HA
       simp only [manifest_check.j1] at H
       by_cases c23 : x34_17 = true
       ·subst c23
        rw [if_pos rfl] at H
        obtain rfl := Option.some.inj H
        go_wp2
        go_ret
        exact ⟨by first|rfl|(simp [errW_none,errW_some] <;> rfl)|(simp [*,errW_none,errW_some] <;> rfl),bG HB.out⟩
       ·replace c23 := Bool.eq_false_iff.mpr c23
        subst c23
        rw [if_neg (show ¬ (false = true) by decide)] at H
        have H' := aK H
        clear H
        have hnb24 := NB351_350.out
        have hnc24 := NB350_351.out
        obtain ⟨hcz25_0,hcz25_1,hcz25_2,hcz25_3,hcz25_4,hcz25_5,hfz25_0,hfz25_1,hfz25_2,hfz25_3,hfz25_4,hfz25_5⟩ := bk6_ BK351.out
        go_wp2
        go_loopg [38] kj17 (fun kq v38 w' => ∃ (x38_3 : Int),v38 = .int .i64 x38_3 ∧ Aside0 (manifest_check.l0 kq l2_4 (l2_4.length : Int) x38_3 l0_0 l0_1 a0_2 a2_0 a2_1 a2_2 l2_3 l2_4 l2_5 = some r) ∧ Aside0 (kq ≤ kj17) ∧ Aside0 (w'.heap[gb350]? = some (.cells #[(.slice A0_0 l0_0.length c0_0),(.slice A0_1 l0_1.length c0_1),.int .i64 a0_2] 48 (0,0))) ∧ Aside0 (w'.heap[gb351]? = some (.cells #[.int .i64 a2_0,.int .i64 a2_1,.int .i64 a2_2,(.slice A2_3 l2_3.length c2_3),(.slice A2_4 l2_4.length c2_4),(.slice A2_5 l2_5.length c2_5)] 37 (0,0))) ∧ Aside0 (Below w.heap.size w w'))
        case atStart => exact ⟨(0),(by first|rfl|(simp;done)|(simp [*];done)),H',⟨Nat.le_refl _⟩,⟨kM BK350.out⟩,⟨kM BK351.out⟩,⟨bG HB.out⟩⟩
        case round =>
         clear H'
         try clear p2
         try clear p6
         try clear c23
         try clear hcz25_0
         try clear hcz25_1
         try clear hcz25_2
         try clear hcz25_3
         try clear hcz25_4
         try clear hcz25_5
         try clear hfz25_0
         try clear hfz25_1
         try clear hfz25_2
         try clear hfz25_3
         try clear hfz25_4
         try clear hfz25_5
         try clear p2
         try clear p6
         obtain ⟨x38_3,rfl,HA,HK3,BK350,BK351,HB⟩ := hrel
         cases gk with
        |zero => exact absurd HA.out (by simp [manifest_check.l0])
        |succ k3 =>
          have H := HA.out
          clear HA
          simp only [manifest_check.l0] at H
          by_cases c26 : x38_3 < (l2_4.length : Int)
          ·rw [if_pos c26] at H
           have c26b0 := decide_eq_true c26
           clear c26
           obtain ⟨c27,H⟩ := iS H
           have c27b0 := decide_eq_true c27
           clear c27
           obtain ⟨c28,H⟩ := iS H
           have c28b0 := decide_eq_true c28
           clear c28
           replace H := Option.bind_eq_some_iff.mp H
           obtain ⟨t354,A290,H⟩ := H
           have A29 := aK A290
           clear A290
           by_cases c30 : t354 = true
           ·subst c30
            rw [if_pos rfl] at H
            have H' := aK H
            clear H
            have p353 : 0 ≤ (x38_3 : Int) := of_decide_eq_true (by assumption)
            have q353 : x38_3 < (l2_4.length : Int) := of_decide_eq_true (by assumption)
            obtain ⟨ad353,e353,hx353_0⟩ := Kd.at_int HR2_4.out x38_3 p353 q353
            cases e353
            replace hx353_0 := xM HB hx353_0
            replace p353 := eq_true p353
            replace q353 := eq_true q353
            have hnb31 := NB350_351.out
            have hnc31 := NB351_350.out
            obtain ⟨_,_,_,_,_,_⟩ := bk3_ BK350.out
            go_wp2_with (first|((with_reducible refine gate_callee (f := 48) rfl ?_);refine goesL_ (some 45) rfl rfl Tryd.func48 (by kernel_rfl) rfl #[.slice A0_0 l0_0.length c0_0,.int .i64 (rd l2_4 x38_3)] rfl (by (try simp only [List.map_toArray,List.map_cons,List.map_nil]);first|done|rfl|(simp only [List.length_drop,List.length_take];rfl)) ?_;(with_reducible refine (slices_Contains_int_int.calls k3 _ _ l0_0 (rd l2_4 x38_3) true _ ?side1 ?side2 A29.out).mono ?_);(case side1 => exact cM (Kd.C_below HR0_0.out HB.out));(case side2 => exact HC0_0.out);rintro e w' ⟨rfl,⟨nd,rfl⟩⟩;refine ⟨_,rfl,?_⟩))
            go_roundg k3
            case measure => have := HJ6.out;have := HJ17.out;have := HK3.out;omega
            case rel => exact ⟨(wrap64 (x38_3 + 1)),(by first|rfl|(simp;done)|(simp [*];done)),H',⟨by have := HJ6.out;have := HJ17.out;have := HK3.out;omega⟩,⟨kM BK350.out⟩,⟨kM BK351.out⟩,⟨bG HB.out⟩⟩
           ·replace c30 := Bool.eq_false_iff.mpr c30
            subst c30
            rw [if_neg (show ¬ (false = true) by decide)] at H
            obtain rfl := Option.some.inj H
            have p353 : 0 ≤ (x38_3 : Int) := of_decide_eq_true (by assumption)
            have q353 : x38_3 < (l2_4.length : Int) := of_decide_eq_true (by assumption)
            obtain ⟨ad353,e353,hx353_0⟩ := Kd.at_int HR2_4.out x38_3 p353 q353
            cases e353
            replace hx353_0 := xM HB hx353_0
            replace p353 := eq_true p353
            replace q353 := eq_true q353
            have hnb33 := NB350_351.out
            have hnc33 := NB351_350.out
            obtain ⟨_,_,_,_,_,_⟩ := bk3_ BK350.out
            go_wp2_with (first|((with_reducible refine gate_callee (f := 48) rfl ?_);refine goesL_ (some 45) rfl rfl Tryd.func48 (by kernel_rfl) rfl #[.slice A0_0 l0_0.length c0_0,.int .i64 (rd l2_4 x38_3)] rfl (by (try simp only [List.map_toArray,List.map_cons,List.map_nil]);first|done|rfl|(simp only [List.length_drop,List.length_take];rfl)) ?_;(with_reducible refine (slices_Contains_int_int.calls k3 _ _ l0_0 (rd l2_4 x38_3) false _ ?side1 ?side2 A29.out).mono ?_);(case side1 => exact cM (Kd.C_below HR0_0.out HB.out));(case side2 => exact HC0_0.out);rintro e w' ⟨rfl,⟨nd,rfl⟩⟩;refine ⟨_,rfl,?_⟩))
            go_ret
            exact ⟨by first|rfl|(simp [errW_none,errW_some] <;> rfl)|(simp [*,errW_none,errW_some] <;> rfl),bG HB.out⟩
          ·rw [if_neg c26] at H
           have c26b0 := decide_eq_false c26
           clear c26
           by_cases c35 : a2_1 = 2
           ·rw [if_pos c35] at H
            have c35b0 := beq_iff_eq.mpr c35
            have c35b1 := bne_eq_false_iff_eq.mpr c35
            clear c35
            by_cases c36 : (l2_3.length : Int) = 0
            ·rw [if_pos c36] at H
             have c36b0 := beq_iff_eq.mpr c36
             have c36b1 := bne_eq_false_iff_eq.mpr c36
             clear c36
             obtain rfl := Option.some.inj H
             have hnb37 := NB351_350.out
             have hnc37 := NB350_351.out
             obtain ⟨_,_,_,_,_,_,_,_,_,_,_,_⟩ := bk6_ BK351.out
             go_wp2
             go_ret
             exact ⟨by first|rfl|(simp [errW_none,errW_some] <;> rfl)|(simp [*,errW_none,errW_some] <;> rfl),bG HB.out⟩
            ·rw [if_neg c36] at H
             have c36b0 := beq_eq_false_iff_ne.mpr c36
             have c36b1 := bne_iff_ne.mpr c36
             have c36b2 : ¬ (l2_3 = []) := fun h_ => c36 (by rw [h_];rfl)
             by_cases c39 : a2_1 = 3
             ·rw [if_pos c39] at H
              have c39b0 := beq_iff_eq.mpr c39
              have c39b1 := bne_eq_false_iff_eq.mpr c39
              clear c39
              by_cases c40 : (l2_4.length : Int) = 0
              ·rw [if_pos c40] at H
               have c40b0 := beq_iff_eq.mpr c40
               have c40b1 := bne_eq_false_iff_eq.mpr c40
               clear c40
               obtain rfl := Option.some.inj H
               have hnb41 := NB351_350.out
               have hnc41 := NB350_351.out
               obtain ⟨_,_,_,_,_,_,_,_,_,_,_,_⟩ := bk6_ BK351.out
               go_wp2
               go_ret
               exact ⟨by first|rfl|(simp [errW_none,errW_some] <;> rfl)|(simp [*,errW_none,errW_some] <;> rfl),bG HB.out⟩
              ·rw [if_neg c40] at H
               have c40b0 := beq_eq_false_iff_ne.mpr c40
               have c40b1 := bne_iff_ne.mpr c40
               have c40b2 : ¬ (l2_4 = []) := fun h_ => c40 (by rw [h_];rfl)
               obtain rfl := Option.some.inj H
               have hnb43 := NB351_350.out
               have hnc43 := NB350_351.out
               obtain ⟨_,_,_,_,_,_,_,_,_,_,_,_⟩ := bk6_ BK351.out
               go_wp2
               go_ret
               exact ⟨by first|rfl|(simp [errW_none,errW_some] <;> rfl)|(simp [*,errW_none,errW_some] <;> rfl),bG HB.out⟩
             ·rw [if_neg c39] at H
              have c39b0 := beq_eq_false_iff_ne.mpr c39
              have c39b1 := bne_iff_ne.mpr c39
              obtain rfl := Option.some.inj H
              have hnb45 := NB351_350.out
              have hnc45 := NB350_351.out
              obtain ⟨_,_,_,_,_,_,_,_,_,_,_,_⟩ := bk6_ BK351.out
              go_wp2
              go_ret
              exact ⟨by first|rfl|(simp [errW_none,errW_some] <;> rfl)|(simp [*,errW_none,errW_some] <;> rfl),bG HB.out⟩
           ·rw [if_neg c35] at H
            have c35b0 := beq_eq_false_iff_ne.mpr c35
            have c35b1 := bne_iff_ne.mpr c35
            by_cases c47 : a2_1 = 4
            ·rw [if_pos c47] at H
             have c47b0 := beq_iff_eq.mpr c47
             have c47b1 := bne_eq_false_iff_eq.mpr c47
             clear c47
             by_cases c48 : (l2_3.length : Int) = 0
             ·rw [if_pos c48] at H
              have c48b0 := beq_iff_eq.mpr c48
              have c48b1 := bne_eq_false_iff_eq.mpr c48
              clear c48
              obtain rfl := Option.some.inj H
              have hnb49 := NB351_350.out
              have hnc49 := NB350_351.out
              obtain ⟨_,_,_,_,_,_,_,_,_,_,_,_⟩ := bk6_ BK351.out
              go_wp2
              go_ret
              exact ⟨by first|rfl|(simp [errW_none,errW_some] <;> rfl)|(simp [*,errW_none,errW_some] <;> rfl),bG HB.out⟩
             ·rw [if_neg c48] at H
              have c48b0 := beq_eq_false_iff_ne.mpr c48
              have c48b1 := bne_iff_ne.mpr c48
              have c48b2 : ¬ (l2_3 = []) := fun h_ => c48 (by rw [h_];rfl)
              by_cases c51 : a2_1 = 3
              ·rw [if_pos c51] at H
               have c51b0 := beq_iff_eq.mpr c51
               have c51b1 := bne_eq_false_iff_eq.mpr c51
               clear c51
               by_cases c52 : (l2_4.length : Int) = 0
               ·rw [if_pos c52] at H
                have c52b0 := beq_iff_eq.mpr c52
                have c52b1 := bne_eq_false_iff_eq.mpr c52
                clear c52
                obtain rfl := Option.some.inj H
                have hnb53 := NB351_350.out
                have hnc53 := NB350_351.out
                obtain ⟨_,_,_,_,_,_,_,_,_,_,_,_⟩ := bk6_ BK351.out
                go_wp2
                go_ret
                exact ⟨by first|rfl|(simp [errW_none,errW_some] <;> rfl)|(simp [*,errW_none,errW_some] <;> rfl),bG HB.out⟩
               ·rw [if_neg c52] at H
                have c52b0 := beq_eq_false_iff_ne.mpr c52
                have c52b1 := bne_iff_ne.mpr c52
                have c52b2 : ¬ (l2_4 = []) := fun h_ => c52 (by rw [h_];rfl)
                obtain rfl := Option.some.inj H
                have hnb55 := NB351_350.out
                have hnc55 := NB350_351.out
                obtain ⟨_,_,_,_,_,_,_,_,_,_,_,_⟩ := bk6_ BK351.out
                go_wp2
                go_ret
                exact ⟨by first|rfl|(simp [errW_none,errW_some] <;> rfl)|(simp [*,errW_none,errW_some] <;> rfl),bG HB.out⟩
              ·rw [if_neg c51] at H
               have c51b0 := beq_eq_false_iff_ne.mpr c51
               have c51b1 := bne_iff_ne.mpr c51
               obtain rfl := Option.some.inj H
               have hnb57 := NB351_350.out
               have hnc57 := NB350_351.out
               obtain ⟨_,_,_,_,_,_,_,_,_,_,_,_⟩ := bk6_ BK351.out
               go_wp2
               go_ret
               exact ⟨by first|rfl|(simp [errW_none,errW_some] <;> rfl)|(simp [*,errW_none,errW_some] <;> rfl),bG HB.out⟩
            ·rw [if_neg c47] at H
             have c47b0 := beq_eq_false_iff_ne.mpr c47
             have c47b1 := bne_iff_ne.mpr c47
             by_cases c59 : a2_1 = 3
             ·rw [if_pos c59] at H
              have c59b0 := beq_iff_eq.mpr c59
              have c59b1 := bne_eq_false_iff_eq.mpr c59
              clear c59
              by_cases c60 : (l2_4.length : Int) = 0
              ·rw [if_pos c60] at H
               have c60b0 := beq_iff_eq.mpr c60
               have c60b1 := bne_eq_false_iff_eq.mpr c60
               clear c60
               obtain rfl := Option.some.inj H
               have hnb61 := NB351_350.out
               have hnc61 := NB350_351.out
               obtain ⟨_,_,_,_,_,_,_,_,_,_,_,_⟩ := bk6_ BK351.out
               go_wp2
               go_ret
               exact ⟨by first|rfl|(simp [errW_none,errW_some] <;> rfl)|(simp [*,errW_none,errW_some] <;> rfl),bG HB.out⟩
              ·rw [if_neg c60] at H
               have c60b0 := beq_eq_false_iff_ne.mpr c60
               have c60b1 := bne_iff_ne.mpr c60
               have c60b2 : ¬ (l2_4 = []) := fun h_ => c60 (by rw [h_];rfl)
               obtain rfl := Option.some.inj H
               have hnb63 := NB351_350.out
               have hnc63 := NB350_351.out
               obtain ⟨_,_,_,_,_,_,_,_,_,_,_,_⟩ := bk6_ BK351.out
               go_wp2
               go_ret
               exact ⟨by first|rfl|(simp [errW_none,errW_some] <;> rfl)|(simp [*,errW_none,errW_some] <;> rfl),bG HB.out⟩
             ·rw [if_neg c59] at H
              have c59b0 := beq_eq_false_iff_ne.mpr c59
              have c59b1 := bne_iff_ne.mpr c59
              obtain rfl := Option.some.inj H
              have hnb65 := NB351_350.out
              have hnc65 := NB350_351.out
              obtain ⟨_,_,_,_,_,_,_,_,_,_,_,_⟩ := bk6_ BK351.out
              go_wp2
              go_ret
              exact ⟨by first|rfl|(simp [errW_none,errW_some] <;> rfl)|(simp [*,errW_none,errW_some] <;> rfl),bG HB.out⟩
  ·replace c6 := Bool.eq_false_iff.mpr c6
   subst c6
   rw [if_neg (show ¬ (false = true) by decide)] at H
   obtain rfl := Option.some.inj H
   go_enter Tryd.func41,Tryd.ntmps41
   go_wp2_with (first|((with_reducible refine gate_dst (N := 3) rfl ?_);(try (refine gate_guard (by rfl) ?_;dsimp only));refine box_event ?hg (N := 3) ?hd (cs := #[.slice A0_0 l0_0.length c0_0,.slice A0_1 l0_1.length c0_1,.int .i64 a0_2]) (t := 48) ?hr ?_;(case hd => rfl);(case hg => rfl);(case hr => first|(go_simp;done)|(go_simp;rfl));intro gb350 hg w67 hbox hb;have BK350 := aK (hbox);have GW350 := aK ((by rw [hg];exact (below_size (bM HB.out)) : w.heap.size ≤ gb350));have GJ350 := Ge.mk GW350.out;have GE350 := aK ((by rw [hg];exact (below_size (bM HB.out)) : w.heap.size ≤ gb350));have GI350 := Ge.mk GE350.out;replace HB := aK (below_step (bM HB.out) hb);clear hb hbox hg)|((with_reducible refine gate_dst (N := 5) rfl ?_);(try (refine gate_guard (by rfl) ?_;dsimp only));refine box_event ?hg (N := 5) ?hd (cs := #[.int .i64 a2_0,.int .i64 a2_1,.int .i64 a2_2,.slice A2_3 l2_3.length c2_3,.slice A2_4 l2_4.length c2_4,.slice A2_5 l2_5.length c2_5]) (t := 37) ?hr ?_;(case hd => rfl);(case hg => rfl);(case hr => first|(go_simp;done)|(go_simp;rfl));intro gb351 hg w68 hbox hb;have BK351 := aK (hbox);have GW351 := aK ((by rw [hg];exact (below_size (bG HB.out)) : w.heap.size ≤ gb351));have GJ351 := Ge.mk GW351.out;have GE351 := aK ((by rw [hg];exact (below_size (bG HB.out)) : w.heap.size ≤ gb351));have GI351 := Ge.mk GE351.out;replace HB := aK (below_step (bG HB.out) hb);have NB350_351 := aK (nbL BK350.out hg);have NB351_350 := aK (nbR BK350.out hg);replace BK350 := aK (blk_below (kM BK350.out) hb);clear hb hbox hg;have hnb69 := NB351_350.out;have hnc69 := NB350_351.out;obtain ⟨_,_,_,_,_,_,_,_,_,_,_,_⟩ := bk6_ BK351.out)|((with_reducible refine gate_callee (f := 47) rfl ?_);refine goesL_ (some 17) rfl rfl Tryd.func47 (by kernel_rfl) rfl #[.agg #[.int .i64 a2_0,.int .i64 a2_1,.int .i64 a2_2,.slice A2_3 l2_3.length c2_3,.slice A2_4 l2_4.length c2_4,.slice A2_5 l2_5.length c2_5]] rfl (by (try simp only [List.map_toArray,List.map_cons,List.map_nil]);first|done|rfl|(simp only [List.length_drop,List.length_take];rfl)) ?_;(with_reducible refine (manifest_fields.calls k a2_0 a2_1 a2_2 _ _ l2_3 _ _ l2_4 _ _ l2_5 false _ ?side1 ?side2 ?side3 ?side4 ?side5 ?side6 A5.out).mono ?_);(case side1 => exact cM (Kd.C_below HR2_3.out HB.out));(case side2 => exact HC2_3.out);(case side3 => exact cM (Kd.C_below HR2_4.out HB.out));(case side4 => exact HC2_4.out);(case side5 => exact cM (Kd.C_below HR2_5.out HB.out));(case side6 => exact HC2_5.out);rintro e w71 ⟨rfl,hb⟩;refine ⟨_,rfl,?_⟩;replace BK350 := aK (blk_below (kM BK350.out) hb);replace BK351 := aK (blk_below (kM BK351.out) hb);replace HB := aK (below_step (bG HB.out) hb);(try clear hb)))
   go_ret
   exact ⟨by first|rfl|(simp [errW_none,errW_some] <;> rfl)|(simp [*,errW_none,errW_some] <;> rfl),bG HB.out⟩
 ·rw [if_neg c4] at H
  have c4b0 := beq_eq_false_iff_ne.mpr c4
  have c4b1 := bne_iff_ne.mpr c4
  obtain rfl := Option.some.inj H
  go_enter Tryd.func41,Tryd.ntmps41
  go_wp2_with (first|((with_reducible refine gate_dst (N := 3) rfl ?_);(try (refine gate_guard (by rfl) ?_;dsimp only));refine box_event ?hg (N := 3) ?hd (cs := #[.slice A0_0 l0_0.length c0_0,.slice A0_1 l0_1.length c0_1,.int .i64 a0_2]) (t := 48) ?hr ?_;(case hd => rfl);(case hg => rfl);(case hr => first|(go_simp;done)|(go_simp;rfl));intro gb350 hg w72 hbox hb;have BK350 := aK (hbox);have GW350 := aK ((by rw [hg];exact (below_size (bM HB.out)) : w.heap.size ≤ gb350));have GJ350 := Ge.mk GW350.out;have GE350 := aK ((by rw [hg];exact (below_size (bM HB.out)) : w.heap.size ≤ gb350));have GI350 := Ge.mk GE350.out;replace HB := aK (below_step (bM HB.out) hb);clear hb hbox hg)|((with_reducible refine gate_dst (N := 5) rfl ?_);(try (refine gate_guard (by rfl) ?_;dsimp only));refine box_event ?hg (N := 5) ?hd (cs := #[.int .i64 a2_0,.int .i64 a2_1,.int .i64 a2_2,.slice A2_3 l2_3.length c2_3,.slice A2_4 l2_4.length c2_4,.slice A2_5 l2_5.length c2_5]) (t := 37) ?hr ?_;(case hd => rfl);(case hg => rfl);(case hr => first|(go_simp;done)|(go_simp;rfl));intro gb351 hg w73 hbox hb;have BK351 := aK (hbox);have GW351 := aK ((by rw [hg];exact (below_size (bG HB.out)) : w.heap.size ≤ gb351));have GJ351 := Ge.mk GW351.out;have GE351 := aK ((by rw [hg];exact (below_size (bG HB.out)) : w.heap.size ≤ gb351));have GI351 := Ge.mk GE351.out;replace HB := aK (below_step (bG HB.out) hb);have NB350_351 := aK (nbL BK350.out hg);have NB351_350 := aK (nbR BK350.out hg);clear hb hbox hg;have hnb74 := NB351_350.out;have hnc74 := NB350_351.out;obtain ⟨_,_,_,_,_,_,_,_,_,_,_,_⟩ := bk6_ BK351.out))
  go_ret
  exact ⟨by first|rfl|(simp [errW_none,errW_some] <;> rfl)|(simp [*,errW_none,errW_some] <;> rfl),bG HB.out⟩

end Go.Proofs.YtmgliocboeifdaaDoor.T
