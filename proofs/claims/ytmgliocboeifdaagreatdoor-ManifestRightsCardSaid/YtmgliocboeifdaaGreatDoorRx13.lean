-- Written by hp.py, a program of this session, over the kit's print of the translation. Not trusted: Lean checks it.
import Derived.Test.YtmgliocboeifdaaGreatDoorRx0
import Derived.Test.YtmgliocboeifdaaGreatDoorRx11
import Derived.Test.YtmgliocboeifdaaGreatDoorRx12
namespace Go.Proofs.YtmgliocboeifdaaGreatDoor.R
open Go.RowKit Go.Proofs.YtmgliocboeifdaaGreatDoorW.PrintWords Go.Proofs.YtmgliocboeifdaaGreatDoorW.PrintLast Go.Proofs.YtmgliocboeifdaaGreatDoorW.PrintMore
attribute [local go_sem] max2_int min2_int max_two min_two max_three min_three max_four min_four   -- for this text's walks alone
set_option linter.unusedVariables false
set_option linter.unusedSimpArgs false

/-! ### codesearchref33_Same: function 14 -/
mutual
def codesearchref33_Same.j0 : Nat → Bool → Int → Int → Int → List Int → List Int → List ByteArray → Int → Int → Int → List Int → List Int → List ByteArray → Option (Bool)
|0,_,_,_,_,_,_,_,_,_,_,_,_,_ => none
|k + 1,x49,x333000,x333001,x333002,x333003,x333004,x333005,x334000,x334001,x334002,x334003,x334004,x334005 => if x49 = true then (some false) else (codesearchref33_Same.l0 k 0 x333000 x333001 x333002 x333003 x333004 x333005 x334000 x334001 x334002 x334003 x334004 x334005)
def codesearchref33_Same.l0 : Nat → Int → Int → Int → Int → List Int → List Int → List ByteArray → Int → Int → Int → List Int → List Int → List ByteArray → Option (Bool)
|0,_,_,_,_,_,_,_,_,_,_,_,_,_ => none
|k + 1,x5,x333000,x333001,x333002,x333003,x333004,x333005,x334000,x334001,x334002,x334003,x334004,x334005 => if x5 < (x333005.length : Int) then (if 0 ≤ x5 then (if x5 < (x334005.length : Int) then (if (rdOf ByteArray.empty x333005 x5).toList = (rdOf ByteArray.empty x334005 x5).toList then (codesearchref33_Same.l0 k (wrap64 (x5 + 1)) x333000 x333001 x333002 x333003 x333004 x333005 x334000 x334001 x334002 x334003 x334004 x334005) else (some false)) else (none)) else (none)) else (some true)
end
def codesearchref33_Same.f (k : Nat) (a0_0 : Int) (a0_1 : Int) (a0_2 : Int) (l0_3 : List Int) (l0_4 : List Int) (l0_5 : List ByteArray) (a1_0 : Int) (a1_1 : Int) (a1_2 : Int) (l1_3 : List Int) (l1_4 : List Int) (l1_5 : List ByteArray) : Option (Bool) := if a0_0 = a1_0 then (if a0_1 = a1_1 then (if a0_2 = a1_2 then ((codesearchref33_SameInts.f k l0_3 l1_3).bind fun t334 => (if t334 = true then ((codesearchref33_SameInts.f k l0_4 l1_4).bind fun t335 => (if t335 = true then (codesearchref33_Same.j0 k ((l0_5.length : Int) != (l1_5.length : Int)) a0_0 a0_1 a0_2 l0_3 l0_4 l0_5 a1_0 a1_1 a1_2 l1_3 l1_4 l1_5) else (codesearchref33_Same.j0 k true a0_0 a0_1 a0_2 l0_3 l0_4 l0_5 a1_0 a1_1 a1_2 l1_3 l1_4 l1_5))) else (codesearchref33_Same.j0 k true a0_0 a0_1 a0_2 l0_3 l0_4 l0_5 a1_0 a1_1 a1_2 l1_3 l1_4 l1_5))) else (codesearchref33_Same.j0 k true a0_0 a0_1 a0_2 l0_3 l0_4 l0_5 a1_0 a1_1 a1_2 l1_3 l1_4 l1_5)) else (codesearchref33_Same.j0 k true a0_0 a0_1 a0_2 l0_3 l0_4 l0_5 a1_0 a1_1 a1_2 l1_3 l1_4 l1_5)) else (codesearchref33_Same.j0 k true a0_0 a0_1 a0_2 l0_3 l0_4 l0_5 a1_0 a1_1 a1_2 l1_3 l1_4 l1_5)
theorem codesearchref33_Same.mono_l : ∀ k, (∀ y0 y1 y2 y3 y4 y5 y6 y7 y8 y9 y10 y11 y12, LeO (codesearchref33_Same.j0 k y0 y1 y2 y3 y4 y5 y6 y7 y8 y9 y10 y11 y12) (codesearchref33_Same.j0 (k + 1) y0 y1 y2 y3 y4 y5 y6 y7 y8 y9 y10 y11 y12)) ∧ (∀ y0 y1 y2 y3 y4 y5 y6 y7 y8 y9 y10 y11 y12, LeO (codesearchref33_Same.l0 k y0 y1 y2 y3 y4 y5 y6 y7 y8 y9 y10 y11 y12) (codesearchref33_Same.l0 (k + 1) y0 y1 y2 y3 y4 y5 y6 y7 y8 y9 y10 y11 y12))
|0 => ⟨fun _ _ _ _ _ _ _ _ _ _ _ _ _ r h => by simp [codesearchref33_Same.j0] at h,fun _ _ _ _ _ _ _ _ _ _ _ _ _ r h => by simp [codesearchref33_Same.l0] at h⟩
|k + 1 => by
  obtain ⟨ih0,ih1⟩ := codesearchref33_Same.mono_l k
  refine ⟨?_,?_⟩
  ·intro y0 y1 y2 y3 y4 y5 y6 y7 y8 y9 y10 y11 y12
   unfold codesearchref33_Same.j0
   repeat' (with_reducible first|exact ih1 _ _ _ _ _ _ _ _ _ _ _ _ _|exact LeO.refl _|exact LeO.none _|refine LeO.ite ?_ ?_|refine LeO.bind ?_ (fun _ => ?_))
  ·intro y0 y1 y2 y3 y4 y5 y6 y7 y8 y9 y10 y11 y12
   unfold codesearchref33_Same.l0
   repeat' (with_reducible first|exact ih1 _ _ _ _ _ _ _ _ _ _ _ _ _|exact LeO.refl _|exact LeO.none _|refine LeO.ite ?_ ?_|refine LeO.bind ?_ (fun _ => ?_))
theorem codesearchref33_Same.mono : ∀ a0 a1 a2 a3 a4 a5 a6 a7 a8 a9 a10 a11 k, LeO (codesearchref33_Same.f k a0 a1 a2 a3 a4 a5 a6 a7 a8 a9 a10 a11) (codesearchref33_Same.f (k + 1) a0 a1 a2 a3 a4 a5 a6 a7 a8 a9 a10 a11) := by
 intro a0 a1 a2 a3 a4 a5 a6 a7 a8 a9 a10 a11 k
 obtain ⟨ih0,ih1⟩ := codesearchref33_Same.mono_l k
 unfold codesearchref33_Same.f
 repeat' first
  |(with_reducible exact ih0 _ _ _ _ _ _ _ _ _ _ _ _ _)
  |(with_reducible exact ih1 _ _ _ _ _ _ _ _ _ _ _ _ _)
  |(with_reducible exact codesearchref33_SameInts.mono _ _ _)
  |(with_reducible exact LeO.refl _)
  |(with_reducible exact LeO.none _)
  |(with_reducible refine LeO.ite ?_ ?_)
  |(with_reducible refine LeO.bind ?_ (fun _ => ?_))
  |exact ih0 _ _ _ _ _ _ _ _ _ _ _ _ _
  |exact ih1 _ _ _ _ _ _ _ _ _ _ _ _ _
  |exact codesearchref33_SameInts.mono _ _ _
  |exact LeO.none _
  |refine LeO.ite ?_ ?_
  |refine LeO.bind ?_ (fun _ => ?_)
set_option maxHeartbeats 4000000 in
set_option maxRecDepth 100000 in
theorem codesearchref33_Same.calls (k : Nat) (a0_0 : Int) (a0_1 : Int) (a0_2 : Int) (A0_3 : Option Addr) (c0_3 : Nat) (l0_3 : List Int) (A0_4 : Option Addr) (c0_4 : Nat) (l0_4 : List Int) (A0_5 : Option Addr) (c0_5 : Nat) (l0_5 : List ByteArray) (a1_0 : Int) (a1_1 : Int) (a1_2 : Int) (A1_3 : Option Addr) (c1_3 : Nat) (l1_3 : List Int) (A1_4 : Option Addr) (c1_4 : Nat) (l1_4 : List Int) (A1_5 : Option Addr) (c1_5 : Nat) (l1_5 : List ByteArray) (r : Bool) (w : World) (hr0_3 : Kd.C (Kd.int .i64) w A0_3 l0_3.length l0_3) (hc0_3 : l0_3.length ≤ c0_3) (hr0_4 : Kd.C (Kd.int .i64) w A0_4 l0_4.length l0_4) (hc0_4 : l0_4.length ≤ c0_4) (hr0_5 : Kd.C Kd.string w A0_5 l0_5.length l0_5) (hc0_5 : l0_5.length ≤ c0_5) (hr1_3 : Kd.C (Kd.int .i64) w A1_3 l1_3.length l1_3) (hc1_3 : l1_3.length ≤ c1_3) (hr1_4 : Kd.C (Kd.int .i64) w A1_4 l1_4.length l1_4) (hc1_4 : l1_4.length ≤ c1_4) (hr1_5 : Kd.C Kd.string w A1_5 l1_5.length l1_5) (hc1_5 : l1_5.length ≤ c1_5) (h : codesearchref33_Same.f k a0_0 a0_1 a0_2 l0_3 l0_4 l0_5 a1_0 a1_1 a1_2 l1_3 l1_4 l1_5 = some r) :
  Calls Tryz.prog 14 #[.agg #[.int .i64 a0_0,.int .i64 a0_1,.int .i64 a0_2,.slice A0_3 l0_3.length c0_3,.slice A0_4 l0_4.length c0_4,.slice A0_5 l0_5.length c0_5],.agg #[.int .i64 a1_0,.int .i64 a1_1,.int .i64 a1_2,.slice A1_3 l1_3.length c1_3,.slice A1_4 l1_4.length c1_4,.slice A1_5 l1_5.length c1_5]] w fun e w' => e = .returned (.bool r) ∧ Below w.heap.size w w' := by
 have hu30 := Tryz.underlying30
 have HR0_3 := aK hr0_3
 have HC0_3 := aK hc0_3
 clear hr0_3 hc0_3
 have HR0_4 := aK hr0_4
 have HC0_4 := aK hc0_4
 clear hr0_4 hc0_4
 have HR0_5 := aK hr0_5
 have HC0_5 := aK hc0_5
 clear hr0_5 hc0_5
 have HR1_3 := aK hr1_3
 have HC1_3 := aK hc1_3
 clear hr1_3 hc1_3
 have HR1_4 := aK hr1_4
 have HC1_4 := aK hc1_4
 clear hr1_4 hc1_4
 have HR1_5 := aK hr1_5
 have HC1_5 := aK hc1_5
 clear hr1_5 hc1_5
 have HB := aK (Below.refl w.heap.size w)
 unfold codesearchref33_Same.f at h
 have H := h
 clear h
 have HC3 := aK H
 clear H
 go_enter Tryz.func14,Tryz.ntmps14
 go_upto_region 1 with (first|((with_reducible refine gate_dst (N := 2) rfl ?_);(try (refine gate_guard (by rfl) ?_;dsimp only));refine box_event ?hg (N := 2) ?hd (cs := #[.int .i64 a0_0,.int .i64 a0_1,.int .i64 a0_2,.slice A0_3 l0_3.length c0_3,.slice A0_4 l0_4.length c0_4,.slice A0_5 l0_5.length c0_5]) (t := 30) ?hr ?_;(case hd => rfl);(case hg => rfl);(case hr => first|(go_simp;done)|(go_simp;rfl));intro gb332 hg w4 hbox hb;have BK332 := aK (hbox);have GW332 := aK ((by rw [hg];exact (below_size (bM HB.out)) : w.heap.size ≤ gb332));have GJ332 := Ge.mk GW332.out;have GE332 := aK ((by rw [hg];exact (below_size (bM HB.out)) : w.heap.size ≤ gb332));have GI332 := Ge.mk GE332.out;replace HB := aK (below_step (bM HB.out) hb);clear hb hbox hg)|((with_reducible refine gate_dst (N := 3) rfl ?_);(try (refine gate_guard (by rfl) ?_;dsimp only));refine box_event ?hg (N := 3) ?hd (cs := #[.int .i64 a1_0,.int .i64 a1_1,.int .i64 a1_2,.slice A1_3 l1_3.length c1_3,.slice A1_4 l1_4.length c1_4,.slice A1_5 l1_5.length c1_5]) (t := 30) ?hr ?_;(case hd => rfl);(case hg => rfl);(case hr => first|(go_simp;done)|(go_simp;rfl));intro gb333 hg w5 hbox hb;have BK333 := aK (hbox);have GW333 := aK ((by rw [hg];exact (below_size (bG HB.out)) : w.heap.size ≤ gb333));have GJ333 := Ge.mk GW333.out;have GE333 := aK ((by rw [hg];exact (below_size (bG HB.out)) : w.heap.size ≤ gb333));have GI333 := Ge.mk GE333.out;replace HB := aK (below_step (bG HB.out) hb);have NB332_333 := aK (nbL BK332.out hg);have NB333_332 := aK (nbR BK332.out hg);replace BK332 := aK (blk_below (kM BK332.out) hb);clear hb hbox hg))
 repeat (go_quiet (first|((with_reducible refine gate_dst (N := 2) rfl ?_);(try (refine gate_guard (by rfl) ?_;dsimp only));refine box_event ?hg (N := 2) ?hd (cs := #[.int .i64 a0_0,.int .i64 a0_1,.int .i64 a0_2,.slice A0_3 l0_3.length c0_3,.slice A0_4 l0_4.length c0_4,.slice A0_5 l0_5.length c0_5]) (t := 30) ?hr ?_;(case hd => rfl);(case hg => rfl);(case hr => first|(go_simp;done)|(go_simp;rfl));intro gb332 hg w4 hbox hb;have BK332 := aK (hbox);have GW332 := aK ((by rw [hg];exact (below_size (bM HB.out)) : w.heap.size ≤ gb332));have GJ332 := Ge.mk GW332.out;have GE332 := aK ((by rw [hg];exact (below_size (bM HB.out)) : w.heap.size ≤ gb332));have GI332 := Ge.mk GE332.out;replace HB := aK (below_step (bM HB.out) hb);clear hb hbox hg)|((with_reducible refine gate_dst (N := 3) rfl ?_);(try (refine gate_guard (by rfl) ?_;dsimp only));refine box_event ?hg (N := 3) ?hd (cs := #[.int .i64 a1_0,.int .i64 a1_1,.int .i64 a1_2,.slice A1_3 l1_3.length c1_3,.slice A1_4 l1_4.length c1_4,.slice A1_5 l1_5.length c1_5]) (t := 30) ?hr ?_;(case hd => rfl);(case hg => rfl);(case hr => first|(go_simp;done)|(go_simp;rfl));intro gb333 hg w5 hbox hb;have BK333 := aK (hbox);have GW333 := aK ((by rw [hg];exact (below_size (bG HB.out)) : w.heap.size ≤ gb333));have GJ333 := Ge.mk GW333.out;have GE333 := aK ((by rw [hg];exact (below_size (bG HB.out)) : w.heap.size ≤ gb333));have GI333 := Ge.mk GE333.out;replace HB := aK (below_step (bG HB.out) hb);have NB332_333 := aK (nbL BK332.out hg);have NB333_332 := aK (nbR BK332.out hg);replace BK332 := aK (blk_below (kM BK332.out) hb);clear hb hbox hg));go_upto_region 1 with (first|((with_reducible refine gate_dst (N := 2) rfl ?_);(try (refine gate_guard (by rfl) ?_;dsimp only));refine box_event ?hg (N := 2) ?hd (cs := #[.int .i64 a0_0,.int .i64 a0_1,.int .i64 a0_2,.slice A0_3 l0_3.length c0_3,.slice A0_4 l0_4.length c0_4,.slice A0_5 l0_5.length c0_5]) (t := 30) ?hr ?_;(case hd => rfl);(case hg => rfl);(case hr => first|(go_simp;done)|(go_simp;rfl));intro gb332 hg w4 hbox hb;have BK332 := aK (hbox);have GW332 := aK ((by rw [hg];exact (below_size (bM HB.out)) : w.heap.size ≤ gb332));have GJ332 := Ge.mk GW332.out;have GE332 := aK ((by rw [hg];exact (below_size (bM HB.out)) : w.heap.size ≤ gb332));have GI332 := Ge.mk GE332.out;replace HB := aK (below_step (bM HB.out) hb);clear hb hbox hg)|((with_reducible refine gate_dst (N := 3) rfl ?_);(try (refine gate_guard (by rfl) ?_;dsimp only));refine box_event ?hg (N := 3) ?hd (cs := #[.int .i64 a1_0,.int .i64 a1_1,.int .i64 a1_2,.slice A1_3 l1_3.length c1_3,.slice A1_4 l1_4.length c1_4,.slice A1_5 l1_5.length c1_5]) (t := 30) ?hr ?_;(case hd => rfl);(case hg => rfl);(case hr => first|(go_simp;done)|(go_simp;rfl));intro gb333 hg w5 hbox hb;have BK333 := aK (hbox);have GW333 := aK ((by rw [hg];exact (below_size (bG HB.out)) : w.heap.size ≤ gb333));have GJ333 := Ge.mk GW333.out;have GE333 := aK ((by rw [hg];exact (below_size (bG HB.out)) : w.heap.size ≤ gb333));have GI333 := Ge.mk GE333.out;replace HB := aK (below_step (bG HB.out) hb);have NB332_333 := aK (nbL BK332.out hg);have NB333_332 := aK (nbR BK332.out hg);replace BK332 := aK (blk_below (kM BK332.out) hb);clear hb hbox hg)))
 (try simp only [Act.put,List.setIfInBounds_toArray,List.set_cons_zero,List.set_cons_succ])
 go_cut [49] (fun v49 wc => ∃ (kq : Nat) (x49_2 : Bool),v49 = .bool x49_2 ∧ Aside0 (codesearchref33_Same.j0 kq x49_2 a0_0 a0_1 a0_2 l0_3 l0_4 l0_5 a1_0 a1_1 a1_2 l1_3 l1_4 l1_5 = some r) ∧ Aside0 (kq ≤ k) ∧ Aside0 (wc.heap[gb332]? = some (.cells #[.int .i64 a0_0,.int .i64 a0_1,.int .i64 a0_2,(.slice A0_3 l0_3.length c0_3),(.slice A0_4 l0_4.length c0_4),(.slice A0_5 l0_5.length c0_5)] 30 (0,0))) ∧ Aside0 (wc.heap[gb333]? = some (.cells #[.int .i64 a1_0,.int .i64 a1_1,.int .i64 a1_2,(.slice A1_3 l1_3.length c1_3),(.slice A1_4 l1_4.length c1_4),(.slice A1_5 l1_5.length c1_5)] 30 (0,0))) ∧ Aside0 (Below w.heap.size w wc))
 case first =>
  have H := HC3.out
  clear HC3
  by_cases c6 : a0_0 = a1_0
  ·rw [if_pos c6] at H
   have c6b0 := beq_iff_eq.mpr c6
   have c6b1 := bne_eq_false_iff_eq.mpr c6
   clear c6
   (first|rw [c6b0]|(simp only [i64_w,i32_w];rw [c6b0])|rw [c6b1]|skip)
   by_cases c7 : a0_1 = a1_1
   ·rw [if_pos c7] at H
    have c7b0 := beq_iff_eq.mpr c7
    have c7b1 := bne_eq_false_iff_eq.mpr c7
    clear c7
    by_cases c8 : a0_2 = a1_2
    ·rw [if_pos c8] at H
     have c8b0 := beq_iff_eq.mpr c8
     have c8b1 := bne_eq_false_iff_eq.mpr c8
     clear c8
     replace H := Option.bind_eq_some_iff.mp H
     obtain ⟨t334,A90,H⟩ := H
     have A9 := aK A90
     clear A90
     by_cases c10 : t334 = true
     ·subst c10
      rw [if_pos rfl] at H
      replace H := Option.bind_eq_some_iff.mp H
      obtain ⟨t335,A110,H⟩ := H
      have A11 := aK A110
      clear A110
      by_cases c12 : t335 = true
      ·subst c12
       rw [if_pos rfl] at H
       have H' := aK H
       clear H
       have hnb13 := NB332_333.out
       have hnc13 := NB333_332.out
       obtain ⟨_,_,_,_,_,_,_,_,_,_,_,_⟩ := bk6_ BK332.out
       obtain ⟨_,_,_,_,_,_,_,_,_,_,_,_⟩ := bk6_ BK333.out
       go_wp2_with (first|(go_at_call 21;(with_reducible refine (codesearchref33_SameInts.calls k _ _ l0_3 _ _ l1_3 true _ ?side1 ?side2 ?side3 ?side4 A9.out).mono ?_);(case side1 => exact cM (Kd.C_below HR0_3.out HB.out));(case side2 => exact HC0_3.out);(case side3 => exact cM (Kd.C_below HR1_3.out HB.out));(case side4 => exact HC1_3.out);rintro e w' ⟨rfl,⟨nd,rfl⟩⟩;(try first|exact ⟨rfl,_,World.drewN_drewN _ _ _⟩|exact ⟨rfl,_,Eq.trans (World.drewN_drewN _ _ _) (congrArg (World.drewN _) (Nat.add_assoc _ _ _))⟩))|(go_at_call 21;(with_reducible refine (codesearchref33_SameInts.calls k _ _ l0_4 _ _ l1_4 true _ ?side1 ?side2 ?side3 ?side4 A11.out).mono ?_);(case side1 => exact Kd.C_below HR0_4.out (bG HB.out));(case side2 => exact HC0_4.out);(case side3 => exact Kd.C_below HR1_4.out (bG HB.out));(case side4 => exact HC1_4.out);rintro e w' ⟨rfl,⟨nd,rfl⟩⟩;(try first|exact ⟨rfl,_,World.drewN_drewN _ _ _⟩|exact ⟨rfl,_,Eq.trans (World.drewN_drewN _ _ _) (congrArg (World.drewN _) (Nat.add_assoc _ _ _))⟩)))
       repeat (go_quiet (first|(go_at_call 21;(with_reducible refine (codesearchref33_SameInts.calls k _ _ l0_3 _ _ l1_3 true _ ?side1 ?side2 ?side3 ?side4 A9.out).mono ?_);(case side1 => exact cM (Kd.C_below HR0_3.out HB.out));(case side2 => exact HC0_3.out);(case side3 => exact cM (Kd.C_below HR1_3.out HB.out));(case side4 => exact HC1_3.out);rintro e w' ⟨rfl,⟨nd,rfl⟩⟩;(try first|exact ⟨rfl,_,World.drewN_drewN _ _ _⟩|exact ⟨rfl,_,Eq.trans (World.drewN_drewN _ _ _) (congrArg (World.drewN _) (Nat.add_assoc _ _ _))⟩))|(go_at_call 21;(with_reducible refine (codesearchref33_SameInts.calls k _ _ l0_4 _ _ l1_4 true _ ?side1 ?side2 ?side3 ?side4 A11.out).mono ?_);(case side1 => exact Kd.C_below HR0_4.out (bG HB.out));(case side2 => exact HC0_4.out);(case side3 => exact Kd.C_below HR1_4.out (bG HB.out));(case side4 => exact HC1_4.out);rintro e w' ⟨rfl,⟨nd,rfl⟩⟩;(try first|exact ⟨rfl,_,World.drewN_drewN _ _ _⟩|exact ⟨rfl,_,Eq.trans (World.drewN_drewN _ _ _) (congrArg (World.drewN _) (Nat.add_assoc _ _ _))⟩)));try go_wp2_with (first|(go_at_call 21;(with_reducible refine (codesearchref33_SameInts.calls k _ _ l0_3 _ _ l1_3 true _ ?side1 ?side2 ?side3 ?side4 A9.out).mono ?_);(case side1 => exact cM (Kd.C_below HR0_3.out HB.out));(case side2 => exact HC0_3.out);(case side3 => exact cM (Kd.C_below HR1_3.out HB.out));(case side4 => exact HC1_3.out);rintro e w' ⟨rfl,⟨nd,rfl⟩⟩;(try first|exact ⟨rfl,_,World.drewN_drewN _ _ _⟩|exact ⟨rfl,_,Eq.trans (World.drewN_drewN _ _ _) (congrArg (World.drewN _) (Nat.add_assoc _ _ _))⟩))|(go_at_call 21;(with_reducible refine (codesearchref33_SameInts.calls k _ _ l0_4 _ _ l1_4 true _ ?side1 ?side2 ?side3 ?side4 A11.out).mono ?_);(case side1 => exact Kd.C_below HR0_4.out (bG HB.out));(case side2 => exact HC0_4.out);(case side3 => exact Kd.C_below HR1_4.out (bG HB.out));(case side4 => exact HC1_4.out);rintro e w' ⟨rfl,⟨nd,rfl⟩⟩;(try first|exact ⟨rfl,_,World.drewN_drewN _ _ _⟩|exact ⟨rfl,_,Eq.trans (World.drewN_drewN _ _ _) (congrArg (World.drewN _) (Nat.add_assoc _ _ _))⟩))))
       go_meet
       case rel => exact ⟨_,(((l0_5.length : Int) != (l1_5.length : Int))),(by first|rfl|(simp;done)|(simp [*];done)),H',⟨by first|omega|exact Nat.le_refl _⟩,⟨kM BK332.out⟩,⟨kM BK333.out⟩,⟨bG HB.out⟩⟩
      ·replace c12 := Bool.eq_false_iff.mpr c12
       subst c12
       rw [if_neg (show ¬ (false = true) by decide)] at H
       have H' := aK H
       clear H
       have hnb16 := NB332_333.out
       have hnc16 := NB333_332.out
       obtain ⟨_,_,_,_,_,_,_,_,_,_,_,_⟩ := bk6_ BK332.out
       obtain ⟨_,_,_,_,_,_,_,_,_,_,_,_⟩ := bk6_ BK333.out
       go_wp2_with (first|(go_at_call 21;(with_reducible refine (codesearchref33_SameInts.calls k _ _ l0_3 _ _ l1_3 true _ ?side1 ?side2 ?side3 ?side4 A9.out).mono ?_);(case side1 => exact cM (Kd.C_below HR0_3.out HB.out));(case side2 => exact HC0_3.out);(case side3 => exact cM (Kd.C_below HR1_3.out HB.out));(case side4 => exact HC1_3.out);rintro e w' ⟨rfl,⟨nd,rfl⟩⟩;(try first|exact ⟨rfl,_,World.drewN_drewN _ _ _⟩|exact ⟨rfl,_,Eq.trans (World.drewN_drewN _ _ _) (congrArg (World.drewN _) (Nat.add_assoc _ _ _))⟩))|(go_at_call 21;(with_reducible refine (codesearchref33_SameInts.calls k _ _ l0_4 _ _ l1_4 false _ ?side1 ?side2 ?side3 ?side4 A11.out).mono ?_);(case side1 => exact Kd.C_below HR0_4.out (bG HB.out));(case side2 => exact HC0_4.out);(case side3 => exact Kd.C_below HR1_4.out (bG HB.out));(case side4 => exact HC1_4.out);rintro e w' ⟨rfl,⟨nd,rfl⟩⟩;(try first|exact ⟨rfl,_,World.drewN_drewN _ _ _⟩|exact ⟨rfl,_,Eq.trans (World.drewN_drewN _ _ _) (congrArg (World.drewN _) (Nat.add_assoc _ _ _))⟩)))
       repeat (go_quiet (first|(go_at_call 21;(with_reducible refine (codesearchref33_SameInts.calls k _ _ l0_3 _ _ l1_3 true _ ?side1 ?side2 ?side3 ?side4 A9.out).mono ?_);(case side1 => exact cM (Kd.C_below HR0_3.out HB.out));(case side2 => exact HC0_3.out);(case side3 => exact cM (Kd.C_below HR1_3.out HB.out));(case side4 => exact HC1_3.out);rintro e w' ⟨rfl,⟨nd,rfl⟩⟩;(try first|exact ⟨rfl,_,World.drewN_drewN _ _ _⟩|exact ⟨rfl,_,Eq.trans (World.drewN_drewN _ _ _) (congrArg (World.drewN _) (Nat.add_assoc _ _ _))⟩))|(go_at_call 21;(with_reducible refine (codesearchref33_SameInts.calls k _ _ l0_4 _ _ l1_4 false _ ?side1 ?side2 ?side3 ?side4 A11.out).mono ?_);(case side1 => exact Kd.C_below HR0_4.out (bG HB.out));(case side2 => exact HC0_4.out);(case side3 => exact Kd.C_below HR1_4.out (bG HB.out));(case side4 => exact HC1_4.out);rintro e w' ⟨rfl,⟨nd,rfl⟩⟩;(try first|exact ⟨rfl,_,World.drewN_drewN _ _ _⟩|exact ⟨rfl,_,Eq.trans (World.drewN_drewN _ _ _) (congrArg (World.drewN _) (Nat.add_assoc _ _ _))⟩)));try go_wp2_with (first|(go_at_call 21;(with_reducible refine (codesearchref33_SameInts.calls k _ _ l0_3 _ _ l1_3 true _ ?side1 ?side2 ?side3 ?side4 A9.out).mono ?_);(case side1 => exact cM (Kd.C_below HR0_3.out HB.out));(case side2 => exact HC0_3.out);(case side3 => exact cM (Kd.C_below HR1_3.out HB.out));(case side4 => exact HC1_3.out);rintro e w' ⟨rfl,⟨nd,rfl⟩⟩;(try first|exact ⟨rfl,_,World.drewN_drewN _ _ _⟩|exact ⟨rfl,_,Eq.trans (World.drewN_drewN _ _ _) (congrArg (World.drewN _) (Nat.add_assoc _ _ _))⟩))|(go_at_call 21;(with_reducible refine (codesearchref33_SameInts.calls k _ _ l0_4 _ _ l1_4 false _ ?side1 ?side2 ?side3 ?side4 A11.out).mono ?_);(case side1 => exact Kd.C_below HR0_4.out (bG HB.out));(case side2 => exact HC0_4.out);(case side3 => exact Kd.C_below HR1_4.out (bG HB.out));(case side4 => exact HC1_4.out);rintro e w' ⟨rfl,⟨nd,rfl⟩⟩;(try first|exact ⟨rfl,_,World.drewN_drewN _ _ _⟩|exact ⟨rfl,_,Eq.trans (World.drewN_drewN _ _ _) (congrArg (World.drewN _) (Nat.add_assoc _ _ _))⟩))))
       go_meet
       case rel => exact ⟨_,(true),(by first|rfl|(simp;done)|(simp [*];done)),H',⟨by first|omega|exact Nat.le_refl _⟩,⟨kM BK332.out⟩,⟨kM BK333.out⟩,⟨bG HB.out⟩⟩
     ·replace c10 := Bool.eq_false_iff.mpr c10
      subst c10
      rw [if_neg (show ¬ (false = true) by decide)] at H
      have H' := aK H
      clear H
      have hnb19 := NB332_333.out
      have hnc19 := NB333_332.out
      obtain ⟨_,_,_,_,_,_,_,_,_,_,_,_⟩ := bk6_ BK332.out
      obtain ⟨_,_,_,_,_,_,_,_,_,_,_,_⟩ := bk6_ BK333.out
      go_wp2_with (first|(go_at_call 21;(with_reducible refine (codesearchref33_SameInts.calls k _ _ l0_3 _ _ l1_3 false _ ?side1 ?side2 ?side3 ?side4 A9.out).mono ?_);(case side1 => exact cM (Kd.C_below HR0_3.out HB.out));(case side2 => exact HC0_3.out);(case side3 => exact cM (Kd.C_below HR1_3.out HB.out));(case side4 => exact HC1_3.out);rintro e w' ⟨rfl,⟨nd,rfl⟩⟩;(try first|exact ⟨rfl,_,World.drewN_drewN _ _ _⟩|exact ⟨rfl,_,Eq.trans (World.drewN_drewN _ _ _) (congrArg (World.drewN _) (Nat.add_assoc _ _ _))⟩)))
      repeat (go_quiet (first|(go_at_call 21;(with_reducible refine (codesearchref33_SameInts.calls k _ _ l0_3 _ _ l1_3 false _ ?side1 ?side2 ?side3 ?side4 A9.out).mono ?_);(case side1 => exact cM (Kd.C_below HR0_3.out HB.out));(case side2 => exact HC0_3.out);(case side3 => exact cM (Kd.C_below HR1_3.out HB.out));(case side4 => exact HC1_3.out);rintro e w' ⟨rfl,⟨nd,rfl⟩⟩;(try first|exact ⟨rfl,_,World.drewN_drewN _ _ _⟩|exact ⟨rfl,_,Eq.trans (World.drewN_drewN _ _ _) (congrArg (World.drewN _) (Nat.add_assoc _ _ _))⟩)));try go_wp2_with (first|(go_at_call 21;(with_reducible refine (codesearchref33_SameInts.calls k _ _ l0_3 _ _ l1_3 false _ ?side1 ?side2 ?side3 ?side4 A9.out).mono ?_);(case side1 => exact cM (Kd.C_below HR0_3.out HB.out));(case side2 => exact HC0_3.out);(case side3 => exact cM (Kd.C_below HR1_3.out HB.out));(case side4 => exact HC1_3.out);rintro e w' ⟨rfl,⟨nd,rfl⟩⟩;(try first|exact ⟨rfl,_,World.drewN_drewN _ _ _⟩|exact ⟨rfl,_,Eq.trans (World.drewN_drewN _ _ _) (congrArg (World.drewN _) (Nat.add_assoc _ _ _))⟩))))
      go_meet
      case rel => exact ⟨_,(true),(by first|rfl|(simp;done)|(simp [*];done)),H',⟨by first|omega|exact Nat.le_refl _⟩,⟨kM BK332.out⟩,⟨kM BK333.out⟩,⟨bG HB.out⟩⟩
    ·rw [if_neg c8] at H
     have c8b0 := beq_eq_false_iff_ne.mpr c8
     have c8b1 := bne_iff_ne.mpr c8
     have H' := aK H
     clear H
     have hnb22 := NB332_333.out
     have hnc22 := NB333_332.out
     obtain ⟨_,_,_,_,_,_,_,_,_,_,_,_⟩ := bk6_ BK332.out
     obtain ⟨_,_,_,_,_,_,_,_,_,_,_,_⟩ := bk6_ BK333.out
     go_wp2
     repeat (go_quiet (fail);try go_wp2)
     go_meet
     case rel => exact ⟨_,(true),(by first|rfl|(simp;done)|(simp [*];done)),H',⟨by first|omega|exact Nat.le_refl _⟩,⟨kM BK332.out⟩,⟨kM BK333.out⟩,⟨bG HB.out⟩⟩
   ·rw [if_neg c7] at H
    have c7b0 := beq_eq_false_iff_ne.mpr c7
    have c7b1 := bne_iff_ne.mpr c7
    have H' := aK H
    clear H
    have hnb25 := NB332_333.out
    have hnc25 := NB333_332.out
    obtain ⟨_,_,_,_,_,_,_,_,_,_,_,_⟩ := bk6_ BK332.out
    obtain ⟨_,_,_,_,_,_,_,_,_,_,_,_⟩ := bk6_ BK333.out
    go_wp2
    repeat (go_quiet (fail);try go_wp2)
    go_meet
    case rel => exact ⟨_,(true),(by first|rfl|(simp;done)|(simp [*];done)),H',⟨by first|omega|exact Nat.le_refl _⟩,⟨kM BK332.out⟩,⟨kM BK333.out⟩,⟨bG HB.out⟩⟩
  ·rw [if_neg c6] at H
   have c6b0 := beq_eq_false_iff_ne.mpr c6
   have c6b1 := bne_iff_ne.mpr c6
   (first|rw [c6b0]|(simp only [i64_w,i32_w];rw [c6b0])|rw [c6b1]|skip)
   have H' := aK H
   clear H
   have hnb28 := NB332_333.out
   have hnc28 := NB333_332.out
   obtain ⟨_,_,_,_,_,_,_,_,_,_,_,_⟩ := bk6_ BK332.out
   obtain ⟨_,_,_,_,_,_,_,_,_,_,_,_⟩ := bk6_ BK333.out
   go_wp2
   repeat (go_quiet (fail);try go_wp2)
   go_meet
   case rel => exact ⟨_,(true),(by first|rfl|(simp;done)|(simp [*];done)),H',⟨by first|omega|exact Nat.le_refl _⟩,⟨kM BK332.out⟩,⟨kM BK333.out⟩,⟨bG HB.out⟩⟩
 case rest =>
  clear HC3
  try clear p2
  obtain ⟨kq,x49_2,rfl,HA,HJ2,BK332,BK333,HB⟩ := hcut
  cases kq with
 |zero => exact absurd HA.out (by simp [codesearchref33_Same.j0])
 |succ kj2 =>
   have H := HA.out
   clear HA
   simp only [codesearchref33_Same.j0] at H
   by_cases c31 : x49_2 = true
   ·subst c31
    rw [if_pos rfl] at H
    obtain rfl := Option.some.inj H
    go_wp2
    repeat (go_quiet (fail);try go_wp2)
    go_ret
    exact ⟨by first|rfl|(simp [errW_none,errW_some] <;> rfl)|(simp [*,errW_none,errW_some] <;> rfl),bG HB.out⟩
   ·replace c31 := Bool.eq_false_iff.mpr c31
    subst c31
    rw [if_neg (show ¬ (false = true) by decide)] at H
    have H' := aK H
    clear H
    go_wp2
    repeat (go_quiet (fail);try go_wp2)
    go_loopg [5] kj2 (fun kq v5 w' => ∃ (x5_2 : Int),v5 = .int .i64 x5_2 ∧ Aside0 (codesearchref33_Same.l0 kq x5_2 a0_0 a0_1 a0_2 l0_3 l0_4 l0_5 a1_0 a1_1 a1_2 l1_3 l1_4 l1_5 = some r) ∧ Aside0 (kq ≤ kj2) ∧ Aside0 (w'.heap[gb332]? = some (.cells #[.int .i64 a0_0,.int .i64 a0_1,.int .i64 a0_2,(.slice A0_3 l0_3.length c0_3),(.slice A0_4 l0_4.length c0_4),(.slice A0_5 l0_5.length c0_5)] 30 (0,0))) ∧ Aside0 (w'.heap[gb333]? = some (.cells #[.int .i64 a1_0,.int .i64 a1_1,.int .i64 a1_2,(.slice A1_3 l1_3.length c1_3),(.slice A1_4 l1_4.length c1_4),(.slice A1_5 l1_5.length c1_5)] 30 (0,0))) ∧ Aside0 (Below w.heap.size w w'))
    case atStart => exact ⟨(0),(by first|rfl|(simp;done)|(simp [*];done)),H',⟨Nat.le_refl _⟩,⟨kM BK332.out⟩,⟨kM BK333.out⟩,⟨bG HB.out⟩⟩
    case round =>
     clear H'
     try clear p2
     try clear c31
     try clear p2
     obtain ⟨x5_2,rfl,HA,HK2,BK332,BK333,HB⟩ := hrel
     cases gk with
    |zero => exact absurd HA.out (by simp [codesearchref33_Same.l0])
    |succ k2 =>
      have H := HA.out
      clear HA
      simp only [codesearchref33_Same.l0] at H
      by_cases c32 : x5_2 < (l0_5.length : Int)
      ·rw [if_pos c32] at H
       have c32b0 := decide_eq_true c32
       clear c32
       obtain ⟨c33,H⟩ := iS H
       have c33b0 := decide_eq_true c33
       clear c33
       obtain ⟨c34,H⟩ := iS H
       have c34b0 := decide_eq_true c34
       clear c34
       by_cases c35 : (rdOf ByteArray.empty l0_5 x5_2).toList = (rdOf ByteArray.empty l1_5 x5_2).toList
       ·rw [if_pos c35] at H
        have c35b0 := beq_iff_eq.mpr c35
        have c35b1 := bne_eq_false_iff_eq.mpr c35
        clear c35
        have H' := aK H
        clear H
        have hnb36 := NB332_333.out
        have hnc36 := NB333_332.out
        obtain ⟨_,_,_,_,_,_,_,_,_,_,_,_⟩ := bk6_ BK332.out
        have p336 : 0 ≤ (x5_2 : Int) := of_decide_eq_true (by assumption)
        have q336 : x5_2 < (l0_5.length : Int) := of_decide_eq_true (by assumption)
        obtain ⟨ad336,e336,hx336_0⟩ := Kd.at_string HR0_5.out x5_2 p336 q336
        cases e336
        replace hx336_0 := xM HB hx336_0
        replace p336 := eq_true p336
        replace q336 := eq_true q336
        obtain ⟨_,_,_,_,_,_,_,_,_,_,_,_⟩ := bk6_ BK333.out
        have p337 : 0 ≤ (x5_2 : Int) := of_decide_eq_true (by assumption)
        have q337 : x5_2 < (l1_5.length : Int) := of_decide_eq_true (by assumption)
        obtain ⟨ad337,e337,hx337_0⟩ := Kd.at_string HR1_5.out x5_2 p337 q337
        cases e337
        replace hx337_0 := xM HB hx337_0
        replace p337 := eq_true p337
        replace q337 := eq_true q337
        go_wp2
        repeat (go_quiet (fail);try go_wp2)
        go_roundg k2
        case measure => have := HJ2.out;have := HK2.out;omega
        case rel => exact ⟨(wrap64 (x5_2 + 1)),(by first|rfl|(simp;done)|(simp [*];done)),H',⟨by have := HJ2.out;have := HK2.out;omega⟩,⟨kM BK332.out⟩,⟨kM BK333.out⟩,⟨bG HB.out⟩⟩
       ·rw [if_neg c35] at H
        have c35b0 := beq_eq_false_iff_ne.mpr c35
        have c35b1 := bne_iff_ne.mpr c35
        obtain rfl := Option.some.inj H
        have hnb39 := NB332_333.out
        have hnc39 := NB333_332.out
        obtain ⟨_,_,_,_,_,_,_,_,_,_,_,_⟩ := bk6_ BK332.out
        have p336 : 0 ≤ (x5_2 : Int) := of_decide_eq_true (by assumption)
        have q336 : x5_2 < (l0_5.length : Int) := of_decide_eq_true (by assumption)
        obtain ⟨ad336,e336,hx336_0⟩ := Kd.at_string HR0_5.out x5_2 p336 q336
        cases e336
        replace hx336_0 := xM HB hx336_0
        replace p336 := eq_true p336
        replace q336 := eq_true q336
        obtain ⟨_,_,_,_,_,_,_,_,_,_,_,_⟩ := bk6_ BK333.out
        have p337 : 0 ≤ (x5_2 : Int) := of_decide_eq_true (by assumption)
        have q337 : x5_2 < (l1_5.length : Int) := of_decide_eq_true (by assumption)
        obtain ⟨ad337,e337,hx337_0⟩ := Kd.at_string HR1_5.out x5_2 p337 q337
        cases e337
        replace hx337_0 := xM HB hx337_0
        replace p337 := eq_true p337
        replace q337 := eq_true q337
        go_wp2
        repeat (go_quiet (fail);try go_wp2)
        go_ret
        exact ⟨by first|rfl|(simp [errW_none,errW_some] <;> rfl)|(simp [*,errW_none,errW_some] <;> rfl),bG HB.out⟩
      ·rw [if_neg c32] at H
       have c32b0 := decide_eq_false c32
       clear c32
       obtain rfl := Option.some.inj H
       have hnb42 := NB332_333.out
       have hnc42 := NB333_332.out
       obtain ⟨_,_,_,_,_,_,_,_,_,_,_,_⟩ := bk6_ BK332.out
       go_wp2
       repeat (go_quiet (fail);try go_wp2)
       go_ret
       exact ⟨by first|rfl|(simp [errW_none,errW_some] <;> rfl)|(simp [*,errW_none,errW_some] <;> rfl),bG HB.out⟩

end Go.Proofs.YtmgliocboeifdaaGreatDoor.R
