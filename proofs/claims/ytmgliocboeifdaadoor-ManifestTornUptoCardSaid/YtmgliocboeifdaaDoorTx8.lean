-- Written by hp.py, a program of this session, over the kit's print of the translation. Not trusted: Lean checks it.
import Derived.Test.YtmgliocboeifdaaDoorTx0
import Derived.Test.YtmgliocboeifdaaDoorTx2
import Derived.Test.YtmgliocboeifdaaDoorTx6
namespace Go.Proofs.YtmgliocboeifdaaDoor.T
open Go.RowKit Go.Proofs.YtmgliocboeifdaaDoorW.PrintWords Go.Proofs.YtmgliocboeifdaaDoorW.PrintLast Go.Proofs.YtmgliocboeifdaaDoorW.PrintMore
attribute [local go_sem] max2_int min2_int max_two min_two max_three min_three max_four min_four   -- for this text's walks alone
set_option linter.unusedVariables false
set_option linter.unusedSimpArgs false

/-! ### codesearchref33_Same: function 20 -/
mutual
def codesearchref33_Same.j0 : Nat → Bool → Int → Int → Int → List Int → List Int → List ByteArray → Int → Int → Int → List Int → List Int → List ByteArray → Option (Bool)
|0,_,_,_,_,_,_,_,_,_,_,_,_,_ => none
|k + 1,x49,x304000,x304001,x304002,x304003,x304004,x304005,x305000,x305001,x305002,x305003,x305004,x305005 => if x49 = true then (some false) else (codesearchref33_Same.l0 k 0 x304000 x304001 x304002 x304003 x304004 x304005 x305000 x305001 x305002 x305003 x305004 x305005)
def codesearchref33_Same.l0 : Nat → Int → Int → Int → Int → List Int → List Int → List ByteArray → Int → Int → Int → List Int → List Int → List ByteArray → Option (Bool)
|0,_,_,_,_,_,_,_,_,_,_,_,_,_ => none
|k + 1,x5,x304000,x304001,x304002,x304003,x304004,x304005,x305000,x305001,x305002,x305003,x305004,x305005 => if x5 < (x304005.length : Int) then (if 0 ≤ x5 then (if x5 < (x305005.length : Int) then (if (rdOf ByteArray.empty x304005 x5).toList = (rdOf ByteArray.empty x305005 x5).toList then (codesearchref33_Same.l0 k (wrap64 (x5 + 1)) x304000 x304001 x304002 x304003 x304004 x304005 x305000 x305001 x305002 x305003 x305004 x305005) else (some false)) else (none)) else (none)) else (some true)
end
def codesearchref33_Same.f (k : Nat) (a0_0 : Int) (a0_1 : Int) (a0_2 : Int) (l0_3 : List Int) (l0_4 : List Int) (l0_5 : List ByteArray) (a1_0 : Int) (a1_1 : Int) (a1_2 : Int) (l1_3 : List Int) (l1_4 : List Int) (l1_5 : List ByteArray) : Option (Bool) := if a0_0 = a1_0 then (if a0_1 = a1_1 then (if a0_2 = a1_2 then ((codesearchref33_SameInts.f k l0_3 l1_3).bind fun t305 => (if t305 = true then ((codesearchref33_SameInts.f k l0_4 l1_4).bind fun t306 => (if t306 = true then (codesearchref33_Same.j0 k ((l0_5.length : Int) != (l1_5.length : Int)) a0_0 a0_1 a0_2 l0_3 l0_4 l0_5 a1_0 a1_1 a1_2 l1_3 l1_4 l1_5) else (codesearchref33_Same.j0 k true a0_0 a0_1 a0_2 l0_3 l0_4 l0_5 a1_0 a1_1 a1_2 l1_3 l1_4 l1_5))) else (codesearchref33_Same.j0 k true a0_0 a0_1 a0_2 l0_3 l0_4 l0_5 a1_0 a1_1 a1_2 l1_3 l1_4 l1_5))) else (codesearchref33_Same.j0 k true a0_0 a0_1 a0_2 l0_3 l0_4 l0_5 a1_0 a1_1 a1_2 l1_3 l1_4 l1_5)) else (codesearchref33_Same.j0 k true a0_0 a0_1 a0_2 l0_3 l0_4 l0_5 a1_0 a1_1 a1_2 l1_3 l1_4 l1_5)) else (codesearchref33_Same.j0 k true a0_0 a0_1 a0_2 l0_3 l0_4 l0_5 a1_0 a1_1 a1_2 l1_3 l1_4 l1_5)
theorem codesearchref33_Same.mono_l : ∀ k, (∀ y0 y1 y2 y3 y4 y5 y6 y7 y8 y9 y10 y11 y12, LeO (codesearchref33_Same.j0 k y0 y1 y2 y3 y4 y5 y6 y7 y8 y9 y10 y11 y12) (codesearchref33_Same.j0 (k + 1) y0 y1 y2 y3 y4 y5 y6 y7 y8 y9 y10 y11 y12)) ∧ (∀ y0 y1 y2 y3 y4 y5 y6 y7 y8 y9 y10 y11 y12, LeO (codesearchref33_Same.l0 k y0 y1 y2 y3 y4 y5 y6 y7 y8 y9 y10 y11 y12) (codesearchref33_Same.l0 (k + 1) y0 y1 y2 y3 y4 y5 y6 y7 y8 y9 y10 y11 y12))
|0 => ⟨fun _ _ _ _ _ _ _ _ _ _ _ _ _ r h => by simp [codesearchref33_Same.j0] at h,fun _ _ _ _ _ _ _ _ _ _ _ _ _ r h => by simp [codesearchref33_Same.l0] at h⟩
|k + 1 => by
  obtain ⟨ih0,ih1⟩ := codesearchref33_Same.mono_l k
  refine ⟨?_,?_⟩
  ·intro y0 y1 y2 y3 y4 y5 y6 y7 y8 y9 y10 y11 y12
   unfold codesearchref33_Same.j0
   repeat' (with_reducible first|exact ih1 _ _ _ _ _ _ _ _ _ _ _ _ _|exact LeO.refl _|exact LeO.none _|refine LeO.ite ?_ ?_|refine LeO.bind ?_ (fun _ => ?_))
  ·intro y0 y1 y2 y3 y4 y5 y6 y7 y8 y9 y10 y11 y12
   unfold codesearchref33_Same.l0
   repeat' (with_reducible first|exact ih1 _ _ _ _ _ _ _ _ _ _ _ _ _|exact LeO.refl _|exact LeO.none _|refine LeO.ite ?_ ?_|refine LeO.bind ?_ (fun _ => ?_))
theorem codesearchref33_Same.mono : ∀ a0 a1 a2 a3 a4 a5 a6 a7 a8 a9 a10 a11 k, LeO (codesearchref33_Same.f k a0 a1 a2 a3 a4 a5 a6 a7 a8 a9 a10 a11) (codesearchref33_Same.f (k + 1) a0 a1 a2 a3 a4 a5 a6 a7 a8 a9 a10 a11) := by
 intro a0 a1 a2 a3 a4 a5 a6 a7 a8 a9 a10 a11 k
 obtain ⟨ih0,ih1⟩ := codesearchref33_Same.mono_l k
 unfold codesearchref33_Same.f
 repeat' first
  |(with_reducible exact ih0 _ _ _ _ _ _ _ _ _ _ _ _ _)
  |(with_reducible exact ih1 _ _ _ _ _ _ _ _ _ _ _ _ _)
  |(with_reducible exact codesearchref33_SameInts.mono _ _ _)
  |(with_reducible exact LeO.refl _)
  |(with_reducible exact LeO.none _)
  |(with_reducible refine LeO.ite ?_ ?_)
  |(with_reducible refine LeO.bind ?_ (fun _ => ?_))
  |exact ih0 _ _ _ _ _ _ _ _ _ _ _ _ _
  |exact ih1 _ _ _ _ _ _ _ _ _ _ _ _ _
  |exact codesearchref33_SameInts.mono _ _ _
  |exact LeO.none _
  |refine LeO.ite ?_ ?_
  |refine LeO.bind ?_ (fun _ => ?_)
set_option maxHeartbeats 4000000 in
set_option maxRecDepth 100000 in
theorem codesearchref33_Same.calls (k : Nat) (a0_0 : Int) (a0_1 : Int) (a0_2 : Int) (A0_3 : Option Addr) (c0_3 : Nat) (l0_3 : List Int) (A0_4 : Option Addr) (c0_4 : Nat) (l0_4 : List Int) (A0_5 : Option Addr) (c0_5 : Nat) (l0_5 : List ByteArray) (a1_0 : Int) (a1_1 : Int) (a1_2 : Int) (A1_3 : Option Addr) (c1_3 : Nat) (l1_3 : List Int) (A1_4 : Option Addr) (c1_4 : Nat) (l1_4 : List Int) (A1_5 : Option Addr) (c1_5 : Nat) (l1_5 : List ByteArray) (r : Bool) (w : World) (hr0_3 : Kd.C (Kd.int .i64) w A0_3 l0_3.length l0_3) (hc0_3 : l0_3.length ≤ c0_3) (hr0_4 : Kd.C (Kd.int .i64) w A0_4 l0_4.length l0_4) (hc0_4 : l0_4.length ≤ c0_4) (hr0_5 : Kd.C Kd.string w A0_5 l0_5.length l0_5) (hc0_5 : l0_5.length ≤ c0_5) (hr1_3 : Kd.C (Kd.int .i64) w A1_3 l1_3.length l1_3) (hc1_3 : l1_3.length ≤ c1_3) (hr1_4 : Kd.C (Kd.int .i64) w A1_4 l1_4.length l1_4) (hc1_4 : l1_4.length ≤ c1_4) (hr1_5 : Kd.C Kd.string w A1_5 l1_5.length l1_5) (hc1_5 : l1_5.length ≤ c1_5) (h : codesearchref33_Same.f k a0_0 a0_1 a0_2 l0_3 l0_4 l0_5 a1_0 a1_1 a1_2 l1_3 l1_4 l1_5 = some r) :
  Calls Tryd.prog 20 #[.agg #[.int .i64 a0_0,.int .i64 a0_1,.int .i64 a0_2,.slice A0_3 l0_3.length c0_3,.slice A0_4 l0_4.length c0_4,.slice A0_5 l0_5.length c0_5],.agg #[.int .i64 a1_0,.int .i64 a1_1,.int .i64 a1_2,.slice A1_3 l1_3.length c1_3,.slice A1_4 l1_4.length c1_4,.slice A1_5 l1_5.length c1_5]] w fun e w' => e = .returned (.bool r) ∧ Below w.heap.size w w' := by
 have hu37 := Tryd.underlying37
 have HR0_3 := aK hr0_3
 have HC0_3 := aK hc0_3
 clear hr0_3 hc0_3
 have HR0_4 := aK hr0_4
 have HC0_4 := aK hc0_4
 clear hr0_4 hc0_4
 have HR0_5 := aK hr0_5
 have HC0_5 := aK hc0_5
 clear hr0_5 hc0_5
 have HR1_3 := aK hr1_3
 have HC1_3 := aK hc1_3
 clear hr1_3 hc1_3
 have HR1_4 := aK hr1_4
 have HC1_4 := aK hc1_4
 clear hr1_4 hc1_4
 have HR1_5 := aK hr1_5
 have HC1_5 := aK hc1_5
 clear hr1_5 hc1_5
 have HB := aK (Below.refl w.heap.size w)
 unfold codesearchref33_Same.f at h
 have H := h
 clear h
 have HC3 := aK H
 clear H
 go_enter Tryd.func20,Tryd.ntmps20
 go_upto_region 1 with (first|((with_reducible refine gate_dst (N := 2) rfl ?_);(try (refine gate_guard (by rfl) ?_;dsimp only));refine box_event ?hg (N := 2) ?hd (cs := #[.int .i64 a0_0,.int .i64 a0_1,.int .i64 a0_2,.slice A0_3 l0_3.length c0_3,.slice A0_4 l0_4.length c0_4,.slice A0_5 l0_5.length c0_5]) (t := 37) ?hr ?_;(case hd => rfl);(case hg => rfl);(case hr => first|(go_simp;done)|(go_simp;rfl));intro gb303 hg w4 hbox hb;have BK303 := aK (hbox);have GW303 := aK ((by rw [hg];exact (below_size (bM HB.out)) : w.heap.size ≤ gb303));have GJ303 := Ge.mk GW303.out;have GE303 := aK ((by rw [hg];exact (below_size (bM HB.out)) : w.heap.size ≤ gb303));have GI303 := Ge.mk GE303.out;replace HB := aK (below_step (bM HB.out) hb);clear hb hbox hg)|((with_reducible refine gate_dst (N := 3) rfl ?_);(try (refine gate_guard (by rfl) ?_;dsimp only));refine box_event ?hg (N := 3) ?hd (cs := #[.int .i64 a1_0,.int .i64 a1_1,.int .i64 a1_2,.slice A1_3 l1_3.length c1_3,.slice A1_4 l1_4.length c1_4,.slice A1_5 l1_5.length c1_5]) (t := 37) ?hr ?_;(case hd => rfl);(case hg => rfl);(case hr => first|(go_simp;done)|(go_simp;rfl));intro gb304 hg w5 hbox hb;have BK304 := aK (hbox);have GW304 := aK ((by rw [hg];exact (below_size (bG HB.out)) : w.heap.size ≤ gb304));have GJ304 := Ge.mk GW304.out;have GE304 := aK ((by rw [hg];exact (below_size (bG HB.out)) : w.heap.size ≤ gb304));have GI304 := Ge.mk GE304.out;replace HB := aK (below_step (bG HB.out) hb);have NB303_304 := aK (nbL BK303.out hg);have NB304_303 := aK (nbR BK303.out hg);replace BK303 := aK (blk_below (kM BK303.out) hb);clear hb hbox hg))
 repeat (go_quiet (first|((with_reducible refine gate_dst (N := 2) rfl ?_);(try (refine gate_guard (by rfl) ?_;dsimp only));refine box_event ?hg (N := 2) ?hd (cs := #[.int .i64 a0_0,.int .i64 a0_1,.int .i64 a0_2,.slice A0_3 l0_3.length c0_3,.slice A0_4 l0_4.length c0_4,.slice A0_5 l0_5.length c0_5]) (t := 37) ?hr ?_;(case hd => rfl);(case hg => rfl);(case hr => first|(go_simp;done)|(go_simp;rfl));intro gb303 hg w4 hbox hb;have BK303 := aK (hbox);have GW303 := aK ((by rw [hg];exact (below_size (bM HB.out)) : w.heap.size ≤ gb303));have GJ303 := Ge.mk GW303.out;have GE303 := aK ((by rw [hg];exact (below_size (bM HB.out)) : w.heap.size ≤ gb303));have GI303 := Ge.mk GE303.out;replace HB := aK (below_step (bM HB.out) hb);clear hb hbox hg)|((with_reducible refine gate_dst (N := 3) rfl ?_);(try (refine gate_guard (by rfl) ?_;dsimp only));refine box_event ?hg (N := 3) ?hd (cs := #[.int .i64 a1_0,.int .i64 a1_1,.int .i64 a1_2,.slice A1_3 l1_3.length c1_3,.slice A1_4 l1_4.length c1_4,.slice A1_5 l1_5.length c1_5]) (t := 37) ?hr ?_;(case hd => rfl);(case hg => rfl);(case hr => first|(go_simp;done)|(go_simp;rfl));intro gb304 hg w5 hbox hb;have BK304 := aK (hbox);have GW304 := aK ((by rw [hg];exact (below_size (bG HB.out)) : w.heap.size ≤ gb304));have GJ304 := Ge.mk GW304.out;have GE304 := aK ((by rw [hg];exact (below_size (bG HB.out)) : w.heap.size ≤ gb304));have GI304 := Ge.mk GE304.out;replace HB := aK (below_step (bG HB.out) hb);have NB303_304 := aK (nbL BK303.out hg);have NB304_303 := aK (nbR BK303.out hg);replace BK303 := aK (blk_below (kM BK303.out) hb);clear hb hbox hg));go_upto_region 1 with (first|((with_reducible refine gate_dst (N := 2) rfl ?_);(try (refine gate_guard (by rfl) ?_;dsimp only));refine box_event ?hg (N := 2) ?hd (cs := #[.int .i64 a0_0,.int .i64 a0_1,.int .i64 a0_2,.slice A0_3 l0_3.length c0_3,.slice A0_4 l0_4.length c0_4,.slice A0_5 l0_5.length c0_5]) (t := 37) ?hr ?_;(case hd => rfl);(case hg => rfl);(case hr => first|(go_simp;done)|(go_simp;rfl));intro gb303 hg w4 hbox hb;have BK303 := aK (hbox);have GW303 := aK ((by rw [hg];exact (below_size (bM HB.out)) : w.heap.size ≤ gb303));have GJ303 := Ge.mk GW303.out;have GE303 := aK ((by rw [hg];exact (below_size (bM HB.out)) : w.heap.size ≤ gb303));have GI303 := Ge.mk GE303.out;replace HB := aK (below_step (bM HB.out) hb);clear hb hbox hg)|((with_reducible refine gate_dst (N := 3) rfl ?_);(try (refine gate_guard (by rfl) ?_;dsimp only));refine box_event ?hg (N := 3) ?hd (cs := #[.int .i64 a1_0,.int .i64 a1_1,.int .i64 a1_2,.slice A1_3 l1_3.length c1_3,.slice A1_4 l1_4.length c1_4,.slice A1_5 l1_5.length c1_5]) (t := 37) ?hr ?_;(case hd => rfl);(case hg => rfl);(case hr => first|(go_simp;done)|(go_simp;rfl));intro gb304 hg w5 hbox hb;have BK304 := aK (hbox);have GW304 := aK ((by rw [hg];exact (below_size (bG HB.out)) : w.heap.size ≤ gb304));have GJ304 := Ge.mk GW304.out;have GE304 := aK ((by rw [hg];exact (below_size (bG HB.out)) : w.heap.size ≤ gb304));have GI304 := Ge.mk GE304.out;replace HB := aK (below_step (bG HB.out) hb);have NB303_304 := aK (nbL BK303.out hg);have NB304_303 := aK (nbR BK303.out hg);replace BK303 := aK (blk_below (kM BK303.out) hb);clear hb hbox hg)))
 (try simp only [Act.put,List.setIfInBounds_toArray,List.set_cons_zero,List.set_cons_succ])
 go_cut [49] (fun v49 wc => ∃ (kq : Nat) (x49_2 : Bool),v49 = .bool x49_2 ∧ Aside0 (codesearchref33_Same.j0 kq x49_2 a0_0 a0_1 a0_2 l0_3 l0_4 l0_5 a1_0 a1_1 a1_2 l1_3 l1_4 l1_5 = some r) ∧ Aside0 (kq ≤ k) ∧ Aside0 (wc.heap[gb303]? = some (.cells #[.int .i64 a0_0,.int .i64 a0_1,.int .i64 a0_2,(.slice A0_3 l0_3.length c0_3),(.slice A0_4 l0_4.length c0_4),(.slice A0_5 l0_5.length c0_5)] 37 (0,0))) ∧ Aside0 (wc.heap[gb304]? = some (.cells #[.int .i64 a1_0,.int .i64 a1_1,.int .i64 a1_2,(.slice A1_3 l1_3.length c1_3),(.slice A1_4 l1_4.length c1_4),(.slice A1_5 l1_5.length c1_5)] 37 (0,0))) ∧ Aside0 (Below w.heap.size w wc))
 case first =>
  have H := HC3.out
  clear HC3
  by_cases c6 : a0_0 = a1_0
  ·rw [if_pos c6] at H
   have c6b0 := beq_iff_eq.mpr c6
   have c6b1 := bne_eq_false_iff_eq.mpr c6
   clear c6
   (first|rw [c6b0]|(simp only [i64_w,i32_w];rw [c6b0])|rw [c6b1]|skip)
   by_cases c7 : a0_1 = a1_1
   ·rw [if_pos c7] at H
    have c7b0 := beq_iff_eq.mpr c7
    have c7b1 := bne_eq_false_iff_eq.mpr c7
    clear c7
    by_cases c8 : a0_2 = a1_2
    ·rw [if_pos c8] at H
     have c8b0 := beq_iff_eq.mpr c8
     have c8b1 := bne_eq_false_iff_eq.mpr c8
     clear c8
     replace H := Option.bind_eq_some_iff.mp H
     obtain ⟨t305,A90,H⟩ := H
     have A9 := aK A90
     clear A90
     by_cases c10 : t305 = true
     ·subst c10
      rw [if_pos rfl] at H
      replace H := Option.bind_eq_some_iff.mp H
      obtain ⟨t306,A110,H⟩ := H
      have A11 := aK A110
      clear A110
      by_cases c12 : t306 = true
      ·subst c12
       rw [if_pos rfl] at H
       have H' := aK H
       clear H
       have hnb13 := NB303_304.out
       have hnc13 := NB304_303.out
       obtain ⟨_,_,_,_,_,_,_,_,_,_,_,_⟩ := bk6_ BK303.out
       obtain ⟨_,_,_,_,_,_,_,_,_,_,_,_⟩ := bk6_ BK304.out
       go_wp2_with (first|(go_at_call 9;(with_reducible refine (codesearchref33_SameInts.calls k _ _ l0_3 _ _ l1_3 true _ ?side1 ?side2 ?side3 ?side4 A9.out).mono ?_);(case side1 => exact cM (Kd.C_below HR0_3.out HB.out));(case side2 => exact HC0_3.out);(case side3 => exact cM (Kd.C_below HR1_3.out HB.out));(case side4 => exact HC1_3.out);rintro e w' ⟨rfl,⟨nd,rfl⟩⟩;(try first|exact ⟨rfl,_,World.drewN_drewN _ _ _⟩|exact ⟨rfl,_,Eq.trans (World.drewN_drewN _ _ _) (congrArg (World.drewN _) (Nat.add_assoc _ _ _))⟩))|(go_at_call 9;(with_reducible refine (codesearchref33_SameInts.calls k _ _ l0_4 _ _ l1_4 true _ ?side1 ?side2 ?side3 ?side4 A11.out).mono ?_);(case side1 => exact Kd.C_below HR0_4.out (bG HB.out));(case side2 => exact HC0_4.out);(case side3 => exact Kd.C_below HR1_4.out (bG HB.out));(case side4 => exact HC1_4.out);rintro e w' ⟨rfl,⟨nd,rfl⟩⟩;(try first|exact ⟨rfl,_,World.drewN_drewN _ _ _⟩|exact ⟨rfl,_,Eq.trans (World.drewN_drewN _ _ _) (congrArg (World.drewN _) (Nat.add_assoc _ _ _))⟩)))
       repeat (go_quiet (first|(go_at_call 9;(with_reducible refine (codesearchref33_SameInts.calls k _ _ l0_3 _ _ l1_3 true _ ?side1 ?side2 ?side3 ?side4 A9.out).mono ?_);(case side1 => exact cM (Kd.C_below HR0_3.out HB.out));(case side2 => exact HC0_3.out);(case side3 => exact cM (Kd.C_below HR1_3.out HB.out));(case side4 => exact HC1_3.out);rintro e w' ⟨rfl,⟨nd,rfl⟩⟩;(try first|exact ⟨rfl,_,World.drewN_drewN _ _ _⟩|exact ⟨rfl,_,Eq.trans (World.drewN_drewN _ _ _) (congrArg (World.drewN _) (Nat.add_assoc _ _ _))⟩))|(go_at_call 9;(with_reducible refine (codesearchref33_SameInts.calls k _ _ l0_4 _ _ l1_4 true _ ?side1 ?side2 ?side3 ?side4 A11.out).mono ?_);(case side1 => exact Kd.C_below HR0_4.out (bG HB.out));(case side2 => exact HC0_4.out);(case side3 => exact Kd.C_below HR1_4.out (bG HB.out));(case side4 => exact HC1_4.out);rintro e w' ⟨rfl,⟨nd,rfl⟩⟩;(try first|exact ⟨rfl,_,World.drewN_drewN _ _ _⟩|exact ⟨rfl,_,Eq.trans (World.drewN_drewN _ _ _) (congrArg (World.drewN _) (Nat.add_assoc _ _ _))⟩)));try go_wp2_with (first|(go_at_call 9;(with_reducible refine (codesearchref33_SameInts.calls k _ _ l0_3 _ _ l1_3 true _ ?side1 ?side2 ?side3 ?side4 A9.out).mono ?_);(case side1 => exact cM (Kd.C_below HR0_3.out HB.out));(case side2 => exact HC0_3.out);(case side3 => exact cM (Kd.C_below HR1_3.out HB.out));(case side4 => exact HC1_3.out);rintro e w' ⟨rfl,⟨nd,rfl⟩⟩;(try first|exact ⟨rfl,_,World.drewN_drewN _ _ _⟩|exact ⟨rfl,_,Eq.trans (World.drewN_drewN _ _ _) (congrArg (World.drewN _) (Nat.add_assoc _ _ _))⟩))|(go_at_call 9;(with_reducible refine (codesearchref33_SameInts.calls k _ _ l0_4 _ _ l1_4 true _ ?side1 ?side2 ?side3 ?side4 A11.out).mono ?_);(case side1 => exact Kd.C_below HR0_4.out (bG HB.out));(case side2 => exact HC0_4.out);(case side3 => exact Kd.C_below HR1_4.out (bG HB.out));(case side4 => exact HC1_4.out);rintro e w' ⟨rfl,⟨nd,rfl⟩⟩;(try first|exact ⟨rfl,_,World.drewN_drewN _ _ _⟩|exact ⟨rfl,_,Eq.trans (World.drewN_drewN _ _ _) (congrArg (World.drewN _) (Nat.add_assoc _ _ _))⟩))))
       go_meet
       case rel => exact ⟨_,(((l0_5.length : Int) != (l1_5.length : Int))),(by first|rfl|(simp;done)|(simp [*];done)),H',⟨by first|omega|exact Nat.le_refl _⟩,⟨kM BK303.out⟩,⟨kM BK304.out⟩,⟨bG HB.out⟩⟩
      ·replace c12 := Bool.eq_false_iff.mpr c12
       subst c12
       rw [if_neg (show ¬ (false = true) by decide)] at H
       have H' := aK H
       clear H
       have hnb16 := NB303_304.out
       have hnc16 := NB304_303.out
       obtain ⟨_,_,_,_,_,_,_,_,_,_,_,_⟩ := bk6_ BK303.out
       obtain ⟨_,_,_,_,_,_,_,_,_,_,_,_⟩ := bk6_ BK304.out
       go_wp2_with (first|(go_at_call 9;(with_reducible refine (codesearchref33_SameInts.calls k _ _ l0_3 _ _ l1_3 true _ ?side1 ?side2 ?side3 ?side4 A9.out).mono ?_);(case side1 => exact cM (Kd.C_below HR0_3.out HB.out));(case side2 => exact HC0_3.out);(case side3 => exact cM (Kd.C_below HR1_3.out HB.out));(case side4 => exact HC1_3.out);rintro e w' ⟨rfl,⟨nd,rfl⟩⟩;(try first|exact ⟨rfl,_,World.drewN_drewN _ _ _⟩|exact ⟨rfl,_,Eq.trans (World.drewN_drewN _ _ _) (congrArg (World.drewN _) (Nat.add_assoc _ _ _))⟩))|(go_at_call 9;(with_reducible refine (codesearchref33_SameInts.calls k _ _ l0_4 _ _ l1_4 false _ ?side1 ?side2 ?side3 ?side4 A11.out).mono ?_);(case side1 => exact Kd.C_below HR0_4.out (bG HB.out));(case side2 => exact HC0_4.out);(case side3 => exact Kd.C_below HR1_4.out (bG HB.out));(case side4 => exact HC1_4.out);rintro e w' ⟨rfl,⟨nd,rfl⟩⟩;(try first|exact ⟨rfl,_,World.drewN_drewN _ _ _⟩|exact ⟨rfl,_,Eq.trans (World.drewN_drewN _ _ _) (congrArg (World.drewN _) (Nat.add_assoc _ _ _))⟩)))
       repeat (go_quiet (first|(go_at_call 9;(with_reducible refine (codesearchref33_SameInts.calls k _ _ l0_3 _ _ l1_3 true _ ?side1 ?side2 ?side3 ?side4 A9.out).mono ?_);(case side1 => exact cM (Kd.C_below HR0_3.out HB.out));(case side2 => exact HC0_3.out);(case side3 => exact cM (Kd.C_below HR1_3.out HB.out));(case side4 => exact HC1_3.out);rintro e w' ⟨rfl,⟨nd,rfl⟩⟩;(try first|exact ⟨rfl,_,World.drewN_drewN _ _ _⟩|exact ⟨rfl,_,Eq.trans (World.drewN_drewN _ _ _) (congrArg (World.drewN _) (Nat.add_assoc _ _ _))⟩))|(go_at_call 9;(with_reducible refine (codesearchref33_SameInts.calls k _ _ l0_4 _ _ l1_4 false _ ?side1 ?side2 ?side3 ?side4 A11.out).mono ?_);(case side1 => exact Kd.C_below HR0_4.out (bG HB.out));(case side2 => exact HC0_4.out);(case side3 => exact Kd.C_below HR1_4.out (bG HB.out));(case side4 => exact HC1_4.out);rintro e w' ⟨rfl,⟨nd,rfl⟩⟩;(try first|exact ⟨rfl,_,World.drewN_drewN _ _ _⟩|exact ⟨rfl,_,Eq.trans (World.drewN_drewN _ _ _) (congrArg (World.drewN _) (Nat.add_assoc _ _ _))⟩)));try go_wp2_with (first|(go_at_call 9;(with_reducible refine (codesearchref33_SameInts.calls k _ _ l0_3 _ _ l1_3 true _ ?side1 ?side2 ?side3 ?side4 A9.out).mono ?_);(case side1 => exact cM (Kd.C_below HR0_3.out HB.out));(case side2 => exact HC0_3.out);(case side3 => exact cM (Kd.C_below HR1_3.out HB.out));(case side4 => exact HC1_3.out);rintro e w' ⟨rfl,⟨nd,rfl⟩⟩;(try first|exact ⟨rfl,_,World.drewN_drewN _ _ _⟩|exact ⟨rfl,_,Eq.trans (World.drewN_drewN _ _ _) (congrArg (World.drewN _) (Nat.add_assoc _ _ _))⟩))|(go_at_call 9;(with_reducible refine (codesearchref33_SameInts.calls k _ _ l0_4 _ _ l1_4 false _ ?side1 ?side2 ?side3 ?side4 A11.out).mono ?_);(case side1 => exact Kd.C_below HR0_4.out (bG HB.out));(case side2 => exact HC0_4.out);(case side3 => exact Kd.C_below HR1_4.out (bG HB.out));(case side4 => exact HC1_4.out);rintro e w' ⟨rfl,⟨nd,rfl⟩⟩;(try first|exact ⟨rfl,_,World.drewN_drewN _ _ _⟩|exact ⟨rfl,_,Eq.trans (World.drewN_drewN _ _ _) (congrArg (World.drewN _) (Nat.add_assoc _ _ _))⟩))))
       go_meet
       case rel => exact ⟨_,(true),(by first|rfl|(simp;done)|(simp [*];done)),H',⟨by first|omega|exact Nat.le_refl _⟩,⟨kM BK303.out⟩,⟨kM BK304.out⟩,⟨bG HB.out⟩⟩
     ·replace c10 := Bool.eq_false_iff.mpr c10
      subst c10
      rw [if_neg (show ¬ (false = true) by decide)] at H
      have H' := aK H
      clear H
      have hnb19 := NB303_304.out
      have hnc19 := NB304_303.out
      obtain ⟨_,_,_,_,_,_,_,_,_,_,_,_⟩ := bk6_ BK303.out
      obtain ⟨_,_,_,_,_,_,_,_,_,_,_,_⟩ := bk6_ BK304.out
      go_wp2_with (first|(go_at_call 9;(with_reducible refine (codesearchref33_SameInts.calls k _ _ l0_3 _ _ l1_3 false _ ?side1 ?side2 ?side3 ?side4 A9.out).mono ?_);(case side1 => exact cM (Kd.C_below HR0_3.out HB.out));(case side2 => exact HC0_3.out);(case side3 => exact cM (Kd.C_below HR1_3.out HB.out));(case side4 => exact HC1_3.out);rintro e w' ⟨rfl,⟨nd,rfl⟩⟩;(try first|exact ⟨rfl,_,World.drewN_drewN _ _ _⟩|exact ⟨rfl,_,Eq.trans (World.drewN_drewN _ _ _) (congrArg (World.drewN _) (Nat.add_assoc _ _ _))⟩)))
      repeat (go_quiet (first|(go_at_call 9;(with_reducible refine (codesearchref33_SameInts.calls k _ _ l0_3 _ _ l1_3 false _ ?side1 ?side2 ?side3 ?side4 A9.out).mono ?_);(case side1 => exact cM (Kd.C_below HR0_3.out HB.out));(case side2 => exact HC0_3.out);(case side3 => exact cM (Kd.C_below HR1_3.out HB.out));(case side4 => exact HC1_3.out);rintro e w' ⟨rfl,⟨nd,rfl⟩⟩;(try first|exact ⟨rfl,_,World.drewN_drewN _ _ _⟩|exact ⟨rfl,_,Eq.trans (World.drewN_drewN _ _ _) (congrArg (World.drewN _) (Nat.add_assoc _ _ _))⟩)));try go_wp2_with (first|(go_at_call 9;(with_reducible refine (codesearchref33_SameInts.calls k _ _ l0_3 _ _ l1_3 false _ ?side1 ?side2 ?side3 ?side4 A9.out).mono ?_);(case side1 => exact cM (Kd.C_below HR0_3.out HB.out));(case side2 => exact HC0_3.out);(case side3 => exact cM (Kd.C_below HR1_3.out HB.out));(case side4 => exact HC1_3.out);rintro e w' ⟨rfl,⟨nd,rfl⟩⟩;(try first|exact ⟨rfl,_,World.drewN_drewN _ _ _⟩|exact ⟨rfl,_,Eq.trans (World.drewN_drewN _ _ _) (congrArg (World.drewN _) (Nat.add_assoc _ _ _))⟩))))
      go_meet
      case rel => exact ⟨_,(true),(by first|rfl|(simp;done)|(simp [*];done)),H',⟨by first|omega|exact Nat.le_refl _⟩,⟨kM BK303.out⟩,⟨kM BK304.out⟩,⟨bG HB.out⟩⟩
    ·rw [if_neg c8] at H
     have c8b0 := beq_eq_false_iff_ne.mpr c8
     have c8b1 := bne_iff_ne.mpr c8
     have H' := aK H
     clear H
     have hnb22 := NB303_304.out
     have hnc22 := NB304_303.out
     obtain ⟨_,_,_,_,_,_,_,_,_,_,_,_⟩ := bk6_ BK303.out
     obtain ⟨_,_,_,_,_,_,_,_,_,_,_,_⟩ := bk6_ BK304.out
     go_wp2
     repeat (go_quiet (fail);try go_wp2)
     go_meet
     case rel => exact ⟨_,(true),(by first|rfl|(simp;done)|(simp [*];done)),H',⟨by first|omega|exact Nat.le_refl _⟩,⟨kM BK303.out⟩,⟨kM BK304.out⟩,⟨bG HB.out⟩⟩
   ·rw [if_neg c7] at H
    have c7b0 := beq_eq_false_iff_ne.mpr c7
    have c7b1 := bne_iff_ne.mpr c7
    have H' := aK H
    clear H
    have hnb25 := NB303_304.out
    have hnc25 := NB304_303.out
    obtain ⟨_,_,_,_,_,_,_,_,_,_,_,_⟩ := bk6_ BK303.out
    obtain ⟨_,_,_,_,_,_,_,_,_,_,_,_⟩ := bk6_ BK304.out
    go_wp2
    repeat (go_quiet (fail);try go_wp2)
    go_meet
    case rel => exact ⟨_,(true),(by first|rfl|(simp;done)|(simp [*];done)),H',⟨by first|omega|exact Nat.le_refl _⟩,⟨kM BK303.out⟩,⟨kM BK304.out⟩,⟨bG HB.out⟩⟩
  ·rw [if_neg c6] at H
   have c6b0 := beq_eq_false_iff_ne.mpr c6
   have c6b1 := bne_iff_ne.mpr c6
   (first|rw [c6b0]|(simp only [i64_w,i32_w];rw [c6b0])|rw [c6b1]|skip)
   have H' := aK H
   clear H
   have hnb28 := NB303_304.out
   have hnc28 := NB304_303.out
   obtain ⟨_,_,_,_,_,_,_,_,_,_,_,_⟩ := bk6_ BK303.out
   obtain ⟨_,_,_,_,_,_,_,_,_,_,_,_⟩ := bk6_ BK304.out
   go_wp2
   repeat (go_quiet (fail);try go_wp2)
   go_meet
   case rel => exact ⟨_,(true),(by first|rfl|(simp;done)|(simp [*];done)),H',⟨by first|omega|exact Nat.le_refl _⟩,⟨kM BK303.out⟩,⟨kM BK304.out⟩,⟨bG HB.out⟩⟩
 case rest =>
  clear HC3
  try clear p2
  obtain ⟨kq,x49_2,rfl,HA,HJ2,BK303,BK304,HB⟩ := hcut
  cases kq with
 |zero => exact absurd HA.out (by simp [codesearchref33_Same.j0])
 |succ kj2 =>
   have H := HA.out
   clear HA
   simp only [codesearchref33_Same.j0] at H
   by_cases c31 : x49_2 = true
   ·subst c31
    rw [if_pos rfl] at H
    obtain rfl := Option.some.inj H
    go_wp2
    repeat (go_quiet (fail);try go_wp2)
    go_ret
    exact ⟨by first|rfl|(simp [errW_none,errW_some] <;> rfl)|(simp [*,errW_none,errW_some] <;> rfl),bG HB.out⟩
   ·replace c31 := Bool.eq_false_iff.mpr c31
    subst c31
    rw [if_neg (show ¬ (false = true) by decide)] at H
    have H' := aK H
    clear H
    go_wp2
    repeat (go_quiet (fail);try go_wp2)
    go_loopg [5] kj2 (fun kq v5 w' => ∃ (x5_2 : Int),v5 = .int .i64 x5_2 ∧ Aside0 (codesearchref33_Same.l0 kq x5_2 a0_0 a0_1 a0_2 l0_3 l0_4 l0_5 a1_0 a1_1 a1_2 l1_3 l1_4 l1_5 = some r) ∧ Aside0 (kq ≤ kj2) ∧ Aside0 (w'.heap[gb303]? = some (.cells #[.int .i64 a0_0,.int .i64 a0_1,.int .i64 a0_2,(.slice A0_3 l0_3.length c0_3),(.slice A0_4 l0_4.length c0_4),(.slice A0_5 l0_5.length c0_5)] 37 (0,0))) ∧ Aside0 (w'.heap[gb304]? = some (.cells #[.int .i64 a1_0,.int .i64 a1_1,.int .i64 a1_2,(.slice A1_3 l1_3.length c1_3),(.slice A1_4 l1_4.length c1_4),(.slice A1_5 l1_5.length c1_5)] 37 (0,0))) ∧ Aside0 (Below w.heap.size w w'))
    case atStart => exact ⟨(0),(by first|rfl|(simp;done)|(simp [*];done)),H',⟨Nat.le_refl _⟩,⟨kM BK303.out⟩,⟨kM BK304.out⟩,⟨bG HB.out⟩⟩
    case round =>
     clear H'
     try clear p2
     try clear c31
     try clear p2
     obtain ⟨x5_2,rfl,HA,HK2,BK303,BK304,HB⟩ := hrel
     cases gk with
    |zero => exact absurd HA.out (by simp [codesearchref33_Same.l0])
    |succ k2 =>
      have H := HA.out
      clear HA
      simp only [codesearchref33_Same.l0] at H
      by_cases c32 : x5_2 < (l0_5.length : Int)
      ·rw [if_pos c32] at H
       have c32b0 := decide_eq_true c32
       clear c32
       obtain ⟨c33,H⟩ := iS H
       have c33b0 := decide_eq_true c33
       clear c33
       obtain ⟨c34,H⟩ := iS H
       have c34b0 := decide_eq_true c34
       clear c34
       by_cases c35 : (rdOf ByteArray.empty l0_5 x5_2).toList = (rdOf ByteArray.empty l1_5 x5_2).toList
       ·rw [if_pos c35] at H
        have c35b0 := beq_iff_eq.mpr c35
        have c35b1 := bne_eq_false_iff_eq.mpr c35
        clear c35
        have H' := aK H
        clear H
        have hnb36 := NB303_304.out
        have hnc36 := NB304_303.out
        obtain ⟨_,_,_,_,_,_,_,_,_,_,_,_⟩ := bk6_ BK303.out
        have p307 : 0 ≤ (x5_2 : Int) := of_decide_eq_true (by assumption)
        have q307 : x5_2 < (l0_5.length : Int) := of_decide_eq_true (by assumption)
        obtain ⟨ad307,e307,hx307_0⟩ := Kd.at_string HR0_5.out x5_2 p307 q307
        cases e307
        replace hx307_0 := xM HB hx307_0
        replace p307 := eq_true p307
        replace q307 := eq_true q307
        obtain ⟨_,_,_,_,_,_,_,_,_,_,_,_⟩ := bk6_ BK304.out
        have p308 : 0 ≤ (x5_2 : Int) := of_decide_eq_true (by assumption)
        have q308 : x5_2 < (l1_5.length : Int) := of_decide_eq_true (by assumption)
        obtain ⟨ad308,e308,hx308_0⟩ := Kd.at_string HR1_5.out x5_2 p308 q308
        cases e308
        replace hx308_0 := xM HB hx308_0
        replace p308 := eq_true p308
        replace q308 := eq_true q308
        go_wp2
        repeat (go_quiet (fail);try go_wp2)
        go_roundg k2
        case measure => have := HJ2.out;have := HK2.out;omega
        case rel => exact ⟨(wrap64 (x5_2 + 1)),(by first|rfl|(simp;done)|(simp [*];done)),H',⟨by have := HJ2.out;have := HK2.out;omega⟩,⟨kM BK303.out⟩,⟨kM BK304.out⟩,⟨bG HB.out⟩⟩
       ·rw [if_neg c35] at H
        have c35b0 := beq_eq_false_iff_ne.mpr c35
        have c35b1 := bne_iff_ne.mpr c35
        obtain rfl := Option.some.inj H
        have hnb39 := NB303_304.out
        have hnc39 := NB304_303.out
        obtain ⟨_,_,_,_,_,_,_,_,_,_,_,_⟩ := bk6_ BK303.out
        have p307 : 0 ≤ (x5_2 : Int) := of_decide_eq_true (by assumption)
        have q307 : x5_2 < (l0_5.length : Int) := of_decide_eq_true (by assumption)
        obtain ⟨ad307,e307,hx307_0⟩ := Kd.at_string HR0_5.out x5_2 p307 q307
        cases e307
        replace hx307_0 := xM HB hx307_0
        replace p307 := eq_true p307
        replace q307 := eq_true q307
        obtain ⟨_,_,_,_,_,_,_,_,_,_,_,_⟩ := bk6_ BK304.out
        have p308 : 0 ≤ (x5_2 : Int) := of_decide_eq_true (by assumption)
        have q308 : x5_2 < (l1_5.length : Int) := of_decide_eq_true (by assumption)
        obtain ⟨ad308,e308,hx308_0⟩ := Kd.at_string HR1_5.out x5_2 p308 q308
        cases e308
        replace hx308_0 := xM HB hx308_0
        replace p308 := eq_true p308
        replace q308 := eq_true q308
        go_wp2
        repeat (go_quiet (fail);try go_wp2)
        go_ret
        exact ⟨by first|rfl|(simp [errW_none,errW_some] <;> rfl)|(simp [*,errW_none,errW_some] <;> rfl),bG HB.out⟩
      ·rw [if_neg c32] at H
       have c32b0 := decide_eq_false c32
       clear c32
       obtain rfl := Option.some.inj H
       have hnb42 := NB303_304.out
       have hnc42 := NB304_303.out
       obtain ⟨_,_,_,_,_,_,_,_,_,_,_,_⟩ := bk6_ BK303.out
       go_wp2
       repeat (go_quiet (fail);try go_wp2)
       go_ret
       exact ⟨by first|rfl|(simp [errW_none,errW_some] <;> rfl)|(simp [*,errW_none,errW_some] <;> rfl),bG HB.out⟩

end Go.Proofs.YtmgliocboeifdaaDoor.T
