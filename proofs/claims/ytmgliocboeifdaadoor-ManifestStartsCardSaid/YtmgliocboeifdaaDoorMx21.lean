-- Written by hp.py, a program of this session, over the kit's print of the translation. Not trusted: Lean checks it.
import Derived.Test.YtmgliocboeifdaaDoorMx0
import Derived.Test.YtmgliocboeifdaaDoorMx3
import Derived.Test.YtmgliocboeifdaaDoorMx6
import Derived.Test.YtmgliocboeifdaaDoorMx15
namespace Go.Proofs.YtmgliocboeifdaaDoor.M
open Go.RowKit Go.Proofs.YtmgliocboeifdaaDoorW.PrintWords Go.Proofs.YtmgliocboeifdaaDoorW.PrintLast Go.Proofs.YtmgliocboeifdaaDoorW.PrintMore
attribute [local go_sem] max2_int min2_int max_two min_two max_three min_three max_four min_four   -- for this text's walks alone
set_option linter.unusedVariables false
set_option linter.unusedSimpArgs false

-- NOT PRINTED: function 5 (codesearchlaw33_ManifestBack)

/-! ### codesearchlaw33_ManifestStarts: function 6 -/
mutual
def codesearchlaw33_ManifestStarts.j0 : Nat → List (S37) → Bool → Option (Bool)
|0,_,_ => none
|k + 1,x0,x30 => if x30 = true then (some false) else ((manifest_Live.f k x0).bind fun t625 => (codesearchlaw33_ManifestStarts.l0 k x0 t625 0))
def codesearchlaw33_ManifestStarts.l0 : Nat → List (S37) → List Int → Int → Option (Bool)
|0,_,_,_ => none
|k + 1,x0,x6,x7 => if x7 < (x6.length : Int) then (codesearchlaw33_ManifestStarts.l1 k x0 x6 x7 false 0) else (some true)
def codesearchlaw33_ManifestStarts.l1 : Nat → List (S37) → List Int → Int → Bool → Int → Option (Bool)
|0,_,_,_,_,_ => none
|k + 1,x0,x6,x7,x8,x9 => if x9 < (x0.length : Int) then (if x8 = true then (codesearchlaw33_ManifestStarts.l1 k x0 x6 x7 true (wrap64 (x9 + 1))) else (if 0 ≤ x9 then (if ((rd_T37 x0 x9).f1) = 1 then (if 0 ≤ x7 then (if x7 < (x6.length : Int) then (codesearchlaw33_ManifestStarts.l1 k x0 x6 x7 (((rd_T37 x0 x9).f2) == (rd x6 x7)) (wrap64 (x9 + 1))) else (none)) else (none)) else (if ((rd_T37 x0 x9).f1) = 3 then (if 0 ≤ x7 then (if x7 < (x6.length : Int) then (codesearchlaw33_ManifestStarts.l1 k x0 x6 x7 (((rd_T37 x0 x9).f2) == (rd x6 x7)) (wrap64 (x9 + 1))) else (none)) else (none)) else (codesearchlaw33_ManifestStarts.l1 k x0 x6 x7 false (wrap64 (x9 + 1))))) else (none))) else (if x8 = true then (if x7 > 0 then (if 0 ≤ x7 then (if x7 < (x6.length : Int) then (if 0 ≤ (wrap64 (x7 - 1)) then (if (wrap64 (x7 - 1)) < (x6.length : Int) then (if (rd x6 x7) ≤ (rd x6 (wrap64 (x7 - 1))) then (some false) else (codesearchlaw33_ManifestStarts.l0 k x0 x6 (wrap64 (x7 + 1)))) else (none)) else (none)) else (none)) else (none)) else (codesearchlaw33_ManifestStarts.l0 k x0 x6 (wrap64 (x7 + 1)))) else (some false))
end
def codesearchlaw33_ManifestStarts.f (k : Nat) (l0 : List (S37)) (a1 : Int) : Option (Bool) := (codesearchlaw33_alive.f k).bind fun t617 => (if t617 = true then ((codesearchlaw33_small.f k l0).bind fun t618 => (if t618 = true then (if (wrap64 ((l0.length : Int) + 1)) = 0 then (none) else ((manifest_Right.f k l0).bind fun t619 => (if t619 = 0 then (if 0 ≤ (Int.tmod (wrap64 (a1)) (wrap64 ((l0.length : Int) + 1))) then (if (Int.tmod (wrap64 (a1)) (wrap64 ((l0.length : Int) + 1))) ≤ (l0.length : Int) then ((manifest_Right.f k (l0.take ((Int.tmod (wrap64 (a1)) (wrap64 ((l0.length : Int) + 1))) : Int).toNat)).bind fun t624 => (codesearchlaw33_ManifestStarts.j0 k l0 (t624 != 0))) else (none)) else (none)) else (codesearchlaw33_ManifestStarts.j0 k l0 false)))) else (some true))) else (some false))
theorem codesearchlaw33_ManifestStarts.mono_l : ∀ k, (∀ y0 y1, LeO (codesearchlaw33_ManifestStarts.j0 k y0 y1) (codesearchlaw33_ManifestStarts.j0 (k + 1) y0 y1)) ∧ (∀ y0 y1 y2, LeO (codesearchlaw33_ManifestStarts.l0 k y0 y1 y2) (codesearchlaw33_ManifestStarts.l0 (k + 1) y0 y1 y2)) ∧ (∀ y0 y1 y2 y3 y4, LeO (codesearchlaw33_ManifestStarts.l1 k y0 y1 y2 y3 y4) (codesearchlaw33_ManifestStarts.l1 (k + 1) y0 y1 y2 y3 y4))
|0 => ⟨fun _ _ r h => by simp [codesearchlaw33_ManifestStarts.j0] at h,fun _ _ _ r h => by simp [codesearchlaw33_ManifestStarts.l0] at h,fun _ _ _ _ _ r h => by simp [codesearchlaw33_ManifestStarts.l1] at h⟩
|k + 1 => by
  obtain ⟨ih0,ih1,ih2⟩ := codesearchlaw33_ManifestStarts.mono_l k
  refine ⟨?_,?_,?_⟩
  ·intro y0 y1
   unfold codesearchlaw33_ManifestStarts.j0
   repeat' (with_reducible first|exact ih1 _ _ _|exact manifest_Live.mono _ _|exact LeO.refl _|exact LeO.none _|refine LeO.ite ?_ ?_|refine LeO.bind ?_ (fun _ => ?_))
  ·intro y0 y1 y2
   unfold codesearchlaw33_ManifestStarts.l0
   repeat' (with_reducible first|exact ih2 _ _ _ _ _|exact LeO.refl _|exact LeO.none _|refine LeO.ite ?_ ?_|refine LeO.bind ?_ (fun _ => ?_))
  ·intro y0 y1 y2 y3 y4
   unfold codesearchlaw33_ManifestStarts.l1
   repeat' (with_reducible first|exact ih1 _ _ _|exact ih2 _ _ _ _ _|exact LeO.refl _|exact LeO.none _|refine LeO.ite ?_ ?_|refine LeO.bind ?_ (fun _ => ?_))
theorem codesearchlaw33_ManifestStarts.mono : ∀ a0 a1 k, LeO (codesearchlaw33_ManifestStarts.f k a0 a1) (codesearchlaw33_ManifestStarts.f (k + 1) a0 a1) := by
 intro a0 a1 k
 obtain ⟨ih0,ih1,ih2⟩ := codesearchlaw33_ManifestStarts.mono_l k
 unfold codesearchlaw33_ManifestStarts.f
 repeat' first
  |(with_reducible exact ih0 _ _)
  |(with_reducible exact ih1 _ _ _)
  |(with_reducible exact ih2 _ _ _ _ _)
  |(with_reducible exact codesearchlaw33_alive.mono _)
  |(with_reducible exact codesearchlaw33_small.mono _ _)
  |(with_reducible exact manifest_Live.mono _ _)
  |(with_reducible exact manifest_Right.mono _ _)
  |(with_reducible exact LeO.refl _)
  |(with_reducible exact LeO.none _)
  |(with_reducible refine LeO.ite ?_ ?_)
  |(with_reducible refine LeO.bind ?_ (fun _ => ?_))
  |exact ih0 _ _
  |exact ih1 _ _ _
  |exact ih2 _ _ _ _ _
  |exact codesearchlaw33_alive.mono _
  |exact codesearchlaw33_small.mono _ _
  |exact manifest_Live.mono _ _
  |exact manifest_Right.mono _ _
  |exact LeO.none _
  |refine LeO.ite ?_ ?_
  |refine LeO.bind ?_ (fun _ => ?_)
set_option maxHeartbeats 4000000 in
set_option maxRecDepth 100000 in
theorem codesearchlaw33_ManifestStarts.calls (k : Nat) (A0 : Option Addr) (c0 : Nat) (l0 : List (S37)) (a1 : Int) (r : Bool) (w : World) (hr0 : Kd.C k37 w A0 l0.length l0) (hc0 : l0.length ≤ c0) (h : codesearchlaw33_ManifestStarts.f k l0 a1 = some r) :
  Calls Tryd.prog 6 #[.slice A0 l0.length c0,.int .u8 a1] w fun e w' => e = .returned (.bool r) ∧ Below w.heap.size w w' := by
 have HR0 := aK hr0
 have HC0 := aK hc0
 clear hr0 hc0
 have HB := aK (Below.refl w.heap.size w)
 unfold codesearchlaw33_ManifestStarts.f at h
 have H := h
 clear h
 replace H := Option.bind_eq_some_iff.mp H
 obtain ⟨t617,A30,H⟩ := H
 have A3 := aK A30
 clear A30
 by_cases c4 : t617 = true
 ·subst c4
  rw [if_pos rfl] at H
  replace H := Option.bind_eq_some_iff.mp H
  obtain ⟨t618,A50,H⟩ := H
  have A5 := aK A50
  clear A50
  by_cases c6 : t618 = true
  ·subst c6
   rw [if_pos rfl] at H
   by_cases c7 : (wrap64 ((l0.length : Int) + 1)) = 0
   ·rw [if_pos c7] at H
    exact absurd H (by simp)
   ·rw [if_neg c7] at H
    have c7b0 : ((wrap64 ((l0.length : Int) + 1)) == 0) = false := beq_eq_false_iff_ne.mpr c7
    have c7b1 : ((wrap64 ((l0.length : Int) + 1)) != 0) = true := bne_iff_ne.mpr c7
    have HC8 := aK H
    clear H
    go_enter Tryd.func6,Tryd.ntmps6
    go_upto_region 6 with (first|(go_at_call 7;(with_reducible refine (codesearchlaw33_alive.calls k  true _ A3.out).mono ?_);rintro e w9 ⟨rfl,hb⟩;replace HB := aK (below_step (bM HB.out) hb);(try clear hb))|(go_at_call 8;(with_reducible refine (codesearchlaw33_small.calls k _ _ l0 true _ ?side1 ?side2 A5.out).mono ?_);(case side1 => exact cM (Kd.C_below HR0.out HB.out));(case side2 => exact HC0.out);rintro e w' ⟨rfl,⟨nd,rfl⟩⟩;(try first|exact ⟨rfl,_,World.drewN_drewN _ _ _⟩|exact ⟨rfl,_,Eq.trans (World.drewN_drewN _ _ _) (congrArg (World.drewN _) (Nat.add_assoc _ _ _))⟩)))
    repeat (go_quiet (first|(go_at_call 7;(with_reducible refine (codesearchlaw33_alive.calls k  true _ A3.out).mono ?_);rintro e w9 ⟨rfl,hb⟩;replace HB := aK (below_step (bM HB.out) hb);(try clear hb))|(go_at_call 8;(with_reducible refine (codesearchlaw33_small.calls k _ _ l0 true _ ?side1 ?side2 A5.out).mono ?_);(case side1 => exact cM (Kd.C_below HR0.out HB.out));(case side2 => exact HC0.out);rintro e w' ⟨rfl,⟨nd,rfl⟩⟩;(try first|exact ⟨rfl,_,World.drewN_drewN _ _ _⟩|exact ⟨rfl,_,Eq.trans (World.drewN_drewN _ _ _) (congrArg (World.drewN _) (Nat.add_assoc _ _ _))⟩)));go_upto_region 6 with (first|(go_at_call 7;(with_reducible refine (codesearchlaw33_alive.calls k  true _ A3.out).mono ?_);rintro e w9 ⟨rfl,hb⟩;replace HB := aK (below_step (bM HB.out) hb);(try clear hb))|(go_at_call 8;(with_reducible refine (codesearchlaw33_small.calls k _ _ l0 true _ ?side1 ?side2 A5.out).mono ?_);(case side1 => exact cM (Kd.C_below HR0.out HB.out));(case side2 => exact HC0.out);rintro e w' ⟨rfl,⟨nd,rfl⟩⟩;(try first|exact ⟨rfl,_,World.drewN_drewN _ _ _⟩|exact ⟨rfl,_,Eq.trans (World.drewN_drewN _ _ _) (congrArg (World.drewN _) (Nat.add_assoc _ _ _))⟩))))
    (try simp only [Act.put,List.setIfInBounds_toArray,List.set_cons_zero,List.set_cons_succ])
    go_cut [30] (fun v30 wc => ∃ (kq : Nat) (x30_7 : Bool),v30 = .bool x30_7 ∧ Aside0 (codesearchlaw33_ManifestStarts.j0 kq l0 x30_7 = some r) ∧ Aside0 (kq ≤ k) ∧ Aside0 (Below w.heap.size w wc))
    case first =>
     have H := HC8.out
     clear HC8
     replace H := Option.bind_eq_some_iff.mp H
     obtain ⟨t619,A100,H⟩ := H
     have A10 := aK A100
     clear A100
     by_cases c11 : t619 = 0
     ·rw [if_pos c11] at H
      have c11b0 : (t619 == 0) = true := beq_iff_eq.mpr c11
      have c11b1 : (t619 != 0) = false := bne_eq_false_iff_eq.mpr c11
      clear c11
      (first|rw [c11b0]|(simp only [i64_w,i32_w];rw [c11b0])|rw [c11b1]|skip)
      obtain ⟨ji12,hji12⟩ : ∃ j_ : Int,(Int.tmod (wrap64 (a1)) (wrap64 ((l0.length : Int) + 1))) = j_ := ⟨_,rfl⟩
      replace H : (if 0 ≤ (ji12) then (if (ji12) ≤ (l0.length : Int) then ((manifest_Right.f k (l0.take ((ji12) : Int).toNat)).bind fun t624 => (codesearchlaw33_ManifestStarts.j0 k l0 (t624 != 0))) else (none)) else (none)) = some r := by first|(rw [hji12] at H;exact H)|(simp only [hji12] at H ⊢;exact H)
      (try rw [hji12] at A10)
      by_cases c13 : 0 ≤ (ji12)
      ·rw [if_pos c13] at H
       have c13b0 := eq_true c13
       have c13b1 : decide (0 ≤ (ji12)) = true := decide_eq_true c13
       clear c13
       by_cases c14 : (ji12) ≤ (l0.length : Int)
       ·rw [if_pos c14] at H
        have c14b0 := eq_true c14
        have c14b1 : decide ((ji12) ≤ (l0.length : Int)) = true := decide_eq_true c14
        clear c14
        obtain ⟨y620,hy620⟩ : ∃ y_ : List (S37),y_ = (l0.take ((ji12) : Int).toNat) := ⟨_,rfl⟩
        replace H : ((manifest_Right.f k y620).bind fun t624 => (codesearchlaw33_ManifestStarts.j0 k l0 (t624 != 0))) = some r := by first|(rw [hy620];with_reducible exact H)|(have H2_ := (Option.bind_some _ _).symm.trans H;rw [hy620];with_reducible exact H2_)|(have H2_ := (Option.bind_some _ _).symm.trans H;with_reducible exact H2_)|with_reducible exact H|(rw [hy620];exact H)|exact H
        have Ny620 := aK hy620
        clear hy620
        replace H := Option.bind_eq_some_iff.mp H
        obtain ⟨t624,A150,H⟩ := H
        have A15 := aK A150
        clear A150
        have H' := aK H
        clear H
        go_wp2_with (first|(go_at_call 21;(with_reducible refine (manifest_Right.calls k _ _ l0 t619 _ ?side1 ?side2 A10.out).mono ?_);(case side1 => exact cM (Kd.C_below HR0.out HB.out));(case side2 => exact HC0.out);rintro e w16 ⟨rfl,hb⟩;replace HB := aK (below_step (bM HB.out) hb);(try clear hb);have q17 : ((ji12) : Int) ≤ ((l0.length : Int) : Int) := of_decide_eq_true (by first|(with_reducible assumption)|assumption);obtain ⟨i017,hi017,_,hsz17,_⟩ := info_parts info37;have hroom17 : l0.length ≤ c0 := HC0.out;have hC17 : Kd.C k37 _ A0 l0.length l0 := HR0.out;have hcut17 := cut_to (P := Tryd.prog) 22 37 .i64 Tryd.underlying22 hi017 A0 l0.length c0 (ji12) (of_decide_eq_true (by first|(with_reducible assumption)|assumption)) q17 hroom17;have hr17 := Kd.C_take (m := ((ji12) : Int).toNat) hC17 (by omega);have hy17 : y620.length = ((ji12) : Int).toNat := (by rw [Ny620.out,List.length_take];omega);rw [← Ny620.out] at hr17;rw [← hy17] at hcut17;have HR623 := aK hr17;have HC623 := aK (show y620.length ≤ c0 from by omega);clear hr17 hC17 hroom17 hi017 hsz17;have KY17 := aK hy17;clear hy17;replace q17 := eq_true q17)|(go_at_call 21;(with_reducible refine (manifest_Right.calls k _ _ y620 t624 _ ?side1 ?side2 A15.out).mono ?_);(case side1 => exact cM (Kd.C_below HR623.out HB.out));(case side2 => exact HC623.out);rintro e w18 ⟨rfl,hb⟩;replace HB := aK (below_step (bM HB.out) hb);(try clear hb)))
        repeat (go_quiet (first|(go_at_call 21;(with_reducible refine (manifest_Right.calls k _ _ l0 t619 _ ?side1 ?side2 A10.out).mono ?_);(case side1 => exact cM (Kd.C_below HR0.out HB.out));(case side2 => exact HC0.out);rintro e w16 ⟨rfl,hb⟩;replace HB := aK (below_step (bM HB.out) hb);(try clear hb);have q17 : ((ji12) : Int) ≤ ((l0.length : Int) : Int) := of_decide_eq_true (by first|(with_reducible assumption)|assumption);obtain ⟨i017,hi017,_,hsz17,_⟩ := info_parts info37;have hroom17 : l0.length ≤ c0 := HC0.out;have hC17 : Kd.C k37 _ A0 l0.length l0 := HR0.out;have hcut17 := cut_to (P := Tryd.prog) 22 37 .i64 Tryd.underlying22 hi017 A0 l0.length c0 (ji12) (of_decide_eq_true (by first|(with_reducible assumption)|assumption)) q17 hroom17;have hr17 := Kd.C_take (m := ((ji12) : Int).toNat) hC17 (by omega);have hy17 : y620.length = ((ji12) : Int).toNat := (by rw [Ny620.out,List.length_take];omega);rw [← Ny620.out] at hr17;rw [← hy17] at hcut17;have HR623 := aK hr17;have HC623 := aK (show y620.length ≤ c0 from by omega);clear hr17 hC17 hroom17 hi017 hsz17;have KY17 := aK hy17;clear hy17;replace q17 := eq_true q17)|(go_at_call 21;(with_reducible refine (manifest_Right.calls k _ _ y620 t624 _ ?side1 ?side2 A15.out).mono ?_);(case side1 => exact cM (Kd.C_below HR623.out HB.out));(case side2 => exact HC623.out);rintro e w18 ⟨rfl,hb⟩;replace HB := aK (below_step (bM HB.out) hb);(try clear hb)));try go_wp2_with (first|(go_at_call 21;(with_reducible refine (manifest_Right.calls k _ _ l0 t619 _ ?side1 ?side2 A10.out).mono ?_);(case side1 => exact cM (Kd.C_below HR0.out HB.out));(case side2 => exact HC0.out);rintro e w16 ⟨rfl,hb⟩;replace HB := aK (below_step (bM HB.out) hb);(try clear hb);have q17 : ((ji12) : Int) ≤ ((l0.length : Int) : Int) := of_decide_eq_true (by first|(with_reducible assumption)|assumption);obtain ⟨i017,hi017,_,hsz17,_⟩ := info_parts info37;have hroom17 : l0.length ≤ c0 := HC0.out;have hC17 : Kd.C k37 _ A0 l0.length l0 := HR0.out;have hcut17 := cut_to (P := Tryd.prog) 22 37 .i64 Tryd.underlying22 hi017 A0 l0.length c0 (ji12) (of_decide_eq_true (by first|(with_reducible assumption)|assumption)) q17 hroom17;have hr17 := Kd.C_take (m := ((ji12) : Int).toNat) hC17 (by omega);have hy17 : y620.length = ((ji12) : Int).toNat := (by rw [Ny620.out,List.length_take];omega);rw [← Ny620.out] at hr17;rw [← hy17] at hcut17;have HR623 := aK hr17;have HC623 := aK (show y620.length ≤ c0 from by omega);clear hr17 hC17 hroom17 hi017 hsz17;have KY17 := aK hy17;clear hy17;replace q17 := eq_true q17)|(go_at_call 21;(with_reducible refine (manifest_Right.calls k _ _ y620 t624 _ ?side1 ?side2 A15.out).mono ?_);(case side1 => exact cM (Kd.C_below HR623.out HB.out));(case side2 => exact HC623.out);rintro e w18 ⟨rfl,hb⟩;replace HB := aK (below_step (bM HB.out) hb);(try clear hb))))
        (try subst hji12;try subst hji38)
        go_meet
        case rel => exact ⟨_,((t624 != 0)),(by first|rfl|(simp;done)|(simp [*];done)),H',⟨by first|omega|exact Nat.le_refl _⟩,⟨bM HB.out⟩⟩
       ·rw [if_neg c14] at H
        exact absurd H (by simp)
      ·rw [if_neg c13] at H
       exact absurd H (by simp)
     ·rw [if_neg c11] at H
      have c11b0 : (t619 == 0) = false := beq_eq_false_iff_ne.mpr c11
      have c11b1 : (t619 != 0) = true := bne_iff_ne.mpr c11
      (first|rw [c11b0]|(simp only [i64_w,i32_w];rw [c11b0])|rw [c11b1]|skip)
      have H' := aK H
      clear H
      go_wp2_with (first|(go_at_call 21;(with_reducible refine (manifest_Right.calls k _ _ l0 t619 _ ?side1 ?side2 A10.out).mono ?_);(case side1 => exact cM (Kd.C_below HR0.out HB.out));(case side2 => exact HC0.out);rintro e w19 ⟨rfl,hb⟩;replace HB := aK (below_step (bM HB.out) hb);(try clear hb)))
      repeat (go_quiet (first|(go_at_call 21;(with_reducible refine (manifest_Right.calls k _ _ l0 t619 _ ?side1 ?side2 A10.out).mono ?_);(case side1 => exact cM (Kd.C_below HR0.out HB.out));(case side2 => exact HC0.out);rintro e w19 ⟨rfl,hb⟩;replace HB := aK (below_step (bM HB.out) hb);(try clear hb)));try go_wp2_with (first|(go_at_call 21;(with_reducible refine (manifest_Right.calls k _ _ l0 t619 _ ?side1 ?side2 A10.out).mono ?_);(case side1 => exact cM (Kd.C_below HR0.out HB.out));(case side2 => exact HC0.out);rintro e w19 ⟨rfl,hb⟩;replace HB := aK (below_step (bM HB.out) hb);(try clear hb))))
      (try subst hji12;try subst hji38)
      go_meet
      case rel => exact ⟨_,(false),(by first|rfl|(simp;done)|(simp [*];done)),H',⟨by first|omega|exact Nat.le_refl _⟩,⟨bM HB.out⟩⟩
    case rest =>
     clear HC8
     try clear c1
     try clear q1
     try clear p2
     try clear c4
     try clear c6
     try clear p6
     try clear c7
     try clear c7b0
     try clear c7b1
     try clear c11
     try clear c11b0
     try clear c11b1
     try clear c13
     try clear c13b0
     try clear c13b1
     try clear c14
     try clear c14b0
     try clear c14b1
     try clear q17
     try clear q17
     obtain ⟨kq,x30_7,rfl,HA,HJ7,HB⟩ := hcut
     cases kq with
    |zero => exact absurd HA.out (by simp [codesearchlaw33_ManifestStarts.j0])
    |succ kj7 =>
      have H := HA.out
      clear HA
      simp only [codesearchlaw33_ManifestStarts.j0] at H
      by_cases c20 : x30_7 = true
      ·subst c20
       rw [if_pos rfl] at H
       obtain rfl := Option.some.inj H
       go_wp2
       repeat (go_quiet (fail);try go_wp2)
       go_ret
       exact ⟨by first|rfl|(simp [errW_none,errW_some] <;> rfl)|(simp [*,errW_none,errW_some] <;> rfl),bM HB.out⟩
      ·replace c20 := Bool.eq_false_iff.mpr c20
       subst c20
       rw [if_neg (show ¬ (false = true) by decide)] at H
       replace H := Option.bind_eq_some_iff.mp H
       obtain ⟨t625,A210,H⟩ := H
       have A21 := aK A210
       clear A210
       have H' := aK H
       clear H
       go_wp2_with (first|(go_at_call 10;(with_reducible refine (manifest_Live.calls kj7 _ _ l0 t625 _ ?side1 ?side2 A21.out).mono ?_);(case side1 => exact cM (Kd.C_below HR0.out HB.out));(case side2 => exact HC0.out);rintro e w22 ⟨v626,rfl,ho0,hb⟩;have HO627 := aK (Kd.R_lower ho0 (below_size (bM HB.out)));replace HB := aK (below_step (bM HB.out) hb);(try clear hb);(try clear ho0)))
       repeat (go_quiet (first|(go_at_call 10;(with_reducible refine (manifest_Live.calls kj7 _ _ l0 t625 _ ?side1 ?side2 A21.out).mono ?_);(case side1 => exact cM (Kd.C_below HR0.out HB.out));(case side2 => exact HC0.out);rintro e w22 ⟨v626,rfl,ho0,hb⟩;have HO627 := aK (Kd.R_lower ho0 (below_size (bM HB.out)));replace HB := aK (below_step (bM HB.out) hb);(try clear hb);(try clear ho0)));try go_wp2_with (first|(go_at_call 10;(with_reducible refine (manifest_Live.calls kj7 _ _ l0 t625 _ ?side1 ?side2 A21.out).mono ?_);(case side1 => exact cM (Kd.C_below HR0.out HB.out));(case side2 => exact HC0.out);rintro e w22 ⟨v626,rfl,ho0,hb⟩;have HO627 := aK (Kd.R_lower ho0 (below_size (bM HB.out)));replace HB := aK (below_step (bM HB.out) hb);(try clear hb);(try clear ho0))))
       go_loopg [7] kj7 (fun kq v7 w' => ∃ (x7_2 : Int),v7 = .int .i64 x7_2 ∧ Aside0 (codesearchlaw33_ManifestStarts.l0 kq l0 t625 x7_2 = some r) ∧ Aside0 (kq ≤ kj7) ∧ Aside0 (Kd.R (Kd.int .i64) 3 w' w.heap.size (fun _ => True) v626 t625) ∧ Aside0 (Below w.heap.size w w'))
       case atStart => exact ⟨(0),(by first|rfl|(simp;done)|(simp [*];done)),H',⟨Nat.le_refl _⟩,⟨rM HO627.out⟩,⟨bM HB.out⟩⟩
       case round =>
        clear H'
        try clear c1
        try clear q1
        try clear c2
        try clear p2
        try clear c4
        try clear c6
        try clear p6
        try clear c7
        try clear c7b0
        try clear c7b1
        try clear c11
        try clear c11b0
        try clear c11b1
        try clear c13
        try clear c13b0
        try clear c13b1
        try clear c14
        try clear c14b0
        try clear c14b1
        try clear q17
        try clear c20
        try clear p2
        try clear p6
        try clear q1
        try clear q17
        obtain ⟨x7_2,rfl,HA,HK2,HO_6,HB⟩ := hrel
        cases gk with
       |zero => exact absurd HA.out (by simp [codesearchlaw33_ManifestStarts.l0])
       |succ k2 =>
         have H := HA.out
         clear HA
         simp only [codesearchlaw33_ManifestStarts.l0] at H
         by_cases c23 : x7_2 < (t625.length : Int)
         ·rw [if_pos c23] at H
          have c23b0 : decide (x7_2 < (t625.length : Int)) = true := decide_eq_true c23
          clear c23
          have H' := aK H
          clear H
          obtain ⟨Ao24,co24,eo24⟩ := Kd.R_slice HO_6.out
          subst eo24
          go_wp2
          repeat (go_quiet (fail);try go_wp2)
          go_loopg [8,9] k2 (fun kq v8 v9 w' => ∃ (x8_3 : Bool) (x9_3 : Int),v8 = .bool x8_3 ∧ v9 = .int .i64 x9_3 ∧ Aside0 (codesearchlaw33_ManifestStarts.l1 kq l0 t625 x7_2 x8_3 x9_3 = some r) ∧ Aside0 (kq ≤ k2) ∧ Aside0 (Kd.R (Kd.int .i64) 3 w' w.heap.size (fun _ => True) (.slice Ao24 t625.length co24) t625) ∧ Aside0 (Below w.heap.size w w'))
          case atStart => exact ⟨(false),(0),(by first|rfl|(simp;done)|(simp [*];done)),(by first|rfl|(simp;done)|(simp [*];done)),H',⟨Nat.le_refl _⟩,⟨rM HO_6.out⟩,⟨bM HB.out⟩⟩
          case round =>
           clear H'
           try clear c1
           try clear q1
           try clear c2
           try clear p2
           try clear c4
           try clear c6
           try clear p6
           try clear c7
           try clear c7b0
           try clear c7b1
           try clear c11
           try clear c11b0
           try clear c11b1
           try clear c13
           try clear c13b0
           try clear c13b1
           try clear c14
           try clear c14b0
           try clear c14b1
           try clear q17
           try clear c20
           try clear c23
           try clear c23b0
           try clear p2
           try clear p6
           try clear q1
           try clear q17
           obtain ⟨x8_3,x9_3,rfl,rfl,HA,HK3,HO_6,HB⟩ := hrel
           cases gk with
          |zero => exact absurd HA.out (by simp [codesearchlaw33_ManifestStarts.l1])
          |succ k3 =>
            have H := HA.out
            clear HA
            simp only [codesearchlaw33_ManifestStarts.l1] at H
            by_cases c25 : x9_3 < (l0.length : Int)
            ·rw [if_pos c25] at H
             have c25b0 : decide (x9_3 < (l0.length : Int)) = true := decide_eq_true c25
             clear c25
             by_cases c26 : x8_3 = true
             ·subst c26
              rw [if_pos rfl] at H
              have H' := aK H
              clear H
              go_wp2
              repeat (go_quiet (fail);try go_wp2)
              go_roundg k3
              case measure => have := HJ7.out;have := HK2.out;have := HK3.out;omega
              case rel => exact ⟨(true),(wrap64 (x9_3 + 1)),(by first|rfl|(simp;done)|(simp [*];done)),(by first|rfl|(simp;done)|(simp [*];done)),H',⟨by have := HJ7.out;have := HK2.out;have := HK3.out;omega⟩,⟨rM HO_6.out⟩,⟨bM HB.out⟩⟩
             ·replace c26 := Bool.eq_false_iff.mpr c26
              subst c26
              rw [if_neg (show ¬ (false = true) by decide)] at H
              by_cases c27 : 0 ≤ x9_3
              ·rw [if_pos c27] at H
               have c27b0 : decide (0 ≤ x9_3) = true := decide_eq_true c27
               clear c27
               by_cases c28 : ((rd_T37 l0 x9_3).f1) = 1
               ·rw [if_pos c28] at H
                have c28b0 : (((rd_T37 l0 x9_3).f1) == 1) = true := beq_iff_eq.mpr c28
                have c28b1 : (((rd_T37 l0 x9_3).f1) != 1) = false := bne_eq_false_iff_eq.mpr c28
                clear c28
                by_cases c29 : 0 ≤ x7_2
                ·rw [if_pos c29] at H
                 have c29b0 : decide (0 ≤ x7_2) = true := decide_eq_true c29
                 clear c29
                 by_cases c30 : x7_2 < (t625.length : Int)
                 ·rw [if_pos c30] at H
                  have c30b0 : decide (x7_2 < (t625.length : Int)) = true := decide_eq_true c30
                  clear c30
                  have H' := aK H
                  clear H
                  have p628 : 0 ≤ (x9_3 : Int) := of_decide_eq_true (by first|(with_reducible assumption)|assumption)
                  have q628 : x9_3 < (l0.length : Int) := of_decide_eq_true (by first|(with_reducible assumption)|assumption)
                  obtain ⟨ad628,A628_3,c628_3,A628_4,c628_4,A628_5,c628_5,e628,hx628_0,hx628_1,hx628_2,hx628_3,hx628_4,hx628_5,hl628_3,hi628_3,hl628_4,hi628_4,hl628_5,hi628_5⟩ := at_T37 HR0.out x9_3 p628 q628
                  cases e628
                  replace hx628_0 := (HB.out.cell (World.block_lt_of_cell? w _ hx628_0)).trans hx628_0
                  replace hx628_1 := (HB.out.cell (World.block_lt_of_cell? w _ hx628_1)).trans hx628_1
                  replace hx628_2 := (HB.out.cell (World.block_lt_of_cell? w _ hx628_2)).trans hx628_2
                  replace hx628_3 := (HB.out.cell (World.block_lt_of_cell? w _ hx628_3)).trans hx628_3
                  replace hx628_4 := (HB.out.cell (World.block_lt_of_cell? w _ hx628_4)).trans hx628_4
                  replace hx628_5 := (HB.out.cell (World.block_lt_of_cell? w _ hx628_5)).trans hx628_5
                  have HR628_3 := aK hi628_3
                  have HC628_3 := aK hl628_3
                  clear hi628_3 hl628_3
                  have HR628_4 := aK hi628_4
                  have HC628_4 := aK hl628_4
                  clear hi628_4 hl628_4
                  have HR628_5 := aK hi628_5
                  have HC628_5 := aK hl628_5
                  clear hi628_5 hl628_5
                  replace p628 := eq_true p628
                  replace q628 := eq_true q628
                  have p629 : 0 ≤ (x9_3 : Int) := of_decide_eq_true (by first|(with_reducible assumption)|assumption)
                  have q629 : x9_3 < (l0.length : Int) := of_decide_eq_true (by first|(with_reducible assumption)|assumption)
                  obtain ⟨ad629,A629_3,c629_3,A629_4,c629_4,A629_5,c629_5,e629,hx629_0,hx629_1,hx629_2,hx629_3,hx629_4,hx629_5,hl629_3,hi629_3,hl629_4,hi629_4,hl629_5,hi629_5⟩ := at_T37 HR0.out x9_3 p629 q629
                  obtain rfl : ad628 = ad629 := (by injection e629)
                  replace hx629_0 := (HB.out.cell (World.block_lt_of_cell? w _ hx629_0)).trans hx629_0
                  replace hx629_1 := (HB.out.cell (World.block_lt_of_cell? w _ hx629_1)).trans hx629_1
                  replace hx629_2 := (HB.out.cell (World.block_lt_of_cell? w _ hx629_2)).trans hx629_2
                  replace hx629_3 := (HB.out.cell (World.block_lt_of_cell? w _ hx629_3)).trans hx629_3
                  replace hx629_4 := (HB.out.cell (World.block_lt_of_cell? w _ hx629_4)).trans hx629_4
                  replace hx629_5 := (HB.out.cell (World.block_lt_of_cell? w _ hx629_5)).trans hx629_5
                  have HR629_3 := aK hi629_3
                  have HC629_3 := aK hl629_3
                  clear hi629_3 hl629_3
                  have HR629_4 := aK hi629_4
                  have HC629_4 := aK hl629_4
                  clear hi629_4 hl629_4
                  have HR629_5 := aK hi629_5
                  have HC629_5 := aK hl629_5
                  clear hi629_5 hl629_5
                  replace p629 := eq_true p629
                  replace q629 := eq_true q629
                  have ea_ := Option.some.inj (hx628_3.symm.trans hx629_3)
                  injection ea_ with ea_ en_ ec_
                  subst ea_
                  subst ec_
                  clear en_
                  have ea_ := Option.some.inj (hx628_4.symm.trans hx629_4)
                  injection ea_ with ea_ en_ ec_
                  subst ea_
                  subst ec_
                  clear en_
                  have ea_ := Option.some.inj (hx628_5.symm.trans hx629_5)
                  injection ea_ with ea_ en_ ec_
                  subst ea_
                  subst ec_
                  clear en_
                  have p630 : 0 ≤ (x7_2 : Int) := of_decide_eq_true (by first|(with_reducible assumption)|assumption)
                  have q630 : x7_2 < (t625.length : Int) := of_decide_eq_true (by first|(with_reducible assumption)|assumption)
                  obtain ⟨ad630,e630,hx630_0⟩ := Kd.at_int (Kd.R_reads' HO_6.out).2.2 x7_2 p630 q630
                  cases e630
                  replace p630 := eq_true p630
                  replace q630 := eq_true q630
                  go_wp2
                  repeat (go_quiet (fail);try go_wp2)
                  go_roundg k3
                  case measure => have := HJ7.out;have := HK2.out;have := HK3.out;omega
                  case rel => exact ⟨((((rd_T37 l0 x9_3).f2) == (rd t625 x7_2))),(wrap64 (x9_3 + 1)),(by first|rfl|(simp;done)|(simp [*];done)),(by first|rfl|(simp;done)|(simp [*];done)),H',⟨by have := HJ7.out;have := HK2.out;have := HK3.out;omega⟩,⟨rM HO_6.out⟩,⟨bM HB.out⟩⟩
                 ·rw [if_neg c30] at H
                  exact absurd H (by simp)
                ·rw [if_neg c29] at H
                 exact absurd H (by simp)
               ·rw [if_neg c28] at H
                have c28b0 : (((rd_T37 l0 x9_3).f1) == 1) = false := beq_eq_false_iff_ne.mpr c28
                have c28b1 : (((rd_T37 l0 x9_3).f1) != 1) = true := bne_iff_ne.mpr c28
                by_cases c31 : ((rd_T37 l0 x9_3).f1) = 3
                ·rw [if_pos c31] at H
                 have c31b0 : (((rd_T37 l0 x9_3).f1) == 3) = true := beq_iff_eq.mpr c31
                 have c31b1 : (((rd_T37 l0 x9_3).f1) != 3) = false := bne_eq_false_iff_eq.mpr c31
                 clear c31
                 by_cases c32 : 0 ≤ x7_2
                 ·rw [if_pos c32] at H
                  have c32b0 : decide (0 ≤ x7_2) = true := decide_eq_true c32
                  clear c32
                  by_cases c33 : x7_2 < (t625.length : Int)
                  ·rw [if_pos c33] at H
                   have c33b0 : decide (x7_2 < (t625.length : Int)) = true := decide_eq_true c33
                   clear c33
                   have H' := aK H
                   clear H
                   have p628 : 0 ≤ (x9_3 : Int) := of_decide_eq_true (by first|(with_reducible assumption)|assumption)
                   have q628 : x9_3 < (l0.length : Int) := of_decide_eq_true (by first|(with_reducible assumption)|assumption)
                   obtain ⟨ad628,A628_3,c628_3,A628_4,c628_4,A628_5,c628_5,e628,hx628_0,hx628_1,hx628_2,hx628_3,hx628_4,hx628_5,hl628_3,hi628_3,hl628_4,hi628_4,hl628_5,hi628_5⟩ := at_T37 HR0.out x9_3 p628 q628
                   cases e628
                   replace hx628_0 := (HB.out.cell (World.block_lt_of_cell? w _ hx628_0)).trans hx628_0
                   replace hx628_1 := (HB.out.cell (World.block_lt_of_cell? w _ hx628_1)).trans hx628_1
                   replace hx628_2 := (HB.out.cell (World.block_lt_of_cell? w _ hx628_2)).trans hx628_2
                   replace hx628_3 := (HB.out.cell (World.block_lt_of_cell? w _ hx628_3)).trans hx628_3
                   replace hx628_4 := (HB.out.cell (World.block_lt_of_cell? w _ hx628_4)).trans hx628_4
                   replace hx628_5 := (HB.out.cell (World.block_lt_of_cell? w _ hx628_5)).trans hx628_5
                   have HR628_3 := aK hi628_3
                   have HC628_3 := aK hl628_3
                   clear hi628_3 hl628_3
                   have HR628_4 := aK hi628_4
                   have HC628_4 := aK hl628_4
                   clear hi628_4 hl628_4
                   have HR628_5 := aK hi628_5
                   have HC628_5 := aK hl628_5
                   clear hi628_5 hl628_5
                   replace p628 := eq_true p628
                   replace q628 := eq_true q628
                   have p631 : 0 ≤ (x9_3 : Int) := of_decide_eq_true (by first|(with_reducible assumption)|assumption)
                   have q631 : x9_3 < (l0.length : Int) := of_decide_eq_true (by first|(with_reducible assumption)|assumption)
                   obtain ⟨ad631,A631_3,c631_3,A631_4,c631_4,A631_5,c631_5,e631,hx631_0,hx631_1,hx631_2,hx631_3,hx631_4,hx631_5,hl631_3,hi631_3,hl631_4,hi631_4,hl631_5,hi631_5⟩ := at_T37 HR0.out x9_3 p631 q631
                   obtain rfl : ad628 = ad631 := (by injection e631)
                   replace hx631_0 := (HB.out.cell (World.block_lt_of_cell? w _ hx631_0)).trans hx631_0
                   replace hx631_1 := (HB.out.cell (World.block_lt_of_cell? w _ hx631_1)).trans hx631_1
                   replace hx631_2 := (HB.out.cell (World.block_lt_of_cell? w _ hx631_2)).trans hx631_2
                   replace hx631_3 := (HB.out.cell (World.block_lt_of_cell? w _ hx631_3)).trans hx631_3
                   replace hx631_4 := (HB.out.cell (World.block_lt_of_cell? w _ hx631_4)).trans hx631_4
                   replace hx631_5 := (HB.out.cell (World.block_lt_of_cell? w _ hx631_5)).trans hx631_5
                   have HR631_3 := aK hi631_3
                   have HC631_3 := aK hl631_3
                   clear hi631_3 hl631_3
                   have HR631_4 := aK hi631_4
                   have HC631_4 := aK hl631_4
                   clear hi631_4 hl631_4
                   have HR631_5 := aK hi631_5
                   have HC631_5 := aK hl631_5
                   clear hi631_5 hl631_5
                   replace p631 := eq_true p631
                   replace q631 := eq_true q631
                   have ea_ := Option.some.inj (hx628_3.symm.trans hx631_3)
                   injection ea_ with ea_ en_ ec_
                   subst ea_
                   subst ec_
                   clear en_
                   have ea_ := Option.some.inj (hx628_4.symm.trans hx631_4)
                   injection ea_ with ea_ en_ ec_
                   subst ea_
                   subst ec_
                   clear en_
                   have ea_ := Option.some.inj (hx628_5.symm.trans hx631_5)
                   injection ea_ with ea_ en_ ec_
                   subst ea_
                   subst ec_
                   clear en_
                   have p632 : 0 ≤ (x9_3 : Int) := of_decide_eq_true (by first|(with_reducible assumption)|assumption)
                   have q632 : x9_3 < (l0.length : Int) := of_decide_eq_true (by first|(with_reducible assumption)|assumption)
                   obtain ⟨ad632,A632_3,c632_3,A632_4,c632_4,A632_5,c632_5,e632,hx632_0,hx632_1,hx632_2,hx632_3,hx632_4,hx632_5,hl632_3,hi632_3,hl632_4,hi632_4,hl632_5,hi632_5⟩ := at_T37 HR0.out x9_3 p632 q632
                   obtain rfl : ad628 = ad632 := (by injection e632)
                   replace hx632_0 := (HB.out.cell (World.block_lt_of_cell? w _ hx632_0)).trans hx632_0
                   replace hx632_1 := (HB.out.cell (World.block_lt_of_cell? w _ hx632_1)).trans hx632_1
                   replace hx632_2 := (HB.out.cell (World.block_lt_of_cell? w _ hx632_2)).trans hx632_2
                   replace hx632_3 := (HB.out.cell (World.block_lt_of_cell? w _ hx632_3)).trans hx632_3
                   replace hx632_4 := (HB.out.cell (World.block_lt_of_cell? w _ hx632_4)).trans hx632_4
                   replace hx632_5 := (HB.out.cell (World.block_lt_of_cell? w _ hx632_5)).trans hx632_5
                   have HR632_3 := aK hi632_3
                   have HC632_3 := aK hl632_3
                   clear hi632_3 hl632_3
                   have HR632_4 := aK hi632_4
                   have HC632_4 := aK hl632_4
                   clear hi632_4 hl632_4
                   have HR632_5 := aK hi632_5
                   have HC632_5 := aK hl632_5
                   clear hi632_5 hl632_5
                   replace p632 := eq_true p632
                   replace q632 := eq_true q632
                   have ea_ := Option.some.inj (hx628_3.symm.trans hx632_3)
                   injection ea_ with ea_ en_ ec_
                   subst ea_
                   subst ec_
                   clear en_
                   have ea_ := Option.some.inj (hx628_4.symm.trans hx632_4)
                   injection ea_ with ea_ en_ ec_
                   subst ea_
                   subst ec_
                   clear en_
                   have ea_ := Option.some.inj (hx628_5.symm.trans hx632_5)
                   injection ea_ with ea_ en_ ec_
                   subst ea_
                   subst ec_
                   clear en_
                   have p633 : 0 ≤ (x7_2 : Int) := of_decide_eq_true (by first|(with_reducible assumption)|assumption)
                   have q633 : x7_2 < (t625.length : Int) := of_decide_eq_true (by first|(with_reducible assumption)|assumption)
                   obtain ⟨ad633,e633,hx633_0⟩ := Kd.at_int (Kd.R_reads' HO_6.out).2.2 x7_2 p633 q633
                   cases e633
                   replace p633 := eq_true p633
                   replace q633 := eq_true q633
                   go_wp2
                   repeat (go_quiet (fail);try go_wp2)
                   go_roundg k3
                   case measure => have := HJ7.out;have := HK2.out;have := HK3.out;omega
                   case rel => exact ⟨((((rd_T37 l0 x9_3).f2) == (rd t625 x7_2))),(wrap64 (x9_3 + 1)),(by first|rfl|(simp;done)|(simp [*];done)),(by first|rfl|(simp;done)|(simp [*];done)),H',⟨by have := HJ7.out;have := HK2.out;have := HK3.out;omega⟩,⟨rM HO_6.out⟩,⟨bM HB.out⟩⟩
                  ·rw [if_neg c33] at H
                   exact absurd H (by simp)
                 ·rw [if_neg c32] at H
                  exact absurd H (by simp)
                ·rw [if_neg c31] at H
                 have c31b0 : (((rd_T37 l0 x9_3).f1) == 3) = false := beq_eq_false_iff_ne.mpr c31
                 have c31b1 : (((rd_T37 l0 x9_3).f1) != 3) = true := bne_iff_ne.mpr c31
                 have H' := aK H
                 clear H
                 have p628 : 0 ≤ (x9_3 : Int) := of_decide_eq_true (by first|(with_reducible assumption)|assumption)
                 have q628 : x9_3 < (l0.length : Int) := of_decide_eq_true (by first|(with_reducible assumption)|assumption)
                 obtain ⟨ad628,A628_3,c628_3,A628_4,c628_4,A628_5,c628_5,e628,hx628_0,hx628_1,hx628_2,hx628_3,hx628_4,hx628_5,hl628_3,hi628_3,hl628_4,hi628_4,hl628_5,hi628_5⟩ := at_T37 HR0.out x9_3 p628 q628
                 cases e628
                 replace hx628_0 := (HB.out.cell (World.block_lt_of_cell? w _ hx628_0)).trans hx628_0
                 replace hx628_1 := (HB.out.cell (World.block_lt_of_cell? w _ hx628_1)).trans hx628_1
                 replace hx628_2 := (HB.out.cell (World.block_lt_of_cell? w _ hx628_2)).trans hx628_2
                 replace hx628_3 := (HB.out.cell (World.block_lt_of_cell? w _ hx628_3)).trans hx628_3
                 replace hx628_4 := (HB.out.cell (World.block_lt_of_cell? w _ hx628_4)).trans hx628_4
                 replace hx628_5 := (HB.out.cell (World.block_lt_of_cell? w _ hx628_5)).trans hx628_5
                 have HR628_3 := aK hi628_3
                 have HC628_3 := aK hl628_3
                 clear hi628_3 hl628_3
                 have HR628_4 := aK hi628_4
                 have HC628_4 := aK hl628_4
                 clear hi628_4 hl628_4
                 have HR628_5 := aK hi628_5
                 have HC628_5 := aK hl628_5
                 clear hi628_5 hl628_5
                 replace p628 := eq_true p628
                 replace q628 := eq_true q628
                 have p631 : 0 ≤ (x9_3 : Int) := of_decide_eq_true (by first|(with_reducible assumption)|assumption)
                 have q631 : x9_3 < (l0.length : Int) := of_decide_eq_true (by first|(with_reducible assumption)|assumption)
                 obtain ⟨ad631,A631_3,c631_3,A631_4,c631_4,A631_5,c631_5,e631,hx631_0,hx631_1,hx631_2,hx631_3,hx631_4,hx631_5,hl631_3,hi631_3,hl631_4,hi631_4,hl631_5,hi631_5⟩ := at_T37 HR0.out x9_3 p631 q631
                 obtain rfl : ad628 = ad631 := (by injection e631)
                 replace hx631_0 := (HB.out.cell (World.block_lt_of_cell? w _ hx631_0)).trans hx631_0
                 replace hx631_1 := (HB.out.cell (World.block_lt_of_cell? w _ hx631_1)).trans hx631_1
                 replace hx631_2 := (HB.out.cell (World.block_lt_of_cell? w _ hx631_2)).trans hx631_2
                 replace hx631_3 := (HB.out.cell (World.block_lt_of_cell? w _ hx631_3)).trans hx631_3
                 replace hx631_4 := (HB.out.cell (World.block_lt_of_cell? w _ hx631_4)).trans hx631_4
                 replace hx631_5 := (HB.out.cell (World.block_lt_of_cell? w _ hx631_5)).trans hx631_5
                 have HR631_3 := aK hi631_3
                 have HC631_3 := aK hl631_3
                 clear hi631_3 hl631_3
                 have HR631_4 := aK hi631_4
                 have HC631_4 := aK hl631_4
                 clear hi631_4 hl631_4
                 have HR631_5 := aK hi631_5
                 have HC631_5 := aK hl631_5
                 clear hi631_5 hl631_5
                 replace p631 := eq_true p631
                 replace q631 := eq_true q631
                 have ea_ := Option.some.inj (hx628_3.symm.trans hx631_3)
                 injection ea_ with ea_ en_ ec_
                 subst ea_
                 subst ec_
                 clear en_
                 have ea_ := Option.some.inj (hx628_4.symm.trans hx631_4)
                 injection ea_ with ea_ en_ ec_
                 subst ea_
                 subst ec_
                 clear en_
                 have ea_ := Option.some.inj (hx628_5.symm.trans hx631_5)
                 injection ea_ with ea_ en_ ec_
                 subst ea_
                 subst ec_
                 clear en_
                 go_wp2
                 repeat (go_quiet (fail);try go_wp2)
                 go_roundg k3
                 case measure => have := HJ7.out;have := HK2.out;have := HK3.out;omega
                 case rel => exact ⟨(false),(wrap64 (x9_3 + 1)),(by first|rfl|(simp;done)|(simp [*];done)),(by first|rfl|(simp;done)|(simp [*];done)),H',⟨by have := HJ7.out;have := HK2.out;have := HK3.out;omega⟩,⟨rM HO_6.out⟩,⟨bM HB.out⟩⟩
              ·rw [if_neg c27] at H
               exact absurd H (by simp)
            ·rw [if_neg c25] at H
             have c25b0 : decide (x9_3 < (l0.length : Int)) = false := decide_eq_false c25
             clear c25
             by_cases c34 : x8_3 = true
             ·subst c34
              rw [if_pos rfl] at H
              by_cases c35 : x7_2 > 0
              ·rw [if_pos c35] at H
               have c35b0 : decide (0 < x7_2) = true := decide_eq_true c35
               clear c35
               by_cases c36 : 0 ≤ x7_2
               ·rw [if_pos c36] at H
                have c36b0 : decide (0 ≤ x7_2) = true := decide_eq_true c36
                clear c36
                by_cases c37 : x7_2 < (t625.length : Int)
                ·rw [if_pos c37] at H
                 have c37b0 : decide (x7_2 < (t625.length : Int)) = true := decide_eq_true c37
                 clear c37
                 obtain ⟨ji38,hji38⟩ : ∃ j_ : Int,(wrap64 (x7_2 - 1)) = j_ := ⟨_,rfl⟩
                 replace H : (if 0 ≤ (ji38) then (if (ji38) < (t625.length : Int) then (if (rd t625 x7_2) ≤ (rd t625 (ji38)) then (some false) else (codesearchlaw33_ManifestStarts.l0 k3 l0 t625 (wrap64 (x7_2 + 1)))) else (none)) else (none)) = some r := by first|(rw [hji38] at H;exact H)|(simp only [hji38] at H ⊢;exact H)
                 have hji38w : (IntKind.i64.wrap (x7_2 - 1)) = ji38 := (i64_w _).trans hji38
                 by_cases c39 : 0 ≤ (ji38)
                 ·rw [if_pos c39] at H
                  have c39b0 : decide (0 ≤ (ji38)) = true := decide_eq_true c39
                  clear c39
                  by_cases c40 : (ji38) < (t625.length : Int)
                  ·rw [if_pos c40] at H
                   have c40b0 : decide ((ji38) < (t625.length : Int)) = true := decide_eq_true c40
                   clear c40
                   by_cases c41 : (rd t625 x7_2) ≤ (rd t625 (ji38))
                   ·rw [if_pos c41] at H
                    have c41b0 : decide ((rd t625 x7_2) ≤ (rd t625 (ji38))) = true := decide_eq_true c41
                    clear c41
                    obtain rfl := Option.some.inj H
                    have p634 : 0 ≤ (x7_2 : Int) := of_decide_eq_true (by first|(with_reducible assumption)|assumption)
                    have q634 : x7_2 < (t625.length : Int) := of_decide_eq_true (by first|(with_reducible assumption)|assumption)
                    obtain ⟨ad634,e634,hx634_0⟩ := Kd.at_int (Kd.R_reads' HO_6.out).2.2 x7_2 p634 q634
                    cases e634
                    replace p634 := eq_true p634
                    replace q634 := eq_true q634
                    have p635 : 0 ≤ ((ji38) : Int) := of_decide_eq_true (by first|(with_reducible assumption)|assumption)
                    have q635 : (ji38) < (t625.length : Int) := of_decide_eq_true (by first|(with_reducible assumption)|assumption)
                    obtain ⟨ad635,e635,hx635_0⟩ := Kd.at_int (Kd.R_reads' HO_6.out).2.2 (ji38) p635 q635
                    obtain rfl : ad634 = ad635 := (by injection e635)
                    replace p635 := eq_true p635
                    replace q635 := eq_true q635
                    go_wp2
                    repeat (go_quiet (fail);try go_wp2)
                    go_ret
                    exact ⟨by first|rfl|(simp [errW_none,errW_some] <;> rfl)|(simp only [← hji38];first|rfl|(simp [errW_none,errW_some] <;> rfl))|(simp [*,errW_none,errW_some] <;> rfl),bM HB.out⟩
                   ·rw [if_neg c41] at H
                    have c41b0 : decide ((rd t625 x7_2) ≤ (rd t625 (ji38))) = false := decide_eq_false c41
                    clear c41
                    have H' := aK H
                    clear H
                    have p634 : 0 ≤ (x7_2 : Int) := of_decide_eq_true (by first|(with_reducible assumption)|assumption)
                    have q634 : x7_2 < (t625.length : Int) := of_decide_eq_true (by first|(with_reducible assumption)|assumption)
                    obtain ⟨ad634,e634,hx634_0⟩ := Kd.at_int (Kd.R_reads' HO_6.out).2.2 x7_2 p634 q634
                    cases e634
                    replace p634 := eq_true p634
                    replace q634 := eq_true q634
                    have p635 : 0 ≤ ((ji38) : Int) := of_decide_eq_true (by first|(with_reducible assumption)|assumption)
                    have q635 : (ji38) < (t625.length : Int) := of_decide_eq_true (by first|(with_reducible assumption)|assumption)
                    obtain ⟨ad635,e635,hx635_0⟩ := Kd.at_int (Kd.R_reads' HO_6.out).2.2 (ji38) p635 q635
                    obtain rfl : ad634 = ad635 := (by injection e635)
                    replace p635 := eq_true p635
                    replace q635 := eq_true q635
                    go_wp2
                    repeat (go_quiet (fail);try go_wp2)
                    go_roundg k3
                    case measure => have := HJ7.out;have := HK2.out;have := HK3.out;omega
                    case rel => exact ⟨(wrap64 (x7_2 + 1)),(by first|rfl|(simp;done)|(simp [*];done)),H',⟨by have := HJ7.out;have := HK2.out;have := HK3.out;omega⟩,⟨rM HO_6.out⟩,⟨bM HB.out⟩⟩
                  ·rw [if_neg c40] at H
                   exact absurd H (by simp)
                 ·rw [if_neg c39] at H
                  exact absurd H (by simp)
                ·rw [if_neg c37] at H
                 exact absurd H (by simp)
               ·rw [if_neg c36] at H
                exact absurd H (by simp)
              ·rw [if_neg c35] at H
               have c35b0 : decide (0 < x7_2) = false := decide_eq_false c35
               clear c35
               have H' := aK H
               clear H
               go_wp2
               repeat (go_quiet (fail);try go_wp2)
               go_roundg k3
               case measure => have := HJ7.out;have := HK2.out;have := HK3.out;omega
               case rel => exact ⟨(wrap64 (x7_2 + 1)),(by first|rfl|(simp;done)|(simp [*];done)),H',⟨by have := HJ7.out;have := HK2.out;have := HK3.out;omega⟩,⟨rM HO_6.out⟩,⟨bM HB.out⟩⟩
             ·replace c34 := Bool.eq_false_iff.mpr c34
              subst c34
              rw [if_neg (show ¬ (false = true) by decide)] at H
              obtain rfl := Option.some.inj H
              go_wp2
              repeat (go_quiet (fail);try go_wp2)
              go_ret
              exact ⟨by first|rfl|(simp [errW_none,errW_some] <;> rfl)|(simp [*,errW_none,errW_some] <;> rfl),bM HB.out⟩
         ·rw [if_neg c23] at H
          have c23b0 : decide (x7_2 < (t625.length : Int)) = false := decide_eq_false c23
          clear c23
          obtain rfl := Option.some.inj H
          obtain ⟨Ao42,co42,eo42⟩ := Kd.R_slice HO_6.out
          subst eo42
          go_wp2
          repeat (go_quiet (fail);try go_wp2)
          go_ret
          exact ⟨by first|rfl|(simp [errW_none,errW_some] <;> rfl)|(simp [*,errW_none,errW_some] <;> rfl),bM HB.out⟩
  ·replace c6 := Bool.eq_false_iff.mpr c6
   subst c6
   rw [if_neg (show ¬ (false = true) by decide)] at H
   obtain rfl := Option.some.inj H
   go_enter Tryd.func6,Tryd.ntmps6
   go_wp2_with (first|(go_at_call 7;(with_reducible refine (codesearchlaw33_alive.calls k  true _ A3.out).mono ?_);rintro e w43 ⟨rfl,hb⟩;replace HB := aK (below_step (bM HB.out) hb);(try clear hb))|(go_at_call 8;(with_reducible refine (codesearchlaw33_small.calls k _ _ l0 false _ ?side1 ?side2 A5.out).mono ?_);(case side1 => exact cM (Kd.C_below HR0.out HB.out));(case side2 => exact HC0.out);rintro e w' ⟨rfl,⟨nd,rfl⟩⟩;(try first|exact ⟨rfl,_,World.drewN_drewN _ _ _⟩|exact ⟨rfl,_,Eq.trans (World.drewN_drewN _ _ _) (congrArg (World.drewN _) (Nat.add_assoc _ _ _))⟩)))
   repeat (go_quiet (first|(go_at_call 7;(with_reducible refine (codesearchlaw33_alive.calls k  true _ A3.out).mono ?_);rintro e w43 ⟨rfl,hb⟩;replace HB := aK (below_step (bM HB.out) hb);(try clear hb))|(go_at_call 8;(with_reducible refine (codesearchlaw33_small.calls k _ _ l0 false _ ?side1 ?side2 A5.out).mono ?_);(case side1 => exact cM (Kd.C_below HR0.out HB.out));(case side2 => exact HC0.out);rintro e w' ⟨rfl,⟨nd,rfl⟩⟩;(try first|exact ⟨rfl,_,World.drewN_drewN _ _ _⟩|exact ⟨rfl,_,Eq.trans (World.drewN_drewN _ _ _) (congrArg (World.drewN _) (Nat.add_assoc _ _ _))⟩)));try go_wp2_with (first|(go_at_call 7;(with_reducible refine (codesearchlaw33_alive.calls k  true _ A3.out).mono ?_);rintro e w43 ⟨rfl,hb⟩;replace HB := aK (below_step (bM HB.out) hb);(try clear hb))|(go_at_call 8;(with_reducible refine (codesearchlaw33_small.calls k _ _ l0 false _ ?side1 ?side2 A5.out).mono ?_);(case side1 => exact cM (Kd.C_below HR0.out HB.out));(case side2 => exact HC0.out);rintro e w' ⟨rfl,⟨nd,rfl⟩⟩;(try first|exact ⟨rfl,_,World.drewN_drewN _ _ _⟩|exact ⟨rfl,_,Eq.trans (World.drewN_drewN _ _ _) (congrArg (World.drewN _) (Nat.add_assoc _ _ _))⟩))))
   go_ret
   exact ⟨by first|rfl|(simp [errW_none,errW_some] <;> rfl)|(simp [*,errW_none,errW_some] <;> rfl),bM HB.out⟩
 ·replace c4 := Bool.eq_false_iff.mpr c4
  subst c4
  rw [if_neg (show ¬ (false = true) by decide)] at H
  obtain rfl := Option.some.inj H
  go_enter Tryd.func6,Tryd.ntmps6
  go_wp2_with (first|(go_at_call 7;(with_reducible refine (codesearchlaw33_alive.calls k  false _ A3.out).mono ?_);rintro e w44 ⟨rfl,hb⟩;replace HB := aK (below_step (bM HB.out) hb);(try clear hb)))
  repeat (go_quiet (first|(go_at_call 7;(with_reducible refine (codesearchlaw33_alive.calls k  false _ A3.out).mono ?_);rintro e w44 ⟨rfl,hb⟩;replace HB := aK (below_step (bM HB.out) hb);(try clear hb)));try go_wp2_with (first|(go_at_call 7;(with_reducible refine (codesearchlaw33_alive.calls k  false _ A3.out).mono ?_);rintro e w44 ⟨rfl,hb⟩;replace HB := aK (below_step (bM HB.out) hb);(try clear hb))))
  go_ret
  exact ⟨by first|rfl|(simp [errW_none,errW_some] <;> rfl)|(simp [*,errW_none,errW_some] <;> rfl),bM HB.out⟩

end Go.Proofs.YtmgliocboeifdaaDoor.M
