-- Written by hp.py, a program of this session, over the kit's print of the translation. Not trusted: Lean checks it.
import Derived.Test.YtknpmknkkofnjaaPx0
import Derived.Test.YtknpmknkkofnjaaPx1
import Derived.Test.YtknpmknkkofnjaaPx2
import Derived.Test.YtknpmknkkofnjaaPx3
import Derived.Test.YtknpmknkkofnjaaPx5
import Derived.Test.YtknpmknkkofnjaaPx6
namespace Go.Proofs.Ytknpmknkkofnjaa.P
open Go.RowKit Go.Proofs.YtknpmknkkofnjaaW.PrintWords Go.Proofs.YtknpmknkkofnjaaW.PrintLast Go.Proofs.YtknpmknkkofnjaaW.PrintMore
attribute [local go_sem] max2_int min2_int max_two min_two max_three min_three max_four min_four   -- for this text's walks alone
set_option linter.unusedVariables false
set_option linter.unusedSimpArgs false

/-! ### codesearchlaw05_PostingBack: function 8 -/
mutual
def codesearchlaw05_PostingBack.j0 : Nat → List Int → List Int → Bool → Option (Bool)
|0,_,_,_ => none
|k + 1,x0,x1,x20 => if x20 = true then (some true) else ((posting_Pack.f k x0).bind fun bt586 => ((posting_Valid.f k x0).bind fun t590 => (if ((bt586.2 == 0) != t590) = true then (some false) else (if bt586.2 = 0 then ((posting_Unpack.f k bt586.1).bind fun bt591 => (if bt591.2 = 0 then ((codesearchref05_Same.f k x0 bt591.1).bind fun t595 => (if t595 = true then (codesearchlaw05_PostingBack.j1 k x1) else (some false))) else (some false))) else (codesearchlaw05_PostingBack.j1 k x1)))))
def codesearchlaw05_PostingBack.j1 : Nat → List Int → Option (Bool)
|0,_ => none
|k + 1,x1 => (posting_Unpack.f k x1).bind fun bt596 => (if bt596.2 = 0 then ((posting_Pack.f k bt596.1).bind fun bt600 => (if bt600.2 = 0 then ((codesearchlaw05_sameBytes.f x1 bt600.1).bind fun t604 => (some t604)) else (some false))) else (if bt596.2 = 3 then (some ((bt596.1.length : Int) == 0)) else (some false)))
end
def codesearchlaw05_PostingBack.f (k : Nat) (l0 : List Int) (l1 : List Int) : Option (Bool) := (codesearchlaw05_alive.f k).bind fun t585 => (if t585 = true then (if (l0.length : Int) > 200 then (codesearchlaw05_PostingBack.j0 k l0 l1 true) else (codesearchlaw05_PostingBack.j0 k l0 l1 (decide ((l1.length : Int) > 1000)))) else (some false))
theorem codesearchlaw05_PostingBack.mono_l : ∀ k, (∀ y0 y1 y2, LeO (codesearchlaw05_PostingBack.j0 k y0 y1 y2) (codesearchlaw05_PostingBack.j0 (k + 1) y0 y1 y2)) ∧ (∀ y0, LeO (codesearchlaw05_PostingBack.j1 k y0) (codesearchlaw05_PostingBack.j1 (k + 1) y0))
|0 => ⟨fun _ _ _ r h => by simp [codesearchlaw05_PostingBack.j0] at h,fun _ r h => by simp [codesearchlaw05_PostingBack.j1] at h⟩
|k + 1 => by
  obtain ⟨ih0,ih1⟩ := codesearchlaw05_PostingBack.mono_l k
  refine ⟨?_,?_⟩
  ·intro y0 y1 y2
   unfold codesearchlaw05_PostingBack.j0
   repeat' first
  |(with_reducible exact ih0 _ _ _)
  |(with_reducible exact ih1 _)
  |(with_reducible exact codesearchlaw05_alive.mono _)
  |(with_reducible exact codesearchref05_Same.mono _ _ _)
  |(with_reducible exact posting_Pack.mono _ _)
  |(with_reducible exact posting_Unpack.mono _ _)
  |(with_reducible exact posting_Valid.mono _ _)
  |(with_reducible exact LeO.refl _)
  |(with_reducible exact LeO.none _)
  |(with_reducible refine LeO.ite ?_ ?_)
  |(with_reducible refine LeO.bind ?_ (fun _ => ?_))
  |exact ih0 _ _ _
  |exact ih1 _
  |exact codesearchlaw05_alive.mono _
  |exact codesearchref05_Same.mono _ _ _
  |exact posting_Pack.mono _ _
  |exact posting_Unpack.mono _ _
  |exact posting_Valid.mono _ _
  |exact LeO.none _
  |refine LeO.ite ?_ ?_
  |refine LeO.bind ?_ (fun _ => ?_)
  ·intro y0
   unfold codesearchlaw05_PostingBack.j1
   repeat' first
  |(with_reducible exact ih0 _ _ _)
  |(with_reducible exact ih1 _)
  |(with_reducible exact codesearchlaw05_alive.mono _)
  |(with_reducible exact codesearchref05_Same.mono _ _ _)
  |(with_reducible exact posting_Pack.mono _ _)
  |(with_reducible exact posting_Unpack.mono _ _)
  |(with_reducible exact posting_Valid.mono _ _)
  |(with_reducible exact LeO.refl _)
  |(with_reducible exact LeO.none _)
  |(with_reducible refine LeO.ite ?_ ?_)
  |(with_reducible refine LeO.bind ?_ (fun _ => ?_))
  |exact ih0 _ _ _
  |exact ih1 _
  |exact codesearchlaw05_alive.mono _
  |exact codesearchref05_Same.mono _ _ _
  |exact posting_Pack.mono _ _
  |exact posting_Unpack.mono _ _
  |exact posting_Valid.mono _ _
  |exact LeO.none _
  |refine LeO.ite ?_ ?_
  |refine LeO.bind ?_ (fun _ => ?_)
theorem codesearchlaw05_PostingBack.mono : ∀ a0 a1 k, LeO (codesearchlaw05_PostingBack.f k a0 a1) (codesearchlaw05_PostingBack.f (k + 1) a0 a1) := by
 intro a0 a1 k
 obtain ⟨ih0,ih1⟩ := codesearchlaw05_PostingBack.mono_l k
 unfold codesearchlaw05_PostingBack.f
 repeat' first
  |(with_reducible exact ih0 _ _ _)
  |(with_reducible exact ih1 _)
  |(with_reducible exact codesearchlaw05_alive.mono _)
  |(with_reducible exact codesearchref05_Same.mono _ _ _)
  |(with_reducible exact posting_Pack.mono _ _)
  |(with_reducible exact posting_Unpack.mono _ _)
  |(with_reducible exact posting_Valid.mono _ _)
  |(with_reducible exact LeO.refl _)
  |(with_reducible exact LeO.none _)
  |(with_reducible refine LeO.ite ?_ ?_)
  |(with_reducible refine LeO.bind ?_ (fun _ => ?_))
  |exact ih0 _ _ _
  |exact ih1 _
  |exact codesearchlaw05_alive.mono _
  |exact codesearchref05_Same.mono _ _ _
  |exact posting_Pack.mono _ _
  |exact posting_Unpack.mono _ _
  |exact posting_Valid.mono _ _
  |exact LeO.none _
  |refine LeO.ite ?_ ?_
  |refine LeO.bind ?_ (fun _ => ?_)
set_option maxHeartbeats 4000000 in
set_option maxRecDepth 100000 in
theorem codesearchlaw05_PostingBack.calls (k : Nat) (A0 : Option Addr) (c0 : Nat) (l0 : List Int) (A1 : Option Addr) (c1 : Nat) (l1 : List Int) (r : Bool) (w : World) (hr0 : Kd.C (Kd.int .i64) w A0 l0.length l0) (hc0 : l0.length ≤ c0) (hr1 : Kd.C (Kd.int .u8) w A1 l1.length l1) (hc1 : l1.length ≤ c1) (h : codesearchlaw05_PostingBack.f k l0 l1 = some r) :
  Calls Try.prog 8 #[.slice A0 l0.length c0,.slice A1 l1.length c1] w fun e w' => e = .returned (.bool r) ∧ Below w.heap.size w w' := by
 have HR0 := Aside0.mk hr0
 have HC0 := Aside0.mk hc0
 clear hr0 hc0
 have HR1 := Aside0.mk hr1
 have HC1 := Aside0.mk hc1
 clear hr1 hc1
 have HB := Aside0.mk (Below.refl w.heap.size w)
 have H : ((codesearchlaw05_alive.f k).bind fun t585 => (if t585 = true then (if (l0.length : Int) > 200 then (codesearchlaw05_PostingBack.j0 k l0 l1 true) else (codesearchlaw05_PostingBack.j0 k l0 l1 (decide ((l1.length : Int) > 1000)))) else (some false))) = some r := h
 clear h
 replace H := Option.bind_eq_some_iff.mp H
 obtain ⟨t585,A30,H⟩ := H
 replace H : (if t585 = true then (if (l0.length : Int) > 200 then (codesearchlaw05_PostingBack.j0 k l0 l1 true) else (codesearchlaw05_PostingBack.j0 k l0 l1 (decide ((l1.length : Int) > 1000)))) else (some false)) = some r := H
 have A3 := Aside0.mk A30
 clear A30
 by_cases c4 : t585 = true
 ·subst c4
  have H1 : (if (l0.length : Int) > 200 then (codesearchlaw05_PostingBack.j0 k l0 l1 true) else (codesearchlaw05_PostingBack.j0 k l0 l1 (decide ((l1.length : Int) > 1000)))) = some r := by rw [if_pos rfl] at H;exact H
  clear H
  have H := H1
  clear H1
  have HC5 := Aside0.mk H
  clear H
  go_enter Try.func8,Try.ntmps8
  go_upto_region 3 with (first|((with_reducible refine gate_callee (f := 10) rfl ?_);refine goesL_ (some 11) rfl rfl Try.func10 (by kernel_rfl) rfl #[] rfl (by (try simp only [List.map_toArray,List.map_cons,List.map_nil]);first|done|rfl|(simp only [List.length_drop,List.length_take];rfl)) ?_;(with_reducible refine (codesearchlaw05_alive.calls k  true _ A3.out).mono ?_);rintro e w6 ⟨rfl,hb⟩;refine ⟨_,rfl,?_⟩;have n0_ := Aside0.mk (below_step (bM HB.out) hb);clear HB;have HB := n0_;clear n0_;(try clear hb);(try clear hb2);(try clear hk);(try clear hi)))
  (try simp only [Act.put,List.setIfInBounds_toArray,List.set_cons_zero,List.set_cons_succ])
  go_cut [20] (fun v20 wc => ∃ (kq : Nat) (x20_4 : Bool),v20 = .bool x20_4 ∧ Aside0 (codesearchlaw05_PostingBack.j0 kq l0 l1 x20_4 = some r) ∧ Aside0 (kq ≤ k) ∧ Aside0 (Below w.heap.size w wc))
  case first =>
   have H := HC5.out
   clear HC5
   by_cases c7 : (l0.length : Int) > 200
   ·rw [if_pos c7] at H
    have c7b0 : decide (200 < (l0.length : Int)) = true := decide_eq_true c7
    have c7b1 : decide (200 < l0.length) = true := decide_eq_true (by omega)
    clear c7
    (first|rw [c7b0]|(simp only [i64_w,i32_w];rw [c7b0])|skip)
    have H' := Aside0.mk H
    clear H
    go_wp2
    go_meet
    case rel => exact ⟨_,(true),(by first|rfl|(simp;done)|(simp [*];done)),H',⟨by first|omega|exact Nat.le_refl _⟩,⟨bM HB.out⟩⟩
   ·rw [if_neg c7] at H
    have c7b0 : decide (200 < (l0.length : Int)) = false := decide_eq_false c7
    have c7b1 : decide (200 < l0.length) = false := decide_eq_false (by omega)
    clear c7
    (first|rw [c7b0]|(simp only [i64_w,i32_w];rw [c7b0])|skip)
    have H' := Aside0.mk H
    clear H
    go_wp2
    go_meet
    case rel => exact ⟨_,(decide ((l1.length : Int) > 1000)),(by first|rfl|(simp;done)|(simp [*];done)),H',⟨by first|omega|exact Nat.le_refl _⟩,⟨bM HB.out⟩⟩
  case rest =>
   clear HC5
   try clear c1
   try clear p2
   try clear c4
   try clear c7
   try clear c7b0
   try clear c7b1
   obtain ⟨kq,x20_4,rfl,HA,HJ4,HB⟩ := hcut
   cases kq with
  |zero => exact absurd HA.out (by simp [codesearchlaw05_PostingBack.j0])
  |succ kj4 =>
    have H := HA.out
    clear HA
    simp only [codesearchlaw05_PostingBack.j0] at H
    by_cases c8 : x20_4 = true
    ·subst c8
     have H1 : (some true) = some r := by rw [if_pos rfl] at H;exact H
     clear H
     have H := H1
     clear H1
     obtain rfl := Option.some.inj H
     go_wp2
     go_ret
     exact ⟨by first|rfl|(simp [errW_none,errW_some] <;> rfl)|(simp [*,errW_none,errW_some] <;> rfl),bM HB.out⟩
    ·replace c8 := Bool.eq_false_iff.mpr c8
     subst c8
     have H1 : ((posting_Pack.f kj4 l0).bind fun bt586 => ((posting_Valid.f kj4 l0).bind fun t590 => (if ((bt586.2 == 0) != t590) = true then (some false) else (if bt586.2 = 0 then ((posting_Unpack.f kj4 bt586.1).bind fun bt591 => (if bt591.2 = 0 then ((codesearchref05_Same.f kj4 l0 bt591.1).bind fun t595 => (if t595 = true then (codesearchlaw05_PostingBack.j1 kj4 l1) else (some false))) else (some false))) else (codesearchlaw05_PostingBack.j1 kj4 l1))))) = some r := by rw [if_neg (show ¬ (false = true) by decide)] at H;exact H
     clear H
     have H := H1
     clear H1
     replace H := Option.bind_eq_some_iff.mp H
     obtain ⟨⟨t586,t589⟩,A90,H⟩ := H
     replace H : ((posting_Valid.f kj4 l0).bind fun t590 => (if ((t589 == 0) != t590) = true then (some false) else (if t589 = 0 then ((posting_Unpack.f kj4 t586).bind fun bt591 => (if bt591.2 = 0 then ((codesearchref05_Same.f kj4 l0 bt591.1).bind fun t595 => (if t595 = true then (codesearchlaw05_PostingBack.j1 kj4 l1) else (some false))) else (some false))) else (codesearchlaw05_PostingBack.j1 kj4 l1)))) = some r := H
     have A9 := Aside0.mk A90
     clear A90
     replace H := Option.bind_eq_some_iff.mp H
     obtain ⟨t590,A100,H⟩ := H
     replace H : (if ((t589 == 0) != t590) = true then (some false) else (if t589 = 0 then ((posting_Unpack.f kj4 t586).bind fun bt591 => (if bt591.2 = 0 then ((codesearchref05_Same.f kj4 l0 bt591.1).bind fun t595 => (if t595 = true then (codesearchlaw05_PostingBack.j1 kj4 l1) else (some false))) else (some false))) else (codesearchlaw05_PostingBack.j1 kj4 l1))) = some r := H
     have A10 := Aside0.mk A100
     clear A100
     by_cases c11 : ((t589 == 0) != t590) = true
     ·rw [if_pos c11] at H
      have c11b0 : ((t589 == 0) != t590) = true := c11
      (try (have c11b1 : decide ((t589 == 0) = t590) = false := by simpa using c11))
      (try (have c11b2 : ((t589 == 0) == t590) = false := by simpa using c11))
      (try (have c11b3 : ¬ ((t589 == 0) = t590) := by simpa using c11))
      clear c11
      obtain rfl := Option.some.inj H
      go_wp2_with (first|((with_reducible refine gate_callee (f := 22) rfl ?_);refine goesL_ (some 23) rfl rfl Try.func22 (by kernel_rfl) rfl #[.slice A0 l0.length c0] rfl (by (try simp only [List.map_toArray,List.map_cons,List.map_nil]);first|done|rfl|(simp only [List.length_drop,List.length_take];rfl)) ?_;(with_reducible refine (posting_Pack.calls kj4 (fun k_ => k_ < w.heap.size) _ _ l0 t586 t589 _ ?side1 A9.out).mono ?_);(case side1 => exact Kd.V_mk HC0.out (Kd.F_below (Kd.C_F (Kd.heap_int .i64) HR0.out) (bM HB.out)));rintro e w12 ⟨v587,rfl,ho0,hb⟩;refine ⟨_,rfl,?_⟩;have n0_ := Aside0.mk (Kd.R_lower (Kd.R_mono (ok' := fun k_ => True) ho0 (fun _ hk_ => trivial)) (below_size (bM HB.out)));have n1_ := Aside0.mk (below_step (bM HB.out) hb);clear HB;have HO588 := n0_;have HB := n1_;clear n0_ n1_;(try clear hb);(try clear hb2);(try clear hk);(try clear hi);(try clear ho0))|((with_reducible refine gate_callee (f := 11) rfl ?_);refine goesL_ (some 29) rfl rfl Try.func11 (by kernel_rfl) rfl #[.slice A0 l0.length c0] rfl (by (try simp only [List.map_toArray,List.map_cons,List.map_nil]);first|done|rfl|(simp only [List.length_drop,List.length_take];rfl)) ?_;(with_reducible refine (posting_Valid.calls kj4 _ _ l0 t590 _ ?side1 ?side2 A10.out).mono ?_);(case side1 => exact cM (Kd.C_below HR0.out HB.out));(case side2 => exact HC0.out);rintro e w' ⟨rfl,⟨nd,rfl⟩⟩;refine ⟨_,rfl,?_⟩))
      go_ret
      exact ⟨by first|rfl|(simp [errW_none,errW_some] <;> rfl)|(simp [*,errW_none,errW_some] <;> rfl),bM HB.out⟩
     ·rw [if_neg c11] at H
      have c11b0 : ((t589 == 0) != t590) = false := by simpa using c11
      (try (have c11b1 : decide ((t589 == 0) = t590) = true := by simpa using c11))
      (try (have c11b2 : ((t589 == 0) == t590) = true := by simpa using c11))
      clear c11
      have HC13 := Aside0.mk H
      clear H
      go_upto_if 32 with (first|((with_reducible refine gate_callee (f := 22) rfl ?_);refine goesL_ (some 23) rfl rfl Try.func22 (by kernel_rfl) rfl #[.slice A0 l0.length c0] rfl (by (try simp only [List.map_toArray,List.map_cons,List.map_nil]);first|done|rfl|(simp only [List.length_drop,List.length_take];rfl)) ?_;(with_reducible refine (posting_Pack.calls kj4 (fun k_ => k_ < w.heap.size) _ _ l0 t586 t589 _ ?side1 A9.out).mono ?_);(case side1 => exact Kd.V_mk HC0.out (Kd.F_below (Kd.C_F (Kd.heap_int .i64) HR0.out) (bM HB.out)));rintro e w14 ⟨v587,rfl,ho0,hb⟩;refine ⟨_,rfl,?_⟩;have n0_ := Aside0.mk (Kd.R_lower (Kd.R_mono (ok' := fun k_ => True) ho0 (fun _ hk_ => trivial)) (below_size (bM HB.out)));have n1_ := Aside0.mk (below_step (bM HB.out) hb);clear HB;have HO588 := n0_;have HB := n1_;clear n0_ n1_;(try clear hb);(try clear hb2);(try clear hk);(try clear hi);(try clear ho0))|((with_reducible refine gate_callee (f := 11) rfl ?_);refine goesL_ (some 29) rfl rfl Try.func11 (by kernel_rfl) rfl #[.slice A0 l0.length c0] rfl (by (try simp only [List.map_toArray,List.map_cons,List.map_nil]);first|done|rfl|(simp only [List.length_drop,List.length_take];rfl)) ?_;(with_reducible refine (posting_Valid.calls kj4 _ _ l0 t590 _ ?side1 ?side2 A10.out).mono ?_);(case side1 => exact cM (Kd.C_below HR0.out HB.out));(case side2 => exact HC0.out);rintro e w' ⟨rfl,⟨nd,rfl⟩⟩;refine ⟨_,rfl,?_⟩))
      (try simp only [Act.put,List.setIfInBounds_toArray,List.set_cons_zero,List.set_cons_succ])
      go_cut [] (fun wc => ∃ (kq : Nat),Aside0 (codesearchlaw05_PostingBack.j1 kq l1 = some r) ∧ Aside0 (kq ≤ kj4) ∧ Aside0 (Below w.heap.size w wc))
      case first =>
       have H := HC13.out
       clear HC13
       by_cases c15 : t589 = 0
       ·rw [if_pos c15] at H
        have c15b0 : (t589 == 0) = true := beq_iff_eq.mpr c15
        have c15b1 : (t589 != 0) = false := bne_eq_false_iff_eq.mpr c15
        clear c15
        (first|rw [c15b0]|(simp only [i64_w,i32_w];rw [c15b0])|skip)
        replace H := Option.bind_eq_some_iff.mp H
        obtain ⟨⟨t591,t592⟩,A160,H⟩ := H
        replace H : (if t592 = 0 then ((codesearchref05_Same.f kj4 l0 t591).bind fun t595 => (if t595 = true then (codesearchlaw05_PostingBack.j1 kj4 l1) else (some false))) else (some false)) = some r := H
        have A16 := Aside0.mk A160
        clear A160
        by_cases c17 : t592 = 0
        ·rw [if_pos c17] at H
         have c17b0 : (t592 == 0) = true := beq_iff_eq.mpr c17
         have c17b1 : (t592 != 0) = false := bne_eq_false_iff_eq.mpr c17
         clear c17
         replace H := Option.bind_eq_some_iff.mp H
         obtain ⟨t595,A180,H⟩ := H
         replace H : (if t595 = true then (codesearchlaw05_PostingBack.j1 kj4 l1) else (some false)) = some r := H
         have A18 := Aside0.mk A180
         clear A180
         by_cases c19 : t595 = true
         ·subst c19
          have H1 : (codesearchlaw05_PostingBack.j1 kj4 l1) = some r := by rw [if_pos rfl] at H;exact H
          clear H
          have H := H1
          clear H1
          have H' := Aside0.mk H
          clear H
          obtain ⟨Ao20,co20,eo20⟩ := Kd.R_slice HO588.out
          subst eo20
          go_wp2_with (first|((with_reducible refine gate_callee (f := 27) rfl ?_);refine goesL_ (some 35) rfl rfl Try.func27 (by kernel_rfl) rfl #[.slice Ao20 t586.length co20] rfl (by (try simp only [List.map_toArray,List.map_cons,List.map_nil]);first|done|rfl|(simp only [List.length_drop,List.length_take];rfl)) ?_;(with_reducible refine (posting_Unpack.calls kj4 _ _ t586 t591 t592 _ ?side1 ?side2 A16.out).mono ?_);(case side1 => exact cM (Kd.R_reads' HO588.out).2.2);(case side2 => exact (Kd.R_reads' HO588.out).2.1);rintro e w21 ⟨v593,rfl,ho0,hb⟩;refine ⟨_,rfl,?_⟩;have n0_ := Aside0.mk (Kd.R_below (rM HO588.out) hb);have n1_ := Aside0.mk (Kd.R_lower ho0 (below_size (bM HB.out)));have n2_ := Aside0.mk (below_step (bM HB.out) hb);clear HO588;clear HB;have HO588 := n0_;have HO594 := n1_;have HB := n2_;clear n0_ n1_ n2_;(try clear hb);(try clear hb2);(try clear hk);(try clear hi);(try clear ho0);obtain ⟨Ao22,co22,eo22⟩ := Kd.R_slice HO594.out;subst eo22)|(go_at_call 13;(with_reducible refine (codesearchref05_Same.calls kj4 _ _ l0 _ _ t591 true _ ?side1 ?side2 ?side3 ?side4 A18.out).mono ?_);(case side1 => exact cM (Kd.C_below HR0.out HB.out));(case side2 => exact HC0.out);(case side3 => exact cM (Kd.R_reads' HO594.out).2.2);(case side4 => exact (Kd.R_reads' HO594.out).2.1);rintro e w' ⟨rfl,⟨nd,rfl⟩⟩))
          go_meet
          case rel => exact ⟨_,H',⟨by have := HJ4.out;first|omega|exact Nat.le_refl _⟩,⟨bM HB.out⟩⟩
         ·replace c19 := Bool.eq_false_iff.mpr c19
          subst c19
          have H1 : (some false) = some r := by rw [if_neg (show ¬ (false = true) by decide)] at H;exact H
          clear H
          have H := H1
          clear H1
          obtain rfl := Option.some.inj H
          obtain ⟨Ao23,co23,eo23⟩ := Kd.R_slice HO588.out
          subst eo23
          go_wp2_with (first|((with_reducible refine gate_callee (f := 27) rfl ?_);refine goesL_ (some 35) rfl rfl Try.func27 (by kernel_rfl) rfl #[.slice Ao23 t586.length co23] rfl (by (try simp only [List.map_toArray,List.map_cons,List.map_nil]);first|done|rfl|(simp only [List.length_drop,List.length_take];rfl)) ?_;(with_reducible refine (posting_Unpack.calls kj4 _ _ t586 t591 t592 _ ?side1 ?side2 A16.out).mono ?_);(case side1 => exact cM (Kd.R_reads' HO588.out).2.2);(case side2 => exact (Kd.R_reads' HO588.out).2.1);rintro e w24 ⟨v593,rfl,ho0,hb⟩;refine ⟨_,rfl,?_⟩;have n0_ := Aside0.mk (Kd.R_below (rM HO588.out) hb);have n1_ := Aside0.mk (Kd.R_lower ho0 (below_size (bM HB.out)));have n2_ := Aside0.mk (below_step (bM HB.out) hb);clear HO588;clear HB;have HO588 := n0_;have HO594 := n1_;have HB := n2_;clear n0_ n1_ n2_;(try clear hb);(try clear hb2);(try clear hk);(try clear hi);(try clear ho0);obtain ⟨Ao25,co25,eo25⟩ := Kd.R_slice HO594.out;subst eo25)|(go_at_call 13;(with_reducible refine (codesearchref05_Same.calls kj4 _ _ l0 _ _ t591 false _ ?side1 ?side2 ?side3 ?side4 A18.out).mono ?_);(case side1 => exact cM (Kd.C_below HR0.out HB.out));(case side2 => exact HC0.out);(case side3 => exact cM (Kd.R_reads' HO594.out).2.2);(case side4 => exact (Kd.R_reads' HO594.out).2.1);rintro e w' ⟨rfl,⟨nd,rfl⟩⟩))
          go_ret
          exact ⟨by first|rfl|(simp [errW_none,errW_some] <;> rfl)|(simp [*,errW_none,errW_some] <;> rfl),bM HB.out⟩
        ·rw [if_neg c17] at H
         have c17b0 : (t592 == 0) = false := beq_eq_false_iff_ne.mpr c17
         have c17b1 : (t592 != 0) = true := bne_iff_ne.mpr c17
         obtain rfl := Option.some.inj H
         obtain ⟨Ao26,co26,eo26⟩ := Kd.R_slice HO588.out
         subst eo26
         go_wp2_with (first|((with_reducible refine gate_callee (f := 27) rfl ?_);refine goesL_ (some 35) rfl rfl Try.func27 (by kernel_rfl) rfl #[.slice Ao26 t586.length co26] rfl (by (try simp only [List.map_toArray,List.map_cons,List.map_nil]);first|done|rfl|(simp only [List.length_drop,List.length_take];rfl)) ?_;(with_reducible refine (posting_Unpack.calls kj4 _ _ t586 t591 t592 _ ?side1 ?side2 A16.out).mono ?_);(case side1 => exact cM (Kd.R_reads' HO588.out).2.2);(case side2 => exact (Kd.R_reads' HO588.out).2.1);rintro e w27 ⟨v593,rfl,ho0,hb⟩;refine ⟨_,rfl,?_⟩;have n0_ := Aside0.mk (Kd.R_below (rM HO588.out) hb);have n1_ := Aside0.mk (Kd.R_lower ho0 (below_size (bM HB.out)));have n2_ := Aside0.mk (below_step (bM HB.out) hb);clear HO588;clear HB;have HO588 := n0_;have HO594 := n1_;have HB := n2_;clear n0_ n1_ n2_;(try clear hb);(try clear hb2);(try clear hk);(try clear hi);(try clear ho0)))
         go_ret
         exact ⟨by first|rfl|(simp [errW_none,errW_some] <;> rfl)|(simp [*,errW_none,errW_some] <;> rfl),bM HB.out⟩
       ·rw [if_neg c15] at H
        have c15b0 : (t589 == 0) = false := beq_eq_false_iff_ne.mpr c15
        have c15b1 : (t589 != 0) = true := bne_iff_ne.mpr c15
        (first|rw [c15b0]|(simp only [i64_w,i32_w];rw [c15b0])|skip)
        have H' := Aside0.mk H
        clear H
        go_wp2
        go_meet
        case rel => exact ⟨_,H',⟨by have := HJ4.out;first|omega|exact Nat.le_refl _⟩,⟨bM HB.out⟩⟩
      case rest =>
       clear HC13
       try clear c1
       try clear c2
       try clear p2
       try clear c4
       try clear c7
       try clear c7b0
       try clear c7b1
       try clear c8
       try clear c10
       try clear c11
       try clear c11b0
       try clear c11b1
       try clear c11b2
       try clear c15
       try clear c15b0
       try clear c15b1
       try clear c17
       try clear c17b0
       try clear c17b1
       try clear c19
       try clear c22
       try clear c27
       try clear p2
       obtain ⟨kq,HA,HJ12,HB⟩ := hcut
       cases kq with
      |zero => exact absurd HA.out (by simp [codesearchlaw05_PostingBack.j1])
      |succ kj12 =>
        have H := HA.out
        clear HA
        simp only [codesearchlaw05_PostingBack.j1] at H
        replace H := Option.bind_eq_some_iff.mp H
        obtain ⟨⟨t596,t597⟩,A280,H⟩ := H
        replace H : (if t597 = 0 then ((posting_Pack.f kj12 t596).bind fun bt600 => (if bt600.2 = 0 then ((codesearchlaw05_sameBytes.f l1 bt600.1).bind fun t604 => (some t604)) else (some false))) else (if t597 = 3 then (some ((t596.length : Int) == 0)) else (some false))) = some r := H
        have A28 := Aside0.mk A280
        clear A280
        by_cases c29 : t597 = 0
        ·rw [if_pos c29] at H
         have c29b0 : (t597 == 0) = true := beq_iff_eq.mpr c29
         have c29b1 : (t597 != 0) = false := bne_eq_false_iff_eq.mpr c29
         clear c29
         replace H := Option.bind_eq_some_iff.mp H
         obtain ⟨⟨t600,t603⟩,A300,H⟩ := H
         replace H : (if t603 = 0 then ((codesearchlaw05_sameBytes.f l1 t600).bind fun t604 => (some t604)) else (some false)) = some r := H
         have A30 := Aside0.mk A300
         clear A300
         by_cases c31 : t603 = 0
         ·rw [if_pos c31] at H
          have c31b0 : (t603 == 0) = true := beq_iff_eq.mpr c31
          have c31b1 : (t603 != 0) = false := bne_eq_false_iff_eq.mpr c31
          clear c31
          replace H := Option.bind_eq_some_iff.mp H
          obtain ⟨t604,A320,H⟩ := H
          replace H : (some t604) = some r := H
          have A32 := Aside0.mk A320
          clear A320
          obtain rfl := Option.some.inj H
          go_wp2_with (first|((with_reducible refine gate_callee (f := 27) rfl ?_);refine goesL_ (some 48) rfl rfl Try.func27 (by kernel_rfl) rfl #[.slice A1 l1.length c1] rfl (by (try simp only [List.map_toArray,List.map_cons,List.map_nil]);first|done|rfl|(simp only [List.length_drop,List.length_take];rfl)) ?_;(with_reducible refine (posting_Unpack.calls kj12 _ _ l1 t596 t597 _ ?side1 ?side2 A28.out).mono ?_);(case side1 => exact cM (Kd.C_below HR1.out HB.out));(case side2 => exact HC1.out);rintro e w33 ⟨v598,rfl,ho0,hb⟩;refine ⟨_,rfl,?_⟩;have n0_ := Aside0.mk (Kd.R_lower ho0 (below_size (bM HB.out)));have n1_ := Aside0.mk (below_step (bM HB.out) hb);clear HB;have HO599 := n0_;have HB := n1_;clear n0_ n1_;(try clear hb);(try clear hb2);(try clear hk);(try clear hi);(try clear ho0);obtain ⟨Ao34,co34,eo34⟩ := Kd.R_slice HO599.out;subst eo34)|((with_reducible refine gate_callee (f := 22) rfl ?_);refine goesL_ (some 62) rfl rfl Try.func22 (by kernel_rfl) rfl #[.slice Ao34 t596.length co34] rfl (by (try simp only [List.map_toArray,List.map_cons,List.map_nil]);first|done|rfl|(simp only [List.length_drop,List.length_take];rfl)) ?_;(with_reducible refine (posting_Pack.calls kj12 (fun k_ => some k_ = (.slice Ao34 t596.length co34 : Value).ownBlock) _ _ t596 t600 t603 _ ?side1 A30.out).mono ?_);(case side1 => exact Kd.R_V (Kd.R_tight rfl (HO599.out)));rintro e w35 ⟨v601,rfl,ho0,hb⟩;refine ⟨_,rfl,?_⟩;have n0_ := Aside0.mk (Kd.R_below (rM HO599.out) hb);have n1_ := Aside0.mk (Kd.R_lower (Kd.R_mono (ok' := fun k_ => True) ho0 (fun _ hk_ => trivial)) (below_size (bM HB.out)));have n2_ := Aside0.mk (below_step (bM HB.out) hb);clear HO599;clear HB;have HO599 := n0_;have HO602 := n1_;have HB := n2_;clear n0_ n1_ n2_;(try clear hb);(try clear hb2);(try clear hk);(try clear hi);(try clear ho0);obtain ⟨Ao36,co36,eo36⟩ := Kd.R_slice HO602.out;subst eo36)|(go_at_call 24;(with_reducible refine (codesearchlaw05_sameBytes.calls _ _ l1 _ _ t600 t604 _ ?side1 ?side2 ?side3 ?side4 A32.out).mono ?_);(case side1 => exact cM (Kd.C_below HR1.out HB.out));(case side2 => exact HC1.out);(case side3 => exact cM (Kd.R_reads' HO602.out).2.2);(case side4 => exact (Kd.R_reads' HO602.out).2.1);rintro e w' ⟨rfl,⟨nd,rfl⟩⟩))
          go_ret
          exact ⟨by first|rfl|(simp [errW_none,errW_some] <;> rfl)|(simp [*,errW_none,errW_some] <;> rfl),bM HB.out⟩
         ·rw [if_neg c31] at H
          have c31b0 : (t603 == 0) = false := beq_eq_false_iff_ne.mpr c31
          have c31b1 : (t603 != 0) = true := bne_iff_ne.mpr c31
          obtain rfl := Option.some.inj H
          go_wp2_with (first|((with_reducible refine gate_callee (f := 27) rfl ?_);refine goesL_ (some 48) rfl rfl Try.func27 (by kernel_rfl) rfl #[.slice A1 l1.length c1] rfl (by (try simp only [List.map_toArray,List.map_cons,List.map_nil]);first|done|rfl|(simp only [List.length_drop,List.length_take];rfl)) ?_;(with_reducible refine (posting_Unpack.calls kj12 _ _ l1 t596 t597 _ ?side1 ?side2 A28.out).mono ?_);(case side1 => exact cM (Kd.C_below HR1.out HB.out));(case side2 => exact HC1.out);rintro e w37 ⟨v598,rfl,ho0,hb⟩;refine ⟨_,rfl,?_⟩;have n0_ := Aside0.mk (Kd.R_lower ho0 (below_size (bM HB.out)));have n1_ := Aside0.mk (below_step (bM HB.out) hb);clear HB;have HO599 := n0_;have HB := n1_;clear n0_ n1_;(try clear hb);(try clear hb2);(try clear hk);(try clear hi);(try clear ho0);obtain ⟨Ao38,co38,eo38⟩ := Kd.R_slice HO599.out;subst eo38)|((with_reducible refine gate_callee (f := 22) rfl ?_);refine goesL_ (some 62) rfl rfl Try.func22 (by kernel_rfl) rfl #[.slice Ao38 t596.length co38] rfl (by (try simp only [List.map_toArray,List.map_cons,List.map_nil]);first|done|rfl|(simp only [List.length_drop,List.length_take];rfl)) ?_;(with_reducible refine (posting_Pack.calls kj12 (fun k_ => some k_ = (.slice Ao38 t596.length co38 : Value).ownBlock) _ _ t596 t600 t603 _ ?side1 A30.out).mono ?_);(case side1 => exact Kd.R_V (Kd.R_tight rfl (HO599.out)));rintro e w39 ⟨v601,rfl,ho0,hb⟩;refine ⟨_,rfl,?_⟩;have n0_ := Aside0.mk (Kd.R_below (rM HO599.out) hb);have n1_ := Aside0.mk (Kd.R_lower (Kd.R_mono (ok' := fun k_ => True) ho0 (fun _ hk_ => trivial)) (below_size (bM HB.out)));have n2_ := Aside0.mk (below_step (bM HB.out) hb);clear HO599;clear HB;have HO599 := n0_;have HO602 := n1_;have HB := n2_;clear n0_ n1_ n2_;(try clear hb);(try clear hb2);(try clear hk);(try clear hi);(try clear ho0)))
          go_ret
          exact ⟨by first|rfl|(simp [errW_none,errW_some] <;> rfl)|(simp [*,errW_none,errW_some] <;> rfl),bM HB.out⟩
        ·rw [if_neg c29] at H
         have c29b0 : (t597 == 0) = false := beq_eq_false_iff_ne.mpr c29
         have c29b1 : (t597 != 0) = true := bne_iff_ne.mpr c29
         by_cases c40 : t597 = 3
         ·rw [if_pos c40] at H
          have c40b0 : (t597 == 3) = true := beq_iff_eq.mpr c40
          have c40b1 : (t597 != 3) = false := bne_eq_false_iff_eq.mpr c40
          clear c40
          obtain rfl := Option.some.inj H
          go_wp2_with (first|((with_reducible refine gate_callee (f := 27) rfl ?_);refine goesL_ (some 48) rfl rfl Try.func27 (by kernel_rfl) rfl #[.slice A1 l1.length c1] rfl (by (try simp only [List.map_toArray,List.map_cons,List.map_nil]);first|done|rfl|(simp only [List.length_drop,List.length_take];rfl)) ?_;(with_reducible refine (posting_Unpack.calls kj12 _ _ l1 t596 t597 _ ?side1 ?side2 A28.out).mono ?_);(case side1 => exact cM (Kd.C_below HR1.out HB.out));(case side2 => exact HC1.out);rintro e w41 ⟨v598,rfl,ho0,hb⟩;refine ⟨_,rfl,?_⟩;have n0_ := Aside0.mk (Kd.R_lower ho0 (below_size (bM HB.out)));have n1_ := Aside0.mk (below_step (bM HB.out) hb);clear HB;have HO599 := n0_;have HB := n1_;clear n0_ n1_;(try clear hb);(try clear hb2);(try clear hk);(try clear hi);(try clear ho0);obtain ⟨Ao42,co42,eo42⟩ := Kd.R_slice HO599.out;subst eo42))
          go_ret
          exact ⟨by first|rfl|(simp [errW_none,errW_some] <;> rfl)|(simp [*,errW_none,errW_some] <;> rfl),bM HB.out⟩
         ·rw [if_neg c40] at H
          have c40b0 : (t597 == 3) = false := beq_eq_false_iff_ne.mpr c40
          have c40b1 : (t597 != 3) = true := bne_iff_ne.mpr c40
          obtain rfl := Option.some.inj H
          go_wp2_with (first|((with_reducible refine gate_callee (f := 27) rfl ?_);refine goesL_ (some 48) rfl rfl Try.func27 (by kernel_rfl) rfl #[.slice A1 l1.length c1] rfl (by (try simp only [List.map_toArray,List.map_cons,List.map_nil]);first|done|rfl|(simp only [List.length_drop,List.length_take];rfl)) ?_;(with_reducible refine (posting_Unpack.calls kj12 _ _ l1 t596 t597 _ ?side1 ?side2 A28.out).mono ?_);(case side1 => exact cM (Kd.C_below HR1.out HB.out));(case side2 => exact HC1.out);rintro e w43 ⟨v598,rfl,ho0,hb⟩;refine ⟨_,rfl,?_⟩;have n0_ := Aside0.mk (Kd.R_lower ho0 (below_size (bM HB.out)));have n1_ := Aside0.mk (below_step (bM HB.out) hb);clear HB;have HO599 := n0_;have HB := n1_;clear n0_ n1_;(try clear hb);(try clear hb2);(try clear hk);(try clear hi);(try clear ho0)))
          go_ret
          exact ⟨by first|rfl|(simp [errW_none,errW_some] <;> rfl)|(simp [*,errW_none,errW_some] <;> rfl),bM HB.out⟩
 ·replace c4 := Bool.eq_false_iff.mpr c4
  subst c4
  have H1 : (some false) = some r := by rw [if_neg (show ¬ (false = true) by decide)] at H;exact H
  clear H
  have H := H1
  clear H1
  obtain rfl := Option.some.inj H
  go_enter Try.func8,Try.ntmps8
  go_wp2_with (first|((with_reducible refine gate_callee (f := 10) rfl ?_);refine goesL_ (some 11) rfl rfl Try.func10 (by kernel_rfl) rfl #[] rfl (by (try simp only [List.map_toArray,List.map_cons,List.map_nil]);first|done|rfl|(simp only [List.length_drop,List.length_take];rfl)) ?_;(with_reducible refine (codesearchlaw05_alive.calls k  false _ A3.out).mono ?_);rintro e w44 ⟨rfl,hb⟩;refine ⟨_,rfl,?_⟩;have n0_ := Aside0.mk (below_step (bM HB.out) hb);clear HB;have HB := n0_;clear n0_;(try clear hb);(try clear hb2);(try clear hk);(try clear hi)))
  go_ret
  exact ⟨by first|rfl|(simp [errW_none,errW_some] <;> rfl)|(simp [*,errW_none,errW_some] <;> rfl),bM HB.out⟩

/-! ### codesearchlaw05_PostingSeek: function 9 -/
def codesearchlaw05_PostingSeek.l0 : Nat → List Int → Int → Int → Bool → Bool → Int → Option (Bool)
|0,_,_,_,_,_,_ => none
|k + 1,x0,x1,x7,x8,x9,x10 => if x10 < (x0.length : Int) then (if 0 ≤ x10 then (if (rd x0 x10) ≥ x1 then (if x8 = true then (if (rd x0 x10) < x7 then (some false) else (if x9 = true then (codesearchlaw05_PostingSeek.l0 k x0 x1 x7 x8 true (wrap64 (x10 + 1))) else (codesearchlaw05_PostingSeek.l0 k x0 x1 x7 x8 ((rd x0 x10) == x7) (wrap64 (x10 + 1))))) else (some false)) else (codesearchlaw05_PostingSeek.l0 k x0 x1 x7 x8 x9 (wrap64 (x10 + 1)))) else (none)) else (if (x8 == x9) = true then (if x8 = true then (some true) else (some (x7 == 0))) else (some false))
def codesearchlaw05_PostingSeek.f (k : Nat) (l0 : List Int) (a1 : Int) : Option (Bool) := (codesearchlaw05_alive.f k).bind fun t605 => (if t605 = true then (if (l0.length : Int) > 200 then (some true) else ((posting_Pack.f k l0).bind fun bt606 => (if bt606.2 = 0 then ((posting_Seek.f k bt606.1 a1).bind fun bt610 => (codesearchlaw05_PostingSeek.l0 k l0 a1 bt610.1 bt610.2 false 0)) else (some (bt606.2 == 1))))) else (some false))
theorem codesearchlaw05_PostingSeek.mono_l : ∀ k, (∀ y0 y1 y2 y3 y4 y5, LeO (codesearchlaw05_PostingSeek.l0 k y0 y1 y2 y3 y4 y5) (codesearchlaw05_PostingSeek.l0 (k + 1) y0 y1 y2 y3 y4 y5))
|0 => fun _ _ _ _ _ _ r h => by simp [codesearchlaw05_PostingSeek.l0] at h
|k + 1 => by
  have ih0 := codesearchlaw05_PostingSeek.mono_l k
  ·intro y0 y1 y2 y3 y4 y5
   unfold codesearchlaw05_PostingSeek.l0
   repeat' first
  |(with_reducible exact ih0 _ _ _ _ _ _)
  |(with_reducible exact codesearchlaw05_alive.mono _)
  |(with_reducible exact posting_Pack.mono _ _)
  |(with_reducible exact posting_Seek.mono _ _ _)
  |(with_reducible exact LeO.refl _)
  |(with_reducible exact LeO.none _)
  |(with_reducible refine LeO.ite ?_ ?_)
  |(with_reducible refine LeO.bind ?_ (fun _ => ?_))
  |exact ih0 _ _ _ _ _ _
  |exact codesearchlaw05_alive.mono _
  |exact posting_Pack.mono _ _
  |exact posting_Seek.mono _ _ _
  |exact LeO.none _
  |refine LeO.ite ?_ ?_
  |refine LeO.bind ?_ (fun _ => ?_)
theorem codesearchlaw05_PostingSeek.mono : ∀ a0 a1 k, LeO (codesearchlaw05_PostingSeek.f k a0 a1) (codesearchlaw05_PostingSeek.f (k + 1) a0 a1) := by
 intro a0 a1 k
 have ih0 := codesearchlaw05_PostingSeek.mono_l k
 unfold codesearchlaw05_PostingSeek.f
 repeat' first
  |(with_reducible exact ih0 _ _ _ _ _ _)
  |(with_reducible exact codesearchlaw05_alive.mono _)
  |(with_reducible exact posting_Pack.mono _ _)
  |(with_reducible exact posting_Seek.mono _ _ _)
  |(with_reducible exact LeO.refl _)
  |(with_reducible exact LeO.none _)
  |(with_reducible refine LeO.ite ?_ ?_)
  |(with_reducible refine LeO.bind ?_ (fun _ => ?_))
  |exact ih0 _ _ _ _ _ _
  |exact codesearchlaw05_alive.mono _
  |exact posting_Pack.mono _ _
  |exact posting_Seek.mono _ _ _
  |exact LeO.none _
  |refine LeO.ite ?_ ?_
  |refine LeO.bind ?_ (fun _ => ?_)
set_option maxHeartbeats 4000000 in
set_option maxRecDepth 100000 in
theorem codesearchlaw05_PostingSeek.calls (k : Nat) (A0 : Option Addr) (c0 : Nat) (l0 : List Int) (a1 : Int) (r : Bool) (w : World) (hr0 : Kd.C (Kd.int .i64) w A0 l0.length l0) (hc0 : l0.length ≤ c0) (h : codesearchlaw05_PostingSeek.f k l0 a1 = some r) :
  Calls Try.prog 9 #[.slice A0 l0.length c0,.int .i64 a1] w fun e w' => e = .returned (.bool r) ∧ Below w.heap.size w w' := by
 have HR0 := Aside0.mk hr0
 have HC0 := Aside0.mk hc0
 clear hr0 hc0
 have HB := Aside0.mk (Below.refl w.heap.size w)
 have H : ((codesearchlaw05_alive.f k).bind fun t605 => (if t605 = true then (if (l0.length : Int) > 200 then (some true) else ((posting_Pack.f k l0).bind fun bt606 => (if bt606.2 = 0 then ((posting_Seek.f k bt606.1 a1).bind fun bt610 => (codesearchlaw05_PostingSeek.l0 k l0 a1 bt610.1 bt610.2 false 0)) else (some (bt606.2 == 1))))) else (some false))) = some r := h
 clear h
 replace H := Option.bind_eq_some_iff.mp H
 obtain ⟨t605,A30,H⟩ := H
 replace H : (if t605 = true then (if (l0.length : Int) > 200 then (some true) else ((posting_Pack.f k l0).bind fun bt606 => (if bt606.2 = 0 then ((posting_Seek.f k bt606.1 a1).bind fun bt610 => (codesearchlaw05_PostingSeek.l0 k l0 a1 bt610.1 bt610.2 false 0)) else (some (bt606.2 == 1))))) else (some false)) = some r := H
 have A3 := Aside0.mk A30
 clear A30
 by_cases c4 : t605 = true
 ·subst c4
  have H1 : (if (l0.length : Int) > 200 then (some true) else ((posting_Pack.f k l0).bind fun bt606 => (if bt606.2 = 0 then ((posting_Seek.f k bt606.1 a1).bind fun bt610 => (codesearchlaw05_PostingSeek.l0 k l0 a1 bt610.1 bt610.2 false 0)) else (some (bt606.2 == 1))))) = some r := by rw [if_pos rfl] at H;exact H
  clear H
  have H := H1
  clear H1
  by_cases c5 : (l0.length : Int) > 200
  ·rw [if_pos c5] at H
   have c5b0 : decide (200 < (l0.length : Int)) = true := decide_eq_true c5
   have c5b1 : decide (200 < l0.length) = true := decide_eq_true (by omega)
   clear c5
   obtain rfl := Option.some.inj H
   go_enter Try.func9,Try.ntmps9
   go_wp2_with (first|((with_reducible refine gate_callee (f := 10) rfl ?_);refine goesL_ (some 11) rfl rfl Try.func10 (by kernel_rfl) rfl #[] rfl (by (try simp only [List.map_toArray,List.map_cons,List.map_nil]);first|done|rfl|(simp only [List.length_drop,List.length_take];rfl)) ?_;(with_reducible refine (codesearchlaw05_alive.calls k  true _ A3.out).mono ?_);rintro e w6 ⟨rfl,hb⟩;refine ⟨_,rfl,?_⟩;have n0_ := Aside0.mk (below_step (bM HB.out) hb);clear HB;have HB := n0_;clear n0_;(try clear hb);(try clear hb2);(try clear hk);(try clear hi)))
   go_ret
   exact ⟨by first|rfl|(simp [errW_none,errW_some] <;> rfl)|(simp [*,errW_none,errW_some] <;> rfl),bM HB.out⟩
  ·rw [if_neg c5] at H
   have c5b0 : decide (200 < (l0.length : Int)) = false := decide_eq_false c5
   have c5b1 : decide (200 < l0.length) = false := decide_eq_false (by omega)
   clear c5
   replace H := Option.bind_eq_some_iff.mp H
   obtain ⟨⟨t606,t609⟩,A70,H⟩ := H
   replace H : (if t609 = 0 then ((posting_Seek.f k t606 a1).bind fun bt610 => (codesearchlaw05_PostingSeek.l0 k l0 a1 bt610.1 bt610.2 false 0)) else (some (t609 == 1))) = some r := H
   have A7 := Aside0.mk A70
   clear A70
   by_cases c8 : t609 = 0
   ·rw [if_pos c8] at H
    have c8b0 : (t609 == 0) = true := beq_iff_eq.mpr c8
    have c8b1 : (t609 != 0) = false := bne_eq_false_iff_eq.mpr c8
    clear c8
    replace H := Option.bind_eq_some_iff.mp H
    obtain ⟨⟨t610,t611⟩,A90,H⟩ := H
    replace H : (codesearchlaw05_PostingSeek.l0 k l0 a1 t610 t611 false 0) = some r := H
    have A9 := Aside0.mk A90
    clear A90
    have H' := Aside0.mk H
    clear H
    go_enter Try.func9,Try.ntmps9
    go_wp2_with (first|((with_reducible refine gate_callee (f := 10) rfl ?_);refine goesL_ (some 11) rfl rfl Try.func10 (by kernel_rfl) rfl #[] rfl (by (try simp only [List.map_toArray,List.map_cons,List.map_nil]);first|done|rfl|(simp only [List.length_drop,List.length_take];rfl)) ?_;(with_reducible refine (codesearchlaw05_alive.calls k  true _ A3.out).mono ?_);rintro e w10 ⟨rfl,hb⟩;refine ⟨_,rfl,?_⟩;have n0_ := Aside0.mk (below_step (bM HB.out) hb);clear HB;have HB := n0_;clear n0_;(try clear hb);(try clear hb2);(try clear hk);(try clear hi))|((with_reducible refine gate_callee (f := 22) rfl ?_);refine goesL_ (some 18) rfl rfl Try.func22 (by kernel_rfl) rfl #[.slice A0 l0.length c0] rfl (by (try simp only [List.map_toArray,List.map_cons,List.map_nil]);first|done|rfl|(simp only [List.length_drop,List.length_take];rfl)) ?_;(with_reducible refine (posting_Pack.calls k (fun k_ => k_ < w.heap.size) _ _ l0 t606 t609 _ ?side1 A7.out).mono ?_);(case side1 => exact Kd.V_mk HC0.out (Kd.F_below (Kd.C_F (Kd.heap_int .i64) HR0.out) (bM HB.out)));rintro e w11 ⟨v607,rfl,ho0,hb⟩;refine ⟨_,rfl,?_⟩;have n0_ := Aside0.mk (Kd.R_lower (Kd.R_mono (ok' := fun k_ => True) ho0 (fun _ hk_ => trivial)) (below_size (bM HB.out)));have n1_ := Aside0.mk (below_step (bM HB.out) hb);clear HB;have HO608 := n0_;have HB := n1_;clear n0_ n1_;(try clear hb);(try clear hb2);(try clear hk);(try clear hi);(try clear ho0);obtain ⟨Ao12,co12,eo12⟩ := Kd.R_slice HO608.out;subst eo12)|((with_reducible refine gate_callee (f := 29) rfl ?_);refine goesL_ (some 28) rfl rfl Try.func29 (by kernel_rfl) rfl #[.slice Ao12 t606.length co12,.int .i64 a1] rfl (by (try simp only [List.map_toArray,List.map_cons,List.map_nil]);first|done|rfl|(simp only [List.length_drop,List.length_take];rfl)) ?_;(with_reducible refine (posting_Seek.calls k _ _ t606 a1 t610 t611 _ ?side1 ?side2 A9.out).mono ?_);(case side1 => exact cM (Kd.R_reads' HO608.out).2.2);(case side2 => exact (Kd.R_reads' HO608.out).2.1);rintro e w13 ⟨rfl,hb⟩;refine ⟨_,rfl,?_⟩;have n0_ := Aside0.mk (Kd.R_below (rM HO608.out) hb);have n1_ := Aside0.mk (below_step (bM HB.out) hb);clear HO608;clear HB;have HO608 := n0_;have HB := n1_;clear n0_ n1_;(try clear hb);(try clear hb2);(try clear hk);(try clear hi)))
    go_loopg [9,10] k (fun kq v9 v10 w' => ∃ (x9_1 : Bool) (x10_1 : Int),v9 = .bool x9_1 ∧ v10 = .int .i64 x10_1 ∧ Aside0 (codesearchlaw05_PostingSeek.l0 kq l0 a1 t610 t611 x9_1 x10_1 = some r) ∧ Aside0 (kq ≤ k) ∧ Aside0 (Below w.heap.size w w'))
    case atStart => exact ⟨(false),(0),(by first|rfl|(simp;done)|(simp [*];done)),(by first|rfl|(simp;done)|(simp [*];done)),H',⟨Nat.le_refl _⟩,⟨bM HB.out⟩⟩
    case round =>
     clear H'
     try clear c1
     try clear c2
     try clear p2
     try clear c4
     try clear c5
     try clear c5b0
     try clear c5b1
     try clear c8
     try clear c8b0
     try clear c8b1
     try clear c9
     try clear c10
     obtain ⟨x9_1,x10_1,rfl,rfl,HA,HK1,HB⟩ := hrel
     cases gk with
    |zero => exact absurd HA.out (by simp [codesearchlaw05_PostingSeek.l0])
    |succ k1 =>
      have H := HA.out
      clear HA
      simp only [codesearchlaw05_PostingSeek.l0] at H
      by_cases c14 : x10_1 < (l0.length : Int)
      ·rw [if_pos c14] at H
       have c14b0 : decide (x10_1 < (l0.length : Int)) = true := decide_eq_true c14
       clear c14
       by_cases c15 : 0 ≤ x10_1
       ·rw [if_pos c15] at H
        have c15b0 : decide (0 ≤ x10_1) = true := decide_eq_true c15
        clear c15
        by_cases c16 : (rd l0 x10_1) ≥ a1
        ·rw [if_pos c16] at H
         have c16b0 : decide (a1 ≤ (rd l0 x10_1)) = true := decide_eq_true c16
         clear c16
         by_cases c17 : t611 = true
         ·subst c17
          have H1 : (if (rd l0 x10_1) < t610 then (some false) else (if x9_1 = true then (codesearchlaw05_PostingSeek.l0 k1 l0 a1 t610 true true (wrap64 (x10_1 + 1))) else (codesearchlaw05_PostingSeek.l0 k1 l0 a1 t610 true ((rd l0 x10_1) == t610) (wrap64 (x10_1 + 1))))) = some r := by rw [if_pos rfl] at H;exact H
          clear H
          have H := H1
          clear H1
          by_cases c18 : (rd l0 x10_1) < t610
          ·rw [if_pos c18] at H
           have c18b0 : decide ((rd l0 x10_1) < t610) = true := decide_eq_true c18
           clear c18
           obtain rfl := Option.some.inj H
           have p612 : 0 ≤ (x10_1 : Int) := of_decide_eq_true (by first|(with_reducible assumption)|assumption)
           have q612 : x10_1 < (l0.length : Int) := of_decide_eq_true (by first|(with_reducible assumption)|assumption)
           obtain ⟨ad612,e612,hx612_0⟩ := Kd.at_int HR0.out x10_1 p612 q612
           cases e612
           replace hx612_0 := (HB.out.cell (World.block_lt_of_cell? w _ hx612_0)).trans hx612_0
           replace p612 := eq_true p612
           replace q612 := eq_true q612
           have p613 : 0 ≤ (x10_1 : Int) := of_decide_eq_true (by first|(with_reducible assumption)|assumption)
           have q613 : x10_1 < (l0.length : Int) := of_decide_eq_true (by first|(with_reducible assumption)|assumption)
           obtain ⟨ad613,e613,hx613_0⟩ := Kd.at_int HR0.out x10_1 p613 q613
           obtain rfl : ad612 = ad613 := (by injection e613)
           replace hx613_0 := (HB.out.cell (World.block_lt_of_cell? w _ hx613_0)).trans hx613_0
           replace p613 := eq_true p613
           replace q613 := eq_true q613
           go_wp2
           go_ret
           exact ⟨by first|rfl|(simp [errW_none,errW_some] <;> rfl)|(simp [*,errW_none,errW_some] <;> rfl),bM HB.out⟩
          ·rw [if_neg c18] at H
           have c18b0 : decide ((rd l0 x10_1) < t610) = false := decide_eq_false c18
           clear c18
           by_cases c19 : x9_1 = true
           ·subst c19
            have H1 : (codesearchlaw05_PostingSeek.l0 k1 l0 a1 t610 true true (wrap64 (x10_1 + 1))) = some r := by rw [if_pos rfl] at H;exact H
            clear H
            have H := H1
            clear H1
            have H' := Aside0.mk H
            clear H
            have p612 : 0 ≤ (x10_1 : Int) := of_decide_eq_true (by first|(with_reducible assumption)|assumption)
            have q612 : x10_1 < (l0.length : Int) := of_decide_eq_true (by first|(with_reducible assumption)|assumption)
            obtain ⟨ad612,e612,hx612_0⟩ := Kd.at_int HR0.out x10_1 p612 q612
            cases e612
            replace hx612_0 := (HB.out.cell (World.block_lt_of_cell? w _ hx612_0)).trans hx612_0
            replace p612 := eq_true p612
            replace q612 := eq_true q612
            have p613 : 0 ≤ (x10_1 : Int) := of_decide_eq_true (by first|(with_reducible assumption)|assumption)
            have q613 : x10_1 < (l0.length : Int) := of_decide_eq_true (by first|(with_reducible assumption)|assumption)
            obtain ⟨ad613,e613,hx613_0⟩ := Kd.at_int HR0.out x10_1 p613 q613
            obtain rfl : ad612 = ad613 := (by injection e613)
            replace hx613_0 := (HB.out.cell (World.block_lt_of_cell? w _ hx613_0)).trans hx613_0
            replace p613 := eq_true p613
            replace q613 := eq_true q613
            go_wp2
            go_roundg k1
            case measure => have := HK1.out;omega
            case rel => exact ⟨(true),(wrap64 (x10_1 + 1)),(by first|rfl|(simp;done)|(simp [*];done)),(by first|rfl|(simp;done)|(simp [*];done)),H',⟨by have := HK1.out;omega⟩,⟨bM HB.out⟩⟩
           ·replace c19 := Bool.eq_false_iff.mpr c19
            subst c19
            have H1 : (codesearchlaw05_PostingSeek.l0 k1 l0 a1 t610 true ((rd l0 x10_1) == t610) (wrap64 (x10_1 + 1))) = some r := by rw [if_neg (show ¬ (false = true) by decide)] at H;exact H
            clear H
            have H := H1
            clear H1
            have H' := Aside0.mk H
            clear H
            have p612 : 0 ≤ (x10_1 : Int) := of_decide_eq_true (by first|(with_reducible assumption)|assumption)
            have q612 : x10_1 < (l0.length : Int) := of_decide_eq_true (by first|(with_reducible assumption)|assumption)
            obtain ⟨ad612,e612,hx612_0⟩ := Kd.at_int HR0.out x10_1 p612 q612
            cases e612
            replace hx612_0 := (HB.out.cell (World.block_lt_of_cell? w _ hx612_0)).trans hx612_0
            replace p612 := eq_true p612
            replace q612 := eq_true q612
            have p613 : 0 ≤ (x10_1 : Int) := of_decide_eq_true (by first|(with_reducible assumption)|assumption)
            have q613 : x10_1 < (l0.length : Int) := of_decide_eq_true (by first|(with_reducible assumption)|assumption)
            obtain ⟨ad613,e613,hx613_0⟩ := Kd.at_int HR0.out x10_1 p613 q613
            obtain rfl : ad612 = ad613 := (by injection e613)
            replace hx613_0 := (HB.out.cell (World.block_lt_of_cell? w _ hx613_0)).trans hx613_0
            replace p613 := eq_true p613
            replace q613 := eq_true q613
            have p614 : 0 ≤ (x10_1 : Int) := of_decide_eq_true (by first|(with_reducible assumption)|assumption)
            have q614 : x10_1 < (l0.length : Int) := of_decide_eq_true (by first|(with_reducible assumption)|assumption)
            obtain ⟨ad614,e614,hx614_0⟩ := Kd.at_int HR0.out x10_1 p614 q614
            obtain rfl : ad612 = ad614 := (by injection e614)
            replace hx614_0 := (HB.out.cell (World.block_lt_of_cell? w _ hx614_0)).trans hx614_0
            replace p614 := eq_true p614
            replace q614 := eq_true q614
            go_wp2
            go_roundg k1
            case measure => have := HK1.out;omega
            case rel => exact ⟨(((rd l0 x10_1) == t610)),(wrap64 (x10_1 + 1)),(by first|rfl|(simp;done)|(simp [*];done)),(by first|rfl|(simp;done)|(simp [*];done)),H',⟨by have := HK1.out;omega⟩,⟨bM HB.out⟩⟩
         ·replace c17 := Bool.eq_false_iff.mpr c17
          subst c17
          have H1 : (some false) = some r := by rw [if_neg (show ¬ (false = true) by decide)] at H;exact H
          clear H
          have H := H1
          clear H1
          obtain rfl := Option.some.inj H
          have p612 : 0 ≤ (x10_1 : Int) := of_decide_eq_true (by first|(with_reducible assumption)|assumption)
          have q612 : x10_1 < (l0.length : Int) := of_decide_eq_true (by first|(with_reducible assumption)|assumption)
          obtain ⟨ad612,e612,hx612_0⟩ := Kd.at_int HR0.out x10_1 p612 q612
          cases e612
          replace hx612_0 := (HB.out.cell (World.block_lt_of_cell? w _ hx612_0)).trans hx612_0
          replace p612 := eq_true p612
          replace q612 := eq_true q612
          go_wp2
          go_ret
          exact ⟨by first|rfl|(simp [errW_none,errW_some] <;> rfl)|(simp [*,errW_none,errW_some] <;> rfl),bM HB.out⟩
        ·rw [if_neg c16] at H
         have c16b0 : decide (a1 ≤ (rd l0 x10_1)) = false := decide_eq_false c16
         clear c16
         have H' := Aside0.mk H
         clear H
         have p612 : 0 ≤ (x10_1 : Int) := of_decide_eq_true (by first|(with_reducible assumption)|assumption)
         have q612 : x10_1 < (l0.length : Int) := of_decide_eq_true (by first|(with_reducible assumption)|assumption)
         obtain ⟨ad612,e612,hx612_0⟩ := Kd.at_int HR0.out x10_1 p612 q612
         cases e612
         replace hx612_0 := (HB.out.cell (World.block_lt_of_cell? w _ hx612_0)).trans hx612_0
         replace p612 := eq_true p612
         replace q612 := eq_true q612
         go_wp2
         go_roundg k1
         case measure => have := HK1.out;omega
         case rel => exact ⟨(x9_1),(wrap64 (x10_1 + 1)),(by first|rfl|(simp;done)|(simp [*];done)),(by first|rfl|(simp;done)|(simp [*];done)),H',⟨by have := HK1.out;omega⟩,⟨bM HB.out⟩⟩
       ·rw [if_neg c15] at H
        exact absurd H (by simp)
      ·rw [if_neg c14] at H
       have c14b0 : decide (x10_1 < (l0.length : Int)) = false := decide_eq_false c14
       clear c14
       by_cases c20 : (t611 == x9_1) = true
       ·rw [if_pos c20] at H
        have c20b0 : (t611 == x9_1) = true := c20
        (try (have c20b1 : decide (t611 = x9_1) = true := by simpa using c20))
        (try (have c20b2 : (t611 == x9_1) = true := by simpa using c20))
        clear c20
        by_cases c21 : t611 = true
        ·subst c21
         have H1 : (some true) = some r := by rw [if_pos rfl] at H;exact H
         clear H
         have H := H1
         clear H1
         obtain rfl := Option.some.inj H
         go_wp2
         go_ret
         exact ⟨by first|rfl|(simp [errW_none,errW_some] <;> rfl)|(simp [*,errW_none,errW_some] <;> rfl),bM HB.out⟩
        ·replace c21 := Bool.eq_false_iff.mpr c21
         subst c21
         have H1 : (some (t610 == 0)) = some r := by rw [if_neg (show ¬ (false = true) by decide)] at H;exact H
         clear H
         have H := H1
         clear H1
         obtain rfl := Option.some.inj H
         go_wp2
         go_ret
         exact ⟨by first|rfl|(simp [errW_none,errW_some] <;> rfl)|(simp [*,errW_none,errW_some] <;> rfl),bM HB.out⟩
       ·rw [if_neg c20] at H
        have c20b0 : (t611 == x9_1) = false := by simpa using c20
        (try (have c20b1 : decide (t611 = x9_1) = false := by simpa using c20))
        (try (have c20b2 : (t611 == x9_1) = false := by simpa using c20))
        (try (have c20b3 : ¬ (t611 = x9_1) := by simpa using c20))
        clear c20
        obtain rfl := Option.some.inj H
        go_wp2
        go_ret
        exact ⟨by first|rfl|(simp [errW_none,errW_some] <;> rfl)|(simp [*,errW_none,errW_some] <;> rfl),bM HB.out⟩
   ·rw [if_neg c8] at H
    have c8b0 : (t609 == 0) = false := beq_eq_false_iff_ne.mpr c8
    have c8b1 : (t609 != 0) = true := bne_iff_ne.mpr c8
    obtain rfl := Option.some.inj H
    go_enter Try.func9,Try.ntmps9
    go_wp2_with (first|((with_reducible refine gate_callee (f := 10) rfl ?_);refine goesL_ (some 11) rfl rfl Try.func10 (by kernel_rfl) rfl #[] rfl (by (try simp only [List.map_toArray,List.map_cons,List.map_nil]);first|done|rfl|(simp only [List.length_drop,List.length_take];rfl)) ?_;(with_reducible refine (codesearchlaw05_alive.calls k  true _ A3.out).mono ?_);rintro e w22 ⟨rfl,hb⟩;refine ⟨_,rfl,?_⟩;have n0_ := Aside0.mk (below_step (bM HB.out) hb);clear HB;have HB := n0_;clear n0_;(try clear hb);(try clear hb2);(try clear hk);(try clear hi))|((with_reducible refine gate_callee (f := 22) rfl ?_);refine goesL_ (some 18) rfl rfl Try.func22 (by kernel_rfl) rfl #[.slice A0 l0.length c0] rfl (by (try simp only [List.map_toArray,List.map_cons,List.map_nil]);first|done|rfl|(simp only [List.length_drop,List.length_take];rfl)) ?_;(with_reducible refine (posting_Pack.calls k (fun k_ => k_ < w.heap.size) _ _ l0 t606 t609 _ ?side1 A7.out).mono ?_);(case side1 => exact Kd.V_mk HC0.out (Kd.F_below (Kd.C_F (Kd.heap_int .i64) HR0.out) (bM HB.out)));rintro e w23 ⟨v607,rfl,ho0,hb⟩;refine ⟨_,rfl,?_⟩;have n0_ := Aside0.mk (Kd.R_lower (Kd.R_mono (ok' := fun k_ => True) ho0 (fun _ hk_ => trivial)) (below_size (bM HB.out)));have n1_ := Aside0.mk (below_step (bM HB.out) hb);clear HB;have HO608 := n0_;have HB := n1_;clear n0_ n1_;(try clear hb);(try clear hb2);(try clear hk);(try clear hi);(try clear ho0)))
    go_ret
    exact ⟨by first|rfl|(simp [errW_none,errW_some] <;> rfl)|(simp [*,errW_none,errW_some] <;> rfl),bM HB.out⟩
 ·replace c4 := Bool.eq_false_iff.mpr c4
  subst c4
  have H1 : (some false) = some r := by rw [if_neg (show ¬ (false = true) by decide)] at H;exact H
  clear H
  have H := H1
  clear H1
  obtain rfl := Option.some.inj H
  go_enter Try.func9,Try.ntmps9
  go_wp2_with (first|((with_reducible refine gate_callee (f := 10) rfl ?_);refine goesL_ (some 11) rfl rfl Try.func10 (by kernel_rfl) rfl #[] rfl (by (try simp only [List.map_toArray,List.map_cons,List.map_nil]);first|done|rfl|(simp only [List.length_drop,List.length_take];rfl)) ?_;(with_reducible refine (codesearchlaw05_alive.calls k  false _ A3.out).mono ?_);rintro e w24 ⟨rfl,hb⟩;refine ⟨_,rfl,?_⟩;have n0_ := Aside0.mk (below_step (bM HB.out) hb);clear HB;have HB := n0_;clear n0_;(try clear hb);(try clear hb2);(try clear hk);(try clear hi)))
  go_ret
  exact ⟨by first|rfl|(simp [errW_none,errW_some] <;> rfl)|(simp [*,errW_none,errW_some] <;> rfl),bM HB.out⟩

end Go.Proofs.Ytknpmknkkofnjaa.P
