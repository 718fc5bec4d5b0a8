-- Written by hp.py, a program of this session, over the kit's print of the translation. Not trusted: Lean checks it.
import Derived.Test.YtknpmknkkofnjaaPx0
import Derived.Test.YtknpmknkkofnjaaPx3
import Derived.Test.YtknpmknkkofnjaaPx6
import Derived.Test.YtknpmknkkofnjaaPx9
import Derived.Test.YtknpmknkkofnjaaPx10
namespace Go.Proofs.Ytknpmknkkofnjaa.P
open Go.RowKit Go.Proofs.YtknpmknkkofnjaaW.PrintWords Go.Proofs.YtknpmknkkofnjaaW.PrintLast Go.Proofs.YtknpmknkkofnjaaW.PrintMore
attribute [local go_sem] max2_int min2_int max_two min_two max_three min_three max_four min_four   -- for this text's walks alone
set_option linter.unusedVariables false
set_option linter.unusedSimpArgs false

/-! ### codesearchref05_Pack: function 23 -/
def codesearchref05_Pack.l0 : Nat → List Int → List Int → List Int → Int → Option (List Int × Int)
|0,_,_,_,_ => none
|k + 1,x0,x4,x5,x6 => if x6 < (x0.length : Int) then (if (wrap64 (x6 + 16)) > (x0.length : Int) then (if 0 ≤ x6 then (if x6 ≤ (x0.length : Int) then (if (x0.length : Int) ≤ (x0.length : Int) then ((codesearchref03_PutList.f k ([] : List Int) ((x0.take ((x0.length : Int) : Int).toNat).drop (x6 : Int).toNat)).bind fun bt454 => (if 0 ≤ (wrap64 ((x0.length : Int) - 1)) then (if (wrap64 ((x0.length : Int) - 1)) < (x0.length : Int) then ((codesearchref03_Put.f k x4 (rd x0 (wrap64 ((x0.length : Int) - 1)))).bind fun t459 => ((codesearchref03_Put.f k t459 (bt454.1.length : Int)).bind fun t462 => (if x5.length + bt454.1.length < 140737488355328 then (codesearchref05_Pack.l0 k x0 t462 (x5 ++ bt454.1) (wrap64 (x6 + 16))) else (none)))) else (none)) else (none))) else (none)) else (none)) else (none)) else (if 0 ≤ x6 then (if x6 ≤ (wrap64 (x6 + 16)) then (if (wrap64 (x6 + 16)) ≤ (x0.length : Int) then ((codesearchref03_PutList.f k ([] : List Int) ((x0.take ((wrap64 (x6 + 16)) : Int).toNat).drop (x6 : Int).toNat)).bind fun bt469 => (if 0 ≤ (wrap64 ((wrap64 (x6 + 16)) - 1)) then (if (wrap64 ((wrap64 (x6 + 16)) - 1)) < (x0.length : Int) then ((codesearchref03_Put.f k x4 (rd x0 (wrap64 ((wrap64 (x6 + 16)) - 1)))).bind fun t474 => ((codesearchref03_Put.f k t474 (bt469.1.length : Int)).bind fun t477 => (if x5.length + bt469.1.length < 140737488355328 then (codesearchref05_Pack.l0 k x0 t477 (x5 ++ bt469.1) (wrap64 (x6 + 16))) else (none)))) else (none)) else (none))) else (none)) else (none)) else (none))) else (if x4.length + x5.length < 140737488355328 then (some ((x4 ++ x5),0)) else (none))
def codesearchref05_Pack.f (k : Nat) (l0 : List Int) : Option (List Int × Int) := (codesearchref05_Valid.f k l0).bind fun t443 => (if t443 = true then ((codesearchref03_Put.f k ([] : List Int) (l0.length : Int)).bind fun t444 => (codesearchref05_Pack.l0 k l0 t444 (([] : List Int)) 0)) else (some (([] : List Int), 1)))
theorem codesearchref05_Pack.mono_l : ∀ k, (∀ y0 y1 y2 y3, LeO (codesearchref05_Pack.l0 k y0 y1 y2 y3) (codesearchref05_Pack.l0 (k + 1) y0 y1 y2 y3))
|0 => fun _ _ _ _ r h => by simp [codesearchref05_Pack.l0] at h
|k + 1 => by
  have ih0 := codesearchref05_Pack.mono_l k
  ·intro y0 y1 y2 y3
   unfold codesearchref05_Pack.l0
   repeat' first
  |(with_reducible exact ih0 _ _ _ _)
  |(with_reducible exact codesearchref03_Put.mono _ _ _)
  |(with_reducible exact codesearchref03_PutList.mono _ _ _)
  |(with_reducible exact codesearchref05_Valid.mono _ _)
  |(with_reducible exact LeO.refl _)
  |(with_reducible exact LeO.none _)
  |(with_reducible refine LeO.ite ?_ ?_)
  |(with_reducible refine LeO.bind ?_ (fun _ => ?_))
  |exact ih0 _ _ _ _
  |exact codesearchref03_Put.mono _ _ _
  |exact codesearchref03_PutList.mono _ _ _
  |exact codesearchref05_Valid.mono _ _
  |exact LeO.none _
  |refine LeO.ite ?_ ?_
  |refine LeO.bind ?_ (fun _ => ?_)
theorem codesearchref05_Pack.mono : ∀ a0 k, LeO (codesearchref05_Pack.f k a0) (codesearchref05_Pack.f (k + 1) a0) := by
 intro a0 k
 have ih0 := codesearchref05_Pack.mono_l k
 unfold codesearchref05_Pack.f
 repeat' first
  |(with_reducible exact ih0 _ _ _ _)
  |(with_reducible exact codesearchref03_Put.mono _ _ _)
  |(with_reducible exact codesearchref03_PutList.mono _ _ _)
  |(with_reducible exact codesearchref05_Valid.mono _ _)
  |(with_reducible exact LeO.refl _)
  |(with_reducible exact LeO.none _)
  |(with_reducible refine LeO.ite ?_ ?_)
  |(with_reducible refine LeO.bind ?_ (fun _ => ?_))
  |exact ih0 _ _ _ _
  |exact codesearchref03_Put.mono _ _ _
  |exact codesearchref03_PutList.mono _ _ _
  |exact codesearchref05_Valid.mono _ _
  |exact LeO.none _
  |refine LeO.ite ?_ ?_
  |refine LeO.bind ?_ (fun _ => ?_)
set_option maxHeartbeats 4000000 in
set_option maxRecDepth 100000 in
theorem codesearchref05_Pack.calls (k : Nat) (A0 : Option Addr) (c0 : Nat) (l0 : List Int) (r1 : List Int) (r2 : Int) (w : World) (hr0 : Kd.C (Kd.int .i64) w A0 l0.length l0) (hc0 : l0.length ≤ c0) (h : codesearchref05_Pack.f k l0 = some (r1, r2)) :
  Calls Try.prog 23 #[.slice A0 l0.length c0] w fun e w' => ∃ v0_ : Value,e = .returned (.tuple #[v0_,.int .i64 r2]) ∧ Kd.R (Kd.int .u8) 5 w' w.heap.size (fun _ => True) v0_ r1 ∧ Below w.heap.size w w' := by
 have HR0 := Aside0.mk hr0
 have HC0 := Aside0.mk hc0
 clear hr0 hc0
 have HB := Aside0.mk (Below.refl w.heap.size w)
 have H : ((codesearchref05_Valid.f k l0).bind fun t443 => (if t443 = true then ((codesearchref03_Put.f k ([] : List Int) (l0.length : Int)).bind fun t444 => (codesearchref05_Pack.l0 k l0 t444 (([] : List Int)) 0)) else (some (([] : List Int),1)))) = some (r1,r2) := h
 clear h
 replace H := Option.bind_eq_some_iff.mp H
 obtain ⟨t443,A20,H⟩ := H
 replace H : (if t443 = true then ((codesearchref03_Put.f k ([] : List Int) (l0.length : Int)).bind fun t444 => (codesearchref05_Pack.l0 k l0 t444 (([] : List Int)) 0)) else (some (([] : List Int),1))) = some (r1,r2) := H
 have A2 := Aside0.mk A20
 clear A20
 by_cases c3 : t443 = true
 ·subst c3
  have H1 : ((codesearchref03_Put.f k ([] : List Int) (l0.length : Int)).bind fun t444 => (codesearchref05_Pack.l0 k l0 t444 (([] : List Int)) 0)) = some (r1,r2) := by rw [if_pos rfl] at H;exact H
  clear H
  have H := H1
  clear H1
  replace H := Option.bind_eq_some_iff.mp H
  obtain ⟨t444,A40,H⟩ := H
  replace H : (codesearchref05_Pack.l0 k l0 t444 (([] : List Int)) 0) = some (r1,r2) := H
  have A4 := Aside0.mk A40
  clear A40
  obtain ⟨y447,hy447⟩ : ∃ y_ : List Int,y_ = (([] : List Int)) := ⟨_,rfl⟩
  replace H : (codesearchref05_Pack.l0 k l0 t444 y447 0) = some (r1,r2) := by first|(rw [hy447];with_reducible exact H)|(have H2_ := (Option.bind_some _ _).symm.trans H;rw [hy447];with_reducible exact H2_)|(have H2_ := (Option.bind_some _ _).symm.trans H;with_reducible exact H2_)|with_reducible exact H|(rw [hy447];exact H)|exact H
  have Ny447 := Aside0.mk hy447
  clear hy447
  have H' := Aside0.mk H
  clear H
  go_enter Try.func23,Try.ntmps23
  go_wp2_with (first|((with_reducible refine gate_callee (f := 12) rfl ?_);refine goesL_ (some 11) rfl rfl Try.func12 (by kernel_rfl) rfl #[.slice A0 l0.length c0] rfl (by (try simp only [List.map_toArray,List.map_cons,List.map_nil]);first|done|rfl|(simp only [List.length_drop,List.length_take];rfl)) ?_;(with_reducible refine (codesearchref05_Valid.calls k _ _ l0 true _ ?side1 ?side2 A2.out).mono ?_);(case side1 => exact cM HR0.out);(case side2 => exact HC0.out);rintro e w' ⟨rfl,⟨nd,rfl⟩⟩;refine ⟨_,rfl,?_⟩)|(go_at_call 41;refine calls_of_args (args' := #[.slice none ([] : List Int).length 0,.int .i64 (l0.length : Int)]) (by first|with_reducible rfl|(simp only [List.length_nil];done)|(simp only [List.length_nil];with_reducible rfl)) ?_;(with_reducible refine (codesearchref03_Put.calls k _ _ ([] : List Int) (l0.length : Int) t444 _ ?side1 ?side2 A4.out).mono ?_);(case side1 => exact Kd.C_nil _ _);(case side2 => exact Nat.le_refl _);rintro e w5 ⟨v445,rfl,ho0,hb⟩;have n0_ := Aside0.mk (Kd.R_lower ho0 (below_size (bM HB.out)));have n1_ := Aside0.mk (below_step (bM HB.out) hb);clear HB;have HO446 := n0_;have HB := n1_;clear n0_ n1_;(try clear hb);(try clear hb2);(try clear hk);(try clear hi);(try clear ho0))|((with_reducible refine gate_dst (N := 16) rfl ?_);refine Kd.R_lit (Kd.int .u8) _ 5 ?hg (N := 16) ?hd (xs := ([] : List Int)) (inner := []) (ok := fun _ => True) (okp := fun _ => True) ?hr ?hp (fun _ hk => hk) trivial (Below.refl _ _) (Nat.le_refl _) (by simp) ?_;(case hd => rfl);(case hg => rfl);(case hr => first|(go_simp;done)|(go_simp;rfl));(case hp => exact (Reps.none _ _));intro v448 w6 ho7 hb hg_ hnew_;clear hg_ hnew_;(first|rw [← Ny447.out] at ho7|(simp only [Int.reduceToNat] at ho7;rw [← Ny447.out] at ho7));have n0_ := Aside0.mk (Kd.R_elder' (rM HO446.out) (Kd.R_base ho7) hb);have n1_ := Aside0.mk (Kd.R_lower (Kd.R_new' ho7 (Kd.R_lt (rM HO446.out))) (below_size (bM HB.out)));have n2_ := Aside0.mk (below_step (bM HB.out) hb);clear HO446;clear HB;have HO446 := n0_;have HO449 := n1_;have HB := n2_;clear n0_ n1_ n2_;clear hb ho7))
  go_loopg [4,5,6] k (fun kq v4 v5 v6 w' => ∃ (x4_1 : List Int) (x5_1 : List Int) (x6_1 : Int),v6 = .int .i64 x6_1 ∧ Aside0 (codesearchref05_Pack.l0 kq l0 x4_1 x5_1 x6_1 = some (r1,r2)) ∧ Aside0 (kq ≤ k) ∧ Aside0 (Kd.R (Kd.int .u8) 5 w' w.heap.size (fun k_ => some k_ ≠ (v5 : Value).ownBlock) v4 x4_1) ∧ Aside0 (Kd.R (Kd.int .u8) 5 w' w.heap.size (fun k_ => some k_ ≠ (v4 : Value).ownBlock) v5 x5_1) ∧ Aside0 (Below w.heap.size w w'))
  case atStart => exact ⟨(t444),(y447),(0),(by first|rfl|(simp;done)|(simp [*];done)),H',⟨Nat.le_refl _⟩,⟨by (with_reducible repeat (first|apply Kd.R_alloc|apply Kd.R_drewN|apply Kd.R_drew));exact Kd.R_mono HO446.out (fun _ hk => hk.2)⟩,⟨by (with_reducible repeat (first|apply Kd.R_alloc|apply Kd.R_drewN|apply Kd.R_drew));exact Kd.R_mono HO449.out (fun _ hk => hk.2)⟩,⟨bM HB.out⟩⟩
  case round =>
   clear H'
   try clear c1
   try clear c2
   try clear p2
   try clear c3
   obtain ⟨x4_1,x5_1,x6_1,rfl,HA,HK1,HO_4,HO_5,HB⟩ := hrel
   cases gk with
  |zero => exact absurd HA.out (by simp [codesearchref05_Pack.l0])
  |succ k1 =>
    have H := HA.out
    clear HA
    simp only [codesearchref05_Pack.l0] at H
    by_cases c8 : x6_1 < (l0.length : Int)
    ·rw [if_pos c8] at H
     have c8b0 : decide (x6_1 < (l0.length : Int)) = true := decide_eq_true c8
     clear c8
     by_cases c9 : (wrap64 (x6_1 + 16)) > (l0.length : Int)
     ·rw [if_pos c9] at H
      have c9b0 : decide ((l0.length : Int) < (wrap64 (x6_1 + 16))) = true := decide_eq_true c9
      clear c9
      by_cases c10 : 0 ≤ x6_1
      ·rw [if_pos c10] at H
       have c10b0 := eq_true c10
       have c10b1 : decide (0 ≤ x6_1) = true := decide_eq_true c10
       clear c10
       by_cases c11 : x6_1 ≤ (l0.length : Int)
       ·rw [if_pos c11] at H
        have c11b0 := eq_true c11
        have c11b1 : decide (x6_1 ≤ (l0.length : Int)) = true := decide_eq_true c11
        clear c11
        by_cases c12 : (l0.length : Int) ≤ (l0.length : Int)
        ·rw [if_pos c12] at H
         have c12b0 := eq_true c12
         have c12b1 : decide ((l0.length : Int) ≤ (l0.length : Int)) = true := decide_eq_true c12
         clear c12
         replace H := Option.bind_eq_some_iff.mp H
         obtain ⟨⟨t454,t455⟩,A130,H⟩ := H
         replace H : (if 0 ≤ (wrap64 ((l0.length : Int) - 1)) then (if (wrap64 ((l0.length : Int) - 1)) < (l0.length : Int) then ((codesearchref03_Put.f k1 x4_1 (rd l0 (wrap64 ((l0.length : Int) - 1)))).bind fun t459 => ((codesearchref03_Put.f k1 t459 (t454.length : Int)).bind fun t462 => (if x5_1.length + t454.length < 140737488355328 then (codesearchref05_Pack.l0 k1 l0 t462 (x5_1 ++ t454) (wrap64 (x6_1 + 16))) else (none)))) else (none)) else (none)) = some (r1,r2) := H
         have A13 := Aside0.mk A130
         clear A130
         obtain ⟨ji14,hji14⟩ : ∃ j_ : Int,(wrap64 ((l0.length : Int) - 1)) = j_ := ⟨_,rfl⟩
         replace H : (if 0 ≤ (ji14) then (if (ji14) < (l0.length : Int) then ((codesearchref03_Put.f k1 x4_1 (rd l0 (ji14))).bind fun t459 => ((codesearchref03_Put.f k1 t459 (t454.length : Int)).bind fun t462 => (if x5_1.length + t454.length < 140737488355328 then (codesearchref05_Pack.l0 k1 l0 t462 (x5_1 ++ t454) (wrap64 (x6_1 + 16))) else (none)))) else (none)) else (none)) = some (r1,r2) := by first|(rw [hji14] at H;exact H)|(simp only [hji14] at H ⊢;exact H)
         (try rw [hji14] at A13)
         have hji14w : (IntKind.i64.wrap ((l0.length : Int) - 1)) = ji14 := (i64_w _).trans hji14
         by_cases c15 : 0 ≤ (ji14)
         ·rw [if_pos c15] at H
          have c15b0 : decide (0 ≤ (ji14)) = true := decide_eq_true c15
          clear c15
          by_cases c16 : (ji14) < (l0.length : Int)
          ·rw [if_pos c16] at H
           have c16b0 : decide ((ji14) < (l0.length : Int)) = true := decide_eq_true c16
           clear c16
           replace H := Option.bind_eq_some_iff.mp H
           obtain ⟨t459,A170,H⟩ := H
           replace H : ((codesearchref03_Put.f k1 t459 (t454.length : Int)).bind fun t462 => (if x5_1.length + t454.length < 140737488355328 then (codesearchref05_Pack.l0 k1 l0 t462 (x5_1 ++ t454) (wrap64 (x6_1 + 16))) else (none))) = some (r1,r2) := H
           have A17 := Aside0.mk A170
           clear A170
           replace H := Option.bind_eq_some_iff.mp H
           obtain ⟨t462,A180,H⟩ := H
           replace H : (if x5_1.length + t454.length < 140737488355328 then (codesearchref05_Pack.l0 k1 l0 t462 (x5_1 ++ t454) (wrap64 (x6_1 + 16))) else (none)) = some (r1,r2) := H
           have A18 := Aside0.mk A180
           clear A180
           by_cases c19 : x5_1.length + t454.length < 140737488355328
           ·rw [if_pos c19] at H
            have LMc19 := Aside0.mk c19
            clear c19
            obtain ⟨y465,hy465⟩ : ∃ y_ : List Int,y_ = (x5_1 ++ t454) := ⟨_,rfl⟩
            replace H : (codesearchref05_Pack.l0 k1 l0 t462 y465 (wrap64 (x6_1 + 16))) = some (r1,r2) := by first|(rw [hy465];with_reducible exact H)|(have H2_ := (Option.bind_some _ _).symm.trans H;rw [hy465];with_reducible exact H2_)|(have H2_ := (Option.bind_some _ _).symm.trans H;with_reducible exact H2_)|with_reducible exact H|(rw [hy465];exact H)|exact H
            have Ny465 := Aside0.mk hy465
            clear hy465
            have H' := Aside0.mk H
            clear H
            obtain ⟨i020,hi020,_,hsz20,_⟩ := info_parts info3
            obtain ⟨A20,hcut20,hA20,hC20⟩ := print_mid_of (P := Try.prog) (Value.int .i64) 0 22 3 .i64 .i64 Try.underlying22 hi020 hsz20 A0 c0 l0 x6_1 (l0.length : Int) (of_decide_eq_true (by first|(with_reducible assumption)|assumption)) (by first|omega|exact of_decide_eq_true (by first|(with_reducible assumption)|assumption)) (of_decide_eq_true (by first|(with_reducible assumption)|assumption)) HC0.out
            have HR453 := Aside0.mk (Kd.C_of_reads (h1 := fun _ => rfl) (hA20 _ (Kd.reads_of_C HR0.out)))
            have HC453 := Aside0.mk hC20
            clear hA20 hC20 hi020 hsz20
            go_wp2_with (first|(go_at_call 42;refine calls_of_args (args' := #[.slice none ([] : List Int).length 0,.slice A20 ((l0.take ((l0.length : Int) : Int).toNat).drop (x6_1 : Int).toNat).length (c0 - x6_1.toNat)]) (by first|with_reducible rfl|(rw [show ((l0.take ((l0.length : Int) : Int).toNat).drop (x6_1 : Int).toNat).length = ((l0.length : Int).toNat - x6_1.toNat) from (by rw [List.length_drop,List.length_take];have h_ : ((l0.length : Int) : Int) ≤ (l0.length : Int) := of_decide_eq_true (by first|(with_reducible assumption)|assumption);omega)] <;> rfl)|(simp only [List.length_nil];done)|(simp only [List.length_nil];with_reducible rfl)) ?_;(with_reducible refine (codesearchref03_PutList.calls k1 _ _ ([] : List Int) _ _ ((l0.take ((l0.length : Int) : Int).toNat).drop (x6_1 : Int).toNat) t454 t455 _ ?side1 ?side2 ?side3 ?side4 A13.out).mono ?_);(case side1 => exact Kd.C_nil _ _);(case side2 => exact Nat.le_refl _);(case side3 => exact cM (Kd.C_below HR453.out HB.out));(case side4 => exact HC453.out);rintro e w21 ⟨v456,rfl,ho0,hb⟩;have n0_ := Aside0.mk (Kd.R_elder' (rM HO_4.out) (Kd.R_base ho0) hb);have n1_ := Aside0.mk (Kd.R_elder' (rM HO_5.out) (Kd.R_base ho0) hb);have n2_ := Aside0.mk (Kd.R_lower (Kd.R_new' (Kd.R_new' ho0 (Kd.R_lt (rM HO_4.out))) (Kd.R_lt (rM HO_5.out))) (below_size (bM HB.out)));have n3_ := Aside0.mk (below_step (bM HB.out) hb);clear HO_4;clear HO_5;clear HB;have HO_4 := n0_;have HO_5 := n1_;have HO457 := n2_;have HB := n3_;clear n0_ n1_ n2_ n3_;(try clear hb);(try clear hb2);(try clear hk);(try clear hi);(try clear ho0);have p458 : 0 ≤ ((ji14) : Int) := of_decide_eq_true (by first|(with_reducible assumption)|assumption);have q458 : (ji14) < (l0.length : Int) := of_decide_eq_true (by first|(with_reducible assumption)|assumption);obtain ⟨ad458,e458,hx458_0⟩ := Kd.at_int HR0.out (ji14) p458 q458;cases e458;replace hx458_0 := (HB.out.cell (World.block_lt_of_cell? w _ hx458_0)).trans hx458_0;replace p458 := eq_true p458;replace q458 := eq_true q458;obtain ⟨Ao22,co22,eo22⟩ := Kd.R_slice HO_4.out;subst eo22)|((with_reducible refine gate_callee (f := 41) rfl ?_);refine goesL_ (some 45) rfl rfl Try.func41 (by kernel_rfl) rfl #[.slice Ao22 x4_1.length co22,.int .i64 (rd l0 (ji14))] rfl (by (try simp only [List.map_toArray,List.map_cons,List.map_nil]);first|done|(simp only [hji14];rfl)|rfl|(simp only [List.length_drop,List.length_take];rfl)) ?_;(with_reducible refine (codesearchref03_Put.calls k1 _ _ x4_1 (rd l0 (ji14)) t459 _ ?side1 ?side2 A17.out).mono ?_);(case side1 => exact cM (Kd.R_reads' HO_4.out).2.2);(case side2 => exact (Kd.R_reads' HO_4.out).2.1);rintro e w23 ⟨v460,rfl,ho0,hb⟩;refine ⟨_,rfl,?_⟩;have n0_ := Aside0.mk (Kd.R_elder' (rM HO_4.out) (Kd.R_base ho0) hb);have n1_ := Aside0.mk (Kd.R_elder' (rM HO_5.out) (Kd.R_base ho0) hb);have n2_ := Aside0.mk (Kd.R_elder' (rM HO457.out) (Kd.R_base ho0) hb);have n3_ := Aside0.mk (Kd.R_lower (Kd.R_new' (Kd.R_new' (Kd.R_new' ho0 (Kd.R_lt (rM HO_4.out))) (Kd.R_lt (rM HO_5.out))) (Kd.R_lt (rM HO457.out))) (below_size (bM HB.out)));have n4_ := Aside0.mk (below_step (bM HB.out) hb);clear HO_4;clear HO_5;clear HO457;clear HB;have HO_4 := n0_;have HO_5 := n1_;have HO457 := n2_;have HO461 := n3_;have HB := n4_;clear n0_ n1_ n2_ n3_ n4_;(try clear hb);(try clear hb2);(try clear hk);(try clear hi);(try clear ho0);obtain ⟨Ao24,co24,eo24⟩ := Kd.R_slice HO457.out;subst eo24;obtain ⟨Ao25,co25,eo25⟩ := Kd.R_slice HO461.out;subst eo25)|((with_reducible refine gate_callee (f := 41) rfl ?_);refine goesL_ (some 49) rfl rfl Try.func41 (by kernel_rfl) rfl #[.slice Ao25 t459.length co25,.int .i64 (t454.length : Int)] rfl (by (try simp only [List.map_toArray,List.map_cons,List.map_nil]);first|done|rfl|(simp only [List.length_drop,List.length_take];rfl)) ?_;(with_reducible refine (codesearchref03_Put.calls k1 _ _ t459 (t454.length : Int) t462 _ ?side1 ?side2 A18.out).mono ?_);(case side1 => exact cM (Kd.R_reads' HO461.out).2.2);(case side2 => exact (Kd.R_reads' HO461.out).2.1);rintro e w26 ⟨v463,rfl,ho0,hb⟩;refine ⟨_,rfl,?_⟩;have n0_ := Aside0.mk (Kd.R_elder' (rM HO_4.out) (Kd.R_base ho0) hb);have n1_ := Aside0.mk (Kd.R_elder' (rM HO_5.out) (Kd.R_base ho0) hb);have n2_ := Aside0.mk (Kd.R_elder' (rM HO457.out) (Kd.R_base ho0) hb);have n3_ := Aside0.mk (Kd.R_elder' (rM HO461.out) (Kd.R_base ho0) hb);have n4_ := Aside0.mk (Kd.R_lower (Kd.R_new' (Kd.R_new' (Kd.R_new' (Kd.R_new' ho0 (Kd.R_lt (rM HO_4.out))) (Kd.R_lt (rM HO_5.out))) (Kd.R_lt (rM HO457.out))) (Kd.R_lt (rM HO461.out))) (below_size (bM HB.out)));have n5_ := Aside0.mk (below_step (bM HB.out) hb);clear HO_4;clear HO_5;clear HO457;clear HO461;clear HB;have HO_4 := n0_;have HO_5 := n1_;have HO457 := n2_;have HO461 := n3_;have HO464 := n4_;have HB := n5_;clear n0_ n1_ n2_ n3_ n4_ n5_;(try clear hb);(try clear hb2);(try clear hk);(try clear hi);(try clear ho0))|((with_reducible refine gate_builtin (b := .append) (xs := #[.tmp 50,.tmp 51]) rfl ?_);at_builtin;refine Kd.R_append_rows (Kd.int .u8) (w0 := w) w.heap.size rfl (.tmp 50) (.tmp 51) 30 5 (.int .u8 0) 1 rfl Try.underlying30 info5 rfl (by decide) (by omega) u5 x5_1 t454 _ _ _ (fun k_ => some k_ ≠ (.slice Ao22 x4_1.length co22 : Value).ownBlock ∧ some k_ ≠ (.slice Ao24 t454.length co24 : Value).ownBlock ∧ some k_ ≠ (.slice Ao25 t459.length co25 : Value).ownBlock ∧ some k_ ≠ (v463 : Value).ownBlock) (fun _ => False) rfl rfl ?aO ?aR (fun _ _ h => h) (fun _ h => h.elim) ?aF ?aB ?aS ?aL ?_;(case aR => exact cM (Kd.R_reads' HO457.out).2.2);(case aB => exact (bM HB.out));(case aF => exact (fun k_ hk => ⟨Kd.fresh' (Kd.R_lt (rM HO_4.out)) k_ hk,Kd.fresh' (Kd.R_lt (rM HO457.out)) k_ hk,Kd.fresh' (Kd.R_lt (rM HO461.out)) k_ hk,Kd.fresh' (Kd.R_lt (rM HO464.out)) k_ hk⟩));(case aO => exact (by (with_reducible repeat (first|apply Kd.R_alloc|apply Kd.R_drewN|apply Kd.R_drew));exact Kd.R_mono HO_5.out (fun _ hk => ⟨hk.1.1.1,⟨hk.1.1.2,⟨hk.1.2,hk.2⟩⟩⟩)));(case aS => exact (below_size (bM HB.out)));(case aL => have := LMc19.out;omega);intro v466 w27 ho hb hg hat;rw [← Ny465.out] at ho;have n0_ := Aside0.mk (Kd.R_after (ok := (fun k_ => some k_ ≠ (.slice Ao24 t454.length co24 : Value).ownBlock ∧ some k_ ≠ (.slice Ao25 t459.length co25 : Value).ownBlock ∧ some k_ ≠ (v463 : Value).ownBlock)) (by (with_reducible repeat (first|apply Kd.R_alloc|apply Kd.R_drewN|apply Kd.R_drew));exact Kd.R_mono HO_4.out (fun _ hk => ⟨⟨hk.1.1.2,⟨hk.1.2,hk.2⟩⟩,hk.1.1.1⟩)) hg hat);have n1_ := Aside0.mk (Kd.R_after (ok := (fun k_ => some k_ ≠ (.slice Ao22 x4_1.length co22 : Value).ownBlock ∧ some k_ ≠ (.slice Ao25 t459.length co25 : Value).ownBlock ∧ some k_ ≠ (v463 : Value).ownBlock)) (by (with_reducible repeat (first|apply Kd.R_alloc|apply Kd.R_drewN|apply Kd.R_drew));exact Kd.R_mono HO457.out (fun _ hk => ⟨⟨hk.1.1.1.2,⟨hk.1.2,hk.2⟩⟩,hk.1.1.2⟩)) hg hat);have n2_ := Aside0.mk (Kd.R_after (ok := (fun k_ => some k_ ≠ (.slice Ao22 x4_1.length co22 : Value).ownBlock ∧ some k_ ≠ (.slice Ao24 t454.length co24 : Value).ownBlock ∧ some k_ ≠ (v463 : Value).ownBlock)) (by (with_reducible repeat (first|apply Kd.R_alloc|apply Kd.R_drewN|apply Kd.R_drew));exact Kd.R_mono HO461.out (fun _ hk => ⟨⟨hk.1.1.1.2,⟨hk.1.2,hk.2⟩⟩,hk.1.1.2⟩)) hg hat);have n3_ := Aside0.mk (Kd.R_after (ok := (fun k_ => some k_ ≠ (.slice Ao22 x4_1.length co22 : Value).ownBlock ∧ some k_ ≠ (.slice Ao24 t454.length co24 : Value).ownBlock ∧ some k_ ≠ (.slice Ao25 t459.length co25 : Value).ownBlock)) (by (with_reducible repeat (first|apply Kd.R_alloc|apply Kd.R_drewN|apply Kd.R_drew));exact Kd.R_mono HO464.out (fun _ hk => ⟨⟨hk.1.1.1.2,⟨hk.1.2,hk.2⟩⟩,hk.1.1.2⟩)) hg hat);have n4_ := Aside0.mk (hb);have n5_ := Aside0.mk (ho);clear HO_4;clear HO457;clear HO461;clear HO464;clear HB;clear HO_5;have HO_4 := n0_;have HO457 := n1_;have HO461 := n2_;have HO464 := n3_;have HB := n4_;have HO467 := n5_;clear n0_ n1_ n2_ n3_ n4_ n5_;clear ho hb hg hat))
            go_roundg k1
            case measure => have := HK1.out;omega
            case rel => exact ⟨(t462),(y465),(wrap64 (x6_1 + 16)),(by first|rfl|(simp;done)|(simp [*];done)),H',⟨by have := HK1.out;omega⟩,⟨by (with_reducible repeat (first|apply Kd.R_alloc|apply Kd.R_drewN|apply Kd.R_drew));exact Kd.R_mono HO464.out (fun _ hk => hk.2)⟩,⟨by (with_reducible repeat (first|apply Kd.R_alloc|apply Kd.R_drewN|apply Kd.R_drew));exact Kd.R_mono HO467.out (fun _ hk => hk.2.2.2)⟩,⟨bM HB.out⟩⟩
           ·rw [if_neg c19] at H
            exact absurd H (by simp)
          ·rw [if_neg c16] at H
           exact absurd H (by simp)
         ·rw [if_neg c15] at H
          exact absurd H (by simp)
        ·rw [if_neg c12] at H
         exact absurd H (by simp)
       ·rw [if_neg c11] at H
        exact absurd H (by simp)
      ·rw [if_neg c10] at H
       exact absurd H (by simp)
     ·rw [if_neg c9] at H
      have c9b0 : decide ((l0.length : Int) < (wrap64 (x6_1 + 16))) = false := decide_eq_false c9
      clear c9
      by_cases c28 : 0 ≤ x6_1
      ·rw [if_pos c28] at H
       have c28b0 := eq_true c28
       have c28b1 : decide (0 ≤ x6_1) = true := decide_eq_true c28
       clear c28
       by_cases c29 : x6_1 ≤ (wrap64 (x6_1 + 16))
       ·rw [if_pos c29] at H
        have c29b0 := eq_true c29
        have c29b1 : decide (x6_1 ≤ (wrap64 (x6_1 + 16))) = true := decide_eq_true c29
        by_cases c30 : (wrap64 (x6_1 + 16)) ≤ (l0.length : Int)
        ·rw [if_pos c30] at H
         have c30b0 := eq_true c30
         have c30b1 : decide ((wrap64 (x6_1 + 16)) ≤ (l0.length : Int)) = true := decide_eq_true c30
         replace H := Option.bind_eq_some_iff.mp H
         obtain ⟨⟨t469,t470⟩,A310,H⟩ := H
         replace H : (if 0 ≤ (wrap64 ((wrap64 (x6_1 + 16)) - 1)) then (if (wrap64 ((wrap64 (x6_1 + 16)) - 1)) < (l0.length : Int) then ((codesearchref03_Put.f k1 x4_1 (rd l0 (wrap64 ((wrap64 (x6_1 + 16)) - 1)))).bind fun t474 => ((codesearchref03_Put.f k1 t474 (t469.length : Int)).bind fun t477 => (if x5_1.length + t469.length < 140737488355328 then (codesearchref05_Pack.l0 k1 l0 t477 (x5_1 ++ t469) (wrap64 (x6_1 + 16))) else (none)))) else (none)) else (none)) = some (r1,r2) := H
         have A31 := Aside0.mk A310
         clear A310
         obtain ⟨ji32,hji32⟩ : ∃ j_ : Int,(wrap64 ((wrap64 (x6_1 + 16)) - 1)) = j_ := ⟨_,rfl⟩
         replace H : (if 0 ≤ (ji32) then (if (ji32) < (l0.length : Int) then ((codesearchref03_Put.f k1 x4_1 (rd l0 (ji32))).bind fun t474 => ((codesearchref03_Put.f k1 t474 (t469.length : Int)).bind fun t477 => (if x5_1.length + t469.length < 140737488355328 then (codesearchref05_Pack.l0 k1 l0 t477 (x5_1 ++ t469) (wrap64 (x6_1 + 16))) else (none)))) else (none)) else (none)) = some (r1,r2) := by first|(rw [hji32] at H;exact H)|(simp only [hji32] at H ⊢;exact H)
         (try rw [hji32] at A31)
         have hji32w : (IntKind.i64.wrap ((wrap64 (x6_1 + 16)) - 1)) = ji32 := (i64_w _).trans hji32
         by_cases c33 : 0 ≤ (ji32)
         ·rw [if_pos c33] at H
          have c33b0 : decide (0 ≤ (ji32)) = true := decide_eq_true c33
          clear c33
          by_cases c34 : (ji32) < (l0.length : Int)
          ·rw [if_pos c34] at H
           have c34b0 : decide ((ji32) < (l0.length : Int)) = true := decide_eq_true c34
           clear c34
           replace H := Option.bind_eq_some_iff.mp H
           obtain ⟨t474,A350,H⟩ := H
           replace H : ((codesearchref03_Put.f k1 t474 (t469.length : Int)).bind fun t477 => (if x5_1.length + t469.length < 140737488355328 then (codesearchref05_Pack.l0 k1 l0 t477 (x5_1 ++ t469) (wrap64 (x6_1 + 16))) else (none))) = some (r1,r2) := H
           have A35 := Aside0.mk A350
           clear A350
           replace H := Option.bind_eq_some_iff.mp H
           obtain ⟨t477,A360,H⟩ := H
           replace H : (if x5_1.length + t469.length < 140737488355328 then (codesearchref05_Pack.l0 k1 l0 t477 (x5_1 ++ t469) (wrap64 (x6_1 + 16))) else (none)) = some (r1,r2) := H
           have A36 := Aside0.mk A360
           clear A360
           by_cases c37 : x5_1.length + t469.length < 140737488355328
           ·rw [if_pos c37] at H
            have LMc37 := Aside0.mk c37
            clear c37
            obtain ⟨y480,hy480⟩ : ∃ y_ : List Int,y_ = (x5_1 ++ t469) := ⟨_,rfl⟩
            replace H : (codesearchref05_Pack.l0 k1 l0 t477 y480 (wrap64 (x6_1 + 16))) = some (r1,r2) := by first|(rw [hy480];with_reducible exact H)|(have H2_ := (Option.bind_some _ _).symm.trans H;rw [hy480];with_reducible exact H2_)|(have H2_ := (Option.bind_some _ _).symm.trans H;with_reducible exact H2_)|with_reducible exact H|(rw [hy480];exact H)|exact H
            have Ny480 := Aside0.mk hy480
            clear hy480
            have H' := Aside0.mk H
            clear H
            obtain ⟨i038,hi038,_,hsz38,_⟩ := info_parts info3
            obtain ⟨A38,hcut38,hA38,hC38⟩ := print_mid_of (P := Try.prog) (Value.int .i64) 0 22 3 .i64 .i64 Try.underlying22 hi038 hsz38 A0 c0 l0 x6_1 (wrap64 (x6_1 + 16)) (of_decide_eq_true (by first|(with_reducible assumption)|assumption)) (by first|omega|exact of_decide_eq_true (by first|(with_reducible assumption)|assumption)) (of_decide_eq_true (by first|(with_reducible assumption)|assumption)) HC0.out
            have HR468 := Aside0.mk (Kd.C_of_reads (h1 := fun _ => rfl) (hA38 _ (Kd.reads_of_C HR0.out)))
            have HC468 := Aside0.mk hC38
            clear hA38 hC38 hi038 hsz38
            go_wp2_with (first|(go_at_call 42;refine calls_of_args (args' := #[.slice none ([] : List Int).length 0,.slice A38 ((l0.take ((wrap64 (x6_1 + 16)) : Int).toNat).drop (x6_1 : Int).toNat).length (c0 - x6_1.toNat)]) (by first|with_reducible rfl|(rw [show ((l0.take ((wrap64 (x6_1 + 16)) : Int).toNat).drop (x6_1 : Int).toNat).length = ((wrap64 (x6_1 + 16)).toNat - x6_1.toNat) from (by rw [List.length_drop,List.length_take];have h_ : ((wrap64 (x6_1 + 16)) : Int) ≤ (l0.length : Int) := of_decide_eq_true (by first|(with_reducible assumption)|assumption);omega)] <;> rfl)|(simp only [List.length_nil];done)|(simp only [List.length_nil];with_reducible rfl)) ?_;(with_reducible refine (codesearchref03_PutList.calls k1 _ _ ([] : List Int) _ _ ((l0.take ((wrap64 (x6_1 + 16)) : Int).toNat).drop (x6_1 : Int).toNat) t469 t470 _ ?side1 ?side2 ?side3 ?side4 A31.out).mono ?_);(case side1 => exact Kd.C_nil _ _);(case side2 => exact Nat.le_refl _);(case side3 => exact cM (Kd.C_below HR468.out HB.out));(case side4 => exact HC468.out);rintro e w39 ⟨v471,rfl,ho0,hb⟩;have n0_ := Aside0.mk (Kd.R_elder' (rM HO_4.out) (Kd.R_base ho0) hb);have n1_ := Aside0.mk (Kd.R_elder' (rM HO_5.out) (Kd.R_base ho0) hb);have n2_ := Aside0.mk (Kd.R_lower (Kd.R_new' (Kd.R_new' ho0 (Kd.R_lt (rM HO_4.out))) (Kd.R_lt (rM HO_5.out))) (below_size (bM HB.out)));have n3_ := Aside0.mk (below_step (bM HB.out) hb);clear HO_4;clear HO_5;clear HB;have HO_4 := n0_;have HO_5 := n1_;have HO472 := n2_;have HB := n3_;clear n0_ n1_ n2_ n3_;(try clear hb);(try clear hb2);(try clear hk);(try clear hi);(try clear ho0);have p473 : 0 ≤ ((ji32) : Int) := of_decide_eq_true (by first|(with_reducible assumption)|assumption);have q473 : (ji32) < (l0.length : Int) := of_decide_eq_true (by first|(with_reducible assumption)|assumption);obtain ⟨ad473,e473,hx473_0⟩ := Kd.at_int HR0.out (ji32) p473 q473;cases e473;replace hx473_0 := (HB.out.cell (World.block_lt_of_cell? w _ hx473_0)).trans hx473_0;replace p473 := eq_true p473;replace q473 := eq_true q473;obtain ⟨Ao40,co40,eo40⟩ := Kd.R_slice HO_4.out;subst eo40)|((with_reducible refine gate_callee (f := 41) rfl ?_);refine goesL_ (some 45) rfl rfl Try.func41 (by kernel_rfl) rfl #[.slice Ao40 x4_1.length co40,.int .i64 (rd l0 (ji32))] rfl (by (try simp only [List.map_toArray,List.map_cons,List.map_nil]);first|done|(simp only [hji32];rfl)|rfl|(simp only [List.length_drop,List.length_take];rfl)) ?_;(with_reducible refine (codesearchref03_Put.calls k1 _ _ x4_1 (rd l0 (ji32)) t474 _ ?side1 ?side2 A35.out).mono ?_);(case side1 => exact cM (Kd.R_reads' HO_4.out).2.2);(case side2 => exact (Kd.R_reads' HO_4.out).2.1);rintro e w41 ⟨v475,rfl,ho0,hb⟩;refine ⟨_,rfl,?_⟩;have n0_ := Aside0.mk (Kd.R_elder' (rM HO_4.out) (Kd.R_base ho0) hb);have n1_ := Aside0.mk (Kd.R_elder' (rM HO_5.out) (Kd.R_base ho0) hb);have n2_ := Aside0.mk (Kd.R_elder' (rM HO472.out) (Kd.R_base ho0) hb);have n3_ := Aside0.mk (Kd.R_lower (Kd.R_new' (Kd.R_new' (Kd.R_new' ho0 (Kd.R_lt (rM HO_4.out))) (Kd.R_lt (rM HO_5.out))) (Kd.R_lt (rM HO472.out))) (below_size (bM HB.out)));have n4_ := Aside0.mk (below_step (bM HB.out) hb);clear HO_4;clear HO_5;clear HO472;clear HB;have HO_4 := n0_;have HO_5 := n1_;have HO472 := n2_;have HO476 := n3_;have HB := n4_;clear n0_ n1_ n2_ n3_ n4_;(try clear hb);(try clear hb2);(try clear hk);(try clear hi);(try clear ho0);obtain ⟨Ao42,co42,eo42⟩ := Kd.R_slice HO472.out;subst eo42;obtain ⟨Ao43,co43,eo43⟩ := Kd.R_slice HO476.out;subst eo43)|((with_reducible refine gate_callee (f := 41) rfl ?_);refine goesL_ (some 49) rfl rfl Try.func41 (by kernel_rfl) rfl #[.slice Ao43 t474.length co43,.int .i64 (t469.length : Int)] rfl (by (try simp only [List.map_toArray,List.map_cons,List.map_nil]);first|done|rfl|(simp only [List.length_drop,List.length_take];rfl)) ?_;(with_reducible refine (codesearchref03_Put.calls k1 _ _ t474 (t469.length : Int) t477 _ ?side1 ?side2 A36.out).mono ?_);(case side1 => exact cM (Kd.R_reads' HO476.out).2.2);(case side2 => exact (Kd.R_reads' HO476.out).2.1);rintro e w44 ⟨v478,rfl,ho0,hb⟩;refine ⟨_,rfl,?_⟩;have n0_ := Aside0.mk (Kd.R_elder' (rM HO_4.out) (Kd.R_base ho0) hb);have n1_ := Aside0.mk (Kd.R_elder' (rM HO_5.out) (Kd.R_base ho0) hb);have n2_ := Aside0.mk (Kd.R_elder' (rM HO472.out) (Kd.R_base ho0) hb);have n3_ := Aside0.mk (Kd.R_elder' (rM HO476.out) (Kd.R_base ho0) hb);have n4_ := Aside0.mk (Kd.R_lower (Kd.R_new' (Kd.R_new' (Kd.R_new' (Kd.R_new' ho0 (Kd.R_lt (rM HO_4.out))) (Kd.R_lt (rM HO_5.out))) (Kd.R_lt (rM HO472.out))) (Kd.R_lt (rM HO476.out))) (below_size (bM HB.out)));have n5_ := Aside0.mk (below_step (bM HB.out) hb);clear HO_4;clear HO_5;clear HO472;clear HO476;clear HB;have HO_4 := n0_;have HO_5 := n1_;have HO472 := n2_;have HO476 := n3_;have HO479 := n4_;have HB := n5_;clear n0_ n1_ n2_ n3_ n4_ n5_;(try clear hb);(try clear hb2);(try clear hk);(try clear hi);(try clear ho0))|((with_reducible refine gate_builtin (b := .append) (xs := #[.tmp 50,.tmp 51]) rfl ?_);at_builtin;refine Kd.R_append_rows (Kd.int .u8) (w0 := w) w.heap.size rfl (.tmp 50) (.tmp 51) 30 5 (.int .u8 0) 1 rfl Try.underlying30 info5 rfl (by decide) (by omega) u5 x5_1 t469 _ _ _ (fun k_ => some k_ ≠ (.slice Ao40 x4_1.length co40 : Value).ownBlock ∧ some k_ ≠ (.slice Ao42 t469.length co42 : Value).ownBlock ∧ some k_ ≠ (.slice Ao43 t474.length co43 : Value).ownBlock ∧ some k_ ≠ (v478 : Value).ownBlock) (fun _ => False) rfl rfl ?aO ?aR (fun _ _ h => h) (fun _ h => h.elim) ?aF ?aB ?aS ?aL ?_;(case aR => exact cM (Kd.R_reads' HO472.out).2.2);(case aB => exact (bM HB.out));(case aF => exact (fun k_ hk => ⟨Kd.fresh' (Kd.R_lt (rM HO_4.out)) k_ hk,Kd.fresh' (Kd.R_lt (rM HO472.out)) k_ hk,Kd.fresh' (Kd.R_lt (rM HO476.out)) k_ hk,Kd.fresh' (Kd.R_lt (rM HO479.out)) k_ hk⟩));(case aO => exact (by (with_reducible repeat (first|apply Kd.R_alloc|apply Kd.R_drewN|apply Kd.R_drew));exact Kd.R_mono HO_5.out (fun _ hk => ⟨hk.1.1.1,⟨hk.1.1.2,⟨hk.1.2,hk.2⟩⟩⟩)));(case aS => exact (below_size (bM HB.out)));(case aL => have := LMc37.out;omega);intro v481 w45 ho hb hg hat;rw [← Ny480.out] at ho;have n0_ := Aside0.mk (Kd.R_after (ok := (fun k_ => some k_ ≠ (.slice Ao42 t469.length co42 : Value).ownBlock ∧ some k_ ≠ (.slice Ao43 t474.length co43 : Value).ownBlock ∧ some k_ ≠ (v478 : Value).ownBlock)) (by (with_reducible repeat (first|apply Kd.R_alloc|apply Kd.R_drewN|apply Kd.R_drew));exact Kd.R_mono HO_4.out (fun _ hk => ⟨⟨hk.1.1.2,⟨hk.1.2,hk.2⟩⟩,hk.1.1.1⟩)) hg hat);have n1_ := Aside0.mk (Kd.R_after (ok := (fun k_ => some k_ ≠ (.slice Ao40 x4_1.length co40 : Value).ownBlock ∧ some k_ ≠ (.slice Ao43 t474.length co43 : Value).ownBlock ∧ some k_ ≠ (v478 : Value).ownBlock)) (by (with_reducible repeat (first|apply Kd.R_alloc|apply Kd.R_drewN|apply Kd.R_drew));exact Kd.R_mono HO472.out (fun _ hk => ⟨⟨hk.1.1.1.2,⟨hk.1.2,hk.2⟩⟩,hk.1.1.2⟩)) hg hat);have n2_ := Aside0.mk (Kd.R_after (ok := (fun k_ => some k_ ≠ (.slice Ao40 x4_1.length co40 : Value).ownBlock ∧ some k_ ≠ (.slice Ao42 t469.length co42 : Value).ownBlock ∧ some k_ ≠ (v478 : Value).ownBlock)) (by (with_reducible repeat (first|apply Kd.R_alloc|apply Kd.R_drewN|apply Kd.R_drew));exact Kd.R_mono HO476.out (fun _ hk => ⟨⟨hk.1.1.1.2,⟨hk.1.2,hk.2⟩⟩,hk.1.1.2⟩)) hg hat);have n3_ := Aside0.mk (Kd.R_after (ok := (fun k_ => some k_ ≠ (.slice Ao40 x4_1.length co40 : Value).ownBlock ∧ some k_ ≠ (.slice Ao42 t469.length co42 : Value).ownBlock ∧ some k_ ≠ (.slice Ao43 t474.length co43 : Value).ownBlock)) (by (with_reducible repeat (first|apply Kd.R_alloc|apply Kd.R_drewN|apply Kd.R_drew));exact Kd.R_mono HO479.out (fun _ hk => ⟨⟨hk.1.1.1.2,⟨hk.1.2,hk.2⟩⟩,hk.1.1.2⟩)) hg hat);have n4_ := Aside0.mk (hb);have n5_ := Aside0.mk (ho);clear HO_4;clear HO472;clear HO476;clear HO479;clear HB;clear HO_5;have HO_4 := n0_;have HO472 := n1_;have HO476 := n2_;have HO479 := n3_;have HB := n4_;have HO482 := n5_;clear n0_ n1_ n2_ n3_ n4_ n5_;clear ho hb hg hat))
            go_roundg k1
            case measure => have := HK1.out;omega
            case rel => exact ⟨(t477),(y480),(wrap64 (x6_1 + 16)),(by first|rfl|(simp;done)|(simp [*];done)),H',⟨by have := HK1.out;omega⟩,⟨by (with_reducible repeat (first|apply Kd.R_alloc|apply Kd.R_drewN|apply Kd.R_drew));exact Kd.R_mono HO479.out (fun _ hk => hk.2)⟩,⟨by (with_reducible repeat (first|apply Kd.R_alloc|apply Kd.R_drewN|apply Kd.R_drew));exact Kd.R_mono HO482.out (fun _ hk => hk.2.2.2)⟩,⟨bM HB.out⟩⟩
           ·rw [if_neg c37] at H
            exact absurd H (by simp)
          ·rw [if_neg c34] at H
           exact absurd H (by simp)
         ·rw [if_neg c33] at H
          exact absurd H (by simp)
        ·rw [if_neg c30] at H
         exact absurd H (by simp)
       ·rw [if_neg c29] at H
        exact absurd H (by simp)
      ·rw [if_neg c28] at H
       exact absurd H (by simp)
    ·rw [if_neg c8] at H
     have c8b0 : decide (x6_1 < (l0.length : Int)) = false := decide_eq_false c8
     clear c8
     by_cases c46 : x4_1.length + x5_1.length < 140737488355328
     ·rw [if_pos c46] at H
      have LMc46 := Aside0.mk c46
      clear c46
      obtain ⟨y450,hy450⟩ : ∃ y_ : List Int,y_ = (x4_1 ++ x5_1) := ⟨_,rfl⟩
      replace H : (some (y450,0)) = some (r1,r2) := by first|(rw [hy450];with_reducible exact H)|(have H2_ := (Option.bind_some _ _).symm.trans H;rw [hy450];with_reducible exact H2_)|(have H2_ := (Option.bind_some _ _).symm.trans H;with_reducible exact H2_)|with_reducible exact H|(rw [hy450];exact H)|exact H
      have Ny450 := Aside0.mk hy450
      clear hy450
      simp only [Option.some.injEq,Prod.mk.injEq] at H
      obtain ⟨rfl,rfl⟩ := H
      obtain ⟨Ao48,co48,eo48⟩ := Kd.R_slice HO_5.out
      subst eo48
      go_wp2_with (first|((with_reducible refine gate_builtin (b := .append) (xs := #[.tmp 53,.tmp 54]) rfl ?_);at_builtin;refine Kd.R_append_rows (Kd.int .u8) (w0 := w) w.heap.size rfl (.tmp 53) (.tmp 54) 30 5 (.int .u8 0) 1 rfl Try.underlying30 info5 rfl (by decide) (by omega) u4 x4_1 x5_1 _ _ _ (fun k_ => some k_ ≠ (.slice Ao48 x5_1.length co48 : Value).ownBlock) (fun _ => False) rfl rfl ?aO ?aR (fun _ _ h => h) (fun _ h => h.elim) ?aF ?aB ?aS ?aL ?_;(case aR => exact cM (Kd.R_reads' HO_5.out).2.2);(case aB => exact (bM HB.out));(case aF => exact (fun k_ hk => Kd.fresh' (Kd.R_lt (rM HO_5.out)) k_ hk));(case aO => exact (rM HO_4.out));(case aS => exact (below_size (bM HB.out)));(case aL => have := LMc46.out;omega);intro v451 w47 ho hb hg hat;rw [← Ny450.out] at ho;have n0_ := Aside0.mk (Kd.R_after (ok := (fun _ => True)) (by (with_reducible repeat (first|apply Kd.R_alloc|apply Kd.R_drewN|apply Kd.R_drew));exact Kd.R_mono HO_5.out (fun _ hk => ⟨trivial,hk⟩)) hg hat);have n1_ := Aside0.mk (hb);have n2_ := Aside0.mk (ho);clear HO_5;clear HB;clear HO_4;have HO_5 := n0_;have HB := n1_;have HO452 := n2_;clear n0_ n1_ n2_;clear ho hb hg hat))
      go_ret2
      exact ⟨_,by first|rfl|(simp [errW_none,errW_some] <;> rfl)|(simp [*,errW_none,errW_some] <;> rfl),rM (Kd.R_mono HO452.out (fun _ hk => trivial)),bM HB.out⟩
     ·rw [if_neg c46] at H
      exact absurd H (by simp)
 ·replace c3 := Bool.eq_false_iff.mpr c3
  subst c3
  have H1 : (some (([] : List Int),1)) = some (r1,r2) := by rw [if_neg (show ¬ (false = true) by decide)] at H;exact H
  clear H
  have H := H1
  clear H1
  simp only [Option.some.injEq,Prod.mk.injEq] at H
  obtain ⟨rfl,rfl⟩ := H
  go_enter Try.func23,Try.ntmps23
  go_wp2_with (first|((with_reducible refine gate_callee (f := 12) rfl ?_);refine goesL_ (some 11) rfl rfl Try.func12 (by kernel_rfl) rfl #[.slice A0 l0.length c0] rfl (by (try simp only [List.map_toArray,List.map_cons,List.map_nil]);first|done|rfl|(simp only [List.length_drop,List.length_take];rfl)) ?_;(with_reducible refine (codesearchref05_Valid.calls k _ _ l0 false _ ?side1 ?side2 A2.out).mono ?_);(case side1 => exact cM HR0.out);(case side2 => exact HC0.out);rintro e w' ⟨rfl,⟨nd,rfl⟩⟩;refine ⟨_,rfl,?_⟩))
  go_ret2
  exact ⟨_,by first|rfl|(simp [errW_none,errW_some] <;> rfl)|(simp [*,errW_none,errW_some] <;> rfl),by first|exact Kd.R_nil _ _ _ _ _|exact Kd.N_nil _ _ _ _ _|exact Kd.V_nil _ _ _ _ _|exact Kd.Q_nil _ _ _ _ _|exact Kd.S_nil _ _ _ _ _,bM HB.out⟩

/-! ### codesearchref05_Has: function 26 -/
def codesearchref05_Has.f (k : Nat) (l0 : List Int) (a1 : Int) : Option (Bool) := (codesearchref05_Valid.f k l0).bind fun t483 => (if t483 = true then ((codesearchref05_In.f k l0 a1).bind fun t484 => (some t484)) else (some false))
theorem codesearchref05_Has.mono : ∀ a0 a1 k, LeO (codesearchref05_Has.f k a0 a1) (codesearchref05_Has.f (k + 1) a0 a1) := by
 intro a0 a1 k
 unfold codesearchref05_Has.f
 repeat' first
  |(with_reducible exact codesearchref05_In.mono _ _ _)
  |(with_reducible exact codesearchref05_Valid.mono _ _)
  |(with_reducible exact LeO.refl _)
  |(with_reducible exact LeO.none _)
  |(with_reducible refine LeO.ite ?_ ?_)
  |(with_reducible refine LeO.bind ?_ (fun _ => ?_))
  |exact codesearchref05_In.mono _ _ _
  |exact codesearchref05_Valid.mono _ _
  |exact LeO.none _
  |refine LeO.ite ?_ ?_
  |refine LeO.bind ?_ (fun _ => ?_)
set_option maxHeartbeats 4000000 in
set_option maxRecDepth 100000 in
theorem codesearchref05_Has.calls (k : Nat) (A0 : Option Addr) (c0 : Nat) (l0 : List Int) (a1 : Int) (r : Bool) (w : World) (hr0 : Kd.C (Kd.int .i64) w A0 l0.length l0) (hc0 : l0.length ≤ c0) (h : codesearchref05_Has.f k l0 a1 = some r) :
  Calls Try.prog 26 #[.slice A0 l0.length c0,.int .i64 a1] w fun e w' => e = .returned (.bool r) ∧ Drawn0 w w' := by
 have HR0 := Aside0.mk hr0
 have HC0 := Aside0.mk hc0
 clear hr0 hc0
 have H : ((codesearchref05_Valid.f k l0).bind fun t483 => (if t483 = true then ((codesearchref05_In.f k l0 a1).bind fun t484 => (some t484)) else (some false))) = some r := h
 clear h
 replace H := Option.bind_eq_some_iff.mp H
 obtain ⟨t483,A30,H⟩ := H
 replace H : (if t483 = true then ((codesearchref05_In.f k l0 a1).bind fun t484 => (some t484)) else (some false)) = some r := H
 have A3 := Aside0.mk A30
 clear A30
 by_cases c4 : t483 = true
 ·subst c4
  have H1 : ((codesearchref05_In.f k l0 a1).bind fun t484 => (some t484)) = some r := by rw [if_pos rfl] at H;exact H
  clear H
  have H := H1
  clear H1
  replace H := Option.bind_eq_some_iff.mp H
  obtain ⟨t484,A50,H⟩ := H
  replace H : (some t484) = some r := H
  have A5 := Aside0.mk A50
  clear A50
  obtain rfl := Option.some.inj H
  go_enter Try.func26,Try.ntmps26
  go_wp2_with (first|((with_reducible refine gate_callee (f := 12) rfl ?_);refine goesL_ (some 6) rfl rfl Try.func12 (by kernel_rfl) rfl #[.slice A0 l0.length c0] rfl (by (try simp only [List.map_toArray,List.map_cons,List.map_nil]);first|done|rfl|(simp only [List.length_drop,List.length_take];rfl)) ?_;(with_reducible refine (codesearchref05_Valid.calls k _ _ l0 true _ ?side1 ?side2 A3.out).mono ?_);(case side1 => exact cM HR0.out);(case side2 => exact HC0.out);rintro e w' ⟨rfl,⟨nd,rfl⟩⟩;refine ⟨_,rfl,?_⟩)|(go_at_call 31;(with_reducible refine (codesearchref05_In.calls k _ _ l0 a1 t484 _ ?side1 ?side2 A5.out).mono ?_);(case side1 => exact cM HR0.out);(case side2 => exact HC0.out);rintro e w' ⟨rfl,⟨nd,rfl⟩⟩))
  go_ret
  exact ⟨by first|rfl|(simp;done)|(simp [*];done),by repeat (first|exact Drawn0.refl _|apply Drawn0.step)⟩
 ·replace c4 := Bool.eq_false_iff.mpr c4
  subst c4
  have H1 : (some false) = some r := by rw [if_neg (show ¬ (false = true) by decide)] at H;exact H
  clear H
  have H := H1
  clear H1
  obtain rfl := Option.some.inj H
  go_enter Try.func26,Try.ntmps26
  go_wp2_with (first|((with_reducible refine gate_callee (f := 12) rfl ?_);refine goesL_ (some 6) rfl rfl Try.func12 (by kernel_rfl) rfl #[.slice A0 l0.length c0] rfl (by (try simp only [List.map_toArray,List.map_cons,List.map_nil]);first|done|rfl|(simp only [List.length_drop,List.length_take];rfl)) ?_;(with_reducible refine (codesearchref05_Valid.calls k _ _ l0 false _ ?side1 ?side2 A3.out).mono ?_);(case side1 => exact cM HR0.out);(case side2 => exact HC0.out);rintro e w' ⟨rfl,⟨nd,rfl⟩⟩;refine ⟨_,rfl,?_⟩))
  go_ret
  exact ⟨by first|rfl|(simp;done)|(simp [*];done),by repeat (first|exact Drawn0.refl _|apply Drawn0.step)⟩

/-! ### codesearchlaw05_PostingPacks: function 5 -/
def codesearchlaw05_PostingPacks.f (k : Nat) (l0 : List Int) (a1 : Int) : Option (Bool) := (codesearchlaw05_alive.f k).bind fun t485 => (if t485 = true then (if (l0.length : Int) > 100 then (some true) else ((posting_Pack.f k l0).bind fun bt486 => ((codesearchref05_Pack.f k l0).bind fun bt490 => (if bt486.2 = bt490.2 then ((codesearchlaw05_sameBytes.f bt486.1 bt490.1).bind fun t494 => (if t494 = true then ((posting_Has.f k l0 a1).bind fun t495 => ((codesearchref05_Has.f k l0 a1).bind fun t496 => (some (t495 == t496)))) else (some false))) else (some false))))) else (some false))
theorem codesearchlaw05_PostingPacks.mono : ∀ a0 a1 k, LeO (codesearchlaw05_PostingPacks.f k a0 a1) (codesearchlaw05_PostingPacks.f (k + 1) a0 a1) := by
 intro a0 a1 k
 unfold codesearchlaw05_PostingPacks.f
 repeat' first
  |(with_reducible exact codesearchlaw05_alive.mono _)
  |(with_reducible exact codesearchref05_Has.mono _ _ _)
  |(with_reducible exact codesearchref05_Pack.mono _ _)
  |(with_reducible exact posting_Has.mono _ _ _)
  |(with_reducible exact posting_Pack.mono _ _)
  |(with_reducible exact LeO.refl _)
  |(with_reducible exact LeO.none _)
  |(with_reducible refine LeO.ite ?_ ?_)
  |(with_reducible refine LeO.bind ?_ (fun _ => ?_))
  |exact codesearchlaw05_alive.mono _
  |exact codesearchref05_Has.mono _ _ _
  |exact codesearchref05_Pack.mono _ _
  |exact posting_Has.mono _ _ _
  |exact posting_Pack.mono _ _
  |exact LeO.none _
  |refine LeO.ite ?_ ?_
  |refine LeO.bind ?_ (fun _ => ?_)
set_option maxHeartbeats 4000000 in
set_option maxRecDepth 100000 in
theorem codesearchlaw05_PostingPacks.calls (k : Nat) (A0 : Option Addr) (c0 : Nat) (l0 : List Int) (a1 : Int) (r : Bool) (w : World) (hr0 : Kd.C (Kd.int .i64) w A0 l0.length l0) (hc0 : l0.length ≤ c0) (h : codesearchlaw05_PostingPacks.f k l0 a1 = some r) :
  Calls Try.prog 5 #[.slice A0 l0.length c0,.int .i64 a1] w fun e w' => e = .returned (.bool r) ∧ Below w.heap.size w w' := by
 have HR0 := Aside0.mk hr0
 have HC0 := Aside0.mk hc0
 clear hr0 hc0
 have HB := Aside0.mk (Below.refl w.heap.size w)
 have H : ((codesearchlaw05_alive.f k).bind fun t485 => (if t485 = true then (if (l0.length : Int) > 100 then (some true) else ((posting_Pack.f k l0).bind fun bt486 => ((codesearchref05_Pack.f k l0).bind fun bt490 => (if bt486.2 = bt490.2 then ((codesearchlaw05_sameBytes.f bt486.1 bt490.1).bind fun t494 => (if t494 = true then ((posting_Has.f k l0 a1).bind fun t495 => ((codesearchref05_Has.f k l0 a1).bind fun t496 => (some (t495 == t496)))) else (some false))) else (some false))))) else (some false))) = some r := h
 clear h
 replace H := Option.bind_eq_some_iff.mp H
 obtain ⟨t485,A30,H⟩ := H
 replace H : (if t485 = true then (if (l0.length : Int) > 100 then (some true) else ((posting_Pack.f k l0).bind fun bt486 => ((codesearchref05_Pack.f k l0).bind fun bt490 => (if bt486.2 = bt490.2 then ((codesearchlaw05_sameBytes.f bt486.1 bt490.1).bind fun t494 => (if t494 = true then ((posting_Has.f k l0 a1).bind fun t495 => ((codesearchref05_Has.f k l0 a1).bind fun t496 => (some (t495 == t496)))) else (some false))) else (some false))))) else (some false)) = some r := H
 have A3 := Aside0.mk A30
 clear A30
 by_cases c4 : t485 = true
 ·subst c4
  have H1 : (if (l0.length : Int) > 100 then (some true) else ((posting_Pack.f k l0).bind fun bt486 => ((codesearchref05_Pack.f k l0).bind fun bt490 => (if bt486.2 = bt490.2 then ((codesearchlaw05_sameBytes.f bt486.1 bt490.1).bind fun t494 => (if t494 = true then ((posting_Has.f k l0 a1).bind fun t495 => ((codesearchref05_Has.f k l0 a1).bind fun t496 => (some (t495 == t496)))) else (some false))) else (some false))))) = some r := by rw [if_pos rfl] at H;exact H
  clear H
  have H := H1
  clear H1
  by_cases c5 : (l0.length : Int) > 100
  ·rw [if_pos c5] at H
   have c5b0 : decide (100 < (l0.length : Int)) = true := decide_eq_true c5
   have c5b1 : decide (100 < l0.length) = true := decide_eq_true (by omega)
   clear c5
   obtain rfl := Option.some.inj H
   go_enter Try.func5,Try.ntmps5
   go_wp2_with (first|((with_reducible refine gate_callee (f := 10) rfl ?_);refine goesL_ (some 9) rfl rfl Try.func10 (by kernel_rfl) rfl #[] rfl (by (try simp only [List.map_toArray,List.map_cons,List.map_nil]);first|done|rfl|(simp only [List.length_drop,List.length_take];rfl)) ?_;(with_reducible refine (codesearchlaw05_alive.calls k  true _ A3.out).mono ?_);rintro e w6 ⟨rfl,hb⟩;refine ⟨_,rfl,?_⟩;have n0_ := Aside0.mk (below_step (bM HB.out) hb);clear HB;have HB := n0_;clear n0_;(try clear hb);(try clear hb2);(try clear hk);(try clear hi)))
   go_ret
   exact ⟨by first|rfl|(simp [errW_none,errW_some] <;> rfl)|(simp [*,errW_none,errW_some] <;> rfl),bM HB.out⟩
  ·rw [if_neg c5] at H
   have c5b0 : decide (100 < (l0.length : Int)) = false := decide_eq_false c5
   have c5b1 : decide (100 < l0.length) = false := decide_eq_false (by omega)
   clear c5
   replace H := Option.bind_eq_some_iff.mp H
   obtain ⟨⟨t486,t489⟩,A70,H⟩ := H
   replace H : ((codesearchref05_Pack.f k l0).bind fun bt490 => (if t489 = bt490.2 then ((codesearchlaw05_sameBytes.f t486 bt490.1).bind fun t494 => (if t494 = true then ((posting_Has.f k l0 a1).bind fun t495 => ((codesearchref05_Has.f k l0 a1).bind fun t496 => (some (t495 == t496)))) else (some false))) else (some false))) = some r := H
   have A7 := Aside0.mk A70
   clear A70
   replace H := Option.bind_eq_some_iff.mp H
   obtain ⟨⟨t490,t491⟩,A80,H⟩ := H
   replace H : (if t489 = t491 then ((codesearchlaw05_sameBytes.f t486 t490).bind fun t494 => (if t494 = true then ((posting_Has.f k l0 a1).bind fun t495 => ((codesearchref05_Has.f k l0 a1).bind fun t496 => (some (t495 == t496)))) else (some false))) else (some false)) = some r := H
   have A8 := Aside0.mk A80
   clear A80
   by_cases c9 : t489 = t491
   ·rw [if_pos c9] at H
    have c9b0 : (t489 == t491) = true := beq_iff_eq.mpr c9
    have c9b1 : (t489 != t491) = false := bne_eq_false_iff_eq.mpr c9
    clear c9
    replace H := Option.bind_eq_some_iff.mp H
    obtain ⟨t494,A100,H⟩ := H
    replace H : (if t494 = true then ((posting_Has.f k l0 a1).bind fun t495 => ((codesearchref05_Has.f k l0 a1).bind fun t496 => (some (t495 == t496)))) else (some false)) = some r := H
    have A10 := Aside0.mk A100
    clear A100
    by_cases c11 : t494 = true
    ·subst c11
     have H1 : ((posting_Has.f k l0 a1).bind fun t495 => ((codesearchref05_Has.f k l0 a1).bind fun t496 => (some (t495 == t496)))) = some r := by rw [if_pos rfl] at H;exact H
     clear H
     have H := H1
     clear H1
     replace H := Option.bind_eq_some_iff.mp H
     obtain ⟨t495,A120,H⟩ := H
     replace H : ((codesearchref05_Has.f k l0 a1).bind fun t496 => (some (t495 == t496))) = some r := H
     have A12 := Aside0.mk A120
     clear A120
     replace H := Option.bind_eq_some_iff.mp H
     obtain ⟨t496,A130,H⟩ := H
     replace H : (some (t495 == t496)) = some r := H
     have A13 := Aside0.mk A130
     clear A130
     obtain rfl := Option.some.inj H
     go_enter Try.func5,Try.ntmps5
     go_wp2_with (first|((with_reducible refine gate_callee (f := 10) rfl ?_);refine goesL_ (some 9) rfl rfl Try.func10 (by kernel_rfl) rfl #[] rfl (by (try simp only [List.map_toArray,List.map_cons,List.map_nil]);first|done|rfl|(simp only [List.length_drop,List.length_take];rfl)) ?_;(with_reducible refine (codesearchlaw05_alive.calls k  true _ A3.out).mono ?_);rintro e w14 ⟨rfl,hb⟩;refine ⟨_,rfl,?_⟩;have n0_ := Aside0.mk (below_step (bM HB.out) hb);clear HB;have HB := n0_;clear n0_;(try clear hb);(try clear hb2);(try clear hk);(try clear hi))|((with_reducible refine gate_callee (f := 22) rfl ?_);refine goesL_ (some 16) rfl rfl Try.func22 (by kernel_rfl) rfl #[.slice A0 l0.length c0] rfl (by (try simp only [List.map_toArray,List.map_cons,List.map_nil]);first|done|rfl|(simp only [List.length_drop,List.length_take];rfl)) ?_;(with_reducible refine (posting_Pack.calls k (fun k_ => k_ < w.heap.size) _ _ l0 t486 t489 _ ?side1 A7.out).mono ?_);(case side1 => exact Kd.V_mk HC0.out (Kd.F_below (Kd.C_F (Kd.heap_int .i64) HR0.out) (bM HB.out)));rintro e w15 ⟨v487,rfl,ho0,hb⟩;refine ⟨_,rfl,?_⟩;have n0_ := Aside0.mk (Kd.R_lower (Kd.R_mono (ok' := fun k_ => True) ho0 (fun _ hk_ => trivial)) (below_size (bM HB.out)));have n1_ := Aside0.mk (below_step (bM HB.out) hb);clear HB;have HO488 := n0_;have HB := n1_;clear n0_ n1_;(try clear hb);(try clear hb2);(try clear hk);(try clear hi);(try clear ho0))|((with_reducible refine gate_callee (f := 23) rfl ?_);refine goesL_ (some 21) rfl rfl Try.func23 (by kernel_rfl) rfl #[.slice A0 l0.length c0] rfl (by (try simp only [List.map_toArray,List.map_cons,List.map_nil]);first|done|rfl|(simp only [List.length_drop,List.length_take];rfl)) ?_;(with_reducible refine (codesearchref05_Pack.calls k _ _ l0 t490 t491 _ ?side1 ?side2 A8.out).mono ?_);(case side1 => exact cM (Kd.C_below HR0.out HB.out));(case side2 => exact HC0.out);rintro e w16 ⟨v492,rfl,ho0,hb⟩;refine ⟨_,rfl,?_⟩;have n0_ := Aside0.mk (Kd.R_elder' (rM HO488.out) (Kd.R_base ho0) hb);have n1_ := Aside0.mk (Kd.R_lower (Kd.R_new' ho0 (Kd.R_lt (rM HO488.out))) (below_size (bM HB.out)));have n2_ := Aside0.mk (below_step (bM HB.out) hb);clear HO488;clear HB;have HO488 := n0_;have HO493 := n1_;have HB := n2_;clear n0_ n1_ n2_;(try clear hb);(try clear hb2);(try clear hk);(try clear hi);(try clear ho0);obtain ⟨Ao17,co17,eo17⟩ := Kd.R_slice HO488.out;subst eo17;obtain ⟨Ao18,co18,eo18⟩ := Kd.R_slice HO493.out;subst eo18)|(go_at_call 24;(with_reducible refine (codesearchlaw05_sameBytes.calls _ _ t486 _ _ t490 true _ ?side1 ?side2 ?side3 ?side4 A10.out).mono ?_);(case side1 => exact cM (Kd.R_reads' HO488.out).2.2);(case side2 => exact (Kd.R_reads' HO488.out).2.1);(case side3 => exact cM (Kd.R_reads' HO493.out).2.2);(case side4 => exact (Kd.R_reads' HO493.out).2.1);rintro e w' ⟨rfl,⟨nd,rfl⟩⟩)|(go_at_call 25;(with_reducible refine (posting_Has.calls k _ _ l0 a1 t495 _ ?side1 ?side2 A12.out).mono ?_);(case side1 => repeat (first|exact (Kd.C_below HR0.out (bM HB.out))|(with_reducible refine Kd.C_alloc ?_ _)|(with_reducible refine Kd.C_drewN ?_ _)|(with_reducible refine Kd.C_drew ?_)));(case side2 => exact HC0.out);rintro e w' ⟨rfl,⟨nd,rfl⟩⟩)|(go_at_call 26;(with_reducible refine (codesearchref05_Has.calls k _ _ l0 a1 t496 _ ?side1 ?side2 A13.out).mono ?_);(case side1 => repeat (first|exact (Kd.C_below HR0.out (bM HB.out))|(with_reducible refine Kd.C_alloc ?_ _)|(with_reducible refine Kd.C_drewN ?_ _)|(with_reducible refine Kd.C_drew ?_)));(case side2 => exact HC0.out);rintro e w' ⟨rfl,⟨nd,rfl⟩⟩))
     go_ret
     exact ⟨by first|rfl|(simp [errW_none,errW_some] <;> rfl)|(simp [*,errW_none,errW_some] <;> rfl),bM HB.out⟩
    ·replace c11 := Bool.eq_false_iff.mpr c11
     subst c11
     have H1 : (some false) = some r := by rw [if_neg (show ¬ (false = true) by decide)] at H;exact H
     clear H
     have H := H1
     clear H1
     obtain rfl := Option.some.inj H
     go_enter Try.func5,Try.ntmps5
     go_wp2_with (first|((with_reducible refine gate_callee (f := 10) rfl ?_);refine goesL_ (some 9) rfl rfl Try.func10 (by kernel_rfl) rfl #[] rfl (by (try simp only [List.map_toArray,List.map_cons,List.map_nil]);first|done|rfl|(simp only [List.length_drop,List.length_take];rfl)) ?_;(with_reducible refine (codesearchlaw05_alive.calls k  true _ A3.out).mono ?_);rintro e w19 ⟨rfl,hb⟩;refine ⟨_,rfl,?_⟩;have n0_ := Aside0.mk (below_step (bM HB.out) hb);clear HB;have HB := n0_;clear n0_;(try clear hb);(try clear hb2);(try clear hk);(try clear hi))|((with_reducible refine gate_callee (f := 22) rfl ?_);refine goesL_ (some 16) rfl rfl Try.func22 (by kernel_rfl) rfl #[.slice A0 l0.length c0] rfl (by (try simp only [List.map_toArray,List.map_cons,List.map_nil]);first|done|rfl|(simp only [List.length_drop,List.length_take];rfl)) ?_;(with_reducible refine (posting_Pack.calls k (fun k_ => k_ < w.heap.size) _ _ l0 t486 t489 _ ?side1 A7.out).mono ?_);(case side1 => exact Kd.V_mk HC0.out (Kd.F_below (Kd.C_F (Kd.heap_int .i64) HR0.out) (bM HB.out)));rintro e w20 ⟨v487,rfl,ho0,hb⟩;refine ⟨_,rfl,?_⟩;have n0_ := Aside0.mk (Kd.R_lower (Kd.R_mono (ok' := fun k_ => True) ho0 (fun _ hk_ => trivial)) (below_size (bM HB.out)));have n1_ := Aside0.mk (below_step (bM HB.out) hb);clear HB;have HO488 := n0_;have HB := n1_;clear n0_ n1_;(try clear hb);(try clear hb2);(try clear hk);(try clear hi);(try clear ho0))|((with_reducible refine gate_callee (f := 23) rfl ?_);refine goesL_ (some 21) rfl rfl Try.func23 (by kernel_rfl) rfl #[.slice A0 l0.length c0] rfl (by (try simp only [List.map_toArray,List.map_cons,List.map_nil]);first|done|rfl|(simp only [List.length_drop,List.length_take];rfl)) ?_;(with_reducible refine (codesearchref05_Pack.calls k _ _ l0 t490 t491 _ ?side1 ?side2 A8.out).mono ?_);(case side1 => exact cM (Kd.C_below HR0.out HB.out));(case side2 => exact HC0.out);rintro e w21 ⟨v492,rfl,ho0,hb⟩;refine ⟨_,rfl,?_⟩;have n0_ := Aside0.mk (Kd.R_elder' (rM HO488.out) (Kd.R_base ho0) hb);have n1_ := Aside0.mk (Kd.R_lower (Kd.R_new' ho0 (Kd.R_lt (rM HO488.out))) (below_size (bM HB.out)));have n2_ := Aside0.mk (below_step (bM HB.out) hb);clear HO488;clear HB;have HO488 := n0_;have HO493 := n1_;have HB := n2_;clear n0_ n1_ n2_;(try clear hb);(try clear hb2);(try clear hk);(try clear hi);(try clear ho0);obtain ⟨Ao22,co22,eo22⟩ := Kd.R_slice HO488.out;subst eo22;obtain ⟨Ao23,co23,eo23⟩ := Kd.R_slice HO493.out;subst eo23)|(go_at_call 24;(with_reducible refine (codesearchlaw05_sameBytes.calls _ _ t486 _ _ t490 false _ ?side1 ?side2 ?side3 ?side4 A10.out).mono ?_);(case side1 => exact cM (Kd.R_reads' HO488.out).2.2);(case side2 => exact (Kd.R_reads' HO488.out).2.1);(case side3 => exact cM (Kd.R_reads' HO493.out).2.2);(case side4 => exact (Kd.R_reads' HO493.out).2.1);rintro e w' ⟨rfl,⟨nd,rfl⟩⟩))
     go_ret
     exact ⟨by first|rfl|(simp [errW_none,errW_some] <;> rfl)|(simp [*,errW_none,errW_some] <;> rfl),bM HB.out⟩
   ·rw [if_neg c9] at H
    have c9b0 : (t489 == t491) = false := beq_eq_false_iff_ne.mpr c9
    have c9b1 : (t489 != t491) = true := bne_iff_ne.mpr c9
    obtain rfl := Option.some.inj H
    go_enter Try.func5,Try.ntmps5
    go_wp2_with (first|((with_reducible refine gate_callee (f := 10) rfl ?_);refine goesL_ (some 9) rfl rfl Try.func10 (by kernel_rfl) rfl #[] rfl (by (try simp only [List.map_toArray,List.map_cons,List.map_nil]);first|done|rfl|(simp only [List.length_drop,List.length_take];rfl)) ?_;(with_reducible refine (codesearchlaw05_alive.calls k  true _ A3.out).mono ?_);rintro e w24 ⟨rfl,hb⟩;refine ⟨_,rfl,?_⟩;have n0_ := Aside0.mk (below_step (bM HB.out) hb);clear HB;have HB := n0_;clear n0_;(try clear hb);(try clear hb2);(try clear hk);(try clear hi))|((with_reducible refine gate_callee (f := 22) rfl ?_);refine goesL_ (some 16) rfl rfl Try.func22 (by kernel_rfl) rfl #[.slice A0 l0.length c0] rfl (by (try simp only [List.map_toArray,List.map_cons,List.map_nil]);first|done|rfl|(simp only [List.length_drop,List.length_take];rfl)) ?_;(with_reducible refine (posting_Pack.calls k (fun k_ => k_ < w.heap.size) _ _ l0 t486 t489 _ ?side1 A7.out).mono ?_);(case side1 => exact Kd.V_mk HC0.out (Kd.F_below (Kd.C_F (Kd.heap_int .i64) HR0.out) (bM HB.out)));rintro e w25 ⟨v487,rfl,ho0,hb⟩;refine ⟨_,rfl,?_⟩;have n0_ := Aside0.mk (Kd.R_lower (Kd.R_mono (ok' := fun k_ => True) ho0 (fun _ hk_ => trivial)) (below_size (bM HB.out)));have n1_ := Aside0.mk (below_step (bM HB.out) hb);clear HB;have HO488 := n0_;have HB := n1_;clear n0_ n1_;(try clear hb);(try clear hb2);(try clear hk);(try clear hi);(try clear ho0))|((with_reducible refine gate_callee (f := 23) rfl ?_);refine goesL_ (some 21) rfl rfl Try.func23 (by kernel_rfl) rfl #[.slice A0 l0.length c0] rfl (by (try simp only [List.map_toArray,List.map_cons,List.map_nil]);first|done|rfl|(simp only [List.length_drop,List.length_take];rfl)) ?_;(with_reducible refine (codesearchref05_Pack.calls k _ _ l0 t490 t491 _ ?side1 ?side2 A8.out).mono ?_);(case side1 => exact cM (Kd.C_below HR0.out HB.out));(case side2 => exact HC0.out);rintro e w26 ⟨v492,rfl,ho0,hb⟩;refine ⟨_,rfl,?_⟩;have n0_ := Aside0.mk (Kd.R_elder' (rM HO488.out) (Kd.R_base ho0) hb);have n1_ := Aside0.mk (Kd.R_lower (Kd.R_new' ho0 (Kd.R_lt (rM HO488.out))) (below_size (bM HB.out)));have n2_ := Aside0.mk (below_step (bM HB.out) hb);clear HO488;clear HB;have HO488 := n0_;have HO493 := n1_;have HB := n2_;clear n0_ n1_ n2_;(try clear hb);(try clear hb2);(try clear hk);(try clear hi);(try clear ho0)))
    go_ret
    exact ⟨by first|rfl|(simp [errW_none,errW_some] <;> rfl)|(simp [*,errW_none,errW_some] <;> rfl),bM HB.out⟩
 ·replace c4 := Bool.eq_false_iff.mpr c4
  subst c4
  have H1 : (some false) = some r := by rw [if_neg (show ¬ (false = true) by decide)] at H;exact H
  clear H
  have H := H1
  clear H1
  obtain rfl := Option.some.inj H
  go_enter Try.func5,Try.ntmps5
  go_wp2_with (first|((with_reducible refine gate_callee (f := 10) rfl ?_);refine goesL_ (some 9) rfl rfl Try.func10 (by kernel_rfl) rfl #[] rfl (by (try simp only [List.map_toArray,List.map_cons,List.map_nil]);first|done|rfl|(simp only [List.length_drop,List.length_take];rfl)) ?_;(with_reducible refine (codesearchlaw05_alive.calls k  false _ A3.out).mono ?_);rintro e w27 ⟨rfl,hb⟩;refine ⟨_,rfl,?_⟩;have n0_ := Aside0.mk (below_step (bM HB.out) hb);clear HB;have HB := n0_;clear n0_;(try clear hb);(try clear hb2);(try clear hk);(try clear hi)))
  go_ret
  exact ⟨by first|rfl|(simp [errW_none,errW_some] <;> rfl)|(simp [*,errW_none,errW_some] <;> rfl),bM HB.out⟩

end Go.Proofs.Ytknpmknkkofnjaa.P
