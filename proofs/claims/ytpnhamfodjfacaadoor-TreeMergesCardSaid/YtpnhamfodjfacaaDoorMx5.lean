-- Written by hp.py, a program of this session, over the kit's print of the translation. Not trusted: Lean checks it.
import Derived.Test.YtpnhamfodjfacaaDoorMx0
import Derived.Test.YtpnhamfodjfacaaDoorMx4
namespace Go.Proofs.YtpnhamfodjfacaaDoor.M
open Go.RowKit Go.Proofs.YtpnhamfodjfacaaDoorW.PrintWords Go.Proofs.YtpnhamfodjfacaaDoorW.PrintLast Go.Proofs.YtpnhamfodjfacaaDoorW.PrintMore
attribute [local go_sem] max2_int min2_int max_two min_two max_three min_three max_four min_four   -- for this text's walks alone
set_option linter.unusedVariables false
set_option linter.unusedSimpArgs false

/-! ### tree_Right: function 12 -/
mutual
def tree_Right.l0 : Nat → List (S45) → List (S45) → Int → Int → Option (Int)
|0,_,_,_,_ => none
|k + 1,x0,x10,x11,x12 => if x12 < x11 then (if 0 ≤ x12 then (if x12 < (x10.length : Int) then ((glob_ValidPath.f k ((rd_T45 x10 x12).f0)).bind fun t130 => (if t130 = true then (if ((rd_T45 x10 x12).f1) < 1 then (tree_Right.j1 k x0 x12 x10 x11 x12 true ((rd_T45 x10 x12).f0) ((rd_T45 x10 x12).f1)) else (tree_Right.j1 k x0 x12 x10 x11 x12 (decide (((rd_T45 x10 x12).f1) > 9999)) ((rd_T45 x10 x12).f0) ((rd_T45 x10 x12).f1))) else (some 3))) else (none)) else (none)) else (some 0)
def tree_Right.j2 : Nat → List (S45) → Int → List (S45) → Int → Int → ByteArray → Int → Option (Int)
|0,_,_,_,_,_,_,_ => none
|k + 1,x0,x3,x10,x11,x12,x130000,x130001 => tree_Right.l1 k x0 x3 x10 x11 x12 x0 (x0.length : Int) 0 x130000 x130001
def tree_Right.l1 : Nat → List (S45) → Int → List (S45) → Int → Int → List (S45) → Int → Int → ByteArray → Int → Option (Int)
|0,_,_,_,_,_,_,_,_,_,_ => none
|k + 1,x0,x3,x10,x11,x12,x45,x46,x47,x130000,x130001 => if x47 < x46 then (if 0 ≤ x47 then (if x47 < (x45.length : Int) then (if x47 = x3 then (tree_Right.l1 k x0 x3 x10 x11 x12 x45 x46 (wrap64 (x47 + 1)) x130000 x130001) else ((glob_Under.f x130000 ((rd_T45 x45 x47).f0)).bind fun t134 => (if t134 = true then (some 14) else (tree_Right.l1 k x0 x3 x10 x11 x12 x45 x46 (wrap64 (x47 + 1)) x130000 x130001)))) else (none)) else (none)) else (tree_Right.l0 k x0 x10 x11 (wrap64 (x12 + 1)))
def tree_Right.j1 : Nat → List (S45) → Int → List (S45) → Int → Int → Bool → ByteArray → Int → Option (Int)
|0,_,_,_,_,_,_,_,_ => none
|k + 1,x0,x3,x10,x11,x12,x22,x130000,x130001 => if x22 = true then (some 2) else (if x3 > 0 then (if 0 ≤ (wrap64 (x3 - 1)) then (if (wrap64 (x3 - 1)) < (x0.length : Int) then (if ((Op.bytesLess (((rd_T45 x0 (wrap64 (x3 - 1))).f0).toList) x130000.toList) = true) then (tree_Right.j2 k x0 x3 x10 x11 x12 x130000 x130001) else (some 7)) else (none)) else (none)) else (tree_Right.j2 k x0 x3 x10 x11 x12 x130000 x130001))
end
def tree_Right.f (k : Nat) (l0 : List (S45)) : Option (Int) := if (l0.length : Int) > 32 then (some 4) else (tree_Right.l0 k l0 l0 (l0.length : Int) 0)
theorem tree_Right.mono_l : ∀ k, (∀ y0 y1 y2 y3, LeO (tree_Right.l0 k y0 y1 y2 y3) (tree_Right.l0 (k + 1) y0 y1 y2 y3)) ∧ (∀ y0 y1 y2 y3 y4 y5 y6, LeO (tree_Right.j2 k y0 y1 y2 y3 y4 y5 y6) (tree_Right.j2 (k + 1) y0 y1 y2 y3 y4 y5 y6)) ∧ (∀ y0 y1 y2 y3 y4 y5 y6 y7 y8 y9, LeO (tree_Right.l1 k y0 y1 y2 y3 y4 y5 y6 y7 y8 y9) (tree_Right.l1 (k + 1) y0 y1 y2 y3 y4 y5 y6 y7 y8 y9)) ∧ (∀ y0 y1 y2 y3 y4 y5 y6 y7, LeO (tree_Right.j1 k y0 y1 y2 y3 y4 y5 y6 y7) (tree_Right.j1 (k + 1) y0 y1 y2 y3 y4 y5 y6 y7))
|0 => ⟨fun _ _ _ _ r h => by simp [tree_Right.l0] at h,fun _ _ _ _ _ _ _ r h => by simp [tree_Right.j2] at h,fun _ _ _ _ _ _ _ _ _ _ r h => by simp [tree_Right.l1] at h,fun _ _ _ _ _ _ _ _ r h => by simp [tree_Right.j1] at h⟩
|k + 1 => by
  obtain ⟨ih0,ih1,ih2,ih3⟩ := tree_Right.mono_l k
  refine ⟨?_,?_,?_,?_⟩
  ·intro y0 y1 y2 y3
   unfold tree_Right.l0
   repeat' first
  |(with_reducible exact ih0 _ _ _ _)
  |(with_reducible exact ih1 _ _ _ _ _ _ _)
  |(with_reducible exact ih2 _ _ _ _ _ _ _ _ _ _)
  |(with_reducible exact ih3 _ _ _ _ _ _ _ _)
  |(with_reducible exact glob_ValidPath.mono _ _)
  |(with_reducible exact LeO.refl _)
  |(with_reducible exact LeO.none _)
  |(with_reducible refine LeO.ite ?_ ?_)
  |(with_reducible refine LeO.bind ?_ (fun _ => ?_))
  |exact ih0 _ _ _ _
  |exact ih1 _ _ _ _ _ _ _
  |exact ih2 _ _ _ _ _ _ _ _ _ _
  |exact ih3 _ _ _ _ _ _ _ _
  |exact glob_ValidPath.mono _ _
  |exact LeO.none _
  |refine LeO.ite ?_ ?_
  |refine LeO.bind ?_ (fun _ => ?_)
  ·intro y0 y1 y2 y3 y4 y5 y6
   unfold tree_Right.j2
   repeat' first
  |(with_reducible exact ih0 _ _ _ _)
  |(with_reducible exact ih1 _ _ _ _ _ _ _)
  |(with_reducible exact ih2 _ _ _ _ _ _ _ _ _ _)
  |(with_reducible exact ih3 _ _ _ _ _ _ _ _)
  |(with_reducible exact glob_ValidPath.mono _ _)
  |(with_reducible exact LeO.refl _)
  |(with_reducible exact LeO.none _)
  |(with_reducible refine LeO.ite ?_ ?_)
  |(with_reducible refine LeO.bind ?_ (fun _ => ?_))
  |exact ih0 _ _ _ _
  |exact ih1 _ _ _ _ _ _ _
  |exact ih2 _ _ _ _ _ _ _ _ _ _
  |exact ih3 _ _ _ _ _ _ _ _
  |exact glob_ValidPath.mono _ _
  |exact LeO.none _
  |refine LeO.ite ?_ ?_
  |refine LeO.bind ?_ (fun _ => ?_)
  ·intro y0 y1 y2 y3 y4 y5 y6 y7 y8 y9
   unfold tree_Right.l1
   repeat' first
  |(with_reducible exact ih0 _ _ _ _)
  |(with_reducible exact ih1 _ _ _ _ _ _ _)
  |(with_reducible exact ih2 _ _ _ _ _ _ _ _ _ _)
  |(with_reducible exact ih3 _ _ _ _ _ _ _ _)
  |(with_reducible exact glob_ValidPath.mono _ _)
  |(with_reducible exact LeO.refl _)
  |(with_reducible exact LeO.none _)
  |(with_reducible refine LeO.ite ?_ ?_)
  |(with_reducible refine LeO.bind ?_ (fun _ => ?_))
  |exact ih0 _ _ _ _
  |exact ih1 _ _ _ _ _ _ _
  |exact ih2 _ _ _ _ _ _ _ _ _ _
  |exact ih3 _ _ _ _ _ _ _ _
  |exact glob_ValidPath.mono _ _
  |exact LeO.none _
  |refine LeO.ite ?_ ?_
  |refine LeO.bind ?_ (fun _ => ?_)
  ·intro y0 y1 y2 y3 y4 y5 y6 y7
   unfold tree_Right.j1
   repeat' first
  |(with_reducible exact ih0 _ _ _ _)
  |(with_reducible exact ih1 _ _ _ _ _ _ _)
  |(with_reducible exact ih2 _ _ _ _ _ _ _ _ _ _)
  |(with_reducible exact ih3 _ _ _ _ _ _ _ _)
  |(with_reducible exact glob_ValidPath.mono _ _)
  |(with_reducible exact LeO.refl _)
  |(with_reducible exact LeO.none _)
  |(with_reducible refine LeO.ite ?_ ?_)
  |(with_reducible refine LeO.bind ?_ (fun _ => ?_))
  |exact ih0 _ _ _ _
  |exact ih1 _ _ _ _ _ _ _
  |exact ih2 _ _ _ _ _ _ _ _ _ _
  |exact ih3 _ _ _ _ _ _ _ _
  |exact glob_ValidPath.mono _ _
  |exact LeO.none _
  |refine LeO.ite ?_ ?_
  |refine LeO.bind ?_ (fun _ => ?_)
theorem tree_Right.mono : ∀ a0 k, LeO (tree_Right.f k a0) (tree_Right.f (k + 1) a0) := by
 intro a0 k
 obtain ⟨ih0,ih1,ih2,ih3⟩ := tree_Right.mono_l k
 unfold tree_Right.f
 repeat' first
  |(with_reducible exact ih0 _ _ _ _)
  |(with_reducible exact ih1 _ _ _ _ _ _ _)
  |(with_reducible exact ih2 _ _ _ _ _ _ _ _ _ _)
  |(with_reducible exact ih3 _ _ _ _ _ _ _ _)
  |(with_reducible exact glob_ValidPath.mono _ _)
  |(with_reducible exact LeO.refl _)
  |(with_reducible exact LeO.none _)
  |(with_reducible refine LeO.ite ?_ ?_)
  |(with_reducible refine LeO.bind ?_ (fun _ => ?_))
  |exact ih0 _ _ _ _
  |exact ih1 _ _ _ _ _ _ _
  |exact ih2 _ _ _ _ _ _ _ _ _ _
  |exact ih3 _ _ _ _ _ _ _ _
  |exact glob_ValidPath.mono _ _
  |exact LeO.none _
  |refine LeO.ite ?_ ?_
  |refine LeO.bind ?_ (fun _ => ?_)
set_option maxHeartbeats 4000000 in
set_option maxRecDepth 100000 in
theorem tree_Right.calls (k : Nat) (A0 : Option Addr) (c0 : Nat) (l0 : List (S45)) (r : Int) (w : World) (hr0 : Kd.C k45 w A0 l0.length l0) (hc0 : l0.length ≤ c0) (h : tree_Right.f k l0 = some r) :
  Calls Tryd.prog 12 #[.slice A0 l0.length c0] w fun e w' => e = .returned (.int .i64 r) ∧ Below w.heap.size w w' := by
 have hu45 := Tryd.underlying45
 have HR0 := Aside0.mk hr0
 have HC0 := Aside0.mk hc0
 clear hr0 hc0
 have HB := Aside0.mk (Below.refl w.heap.size w)
 have H : (if (l0.length : Int) > 32 then (some 4) else (tree_Right.l0 k l0 l0 (l0.length : Int) 0)) = some r := h
 clear h
 by_cases c2 : (l0.length : Int) > 32
 ·rw [if_pos c2] at H
  have c2b0 : decide (32 < (l0.length : Int)) = true := decide_eq_true c2
  have c2b1 : decide (32 < l0.length) = true := decide_eq_true (by omega)
  clear c2
  obtain rfl := Option.some.inj H
  go_enter Tryd.func12,Tryd.ntmps12
  go_wp2
  repeat (go_quiet (fail);try go_wp2)
  go_ret
  exact ⟨by first|rfl|(simp [errW_none,errW_some] <;> rfl)|(simp [*,errW_none,errW_some] <;> rfl),bM HB.out⟩
 ·rw [if_neg c2] at H
  have c2b0 : decide (32 < (l0.length : Int)) = false := decide_eq_false c2
  have c2b1 : decide (32 < l0.length) = false := decide_eq_false (by omega)
  clear c2
  have H' := Aside0.mk H
  clear H
  go_enter Tryd.func12,Tryd.ntmps12
  go_wp2
  repeat (go_quiet (fail);try go_wp2)
  go_loopg [12] k (fun kq v12 w' => ∃ (x12_1 : Int),v12 = .int .i64 x12_1 ∧ Aside0 (tree_Right.l0 kq l0 l0 (l0.length : Int) x12_1 = some r) ∧ Aside0 (kq ≤ k) ∧ Aside0 (Below w.heap.size w w'))
  case atStart => exact ⟨(0),(by first|rfl|(simp;done)|(simp [*];done)),H',⟨Nat.le_refl _⟩,⟨bM HB.out⟩⟩
  case round =>
   clear H'
   try clear c1
   try clear c2
   try clear c2b0
   try clear c2b1
   try clear p2
   obtain ⟨x12_1,rfl,HA,HK1,HB⟩ := hrel
   cases gk with
  |zero => exact absurd HA.out (by simp [tree_Right.l0])
  |succ k1 =>
    have H := HA.out
    clear HA
    simp only [tree_Right.l0] at H
    by_cases c3 : x12_1 < (l0.length : Int)
    ·rw [if_pos c3] at H
     have c3b0 : decide (x12_1 < (l0.length : Int)) = true := decide_eq_true c3
     clear c3
     by_cases c4 : 0 ≤ x12_1
     ·rw [if_pos c4] at H
      have c4b0 : decide (0 ≤ x12_1) = true := decide_eq_true c4
      clear c4
      by_cases c5 : x12_1 < (l0.length : Int)
      ·rw [if_pos c5] at H
       have c5b0 : decide (x12_1 < (l0.length : Int)) = true := decide_eq_true c5
       clear c5
       have HC6 := Aside0.mk H
       clear H
       have p128 : 0 ≤ (x12_1 : Int) := of_decide_eq_true (by first|(with_reducible assumption)|assumption)
       have q128 : x12_1 < (l0.length : Int) := of_decide_eq_true (by first|(with_reducible assumption)|assumption)
       obtain ⟨ad128,e128,hx128_0,hx128_1⟩ := at_T45 HR0.out x12_1 p128 q128
       cases e128
       replace hx128_0 := (HB.out.cell (World.block_lt_of_cell? w _ hx128_0)).trans hx128_0
       replace hx128_1 := (HB.out.cell (World.block_lt_of_cell? w _ hx128_1)).trans hx128_1
       replace p128 := eq_true p128
       replace q128 := eq_true q128
       go_upto_block 2 with (first|((with_reducible refine gate_dst (N := 4) rfl ?_);refine box_event ?hg (N := 4) ?hd (cs := #[.string (⟨#[]⟩ : ByteArray),.int .i64 0]) (t := 45) ?hr ?_;(case hd => rfl);(case hg => rfl);(case hr => first|(go_simp;done)|(go_simp;rfl));intro gb129 hg w7 hbox hb;have n0_ := Aside0.mk (below_step (bM HB.out) hb);have n1_ := Aside0.mk (hbox);have n2_ := Aside0.mk ((by rw [hg];exact (below_size (bM HB.out)) : w.heap.size ≤ gb129));have n3_ := Aside0.mk ((by rw [hg];exact (below_size (bM HB.out)) : w.heap.size ≤ gb129));clear HB;have HB := n0_;have BK129 := n1_;have GW129 := n2_;have GE129 := n3_;clear n0_ n1_ n2_ n3_;clear hb hbox hg;have hcz8_0 : w7.cell? ⟨gb129,0,none⟩ = some (.string (⟨#[]⟩ : ByteArray)) := (blk_cell BK129.out 0).trans rfl;have hcz8_1 : w7.cell? ⟨gb129,1,none⟩ = some (.int .i64 0) := (blk_cell BK129.out 1).trans rfl;have hfz8_0 := blk_frozen BK129.out 0;have hfz8_1 := blk_frozen BK129.out 1))
       repeat (go_quiet (first|((with_reducible refine gate_dst (N := 4) rfl ?_);refine box_event ?hg (N := 4) ?hd (cs := #[.string (⟨#[]⟩ : ByteArray),.int .i64 0]) (t := 45) ?hr ?_;(case hd => rfl);(case hg => rfl);(case hr => first|(go_simp;done)|(go_simp;rfl));intro gb129 hg w7 hbox hb;have n0_ := Aside0.mk (below_step (bM HB.out) hb);have n1_ := Aside0.mk (hbox);have n2_ := Aside0.mk ((by rw [hg];exact (below_size (bM HB.out)) : w.heap.size ≤ gb129));have n3_ := Aside0.mk ((by rw [hg];exact (below_size (bM HB.out)) : w.heap.size ≤ gb129));clear HB;have HB := n0_;have BK129 := n1_;have GW129 := n2_;have GE129 := n3_;clear n0_ n1_ n2_ n3_;clear hb hbox hg;have hcz8_0 : w7.cell? ⟨gb129,0,none⟩ = some (.string (⟨#[]⟩ : ByteArray)) := (blk_cell BK129.out 0).trans rfl;have hcz8_1 : w7.cell? ⟨gb129,1,none⟩ = some (.int .i64 0) := (blk_cell BK129.out 1).trans rfl;have hfz8_0 := blk_frozen BK129.out 0;have hfz8_1 := blk_frozen BK129.out 1));go_upto_block 2 with (first|((with_reducible refine gate_dst (N := 4) rfl ?_);refine box_event ?hg (N := 4) ?hd (cs := #[.string (⟨#[]⟩ : ByteArray),.int .i64 0]) (t := 45) ?hr ?_;(case hd => rfl);(case hg => rfl);(case hr => first|(go_simp;done)|(go_simp;rfl));intro gb129 hg w7 hbox hb;have n0_ := Aside0.mk (below_step (bM HB.out) hb);have n1_ := Aside0.mk (hbox);have n2_ := Aside0.mk ((by rw [hg];exact (below_size (bM HB.out)) : w.heap.size ≤ gb129));have n3_ := Aside0.mk ((by rw [hg];exact (below_size (bM HB.out)) : w.heap.size ≤ gb129));clear HB;have HB := n0_;have BK129 := n1_;have GW129 := n2_;have GE129 := n3_;clear n0_ n1_ n2_ n3_;clear hb hbox hg;have hcz8_0 : w7.cell? ⟨gb129,0,none⟩ = some (.string (⟨#[]⟩ : ByteArray)) := (blk_cell BK129.out 0).trans rfl;have hcz8_1 : w7.cell? ⟨gb129,1,none⟩ = some (.int .i64 0) := (blk_cell BK129.out 1).trans rfl;have hfz8_0 := blk_frozen BK129.out 0;have hfz8_1 := blk_frozen BK129.out 1)))
       (try simp only [Act.put,List.setIfInBounds_toArray,List.set_cons_zero,List.set_cons_succ])
       go_cut [] (fun wc => ∃ (kq : Nat),Aside0 (tree_Right.j2 kq l0 x12_1 l0 (l0.length : Int) x12_1 ((rd_T45 l0 x12_1).f0) ((rd_T45 l0 x12_1).f1) = some r) ∧ Aside0 (kq ≤ k1) ∧ Aside0 (wc.heap[gb129]? = some (.cells #[.string ((rd_T45 l0 x12_1).f0),.int .i64 ((rd_T45 l0 x12_1).f1)] 45 (0,0))) ∧ Aside0 (Below w.heap.size w wc))
       case first =>
        have H := HC6.out
        clear HC6
        replace H := Option.bind_eq_some_iff.mp H
        obtain ⟨t130,A90,H⟩ := H
        replace H : (if t130 = true then (if ((rd_T45 l0 x12_1).f1) < 1 then (tree_Right.j1 k1 l0 x12_1 l0 (l0.length : Int) x12_1 true ((rd_T45 l0 x12_1).f0) ((rd_T45 l0 x12_1).f1)) else (tree_Right.j1 k1 l0 x12_1 l0 (l0.length : Int) x12_1 (decide (((rd_T45 l0 x12_1).f1) > 9999)) ((rd_T45 l0 x12_1).f0) ((rd_T45 l0 x12_1).f1))) else (some 3)) = some r := H
        have A9 := Aside0.mk A90
        clear A90
        by_cases c10 : t130 = true
        ·subst c10
         have H1 : (if ((rd_T45 l0 x12_1).f1) < 1 then (tree_Right.j1 k1 l0 x12_1 l0 (l0.length : Int) x12_1 true ((rd_T45 l0 x12_1).f0) ((rd_T45 l0 x12_1).f1)) else (tree_Right.j1 k1 l0 x12_1 l0 (l0.length : Int) x12_1 (decide (((rd_T45 l0 x12_1).f1) > 9999)) ((rd_T45 l0 x12_1).f0) ((rd_T45 l0 x12_1).f1))) = some r := by rw [if_pos rfl] at H;exact H
         clear H
         have H := H1
         clear H1
         have HC11 := Aside0.mk H
         clear H
         have hcz12_0 : w7.cell? ⟨gb129,0,none⟩ = some (.string (⟨#[]⟩ : ByteArray)) := (blk_cell BK129.out 0).trans rfl
         have hcz12_1 : w7.cell? ⟨gb129,1,none⟩ = some (.int .i64 0) := (blk_cell BK129.out 1).trans rfl
         have hfz12_0 := blk_frozen BK129.out 0
         have hfz12_1 := blk_frozen BK129.out 1
         go_upto_region 8 with (first|(go_at_call 31;(with_reducible refine (glob_ValidPath.calls k1 ((rd_T45 l0 x12_1).f0) true _ A9.out).mono ?_);rintro e w13 ⟨rfl,hb⟩;have n0_ := Aside0.mk (blk_below (g := gb129) (o := .cells #[.string ((rd_T45 l0 x12_1).f0),.int .i64 ((rd_T45 l0 x12_1).f1)] 45 (0,0)) (by (with_reducible repeat (first|refine blk_drewN ?_ _|refine blk_drew ?_|refine blk_alloc ?_ _));refine blk_put (cs := #[.string ((rd_T45 l0 x12_1).f0),.int .i64 0]) ?_ 1 _ rfl;(with_reducible repeat (first|refine blk_drewN ?_ _|refine blk_drew ?_|refine blk_alloc ?_ _));refine blk_put (cs := #[.string (⟨#[]⟩ : ByteArray),.int .i64 0]) ?_ 0 _ rfl;(with_reducible repeat (first|refine blk_drewN ?_ _|refine blk_drew ?_|refine blk_alloc ?_ _));exact BK129.out) hb);have n1_ := Aside0.mk (below_step (by repeat (first|(with_reducible first|exact HB.out|apply below_alloc|apply pw_below_drewN|apply below_drew1|refine below_set ?_ GE129.out)|exact HB.out)) hb);clear BK129;clear HB;have BK129 := n0_;have HB := n1_;clear n0_ n1_;(try clear hb);(try clear hb2);(try clear hk);(try clear hi)))
         repeat (go_quiet (first|(go_at_call 31;(with_reducible refine (glob_ValidPath.calls k1 ((rd_T45 l0 x12_1).f0) true _ A9.out).mono ?_);rintro e w13 ⟨rfl,hb⟩;have n0_ := Aside0.mk (blk_below (g := gb129) (o := .cells #[.string ((rd_T45 l0 x12_1).f0),.int .i64 ((rd_T45 l0 x12_1).f1)] 45 (0,0)) (by (with_reducible repeat (first|refine blk_drewN ?_ _|refine blk_drew ?_|refine blk_alloc ?_ _));refine blk_put (cs := #[.string ((rd_T45 l0 x12_1).f0),.int .i64 0]) ?_ 1 _ rfl;(with_reducible repeat (first|refine blk_drewN ?_ _|refine blk_drew ?_|refine blk_alloc ?_ _));refine blk_put (cs := #[.string (⟨#[]⟩ : ByteArray),.int .i64 0]) ?_ 0 _ rfl;(with_reducible repeat (first|refine blk_drewN ?_ _|refine blk_drew ?_|refine blk_alloc ?_ _));exact BK129.out) hb);have n1_ := Aside0.mk (below_step (by repeat (first|(with_reducible first|exact HB.out|apply below_alloc|apply pw_below_drewN|apply below_drew1|refine below_set ?_ GE129.out)|exact HB.out)) hb);clear BK129;clear HB;have BK129 := n0_;have HB := n1_;clear n0_ n1_;(try clear hb);(try clear hb2);(try clear hk);(try clear hi)));go_upto_region 8 with (first|(go_at_call 31;(with_reducible refine (glob_ValidPath.calls k1 ((rd_T45 l0 x12_1).f0) true _ A9.out).mono ?_);rintro e w13 ⟨rfl,hb⟩;have n0_ := Aside0.mk (blk_below (g := gb129) (o := .cells #[.string ((rd_T45 l0 x12_1).f0),.int .i64 ((rd_T45 l0 x12_1).f1)] 45 (0,0)) (by (with_reducible repeat (first|refine blk_drewN ?_ _|refine blk_drew ?_|refine blk_alloc ?_ _));refine blk_put (cs := #[.string ((rd_T45 l0 x12_1).f0),.int .i64 0]) ?_ 1 _ rfl;(with_reducible repeat (first|refine blk_drewN ?_ _|refine blk_drew ?_|refine blk_alloc ?_ _));refine blk_put (cs := #[.string (⟨#[]⟩ : ByteArray),.int .i64 0]) ?_ 0 _ rfl;(with_reducible repeat (first|refine blk_drewN ?_ _|refine blk_drew ?_|refine blk_alloc ?_ _));exact BK129.out) hb);have n1_ := Aside0.mk (below_step (by repeat (first|(with_reducible first|exact HB.out|apply below_alloc|apply pw_below_drewN|apply below_drew1|refine below_set ?_ GE129.out)|exact HB.out)) hb);clear BK129;clear HB;have BK129 := n0_;have HB := n1_;clear n0_ n1_;(try clear hb);(try clear hb2);(try clear hk);(try clear hi))))
         (try simp only [Act.put,List.setIfInBounds_toArray,List.set_cons_zero,List.set_cons_succ])
         go_cut [22] (fun v22 wc => ∃ (kq : Nat) (x22_10 : Bool),v22 = .bool x22_10 ∧ Aside0 (tree_Right.j1 kq l0 x12_1 l0 (l0.length : Int) x12_1 x22_10 ((rd_T45 l0 x12_1).f0) ((rd_T45 l0 x12_1).f1) = some r) ∧ Aside0 (kq ≤ k1) ∧ Aside0 (wc.heap[gb129]? = some (.cells #[.string ((rd_T45 l0 x12_1).f0),.int .i64 ((rd_T45 l0 x12_1).f1)] 45 (0,0))) ∧ Aside0 (Below w.heap.size w wc))
         case first =>
          have H := HC11.out
          clear HC11
          by_cases c14 : ((rd_T45 l0 x12_1).f1) < 1
          ·rw [if_pos c14] at H
           have c14b0 : decide (((rd_T45 l0 x12_1).f1) < 1) = true := decide_eq_true c14
           clear c14
           (first|rw [c14b0]|(simp only [i64_w,i32_w];rw [c14b0])|rw [c14b1]|skip)
           have H' := Aside0.mk H
           clear H
           have hcz15_0 : w13.cell? ⟨gb129,0,none⟩ = some (.string ((rd_T45 l0 x12_1).f0)) := (blk_cell BK129.out 0).trans rfl
           have hcz15_1 : w13.cell? ⟨gb129,1,none⟩ = some (.int .i64 ((rd_T45 l0 x12_1).f1)) := (blk_cell BK129.out 1).trans rfl
           have hfz15_0 := blk_frozen BK129.out 0
           have hfz15_1 := blk_frozen BK129.out 1
           go_wp2
           repeat (go_quiet (fail);try go_wp2)
           go_meet
           case rel => exact ⟨_,(true),(by first|rfl|(simp;done)|(simp [*];done)),H',⟨by have := HK1.out;first|omega|exact Nat.le_refl _⟩,⟨by (with_reducible repeat (first|refine blk_drewN ?_ _|refine blk_drew ?_|refine blk_alloc ?_ _));exact BK129.out⟩,⟨by repeat (first|(with_reducible first|exact HB.out|apply below_alloc|apply pw_below_drewN|apply below_drew1|refine below_set ?_ GE129.out)|exact HB.out)⟩⟩
          ·rw [if_neg c14] at H
           have c14b0 : decide (((rd_T45 l0 x12_1).f1) < 1) = false := decide_eq_false c14
           clear c14
           (first|rw [c14b0]|(simp only [i64_w,i32_w];rw [c14b0])|rw [c14b1]|skip)
           have H' := Aside0.mk H
           clear H
           have hcz16_0 : w13.cell? ⟨gb129,0,none⟩ = some (.string ((rd_T45 l0 x12_1).f0)) := (blk_cell BK129.out 0).trans rfl
           have hcz16_1 : w13.cell? ⟨gb129,1,none⟩ = some (.int .i64 ((rd_T45 l0 x12_1).f1)) := (blk_cell BK129.out 1).trans rfl
           have hfz16_0 := blk_frozen BK129.out 0
           have hfz16_1 := blk_frozen BK129.out 1
           go_wp2
           repeat (go_quiet (fail);try go_wp2)
           go_meet
           case rel => exact ⟨_,(decide (((rd_T45 l0 x12_1).f1) > 9999)),(by first|rfl|(simp;done)|(simp [*];done)),H',⟨by have := HK1.out;first|omega|exact Nat.le_refl _⟩,⟨by (with_reducible repeat (first|refine blk_drewN ?_ _|refine blk_drew ?_|refine blk_alloc ?_ _));exact BK129.out⟩,⟨by repeat (first|(with_reducible first|exact HB.out|apply below_alloc|apply pw_below_drewN|apply below_drew1|refine below_set ?_ GE129.out)|exact HB.out)⟩⟩
         case rest =>
          clear HC11
          try clear c1
          try clear p1
          try clear q1
          try clear hx1
          try clear c2
          try clear c2b0
          try clear c2b1
          try clear p2
          try clear c3
          try clear c3b0
          try clear c4
          try clear c4b0
          try clear c5
          try clear c5b0
          try clear c10
          try clear c12
          try clear p12
          try clear q12
          try clear hx12
          try clear c14
          try clear c14b0
          try clear hcz12_0
          try clear hcz12_1
          try clear hcz15_0
          try clear hcz15_1
          try clear hcz16_0
          try clear hcz16_1
          try clear hcz8_0
          try clear hcz8_1
          try clear hfz12_0
          try clear hfz12_1
          try clear hfz15_0
          try clear hfz15_1
          try clear hfz16_0
          try clear hfz16_1
          try clear hfz8_0
          try clear hfz8_1
          try clear hx128_0
          try clear hx128_1
          try clear p128
          try clear p2
          try clear q128
          obtain ⟨kq,x22_10,rfl,HA,HJ10,BK129,HB⟩ := hcut
          cases kq with
         |zero => exact absurd HA.out (by simp [tree_Right.j1])
         |succ kj10 =>
           have H := HA.out
           clear HA
           simp only [tree_Right.j1] at H
           by_cases c17 : x22_10 = true
           ·subst c17
            have H1 : (some 2) = some r := by rw [if_pos rfl] at H;exact H
            clear H
            have H := H1
            clear H1
            obtain rfl := Option.some.inj H
            go_wp2
            repeat (go_quiet (fail);try go_wp2)
            go_ret
            exact ⟨by first|rfl|(simp [errW_none,errW_some] <;> rfl)|(simp [*,errW_none,errW_some] <;> rfl),by repeat (first|(with_reducible first|exact HB.out|apply below_alloc|apply pw_below_drewN|apply below_drew1|refine below_set ?_ GE129.out)|exact HB.out)⟩
           ·replace c17 := Bool.eq_false_iff.mpr c17
            subst c17
            have H1 : (if x12_1 > 0 then (if 0 ≤ (wrap64 (x12_1 - 1)) then (if (wrap64 (x12_1 - 1)) < (l0.length : Int) then (if ((Op.bytesLess (((rd_T45 l0 (wrap64 (x12_1 - 1))).f0).toList) ((rd_T45 l0 x12_1).f0).toList) = true) then (tree_Right.j2 kj10 l0 x12_1 l0 (l0.length : Int) x12_1 ((rd_T45 l0 x12_1).f0) ((rd_T45 l0 x12_1).f1)) else (some 7)) else (none)) else (none)) else (tree_Right.j2 kj10 l0 x12_1 l0 (l0.length : Int) x12_1 ((rd_T45 l0 x12_1).f0) ((rd_T45 l0 x12_1).f1))) = some r := by rw [if_neg (show ¬ (false = true) by decide)] at H;exact H
            clear H
            have H := H1
            clear H1
            by_cases c18 : x12_1 > 0
            ·rw [if_pos c18] at H
             have c18b0 : decide (0 < x12_1) = true := decide_eq_true c18
             clear c18
             obtain ⟨ji19,hji19⟩ : ∃ j_ : Int,(wrap64 (x12_1 - 1)) = j_ := ⟨_,rfl⟩
             replace H : (if 0 ≤ (ji19) then (if (ji19) < (l0.length : Int) then (if ((Op.bytesLess (((rd_T45 l0 (ji19)).f0).toList) ((rd_T45 l0 x12_1).f0).toList) = true) then (tree_Right.j2 kj10 l0 x12_1 l0 (l0.length : Int) x12_1 ((rd_T45 l0 x12_1).f0) ((rd_T45 l0 x12_1).f1)) else (some 7)) else (none)) else (none)) = some r := by first|(rw [hji19] at H;exact H)|(simp only [hji19] at H ⊢;exact H)
             have hji19w : (IntKind.i64.wrap (x12_1 - 1)) = ji19 := (i64_w _).trans hji19
             by_cases c20 : 0 ≤ (ji19)
             ·rw [if_pos c20] at H
              have c20b0 : decide (0 ≤ (ji19)) = true := decide_eq_true c20
              clear c20
              by_cases c21 : (ji19) < (l0.length : Int)
              ·rw [if_pos c21] at H
               have c21b0 : decide ((ji19) < (l0.length : Int)) = true := decide_eq_true c21
               clear c21
               by_cases c22 : ((Op.bytesLess (((rd_T45 l0 (ji19)).f0).toList) ((rd_T45 l0 x12_1).f0).toList) = true)
               ·rw [if_pos c22] at H
                have c22b0 : (Op.bytesLess (((rd_T45 l0 (ji19)).f0).toList) ((rd_T45 l0 x12_1).f0).toList) = true := c22
                clear c22
                have H' := Aside0.mk H
                clear H
                have hcz23_0 : wc.cell? ⟨gb129,0,none⟩ = some (.string ((rd_T45 l0 x12_1).f0)) := (blk_cell BK129.out 0).trans rfl
                have hcz23_1 : wc.cell? ⟨gb129,1,none⟩ = some (.int .i64 ((rd_T45 l0 x12_1).f1)) := (blk_cell BK129.out 1).trans rfl
                have hfz23_0 := blk_frozen BK129.out 0
                have hfz23_1 := blk_frozen BK129.out 1
                have p131 : 0 ≤ ((ji19) : Int) := of_decide_eq_true (by first|(with_reducible assumption)|assumption)
                have q131 : (ji19) < (l0.length : Int) := of_decide_eq_true (by first|(with_reducible assumption)|assumption)
                obtain ⟨ad131,e131,hx131_0,hx131_1⟩ := at_T45 HR0.out (ji19) p131 q131
                obtain rfl : ad128 = ad131 := (by injection e131)
                replace hx131_0 := (HB.out.cell (World.block_lt_of_cell? w _ hx131_0)).trans hx131_0
                replace hx131_1 := (HB.out.cell (World.block_lt_of_cell? w _ hx131_1)).trans hx131_1
                replace p131 := eq_true p131
                replace q131 := eq_true q131
                go_wp2
                repeat (go_quiet (fail);try go_wp2)
                go_meet
                case rel => exact ⟨_,H',⟨by have := HK1.out;have := HJ10.out;first|omega|exact Nat.le_refl _⟩,⟨by (with_reducible repeat (first|refine blk_drewN ?_ _|refine blk_drew ?_|refine blk_alloc ?_ _));exact BK129.out⟩,⟨by repeat (first|(with_reducible first|exact HB.out|apply below_alloc|apply pw_below_drewN|apply below_drew1|refine below_set ?_ GE129.out)|exact HB.out)⟩⟩
               ·rw [if_neg c22] at H
                have c22b0 : (Op.bytesLess (((rd_T45 l0 (ji19)).f0).toList) ((rd_T45 l0 x12_1).f0).toList) = false := by simpa using c22
                clear c22
                obtain rfl := Option.some.inj H
                have hcz24_0 : wc.cell? ⟨gb129,0,none⟩ = some (.string ((rd_T45 l0 x12_1).f0)) := (blk_cell BK129.out 0).trans rfl
                have hcz24_1 : wc.cell? ⟨gb129,1,none⟩ = some (.int .i64 ((rd_T45 l0 x12_1).f1)) := (blk_cell BK129.out 1).trans rfl
                have hfz24_0 := blk_frozen BK129.out 0
                have hfz24_1 := blk_frozen BK129.out 1
                have p131 : 0 ≤ ((ji19) : Int) := of_decide_eq_true (by first|(with_reducible assumption)|assumption)
                have q131 : (ji19) < (l0.length : Int) := of_decide_eq_true (by first|(with_reducible assumption)|assumption)
                obtain ⟨ad131,e131,hx131_0,hx131_1⟩ := at_T45 HR0.out (ji19) p131 q131
                obtain rfl : ad128 = ad131 := (by injection e131)
                replace hx131_0 := (HB.out.cell (World.block_lt_of_cell? w _ hx131_0)).trans hx131_0
                replace hx131_1 := (HB.out.cell (World.block_lt_of_cell? w _ hx131_1)).trans hx131_1
                replace p131 := eq_true p131
                replace q131 := eq_true q131
                go_wp2
                repeat (go_quiet (fail);try go_wp2)
                go_ret
                exact ⟨by first|rfl|(simp [errW_none,errW_some] <;> rfl)|(simp only [← hji19];first|rfl|(simp [errW_none,errW_some] <;> rfl))|(simp [*,errW_none,errW_some] <;> rfl),by repeat (first|(with_reducible first|exact HB.out|apply below_alloc|apply pw_below_drewN|apply below_drew1|refine below_set ?_ GE129.out)|exact HB.out)⟩
              ·rw [if_neg c21] at H
               exact absurd H (by simp)
             ·rw [if_neg c20] at H
              exact absurd H (by simp)
            ·rw [if_neg c18] at H
             have c18b0 : decide (0 < x12_1) = false := decide_eq_false c18
             clear c18
             have H' := Aside0.mk H
             clear H
             go_wp2
             repeat (go_quiet (fail);try go_wp2)
             go_meet
             case rel => exact ⟨_,H',⟨by have := HK1.out;have := HJ10.out;first|omega|exact Nat.le_refl _⟩,⟨by (with_reducible repeat (first|refine blk_drewN ?_ _|refine blk_drew ?_|refine blk_alloc ?_ _));exact BK129.out⟩,⟨by repeat (first|(with_reducible first|exact HB.out|apply below_alloc|apply pw_below_drewN|apply below_drew1|refine below_set ?_ GE129.out)|exact HB.out)⟩⟩
        ·replace c10 := Bool.eq_false_iff.mpr c10
         subst c10
         have H1 : (some 3) = some r := by rw [if_neg (show ¬ (false = true) by decide)] at H;exact H
         clear H
         have H := H1
         clear H1
         obtain rfl := Option.some.inj H
         have hcz25_0 : w7.cell? ⟨gb129,0,none⟩ = some (.string (⟨#[]⟩ : ByteArray)) := (blk_cell BK129.out 0).trans rfl
         have hcz25_1 : w7.cell? ⟨gb129,1,none⟩ = some (.int .i64 0) := (blk_cell BK129.out 1).trans rfl
         have hfz25_0 := blk_frozen BK129.out 0
         have hfz25_1 := blk_frozen BK129.out 1
         go_wp2_with (first|(go_at_call 31;(with_reducible refine (glob_ValidPath.calls k1 ((rd_T45 l0 x12_1).f0) false _ A9.out).mono ?_);rintro e w26 ⟨rfl,hb⟩;have n0_ := Aside0.mk (blk_below (g := gb129) (o := .cells #[.string ((rd_T45 l0 x12_1).f0),.int .i64 ((rd_T45 l0 x12_1).f1)] 45 (0,0)) (by (with_reducible repeat (first|refine blk_drewN ?_ _|refine blk_drew ?_|refine blk_alloc ?_ _));refine blk_put (cs := #[.string ((rd_T45 l0 x12_1).f0),.int .i64 0]) ?_ 1 _ rfl;(with_reducible repeat (first|refine blk_drewN ?_ _|refine blk_drew ?_|refine blk_alloc ?_ _));refine blk_put (cs := #[.string (⟨#[]⟩ : ByteArray),.int .i64 0]) ?_ 0 _ rfl;(with_reducible repeat (first|refine blk_drewN ?_ _|refine blk_drew ?_|refine blk_alloc ?_ _));exact BK129.out) hb);have n1_ := Aside0.mk (below_step (by repeat (first|(with_reducible first|exact HB.out|apply below_alloc|apply pw_below_drewN|apply below_drew1|refine below_set ?_ GE129.out)|exact HB.out)) hb);clear BK129;clear HB;have BK129 := n0_;have HB := n1_;clear n0_ n1_;(try clear hb);(try clear hb2);(try clear hk);(try clear hi)))
         repeat (go_quiet (first|(go_at_call 31;(with_reducible refine (glob_ValidPath.calls k1 ((rd_T45 l0 x12_1).f0) false _ A9.out).mono ?_);rintro e w26 ⟨rfl,hb⟩;have n0_ := Aside0.mk (blk_below (g := gb129) (o := .cells #[.string ((rd_T45 l0 x12_1).f0),.int .i64 ((rd_T45 l0 x12_1).f1)] 45 (0,0)) (by (with_reducible repeat (first|refine blk_drewN ?_ _|refine blk_drew ?_|refine blk_alloc ?_ _));refine blk_put (cs := #[.string ((rd_T45 l0 x12_1).f0),.int .i64 0]) ?_ 1 _ rfl;(with_reducible repeat (first|refine blk_drewN ?_ _|refine blk_drew ?_|refine blk_alloc ?_ _));refine blk_put (cs := #[.string (⟨#[]⟩ : ByteArray),.int .i64 0]) ?_ 0 _ rfl;(with_reducible repeat (first|refine blk_drewN ?_ _|refine blk_drew ?_|refine blk_alloc ?_ _));exact BK129.out) hb);have n1_ := Aside0.mk (below_step (by repeat (first|(with_reducible first|exact HB.out|apply below_alloc|apply pw_below_drewN|apply below_drew1|refine below_set ?_ GE129.out)|exact HB.out)) hb);clear BK129;clear HB;have BK129 := n0_;have HB := n1_;clear n0_ n1_;(try clear hb);(try clear hb2);(try clear hk);(try clear hi)));try go_wp2_with (first|(go_at_call 31;(with_reducible refine (glob_ValidPath.calls k1 ((rd_T45 l0 x12_1).f0) false _ A9.out).mono ?_);rintro e w26 ⟨rfl,hb⟩;have n0_ := Aside0.mk (blk_below (g := gb129) (o := .cells #[.string ((rd_T45 l0 x12_1).f0),.int .i64 ((rd_T45 l0 x12_1).f1)] 45 (0,0)) (by (with_reducible repeat (first|refine blk_drewN ?_ _|refine blk_drew ?_|refine blk_alloc ?_ _));refine blk_put (cs := #[.string ((rd_T45 l0 x12_1).f0),.int .i64 0]) ?_ 1 _ rfl;(with_reducible repeat (first|refine blk_drewN ?_ _|refine blk_drew ?_|refine blk_alloc ?_ _));refine blk_put (cs := #[.string (⟨#[]⟩ : ByteArray),.int .i64 0]) ?_ 0 _ rfl;(with_reducible repeat (first|refine blk_drewN ?_ _|refine blk_drew ?_|refine blk_alloc ?_ _));exact BK129.out) hb);have n1_ := Aside0.mk (below_step (by repeat (first|(with_reducible first|exact HB.out|apply below_alloc|apply pw_below_drewN|apply below_drew1|refine below_set ?_ GE129.out)|exact HB.out)) hb);clear BK129;clear HB;have BK129 := n0_;have HB := n1_;clear n0_ n1_;(try clear hb);(try clear hb2);(try clear hk);(try clear hi))))
         go_ret
         exact ⟨by first|rfl|(simp [errW_none,errW_some] <;> rfl)|(simp [*,errW_none,errW_some] <;> rfl),by repeat (first|(with_reducible first|exact HB.out|apply below_alloc|apply pw_below_drewN|apply below_drew1|refine below_set ?_ GE129.out)|exact HB.out)⟩
       case rest =>
        clear HC6
        try clear c1
        try clear p1
        try clear q1
        try clear hx1
        try clear c2
        try clear c2b0
        try clear c2b1
        try clear p2
        try clear c3
        try clear c3b0
        try clear c4
        try clear c4b0
        try clear c5
        try clear c5b0
        try clear p6
        try clear c10
        try clear c12
        try clear p12
        try clear q12
        try clear hx12
        try clear p13
        try clear q13
        try clear hx13
        try clear c14
        try clear c14b0
        try clear c17
        try clear c18
        try clear c18b0
        try clear c20
        try clear c20b0
        try clear c21
        try clear c21b0
        try clear c22
        try clear c22b0
        try clear hcz12_0
        try clear hcz12_1
        try clear hcz15_0
        try clear hcz15_1
        try clear hcz16_0
        try clear hcz16_1
        try clear hcz23_0
        try clear hcz23_1
        try clear hcz24_0
        try clear hcz24_1
        try clear hcz25_0
        try clear hcz25_1
        try clear hcz8_0
        try clear hcz8_1
        try clear hfz12_0
        try clear hfz12_1
        try clear hfz15_0
        try clear hfz15_1
        try clear hfz16_0
        try clear hfz16_1
        try clear hfz23_0
        try clear hfz23_1
        try clear hfz24_0
        try clear hfz24_1
        try clear hfz25_0
        try clear hfz25_1
        try clear hfz8_0
        try clear hfz8_1
        try clear hx128_0
        try clear hx128_1
        try clear hx131_0
        try clear hx131_1
        try clear p1
        try clear p12
        try clear p128
        try clear p131
        try clear p2
        try clear q1
        try clear q12
        try clear q128
        try clear q131
        obtain ⟨kq,HA,HJ5,BK129,HB⟩ := hcut
        cases kq with
       |zero => exact absurd HA.out (by simp [tree_Right.j2])
       |succ kj5 =>
         have H := HA.out
         clear HA
         simp only [tree_Right.j2] at H
         have H' := Aside0.mk H
         clear H
         go_wp2
         repeat (go_quiet (fail);try go_wp2)
         go_loopg [47] kj5 (fun kq v47 w' => ∃ (x47_3 : Int),v47 = .int .i64 x47_3 ∧ Aside0 (tree_Right.l1 kq l0 x12_1 l0 (l0.length : Int) x12_1 l0 (l0.length : Int) x47_3 ((rd_T45 l0 x12_1).f0) ((rd_T45 l0 x12_1).f1) = some r) ∧ Aside0 (kq ≤ kj5) ∧ Aside0 (w'.heap[gb129]? = some (.cells #[.string ((rd_T45 l0 x12_1).f0),.int .i64 ((rd_T45 l0 x12_1).f1)] 45 (0,0))) ∧ Aside0 (Below w.heap.size w w'))
         case atStart => exact ⟨(0),(by first|rfl|(simp;done)|(simp [*];done)),H',⟨Nat.le_refl _⟩,⟨by (with_reducible repeat (first|refine blk_drewN ?_ _|refine blk_drew ?_|refine blk_alloc ?_ _));exact BK129.out⟩,⟨by repeat (first|(with_reducible first|exact HB.out|apply below_alloc|apply pw_below_drewN|apply below_drew1|refine below_set ?_ GE129.out)|exact HB.out)⟩⟩
         case round =>
          clear H'
          try clear c1
          try clear p1
          try clear q1
          try clear hx1
          try clear c2
          try clear c2b0
          try clear c2b1
          try clear p2
          try clear c3
          try clear c3b0
          try clear c4
          try clear c4b0
          try clear c5
          try clear c5b0
          try clear p6
          try clear c10
          try clear c12
          try clear p12
          try clear q12
          try clear hx12
          try clear p13
          try clear q13
          try clear hx13
          try clear c14
          try clear c14b0
          try clear c17
          try clear c18
          try clear c18b0
          try clear c20
          try clear c20b0
          try clear c21
          try clear c21b0
          try clear c22
          try clear c22b0
          try clear hcz12_0
          try clear hcz12_1
          try clear hcz15_0
          try clear hcz15_1
          try clear hcz16_0
          try clear hcz16_1
          try clear hcz23_0
          try clear hcz23_1
          try clear hcz24_0
          try clear hcz24_1
          try clear hcz25_0
          try clear hcz25_1
          try clear hcz8_0
          try clear hcz8_1
          try clear hfz12_0
          try clear hfz12_1
          try clear hfz15_0
          try clear hfz15_1
          try clear hfz16_0
          try clear hfz16_1
          try clear hfz23_0
          try clear hfz23_1
          try clear hfz24_0
          try clear hfz24_1
          try clear hfz25_0
          try clear hfz25_1
          try clear hfz8_0
          try clear hfz8_1
          try clear hx128_0
          try clear hx128_1
          try clear hx131_0
          try clear hx131_1
          try clear p1
          try clear p12
          try clear p128
          try clear p13
          try clear p131
          try clear p2
          try clear p6
          try clear q1
          try clear q12
          try clear q128
          try clear q13
          try clear q131
          obtain ⟨x47_3,rfl,HA,HK3,BK129,HB⟩ := hrel
          cases gk with
         |zero => exact absurd HA.out (by simp [tree_Right.l1])
         |succ k3 =>
           have H := HA.out
           clear HA
           simp only [tree_Right.l1] at H
           by_cases c27 : x47_3 < (l0.length : Int)
           ·rw [if_pos c27] at H
            have c27b0 : decide (x47_3 < (l0.length : Int)) = true := decide_eq_true c27
            clear c27
            by_cases c28 : 0 ≤ x47_3
            ·rw [if_pos c28] at H
             have c28b0 : decide (0 ≤ x47_3) = true := decide_eq_true c28
             clear c28
             by_cases c29 : x47_3 < (l0.length : Int)
             ·rw [if_pos c29] at H
              have c29b0 : decide (x47_3 < (l0.length : Int)) = true := decide_eq_true c29
              clear c29
              by_cases c30 : x47_3 = x12_1
              ·rw [if_pos c30] at H
               have c30b0 : (x47_3 == x12_1) = true := beq_iff_eq.mpr c30
               have c30b1 : (x47_3 != x12_1) = false := bne_eq_false_iff_eq.mpr c30
               clear c30
               have H' := Aside0.mk H
               clear H
               have p132 : 0 ≤ (x47_3 : Int) := of_decide_eq_true (by first|(with_reducible assumption)|assumption)
               have q132 : x47_3 < (l0.length : Int) := of_decide_eq_true (by first|(with_reducible assumption)|assumption)
               obtain ⟨ad132,e132,hx132_0,hx132_1⟩ := at_T45 HR0.out x47_3 p132 q132
               obtain rfl : ad128 = ad132 := (by injection e132)
               replace hx132_0 := (HB.out.cell (World.block_lt_of_cell? w _ hx132_0)).trans hx132_0
               replace hx132_1 := (HB.out.cell (World.block_lt_of_cell? w _ hx132_1)).trans hx132_1
               replace p132 := eq_true p132
               replace q132 := eq_true q132
               go_wp2_with (first|((with_reducible refine gate_dst (N := 6) rfl ?_);refine box_event ?hg (N := 6) ?hd (cs := #[.string (⟨#[]⟩ : ByteArray),.int .i64 0]) (t := 45) ?hr ?_;(case hd => rfl);(case hg => rfl);(case hr => first|(go_simp;done)|(go_simp;rfl));intro gb133 hg w31 hbox hb;have n0_ := Aside0.mk (blk_below (g := gb129) (o := .cells #[.string ((rd_T45 l0 x12_1).f0),.int .i64 ((rd_T45 l0 x12_1).f1)] 45 (0,0)) (by (with_reducible repeat (first|refine blk_drewN ?_ _|refine blk_drew ?_|refine blk_alloc ?_ _));exact BK129.out) hb);have n1_ := Aside0.mk (below_step (by repeat (first|(with_reducible first|exact HB.out|apply below_alloc|apply pw_below_drewN|apply below_drew1|refine below_set ?_ GE129.out)|exact HB.out)) hb);have n2_ := Aside0.mk (hbox);have n3_ := Aside0.mk ((by rw [hg];exact (below_size (by repeat (first|(with_reducible first|exact HB.out|apply below_alloc|apply pw_below_drewN|apply below_drew1|refine below_set ?_ GE129.out)|exact HB.out))) : w.heap.size ≤ gb133));have n4_ := Aside0.mk ((by rw [hg];exact (below_size (by repeat (first|(with_reducible first|exact HB.out|apply below_alloc|apply pw_below_drewN|apply below_drew1|refine below_set ?_ GE129.out)|exact HB.out))) : w.heap.size ≤ gb133));have n5_ := Aside0.mk ((by rw [hg];exact Nat.ne_of_lt (blk_lt (g := gb129) (o := .cells #[.string ((rd_T45 l0 x12_1).f0),.int .i64 ((rd_T45 l0 x12_1).f1)] 45 (0,0)) (by (with_reducible repeat (first|refine blk_drewN ?_ _|refine blk_drew ?_|refine blk_alloc ?_ _));exact BK129.out)) : gb129 ≠ gb133));have n6_ := Aside0.mk ((by rw [hg];exact Nat.ne_of_gt (blk_lt (g := gb129) (o := .cells #[.string ((rd_T45 l0 x12_1).f0),.int .i64 ((rd_T45 l0 x12_1).f1)] 45 (0,0)) (by (with_reducible repeat (first|refine blk_drewN ?_ _|refine blk_drew ?_|refine blk_alloc ?_ _));exact BK129.out)) : gb133 ≠ gb129));clear BK129;clear HB;have BK129 := n0_;have HB := n1_;have BK133 := n2_;have GW133 := n3_;have GE133 := n4_;have NB129_133 := n5_;have NB133_129 := n6_;clear n0_ n1_ n2_ n3_ n4_ n5_ n6_;clear hb hbox hg;have hnb32 := NB133_129.out;have hnc32 := NB129_133.out;have hcz33_0 : w31.cell? ⟨gb133,0,none⟩ = some (.string (⟨#[]⟩ : ByteArray)) := (blk_cell BK133.out 0).trans rfl;have hcz33_1 : w31.cell? ⟨gb133,1,none⟩ = some (.int .i64 0) := (blk_cell BK133.out 1).trans rfl;have hfz33_0 := blk_frozen BK133.out 0;have hfz33_1 := blk_frozen BK133.out 1))
               repeat (go_quiet (first|((with_reducible refine gate_dst (N := 6) rfl ?_);refine box_event ?hg (N := 6) ?hd (cs := #[.string (⟨#[]⟩ : ByteArray),.int .i64 0]) (t := 45) ?hr ?_;(case hd => rfl);(case hg => rfl);(case hr => first|(go_simp;done)|(go_simp;rfl));intro gb133 hg w31 hbox hb;have n0_ := Aside0.mk (blk_below (g := gb129) (o := .cells #[.string ((rd_T45 l0 x12_1).f0),.int .i64 ((rd_T45 l0 x12_1).f1)] 45 (0,0)) (by (with_reducible repeat (first|refine blk_drewN ?_ _|refine blk_drew ?_|refine blk_alloc ?_ _));exact BK129.out) hb);have n1_ := Aside0.mk (below_step (by repeat (first|(with_reducible first|exact HB.out|apply below_alloc|apply pw_below_drewN|apply below_drew1|refine below_set ?_ GE129.out)|exact HB.out)) hb);have n2_ := Aside0.mk (hbox);have n3_ := Aside0.mk ((by rw [hg];exact (below_size (by repeat (first|(with_reducible first|exact HB.out|apply below_alloc|apply pw_below_drewN|apply below_drew1|refine below_set ?_ GE129.out)|exact HB.out))) : w.heap.size ≤ gb133));have n4_ := Aside0.mk ((by rw [hg];exact (below_size (by repeat (first|(with_reducible first|exact HB.out|apply below_alloc|apply pw_below_drewN|apply below_drew1|refine below_set ?_ GE129.out)|exact HB.out))) : w.heap.size ≤ gb133));have n5_ := Aside0.mk ((by rw [hg];exact Nat.ne_of_lt (blk_lt (g := gb129) (o := .cells #[.string ((rd_T45 l0 x12_1).f0),.int .i64 ((rd_T45 l0 x12_1).f1)] 45 (0,0)) (by (with_reducible repeat (first|refine blk_drewN ?_ _|refine blk_drew ?_|refine blk_alloc ?_ _));exact BK129.out)) : gb129 ≠ gb133));have n6_ := Aside0.mk ((by rw [hg];exact Nat.ne_of_gt (blk_lt (g := gb129) (o := .cells #[.string ((rd_T45 l0 x12_1).f0),.int .i64 ((rd_T45 l0 x12_1).f1)] 45 (0,0)) (by (with_reducible repeat (first|refine blk_drewN ?_ _|refine blk_drew ?_|refine blk_alloc ?_ _));exact BK129.out)) : gb133 ≠ gb129));clear BK129;clear HB;have BK129 := n0_;have HB := n1_;have BK133 := n2_;have GW133 := n3_;have GE133 := n4_;have NB129_133 := n5_;have NB133_129 := n6_;clear n0_ n1_ n2_ n3_ n4_ n5_ n6_;clear hb hbox hg;have hnb32 := NB133_129.out;have hnc32 := NB129_133.out;have hcz33_0 : w31.cell? ⟨gb133,0,none⟩ = some (.string (⟨#[]⟩ : ByteArray)) := (blk_cell BK133.out 0).trans rfl;have hcz33_1 : w31.cell? ⟨gb133,1,none⟩ = some (.int .i64 0) := (blk_cell BK133.out 1).trans rfl;have hfz33_0 := blk_frozen BK133.out 0;have hfz33_1 := blk_frozen BK133.out 1));try go_wp2_with (first|((with_reducible refine gate_dst (N := 6) rfl ?_);refine box_event ?hg (N := 6) ?hd (cs := #[.string (⟨#[]⟩ : ByteArray),.int .i64 0]) (t := 45) ?hr ?_;(case hd => rfl);(case hg => rfl);(case hr => first|(go_simp;done)|(go_simp;rfl));intro gb133 hg w31 hbox hb;have n0_ := Aside0.mk (blk_below (g := gb129) (o := .cells #[.string ((rd_T45 l0 x12_1).f0),.int .i64 ((rd_T45 l0 x12_1).f1)] 45 (0,0)) (by (with_reducible repeat (first|refine blk_drewN ?_ _|refine blk_drew ?_|refine blk_alloc ?_ _));exact BK129.out) hb);have n1_ := Aside0.mk (below_step (by repeat (first|(with_reducible first|exact HB.out|apply below_alloc|apply pw_below_drewN|apply below_drew1|refine below_set ?_ GE129.out)|exact HB.out)) hb);have n2_ := Aside0.mk (hbox);have n3_ := Aside0.mk ((by rw [hg];exact (below_size (by repeat (first|(with_reducible first|exact HB.out|apply below_alloc|apply pw_below_drewN|apply below_drew1|refine below_set ?_ GE129.out)|exact HB.out))) : w.heap.size ≤ gb133));have n4_ := Aside0.mk ((by rw [hg];exact (below_size (by repeat (first|(with_reducible first|exact HB.out|apply below_alloc|apply pw_below_drewN|apply below_drew1|refine below_set ?_ GE129.out)|exact HB.out))) : w.heap.size ≤ gb133));have n5_ := Aside0.mk ((by rw [hg];exact Nat.ne_of_lt (blk_lt (g := gb129) (o := .cells #[.string ((rd_T45 l0 x12_1).f0),.int .i64 ((rd_T45 l0 x12_1).f1)] 45 (0,0)) (by (with_reducible repeat (first|refine blk_drewN ?_ _|refine blk_drew ?_|refine blk_alloc ?_ _));exact BK129.out)) : gb129 ≠ gb133));have n6_ := Aside0.mk ((by rw [hg];exact Nat.ne_of_gt (blk_lt (g := gb129) (o := .cells #[.string ((rd_T45 l0 x12_1).f0),.int .i64 ((rd_T45 l0 x12_1).f1)] 45 (0,0)) (by (with_reducible repeat (first|refine blk_drewN ?_ _|refine blk_drew ?_|refine blk_alloc ?_ _));exact BK129.out)) : gb133 ≠ gb129));clear BK129;clear HB;have BK129 := n0_;have HB := n1_;have BK133 := n2_;have GW133 := n3_;have GE133 := n4_;have NB129_133 := n5_;have NB133_129 := n6_;clear n0_ n1_ n2_ n3_ n4_ n5_ n6_;clear hb hbox hg;have hnb32 := NB133_129.out;have hnc32 := NB129_133.out;have hcz33_0 : w31.cell? ⟨gb133,0,none⟩ = some (.string (⟨#[]⟩ : ByteArray)) := (blk_cell BK133.out 0).trans rfl;have hcz33_1 : w31.cell? ⟨gb133,1,none⟩ = some (.int .i64 0) := (blk_cell BK133.out 1).trans rfl;have hfz33_0 := blk_frozen BK133.out 0;have hfz33_1 := blk_frozen BK133.out 1)))
               go_roundg k3
               case measure => have := HK1.out;have := HJ5.out;have := HK3.out;omega
               case rel => exact ⟨(wrap64 (x47_3 + 1)),(by first|rfl|(simp;done)|(simp [*];done)),H',⟨by have := HK1.out;have := HJ5.out;have := HK3.out;omega⟩,⟨by (with_reducible repeat (first|refine blk_drewN ?_ _|refine blk_drew ?_|refine blk_alloc ?_ _));refine blk_far ?_ NB129_133.out _;(with_reducible repeat (first|refine blk_drewN ?_ _|refine blk_drew ?_|refine blk_alloc ?_ _));refine blk_far ?_ NB129_133.out _;(with_reducible repeat (first|refine blk_drewN ?_ _|refine blk_drew ?_|refine blk_alloc ?_ _));exact BK129.out⟩,⟨by repeat (first|(with_reducible first|exact HB.out|apply below_alloc|apply pw_below_drewN|apply below_drew1|refine below_set ?_ GE129.out|refine below_set ?_ GE133.out)|exact HB.out)⟩⟩
              ·rw [if_neg c30] at H
               have c30b0 : (x47_3 == x12_1) = false := beq_eq_false_iff_ne.mpr c30
               have c30b1 : (x47_3 != x12_1) = true := bne_iff_ne.mpr c30
               replace H := Option.bind_eq_some_iff.mp H
               obtain ⟨t134,A340,H⟩ := H
               replace H : (if t134 = true then (some 14) else (tree_Right.l1 k3 l0 x12_1 l0 (l0.length : Int) x12_1 l0 (l0.length : Int) (wrap64 (x47_3 + 1)) ((rd_T45 l0 x12_1).f0) ((rd_T45 l0 x12_1).f1))) = some r := H
               have A34 := Aside0.mk A340
               clear A340
               by_cases c35 : t134 = true
               ·subst c35
                have H1 : (some 14) = some r := by rw [if_pos rfl] at H;exact H
                clear H
                have H := H1
                clear H1
                obtain rfl := Option.some.inj H
                have p132 : 0 ≤ (x47_3 : Int) := of_decide_eq_true (by first|(with_reducible assumption)|assumption)
                have q132 : x47_3 < (l0.length : Int) := of_decide_eq_true (by first|(with_reducible assumption)|assumption)
                obtain ⟨ad132,e132,hx132_0,hx132_1⟩ := at_T45 HR0.out x47_3 p132 q132
                obtain rfl : ad128 = ad132 := (by injection e132)
                replace hx132_0 := (HB.out.cell (World.block_lt_of_cell? w _ hx132_0)).trans hx132_0
                replace hx132_1 := (HB.out.cell (World.block_lt_of_cell? w _ hx132_1)).trans hx132_1
                replace p132 := eq_true p132
                replace q132 := eq_true q132
                go_wp2_with (first|((with_reducible refine gate_dst (N := 6) rfl ?_);refine box_event ?hg (N := 6) ?hd (cs := #[.string (⟨#[]⟩ : ByteArray),.int .i64 0]) (t := 45) ?hr ?_;(case hd => rfl);(case hg => rfl);(case hr => first|(go_simp;done)|(go_simp;rfl));intro gb133 hg w36 hbox hb;have n0_ := Aside0.mk (blk_below (g := gb129) (o := .cells #[.string ((rd_T45 l0 x12_1).f0),.int .i64 ((rd_T45 l0 x12_1).f1)] 45 (0,0)) (by (with_reducible repeat (first|refine blk_drewN ?_ _|refine blk_drew ?_|refine blk_alloc ?_ _));exact BK129.out) hb);have n1_ := Aside0.mk (below_step (by repeat (first|(with_reducible first|exact HB.out|apply below_alloc|apply pw_below_drewN|apply below_drew1|refine below_set ?_ GE129.out)|exact HB.out)) hb);have n2_ := Aside0.mk (hbox);have n3_ := Aside0.mk ((by rw [hg];exact (below_size (by repeat (first|(with_reducible first|exact HB.out|apply below_alloc|apply pw_below_drewN|apply below_drew1|refine below_set ?_ GE129.out)|exact HB.out))) : w.heap.size ≤ gb133));have n4_ := Aside0.mk ((by rw [hg];exact (below_size (by repeat (first|(with_reducible first|exact HB.out|apply below_alloc|apply pw_below_drewN|apply below_drew1|refine below_set ?_ GE129.out)|exact HB.out))) : w.heap.size ≤ gb133));have n5_ := Aside0.mk ((by rw [hg];exact Nat.ne_of_lt (blk_lt (g := gb129) (o := .cells #[.string ((rd_T45 l0 x12_1).f0),.int .i64 ((rd_T45 l0 x12_1).f1)] 45 (0,0)) (by (with_reducible repeat (first|refine blk_drewN ?_ _|refine blk_drew ?_|refine blk_alloc ?_ _));exact BK129.out)) : gb129 ≠ gb133));have n6_ := Aside0.mk ((by rw [hg];exact Nat.ne_of_gt (blk_lt (g := gb129) (o := .cells #[.string ((rd_T45 l0 x12_1).f0),.int .i64 ((rd_T45 l0 x12_1).f1)] 45 (0,0)) (by (with_reducible repeat (first|refine blk_drewN ?_ _|refine blk_drew ?_|refine blk_alloc ?_ _));exact BK129.out)) : gb133 ≠ gb129));clear BK129;clear HB;have BK129 := n0_;have HB := n1_;have BK133 := n2_;have GW133 := n3_;have GE133 := n4_;have NB129_133 := n5_;have NB133_129 := n6_;clear n0_ n1_ n2_ n3_ n4_ n5_ n6_;clear hb hbox hg;have hnb37 := NB133_129.out;have hnc37 := NB129_133.out;have hcz38_0 : w36.cell? ⟨gb133,0,none⟩ = some (.string (⟨#[]⟩ : ByteArray)) := (blk_cell BK133.out 0).trans rfl;have hcz38_1 : w36.cell? ⟨gb133,1,none⟩ = some (.int .i64 0) := (blk_cell BK133.out 1).trans rfl;have hfz38_0 := blk_frozen BK133.out 0;have hfz38_1 := blk_frozen BK133.out 1;have hcz39_0 : w36.cell? ⟨gb129,0,none⟩ = some (.string ((rd_T45 l0 x12_1).f0)) := (blk_cell BK129.out 0).trans rfl;have hcz39_1 : w36.cell? ⟨gb129,1,none⟩ = some (.int .i64 ((rd_T45 l0 x12_1).f1)) := (blk_cell BK129.out 1).trans rfl;have hfz39_0 := blk_frozen BK129.out 0;have hfz39_1 := blk_frozen BK129.out 1)|(go_at_call 32;(with_reducible refine (glob_Under.calls ((rd_T45 l0 x12_1).f0) ((rd_T45 l0 x47_3).f0) true _ A34.out).mono ?_);rintro e w' ⟨rfl,⟨nd,rfl⟩⟩;(try first|exact ⟨rfl,_,World.drewN_drewN _ _ _⟩|exact ⟨rfl,_,Eq.trans (World.drewN_drewN _ _ _) (congrArg (World.drewN _) (Nat.add_assoc _ _ _))⟩)))
                repeat (go_quiet (first|((with_reducible refine gate_dst (N := 6) rfl ?_);refine box_event ?hg (N := 6) ?hd (cs := #[.string (⟨#[]⟩ : ByteArray),.int .i64 0]) (t := 45) ?hr ?_;(case hd => rfl);(case hg => rfl);(case hr => first|(go_simp;done)|(go_simp;rfl));intro gb133 hg w36 hbox hb;have n0_ := Aside0.mk (blk_below (g := gb129) (o := .cells #[.string ((rd_T45 l0 x12_1).f0),.int .i64 ((rd_T45 l0 x12_1).f1)] 45 (0,0)) (by (with_reducible repeat (first|refine blk_drewN ?_ _|refine blk_drew ?_|refine blk_alloc ?_ _));exact BK129.out) hb);have n1_ := Aside0.mk (below_step (by repeat (first|(with_reducible first|exact HB.out|apply below_alloc|apply pw_below_drewN|apply below_drew1|refine below_set ?_ GE129.out)|exact HB.out)) hb);have n2_ := Aside0.mk (hbox);have n3_ := Aside0.mk ((by rw [hg];exact (below_size (by repeat (first|(with_reducible first|exact HB.out|apply below_alloc|apply pw_below_drewN|apply below_drew1|refine below_set ?_ GE129.out)|exact HB.out))) : w.heap.size ≤ gb133));have n4_ := Aside0.mk ((by rw [hg];exact (below_size (by repeat (first|(with_reducible first|exact HB.out|apply below_alloc|apply pw_below_drewN|apply below_drew1|refine below_set ?_ GE129.out)|exact HB.out))) : w.heap.size ≤ gb133));have n5_ := Aside0.mk ((by rw [hg];exact Nat.ne_of_lt (blk_lt (g := gb129) (o := .cells #[.string ((rd_T45 l0 x12_1).f0),.int .i64 ((rd_T45 l0 x12_1).f1)] 45 (0,0)) (by (with_reducible repeat (first|refine blk_drewN ?_ _|refine blk_drew ?_|refine blk_alloc ?_ _));exact BK129.out)) : gb129 ≠ gb133));have n6_ := Aside0.mk ((by rw [hg];exact Nat.ne_of_gt (blk_lt (g := gb129) (o := .cells #[.string ((rd_T45 l0 x12_1).f0),.int .i64 ((rd_T45 l0 x12_1).f1)] 45 (0,0)) (by (with_reducible repeat (first|refine blk_drewN ?_ _|refine blk_drew ?_|refine blk_alloc ?_ _));exact BK129.out)) : gb133 ≠ gb129));clear BK129;clear HB;have BK129 := n0_;have HB := n1_;have BK133 := n2_;have GW133 := n3_;have GE133 := n4_;have NB129_133 := n5_;have NB133_129 := n6_;clear n0_ n1_ n2_ n3_ n4_ n5_ n6_;clear hb hbox hg;have hnb37 := NB133_129.out;have hnc37 := NB129_133.out;have hcz38_0 : w36.cell? ⟨gb133,0,none⟩ = some (.string (⟨#[]⟩ : ByteArray)) := (blk_cell BK133.out 0).trans rfl;have hcz38_1 : w36.cell? ⟨gb133,1,none⟩ = some (.int .i64 0) := (blk_cell BK133.out 1).trans rfl;have hfz38_0 := blk_frozen BK133.out 0;have hfz38_1 := blk_frozen BK133.out 1;have hcz39_0 : w36.cell? ⟨gb129,0,none⟩ = some (.string ((rd_T45 l0 x12_1).f0)) := (blk_cell BK129.out 0).trans rfl;have hcz39_1 : w36.cell? ⟨gb129,1,none⟩ = some (.int .i64 ((rd_T45 l0 x12_1).f1)) := (blk_cell BK129.out 1).trans rfl;have hfz39_0 := blk_frozen BK129.out 0;have hfz39_1 := blk_frozen BK129.out 1)|(go_at_call 32;(with_reducible refine (glob_Under.calls ((rd_T45 l0 x12_1).f0) ((rd_T45 l0 x47_3).f0) true _ A34.out).mono ?_);rintro e w' ⟨rfl,⟨nd,rfl⟩⟩;(try first|exact ⟨rfl,_,World.drewN_drewN _ _ _⟩|exact ⟨rfl,_,Eq.trans (World.drewN_drewN _ _ _) (congrArg (World.drewN _) (Nat.add_assoc _ _ _))⟩)));try go_wp2_with (first|((with_reducible refine gate_dst (N := 6) rfl ?_);refine box_event ?hg (N := 6) ?hd (cs := #[.string (⟨#[]⟩ : ByteArray),.int .i64 0]) (t := 45) ?hr ?_;(case hd => rfl);(case hg => rfl);(case hr => first|(go_simp;done)|(go_simp;rfl));intro gb133 hg w36 hbox hb;have n0_ := Aside0.mk (blk_below (g := gb129) (o := .cells #[.string ((rd_T45 l0 x12_1).f0),.int .i64 ((rd_T45 l0 x12_1).f1)] 45 (0,0)) (by (with_reducible repeat (first|refine blk_drewN ?_ _|refine blk_drew ?_|refine blk_alloc ?_ _));exact BK129.out) hb);have n1_ := Aside0.mk (below_step (by repeat (first|(with_reducible first|exact HB.out|apply below_alloc|apply pw_below_drewN|apply below_drew1|refine below_set ?_ GE129.out)|exact HB.out)) hb);have n2_ := Aside0.mk (hbox);have n3_ := Aside0.mk ((by rw [hg];exact (below_size (by repeat (first|(with_reducible first|exact HB.out|apply below_alloc|apply pw_below_drewN|apply below_drew1|refine below_set ?_ GE129.out)|exact HB.out))) : w.heap.size ≤ gb133));have n4_ := Aside0.mk ((by rw [hg];exact (below_size (by repeat (first|(with_reducible first|exact HB.out|apply below_alloc|apply pw_below_drewN|apply below_drew1|refine below_set ?_ GE129.out)|exact HB.out))) : w.heap.size ≤ gb133));have n5_ := Aside0.mk ((by rw [hg];exact Nat.ne_of_lt (blk_lt (g := gb129) (o := .cells #[.string ((rd_T45 l0 x12_1).f0),.int .i64 ((rd_T45 l0 x12_1).f1)] 45 (0,0)) (by (with_reducible repeat (first|refine blk_drewN ?_ _|refine blk_drew ?_|refine blk_alloc ?_ _));exact BK129.out)) : gb129 ≠ gb133));have n6_ := Aside0.mk ((by rw [hg];exact Nat.ne_of_gt (blk_lt (g := gb129) (o := .cells #[.string ((rd_T45 l0 x12_1).f0),.int .i64 ((rd_T45 l0 x12_1).f1)] 45 (0,0)) (by (with_reducible repeat (first|refine blk_drewN ?_ _|refine blk_drew ?_|refine blk_alloc ?_ _));exact BK129.out)) : gb133 ≠ gb129));clear BK129;clear HB;have BK129 := n0_;have HB := n1_;have BK133 := n2_;have GW133 := n3_;have GE133 := n4_;have NB129_133 := n5_;have NB133_129 := n6_;clear n0_ n1_ n2_ n3_ n4_ n5_ n6_;clear hb hbox hg;have hnb37 := NB133_129.out;have hnc37 := NB129_133.out;have hcz38_0 : w36.cell? ⟨gb133,0,none⟩ = some (.string (⟨#[]⟩ : ByteArray)) := (blk_cell BK133.out 0).trans rfl;have hcz38_1 : w36.cell? ⟨gb133,1,none⟩ = some (.int .i64 0) := (blk_cell BK133.out 1).trans rfl;have hfz38_0 := blk_frozen BK133.out 0;have hfz38_1 := blk_frozen BK133.out 1;have hcz39_0 : w36.cell? ⟨gb129,0,none⟩ = some (.string ((rd_T45 l0 x12_1).f0)) := (blk_cell BK129.out 0).trans rfl;have hcz39_1 : w36.cell? ⟨gb129,1,none⟩ = some (.int .i64 ((rd_T45 l0 x12_1).f1)) := (blk_cell BK129.out 1).trans rfl;have hfz39_0 := blk_frozen BK129.out 0;have hfz39_1 := blk_frozen BK129.out 1)|(go_at_call 32;(with_reducible refine (glob_Under.calls ((rd_T45 l0 x12_1).f0) ((rd_T45 l0 x47_3).f0) true _ A34.out).mono ?_);rintro e w' ⟨rfl,⟨nd,rfl⟩⟩;(try first|exact ⟨rfl,_,World.drewN_drewN _ _ _⟩|exact ⟨rfl,_,Eq.trans (World.drewN_drewN _ _ _) (congrArg (World.drewN _) (Nat.add_assoc _ _ _))⟩))))
                go_ret
                exact ⟨by first|rfl|(simp [errW_none,errW_some] <;> rfl)|(simp [*,errW_none,errW_some] <;> rfl),by repeat (first|(with_reducible first|exact HB.out|apply below_alloc|apply pw_below_drewN|apply below_drew1|refine below_set ?_ GE129.out|refine below_set ?_ GE133.out)|exact HB.out)⟩
               ·replace c35 := Bool.eq_false_iff.mpr c35
                subst c35
                have H1 : (tree_Right.l1 k3 l0 x12_1 l0 (l0.length : Int) x12_1 l0 (l0.length : Int) (wrap64 (x47_3 + 1)) ((rd_T45 l0 x12_1).f0) ((rd_T45 l0 x12_1).f1)) = some r := by rw [if_neg (show ¬ (false = true) by decide)] at H;exact H
                clear H
                have H := H1
                clear H1
                have H' := Aside0.mk H
                clear H
                have p132 : 0 ≤ (x47_3 : Int) := of_decide_eq_true (by first|(with_reducible assumption)|assumption)
                have q132 : x47_3 < (l0.length : Int) := of_decide_eq_true (by first|(with_reducible assumption)|assumption)
                obtain ⟨ad132,e132,hx132_0,hx132_1⟩ := at_T45 HR0.out x47_3 p132 q132
                obtain rfl : ad128 = ad132 := (by injection e132)
                replace hx132_0 := (HB.out.cell (World.block_lt_of_cell? w _ hx132_0)).trans hx132_0
                replace hx132_1 := (HB.out.cell (World.block_lt_of_cell? w _ hx132_1)).trans hx132_1
                replace p132 := eq_true p132
                replace q132 := eq_true q132
                go_wp2_with (first|((with_reducible refine gate_dst (N := 6) rfl ?_);refine box_event ?hg (N := 6) ?hd (cs := #[.string (⟨#[]⟩ : ByteArray),.int .i64 0]) (t := 45) ?hr ?_;(case hd => rfl);(case hg => rfl);(case hr => first|(go_simp;done)|(go_simp;rfl));intro gb133 hg w40 hbox hb;have n0_ := Aside0.mk (blk_below (g := gb129) (o := .cells #[.string ((rd_T45 l0 x12_1).f0),.int .i64 ((rd_T45 l0 x12_1).f1)] 45 (0,0)) (by (with_reducible repeat (first|refine blk_drewN ?_ _|refine blk_drew ?_|refine blk_alloc ?_ _));exact BK129.out) hb);have n1_ := Aside0.mk (below_step (by repeat (first|(with_reducible first|exact HB.out|apply below_alloc|apply pw_below_drewN|apply below_drew1|refine below_set ?_ GE129.out)|exact HB.out)) hb);have n2_ := Aside0.mk (hbox);have n3_ := Aside0.mk ((by rw [hg];exact (below_size (by repeat (first|(with_reducible first|exact HB.out|apply below_alloc|apply pw_below_drewN|apply below_drew1|refine below_set ?_ GE129.out)|exact HB.out))) : w.heap.size ≤ gb133));have n4_ := Aside0.mk ((by rw [hg];exact (below_size (by repeat (first|(with_reducible first|exact HB.out|apply below_alloc|apply pw_below_drewN|apply below_drew1|refine below_set ?_ GE129.out)|exact HB.out))) : w.heap.size ≤ gb133));have n5_ := Aside0.mk ((by rw [hg];exact Nat.ne_of_lt (blk_lt (g := gb129) (o := .cells #[.string ((rd_T45 l0 x12_1).f0),.int .i64 ((rd_T45 l0 x12_1).f1)] 45 (0,0)) (by (with_reducible repeat (first|refine blk_drewN ?_ _|refine blk_drew ?_|refine blk_alloc ?_ _));exact BK129.out)) : gb129 ≠ gb133));have n6_ := Aside0.mk ((by rw [hg];exact Nat.ne_of_gt (blk_lt (g := gb129) (o := .cells #[.string ((rd_T45 l0 x12_1).f0),.int .i64 ((rd_T45 l0 x12_1).f1)] 45 (0,0)) (by (with_reducible repeat (first|refine blk_drewN ?_ _|refine blk_drew ?_|refine blk_alloc ?_ _));exact BK129.out)) : gb133 ≠ gb129));clear BK129;clear HB;have BK129 := n0_;have HB := n1_;have BK133 := n2_;have GW133 := n3_;have GE133 := n4_;have NB129_133 := n5_;have NB133_129 := n6_;clear n0_ n1_ n2_ n3_ n4_ n5_ n6_;clear hb hbox hg;have hnb41 := NB133_129.out;have hnc41 := NB129_133.out;have hcz42_0 : w40.cell? ⟨gb133,0,none⟩ = some (.string (⟨#[]⟩ : ByteArray)) := (blk_cell BK133.out 0).trans rfl;have hcz42_1 : w40.cell? ⟨gb133,1,none⟩ = some (.int .i64 0) := (blk_cell BK133.out 1).trans rfl;have hfz42_0 := blk_frozen BK133.out 0;have hfz42_1 := blk_frozen BK133.out 1;have hcz43_0 : w40.cell? ⟨gb129,0,none⟩ = some (.string ((rd_T45 l0 x12_1).f0)) := (blk_cell BK129.out 0).trans rfl;have hcz43_1 : w40.cell? ⟨gb129,1,none⟩ = some (.int .i64 ((rd_T45 l0 x12_1).f1)) := (blk_cell BK129.out 1).trans rfl;have hfz43_0 := blk_frozen BK129.out 0;have hfz43_1 := blk_frozen BK129.out 1)|(go_at_call 32;(with_reducible refine (glob_Under.calls ((rd_T45 l0 x12_1).f0) ((rd_T45 l0 x47_3).f0) false _ A34.out).mono ?_);rintro e w' ⟨rfl,⟨nd,rfl⟩⟩;(try first|exact ⟨rfl,_,World.drewN_drewN _ _ _⟩|exact ⟨rfl,_,Eq.trans (World.drewN_drewN _ _ _) (congrArg (World.drewN _) (Nat.add_assoc _ _ _))⟩)))
                repeat (go_quiet (first|((with_reducible refine gate_dst (N := 6) rfl ?_);refine box_event ?hg (N := 6) ?hd (cs := #[.string (⟨#[]⟩ : ByteArray),.int .i64 0]) (t := 45) ?hr ?_;(case hd => rfl);(case hg => rfl);(case hr => first|(go_simp;done)|(go_simp;rfl));intro gb133 hg w40 hbox hb;have n0_ := Aside0.mk (blk_below (g := gb129) (o := .cells #[.string ((rd_T45 l0 x12_1).f0),.int .i64 ((rd_T45 l0 x12_1).f1)] 45 (0,0)) (by (with_reducible repeat (first|refine blk_drewN ?_ _|refine blk_drew ?_|refine blk_alloc ?_ _));exact BK129.out) hb);have n1_ := Aside0.mk (below_step (by repeat (first|(with_reducible first|exact HB.out|apply below_alloc|apply pw_below_drewN|apply below_drew1|refine below_set ?_ GE129.out)|exact HB.out)) hb);have n2_ := Aside0.mk (hbox);have n3_ := Aside0.mk ((by rw [hg];exact (below_size (by repeat (first|(with_reducible first|exact HB.out|apply below_alloc|apply pw_below_drewN|apply below_drew1|refine below_set ?_ GE129.out)|exact HB.out))) : w.heap.size ≤ gb133));have n4_ := Aside0.mk ((by rw [hg];exact (below_size (by repeat (first|(with_reducible first|exact HB.out|apply below_alloc|apply pw_below_drewN|apply below_drew1|refine below_set ?_ GE129.out)|exact HB.out))) : w.heap.size ≤ gb133));have n5_ := Aside0.mk ((by rw [hg];exact Nat.ne_of_lt (blk_lt (g := gb129) (o := .cells #[.string ((rd_T45 l0 x12_1).f0),.int .i64 ((rd_T45 l0 x12_1).f1)] 45 (0,0)) (by (with_reducible repeat (first|refine blk_drewN ?_ _|refine blk_drew ?_|refine blk_alloc ?_ _));exact BK129.out)) : gb129 ≠ gb133));have n6_ := Aside0.mk ((by rw [hg];exact Nat.ne_of_gt (blk_lt (g := gb129) (o := .cells #[.string ((rd_T45 l0 x12_1).f0),.int .i64 ((rd_T45 l0 x12_1).f1)] 45 (0,0)) (by (with_reducible repeat (first|refine blk_drewN ?_ _|refine blk_drew ?_|refine blk_alloc ?_ _));exact BK129.out)) : gb133 ≠ gb129));clear BK129;clear HB;have BK129 := n0_;have HB := n1_;have BK133 := n2_;have GW133 := n3_;have GE133 := n4_;have NB129_133 := n5_;have NB133_129 := n6_;clear n0_ n1_ n2_ n3_ n4_ n5_ n6_;clear hb hbox hg;have hnb41 := NB133_129.out;have hnc41 := NB129_133.out;have hcz42_0 : w40.cell? ⟨gb133,0,none⟩ = some (.string (⟨#[]⟩ : ByteArray)) := (blk_cell BK133.out 0).trans rfl;have hcz42_1 : w40.cell? ⟨gb133,1,none⟩ = some (.int .i64 0) := (blk_cell BK133.out 1).trans rfl;have hfz42_0 := blk_frozen BK133.out 0;have hfz42_1 := blk_frozen BK133.out 1;have hcz43_0 : w40.cell? ⟨gb129,0,none⟩ = some (.string ((rd_T45 l0 x12_1).f0)) := (blk_cell BK129.out 0).trans rfl;have hcz43_1 : w40.cell? ⟨gb129,1,none⟩ = some (.int .i64 ((rd_T45 l0 x12_1).f1)) := (blk_cell BK129.out 1).trans rfl;have hfz43_0 := blk_frozen BK129.out 0;have hfz43_1 := blk_frozen BK129.out 1)|(go_at_call 32;(with_reducible refine (glob_Under.calls ((rd_T45 l0 x12_1).f0) ((rd_T45 l0 x47_3).f0) false _ A34.out).mono ?_);rintro e w' ⟨rfl,⟨nd,rfl⟩⟩;(try first|exact ⟨rfl,_,World.drewN_drewN _ _ _⟩|exact ⟨rfl,_,Eq.trans (World.drewN_drewN _ _ _) (congrArg (World.drewN _) (Nat.add_assoc _ _ _))⟩)));try go_wp2_with (first|((with_reducible refine gate_dst (N := 6) rfl ?_);refine box_event ?hg (N := 6) ?hd (cs := #[.string (⟨#[]⟩ : ByteArray),.int .i64 0]) (t := 45) ?hr ?_;(case hd => rfl);(case hg => rfl);(case hr => first|(go_simp;done)|(go_simp;rfl));intro gb133 hg w40 hbox hb;have n0_ := Aside0.mk (blk_below (g := gb129) (o := .cells #[.string ((rd_T45 l0 x12_1).f0),.int .i64 ((rd_T45 l0 x12_1).f1)] 45 (0,0)) (by (with_reducible repeat (first|refine blk_drewN ?_ _|refine blk_drew ?_|refine blk_alloc ?_ _));exact BK129.out) hb);have n1_ := Aside0.mk (below_step (by repeat (first|(with_reducible first|exact HB.out|apply below_alloc|apply pw_below_drewN|apply below_drew1|refine below_set ?_ GE129.out)|exact HB.out)) hb);have n2_ := Aside0.mk (hbox);have n3_ := Aside0.mk ((by rw [hg];exact (below_size (by repeat (first|(with_reducible first|exact HB.out|apply below_alloc|apply pw_below_drewN|apply below_drew1|refine below_set ?_ GE129.out)|exact HB.out))) : w.heap.size ≤ gb133));have n4_ := Aside0.mk ((by rw [hg];exact (below_size (by repeat (first|(with_reducible first|exact HB.out|apply below_alloc|apply pw_below_drewN|apply below_drew1|refine below_set ?_ GE129.out)|exact HB.out))) : w.heap.size ≤ gb133));have n5_ := Aside0.mk ((by rw [hg];exact Nat.ne_of_lt (blk_lt (g := gb129) (o := .cells #[.string ((rd_T45 l0 x12_1).f0),.int .i64 ((rd_T45 l0 x12_1).f1)] 45 (0,0)) (by (with_reducible repeat (first|refine blk_drewN ?_ _|refine blk_drew ?_|refine blk_alloc ?_ _));exact BK129.out)) : gb129 ≠ gb133));have n6_ := Aside0.mk ((by rw [hg];exact Nat.ne_of_gt (blk_lt (g := gb129) (o := .cells #[.string ((rd_T45 l0 x12_1).f0),.int .i64 ((rd_T45 l0 x12_1).f1)] 45 (0,0)) (by (with_reducible repeat (first|refine blk_drewN ?_ _|refine blk_drew ?_|refine blk_alloc ?_ _));exact BK129.out)) : gb133 ≠ gb129));clear BK129;clear HB;have BK129 := n0_;have HB := n1_;have BK133 := n2_;have GW133 := n3_;have GE133 := n4_;have NB129_133 := n5_;have NB133_129 := n6_;clear n0_ n1_ n2_ n3_ n4_ n5_ n6_;clear hb hbox hg;have hnb41 := NB133_129.out;have hnc41 := NB129_133.out;have hcz42_0 : w40.cell? ⟨gb133,0,none⟩ = some (.string (⟨#[]⟩ : ByteArray)) := (blk_cell BK133.out 0).trans rfl;have hcz42_1 : w40.cell? ⟨gb133,1,none⟩ = some (.int .i64 0) := (blk_cell BK133.out 1).trans rfl;have hfz42_0 := blk_frozen BK133.out 0;have hfz42_1 := blk_frozen BK133.out 1;have hcz43_0 : w40.cell? ⟨gb129,0,none⟩ = some (.string ((rd_T45 l0 x12_1).f0)) := (blk_cell BK129.out 0).trans rfl;have hcz43_1 : w40.cell? ⟨gb129,1,none⟩ = some (.int .i64 ((rd_T45 l0 x12_1).f1)) := (blk_cell BK129.out 1).trans rfl;have hfz43_0 := blk_frozen BK129.out 0;have hfz43_1 := blk_frozen BK129.out 1)|(go_at_call 32;(with_reducible refine (glob_Under.calls ((rd_T45 l0 x12_1).f0) ((rd_T45 l0 x47_3).f0) false _ A34.out).mono ?_);rintro e w' ⟨rfl,⟨nd,rfl⟩⟩;(try first|exact ⟨rfl,_,World.drewN_drewN _ _ _⟩|exact ⟨rfl,_,Eq.trans (World.drewN_drewN _ _ _) (congrArg (World.drewN _) (Nat.add_assoc _ _ _))⟩))))
                go_roundg k3
                case measure => have := HK1.out;have := HJ5.out;have := HK3.out;omega
                case rel => exact ⟨(wrap64 (x47_3 + 1)),(by first|rfl|(simp;done)|(simp [*];done)),H',⟨by have := HK1.out;have := HJ5.out;have := HK3.out;omega⟩,⟨by (with_reducible repeat (first|refine blk_drewN ?_ _|refine blk_drew ?_|refine blk_alloc ?_ _));refine blk_far ?_ NB129_133.out _;(with_reducible repeat (first|refine blk_drewN ?_ _|refine blk_drew ?_|refine blk_alloc ?_ _));refine blk_far ?_ NB129_133.out _;(with_reducible repeat (first|refine blk_drewN ?_ _|refine blk_drew ?_|refine blk_alloc ?_ _));exact BK129.out⟩,⟨by repeat (first|(with_reducible first|exact HB.out|apply below_alloc|apply pw_below_drewN|apply below_drew1|refine below_set ?_ GE129.out|refine below_set ?_ GE133.out)|exact HB.out)⟩⟩
             ·rw [if_neg c29] at H
              exact absurd H (by simp)
            ·rw [if_neg c28] at H
             exact absurd H (by simp)
           ·rw [if_neg c27] at H
            have c27b0 : decide (x47_3 < (l0.length : Int)) = false := decide_eq_false c27
            clear c27
            have H' := Aside0.mk H
            clear H
            go_wp2
            repeat (go_quiet (fail);try go_wp2)
            go_roundg k3
            case measure => have := HK1.out;have := HJ5.out;have := HK3.out;omega
            case rel => exact ⟨(wrap64 (x12_1 + 1)),(by first|rfl|(simp;done)|(simp [*];done)),H',⟨by have := HK1.out;have := HJ5.out;have := HK3.out;omega⟩,⟨by repeat (first|(with_reducible first|exact HB.out|apply below_alloc|apply pw_below_drewN|apply below_drew1|refine below_set ?_ GE129.out)|exact HB.out)⟩⟩
      ·rw [if_neg c5] at H
       exact absurd H (by simp)
     ·rw [if_neg c4] at H
      exact absurd H (by simp)
    ·rw [if_neg c3] at H
     have c3b0 : decide (x12_1 < (l0.length : Int)) = false := decide_eq_false c3
     clear c3
     obtain rfl := Option.some.inj H
     go_wp2
     repeat (go_quiet (fail);try go_wp2)
     go_ret
     exact ⟨by first|rfl|(simp [errW_none,errW_some] <;> rfl)|(simp [*,errW_none,errW_some] <;> rfl),bM HB.out⟩

/-! ### tree_Under: function 23 -/
def tree_Under.l0 : Nat → ByteArray → List (S45) → List (S45) → Int → Int → Option ((List (S45)))
|0,_,_,_,_,_ => none
|k + 1,x1,x5,x8,x9,x10 => if x10 < x9 then (if 0 ≤ x10 then (if x10 < (x8.length : Int) then ((glob_Under.f ((rd_T45 x8 x10).f0) x1).bind fun t137 => (if t137 = true then (if x5.length < 5864062014805 then (tree_Under.l0 k x1 (x5 ++ [(⟨(rd_T45 x8 x10).f0,(rd_T45 x8 x10).f1⟩ : S45)]) x8 x9 (wrap64 (x10 + 1))) else (none)) else (tree_Under.l0 k x1 x5 x8 x9 (wrap64 (x10 + 1))))) else (none)) else (none)) else (some x5)
def tree_Under.f (k : Nat) (l0 : List (S45)) (a1 : ByteArray) : Option ((List (S45))) := tree_Under.l0 k a1 ([] : List (S45)) l0 (l0.length : Int) 0
theorem tree_Under.mono_l : ∀ k, (∀ y0 y1 y2 y3 y4, LeO (tree_Under.l0 k y0 y1 y2 y3 y4) (tree_Under.l0 (k + 1) y0 y1 y2 y3 y4))
|0 => fun _ _ _ _ _ r h => by simp [tree_Under.l0] at h
|k + 1 => by
  have ih0 := tree_Under.mono_l k
  ·intro y0 y1 y2 y3 y4
   unfold tree_Under.l0
   repeat' first
  |(with_reducible exact ih0 _ _ _ _ _)
  |(with_reducible exact LeO.refl _)
  |(with_reducible exact LeO.none _)
  |(with_reducible refine LeO.ite ?_ ?_)
  |(with_reducible refine LeO.bind ?_ (fun _ => ?_))
  |exact ih0 _ _ _ _ _
  |exact LeO.none _
  |refine LeO.ite ?_ ?_
  |refine LeO.bind ?_ (fun _ => ?_)
theorem tree_Under.mono : ∀ a0 a1 k, LeO (tree_Under.f k a0 a1) (tree_Under.f (k + 1) a0 a1) := by
 intro a0 a1 k
 have ih0 := tree_Under.mono_l k
 unfold tree_Under.f
 repeat' first
  |(with_reducible exact ih0 _ _ _ _ _)
  |(with_reducible exact LeO.refl _)
  |(with_reducible exact LeO.none _)
  |(with_reducible refine LeO.ite ?_ ?_)
  |(with_reducible refine LeO.bind ?_ (fun _ => ?_))
  |exact ih0 _ _ _ _ _
  |exact LeO.none _
  |refine LeO.ite ?_ ?_
  |refine LeO.bind ?_ (fun _ => ?_)
set_option maxHeartbeats 4000000 in
set_option maxRecDepth 100000 in
theorem tree_Under.calls (k : Nat) (A0 : Option Addr) (c0 : Nat) (l0 : List (S45)) (a1 : ByteArray) (r : List (S45)) (w : World) (hr0 : Kd.C k45 w A0 l0.length l0) (hc0 : l0.length ≤ c0) (h : tree_Under.f k l0 a1 = some r) :
  Calls Tryd.prog 23 #[.slice A0 l0.length c0,.string a1] w fun e w' => ∃ v0_ : Value,e = .returned (v0_) ∧ Kd.R k45 45 w' w.heap.size (fun _ => True) v0_ r ∧ Below w.heap.size w w' := by
 have hu45 := Tryd.underlying45
 have HR0 := Aside0.mk hr0
 have HC0 := Aside0.mk hc0
 clear hr0 hc0
 have HB := Aside0.mk (Below.refl w.heap.size w)
 have H : (tree_Under.l0 k a1 ([] : List (S45)) l0 (l0.length : Int) 0) = some r := h
 clear h
 have H' := Aside0.mk H
 clear H
 go_enter Tryd.func23,Tryd.ntmps23
 go_wp2
 go_loopg [5,10] k (fun kq v5 v10 w' => ∃ (x5_1 : List (S45)) (x10_1 : Int),v10 = .int .i64 x10_1 ∧ Aside0 (tree_Under.l0 kq a1 x5_1 l0 (l0.length : Int) x10_1 = some r) ∧ Aside0 (kq ≤ k) ∧ Aside0 (Kd.R k45 45 w' w.heap.size (fun _ => True) v5 x5_1) ∧ Aside0 (Below w.heap.size w w'))
 case atStart => exact ⟨(([] : List (S45))),(0),(by first|rfl|(simp;done)|(simp [*];done)),H',⟨Nat.le_refl _⟩,⟨by first|exact Kd.R_nil _ _ _ _ _|exact Kd.N_nil _ _ _ _ _|exact Kd.V_nil _ _ _ _ _|exact Kd.Q_nil _ _ _ _ _|exact Kd.S_nil _ _ _ _ _⟩,⟨bM HB.out⟩⟩
 case round =>
  clear H'
  try clear c2
  try clear p2
  obtain ⟨x5_1,x10_1,rfl,HA,HK1,HO_5,HB⟩ := hrel
  cases gk with
 |zero => exact absurd HA.out (by simp [tree_Under.l0])
 |succ k1 =>
   have H := HA.out
   clear HA
   simp only [tree_Under.l0] at H
   by_cases c3 : x10_1 < (l0.length : Int)
   ·rw [if_pos c3] at H
    have c3b0 : decide (x10_1 < (l0.length : Int)) = true := decide_eq_true c3
    clear c3
    by_cases c4 : 0 ≤ x10_1
    ·rw [if_pos c4] at H
     have c4b0 : decide (0 ≤ x10_1) = true := decide_eq_true c4
     clear c4
     by_cases c5 : x10_1 < (l0.length : Int)
     ·rw [if_pos c5] at H
      have c5b0 : decide (x10_1 < (l0.length : Int)) = true := decide_eq_true c5
      clear c5
      replace H := Option.bind_eq_some_iff.mp H
      obtain ⟨t137,A60,H⟩ := H
      replace H : (if t137 = true then (if x5_1.length < 5864062014805 then (tree_Under.l0 k1 a1 (x5_1 ++ [(⟨(rd_T45 l0 x10_1).f0,(rd_T45 l0 x10_1).f1⟩ : S45)]) l0 (l0.length : Int) (wrap64 (x10_1 + 1))) else (none)) else (tree_Under.l0 k1 a1 x5_1 l0 (l0.length : Int) (wrap64 (x10_1 + 1)))) = some r := H
      have A6 := Aside0.mk A60
      clear A60
      by_cases c7 : t137 = true
      ·subst c7
       have H1 : (if x5_1.length < 5864062014805 then (tree_Under.l0 k1 a1 (x5_1 ++ [(⟨(rd_T45 l0 x10_1).f0,(rd_T45 l0 x10_1).f1⟩ : S45)]) l0 (l0.length : Int) (wrap64 (x10_1 + 1))) else (none)) = some r := by rw [if_pos rfl] at H;exact H
       clear H
       have H := H1
       clear H1
       by_cases c8 : x5_1.length < 5864062014805
       ·rw [if_pos c8] at H
        have LMc8 := Aside0.mk c8
        clear c8
        obtain ⟨y138,hy138⟩ : ∃ y_ : List (S45),y_ = (x5_1 ++ [(⟨(rd_T45 l0 x10_1).f0,(rd_T45 l0 x10_1).f1⟩ : S45)]) := ⟨_,rfl⟩
        replace H : (tree_Under.l0 k1 a1 y138 l0 (l0.length : Int) (wrap64 (x10_1 + 1))) = some r := by first|(rw [hy138];with_reducible exact H)|(have H2_ := (Option.bind_some _ _).symm.trans H;rw [hy138];with_reducible exact H2_)|(have H2_ := (Option.bind_some _ _).symm.trans H;with_reducible exact H2_)|with_reducible exact H|(rw [hy138];exact H)|exact H
        have Ny138 := Aside0.mk hy138
        clear hy138
        have H' := Aside0.mk H
        clear H
        have p135 : 0 ≤ (x10_1 : Int) := of_decide_eq_true (by first|(with_reducible assumption)|assumption)
        have q135 : x10_1 < (l0.length : Int) := of_decide_eq_true (by first|(with_reducible assumption)|assumption)
        obtain ⟨ad135,e135,hx135_0,hx135_1⟩ := at_T45 HR0.out x10_1 p135 q135
        cases e135
        replace hx135_0 := (HB.out.cell (World.block_lt_of_cell? w _ hx135_0)).trans hx135_0
        replace hx135_1 := (HB.out.cell (World.block_lt_of_cell? w _ hx135_1)).trans hx135_1
        replace p135 := eq_true p135
        replace q135 := eq_true q135
        go_wp2_with (first|((with_reducible refine gate_dst (N := 7) rfl ?_);refine box_event ?hg (N := 7) ?hd (cs := #[.string (⟨#[]⟩ : ByteArray),.int .i64 0]) (t := 45) ?hr ?_;(case hd => rfl);(case hg => rfl);(case hr => first|(go_simp;done)|(go_simp;rfl));intro gb136 hg w9 hbox hb;have n0_ := Aside0.mk (Kd.R_below (Kd.R_elderB (rM HO_5.out) gb136 (Nat.le_of_eq hg.symm)) hb);have n1_ := Aside0.mk (below_step (bM HB.out) hb);have n2_ := Aside0.mk (hbox);have n3_ := Aside0.mk ((by rw [hg];exact (below_size (bM HB.out)) : w.heap.size ≤ gb136));have n4_ := Aside0.mk ((by rw [hg];exact (below_size (bM HB.out)) : w.heap.size ≤ gb136));clear HO_5;clear HB;have HO_5 := n0_;have HB := n1_;have BK136 := n2_;have GW136 := n3_;have GE136 := n4_;clear n0_ n1_ n2_ n3_ n4_;clear hb hbox hg;have hcz10_0 : w9.cell? ⟨gb136,0,none⟩ = some (.string (⟨#[]⟩ : ByteArray)) := (blk_cell BK136.out 0).trans rfl;have hcz10_1 : w9.cell? ⟨gb136,1,none⟩ = some (.int .i64 0) := (blk_cell BK136.out 1).trans rfl;have hfz10_0 := blk_frozen BK136.out 0;have hfz10_1 := blk_frozen BK136.out 1)|((with_reducible refine gate_callee (f := 32) rfl ?_);refine goesL_ (some 17) rfl rfl Tryd.func32 (by kernel_rfl) rfl #[.string ((rd_T45 l0 x10_1).f0),.string a1] rfl (by (try simp only [List.map_toArray,List.map_cons,List.map_nil]);first|done|rfl|(simp only [List.length_drop,List.length_take];rfl)) ?_;(with_reducible refine (glob_Under.calls ((rd_T45 l0 x10_1).f0) a1 true _ A6.out).mono ?_);rintro e w' ⟨rfl,⟨nd,rfl⟩⟩;refine ⟨_,rfl,?_⟩)|((with_reducible refine gate_builtin (b := .append) (xs := #[.tmp 18,.tmp 20]) rfl ?_);at_builtin;refine Kd.R_append k45 (w0 := w) w.heap.size rfl (.tmp 18) (.tmp 20) 22 45 (.agg #[(.string ⟨#[]⟩),(.int .i64 0)]) 24 rfl Tryd.underlying22 info45 rfl (by decide) (by omega) u5 x5_1 (⟨(rd_T45 l0 x10_1).f0,(rd_T45 l0 x10_1).f1⟩ : S45) [.string ((rd_T45 l0 x10_1).f0),.int .i64 ((rd_T45 l0 x10_1).f1)] (fun k_ => k_ ≠ gb136) (fun _ => False) rfl (by first|(go_simp;done)|(go_simp;rfl)) ?aP (fun _ hk => hk.elim) ?aF ?aO ?aB ?aS ?aL ?_;(case aP => exact k45_mkM _ _ _ (⟨(rd_T45 l0 x10_1).f0,(rd_T45 l0 x10_1).f1⟩ : S45));(case aB => exact (by repeat (first|(with_reducible first|exact HB.out|apply below_alloc|apply pw_below_drewN|apply below_drew1|refine below_set ?_ GE136.out)|exact HB.out)));(case aF => exact (fun k_ hk => Kd.freshB (g := gb136) (o := .cells #[.string ((rd_T45 l0 x10_1).f0),.int .i64 ((rd_T45 l0 x10_1).f1)] 45 (0,0)) (by (with_reducible repeat (first|refine blk_drewN ?_ _|refine blk_drew ?_|refine blk_alloc ?_ _));refine blk_put (cs := #[.string ((rd_T45 l0 x10_1).f0),.int .i64 0]) ?_ 1 _ rfl;(with_reducible repeat (first|refine blk_drewN ?_ _|refine blk_drew ?_|refine blk_alloc ?_ _));refine blk_put (cs := #[.string (⟨#[]⟩ : ByteArray),.int .i64 0]) ?_ 0 _ rfl;(with_reducible repeat (first|refine blk_drewN ?_ _|refine blk_drew ?_|refine blk_alloc ?_ _));exact BK136.out) k_ hk));(case aO => exact (by (with_reducible repeat (first|apply Kd.R_alloc|apply Kd.R_drewN|apply Kd.R_drew));exact Kd.R_mono (Kd.R_far (p := ⟨gb136,1,none⟩) (Kd.R_far (p := ⟨gb136,0,none⟩) (Kd.R_mono HO_5.out (fun k_ hk => (⟨hk,hk.2⟩ : _ ∧ k_ ≠ gb136))) (fun _ hk => hk.2) (.string ((rd_T45 l0 x10_1).f0))) (fun _ hk => hk.2) (.int .i64 ((rd_T45 l0 x10_1).f1))) (fun _ hk => hk.1.2)));(case aS => exact (below_size (by repeat (first|(with_reducible first|exact HB.out|apply below_alloc|apply pw_below_drewN|apply below_drew1|refine below_set ?_ GE136.out)|exact HB.out))));(case aL => have := LMc8.out;omega);intro v139 w11 ho hb hg hat;rw [← Ny138.out] at ho;have n0_ := Aside0.mk (blk_grown (g := gb136) (o := .cells #[.string ((rd_T45 l0 x10_1).f0),.int .i64 ((rd_T45 l0 x10_1).f1)] 45 (0,0)) (by (with_reducible repeat (first|refine blk_drewN ?_ _|refine blk_drew ?_|refine blk_alloc ?_ _));refine blk_put (cs := #[.string ((rd_T45 l0 x10_1).f0),.int .i64 0]) ?_ 1 _ rfl;(with_reducible repeat (first|refine blk_drewN ?_ _|refine blk_drew ?_|refine blk_alloc ?_ _));refine blk_put (cs := #[.string (⟨#[]⟩ : ByteArray),.int .i64 0]) ?_ 0 _ rfl;(with_reducible repeat (first|refine blk_drewN ?_ _|refine blk_drew ?_|refine blk_alloc ?_ _));exact BK136.out) hg (Kd.R_away HO_5.out (fun _ hk => hk.2)));have n1_ := Aside0.mk (hb);have n2_ := Aside0.mk (ho);clear BK136;clear HB;clear HO_5;have BK136 := n0_;have HB := n1_;have HO140 := n2_;clear n0_ n1_ n2_;clear ho hb hg hat))
        go_roundg k1
        case measure => have := HK1.out;omega
        case rel => exact ⟨(y138),(wrap64 (x10_1 + 1)),(by first|rfl|(simp;done)|(simp [*];done)),H',⟨by have := HK1.out;omega⟩,⟨rM (Kd.R_mono HO140.out (fun _ hk => trivial))⟩,⟨by repeat (first|(with_reducible first|exact HB.out|apply below_alloc|apply pw_below_drewN|apply below_drew1|refine below_set ?_ GE136.out)|exact HB.out)⟩⟩
       ·rw [if_neg c8] at H
        exact absurd H (by simp)
      ·replace c7 := Bool.eq_false_iff.mpr c7
       subst c7
       have H1 : (tree_Under.l0 k1 a1 x5_1 l0 (l0.length : Int) (wrap64 (x10_1 + 1))) = some r := by rw [if_neg (show ¬ (false = true) by decide)] at H;exact H
       clear H
       have H := H1
       clear H1
       have H' := Aside0.mk H
       clear H
       have p135 : 0 ≤ (x10_1 : Int) := of_decide_eq_true (by first|(with_reducible assumption)|assumption)
       have q135 : x10_1 < (l0.length : Int) := of_decide_eq_true (by first|(with_reducible assumption)|assumption)
       obtain ⟨ad135,e135,hx135_0,hx135_1⟩ := at_T45 HR0.out x10_1 p135 q135
       cases e135
       replace hx135_0 := (HB.out.cell (World.block_lt_of_cell? w _ hx135_0)).trans hx135_0
       replace hx135_1 := (HB.out.cell (World.block_lt_of_cell? w _ hx135_1)).trans hx135_1
       replace p135 := eq_true p135
       replace q135 := eq_true q135
       go_wp2_with (first|((with_reducible refine gate_dst (N := 7) rfl ?_);refine box_event ?hg (N := 7) ?hd (cs := #[.string (⟨#[]⟩ : ByteArray),.int .i64 0]) (t := 45) ?hr ?_;(case hd => rfl);(case hg => rfl);(case hr => first|(go_simp;done)|(go_simp;rfl));intro gb136 hg w12 hbox hb;have n0_ := Aside0.mk (Kd.R_below (Kd.R_elderB (rM HO_5.out) gb136 (Nat.le_of_eq hg.symm)) hb);have n1_ := Aside0.mk (below_step (bM HB.out) hb);have n2_ := Aside0.mk (hbox);have n3_ := Aside0.mk ((by rw [hg];exact (below_size (bM HB.out)) : w.heap.size ≤ gb136));have n4_ := Aside0.mk ((by rw [hg];exact (below_size (bM HB.out)) : w.heap.size ≤ gb136));clear HO_5;clear HB;have HO_5 := n0_;have HB := n1_;have BK136 := n2_;have GW136 := n3_;have GE136 := n4_;clear n0_ n1_ n2_ n3_ n4_;clear hb hbox hg;have hcz13_0 : w12.cell? ⟨gb136,0,none⟩ = some (.string (⟨#[]⟩ : ByteArray)) := (blk_cell BK136.out 0).trans rfl;have hcz13_1 : w12.cell? ⟨gb136,1,none⟩ = some (.int .i64 0) := (blk_cell BK136.out 1).trans rfl;have hfz13_0 := blk_frozen BK136.out 0;have hfz13_1 := blk_frozen BK136.out 1)|((with_reducible refine gate_callee (f := 32) rfl ?_);refine goesL_ (some 17) rfl rfl Tryd.func32 (by kernel_rfl) rfl #[.string ((rd_T45 l0 x10_1).f0),.string a1] rfl (by (try simp only [List.map_toArray,List.map_cons,List.map_nil]);first|done|rfl|(simp only [List.length_drop,List.length_take];rfl)) ?_;(with_reducible refine (glob_Under.calls ((rd_T45 l0 x10_1).f0) a1 false _ A6.out).mono ?_);rintro e w' ⟨rfl,⟨nd,rfl⟩⟩;refine ⟨_,rfl,?_⟩))
       go_roundg k1
       case measure => have := HK1.out;omega
       case rel => exact ⟨(x5_1),(wrap64 (x10_1 + 1)),(by first|rfl|(simp;done)|(simp [*];done)),H',⟨by have := HK1.out;omega⟩,⟨by (with_reducible repeat (first|apply Kd.R_alloc|apply Kd.R_drewN|apply Kd.R_drew));exact Kd.R_mono (Kd.R_far (p := ⟨gb136,1,none⟩) (Kd.R_far (p := ⟨gb136,0,none⟩) (Kd.R_mono HO_5.out (fun k_ hk => (⟨hk,hk.2⟩ : _ ∧ k_ ≠ gb136))) (fun _ hk => hk.2) (.string ((rd_T45 l0 x10_1).f0))) (fun _ hk => hk.2) (.int .i64 ((rd_T45 l0 x10_1).f1))) (fun _ hk => trivial)⟩,⟨by repeat (first|(with_reducible first|exact HB.out|apply below_alloc|apply pw_below_drewN|apply below_drew1|refine below_set ?_ GE136.out)|exact HB.out)⟩⟩
     ·rw [if_neg c5] at H
      exact absurd H (by simp)
    ·rw [if_neg c4] at H
     exact absurd H (by simp)
   ·rw [if_neg c3] at H
    have c3b0 : decide (x10_1 < (l0.length : Int)) = false := decide_eq_false c3
    clear c3
    obtain rfl := Option.some.inj H
    go_wp2
    go_ret
    exact ⟨_,by first|rfl|(simp [errW_none,errW_some] <;> rfl)|(simp [*,errW_none,errW_some] <;> rfl),rM HO_5.out,bM HB.out⟩

end Go.Proofs.YtpnhamfodjfacaaDoor.M
