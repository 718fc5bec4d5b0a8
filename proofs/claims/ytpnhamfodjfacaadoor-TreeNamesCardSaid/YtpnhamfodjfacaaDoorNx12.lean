-- Written by hp.py, a program of this session, over the kit's print of the translation. Not trusted: Lean checks it.
import Derived.Test.YtpnhamfodjfacaaDoorNx0
import Derived.Test.YtpnhamfodjfacaaDoorNx11
namespace Go.Proofs.YtpnhamfodjfacaaDoor.N
open Go.RowKit Go.Proofs.YtpnhamfodjfacaaDoorW.PrintWords Go.Proofs.YtpnhamfodjfacaaDoorW.PrintLast Go.Proofs.YtpnhamfodjfacaaDoorW.PrintMore
attribute [local go_sem] max2_int min2_int max_two min_two max_three min_three max_four min_four   -- for this text's walks alone
set_option linter.unusedVariables false
set_option linter.unusedSimpArgs false

/-! ### codesearchref25_Set: function 39 -/
mutual
def codesearchref25_Set.l0 : Nat → List (S45) → ByteArray → Int → List (S45) → Bool → Int → Option ((List (S45)))
|0,_,_,_,_,_,_ => none
|k + 1,x0,x1,x2,x7,x8,x9 => if x9 < (x0.length : Int) then (if x8 = true then (codesearchref25_Set.j1 k x0 x1 x2 x7 x8 x9 false) else (if 0 ≤ x9 then (codesearchref25_Set.j1 k x0 x1 x2 x7 x8 x9 (!(Op.bytesLess (((rd_T45 x0 x9).f0).toList) x1.toList))) else (none))) else (if x8 = true then (some x7) else (if x7.length < 5864062014805 then (some (x7 ++ [(⟨x1,x2⟩ : S45)])) else (none)))
def codesearchref25_Set.j1 : Nat → List (S45) → ByteArray → Int → List (S45) → Bool → Int → Bool → Option ((List (S45)))
|0,_,_,_,_,_,_,_ => none
|k + 1,x0,x1,x2,x7,x8,x9,x28 => if x28 = true then (if x7.length < 5864062014805 then ((some (x7 ++ [(⟨x1,x2⟩ : S45)] : List (S45))).bind fun y259 => (if 0 ≤ x9 then (if x9 < (x0.length : Int) then (if ((rd_T45 x0 x9).f0).toList = x1.toList then (codesearchref25_Set.l0 k x0 x1 x2 y259 true (wrap64 (x9 + 1))) else (if y259.length < 5864062014805 then (codesearchref25_Set.l0 k x0 x1 x2 (y259 ++ [(⟨(rd_T45 x0 x9).f0,(rd_T45 x0 x9).f1⟩ : S45)]) true (wrap64 (x9 + 1))) else (none))) else (none)) else (none))) else (none)) else (if 0 ≤ x9 then (if x9 < (x0.length : Int) then (if ((rd_T45 x0 x9).f0).toList = x1.toList then (codesearchref25_Set.l0 k x0 x1 x2 x7 x8 (wrap64 (x9 + 1))) else (if x7.length < 5864062014805 then (codesearchref25_Set.l0 k x0 x1 x2 (x7 ++ [(⟨(rd_T45 x0 x9).f0,(rd_T45 x0 x9).f1⟩ : S45)]) x8 (wrap64 (x9 + 1))) else (none))) else (none)) else (none))
end
def codesearchref25_Set.f (k : Nat) (l0 : List (S45)) (a1 : ByteArray) (a2 : Int) : Option ((List (S45))) := codesearchref25_Set.l0 k l0 a1 a2 ([] : List (S45)) (a2 == 0) 0
theorem codesearchref25_Set.mono_l : ∀ k, (∀ y0 y1 y2 y3 y4 y5, LeO (codesearchref25_Set.l0 k y0 y1 y2 y3 y4 y5) (codesearchref25_Set.l0 (k + 1) y0 y1 y2 y3 y4 y5)) ∧ (∀ y0 y1 y2 y3 y4 y5 y6, LeO (codesearchref25_Set.j1 k y0 y1 y2 y3 y4 y5 y6) (codesearchref25_Set.j1 (k + 1) y0 y1 y2 y3 y4 y5 y6))
|0 => ⟨fun _ _ _ _ _ _ r h => by simp [codesearchref25_Set.l0] at h,fun _ _ _ _ _ _ _ r h => by simp [codesearchref25_Set.j1] at h⟩
|k + 1 => by
  obtain ⟨ih0,ih1⟩ := codesearchref25_Set.mono_l k
  refine ⟨?_,?_⟩
  ·intro y0 y1 y2 y3 y4 y5
   unfold codesearchref25_Set.l0
   repeat' first
  |(with_reducible exact ih0 _ _ _ _ _ _)
  |(with_reducible exact ih1 _ _ _ _ _ _ _)
  |(with_reducible exact LeO.refl _)
  |(with_reducible exact LeO.none _)
  |(with_reducible refine LeO.ite ?_ ?_)
  |(with_reducible refine LeO.bind ?_ (fun _ => ?_))
  |exact ih0 _ _ _ _ _ _
  |exact ih1 _ _ _ _ _ _ _
  |exact LeO.none _
  |refine LeO.ite ?_ ?_
  |refine LeO.bind ?_ (fun _ => ?_)
  ·intro y0 y1 y2 y3 y4 y5 y6
   unfold codesearchref25_Set.j1
   repeat' first
  |(with_reducible exact ih0 _ _ _ _ _ _)
  |(with_reducible exact ih1 _ _ _ _ _ _ _)
  |(with_reducible exact LeO.refl _)
  |(with_reducible exact LeO.none _)
  |(with_reducible refine LeO.ite ?_ ?_)
  |(with_reducible refine LeO.bind ?_ (fun _ => ?_))
  |exact ih0 _ _ _ _ _ _
  |exact ih1 _ _ _ _ _ _ _
  |exact LeO.none _
  |refine LeO.ite ?_ ?_
  |refine LeO.bind ?_ (fun _ => ?_)
theorem codesearchref25_Set.mono : ∀ a0 a1 a2 k, LeO (codesearchref25_Set.f k a0 a1 a2) (codesearchref25_Set.f (k + 1) a0 a1 a2) := by
 intro a0 a1 a2 k
 obtain ⟨ih0,ih1⟩ := codesearchref25_Set.mono_l k
 unfold codesearchref25_Set.f
 repeat' first
  |(with_reducible exact ih0 _ _ _ _ _ _)
  |(with_reducible exact ih1 _ _ _ _ _ _ _)
  |(with_reducible exact LeO.refl _)
  |(with_reducible exact LeO.none _)
  |(with_reducible refine LeO.ite ?_ ?_)
  |(with_reducible refine LeO.bind ?_ (fun _ => ?_))
  |exact ih0 _ _ _ _ _ _
  |exact ih1 _ _ _ _ _ _ _
  |exact LeO.none _
  |refine LeO.ite ?_ ?_
  |refine LeO.bind ?_ (fun _ => ?_)
set_option maxHeartbeats 4000000 in
set_option maxRecDepth 100000 in
theorem codesearchref25_Set.calls (k : Nat) (A0 : Option Addr) (c0 : Nat) (l0 : List (S45)) (a1 : ByteArray) (a2 : Int) (r : List (S45)) (w : World) (hr0 : Kd.C k45 w A0 l0.length l0) (hc0 : l0.length ≤ c0) (h : codesearchref25_Set.f k l0 a1 a2 = some r) :
  Calls Tryd.prog 39 #[.slice A0 l0.length c0,.string a1,.int .i64 a2] w fun e w' => ∃ v0_ : Value,e = .returned (v0_) ∧ Kd.R k45 45 w' w.heap.size (fun _ => True) v0_ r ∧ Below w.heap.size w w' := by
 have hu45 := Tryd.underlying45
 have HR0 := Aside0.mk hr0
 have HC0 := Aside0.mk hc0
 clear hr0 hc0
 have HB := Aside0.mk (Below.refl w.heap.size w)
 have H : (codesearchref25_Set.l0 k l0 a1 a2 ([] : List (S45)) (a2 == 0) 0) = some r := h
 clear h
 have H' := Aside0.mk H
 clear H
 go_enter Tryd.func39,Tryd.ntmps39
 go_wp2
 go_loopg [7,8,9] k (fun kq v7 v8 v9 w' => ∃ (x7_1 : List (S45)) (x8_1 : Bool) (x9_1 : Int),v8 = .bool x8_1 ∧ v9 = .int .i64 x9_1 ∧ Aside0 (codesearchref25_Set.l0 kq l0 a1 a2 x7_1 x8_1 x9_1 = some r) ∧ Aside0 (kq ≤ k) ∧ Aside0 (Kd.R k45 45 w' w.heap.size (fun _ => True) v7 x7_1) ∧ Aside0 (Below w.heap.size w w'))
 case atStart => exact ⟨(([] : List (S45))),((a2 == 0)),(0),(by first|rfl|(simp;done)|(simp [*];done)),(by first|rfl|(simp;done)|(simp [*];done)),H',⟨Nat.le_refl _⟩,⟨by first|exact Kd.R_nil _ _ _ _ _|exact Kd.N_nil _ _ _ _ _|exact Kd.V_nil _ _ _ _ _|exact Kd.Q_nil _ _ _ _ _|exact Kd.S_nil _ _ _ _ _⟩,⟨bM HB.out⟩⟩
 case round =>
  clear H'
  try clear p2
  try clear c3
  obtain ⟨x7_1,x8_1,x9_1,rfl,rfl,HA,HK1,HO_7,HB⟩ := hrel
  cases gk with
 |zero => exact absurd HA.out (by simp [codesearchref25_Set.l0])
 |succ k1 =>
   have H := HA.out
   clear HA
   simp only [codesearchref25_Set.l0] at H
   by_cases c4 : x9_1 < (l0.length : Int)
   ·rw [if_pos c4] at H
    have c4b0 : decide (x9_1 < (l0.length : Int)) = true := decide_eq_true c4
    clear c4
    have HC5 := Aside0.mk H
    clear H
    go_upto_region 6 with (fail)
    go_cut [28] (fun v28 wc => ∃ (kq : Nat) (x28_4 : Bool),v28 = .bool x28_4 ∧ Aside0 (codesearchref25_Set.j1 kq l0 a1 a2 x7_1 x8_1 x9_1 x28_4 = some r) ∧ Aside0 (kq ≤ k1) ∧ Aside0 (Kd.R k45 45 wc w.heap.size (fun _ => True) u7 x7_1) ∧ Aside0 (Below w.heap.size w wc))
    case first =>
     have H := HC5.out
     clear HC5
     by_cases c6 : x8_1 = true
     ·subst c6
      have H1 : (codesearchref25_Set.j1 k1 l0 a1 a2 x7_1 true x9_1 false) = some r := by rw [if_pos rfl] at H;exact H
      clear H
      have H := H1
      clear H1
      have H' := Aside0.mk H
      clear H
      go_wp2
      go_meet
      case rel => exact ⟨_,(false),(by first|rfl|(simp;done)|(simp [*];done)),H',⟨by have := HK1.out;first|omega|exact Nat.le_refl _⟩,⟨rM HO_7.out⟩,⟨bM HB.out⟩⟩
     ·replace c6 := Bool.eq_false_iff.mpr c6
      subst c6
      have H1 : (if 0 ≤ x9_1 then (codesearchref25_Set.j1 k1 l0 a1 a2 x7_1 false x9_1 (!(Op.bytesLess (((rd_T45 l0 x9_1).f0).toList) a1.toList))) else (none)) = some r := by rw [if_neg (show ¬ (false = true) by decide)] at H;exact H
      clear H
      have H := H1
      clear H1
      by_cases c7 : 0 ≤ x9_1
      ·rw [if_pos c7] at H
       have c7b0 : decide (0 ≤ x9_1) = true := decide_eq_true c7
       clear c7
       (first|rw [c7b0]|(simp only [i64_w,i32_w];rw [c7b0])|rw [c7b1]|skip)
       have H' := Aside0.mk H
       clear H
       have p258 : 0 ≤ (x9_1 : Int) := of_decide_eq_true (by first|(with_reducible assumption)|assumption)
       have q258 : x9_1 < (l0.length : Int) := of_decide_eq_true (by first|(with_reducible assumption)|assumption)
       obtain ⟨ad258,e258,hx258_0,hx258_1⟩ := at_T45 HR0.out x9_1 p258 q258
       cases e258
       replace hx258_0 := (HB.out.cell (World.block_lt_of_cell? w _ hx258_0)).trans hx258_0
       replace hx258_1 := (HB.out.cell (World.block_lt_of_cell? w _ hx258_1)).trans hx258_1
       replace p258 := eq_true p258
       replace q258 := eq_true q258
       go_wp2
       go_meet
       case rel => exact ⟨_,(!(Op.bytesLess (((rd_T45 l0 x9_1).f0).toList) a1.toList)),(by first|rfl|(simp;done)|(simp [*];done)),H',⟨by have := HK1.out;first|omega|exact Nat.le_refl _⟩,⟨rM HO_7.out⟩,⟨bM HB.out⟩⟩
      ·rw [if_neg c7] at H
       exact absurd H (by simp)
    case rest =>
     clear HC5
     try clear p2
     try clear q2
     try clear hx2
     try clear c3
     try clear c4
     try clear c4b0
     try clear c6
     try clear c7
     try clear c7b0
     try clear hx258_0
     try clear hx258_1
     try clear p2
     try clear p258
     try clear q258
     obtain ⟨kq,x28_4,rfl,HA,HJ4,HO_7,HB⟩ := hcut
     cases kq with
    |zero => exact absurd HA.out (by simp [codesearchref25_Set.j1])
    |succ kj4 =>
      have H := HA.out
      clear HA
      simp only [codesearchref25_Set.j1] at H
      by_cases c8 : x28_4 = true
      ·subst c8
       have H1 : (if x7_1.length < 5864062014805 then ((some (x7_1 ++ [(⟨a1,a2⟩ : S45)] : List (S45))).bind fun y259 => (if 0 ≤ x9_1 then (if x9_1 < (l0.length : Int) then (if ((rd_T45 l0 x9_1).f0).toList = a1.toList then (codesearchref25_Set.l0 kj4 l0 a1 a2 y259 true (wrap64 (x9_1 + 1))) else (if y259.length < 5864062014805 then (codesearchref25_Set.l0 kj4 l0 a1 a2 (y259 ++ [(⟨(rd_T45 l0 x9_1).f0,(rd_T45 l0 x9_1).f1⟩ : S45)]) true (wrap64 (x9_1 + 1))) else (none))) else (none)) else (none))) else (none)) = some r := by rw [if_pos rfl] at H;exact H
       clear H
       have H := H1
       clear H1
       by_cases c9 : x7_1.length < 5864062014805
       ·rw [if_pos c9] at H
        have LMc9 := Aside0.mk c9
        clear c9
        obtain ⟨y259,hy259⟩ : ∃ y_ : List (S45),y_ = (x7_1 ++ [(⟨a1,a2⟩ : S45)]) := ⟨_,rfl⟩
        replace H : (if 0 ≤ x9_1 then (if x9_1 < (l0.length : Int) then (if ((rd_T45 l0 x9_1).f0).toList = a1.toList then (codesearchref25_Set.l0 kj4 l0 a1 a2 y259 true (wrap64 (x9_1 + 1))) else (if y259.length < 5864062014805 then (codesearchref25_Set.l0 kj4 l0 a1 a2 (y259 ++ [(⟨(rd_T45 l0 x9_1).f0,(rd_T45 l0 x9_1).f1⟩ : S45)]) true (wrap64 (x9_1 + 1))) else (none))) else (none)) else (none)) = some r := by first|(rw [hy259];with_reducible exact H)|(have H2_ := (Option.bind_some _ _).symm.trans H;rw [hy259];with_reducible exact H2_)|(have H2_ := (Option.bind_some _ _).symm.trans H;with_reducible exact H2_)|with_reducible exact H|(rw [hy259];exact H)|exact H
        have Ny259 := Aside0.mk hy259
        clear hy259
        by_cases c10 : 0 ≤ x9_1
        ·rw [if_pos c10] at H
         have c10b0 : decide (0 ≤ x9_1) = true := decide_eq_true c10
         clear c10
         by_cases c11 : x9_1 < (l0.length : Int)
         ·rw [if_pos c11] at H
          have c11b0 : decide (x9_1 < (l0.length : Int)) = true := decide_eq_true c11
          clear c11
          by_cases c12 : ((rd_T45 l0 x9_1).f0).toList = a1.toList
          ·rw [if_pos c12] at H
           have c12b0 : (((rd_T45 l0 x9_1).f0).toList == a1.toList) = true := beq_iff_eq.mpr c12
           have c12b1 : (((rd_T45 l0 x9_1).f0).toList != a1.toList) = false := bne_eq_false_iff_eq.mpr c12
           clear c12
           have H' := Aside0.mk H
           clear H
           go_wp2_with (first|((with_reducible refine gate_builtin (b := .append) (xs := #[.tmp 29,.tmp 33]) rfl ?_);at_builtin;refine Kd.R_append k45 (w0 := w) w.heap.size rfl (.tmp 29) (.tmp 33) 22 45 (.agg #[(.string ⟨#[]⟩),(.int .i64 0)]) 24 rfl Tryd.underlying22 info45 rfl (by decide) (by omega) u7 x7_1 (⟨a1,a2⟩ : S45) [.string a1,.int .i64 a2] (fun _ => True) (fun _ => False) rfl rfl ?aP (fun _ hk => hk.elim) ?aF ?aO ?aB ?aS ?aL ?_;(case aP => exact k45_mkM _ _ _ (⟨a1,a2⟩ : S45));(case aB => exact (bM HB.out));(case aF => exact (fun _ _ => trivial));(case aO => exact (rM HO_7.out));(case aS => exact (below_size (bM HB.out)));(case aL => have := LMc9.out;omega);intro v260 w13 ho hb hg hat;rw [← Ny259.out] at ho;have n0_ := Aside0.mk (hb);have n1_ := Aside0.mk (ho);clear HB;clear HO_7;have HB := n0_;have HO261 := n1_;clear n0_ n1_;clear ho hb hg hat;have p262 : 0 ≤ (x9_1 : Int) := of_decide_eq_true (by first|(with_reducible assumption)|assumption);have q262 : x9_1 < (l0.length : Int) := of_decide_eq_true (by first|(with_reducible assumption)|assumption);obtain ⟨ad262,e262,hx262_0,hx262_1⟩ := at_T45 HR0.out x9_1 p262 q262;cases e262;replace hx262_0 := (HB.out.cell (World.block_lt_of_cell? w _ hx262_0)).trans hx262_0;replace hx262_1 := (HB.out.cell (World.block_lt_of_cell? w _ hx262_1)).trans hx262_1;replace p262 := eq_true p262;replace q262 := eq_true q262))
           go_roundg kj4
           case measure => have := HK1.out;have := HJ4.out;omega
           case rel => exact ⟨(y259),(true),(wrap64 (x9_1 + 1)),(by first|rfl|(simp;done)|(simp [*];done)),(by first|rfl|(simp;done)|(simp [*];done)),H',⟨by have := HK1.out;have := HJ4.out;omega⟩,⟨rM HO261.out⟩,⟨bM HB.out⟩⟩
          ·rw [if_neg c12] at H
           have c12b0 : (((rd_T45 l0 x9_1).f0).toList == a1.toList) = false := beq_eq_false_iff_ne.mpr c12
           have c12b1 : (((rd_T45 l0 x9_1).f0).toList != a1.toList) = true := bne_iff_ne.mpr c12
           by_cases c14 : y259.length < 5864062014805
           ·rw [if_pos c14] at H
            have LMc14 := Aside0.mk c14
            clear c14
            obtain ⟨y264,hy264⟩ : ∃ y_ : List (S45),y_ = (y259 ++ [(⟨(rd_T45 l0 x9_1).f0,(rd_T45 l0 x9_1).f1⟩ : S45)]) := ⟨_,rfl⟩
            replace H : (codesearchref25_Set.l0 kj4 l0 a1 a2 y264 true (wrap64 (x9_1 + 1))) = some r := by first|(rw [hy264];with_reducible exact H)|(have H2_ := (Option.bind_some _ _).symm.trans H;rw [hy264];with_reducible exact H2_)|(have H2_ := (Option.bind_some _ _).symm.trans H;with_reducible exact H2_)|with_reducible exact H|(rw [hy264];exact H)|exact H
            have Ny264 := Aside0.mk hy264
            clear hy264
            have H' := Aside0.mk H
            clear H
            go_wp2_with (first|((with_reducible refine gate_builtin (b := .append) (xs := #[.tmp 29,.tmp 33]) rfl ?_);at_builtin;refine Kd.R_append k45 (w0 := w) w.heap.size rfl (.tmp 29) (.tmp 33) 22 45 (.agg #[(.string ⟨#[]⟩),(.int .i64 0)]) 24 rfl Tryd.underlying22 info45 rfl (by decide) (by omega) u7 x7_1 (⟨a1,a2⟩ : S45) [.string a1,.int .i64 a2] (fun _ => True) (fun _ => False) rfl rfl ?aP (fun _ hk => hk.elim) ?aF ?aO ?aB ?aS ?aL ?_;(case aP => exact k45_mkM _ _ _ (⟨a1,a2⟩ : S45));(case aB => exact (bM HB.out));(case aF => exact (fun _ _ => trivial));(case aO => exact (rM HO_7.out));(case aS => exact (below_size (bM HB.out)));(case aL => have := LMc9.out;omega);intro v260 w15 ho hb hg hat;rw [← Ny259.out] at ho;have n0_ := Aside0.mk (hb);have n1_ := Aside0.mk (ho);clear HB;clear HO_7;have HB := n0_;have HO261 := n1_;clear n0_ n1_;clear ho hb hg hat;have p262 : 0 ≤ (x9_1 : Int) := of_decide_eq_true (by first|(with_reducible assumption)|assumption);have q262 : x9_1 < (l0.length : Int) := of_decide_eq_true (by first|(with_reducible assumption)|assumption);obtain ⟨ad262,e262,hx262_0,hx262_1⟩ := at_T45 HR0.out x9_1 p262 q262;cases e262;replace hx262_0 := (HB.out.cell (World.block_lt_of_cell? w _ hx262_0)).trans hx262_0;replace hx262_1 := (HB.out.cell (World.block_lt_of_cell? w _ hx262_1)).trans hx262_1;replace p262 := eq_true p262;replace q262 := eq_true q262;have p263 : 0 ≤ (x9_1 : Int) := of_decide_eq_true (by first|(with_reducible assumption)|assumption);have q263 : x9_1 < (l0.length : Int) := of_decide_eq_true (by first|(with_reducible assumption)|assumption);obtain ⟨ad263,e263,hx263_0,hx263_1⟩ := at_T45 HR0.out x9_1 p263 q263;obtain rfl : ad262 = ad263 := (by injection e263);replace hx263_0 := (HB.out.cell (World.block_lt_of_cell? w _ hx263_0)).trans hx263_0;replace hx263_1 := (HB.out.cell (World.block_lt_of_cell? w _ hx263_1)).trans hx263_1;replace p263 := eq_true p263;replace q263 := eq_true q263)|((with_reducible refine gate_builtin (b := .append) (xs := #[.tmp 42,.tmp 47]) rfl ?_);at_builtin;refine Kd.R_append k45 (w0 := w) w.heap.size rfl (.tmp 42) (.tmp 47) 22 45 (.agg #[(.string ⟨#[]⟩),(.int .i64 0)]) 24 rfl Tryd.underlying22 info45 rfl (by decide) (by omega) v260 y259 (⟨(rd_T45 l0 x9_1).f0,(rd_T45 l0 x9_1).f1⟩ : S45) [.string ((rd_T45 l0 x9_1).f0),.int .i64 ((rd_T45 l0 x9_1).f1)] (fun _ => True) (fun _ => False) rfl rfl ?aP (fun _ hk => hk.elim) ?aF ?aO ?aB ?aS ?aL ?_;(case aP => exact k45_mkM _ _ _ (⟨(rd_T45 l0 x9_1).f0,(rd_T45 l0 x9_1).f1⟩ : S45));(case aB => exact (bM HB.out));(case aF => exact (fun _ _ => trivial));(case aO => exact (rM HO261.out));(case aS => exact (below_size (bM HB.out)));(case aL => have := LMc14.out;omega);intro v265 w16 ho hb hg hat;rw [← Ny264.out] at ho;have n0_ := Aside0.mk (hb);have n1_ := Aside0.mk (ho);clear HB;clear HO261;have HB := n0_;have HO266 := n1_;clear n0_ n1_;clear ho hb hg hat))
            go_roundg kj4
            case measure => have := HK1.out;have := HJ4.out;omega
            case rel => exact ⟨(y264),(true),(wrap64 (x9_1 + 1)),(by first|rfl|(simp;done)|(simp [*];done)),(by first|rfl|(simp;done)|(simp [*];done)),H',⟨by have := HK1.out;have := HJ4.out;omega⟩,⟨rM HO266.out⟩,⟨bM HB.out⟩⟩
           ·rw [if_neg c14] at H
            exact absurd H (by simp)
         ·rw [if_neg c11] at H
          exact absurd H (by simp)
        ·rw [if_neg c10] at H
         exact absurd H (by simp)
       ·rw [if_neg c9] at H
        exact absurd H (by simp)
      ·replace c8 := Bool.eq_false_iff.mpr c8
       subst c8
       have H1 : (if 0 ≤ x9_1 then (if x9_1 < (l0.length : Int) then (if ((rd_T45 l0 x9_1).f0).toList = a1.toList then (codesearchref25_Set.l0 kj4 l0 a1 a2 x7_1 x8_1 (wrap64 (x9_1 + 1))) else (if x7_1.length < 5864062014805 then (codesearchref25_Set.l0 kj4 l0 a1 a2 (x7_1 ++ [(⟨(rd_T45 l0 x9_1).f0,(rd_T45 l0 x9_1).f1⟩ : S45)]) x8_1 (wrap64 (x9_1 + 1))) else (none))) else (none)) else (none)) = some r := by rw [if_neg (show ¬ (false = true) by decide)] at H;exact H
       clear H
       have H := H1
       clear H1
       by_cases c17 : 0 ≤ x9_1
       ·rw [if_pos c17] at H
        have c17b0 : decide (0 ≤ x9_1) = true := decide_eq_true c17
        clear c17
        by_cases c18 : x9_1 < (l0.length : Int)
        ·rw [if_pos c18] at H
         have c18b0 : decide (x9_1 < (l0.length : Int)) = true := decide_eq_true c18
         clear c18
         by_cases c19 : ((rd_T45 l0 x9_1).f0).toList = a1.toList
         ·rw [if_pos c19] at H
          have c19b0 : (((rd_T45 l0 x9_1).f0).toList == a1.toList) = true := beq_iff_eq.mpr c19
          have c19b1 : (((rd_T45 l0 x9_1).f0).toList != a1.toList) = false := bne_eq_false_iff_eq.mpr c19
          clear c19
          have H' := Aside0.mk H
          clear H
          have p267 : 0 ≤ (x9_1 : Int) := of_decide_eq_true (by first|(with_reducible assumption)|assumption)
          have q267 : x9_1 < (l0.length : Int) := of_decide_eq_true (by first|(with_reducible assumption)|assumption)
          obtain ⟨ad267,e267,hx267_0,hx267_1⟩ := at_T45 HR0.out x9_1 p267 q267
          cases e267
          replace hx267_0 := (HB.out.cell (World.block_lt_of_cell? w _ hx267_0)).trans hx267_0
          replace hx267_1 := (HB.out.cell (World.block_lt_of_cell? w _ hx267_1)).trans hx267_1
          replace p267 := eq_true p267
          replace q267 := eq_true q267
          go_wp2
          go_roundg kj4
          case measure => have := HK1.out;have := HJ4.out;omega
          case rel => exact ⟨(x7_1),(x8_1),(wrap64 (x9_1 + 1)),(by first|rfl|(simp;done)|(simp [*];done)),(by first|rfl|(simp;done)|(simp [*];done)),H',⟨by have := HK1.out;have := HJ4.out;omega⟩,⟨rM HO_7.out⟩,⟨bM HB.out⟩⟩
         ·rw [if_neg c19] at H
          have c19b0 : (((rd_T45 l0 x9_1).f0).toList == a1.toList) = false := beq_eq_false_iff_ne.mpr c19
          have c19b1 : (((rd_T45 l0 x9_1).f0).toList != a1.toList) = true := bne_iff_ne.mpr c19
          by_cases c20 : x7_1.length < 5864062014805
          ·rw [if_pos c20] at H
           have LMc20 := Aside0.mk c20
           clear c20
           obtain ⟨y269,hy269⟩ : ∃ y_ : List (S45),y_ = (x7_1 ++ [(⟨(rd_T45 l0 x9_1).f0,(rd_T45 l0 x9_1).f1⟩ : S45)]) := ⟨_,rfl⟩
           replace H : (codesearchref25_Set.l0 kj4 l0 a1 a2 y269 x8_1 (wrap64 (x9_1 + 1))) = some r := by first|(rw [hy269];with_reducible exact H)|(have H2_ := (Option.bind_some _ _).symm.trans H;rw [hy269];with_reducible exact H2_)|(have H2_ := (Option.bind_some _ _).symm.trans H;with_reducible exact H2_)|with_reducible exact H|(rw [hy269];exact H)|exact H
           have Ny269 := Aside0.mk hy269
           clear hy269
           have H' := Aside0.mk H
           clear H
           have p267 : 0 ≤ (x9_1 : Int) := of_decide_eq_true (by first|(with_reducible assumption)|assumption)
           have q267 : x9_1 < (l0.length : Int) := of_decide_eq_true (by first|(with_reducible assumption)|assumption)
           obtain ⟨ad267,e267,hx267_0,hx267_1⟩ := at_T45 HR0.out x9_1 p267 q267
           cases e267
           replace hx267_0 := (HB.out.cell (World.block_lt_of_cell? w _ hx267_0)).trans hx267_0
           replace hx267_1 := (HB.out.cell (World.block_lt_of_cell? w _ hx267_1)).trans hx267_1
           replace p267 := eq_true p267
           replace q267 := eq_true q267
           have p268 : 0 ≤ (x9_1 : Int) := of_decide_eq_true (by first|(with_reducible assumption)|assumption)
           have q268 : x9_1 < (l0.length : Int) := of_decide_eq_true (by first|(with_reducible assumption)|assumption)
           obtain ⟨ad268,e268,hx268_0,hx268_1⟩ := at_T45 HR0.out x9_1 p268 q268
           obtain rfl : ad267 = ad268 := (by injection e268)
           replace hx268_0 := (HB.out.cell (World.block_lt_of_cell? w _ hx268_0)).trans hx268_0
           replace hx268_1 := (HB.out.cell (World.block_lt_of_cell? w _ hx268_1)).trans hx268_1
           replace p268 := eq_true p268
           replace q268 := eq_true q268
           go_wp2_with (first|((with_reducible refine gate_builtin (b := .append) (xs := #[.tmp 42,.tmp 47]) rfl ?_);at_builtin;refine Kd.R_append k45 (w0 := w) w.heap.size rfl (.tmp 42) (.tmp 47) 22 45 (.agg #[(.string ⟨#[]⟩),(.int .i64 0)]) 24 rfl Tryd.underlying22 info45 rfl (by decide) (by omega) u7 x7_1 (⟨(rd_T45 l0 x9_1).f0,(rd_T45 l0 x9_1).f1⟩ : S45) [.string ((rd_T45 l0 x9_1).f0),.int .i64 ((rd_T45 l0 x9_1).f1)] (fun _ => True) (fun _ => False) rfl rfl ?aP (fun _ hk => hk.elim) ?aF ?aO ?aB ?aS ?aL ?_;(case aP => exact k45_mkM _ _ _ (⟨(rd_T45 l0 x9_1).f0,(rd_T45 l0 x9_1).f1⟩ : S45));(case aB => exact (bM HB.out));(case aF => exact (fun _ _ => trivial));(case aO => exact (rM HO_7.out));(case aS => exact (below_size (bM HB.out)));(case aL => have := LMc20.out;omega);intro v270 w21 ho hb hg hat;rw [← Ny269.out] at ho;have n0_ := Aside0.mk (hb);have n1_ := Aside0.mk (ho);clear HB;clear HO_7;have HB := n0_;have HO271 := n1_;clear n0_ n1_;clear ho hb hg hat))
           go_roundg kj4
           case measure => have := HK1.out;have := HJ4.out;omega
           case rel => exact ⟨(y269),(x8_1),(wrap64 (x9_1 + 1)),(by first|rfl|(simp;done)|(simp [*];done)),(by first|rfl|(simp;done)|(simp [*];done)),H',⟨by have := HK1.out;have := HJ4.out;omega⟩,⟨rM HO271.out⟩,⟨bM HB.out⟩⟩
          ·rw [if_neg c20] at H
           exact absurd H (by simp)
        ·rw [if_neg c18] at H
         exact absurd H (by simp)
       ·rw [if_neg c17] at H
        exact absurd H (by simp)
   ·rw [if_neg c4] at H
    have c4b0 : decide (x9_1 < (l0.length : Int)) = false := decide_eq_false c4
    clear c4
    by_cases c22 : x8_1 = true
    ·subst c22
     have H1 : (some x7_1) = some r := by rw [if_pos rfl] at H;exact H
     clear H
     have H := H1
     clear H1
     obtain rfl := Option.some.inj H
     go_wp2
     go_ret
     exact ⟨_,by first|rfl|(simp [errW_none,errW_some] <;> rfl)|(simp [*,errW_none,errW_some] <;> rfl),rM HO_7.out,bM HB.out⟩
    ·replace c22 := Bool.eq_false_iff.mpr c22
     subst c22
     have H1 : (if x7_1.length < 5864062014805 then (some (x7_1 ++ [(⟨a1,a2⟩ : S45)])) else (none)) = some r := by rw [if_neg (show ¬ (false = true) by decide)] at H;exact H
     clear H
     have H := H1
     clear H1
     by_cases c23 : x7_1.length < 5864062014805
     ·rw [if_pos c23] at H
      have LMc23 := Aside0.mk c23
      clear c23
      obtain ⟨y255,hy255⟩ : ∃ y_ : List (S45),y_ = (x7_1 ++ [(⟨a1,a2⟩ : S45)]) := ⟨_,rfl⟩
      replace H : (some y255) = some r := by first|(rw [hy255];with_reducible exact H)|(have H2_ := (Option.bind_some _ _).symm.trans H;rw [hy255];with_reducible exact H2_)|(have H2_ := (Option.bind_some _ _).symm.trans H;with_reducible exact H2_)|with_reducible exact H|(rw [hy255];exact H)|exact H
      have Ny255 := Aside0.mk hy255
      clear hy255
      obtain rfl := Option.some.inj H
      go_wp2_with (first|((with_reducible refine gate_builtin (b := .append) (xs := #[.tmp 51,.tmp 55]) rfl ?_);at_builtin;refine Kd.R_append k45 (w0 := w) w.heap.size rfl (.tmp 51) (.tmp 55) 22 45 (.agg #[(.string ⟨#[]⟩),(.int .i64 0)]) 24 rfl Tryd.underlying22 info45 rfl (by decide) (by omega) u7 x7_1 (⟨a1,a2⟩ : S45) [.string a1,.int .i64 a2] (fun _ => True) (fun _ => False) rfl rfl ?aP (fun _ hk => hk.elim) ?aF ?aO ?aB ?aS ?aL ?_;(case aP => exact k45_mkM _ _ _ (⟨a1,a2⟩ : S45));(case aB => exact (bM HB.out));(case aF => exact (fun _ _ => trivial));(case aO => exact (rM HO_7.out));(case aS => exact (below_size (bM HB.out)));(case aL => have := LMc23.out;omega);intro v256 w24 ho hb hg hat;rw [← Ny255.out] at ho;have n0_ := Aside0.mk (hb);have n1_ := Aside0.mk (ho);clear HB;clear HO_7;have HB := n0_;have HO257 := n1_;clear n0_ n1_;clear ho hb hg hat))
      go_ret
      exact ⟨_,by first|rfl|(simp [errW_none,errW_some] <;> rfl)|(simp [*,errW_none,errW_some] <;> rfl),rM HO257.out,bM HB.out⟩
     ·rw [if_neg c23] at H
      exact absurd H (by simp)

/-! ### codesearchref25_Names: function 27 -/
mutual
def codesearchref25_Names.l0 : Nat → ByteArray → List (S45) → List (S45) → Int → Option (List ByteArray)
|0,_,_,_,_ => none
|k + 1,x1,x5,x6,x7 => if x7 < (x6.length : Int) then (if (x1.size : Int) > 0 then (codesearchref25_Names.j1 k x1 x5 x6 x7 (wrap64 ((x1.size : Int) + 1))) else (codesearchref25_Names.j1 k x1 x5 x6 x7 0)) else (codesearchref25_Names.l2 k x5 ([] : List ByteArray) 0)
def codesearchref25_Names.j1 : Nat → ByteArray → List (S45) → List (S45) → Int → Int → Option (List ByteArray)
|0,_,_,_,_,_ => none
|k + 1,x1,x5,x6,x7,x8 => codesearchref25_Names.l1 k x1 x5 x6 x7 x8 x8
def codesearchref25_Names.l1 : Nat → ByteArray → List (S45) → List (S45) → Int → Int → Int → Option (List ByteArray)
|0,_,_,_,_,_,_ => none
|k + 1,x1,x5,x6,x7,x8,x9 => if 0 ≤ x7 then (if x7 < (x6.length : Int) then (if x9 < (((rd_T45 x6 x7).f0).size : Int) then (if 0 ≤ x9 then (if (bt ((rd_T45 x6 x7).f0) x9) = 47 then (if 0 ≤ x8 then (if x8 ≤ x9 then (if x9 ≤ (((rd_T45 x6 x7).f0).size : Int) then ((codesearchref25_Set.f k x5 (((rd_T45 x6 x7).f0).extract (x8 : Int).toNat (x9 : Int).toNat) 1).bind fun t278 => (codesearchref25_Names.l0 k x1 t278 x6 (wrap64 (x7 + 1)))) else (none)) else (none)) else (none)) else (codesearchref25_Names.l1 k x1 x5 x6 x7 x8 (wrap64 (x9 + 1)))) else (none)) else (if 0 ≤ x8 then (if x8 ≤ x9 then (if x9 ≤ (((rd_T45 x6 x7).f0).size : Int) then ((codesearchref25_Set.f k x5 (((rd_T45 x6 x7).f0).extract (x8 : Int).toNat (x9 : Int).toNat) 1).bind fun t282 => (codesearchref25_Names.l0 k x1 t282 x6 (wrap64 (x7 + 1)))) else (none)) else (none)) else (none))) else (none)) else (none)
def codesearchref25_Names.l2 : Nat → List (S45) → List ByteArray → Int → Option (List ByteArray)
|0,_,_,_ => none
|k + 1,x5,x10,x11 => if x11 < (x5.length : Int) then (if 0 ≤ x11 then (if x10.length < 8796093022208 then (codesearchref25_Names.l2 k x5 (x10 ++ [(rd_T45 x5 x11).f0]) (wrap64 (x11 + 1))) else (none)) else (none)) else (some x10)
end
def codesearchref25_Names.f (k : Nat) (l0 : List (S45)) (a1 : ByteArray) : Option (List ByteArray) := (codesearchref25_Under.f k l0 a1).bind fun t272 => (codesearchref25_Names.l0 k a1 ([] : List (S45)) t272 0)
theorem codesearchref25_Names.mono_l : ∀ k, (∀ y0 y1 y2 y3, LeO (codesearchref25_Names.l0 k y0 y1 y2 y3) (codesearchref25_Names.l0 (k + 1) y0 y1 y2 y3)) ∧ (∀ y0 y1 y2 y3 y4, LeO (codesearchref25_Names.j1 k y0 y1 y2 y3 y4) (codesearchref25_Names.j1 (k + 1) y0 y1 y2 y3 y4)) ∧ (∀ y0 y1 y2 y3 y4 y5, LeO (codesearchref25_Names.l1 k y0 y1 y2 y3 y4 y5) (codesearchref25_Names.l1 (k + 1) y0 y1 y2 y3 y4 y5)) ∧ (∀ y0 y1 y2, LeO (codesearchref25_Names.l2 k y0 y1 y2) (codesearchref25_Names.l2 (k + 1) y0 y1 y2))
|0 => ⟨fun _ _ _ _ r h => by simp [codesearchref25_Names.l0] at h,fun _ _ _ _ _ r h => by simp [codesearchref25_Names.j1] at h,fun _ _ _ _ _ _ r h => by simp [codesearchref25_Names.l1] at h,fun _ _ _ r h => by simp [codesearchref25_Names.l2] at h⟩
|k + 1 => by
  obtain ⟨ih0,ih1,ih2,ih3⟩ := codesearchref25_Names.mono_l k
  refine ⟨?_,?_,?_,?_⟩
  ·intro y0 y1 y2 y3
   unfold codesearchref25_Names.l0
   repeat' first
  |(with_reducible exact ih0 _ _ _ _)
  |(with_reducible exact ih1 _ _ _ _ _)
  |(with_reducible exact ih2 _ _ _ _ _ _)
  |(with_reducible exact ih3 _ _ _)
  |(with_reducible exact codesearchref25_Set.mono _ _ _ _)
  |(with_reducible exact codesearchref25_Under.mono _ _ _)
  |(with_reducible exact LeO.refl _)
  |(with_reducible exact LeO.none _)
  |(with_reducible refine LeO.ite ?_ ?_)
  |(with_reducible refine LeO.bind ?_ (fun _ => ?_))
  |exact ih0 _ _ _ _
  |exact ih1 _ _ _ _ _
  |exact ih2 _ _ _ _ _ _
  |exact ih3 _ _ _
  |exact codesearchref25_Set.mono _ _ _ _
  |exact codesearchref25_Under.mono _ _ _
  |exact LeO.none _
  |refine LeO.ite ?_ ?_
  |refine LeO.bind ?_ (fun _ => ?_)
  ·intro y0 y1 y2 y3 y4
   unfold codesearchref25_Names.j1
   repeat' first
  |(with_reducible exact ih0 _ _ _ _)
  |(with_reducible exact ih1 _ _ _ _ _)
  |(with_reducible exact ih2 _ _ _ _ _ _)
  |(with_reducible exact ih3 _ _ _)
  |(with_reducible exact codesearchref25_Set.mono _ _ _ _)
  |(with_reducible exact codesearchref25_Under.mono _ _ _)
  |(with_reducible exact LeO.refl _)
  |(with_reducible exact LeO.none _)
  |(with_reducible refine LeO.ite ?_ ?_)
  |(with_reducible refine LeO.bind ?_ (fun _ => ?_))
  |exact ih0 _ _ _ _
  |exact ih1 _ _ _ _ _
  |exact ih2 _ _ _ _ _ _
  |exact ih3 _ _ _
  |exact codesearchref25_Set.mono _ _ _ _
  |exact codesearchref25_Under.mono _ _ _
  |exact LeO.none _
  |refine LeO.ite ?_ ?_
  |refine LeO.bind ?_ (fun _ => ?_)
  ·intro y0 y1 y2 y3 y4 y5
   unfold codesearchref25_Names.l1
   repeat' first
  |(with_reducible exact ih0 _ _ _ _)
  |(with_reducible exact ih1 _ _ _ _ _)
  |(with_reducible exact ih2 _ _ _ _ _ _)
  |(with_reducible exact ih3 _ _ _)
  |(with_reducible exact codesearchref25_Set.mono _ _ _ _)
  |(with_reducible exact codesearchref25_Under.mono _ _ _)
  |(with_reducible exact LeO.refl _)
  |(with_reducible exact LeO.none _)
  |(with_reducible refine LeO.ite ?_ ?_)
  |(with_reducible refine LeO.bind ?_ (fun _ => ?_))
  |exact ih0 _ _ _ _
  |exact ih1 _ _ _ _ _
  |exact ih2 _ _ _ _ _ _
  |exact ih3 _ _ _
  |exact codesearchref25_Set.mono _ _ _ _
  |exact codesearchref25_Under.mono _ _ _
  |exact LeO.none _
  |refine LeO.ite ?_ ?_
  |refine LeO.bind ?_ (fun _ => ?_)
  ·intro y0 y1 y2
   unfold codesearchref25_Names.l2
   repeat' first
  |(with_reducible exact ih0 _ _ _ _)
  |(with_reducible exact ih1 _ _ _ _ _)
  |(with_reducible exact ih2 _ _ _ _ _ _)
  |(with_reducible exact ih3 _ _ _)
  |(with_reducible exact codesearchref25_Set.mono _ _ _ _)
  |(with_reducible exact codesearchref25_Under.mono _ _ _)
  |(with_reducible exact LeO.refl _)
  |(with_reducible exact LeO.none _)
  |(with_reducible refine LeO.ite ?_ ?_)
  |(with_reducible refine LeO.bind ?_ (fun _ => ?_))
  |exact ih0 _ _ _ _
  |exact ih1 _ _ _ _ _
  |exact ih2 _ _ _ _ _ _
  |exact ih3 _ _ _
  |exact codesearchref25_Set.mono _ _ _ _
  |exact codesearchref25_Under.mono _ _ _
  |exact LeO.none _
  |refine LeO.ite ?_ ?_
  |refine LeO.bind ?_ (fun _ => ?_)
theorem codesearchref25_Names.mono : ∀ a0 a1 k, LeO (codesearchref25_Names.f k a0 a1) (codesearchref25_Names.f (k + 1) a0 a1) := by
 intro a0 a1 k
 obtain ⟨ih0,ih1,ih2,ih3⟩ := codesearchref25_Names.mono_l k
 unfold codesearchref25_Names.f
 repeat' first
  |(with_reducible exact ih0 _ _ _ _)
  |(with_reducible exact ih1 _ _ _ _ _)
  |(with_reducible exact ih2 _ _ _ _ _ _)
  |(with_reducible exact ih3 _ _ _)
  |(with_reducible exact codesearchref25_Set.mono _ _ _ _)
  |(with_reducible exact codesearchref25_Under.mono _ _ _)
  |(with_reducible exact LeO.refl _)
  |(with_reducible exact LeO.none _)
  |(with_reducible refine LeO.ite ?_ ?_)
  |(with_reducible refine LeO.bind ?_ (fun _ => ?_))
  |exact ih0 _ _ _ _
  |exact ih1 _ _ _ _ _
  |exact ih2 _ _ _ _ _ _
  |exact ih3 _ _ _
  |exact codesearchref25_Set.mono _ _ _ _
  |exact codesearchref25_Under.mono _ _ _
  |exact LeO.none _
  |refine LeO.ite ?_ ?_
  |refine LeO.bind ?_ (fun _ => ?_)
set_option maxHeartbeats 4000000 in
set_option maxRecDepth 100000 in
theorem codesearchref25_Names.calls (k : Nat) (A0 : Option Addr) (c0 : Nat) (l0 : List (S45)) (a1 : ByteArray) (r : List ByteArray) (w : World) (hr0 : Kd.C k45 w A0 l0.length l0) (hc0 : l0.length ≤ c0) (h : codesearchref25_Names.f k l0 a1 = some r) :
  Calls Tryd.prog 27 #[.slice A0 l0.length c0,.string a1] w fun e w' => ∃ v0_ : Value,e = .returned (v0_) ∧ Kd.R Kd.string 9 w' w.heap.size (fun _ => True) v0_ r ∧ Below w.heap.size w w' := by
 have HR0 := Aside0.mk hr0
 have HC0 := Aside0.mk hc0
 clear hr0 hc0
 have HB := Aside0.mk (Below.refl w.heap.size w)
 have H : ((codesearchref25_Under.f k l0 a1).bind fun t272 => (codesearchref25_Names.l0 k a1 ([] : List (S45)) t272 0)) = some r := h
 clear h
 replace H := Option.bind_eq_some_iff.mp H
 obtain ⟨t272,A30,H⟩ := H
 replace H : (codesearchref25_Names.l0 k a1 ([] : List (S45)) t272 0) = some r := H
 have A3 := Aside0.mk A30
 clear A30
 have H' := Aside0.mk H
 clear H
 go_enter Tryd.func27,Tryd.ntmps27
 go_wp2_with (first|((with_reducible refine gate_callee (f := 24) rfl ?_);refine goesL_ (some 14) rfl rfl Tryd.func24 (by kernel_rfl) rfl #[.slice A0 l0.length c0,.string a1] rfl (by (try simp only [List.map_toArray,List.map_cons,List.map_nil]);first|done|rfl|(simp only [List.length_drop,List.length_take];rfl)) ?_;(with_reducible refine (codesearchref25_Under.calls k _ _ l0 a1 t272 _ ?side1 ?side2 A3.out).mono ?_);(case side1 => exact cM HR0.out);(case side2 => exact HC0.out);rintro e w4 ⟨v273,rfl,ho0,hb⟩;refine ⟨_,rfl,?_⟩;have n0_ := Aside0.mk (Kd.R_lower ho0 (below_size (bM HB.out)));have n1_ := Aside0.mk (below_step (bM HB.out) hb);clear HB;have HO274 := n0_;have HB := n1_;clear n0_ n1_;(try clear hb);(try clear hb2);(try clear hk);(try clear hi);(try clear ho0)))
 go_loopg [5,7] k (fun kq v5 v7 w' => ∃ (x5_1 : List (S45)) (x7_1 : Int),v7 = .int .i64 x7_1 ∧ Aside0 (codesearchref25_Names.l0 kq a1 x5_1 t272 x7_1 = some r) ∧ Aside0 (kq ≤ k) ∧ Aside0 (Kd.R k45 45 w' w.heap.size (fun k_ => some k_ ≠ (v273 : Value).ownBlock) v5 x5_1) ∧ Aside0 (Kd.R k45 45 w' w.heap.size (fun k_ => some k_ ≠ (v5 : Value).ownBlock) v273 t272) ∧ Aside0 (Below w.heap.size w w'))
 case atStart => exact ⟨(([] : List (S45))),(0),(by first|rfl|(simp;done)|(simp [*];done)),H',⟨Nat.le_refl _⟩,⟨by first|exact Kd.R_nil _ _ _ _ _|exact Kd.N_nil _ _ _ _ _|exact Kd.V_nil _ _ _ _ _|exact Kd.Q_nil _ _ _ _ _|exact Kd.S_nil _ _ _ _ _⟩,⟨rM (Kd.R_mono HO274.out (fun _ hk => (by simp [Value.ownBlock])))⟩,⟨bM HB.out⟩⟩
 case round =>
  clear H'
  try clear c2
  try clear p2
  obtain ⟨x5_1,x7_1,rfl,HA,HK1,HO_5,HO_6,HB⟩ := hrel
  cases gk with
 |zero => exact absurd HA.out (by simp [codesearchref25_Names.l0])
 |succ k1 =>
   have H := HA.out
   clear HA
   simp only [codesearchref25_Names.l0] at H
   by_cases c5 : x7_1 < (t272.length : Int)
   ·rw [if_pos c5] at H
    have c5b0 : decide (x7_1 < (t272.length : Int)) = true := decide_eq_true c5
    clear c5
    have HC6 := Aside0.mk H
    clear H
    obtain ⟨Ao7,co7,eo7⟩ := Kd.R_slice HO_6.out
    subst eo7
    go_upto_if 23 with (fail)
    go_cut [8] (fun v8 wc => ∃ (kq : Nat) (x8_5 : Int),v8 = .int .i64 x8_5 ∧ Aside0 (codesearchref25_Names.j1 kq a1 x5_1 t272 x7_1 x8_5 = some r) ∧ Aside0 (kq ≤ k1) ∧ Aside0 (Kd.R k45 45 wc w.heap.size (fun k_ => some k_ ≠ ((.slice Ao7 t272.length co7) : Value).ownBlock) u5 x5_1) ∧ Aside0 (Kd.R k45 45 wc w.heap.size (fun k_ => some k_ ≠ (u5 : Value).ownBlock) (.slice Ao7 t272.length co7) t272) ∧ Aside0 (Below w.heap.size w wc))
    case first =>
     have H := HC6.out
     clear HC6
     by_cases c8 : (a1.size : Int) > 0
     ·rw [if_pos c8] at H
      have c8b0 : decide (0 < (a1.size : Int)) = true := decide_eq_true c8
      have c8b1 : decide (0 < a1.size) = true := decide_eq_true (by omega)
      clear c8
      (first|rw [c8b0]|(simp only [i64_w,i32_w];rw [c8b0])|rw [c8b1]|skip)
      have H' := Aside0.mk H
      clear H
      go_wp2
      go_meet
      case rel => exact ⟨_,(wrap64 ((a1.size : Int) + 1)),(by first|rfl|(simp;done)|(simp [*];done)),H',⟨by have := HK1.out;first|omega|exact Nat.le_refl _⟩,⟨rM HO_5.out⟩,⟨rM HO_6.out⟩,⟨bM HB.out⟩⟩
     ·rw [if_neg c8] at H
      have c8b0 : decide (0 < (a1.size : Int)) = false := decide_eq_false c8
      have c8b1 : decide (0 < a1.size) = false := decide_eq_false (by omega)
      clear c8
      (first|rw [c8b0]|(simp only [i64_w,i32_w];rw [c8b0])|rw [c8b1]|skip)
      have H' := Aside0.mk H
      clear H
      go_wp2
      go_meet
      case rel => exact ⟨_,(0),(by first|rfl|(simp;done)|(simp [*];done)),H',⟨by have := HK1.out;first|omega|exact Nat.le_refl _⟩,⟨rM HO_5.out⟩,⟨rM HO_6.out⟩,⟨bM HB.out⟩⟩
    case rest =>
     clear HC6
     try clear c2
     try clear p2
     try clear c5
     try clear c5b0
     try clear p6
     try clear c8
     try clear c8b0
     try clear c8b1
     try clear p2
     obtain ⟨kq,x8_5,rfl,HA,HJ5,HO_5,HO_6,HB⟩ := hcut
     cases kq with
    |zero => exact absurd HA.out (by simp [codesearchref25_Names.j1])
    |succ kj5 =>
      have H := HA.out
      clear HA
      simp only [codesearchref25_Names.j1] at H
      have H' := Aside0.mk H
      clear H
      go_wp2
      go_loopg [9] kj5 (fun kq v9 w' => ∃ (x9_3 : Int),v9 = .int .i64 x9_3 ∧ Aside0 (codesearchref25_Names.l1 kq a1 x5_1 t272 x7_1 x8_5 x9_3 = some r) ∧ Aside0 (kq ≤ kj5) ∧ Aside0 (Kd.R k45 45 w' w.heap.size (fun k_ => some k_ ≠ ((.slice Ao7 t272.length co7) : Value).ownBlock) u5 x5_1) ∧ Aside0 (Kd.R k45 45 w' w.heap.size (fun k_ => some k_ ≠ (u5 : Value).ownBlock) (.slice Ao7 t272.length co7) t272) ∧ Aside0 (Below w.heap.size w w'))
      case atStart => exact ⟨(x8_5),(by first|rfl|(simp;done)|(simp [*];done)),H',⟨Nat.le_refl _⟩,⟨rM HO_5.out⟩,⟨rM HO_6.out⟩,⟨bM HB.out⟩⟩
      case round =>
       clear H'
       try clear c2
       try clear p2
       try clear c5
       try clear c5b0
       try clear p6
       try clear c8
       try clear c8b0
       try clear c8b1
       try clear p2
       try clear p6
       obtain ⟨x9_3,rfl,HA,HK3,HO_5,HO_6,HB⟩ := hrel
       cases gk with
      |zero => exact absurd HA.out (by simp [codesearchref25_Names.l1])
      |succ k3 =>
        have H := HA.out
        clear HA
        simp only [codesearchref25_Names.l1] at H
        by_cases c9 : 0 ≤ x7_1
        ·rw [if_pos c9] at H
         have c9b0 : decide (0 ≤ x7_1) = true := decide_eq_true c9
         clear c9
         by_cases c10 : x7_1 < (t272.length : Int)
         ·rw [if_pos c10] at H
          have c10b0 : decide (x7_1 < (t272.length : Int)) = true := decide_eq_true c10
          clear c10
          by_cases c11 : x9_3 < (((rd_T45 t272 x7_1).f0).size : Int)
          ·rw [if_pos c11] at H
           have c11b0 : decide (x9_3 < (((rd_T45 t272 x7_1).f0).size : Int)) = true := decide_eq_true c11
           clear c11
           by_cases c12 : 0 ≤ x9_3
           ·rw [if_pos c12] at H
            have c12b0 : decide (0 ≤ x9_3) = true := decide_eq_true c12
            clear c12
            by_cases c14 : (bt ((rd_T45 t272 x7_1).f0) x9_3) = 47
            ·rw [if_pos c14] at H
             have c14b0 : ((bt ((rd_T45 t272 x7_1).f0) x9_3) == 47) = true := beq_iff_eq.mpr c14
             have c14b1 : ((bt ((rd_T45 t272 x7_1).f0) x9_3) != 47) = false := bne_eq_false_iff_eq.mpr c14
             clear c14
             by_cases c15 : 0 ≤ x8_5
             ·rw [if_pos c15] at H
              have c15b0 := eq_true c15
              have c15b1 : decide (0 ≤ x8_5) = true := decide_eq_true c15
              clear c15
              by_cases c16 : x8_5 ≤ x9_3
              ·rw [if_pos c16] at H
               have c16b0 := eq_true c16
               have c16b1 : decide (x8_5 ≤ x9_3) = true := decide_eq_true c16
               clear c16
               by_cases c17 : x9_3 ≤ (((rd_T45 t272 x7_1).f0).size : Int)
               ·rw [if_pos c17] at H
                have c17b0 := eq_true c17
                have c17b1 : decide (x9_3 ≤ (((rd_T45 t272 x7_1).f0).size : Int)) = true := decide_eq_true c17
                clear c17
                replace H := Option.bind_eq_some_iff.mp H
                obtain ⟨t278,A180,H⟩ := H
                replace H : (codesearchref25_Names.l0 k3 a1 t278 t272 (wrap64 (x7_1 + 1))) = some r := H
                have A18 := Aside0.mk A180
                clear A180
                have H' := Aside0.mk H
                clear H
                have p275 : 0 ≤ (x7_1 : Int) := of_decide_eq_true (by first|(with_reducible assumption)|assumption)
                have q275 : x7_1 < (t272.length : Int) := of_decide_eq_true (by first|(with_reducible assumption)|assumption)
                obtain ⟨ad275,e275,hx275_0,hx275_1⟩ := at_T45 (Kd.R_reads' HO_6.out).2.2 x7_1 p275 q275
                cases e275
                replace p275 := eq_true p275
                replace q275 := eq_true q275
                have p276 : 0 ≤ (x7_1 : Int) := of_decide_eq_true (by first|(with_reducible assumption)|assumption)
                have q276 : x7_1 < (t272.length : Int) := of_decide_eq_true (by first|(with_reducible assumption)|assumption)
                obtain ⟨ad276,e276,hx276_0,hx276_1⟩ := at_T45 (Kd.R_reads' HO_6.out).2.2 x7_1 p276 q276
                obtain rfl : ad275 = ad276 := (by injection e276)
                replace p276 := eq_true p276
                replace q276 := eq_true q276
                have p13 : 0 ≤ (x9_3 : Int) := of_decide_eq_true (by first|(with_reducible assumption)|assumption)
                have q13 : x9_3 < (((rd_T45 t272 x7_1).f0).size : Int) := of_decide_eq_true (by first|(with_reducible assumption)|assumption)
                have hx13 := bt_at ((rd_T45 t272 x7_1).f0) x9_3
                replace p13 := eq_true p13
                replace q13 := eq_true q13
                have p277 : 0 ≤ (x7_1 : Int) := of_decide_eq_true (by first|(with_reducible assumption)|assumption)
                have q277 : x7_1 < (t272.length : Int) := of_decide_eq_true (by first|(with_reducible assumption)|assumption)
                obtain ⟨ad277,e277,hx277_0,hx277_1⟩ := at_T45 (Kd.R_reads' HO_6.out).2.2 x7_1 p277 q277
                obtain rfl : ad275 = ad277 := (by injection e277)
                replace p277 := eq_true p277
                replace q277 := eq_true q277
                obtain ⟨Ao19,co19,eo19⟩ := Kd.R_slice HO_5.out
                subst eo19
                go_wp2_with (first|((with_reducible refine gate_callee (f := 39) rfl ?_);refine goesL_ (some 57) rfl rfl Tryd.func39 (by kernel_rfl) rfl #[.slice Ao19 x5_1.length co19,.string (((rd_T45 t272 x7_1).f0).extract (x8_5 : Int).toNat (x9_3 : Int).toNat),.int .i64 1] rfl (by (try simp only [List.map_toArray,List.map_cons,List.map_nil]);first|done|rfl|(simp only [List.length_drop,List.length_take];rfl)) ?_;(with_reducible refine (codesearchref25_Set.calls k3 _ _ x5_1 (((rd_T45 t272 x7_1).f0).extract (x8_5 : Int).toNat (x9_3 : Int).toNat) 1 t278 _ ?side1 ?side2 A18.out).mono ?_);(case side1 => exact cM (Kd.R_reads' HO_5.out).2.2);(case side2 => exact (Kd.R_reads' HO_5.out).2.1);rintro e w20 ⟨v279,rfl,ho0,hb⟩;refine ⟨_,rfl,?_⟩;have n0_ := Aside0.mk (Kd.R_elder' (rM HO_5.out) (Kd.R_base ho0) hb);have n1_ := Aside0.mk (Kd.R_elder' (rM HO_6.out) (Kd.R_base ho0) hb);have n2_ := Aside0.mk (Kd.R_lower (Kd.R_new' (Kd.R_new' ho0 (Kd.R_lt (rM HO_5.out))) (Kd.R_lt (rM HO_6.out))) (below_size (bM HB.out)));have n3_ := Aside0.mk (below_step (bM HB.out) hb);clear HO_5;clear HO_6;clear HB;have HO_5 := n0_;have HO_6 := n1_;have HO280 := n2_;have HB := n3_;clear n0_ n1_ n2_ n3_;(try clear hb);(try clear hb2);(try clear hk);(try clear hi);(try clear ho0)))
                go_roundg k3
                case measure => have := HK1.out;have := HJ5.out;have := HK3.out;omega
                case rel => exact ⟨(t278),(wrap64 (x7_1 + 1)),(by first|rfl|(simp;done)|(simp [*];done)),H',⟨by have := HK1.out;have := HJ5.out;have := HK3.out;omega⟩,⟨by (with_reducible repeat (first|apply Kd.R_alloc|apply Kd.R_drewN|apply Kd.R_drew));exact Kd.R_mono HO280.out (fun _ hk => hk.2)⟩,⟨by (with_reducible repeat (first|apply Kd.R_alloc|apply Kd.R_drewN|apply Kd.R_drew));exact Kd.R_mono HO_6.out (fun _ hk => hk.2)⟩,⟨bM HB.out⟩⟩
               ·rw [if_neg c17] at H
                exact absurd H (by simp)
              ·rw [if_neg c16] at H
               exact absurd H (by simp)
             ·rw [if_neg c15] at H
              exact absurd H (by simp)
            ·rw [if_neg c14] at H
             have c14b0 : ((bt ((rd_T45 t272 x7_1).f0) x9_3) == 47) = false := beq_eq_false_iff_ne.mpr c14
             have c14b1 : ((bt ((rd_T45 t272 x7_1).f0) x9_3) != 47) = true := bne_iff_ne.mpr c14
             have H' := Aside0.mk H
             clear H
             have p275 : 0 ≤ (x7_1 : Int) := of_decide_eq_true (by first|(with_reducible assumption)|assumption)
             have q275 : x7_1 < (t272.length : Int) := of_decide_eq_true (by first|(with_reducible assumption)|assumption)
             obtain ⟨ad275,e275,hx275_0,hx275_1⟩ := at_T45 (Kd.R_reads' HO_6.out).2.2 x7_1 p275 q275
             cases e275
             replace p275 := eq_true p275
             replace q275 := eq_true q275
             have p276 : 0 ≤ (x7_1 : Int) := of_decide_eq_true (by first|(with_reducible assumption)|assumption)
             have q276 : x7_1 < (t272.length : Int) := of_decide_eq_true (by first|(with_reducible assumption)|assumption)
             obtain ⟨ad276,e276,hx276_0,hx276_1⟩ := at_T45 (Kd.R_reads' HO_6.out).2.2 x7_1 p276 q276
             obtain rfl : ad275 = ad276 := (by injection e276)
             replace p276 := eq_true p276
             replace q276 := eq_true q276
             have p13 : 0 ≤ (x9_3 : Int) := of_decide_eq_true (by first|(with_reducible assumption)|assumption)
             have q13 : x9_3 < (((rd_T45 t272 x7_1).f0).size : Int) := of_decide_eq_true (by first|(with_reducible assumption)|assumption)
             have hx13 := bt_at ((rd_T45 t272 x7_1).f0) x9_3
             replace p13 := eq_true p13
             replace q13 := eq_true q13
             go_wp2
             go_roundg k3
             case measure => have := HK1.out;have := HJ5.out;have := HK3.out;omega
             case rel => exact ⟨(wrap64 (x9_3 + 1)),(by first|rfl|(simp;done)|(simp [*];done)),H',⟨by have := HK1.out;have := HJ5.out;have := HK3.out;omega⟩,⟨rM HO_5.out⟩,⟨rM HO_6.out⟩,⟨bM HB.out⟩⟩
           ·rw [if_neg c12] at H
            exact absurd H (by simp)
          ·rw [if_neg c11] at H
           have c11b0 : decide (x9_3 < (((rd_T45 t272 x7_1).f0).size : Int)) = false := decide_eq_false c11
           clear c11
           by_cases c21 : 0 ≤ x8_5
           ·rw [if_pos c21] at H
            have c21b0 := eq_true c21
            have c21b1 : decide (0 ≤ x8_5) = true := decide_eq_true c21
            clear c21
            by_cases c22 : x8_5 ≤ x9_3
            ·rw [if_pos c22] at H
             have c22b0 := eq_true c22
             have c22b1 : decide (x8_5 ≤ x9_3) = true := decide_eq_true c22
             clear c22
             by_cases c23 : x9_3 ≤ (((rd_T45 t272 x7_1).f0).size : Int)
             ·rw [if_pos c23] at H
              have c23b0 := eq_true c23
              have c23b1 : decide (x9_3 ≤ (((rd_T45 t272 x7_1).f0).size : Int)) = true := decide_eq_true c23
              clear c23
              replace H := Option.bind_eq_some_iff.mp H
              obtain ⟨t282,A240,H⟩ := H
              replace H : (codesearchref25_Names.l0 k3 a1 t282 t272 (wrap64 (x7_1 + 1))) = some r := H
              have A24 := Aside0.mk A240
              clear A240
              have H' := Aside0.mk H
              clear H
              have p275 : 0 ≤ (x7_1 : Int) := of_decide_eq_true (by first|(with_reducible assumption)|assumption)
              have q275 : x7_1 < (t272.length : Int) := of_decide_eq_true (by first|(with_reducible assumption)|assumption)
              obtain ⟨ad275,e275,hx275_0,hx275_1⟩ := at_T45 (Kd.R_reads' HO_6.out).2.2 x7_1 p275 q275
              cases e275
              replace p275 := eq_true p275
              replace q275 := eq_true q275
              have p281 : 0 ≤ (x7_1 : Int) := of_decide_eq_true (by first|(with_reducible assumption)|assumption)
              have q281 : x7_1 < (t272.length : Int) := of_decide_eq_true (by first|(with_reducible assumption)|assumption)
              obtain ⟨ad281,e281,hx281_0,hx281_1⟩ := at_T45 (Kd.R_reads' HO_6.out).2.2 x7_1 p281 q281
              obtain rfl : ad275 = ad281 := (by injection e281)
              replace p281 := eq_true p281
              replace q281 := eq_true q281
              obtain ⟨Ao25,co25,eo25⟩ := Kd.R_slice HO_5.out
              subst eo25
              go_wp2_with (first|((with_reducible refine gate_callee (f := 39) rfl ?_);refine goesL_ (some 57) rfl rfl Tryd.func39 (by kernel_rfl) rfl #[.slice Ao25 x5_1.length co25,.string (((rd_T45 t272 x7_1).f0).extract (x8_5 : Int).toNat (x9_3 : Int).toNat),.int .i64 1] rfl (by (try simp only [List.map_toArray,List.map_cons,List.map_nil]);first|done|rfl|(simp only [List.length_drop,List.length_take];rfl)) ?_;(with_reducible refine (codesearchref25_Set.calls k3 _ _ x5_1 (((rd_T45 t272 x7_1).f0).extract (x8_5 : Int).toNat (x9_3 : Int).toNat) 1 t282 _ ?side1 ?side2 A24.out).mono ?_);(case side1 => exact cM (Kd.R_reads' HO_5.out).2.2);(case side2 => exact (Kd.R_reads' HO_5.out).2.1);rintro e w26 ⟨v283,rfl,ho0,hb⟩;refine ⟨_,rfl,?_⟩;have n0_ := Aside0.mk (Kd.R_elder' (rM HO_5.out) (Kd.R_base ho0) hb);have n1_ := Aside0.mk (Kd.R_elder' (rM HO_6.out) (Kd.R_base ho0) hb);have n2_ := Aside0.mk (Kd.R_lower (Kd.R_new' (Kd.R_new' ho0 (Kd.R_lt (rM HO_5.out))) (Kd.R_lt (rM HO_6.out))) (below_size (bM HB.out)));have n3_ := Aside0.mk (below_step (bM HB.out) hb);clear HO_5;clear HO_6;clear HB;have HO_5 := n0_;have HO_6 := n1_;have HO284 := n2_;have HB := n3_;clear n0_ n1_ n2_ n3_;(try clear hb);(try clear hb2);(try clear hk);(try clear hi);(try clear ho0)))
              go_roundg k3
              case measure => have := HK1.out;have := HJ5.out;have := HK3.out;omega
              case rel => exact ⟨(t282),(wrap64 (x7_1 + 1)),(by first|rfl|(simp;done)|(simp [*];done)),H',⟨by have := HK1.out;have := HJ5.out;have := HK3.out;omega⟩,⟨by (with_reducible repeat (first|apply Kd.R_alloc|apply Kd.R_drewN|apply Kd.R_drew));exact Kd.R_mono HO284.out (fun _ hk => hk.2)⟩,⟨by (with_reducible repeat (first|apply Kd.R_alloc|apply Kd.R_drewN|apply Kd.R_drew));exact Kd.R_mono HO_6.out (fun _ hk => hk.2)⟩,⟨bM HB.out⟩⟩
             ·rw [if_neg c23] at H
              exact absurd H (by simp)
            ·rw [if_neg c22] at H
             exact absurd H (by simp)
           ·rw [if_neg c21] at H
            exact absurd H (by simp)
         ·rw [if_neg c10] at H
          exact absurd H (by simp)
        ·rw [if_neg c9] at H
         exact absurd H (by simp)
   ·rw [if_neg c5] at H
    have c5b0 : decide (x7_1 < (t272.length : Int)) = false := decide_eq_false c5
    clear c5
    have H' := Aside0.mk H
    clear H
    obtain ⟨Ao27,co27,eo27⟩ := Kd.R_slice HO_6.out
    subst eo27
    go_wp2
    go_loopg [10,11] k1 (fun kq v10 v11 w' => ∃ (x10_2 : List ByteArray) (x11_2 : Int),v11 = .int .i64 x11_2 ∧ Aside0 (codesearchref25_Names.l2 kq x5_1 x10_2 x11_2 = some r) ∧ Aside0 (kq ≤ k1) ∧ Aside0 (Kd.R k45 45 w' w.heap.size (fun _ => True) u5 x5_1) ∧ Aside0 (Kd.R Kd.string 9 w' w.heap.size (fun _ => True) v10 x10_2) ∧ Aside0 (Below w.heap.size w w'))
    case atStart => exact ⟨(([] : List ByteArray)),(0),(by first|rfl|(simp;done)|(simp [*];done)),H',⟨Nat.le_refl _⟩,⟨rM (Kd.R_mono HO_5.out (fun _ hk => trivial))⟩,⟨by first|exact Kd.R_nil _ _ _ _ _|exact Kd.N_nil _ _ _ _ _|exact Kd.V_nil _ _ _ _ _|exact Kd.Q_nil _ _ _ _ _|exact Kd.S_nil _ _ _ _ _⟩,⟨bM HB.out⟩⟩
    case round =>
     clear H'
     try clear c1
     try clear p1
     try clear q1
     try clear hx1
     try clear c2
     try clear p2
     try clear q2
     try clear hx2
     try clear c3
     try clear c5
     try clear c5b0
     try clear p6
     try clear c8
     try clear c8b0
     try clear c8b1
     try clear c9
     try clear c9b0
     try clear c10
     try clear c10b0
     try clear c11
     try clear c11b0
     try clear c12
     try clear c12b0
     try clear p13
     try clear q13
     try clear hx13
     try clear c14
     try clear c14b0
     try clear c14b1
     try clear c15
     try clear c15b0
     try clear c15b1
     try clear c16
     try clear c16b0
     try clear c16b1
     try clear c17
     try clear c17b0
     try clear c17b1
     try clear c21
     try clear c21b0
     try clear c21b1
     try clear c22
     try clear c22b0
     try clear c22b1
     try clear c23
     try clear c23b0
     try clear c23b1
     try clear c24
     try clear c27
     try clear p27
     try clear q27
     try clear hx27
     try clear hx275_0
     try clear hx275_1
     try clear hx276_0
     try clear hx276_1
     try clear hx277_0
     try clear hx277_1
     try clear hx281_0
     try clear hx281_1
     try clear p13
     try clear p2
     try clear p275
     try clear p276
     try clear p277
     try clear p281
     try clear p6
     try clear q13
     try clear q275
     try clear q276
     try clear q277
     try clear q281
     obtain ⟨x10_2,x11_2,rfl,HA,HK2,HO_5,HO_10,HB⟩ := hrel
     cases gk with
    |zero => exact absurd HA.out (by simp [codesearchref25_Names.l2])
    |succ k2 =>
      have H := HA.out
      clear HA
      simp only [codesearchref25_Names.l2] at H
      by_cases c28 : x11_2 < (x5_1.length : Int)
      ·rw [if_pos c28] at H
       have c28b0 : decide (x11_2 < (x5_1.length : Int)) = true := decide_eq_true c28
       clear c28
       by_cases c29 : 0 ≤ x11_2
       ·rw [if_pos c29] at H
        have c29b0 : decide (0 ≤ x11_2) = true := decide_eq_true c29
        clear c29
        by_cases c30 : x10_2.length < 8796093022208
        ·rw [if_pos c30] at H
         have LMc30 := Aside0.mk c30
         clear c30
         obtain ⟨y286,hy286⟩ : ∃ y_ : List ByteArray,y_ = (x10_2 ++ [(rd_T45 x5_1 x11_2).f0]) := ⟨_,rfl⟩
         replace H : (codesearchref25_Names.l2 k2 x5_1 y286 (wrap64 (x11_2 + 1))) = some r := by first|(rw [hy286];with_reducible exact H)|(have H2_ := (Option.bind_some _ _).symm.trans H;rw [hy286];with_reducible exact H2_)|(have H2_ := (Option.bind_some _ _).symm.trans H;with_reducible exact H2_)|with_reducible exact H|(rw [hy286];exact H)|exact H
         have Ny286 := Aside0.mk hy286
         clear hy286
         have H' := Aside0.mk H
         clear H
         obtain ⟨Ao31,co31,eo31⟩ := Kd.R_slice HO_5.out
         subst eo31
         have p285 : 0 ≤ (x11_2 : Int) := of_decide_eq_true (by first|(with_reducible assumption)|assumption)
         have q285 : x11_2 < (x5_1.length : Int) := of_decide_eq_true (by first|(with_reducible assumption)|assumption)
         obtain ⟨ad285,e285,hx285_0,hx285_1⟩ := at_T45 (Kd.R_reads' HO_5.out).2.2 x11_2 p285 q285
         cases e285
         replace p285 := eq_true p285
         replace q285 := eq_true q285
         go_wp2_with (first|((with_reducible refine gate_builtin (b := .append) (xs := #[.tmp 64,.tmp 70]) rfl ?_);at_builtin;refine Kd.R_append Kd.string (w0 := w) w.heap.size rfl (.tmp 64) (.tmp 70) 39 9 (.string ⟨#[]⟩) 16 rfl Tryd.underlying39 info9 rfl (by decide) (by omega) u10 x10_2 ((rd_T45 x5_1 x11_2).f0) [.string ((rd_T45 x5_1 x11_2).f0)] (fun _ => True) (fun _ => False) rfl rfl ?aP (fun _ hk => hk.elim) ?aF ?aO ?aB ?aS ?aL ?_;(case aP => exact rfl);(case aB => exact (bM HB.out));(case aF => exact (fun _ _ => trivial));(case aO => exact (rM HO_10.out));(case aS => exact (below_size (bM HB.out)));(case aL => have := LMc30.out;omega);intro v287 w32 ho hb hg hat;rw [← Ny286.out] at ho;have n0_ := Aside0.mk (Kd.R_over' (rM HO_5.out) (Kd.R_typed (rM HO_10.out)) (by decide) hg);have n1_ := Aside0.mk (hb);have n2_ := Aside0.mk (ho);clear HO_5;clear HB;clear HO_10;have HO_5 := n0_;have HB := n1_;have HO288 := n2_;clear n0_ n1_ n2_;clear ho hb hg hat))
         go_roundg k2
         case measure => have := HK1.out;have := HK2.out;omega
         case rel => exact ⟨(y286),(wrap64 (x11_2 + 1)),(by first|rfl|(simp;done)|(simp [*];done)),H',⟨by have := HK1.out;have := HK2.out;omega⟩,⟨rM HO_5.out⟩,⟨rM HO288.out⟩,⟨bM HB.out⟩⟩
        ·rw [if_neg c30] at H
         exact absurd H (by simp)
       ·rw [if_neg c29] at H
        exact absurd H (by simp)
      ·rw [if_neg c28] at H
       have c28b0 : decide (x11_2 < (x5_1.length : Int)) = false := decide_eq_false c28
       clear c28
       obtain rfl := Option.some.inj H
       obtain ⟨Ao33,co33,eo33⟩ := Kd.R_slice HO_5.out
       subst eo33
       go_wp2
       go_ret
       exact ⟨_,by first|rfl|(simp [errW_none,errW_some] <;> rfl)|(simp [*,errW_none,errW_some] <;> rfl),rM HO_10.out,bM HB.out⟩

end Go.Proofs.YtpnhamfodjfacaaDoor.N
