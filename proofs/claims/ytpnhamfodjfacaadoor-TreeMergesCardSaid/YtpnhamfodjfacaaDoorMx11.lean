-- Written by hp.py, a program of this session, over the kit's print of the translation. Not trusted: Lean checks it.
import Derived.Test.YtpnhamfodjfacaaDoorMx0
namespace Go.Proofs.YtpnhamfodjfacaaDoor.M
open Go.RowKit Go.Proofs.YtpnhamfodjfacaaDoorW.PrintWords Go.Proofs.YtpnhamfodjfacaaDoorW.PrintLast Go.Proofs.YtpnhamfodjfacaaDoorW.PrintMore
attribute [local go_sem] max2_int min2_int max_two min_two max_three min_three max_four min_four   -- for this text's walks alone
set_option linter.unusedVariables false
set_option linter.unusedSimpArgs false

/-! ### codesearchref25_Set: function 39 -/
mutual
def codesearchref25_Set.l0 : Nat → List (S45) → ByteArray → Int → List (S45) → Bool → Int → Option ((List (S45)))
|0,_,_,_,_,_,_ => none
|k + 1,x0,x1,x2,x7,x8,x9 => if x9 < (x0.length : Int) then (if x8 = true then (codesearchref25_Set.j1 k x0 x1 x2 x7 x8 x9 false) else (if 0 ≤ x9 then (codesearchref25_Set.j1 k x0 x1 x2 x7 x8 x9 (!(Op.bytesLess (((rd_T45 x0 x9).f0).toList) x1.toList))) else (none))) else (if x8 = true then (some x7) else (if x7.length < 5864062014805 then (some (x7 ++ [(⟨x1,x2⟩ : S45)])) else (none)))
def codesearchref25_Set.j1 : Nat → List (S45) → ByteArray → Int → List (S45) → Bool → Int → Bool → Option ((List (S45)))
|0,_,_,_,_,_,_,_ => none
|k + 1,x0,x1,x2,x7,x8,x9,x28 => if x28 = true then (if x7.length < 5864062014805 then ((some (x7 ++ [(⟨x1,x2⟩ : S45)] : List (S45))).bind fun y255 => (if 0 ≤ x9 then (if x9 < (x0.length : Int) then (if ((rd_T45 x0 x9).f0).toList = x1.toList then (codesearchref25_Set.l0 k x0 x1 x2 y255 true (wrap64 (x9 + 1))) else (if y255.length < 5864062014805 then (codesearchref25_Set.l0 k x0 x1 x2 (y255 ++ [(⟨(rd_T45 x0 x9).f0,(rd_T45 x0 x9).f1⟩ : S45)]) true (wrap64 (x9 + 1))) else (none))) else (none)) else (none))) else (none)) else (if 0 ≤ x9 then (if x9 < (x0.length : Int) then (if ((rd_T45 x0 x9).f0).toList = x1.toList then (codesearchref25_Set.l0 k x0 x1 x2 x7 x8 (wrap64 (x9 + 1))) else (if x7.length < 5864062014805 then (codesearchref25_Set.l0 k x0 x1 x2 (x7 ++ [(⟨(rd_T45 x0 x9).f0,(rd_T45 x0 x9).f1⟩ : S45)]) x8 (wrap64 (x9 + 1))) else (none))) else (none)) else (none))
end
def codesearchref25_Set.f (k : Nat) (l0 : List (S45)) (a1 : ByteArray) (a2 : Int) : Option ((List (S45))) := codesearchref25_Set.l0 k l0 a1 a2 ([] : List (S45)) (a2 == 0) 0
theorem codesearchref25_Set.mono_l : ∀ k, (∀ y0 y1 y2 y3 y4 y5, LeO (codesearchref25_Set.l0 k y0 y1 y2 y3 y4 y5) (codesearchref25_Set.l0 (k + 1) y0 y1 y2 y3 y4 y5)) ∧ (∀ y0 y1 y2 y3 y4 y5 y6, LeO (codesearchref25_Set.j1 k y0 y1 y2 y3 y4 y5 y6) (codesearchref25_Set.j1 (k + 1) y0 y1 y2 y3 y4 y5 y6))
|0 => ⟨fun _ _ _ _ _ _ r h => by simp [codesearchref25_Set.l0] at h,fun _ _ _ _ _ _ _ r h => by simp [codesearchref25_Set.j1] at h⟩
|k + 1 => by
  obtain ⟨ih0,ih1⟩ := codesearchref25_Set.mono_l k
  refine ⟨?_,?_⟩
  ·intro y0 y1 y2 y3 y4 y5
   unfold codesearchref25_Set.l0
   repeat' first
  |(with_reducible exact ih0 _ _ _ _ _ _)
  |(with_reducible exact ih1 _ _ _ _ _ _ _)
  |(with_reducible exact LeO.refl _)
  |(with_reducible exact LeO.none _)
  |(with_reducible refine LeO.ite ?_ ?_)
  |(with_reducible refine LeO.bind ?_ (fun _ => ?_))
  |exact ih0 _ _ _ _ _ _
  |exact ih1 _ _ _ _ _ _ _
  |exact LeO.none _
  |refine LeO.ite ?_ ?_
  |refine LeO.bind ?_ (fun _ => ?_)
  ·intro y0 y1 y2 y3 y4 y5 y6
   unfold codesearchref25_Set.j1
   repeat' first
  |(with_reducible exact ih0 _ _ _ _ _ _)
  |(with_reducible exact ih1 _ _ _ _ _ _ _)
  |(with_reducible exact LeO.refl _)
  |(with_reducible exact LeO.none _)
  |(with_reducible refine LeO.ite ?_ ?_)
  |(with_reducible refine LeO.bind ?_ (fun _ => ?_))
  |exact ih0 _ _ _ _ _ _
  |exact ih1 _ _ _ _ _ _ _
  |exact LeO.none _
  |refine LeO.ite ?_ ?_
  |refine LeO.bind ?_ (fun _ => ?_)
theorem codesearchref25_Set.mono : ∀ a0 a1 a2 k, LeO (codesearchref25_Set.f k a0 a1 a2) (codesearchref25_Set.f (k + 1) a0 a1 a2) := by
 intro a0 a1 a2 k
 obtain ⟨ih0,ih1⟩ := codesearchref25_Set.mono_l k
 unfold codesearchref25_Set.f
 repeat' first
  |(with_reducible exact ih0 _ _ _ _ _ _)
  |(with_reducible exact ih1 _ _ _ _ _ _ _)
  |(with_reducible exact LeO.refl _)
  |(with_reducible exact LeO.none _)
  |(with_reducible refine LeO.ite ?_ ?_)
  |(with_reducible refine LeO.bind ?_ (fun _ => ?_))
  |exact ih0 _ _ _ _ _ _
  |exact ih1 _ _ _ _ _ _ _
  |exact LeO.none _
  |refine LeO.ite ?_ ?_
  |refine LeO.bind ?_ (fun _ => ?_)
set_option maxHeartbeats 4000000 in
set_option maxRecDepth 100000 in
theorem codesearchref25_Set.calls (k : Nat) (A0 : Option Addr) (c0 : Nat) (l0 : List (S45)) (a1 : ByteArray) (a2 : Int) (r : List (S45)) (w : World) (hr0 : Kd.C k45 w A0 l0.length l0) (hc0 : l0.length ≤ c0) (h : codesearchref25_Set.f k l0 a1 a2 = some r) :
  Calls Tryd.prog 39 #[.slice A0 l0.length c0,.string a1,.int .i64 a2] w fun e w' => ∃ v0_ : Value,e = .returned (v0_) ∧ Kd.R k45 45 w' w.heap.size (fun _ => True) v0_ r ∧ Below w.heap.size w w' := by
 have hu45 := Tryd.underlying45
 have HR0 := Aside0.mk hr0
 have HC0 := Aside0.mk hc0
 clear hr0 hc0
 have HB := Aside0.mk (Below.refl w.heap.size w)
 have H : (codesearchref25_Set.l0 k l0 a1 a2 ([] : List (S45)) (a2 == 0) 0) = some r := h
 clear h
 have H' := Aside0.mk H
 clear H
 go_enter Tryd.func39,Tryd.ntmps39
 go_wp2
 go_loopg [7,8,9] k (fun kq v7 v8 v9 w' => ∃ (x7_1 : List (S45)) (x8_1 : Bool) (x9_1 : Int),v8 = .bool x8_1 ∧ v9 = .int .i64 x9_1 ∧ Aside0 (codesearchref25_Set.l0 kq l0 a1 a2 x7_1 x8_1 x9_1 = some r) ∧ Aside0 (kq ≤ k) ∧ Aside0 (Kd.R k45 45 w' w.heap.size (fun _ => True) v7 x7_1) ∧ Aside0 (Below w.heap.size w w'))
 case atStart => exact ⟨(([] : List (S45))),((a2 == 0)),(0),(by first|rfl|(simp;done)|(simp [*];done)),(by first|rfl|(simp;done)|(simp [*];done)),H',⟨Nat.le_refl _⟩,⟨by first|exact Kd.R_nil _ _ _ _ _|exact Kd.N_nil _ _ _ _ _|exact Kd.V_nil _ _ _ _ _|exact Kd.Q_nil _ _ _ _ _|exact Kd.S_nil _ _ _ _ _⟩,⟨bM HB.out⟩⟩
 case round =>
  clear H'
  try clear p2
  try clear c3
  obtain ⟨x7_1,x8_1,x9_1,rfl,rfl,HA,HK1,HO_7,HB⟩ := hrel
  cases gk with
 |zero => exact absurd HA.out (by simp [codesearchref25_Set.l0])
 |succ k1 =>
   have H := HA.out
   clear HA
   simp only [codesearchref25_Set.l0] at H
   by_cases c4 : x9_1 < (l0.length : Int)
   ·rw [if_pos c4] at H
    have c4b0 : decide (x9_1 < (l0.length : Int)) = true := decide_eq_true c4
    clear c4
    have HC5 := Aside0.mk H
    clear H
    go_upto_region 6 with (fail)
    go_cut [28] (fun v28 wc => ∃ (kq : Nat) (x28_4 : Bool),v28 = .bool x28_4 ∧ Aside0 (codesearchref25_Set.j1 kq l0 a1 a2 x7_1 x8_1 x9_1 x28_4 = some r) ∧ Aside0 (kq ≤ k1) ∧ Aside0 (Kd.R k45 45 wc w.heap.size (fun _ => True) u7 x7_1) ∧ Aside0 (Below w.heap.size w wc))
    case first =>
     have H := HC5.out
     clear HC5
     by_cases c6 : x8_1 = true
     ·subst c6
      have H1 : (codesearchref25_Set.j1 k1 l0 a1 a2 x7_1 true x9_1 false) = some r := by rw [if_pos rfl] at H;exact H
      clear H
      have H := H1
      clear H1
      have H' := Aside0.mk H
      clear H
      go_wp2
      go_meet
      case rel => exact ⟨_,(false),(by first|rfl|(simp;done)|(simp [*];done)),H',⟨by have := HK1.out;first|omega|exact Nat.le_refl _⟩,⟨rM HO_7.out⟩,⟨bM HB.out⟩⟩
     ·replace c6 := Bool.eq_false_iff.mpr c6
      subst c6
      have H1 : (if 0 ≤ x9_1 then (codesearchref25_Set.j1 k1 l0 a1 a2 x7_1 false x9_1 (!(Op.bytesLess (((rd_T45 l0 x9_1).f0).toList) a1.toList))) else (none)) = some r := by rw [if_neg (show ¬ (false = true) by decide)] at H;exact H
      clear H
      have H := H1
      clear H1
      by_cases c7 : 0 ≤ x9_1
      ·rw [if_pos c7] at H
       have c7b0 : decide (0 ≤ x9_1) = true := decide_eq_true c7
       clear c7
       (first|rw [c7b0]|(simp only [i64_w,i32_w];rw [c7b0])|rw [c7b1]|skip)
       have H' := Aside0.mk H
       clear H
       have p254 : 0 ≤ (x9_1 : Int) := of_decide_eq_true (by first|(with_reducible assumption)|assumption)
       have q254 : x9_1 < (l0.length : Int) := of_decide_eq_true (by first|(with_reducible assumption)|assumption)
       obtain ⟨ad254,e254,hx254_0,hx254_1⟩ := at_T45 HR0.out x9_1 p254 q254
       cases e254
       replace hx254_0 := (HB.out.cell (World.block_lt_of_cell? w _ hx254_0)).trans hx254_0
       replace hx254_1 := (HB.out.cell (World.block_lt_of_cell? w _ hx254_1)).trans hx254_1
       replace p254 := eq_true p254
       replace q254 := eq_true q254
       go_wp2
       go_meet
       case rel => exact ⟨_,(!(Op.bytesLess (((rd_T45 l0 x9_1).f0).toList) a1.toList)),(by first|rfl|(simp;done)|(simp [*];done)),H',⟨by have := HK1.out;first|omega|exact Nat.le_refl _⟩,⟨rM HO_7.out⟩,⟨bM HB.out⟩⟩
      ·rw [if_neg c7] at H
       exact absurd H (by simp)
    case rest =>
     clear HC5
     try clear p2
     try clear q2
     try clear hx2
     try clear c3
     try clear c4
     try clear c4b0
     try clear c6
     try clear c7
     try clear c7b0
     try clear hx254_0
     try clear hx254_1
     try clear p2
     try clear p254
     try clear q254
     obtain ⟨kq,x28_4,rfl,HA,HJ4,HO_7,HB⟩ := hcut
     cases kq with
    |zero => exact absurd HA.out (by simp [codesearchref25_Set.j1])
    |succ kj4 =>
      have H := HA.out
      clear HA
      simp only [codesearchref25_Set.j1] at H
      by_cases c8 : x28_4 = true
      ·subst c8
       have H1 : (if x7_1.length < 5864062014805 then ((some (x7_1 ++ [(⟨a1,a2⟩ : S45)] : List (S45))).bind fun y255 => (if 0 ≤ x9_1 then (if x9_1 < (l0.length : Int) then (if ((rd_T45 l0 x9_1).f0).toList = a1.toList then (codesearchref25_Set.l0 kj4 l0 a1 a2 y255 true (wrap64 (x9_1 + 1))) else (if y255.length < 5864062014805 then (codesearchref25_Set.l0 kj4 l0 a1 a2 (y255 ++ [(⟨(rd_T45 l0 x9_1).f0,(rd_T45 l0 x9_1).f1⟩ : S45)]) true (wrap64 (x9_1 + 1))) else (none))) else (none)) else (none))) else (none)) = some r := by rw [if_pos rfl] at H;exact H
       clear H
       have H := H1
       clear H1
       by_cases c9 : x7_1.length < 5864062014805
       ·rw [if_pos c9] at H
        have LMc9 := Aside0.mk c9
        clear c9
        obtain ⟨y255,hy255⟩ : ∃ y_ : List (S45),y_ = (x7_1 ++ [(⟨a1,a2⟩ : S45)]) := ⟨_,rfl⟩
        replace H : (if 0 ≤ x9_1 then (if x9_1 < (l0.length : Int) then (if ((rd_T45 l0 x9_1).f0).toList = a1.toList then (codesearchref25_Set.l0 kj4 l0 a1 a2 y255 true (wrap64 (x9_1 + 1))) else (if y255.length < 5864062014805 then (codesearchref25_Set.l0 kj4 l0 a1 a2 (y255 ++ [(⟨(rd_T45 l0 x9_1).f0,(rd_T45 l0 x9_1).f1⟩ : S45)]) true (wrap64 (x9_1 + 1))) else (none))) else (none)) else (none)) = some r := by first|(rw [hy255];with_reducible exact H)|(have H2_ := (Option.bind_some _ _).symm.trans H;rw [hy255];with_reducible exact H2_)|(have H2_ := (Option.bind_some _ _).symm.trans H;with_reducible exact H2_)|with_reducible exact H|(rw [hy255];exact H)|exact H
        have Ny255 := Aside0.mk hy255
        clear hy255
        by_cases c10 : 0 ≤ x9_1
        ·rw [if_pos c10] at H
         have c10b0 : decide (0 ≤ x9_1) = true := decide_eq_true c10
         clear c10
         by_cases c11 : x9_1 < (l0.length : Int)
         ·rw [if_pos c11] at H
          have c11b0 : decide (x9_1 < (l0.length : Int)) = true := decide_eq_true c11
          clear c11
          by_cases c12 : ((rd_T45 l0 x9_1).f0).toList = a1.toList
          ·rw [if_pos c12] at H
           have c12b0 : (((rd_T45 l0 x9_1).f0).toList == a1.toList) = true := beq_iff_eq.mpr c12
           have c12b1 : (((rd_T45 l0 x9_1).f0).toList != a1.toList) = false := bne_eq_false_iff_eq.mpr c12
           clear c12
           have H' := Aside0.mk H
           clear H
           go_wp2_with (first|((with_reducible refine gate_builtin (b := .append) (xs := #[.tmp 29,.tmp 33]) rfl ?_);at_builtin;refine Kd.R_append k45 (w0 := w) w.heap.size rfl (.tmp 29) (.tmp 33) 22 45 (.agg #[(.string ⟨#[]⟩),(.int .i64 0)]) 24 rfl Tryd.underlying22 info45 rfl (by decide) (by omega) u7 x7_1 (⟨a1,a2⟩ : S45) [.string a1,.int .i64 a2] (fun _ => True) (fun _ => False) rfl rfl ?aP (fun _ hk => hk.elim) ?aF ?aO ?aB ?aS ?aL ?_;(case aP => exact k45_mkM _ _ _ (⟨a1,a2⟩ : S45));(case aB => exact (bM HB.out));(case aF => exact (fun _ _ => trivial));(case aO => exact (rM HO_7.out));(case aS => exact (below_size (bM HB.out)));(case aL => have := LMc9.out;omega);intro v256 w13 ho hb hg hat;rw [← Ny255.out] at ho;have n0_ := Aside0.mk (hb);have n1_ := Aside0.mk (ho);clear HB;clear HO_7;have HB := n0_;have HO257 := n1_;clear n0_ n1_;clear ho hb hg hat;have p258 : 0 ≤ (x9_1 : Int) := of_decide_eq_true (by first|(with_reducible assumption)|assumption);have q258 : x9_1 < (l0.length : Int) := of_decide_eq_true (by first|(with_reducible assumption)|assumption);obtain ⟨ad258,e258,hx258_0,hx258_1⟩ := at_T45 HR0.out x9_1 p258 q258;cases e258;replace hx258_0 := (HB.out.cell (World.block_lt_of_cell? w _ hx258_0)).trans hx258_0;replace hx258_1 := (HB.out.cell (World.block_lt_of_cell? w _ hx258_1)).trans hx258_1;replace p258 := eq_true p258;replace q258 := eq_true q258))
           go_roundg kj4
           case measure => have := HK1.out;have := HJ4.out;omega
           case rel => exact ⟨(y255),(true),(wrap64 (x9_1 + 1)),(by first|rfl|(simp;done)|(simp [*];done)),(by first|rfl|(simp;done)|(simp [*];done)),H',⟨by have := HK1.out;have := HJ4.out;omega⟩,⟨rM HO257.out⟩,⟨bM HB.out⟩⟩
          ·rw [if_neg c12] at H
           have c12b0 : (((rd_T45 l0 x9_1).f0).toList == a1.toList) = false := beq_eq_false_iff_ne.mpr c12
           have c12b1 : (((rd_T45 l0 x9_1).f0).toList != a1.toList) = true := bne_iff_ne.mpr c12
           by_cases c14 : y255.length < 5864062014805
           ·rw [if_pos c14] at H
            have LMc14 := Aside0.mk c14
            clear c14
            obtain ⟨y260,hy260⟩ : ∃ y_ : List (S45),y_ = (y255 ++ [(⟨(rd_T45 l0 x9_1).f0,(rd_T45 l0 x9_1).f1⟩ : S45)]) := ⟨_,rfl⟩
            replace H : (codesearchref25_Set.l0 kj4 l0 a1 a2 y260 true (wrap64 (x9_1 + 1))) = some r := by first|(rw [hy260];with_reducible exact H)|(have H2_ := (Option.bind_some _ _).symm.trans H;rw [hy260];with_reducible exact H2_)|(have H2_ := (Option.bind_some _ _).symm.trans H;with_reducible exact H2_)|with_reducible exact H|(rw [hy260];exact H)|exact H
            have Ny260 := Aside0.mk hy260
            clear hy260
            have H' := Aside0.mk H
            clear H
            go_wp2_with (first|((with_reducible refine gate_builtin (b := .append) (xs := #[.tmp 29,.tmp 33]) rfl ?_);at_builtin;refine Kd.R_append k45 (w0 := w) w.heap.size rfl (.tmp 29) (.tmp 33) 22 45 (.agg #[(.string ⟨#[]⟩),(.int .i64 0)]) 24 rfl Tryd.underlying22 info45 rfl (by decide) (by omega) u7 x7_1 (⟨a1,a2⟩ : S45) [.string a1,.int .i64 a2] (fun _ => True) (fun _ => False) rfl rfl ?aP (fun _ hk => hk.elim) ?aF ?aO ?aB ?aS ?aL ?_;(case aP => exact k45_mkM _ _ _ (⟨a1,a2⟩ : S45));(case aB => exact (bM HB.out));(case aF => exact (fun _ _ => trivial));(case aO => exact (rM HO_7.out));(case aS => exact (below_size (bM HB.out)));(case aL => have := LMc9.out;omega);intro v256 w15 ho hb hg hat;rw [← Ny255.out] at ho;have n0_ := Aside0.mk (hb);have n1_ := Aside0.mk (ho);clear HB;clear HO_7;have HB := n0_;have HO257 := n1_;clear n0_ n1_;clear ho hb hg hat;have p258 : 0 ≤ (x9_1 : Int) := of_decide_eq_true (by first|(with_reducible assumption)|assumption);have q258 : x9_1 < (l0.length : Int) := of_decide_eq_true (by first|(with_reducible assumption)|assumption);obtain ⟨ad258,e258,hx258_0,hx258_1⟩ := at_T45 HR0.out x9_1 p258 q258;cases e258;replace hx258_0 := (HB.out.cell (World.block_lt_of_cell? w _ hx258_0)).trans hx258_0;replace hx258_1 := (HB.out.cell (World.block_lt_of_cell? w _ hx258_1)).trans hx258_1;replace p258 := eq_true p258;replace q258 := eq_true q258;have p259 : 0 ≤ (x9_1 : Int) := of_decide_eq_true (by first|(with_reducible assumption)|assumption);have q259 : x9_1 < (l0.length : Int) := of_decide_eq_true (by first|(with_reducible assumption)|assumption);obtain ⟨ad259,e259,hx259_0,hx259_1⟩ := at_T45 HR0.out x9_1 p259 q259;obtain rfl : ad258 = ad259 := (by injection e259);replace hx259_0 := (HB.out.cell (World.block_lt_of_cell? w _ hx259_0)).trans hx259_0;replace hx259_1 := (HB.out.cell (World.block_lt_of_cell? w _ hx259_1)).trans hx259_1;replace p259 := eq_true p259;replace q259 := eq_true q259)|((with_reducible refine gate_builtin (b := .append) (xs := #[.tmp 42,.tmp 47]) rfl ?_);at_builtin;refine Kd.R_append k45 (w0 := w) w.heap.size rfl (.tmp 42) (.tmp 47) 22 45 (.agg #[(.string ⟨#[]⟩),(.int .i64 0)]) 24 rfl Tryd.underlying22 info45 rfl (by decide) (by omega) v256 y255 (⟨(rd_T45 l0 x9_1).f0,(rd_T45 l0 x9_1).f1⟩ : S45) [.string ((rd_T45 l0 x9_1).f0),.int .i64 ((rd_T45 l0 x9_1).f1)] (fun _ => True) (fun _ => False) rfl rfl ?aP (fun _ hk => hk.elim) ?aF ?aO ?aB ?aS ?aL ?_;(case aP => exact k45_mkM _ _ _ (⟨(rd_T45 l0 x9_1).f0,(rd_T45 l0 x9_1).f1⟩ : S45));(case aB => exact (bM HB.out));(case aF => exact (fun _ _ => trivial));(case aO => exact (rM HO257.out));(case aS => exact (below_size (bM HB.out)));(case aL => have := LMc14.out;omega);intro v261 w16 ho hb hg hat;rw [← Ny260.out] at ho;have n0_ := Aside0.mk (hb);have n1_ := Aside0.mk (ho);clear HB;clear HO257;have HB := n0_;have HO262 := n1_;clear n0_ n1_;clear ho hb hg hat))
            go_roundg kj4
            case measure => have := HK1.out;have := HJ4.out;omega
            case rel => exact ⟨(y260),(true),(wrap64 (x9_1 + 1)),(by first|rfl|(simp;done)|(simp [*];done)),(by first|rfl|(simp;done)|(simp [*];done)),H',⟨by have := HK1.out;have := HJ4.out;omega⟩,⟨rM HO262.out⟩,⟨bM HB.out⟩⟩
           ·rw [if_neg c14] at H
            exact absurd H (by simp)
         ·rw [if_neg c11] at H
          exact absurd H (by simp)
        ·rw [if_neg c10] at H
         exact absurd H (by simp)
       ·rw [if_neg c9] at H
        exact absurd H (by simp)
      ·replace c8 := Bool.eq_false_iff.mpr c8
       subst c8
       have H1 : (if 0 ≤ x9_1 then (if x9_1 < (l0.length : Int) then (if ((rd_T45 l0 x9_1).f0).toList = a1.toList then (codesearchref25_Set.l0 kj4 l0 a1 a2 x7_1 x8_1 (wrap64 (x9_1 + 1))) else (if x7_1.length < 5864062014805 then (codesearchref25_Set.l0 kj4 l0 a1 a2 (x7_1 ++ [(⟨(rd_T45 l0 x9_1).f0,(rd_T45 l0 x9_1).f1⟩ : S45)]) x8_1 (wrap64 (x9_1 + 1))) else (none))) else (none)) else (none)) = some r := by rw [if_neg (show ¬ (false = true) by decide)] at H;exact H
       clear H
       have H := H1
       clear H1
       by_cases c17 : 0 ≤ x9_1
       ·rw [if_pos c17] at H
        have c17b0 : decide (0 ≤ x9_1) = true := decide_eq_true c17
        clear c17
        by_cases c18 : x9_1 < (l0.length : Int)
        ·rw [if_pos c18] at H
         have c18b0 : decide (x9_1 < (l0.length : Int)) = true := decide_eq_true c18
         clear c18
         by_cases c19 : ((rd_T45 l0 x9_1).f0).toList = a1.toList
         ·rw [if_pos c19] at H
          have c19b0 : (((rd_T45 l0 x9_1).f0).toList == a1.toList) = true := beq_iff_eq.mpr c19
          have c19b1 : (((rd_T45 l0 x9_1).f0).toList != a1.toList) = false := bne_eq_false_iff_eq.mpr c19
          clear c19
          have H' := Aside0.mk H
          clear H
          have p263 : 0 ≤ (x9_1 : Int) := of_decide_eq_true (by first|(with_reducible assumption)|assumption)
          have q263 : x9_1 < (l0.length : Int) := of_decide_eq_true (by first|(with_reducible assumption)|assumption)
          obtain ⟨ad263,e263,hx263_0,hx263_1⟩ := at_T45 HR0.out x9_1 p263 q263
          cases e263
          replace hx263_0 := (HB.out.cell (World.block_lt_of_cell? w _ hx263_0)).trans hx263_0
          replace hx263_1 := (HB.out.cell (World.block_lt_of_cell? w _ hx263_1)).trans hx263_1
          replace p263 := eq_true p263
          replace q263 := eq_true q263
          go_wp2
          go_roundg kj4
          case measure => have := HK1.out;have := HJ4.out;omega
          case rel => exact ⟨(x7_1),(x8_1),(wrap64 (x9_1 + 1)),(by first|rfl|(simp;done)|(simp [*];done)),(by first|rfl|(simp;done)|(simp [*];done)),H',⟨by have := HK1.out;have := HJ4.out;omega⟩,⟨rM HO_7.out⟩,⟨bM HB.out⟩⟩
         ·rw [if_neg c19] at H
          have c19b0 : (((rd_T45 l0 x9_1).f0).toList == a1.toList) = false := beq_eq_false_iff_ne.mpr c19
          have c19b1 : (((rd_T45 l0 x9_1).f0).toList != a1.toList) = true := bne_iff_ne.mpr c19
          by_cases c20 : x7_1.length < 5864062014805
          ·rw [if_pos c20] at H
           have LMc20 := Aside0.mk c20
           clear c20
           obtain ⟨y265,hy265⟩ : ∃ y_ : List (S45),y_ = (x7_1 ++ [(⟨(rd_T45 l0 x9_1).f0,(rd_T45 l0 x9_1).f1⟩ : S45)]) := ⟨_,rfl⟩
           replace H : (codesearchref25_Set.l0 kj4 l0 a1 a2 y265 x8_1 (wrap64 (x9_1 + 1))) = some r := by first|(rw [hy265];with_reducible exact H)|(have H2_ := (Option.bind_some _ _).symm.trans H;rw [hy265];with_reducible exact H2_)|(have H2_ := (Option.bind_some _ _).symm.trans H;with_reducible exact H2_)|with_reducible exact H|(rw [hy265];exact H)|exact H
           have Ny265 := Aside0.mk hy265
           clear hy265
           have H' := Aside0.mk H
           clear H
           have p263 : 0 ≤ (x9_1 : Int) := of_decide_eq_true (by first|(with_reducible assumption)|assumption)
           have q263 : x9_1 < (l0.length : Int) := of_decide_eq_true (by first|(with_reducible assumption)|assumption)
           obtain ⟨ad263,e263,hx263_0,hx263_1⟩ := at_T45 HR0.out x9_1 p263 q263
           cases e263
           replace hx263_0 := (HB.out.cell (World.block_lt_of_cell? w _ hx263_0)).trans hx263_0
           replace hx263_1 := (HB.out.cell (World.block_lt_of_cell? w _ hx263_1)).trans hx263_1
           replace p263 := eq_true p263
           replace q263 := eq_true q263
           have p264 : 0 ≤ (x9_1 : Int) := of_decide_eq_true (by first|(with_reducible assumption)|assumption)
           have q264 : x9_1 < (l0.length : Int) := of_decide_eq_true (by first|(with_reducible assumption)|assumption)
           obtain ⟨ad264,e264,hx264_0,hx264_1⟩ := at_T45 HR0.out x9_1 p264 q264
           obtain rfl : ad263 = ad264 := (by injection e264)
           replace hx264_0 := (HB.out.cell (World.block_lt_of_cell? w _ hx264_0)).trans hx264_0
           replace hx264_1 := (HB.out.cell (World.block_lt_of_cell? w _ hx264_1)).trans hx264_1
           replace p264 := eq_true p264
           replace q264 := eq_true q264
           go_wp2_with (first|((with_reducible refine gate_builtin (b := .append) (xs := #[.tmp 42,.tmp 47]) rfl ?_);at_builtin;refine Kd.R_append k45 (w0 := w) w.heap.size rfl (.tmp 42) (.tmp 47) 22 45 (.agg #[(.string ⟨#[]⟩),(.int .i64 0)]) 24 rfl Tryd.underlying22 info45 rfl (by decide) (by omega) u7 x7_1 (⟨(rd_T45 l0 x9_1).f0,(rd_T45 l0 x9_1).f1⟩ : S45) [.string ((rd_T45 l0 x9_1).f0),.int .i64 ((rd_T45 l0 x9_1).f1)] (fun _ => True) (fun _ => False) rfl rfl ?aP (fun _ hk => hk.elim) ?aF ?aO ?aB ?aS ?aL ?_;(case aP => exact k45_mkM _ _ _ (⟨(rd_T45 l0 x9_1).f0,(rd_T45 l0 x9_1).f1⟩ : S45));(case aB => exact (bM HB.out));(case aF => exact (fun _ _ => trivial));(case aO => exact (rM HO_7.out));(case aS => exact (below_size (bM HB.out)));(case aL => have := LMc20.out;omega);intro v266 w21 ho hb hg hat;rw [← Ny265.out] at ho;have n0_ := Aside0.mk (hb);have n1_ := Aside0.mk (ho);clear HB;clear HO_7;have HB := n0_;have HO267 := n1_;clear n0_ n1_;clear ho hb hg hat))
           go_roundg kj4
           case measure => have := HK1.out;have := HJ4.out;omega
           case rel => exact ⟨(y265),(x8_1),(wrap64 (x9_1 + 1)),(by first|rfl|(simp;done)|(simp [*];done)),(by first|rfl|(simp;done)|(simp [*];done)),H',⟨by have := HK1.out;have := HJ4.out;omega⟩,⟨rM HO267.out⟩,⟨bM HB.out⟩⟩
          ·rw [if_neg c20] at H
           exact absurd H (by simp)
        ·rw [if_neg c18] at H
         exact absurd H (by simp)
       ·rw [if_neg c17] at H
        exact absurd H (by simp)
   ·rw [if_neg c4] at H
    have c4b0 : decide (x9_1 < (l0.length : Int)) = false := decide_eq_false c4
    clear c4
    by_cases c22 : x8_1 = true
    ·subst c22
     have H1 : (some x7_1) = some r := by rw [if_pos rfl] at H;exact H
     clear H
     have H := H1
     clear H1
     obtain rfl := Option.some.inj H
     go_wp2
     go_ret
     exact ⟨_,by first|rfl|(simp [errW_none,errW_some] <;> rfl)|(simp [*,errW_none,errW_some] <;> rfl),rM HO_7.out,bM HB.out⟩
    ·replace c22 := Bool.eq_false_iff.mpr c22
     subst c22
     have H1 : (if x7_1.length < 5864062014805 then (some (x7_1 ++ [(⟨a1,a2⟩ : S45)])) else (none)) = some r := by rw [if_neg (show ¬ (false = true) by decide)] at H;exact H
     clear H
     have H := H1
     clear H1
     by_cases c23 : x7_1.length < 5864062014805
     ·rw [if_pos c23] at H
      have LMc23 := Aside0.mk c23
      clear c23
      obtain ⟨y251,hy251⟩ : ∃ y_ : List (S45),y_ = (x7_1 ++ [(⟨a1,a2⟩ : S45)]) := ⟨_,rfl⟩
      replace H : (some y251) = some r := by first|(rw [hy251];with_reducible exact H)|(have H2_ := (Option.bind_some _ _).symm.trans H;rw [hy251];with_reducible exact H2_)|(have H2_ := (Option.bind_some _ _).symm.trans H;with_reducible exact H2_)|with_reducible exact H|(rw [hy251];exact H)|exact H
      have Ny251 := Aside0.mk hy251
      clear hy251
      obtain rfl := Option.some.inj H
      go_wp2_with (first|((with_reducible refine gate_builtin (b := .append) (xs := #[.tmp 51,.tmp 55]) rfl ?_);at_builtin;refine Kd.R_append k45 (w0 := w) w.heap.size rfl (.tmp 51) (.tmp 55) 22 45 (.agg #[(.string ⟨#[]⟩),(.int .i64 0)]) 24 rfl Tryd.underlying22 info45 rfl (by decide) (by omega) u7 x7_1 (⟨a1,a2⟩ : S45) [.string a1,.int .i64 a2] (fun _ => True) (fun _ => False) rfl rfl ?aP (fun _ hk => hk.elim) ?aF ?aO ?aB ?aS ?aL ?_;(case aP => exact k45_mkM _ _ _ (⟨a1,a2⟩ : S45));(case aB => exact (bM HB.out));(case aF => exact (fun _ _ => trivial));(case aO => exact (rM HO_7.out));(case aS => exact (below_size (bM HB.out)));(case aL => have := LMc23.out;omega);intro v252 w24 ho hb hg hat;rw [← Ny251.out] at ho;have n0_ := Aside0.mk (hb);have n1_ := Aside0.mk (ho);clear HB;clear HO_7;have HB := n0_;have HO253 := n1_;clear n0_ n1_;clear ho hb hg hat))
      go_ret
      exact ⟨_,by first|rfl|(simp [errW_none,errW_some] <;> rfl)|(simp [*,errW_none,errW_some] <;> rfl),rM HO253.out,bM HB.out⟩
     ·rw [if_neg c23] at H
      exact absurd H (by simp)

/-! ### codesearchref25_paths: function 41 -/
mutual
def codesearchref25_paths.l0 : Nat → List (S45) → List (List (S45)) → Int → Option (List ByteArray)
|0,_,_,_ => none
|k + 1,x7,x8,x9 => if x9 < (x8.length : Int) then (codesearchref25_paths.l1 k x7 x8 x9 0) else (codesearchref25_paths.l2 k x7 ([] : List ByteArray) 0)
def codesearchref25_paths.l1 : Nat → List (S45) → List (List (S45)) → Int → Int → Option (List ByteArray)
|0,_,_,_,_ => none
|k + 1,x7,x8,x9,x10 => if 0 ≤ x9 then (if x9 < (x8.length : Int) then (if x10 < ((rd_L4 x8 x9).length : Int) then (if 0 ≤ x10 then ((codesearchref25_Set.f k x7 ((rd_T45 (rd_L4 x8 x9) x10).f0) 1).bind fun t274 => (codesearchref25_paths.l1 k t274 x8 x9 (wrap64 (x10 + 1)))) else (none)) else (codesearchref25_paths.l0 k x7 x8 (wrap64 (x9 + 1)))) else (none)) else (none)
def codesearchref25_paths.l2 : Nat → List (S45) → List ByteArray → Int → Option (List ByteArray)
|0,_,_,_ => none
|k + 1,x7,x11,x12 => if x12 < (x7.length : Int) then (if 0 ≤ x12 then (if x11.length < 8796093022208 then (codesearchref25_paths.l2 k x7 (x11 ++ [(rd_T45 x7 x12).f0]) (wrap64 (x12 + 1))) else (none)) else (none)) else (some x11)
end
def codesearchref25_paths.f (k : Nat) (l0 : List (S45)) (l1 : List (S45)) (l2 : List (S45)) : Option (List ByteArray) := codesearchref25_paths.l0 k ([] : List (S45)) (([l0, l1, l2] : List (List (S45)))) 0
theorem codesearchref25_paths.mono_l : ∀ k, (∀ y0 y1 y2, LeO (codesearchref25_paths.l0 k y0 y1 y2) (codesearchref25_paths.l0 (k + 1) y0 y1 y2)) ∧ (∀ y0 y1 y2 y3, LeO (codesearchref25_paths.l1 k y0 y1 y2 y3) (codesearchref25_paths.l1 (k + 1) y0 y1 y2 y3)) ∧ (∀ y0 y1 y2, LeO (codesearchref25_paths.l2 k y0 y1 y2) (codesearchref25_paths.l2 (k + 1) y0 y1 y2))
|0 => ⟨fun _ _ _ r h => by simp [codesearchref25_paths.l0] at h,fun _ _ _ _ r h => by simp [codesearchref25_paths.l1] at h,fun _ _ _ r h => by simp [codesearchref25_paths.l2] at h⟩
|k + 1 => by
  obtain ⟨ih0,ih1,ih2⟩ := codesearchref25_paths.mono_l k
  refine ⟨?_,?_,?_⟩
  ·intro y0 y1 y2
   unfold codesearchref25_paths.l0
   repeat' first
  |(with_reducible exact ih0 _ _ _)
  |(with_reducible exact ih1 _ _ _ _)
  |(with_reducible exact ih2 _ _ _)
  |(with_reducible exact codesearchref25_Set.mono _ _ _ _)
  |(with_reducible exact LeO.refl _)
  |(with_reducible exact LeO.none _)
  |(with_reducible refine LeO.ite ?_ ?_)
  |(with_reducible refine LeO.bind ?_ (fun _ => ?_))
  |exact ih0 _ _ _
  |exact ih1 _ _ _ _
  |exact ih2 _ _ _
  |exact codesearchref25_Set.mono _ _ _ _
  |exact LeO.none _
  |refine LeO.ite ?_ ?_
  |refine LeO.bind ?_ (fun _ => ?_)
  ·intro y0 y1 y2 y3
   unfold codesearchref25_paths.l1
   repeat' first
  |(with_reducible exact ih0 _ _ _)
  |(with_reducible exact ih1 _ _ _ _)
  |(with_reducible exact ih2 _ _ _)
  |(with_reducible exact codesearchref25_Set.mono _ _ _ _)
  |(with_reducible exact LeO.refl _)
  |(with_reducible exact LeO.none _)
  |(with_reducible refine LeO.ite ?_ ?_)
  |(with_reducible refine LeO.bind ?_ (fun _ => ?_))
  |exact ih0 _ _ _
  |exact ih1 _ _ _ _
  |exact ih2 _ _ _
  |exact codesearchref25_Set.mono _ _ _ _
  |exact LeO.none _
  |refine LeO.ite ?_ ?_
  |refine LeO.bind ?_ (fun _ => ?_)
  ·intro y0 y1 y2
   unfold codesearchref25_paths.l2
   repeat' first
  |(with_reducible exact ih0 _ _ _)
  |(with_reducible exact ih1 _ _ _ _)
  |(with_reducible exact ih2 _ _ _)
  |(with_reducible exact codesearchref25_Set.mono _ _ _ _)
  |(with_reducible exact LeO.refl _)
  |(with_reducible exact LeO.none _)
  |(with_reducible refine LeO.ite ?_ ?_)
  |(with_reducible refine LeO.bind ?_ (fun _ => ?_))
  |exact ih0 _ _ _
  |exact ih1 _ _ _ _
  |exact ih2 _ _ _
  |exact codesearchref25_Set.mono _ _ _ _
  |exact LeO.none _
  |refine LeO.ite ?_ ?_
  |refine LeO.bind ?_ (fun _ => ?_)
theorem codesearchref25_paths.mono : ∀ a0 a1 a2 k, LeO (codesearchref25_paths.f k a0 a1 a2) (codesearchref25_paths.f (k + 1) a0 a1 a2) := by
 intro a0 a1 a2 k
 obtain ⟨ih0,ih1,ih2⟩ := codesearchref25_paths.mono_l k
 unfold codesearchref25_paths.f
 repeat' first
  |(with_reducible exact ih0 _ _ _)
  |(with_reducible exact ih1 _ _ _ _)
  |(with_reducible exact ih2 _ _ _)
  |(with_reducible exact codesearchref25_Set.mono _ _ _ _)
  |(with_reducible exact LeO.refl _)
  |(with_reducible exact LeO.none _)
  |(with_reducible refine LeO.ite ?_ ?_)
  |(with_reducible refine LeO.bind ?_ (fun _ => ?_))
  |exact ih0 _ _ _
  |exact ih1 _ _ _ _
  |exact ih2 _ _ _
  |exact codesearchref25_Set.mono _ _ _ _
  |exact LeO.none _
  |refine LeO.ite ?_ ?_
  |refine LeO.bind ?_ (fun _ => ?_)
set_option maxHeartbeats 4000000 in
set_option maxRecDepth 100000 in
theorem codesearchref25_paths.calls (k : Nat) (P0_ : Nat → Prop) (A0 : Option Addr) (c0 : Nat) (l0 : List (S45)) (P1_ : Nat → Prop) (A1 : Option Addr) (c1 : Nat) (l1 : List (S45)) (P2_ : Nat → Prop) (A2 : Option Addr) (c2 : Nat) (l2 : List (S45)) (r : List ByteArray) (w : World) (hs0 : Kd.V k45 45 w w.heap.size (fun k_ => P0_ k_) (.slice A0 l0.length c0) l0) (hs1 : Kd.V k45 45 w w.heap.size (fun k_ => P1_ k_) (.slice A1 l1.length c1) l1) (hs2 : Kd.V k45 45 w w.heap.size (fun k_ => P2_ k_) (.slice A2 l2.length c2) l2) (h : codesearchref25_paths.f k l0 l1 l2 = some r) :
  Calls Tryd.prog 41 #[.slice A0 l0.length c0,.slice A1 l1.length c1,.slice A2 l2.length c2] w fun e w' => ∃ v0_ : Value,e = .returned (v0_) ∧ Kd.R Kd.string 9 w' w.heap.size (fun k_ => (w.heap.size ≤ k_)) v0_ r ∧ Below w.heap.size w w' := by
 have HO0 := Aside0.mk (show Kd.V k45 45 w w.heap.size (fun k_ => ((P0_ k_ ∨ P1_ k_ ∨ P2_ k_) ∨ w.heap.size ≤ k_)) (.slice A0 l0.length c0) l0 from Kd.V_mono hs0 (fun k_ hk => .inl (.inl hk)))
 have HO1 := Aside0.mk (show Kd.V k45 45 w w.heap.size (fun k_ => ((P0_ k_ ∨ P1_ k_ ∨ P2_ k_) ∨ w.heap.size ≤ k_)) (.slice A1 l1.length c1) l1 from Kd.V_mono hs1 (fun k_ hk => .inl (.inr (.inl hk))))
 have HO2 := Aside0.mk (show Kd.V k45 45 w w.heap.size (fun k_ => ((P0_ k_ ∨ P1_ k_ ∨ P2_ k_) ∨ w.heap.size ≤ k_)) (.slice A2 l2.length c2) l2 from Kd.V_mono hs2 (fun k_ hk => .inl (.inr (.inr hk))))
 have HB := Aside0.mk (Below.refl w.heap.size w)
 have H : (codesearchref25_paths.l0 k ([] : List (S45)) (([l0,l1,l2] : List (List (S45)))) 0) = some r := h
 clear h
 obtain ⟨y268,hy268⟩ : ∃ y_ : List (List (S45)),y_ = (([l0,l1,l2] : List (List (S45)))) := ⟨_,rfl⟩
 replace H : (codesearchref25_paths.l0 k ([] : List (S45)) y268 0) = some r := by first|(rw [hy268];with_reducible exact H)|(have H2_ := (Option.bind_some _ _).symm.trans H;rw [hy268];with_reducible exact H2_)|(have H2_ := (Option.bind_some _ _).symm.trans H;with_reducible exact H2_)|with_reducible exact H|(rw [hy268];exact H)|exact H
 have Ny268 := Aside0.mk hy268
 clear hy268
 have H' := Aside0.mk H
 clear H
 go_enter Tryd.func41,Tryd.ntmps41
 go_wp2_with (first|((with_reducible refine gate_dst (N := 16) rfl ?_);refine Kd.N_lit (Kd.slice 45 k45) _ 22 ?hg (N' := 16) ?hd (xs := ([l0,l1,l2] : List (List (S45)))) (inner := [.slice A0 l0.length c0,.slice A1 l1.length c1,.slice A2 l2.length c2]) (ok := (fun k_ => ((P0_ k_ ∨ P1_ k_ ∨ P2_ k_) ∨ w.heap.size ≤ k_))) (okp := (fun k_ => ((P0_ k_ ∨ P1_ k_ ∨ P2_ k_) ∨ w.heap.size ≤ k_))) ?hr ?hp (fun _ hk => hk) ((show ∀ k_,w.heap.size ≤ k_ → (fun k_ => ((P0_ k_ ∨ P1_ k_ ∨ P2_ k_) ∨ w.heap.size ≤ k_)) k_ from fun k_ hk => (.inr (Nat.le_trans (below_size (bM HB.out)) hk))) _ (Nat.le_refl _)) (Below.refl _ _) (Nat.le_refl _) (by simp) ?_;(case hd => rfl);(case hg => rfl);(case hr => first|(go_simp;done)|(go_simp;rfl));(case hp => exact (Reps.one (show Kd.FK (Kd.slice 45 k45) _ _ l0 [.slice A0 l0.length c0] from (Kd.FK_slice_mk (Kd.V_reads' (Kd.V_mono (ok' := (fun k_ => ((P0_ k_ ∨ P1_ k_ ∨ P2_ k_) ∨ w.heap.size ≤ k_))) (HO0.out) (fun k_ hk => hk))).2.1 (Kd.V_F (Kd.V_mono (ok' := (fun k_ => ((P0_ k_ ∨ P1_ k_ ∨ P2_ k_) ∨ w.heap.size ≤ k_))) (HO0.out) (fun k_ hk => hk))))) (Reps.one (show Kd.FK (Kd.slice 45 k45) _ _ l1 [.slice A1 l1.length c1] from (Kd.FK_slice_mk (Kd.V_reads' (Kd.V_mono (ok' := (fun k_ => ((P0_ k_ ∨ P1_ k_ ∨ P2_ k_) ∨ w.heap.size ≤ k_))) (HO1.out) (fun k_ hk => hk))).2.1 (Kd.V_F (Kd.V_mono (ok' := (fun k_ => ((P0_ k_ ∨ P1_ k_ ∨ P2_ k_) ∨ w.heap.size ≤ k_))) (HO1.out) (fun k_ hk => hk))))) (Reps.one (show Kd.FK (Kd.slice 45 k45) _ _ l2 [.slice A2 l2.length c2] from (Kd.FK_slice_mk (Kd.V_reads' (Kd.V_mono (ok' := (fun k_ => ((P0_ k_ ∨ P1_ k_ ∨ P2_ k_) ∨ w.heap.size ≤ k_))) (HO2.out) (fun k_ hk => hk))).2.1 (Kd.V_F (Kd.V_mono (ok' := (fun k_ => ((P0_ k_ ∨ P1_ k_ ∨ P2_ k_) ∨ w.heap.size ≤ k_))) (HO2.out) (fun k_ hk => hk))))) (Reps.none _ _)))));intro v269 w4 ho5 hb hg_ hnew_;clear hg_ hnew_;(first|rw [← Ny268.out] at ho5|(simp only [Int.reduceToNat] at ho5;rw [← Ny268.out] at ho5));have n0_ := Aside0.mk (Kd.V_elder' (by (with_reducible repeat (first|apply Kd.V_alloc|apply Kd.V_drewN|apply Kd.V_drew));exact HO0.out) (Kd.N_base ho5) hb);have n1_ := Aside0.mk (Kd.V_elder' (by (with_reducible repeat (first|apply Kd.V_alloc|apply Kd.V_drewN|apply Kd.V_drew));exact HO1.out) (Kd.N_base ho5) hb);have n2_ := Aside0.mk (Kd.V_elder' (by (with_reducible repeat (first|apply Kd.V_alloc|apply Kd.V_drewN|apply Kd.V_drew));exact HO2.out) (Kd.N_base ho5) hb);have n3_ := Aside0.mk (Kd.N_lower ho5 (below_size (bM HB.out)));have n4_ := Aside0.mk (below_step (bM HB.out) hb);clear HO0;clear HO1;clear HO2;clear HB;have HO0 := n0_;have HO1 := n1_;have HO2 := n2_;have HO270 := n3_;have HB := n4_;clear n0_ n1_ n2_ n3_ n4_;clear hb ho5))
 go_loopg [7,9] k (fun kq v7 v9 w' => ∃ (x7_1 : List (S45)) (x9_1 : Int),v9 = .int .i64 x9_1 ∧ Aside0 (codesearchref25_paths.l0 kq x7_1 y268 x9_1 = some r) ∧ Aside0 (kq ≤ k) ∧ Aside0 (Kd.R k45 45 w' w.heap.size (fun k_ => (w.heap.size ≤ k_)) v7 x7_1) ∧ Aside0 (Kd.N (Kd.slice 45 k45) 22 w' w.heap.size (fun k_ => ((P0_ k_ ∨ P1_ k_ ∨ P2_ k_) ∨ w.heap.size ≤ k_) ∧ some k_ ≠ (v7 : Value).ownBlock) v269 y268) ∧ Aside0 (Below w.heap.size w w'))
 case atStart => exact ⟨(([] : List (S45))),(0),(by first|rfl|(simp;done)|(simp [*];done)),H',⟨Nat.le_refl _⟩,⟨by first|exact Kd.R_nil _ _ _ _ _|exact Kd.N_nil _ _ _ _ _|exact Kd.V_nil _ _ _ _ _|exact Kd.Q_nil _ _ _ _ _|exact Kd.S_nil _ _ _ _ _⟩,⟨by (with_reducible repeat (first|apply Kd.N_alloc|apply Kd.N_drewN|apply Kd.N_drew));exact Kd.N_mono HO270.out (fun _ hk => ⟨hk,(by simp [Value.ownBlock])⟩)⟩,⟨bM HB.out⟩⟩
 case round =>
  clear H'
  try clear c1
  try clear c2
  try clear p2
  try clear c4
  obtain ⟨x7_1,x9_1,rfl,HA,HK1,HO_7,HO_8,HB⟩ := hrel
  cases gk with
 |zero => exact absurd HA.out (by simp [codesearchref25_paths.l0])
 |succ k1 =>
   have H := HA.out
   clear HA
   simp only [codesearchref25_paths.l0] at H
   by_cases c6 : x9_1 < (y268.length : Int)
   ·rw [if_pos c6] at H
    have c6b0 : decide (x9_1 < (y268.length : Int)) = true := decide_eq_true c6
    clear c6
    have H' := Aside0.mk H
    clear H
    obtain ⟨Ao7,co7,eo7⟩ := Kd.N_slice HO_8.out
    subst eo7
    go_wp2
    go_loopg [7,10] k1 (fun kq v7 v10 w' => ∃ (x7_2 : List (S45)) (x10_2 : Int),v10 = .int .i64 x10_2 ∧ Aside0 (codesearchref25_paths.l1 kq x7_2 y268 x9_1 x10_2 = some r) ∧ Aside0 (kq ≤ k1) ∧ Aside0 (Kd.R k45 45 w' w.heap.size (fun k_ => (w.heap.size ≤ k_)) v7 x7_2) ∧ Aside0 (Kd.N (Kd.slice 45 k45) 22 w' w.heap.size (fun k_ => ((P0_ k_ ∨ P1_ k_ ∨ P2_ k_) ∨ w.heap.size ≤ k_) ∧ some k_ ≠ (v7 : Value).ownBlock) (.slice Ao7 y268.length co7) y268) ∧ Aside0 (Below w.heap.size w w'))
    case atStart => exact ⟨(x7_1),(0),(by first|rfl|(simp;done)|(simp [*];done)),H',⟨Nat.le_refl _⟩,⟨rM HO_7.out⟩,⟨by (with_reducible repeat (first|apply Kd.N_alloc|apply Kd.N_drewN|apply Kd.N_drew));exact HO_8.out⟩,⟨bM HB.out⟩⟩
    case round =>
     clear H'
     try clear c1
     try clear c2
     try clear p2
     try clear c4
     try clear c6
     try clear c6b0
     try clear p2
     obtain ⟨x7_2,x10_2,rfl,HA,HK2,HO_7,HO_8,HB⟩ := hrel
     cases gk with
    |zero => exact absurd HA.out (by simp [codesearchref25_paths.l1])
    |succ k2 =>
      have H := HA.out
      clear HA
      simp only [codesearchref25_paths.l1] at H
      by_cases c8 : 0 ≤ x9_1
      ·rw [if_pos c8] at H
       have c8b0 : decide (0 ≤ x9_1) = true := decide_eq_true c8
       clear c8
       by_cases c9 : x9_1 < (y268.length : Int)
       ·rw [if_pos c9] at H
        have c9b0 : decide (x9_1 < (y268.length : Int)) = true := decide_eq_true c9
        clear c9
        by_cases c10 : x10_2 < ((rd_L4 y268 x9_1).length : Int)
        ·rw [if_pos c10] at H
         have c10b0 : decide (x10_2 < ((rd_L4 y268 x9_1).length : Int)) = true := decide_eq_true c10
         clear c10
         by_cases c11 : 0 ≤ x10_2
         ·rw [if_pos c11] at H
          have c11b0 : decide (0 ≤ x10_2) = true := decide_eq_true c11
          clear c11
          replace H := Option.bind_eq_some_iff.mp H
          obtain ⟨t274,A120,H⟩ := H
          replace H : (codesearchref25_paths.l1 k2 t274 y268 x9_1 (wrap64 (x10_2 + 1))) = some r := H
          have A12 := Aside0.mk A120
          clear A120
          have H' := Aside0.mk H
          clear H
          have p271 : 0 ≤ (x9_1 : Int) := of_decide_eq_true (by first|(with_reducible assumption)|assumption)
          have q271 : x9_1 < (y268.length : Int) := of_decide_eq_true (by first|(with_reducible assumption)|assumption)
          obtain ⟨ad271,A271_0,c271_0,e271,hx271_0,hl271_0,hi271_0⟩ := at_L4 (Kd.N_reads' HO_8.out).2.2 x9_1 p271 q271
          cases e271
          obtain ⟨ce271,hce271,hMe271,hcc271⟩ := Kd.N_get HO_8.out [] x9_1 p271 (by first|exact q271|exact of_decide_eq_true (by first|(with_reducible assumption)|assumption)|(have e_ := (Kd.N_reads' HO_8.out).1;omega))
          obtain ⟨ua271_0,uc271_0,rfl,ul271_0,ge271_0⟩ := Kd.FK_slice_open hMe271
          have hv271_0 := hcc271 0 _ rfl
          rw [Nat.add_zero,show ((Kd.slice 45 k45)).sz = 1 from rfl,Nat.mul_one] at hv271_0
          replace hv271_0 := Option.some.inj (hv271_0.symm.trans hx271_0)
          injection hv271_0 with hva_ hvn_ hvc_
          rw [hva_] at ge271_0
          rw [hvc_] at ul271_0
          have HL271_0 := Aside0.mk (show Kd.V k45 45 _ w.heap.size _ _ (rd_L4 y268 x9_1) from Kd.V_mk ul271_0 ge271_0)
          clear hva_ hvn_ hvc_ ge271_0 ul271_0
          clear hcc271 hce271
          have HR271_0 := Aside0.mk hi271_0
          have HC271_0 := Aside0.mk hl271_0
          clear hi271_0 hl271_0
          replace p271 := eq_true p271
          replace q271 := eq_true q271
          have p272 : 0 ≤ (x9_1 : Int) := of_decide_eq_true (by first|(with_reducible assumption)|assumption)
          have q272 : x9_1 < (y268.length : Int) := of_decide_eq_true (by first|(with_reducible assumption)|assumption)
          obtain ⟨ad272,A272_0,c272_0,e272,hx272_0,hl272_0,hi272_0⟩ := at_L4 (Kd.N_reads' HO_8.out).2.2 x9_1 p272 q272
          obtain rfl : ad271 = ad272 := (by injection e272)
          obtain ⟨ce272,hce272,hMe272,hcc272⟩ := Kd.N_get HO_8.out [] x9_1 p272 (by first|exact q272|exact of_decide_eq_true (by first|(with_reducible assumption)|assumption)|(have e_ := (Kd.N_reads' HO_8.out).1;omega))
          obtain ⟨ua272_0,uc272_0,rfl,ul272_0,ge272_0⟩ := Kd.FK_slice_open hMe272
          have hv272_0 := hcc272 0 _ rfl
          rw [Nat.add_zero,show ((Kd.slice 45 k45)).sz = 1 from rfl,Nat.mul_one] at hv272_0
          replace hv272_0 := Option.some.inj (hv272_0.symm.trans hx272_0)
          injection hv272_0 with hva_ hvn_ hvc_
          rw [hva_] at ge272_0
          rw [hvc_] at ul272_0
          have HL272_0 := Aside0.mk (show Kd.V k45 45 _ w.heap.size _ _ (rd_L4 y268 x9_1) from Kd.V_mk ul272_0 ge272_0)
          clear hva_ hvn_ hvc_ ge272_0 ul272_0
          clear hcc272 hce272
          have HR272_0 := Aside0.mk hi272_0
          have HC272_0 := Aside0.mk hl272_0
          clear hi272_0 hl272_0
          replace p272 := eq_true p272
          replace q272 := eq_true q272
          have ea_ := Option.some.inj (hx271_0.symm.trans hx272_0)
          injection ea_ with ea_ en_ ec_
          subst ea_
          subst ec_
          clear en_
          have p273 : 0 ≤ (x10_2 : Int) := of_decide_eq_true (by first|(with_reducible assumption)|assumption)
          have q273 : x10_2 < ((rd_L4 y268 x9_1).length : Int) := of_decide_eq_true (by first|(with_reducible assumption)|assumption)
          obtain ⟨ad273,e273,hx273_0,hx273_1⟩ := at_T45 (by repeat (first|(with_reducible exact HR272_0.out)|(with_reducible refine Kd.C_alloc ?_ _)|(with_reducible refine Kd.C_drewN ?_ _)|(with_reducible refine Kd.C_drew ?_)|exact HR272_0.out)) x10_2 p273 q273
          cases e273
          replace p273 := eq_true p273
          replace q273 := eq_true q273
          obtain ⟨Ao13,co13,eo13⟩ := Kd.R_slice HO_7.out
          subst eo13
          go_wp2_with (first|((with_reducible refine gate_callee (f := 39) rfl ?_);refine goesL_ (some 41) rfl rfl Tryd.func39 (by kernel_rfl) rfl #[.slice Ao13 x7_2.length co13,.string ((rd_T45 (rd_L4 y268 x9_1) x10_2).f0),.int .i64 1] rfl (by (try simp only [List.map_toArray,List.map_cons,List.map_nil]);first|done|rfl|(simp only [List.length_drop,List.length_take];rfl)) ?_;(with_reducible refine (codesearchref25_Set.calls k2 _ _ x7_2 ((rd_T45 (rd_L4 y268 x9_1) x10_2).f0) 1 t274 _ ?side1 ?side2 A12.out).mono ?_);(case side1 => exact cM (Kd.R_reads' HO_7.out).2.2);(case side2 => exact (Kd.R_reads' HO_7.out).2.1);rintro e w14 ⟨v275,rfl,ho0,hb⟩;refine ⟨_,rfl,?_⟩;have n0_ := Aside0.mk (Kd.R_elder' (rM HO_7.out) (Kd.R_base ho0) hb);have n1_ := Aside0.mk (Kd.N_elder' (by (with_reducible repeat (first|apply Kd.N_alloc|apply Kd.N_drewN|apply Kd.N_drew));exact HO_8.out) (Kd.R_base ho0) hb);have n2_ := Aside0.mk (Kd.V_elder' (by (with_reducible repeat (first|apply Kd.V_alloc|apply Kd.V_drewN|apply Kd.V_drew));exact HL271_0.out) (Kd.R_base ho0) hb);have n3_ := Aside0.mk (Kd.V_elder' (by (with_reducible repeat (first|apply Kd.V_alloc|apply Kd.V_drewN|apply Kd.V_drew));exact HL272_0.out) (Kd.R_base ho0) hb);have n4_ := Aside0.mk (Kd.R_lower (Kd.R_new' (Kd.R_newM (M := fun k_ => (w.heap.size ≤ k_)) ho0 (below_size (bM HB.out)) (fun k_ h_ => h_)) (Kd.R_lt (rM HO_7.out))) (below_size (bM HB.out)));have n5_ := Aside0.mk (Kd.C_below (by repeat (first|(with_reducible exact HR271_0.out)|(with_reducible refine Kd.C_alloc ?_ _)|(with_reducible refine Kd.C_drewN ?_ _)|(with_reducible refine Kd.C_drew ?_)|exact HR271_0.out)) hb);have n6_ := Aside0.mk (Kd.C_below (by repeat (first|(with_reducible exact HR272_0.out)|(with_reducible refine Kd.C_alloc ?_ _)|(with_reducible refine Kd.C_drewN ?_ _)|(with_reducible refine Kd.C_drew ?_)|exact HR272_0.out)) hb);have n7_ := Aside0.mk (below_step (bM HB.out) hb);clear HO_7;clear HO_8;clear HL271_0;clear HL272_0;clear HR271_0;clear HR272_0;clear HB;have HO_7 := n0_;have HO_8 := n1_;have HL271_0 := n2_;have HL272_0 := n3_;have HO276 := n4_;have HR271_0 := n5_;have HR272_0 := n6_;have HB := n7_;clear n0_ n1_ n2_ n3_ n4_ n5_ n6_ n7_;(try clear hb);(try clear hb2);(try clear hk);(try clear hi);(try clear ho0)))
          go_roundg k2
          case measure => have := HK1.out;have := HK2.out;omega
          case rel => exact ⟨(t274),(wrap64 (x10_2 + 1)),(by first|rfl|(simp;done)|(simp [*];done)),H',⟨by have := HK1.out;have := HK2.out;omega⟩,⟨by (with_reducible repeat (first|apply Kd.R_alloc|apply Kd.R_drewN|apply Kd.R_drew));exact Kd.R_mono HO276.out (fun _ hk => hk.1.1)⟩,⟨by (with_reducible repeat (first|apply Kd.N_alloc|apply Kd.N_drewN|apply Kd.N_drew));exact Kd.N_mono HO_8.out (fun _ hk => ⟨hk.1.1,hk.2⟩)⟩,⟨bM HB.out⟩⟩
         ·rw [if_neg c11] at H
          exact absurd H (by simp)
        ·rw [if_neg c10] at H
         have c10b0 : decide (x10_2 < ((rd_L4 y268 x9_1).length : Int)) = false := decide_eq_false c10
         clear c10
         have H' := Aside0.mk H
         clear H
         have p271 : 0 ≤ (x9_1 : Int) := of_decide_eq_true (by first|(with_reducible assumption)|assumption)
         have q271 : x9_1 < (y268.length : Int) := of_decide_eq_true (by first|(with_reducible assumption)|assumption)
         obtain ⟨ad271,A271_0,c271_0,e271,hx271_0,hl271_0,hi271_0⟩ := at_L4 (Kd.N_reads' HO_8.out).2.2 x9_1 p271 q271
         cases e271
         obtain ⟨ce271,hce271,hMe271,hcc271⟩ := Kd.N_get HO_8.out [] x9_1 p271 (by first|exact q271|exact of_decide_eq_true (by first|(with_reducible assumption)|assumption)|(have e_ := (Kd.N_reads' HO_8.out).1;omega))
         obtain ⟨ua271_0,uc271_0,rfl,ul271_0,ge271_0⟩ := Kd.FK_slice_open hMe271
         have hv271_0 := hcc271 0 _ rfl
         rw [Nat.add_zero,show ((Kd.slice 45 k45)).sz = 1 from rfl,Nat.mul_one] at hv271_0
         replace hv271_0 := Option.some.inj (hv271_0.symm.trans hx271_0)
         injection hv271_0 with hva_ hvn_ hvc_
         rw [hva_] at ge271_0
         rw [hvc_] at ul271_0
         have HL271_0 := Aside0.mk (show Kd.V k45 45 _ w.heap.size _ _ (rd_L4 y268 x9_1) from Kd.V_mk ul271_0 ge271_0)
         clear hva_ hvn_ hvc_ ge271_0 ul271_0
         clear hcc271 hce271
         have HR271_0 := Aside0.mk hi271_0
         have HC271_0 := Aside0.mk hl271_0
         clear hi271_0 hl271_0
         replace p271 := eq_true p271
         replace q271 := eq_true q271
         go_wp2
         go_roundg k2
         case measure => have := HK1.out;have := HK2.out;omega
         case rel => exact ⟨(x7_2),(wrap64 (x9_1 + 1)),(by first|rfl|(simp;done)|(simp [*];done)),H',⟨by have := HK1.out;have := HK2.out;omega⟩,⟨rM HO_7.out⟩,⟨by (with_reducible repeat (first|apply Kd.N_alloc|apply Kd.N_drewN|apply Kd.N_drew));exact HO_8.out⟩,⟨bM HB.out⟩⟩
       ·rw [if_neg c9] at H
        exact absurd H (by simp)
      ·rw [if_neg c8] at H
       exact absurd H (by simp)
   ·rw [if_neg c6] at H
    have c6b0 : decide (x9_1 < (y268.length : Int)) = false := decide_eq_false c6
    clear c6
    have H' := Aside0.mk H
    clear H
    obtain ⟨Ao15,co15,eo15⟩ := Kd.N_slice HO_8.out
    subst eo15
    go_wp2
    go_loopg [11,12] k1 (fun kq v11 v12 w' => ∃ (x11_2 : List ByteArray) (x12_2 : Int),v12 = .int .i64 x12_2 ∧ Aside0 (codesearchref25_paths.l2 kq x7_1 x11_2 x12_2 = some r) ∧ Aside0 (kq ≤ k1) ∧ Aside0 (Kd.R k45 45 w' w.heap.size (fun k_ => (w.heap.size ≤ k_)) u7 x7_1) ∧ Aside0 (Kd.R Kd.string 9 w' w.heap.size (fun k_ => (w.heap.size ≤ k_)) v11 x11_2) ∧ Aside0 (Below w.heap.size w w'))
    case atStart => exact ⟨(([] : List ByteArray)),(0),(by first|rfl|(simp;done)|(simp [*];done)),H',⟨Nat.le_refl _⟩,⟨rM HO_7.out⟩,⟨by first|exact Kd.R_nil _ _ _ _ _|exact Kd.N_nil _ _ _ _ _|exact Kd.V_nil _ _ _ _ _|exact Kd.Q_nil _ _ _ _ _|exact Kd.S_nil _ _ _ _ _⟩,⟨bM HB.out⟩⟩
    case round =>
     clear H'
     try clear c1
     try clear c2
     try clear p2
     try clear q2
     try clear hx2
     try clear c3
     try clear c4
     try clear c6
     try clear c6b0
     try clear p6
     try clear c8
     try clear c8b0
     try clear c9
     try clear c9b0
     try clear c10
     try clear c10b0
     try clear c11
     try clear c11b0
     try clear hx271_0
     try clear hx272_0
     try clear hx273_0
     try clear hx273_1
     try clear p2
     try clear p271
     try clear p272
     try clear p273
     try clear q271
     try clear q272
     try clear q273
     obtain ⟨x11_2,x12_2,rfl,HA,HK2,HO_7,HO_11,HB⟩ := hrel
     cases gk with
    |zero => exact absurd HA.out (by simp [codesearchref25_paths.l2])
    |succ k2 =>
      have H := HA.out
      clear HA
      simp only [codesearchref25_paths.l2] at H
      by_cases c16 : x12_2 < (x7_1.length : Int)
      ·rw [if_pos c16] at H
       have c16b0 : decide (x12_2 < (x7_1.length : Int)) = true := decide_eq_true c16
       clear c16
       by_cases c17 : 0 ≤ x12_2
       ·rw [if_pos c17] at H
        have c17b0 : decide (0 ≤ x12_2) = true := decide_eq_true c17
        clear c17
        by_cases c18 : x11_2.length < 8796093022208
        ·rw [if_pos c18] at H
         have LMc18 := Aside0.mk c18
         clear c18
         obtain ⟨y278,hy278⟩ : ∃ y_ : List ByteArray,y_ = (x11_2 ++ [(rd_T45 x7_1 x12_2).f0]) := ⟨_,rfl⟩
         replace H : (codesearchref25_paths.l2 k2 x7_1 y278 (wrap64 (x12_2 + 1))) = some r := by first|(rw [hy278];with_reducible exact H)|(have H2_ := (Option.bind_some _ _).symm.trans H;rw [hy278];with_reducible exact H2_)|(have H2_ := (Option.bind_some _ _).symm.trans H;with_reducible exact H2_)|with_reducible exact H|(rw [hy278];exact H)|exact H
         have Ny278 := Aside0.mk hy278
         clear hy278
         have H' := Aside0.mk H
         clear H
         obtain ⟨Ao19,co19,eo19⟩ := Kd.R_slice HO_7.out
         subst eo19
         have p277 : 0 ≤ (x12_2 : Int) := of_decide_eq_true (by first|(with_reducible assumption)|assumption)
         have q277 : x12_2 < (x7_1.length : Int) := of_decide_eq_true (by first|(with_reducible assumption)|assumption)
         obtain ⟨ad277,e277,hx277_0,hx277_1⟩ := at_T45 (Kd.R_reads' HO_7.out).2.2 x12_2 p277 q277
         cases e277
         replace p277 := eq_true p277
         replace q277 := eq_true q277
         go_wp2_with (first|((with_reducible refine gate_builtin (b := .append) (xs := #[.tmp 48,.tmp 54]) rfl ?_);at_builtin;refine Kd.R_append Kd.string (w0 := w) w.heap.size rfl (.tmp 48) (.tmp 54) 39 9 (.string ⟨#[]⟩) 16 rfl Tryd.underlying39 info9 rfl (by decide) (by omega) u11 x11_2 ((rd_T45 x7_1 x12_2).f0) [.string ((rd_T45 x7_1 x12_2).f0)] (fun k_ => (w.heap.size ≤ k_)) (fun _ => False) rfl rfl ?aP (fun _ hk => hk.elim) ?aF ?aO ?aB ?aS ?aL ?_;(case aP => exact rfl);(case aB => exact (bM HB.out));(case aF => exact (fun k_ hk => (Nat.le_trans (below_size (bM HB.out)) hk)));(case aO => exact (rM HO_11.out));(case aS => exact (below_size (bM HB.out)));(case aL => have := LMc18.out;omega);intro v279 w20 ho hb hg hat;rw [← Ny278.out] at ho;have n0_ := Aside0.mk (Kd.R_over' (rM HO_7.out) (Kd.R_typed (rM HO_11.out)) (by decide) hg);have n1_ := Aside0.mk (hb);have n2_ := Aside0.mk (ho);clear HO_7;clear HB;clear HO_11;have HO_7 := n0_;have HB := n1_;have HO280 := n2_;clear n0_ n1_ n2_;clear ho hb hg hat))
         go_roundg k2
         case measure => have := HK1.out;have := HK2.out;omega
         case rel => exact ⟨(y278),(wrap64 (x12_2 + 1)),(by first|rfl|(simp;done)|(simp [*];done)),H',⟨by have := HK1.out;have := HK2.out;omega⟩,⟨rM HO_7.out⟩,⟨rM HO280.out⟩,⟨bM HB.out⟩⟩
        ·rw [if_neg c18] at H
         exact absurd H (by simp)
       ·rw [if_neg c17] at H
        exact absurd H (by simp)
      ·rw [if_neg c16] at H
       have c16b0 : decide (x12_2 < (x7_1.length : Int)) = false := decide_eq_false c16
       clear c16
       obtain rfl := Option.some.inj H
       obtain ⟨Ao21,co21,eo21⟩ := Kd.R_slice HO_7.out
       subst eo21
       go_wp2
       go_ret
       exact ⟨_,by first|rfl|(simp [errW_none,errW_some] <;> rfl)|(simp [*,errW_none,errW_some] <;> rfl),rM HO_11.out,bM HB.out⟩

end Go.Proofs.YtpnhamfodjfacaaDoor.M
