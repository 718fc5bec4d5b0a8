-- Written by hp.py, a program of this session, over the kit's print of the translation. Not trusted: Lean checks it.
import Derived.Test.YtknpmknkkofnjaaPx0
namespace Go.Proofs.Ytknpmknkkofnjaa.P
open Go.RowKit Go.Proofs.YtknpmknkkofnjaaW.PrintWords Go.Proofs.YtknpmknkkofnjaaW.PrintLast Go.Proofs.YtknpmknkkofnjaaW.PrintMore
attribute [local go_sem] max2_int min2_int max_two min_two max_three min_three max_four min_four   -- for this text's walks alone
set_option linter.unusedVariables false
set_option linter.unusedSimpArgs false

/-! ### codesearchref03_Put: function 41 -/
mutual
def codesearchref03_Put.l0 : Nat → List Int → Int → List Int → Int → Option (List Int)
|0,_,_,_,_ => none
|k + 1,x0,x1,x5,x6 => if x6 < (x0.length : Int) then (if 0 ≤ x6 then (if x5.length < 140737488355328 then (codesearchref03_Put.l0 k x0 x1 (x5 ++ [rd x0 x6]) (wrap64 (x6 + 1))) else (none)) else (none)) else (codesearchref03_Put.l1 k x5 (mx x1 0))
def codesearchref03_Put.l1 : Nat → List Int → Int → Option (List Int)
|0,_,_ => none
|k + 1,x5,x7 => if x7 ≥ 128 then (if x5.length < 140737488355328 then (codesearchref03_Put.l1 k (x5 ++ [(wrap64 ((Int.tmod x7 128) + 128)) % 256]) (wrap64 (Int.tdiv x7 128))) else (none)) else (if x5.length < 140737488355328 then (some (x5 ++ [(x7) % 256])) else (none))
end
def codesearchref03_Put.f (k : Nat) (l0 : List Int) (a1 : Int) : Option (List Int) := codesearchref03_Put.l0 k l0 a1 ([] : List Int) 0
theorem codesearchref03_Put.mono_l : ∀ k, (∀ y0 y1 y2 y3, LeO (codesearchref03_Put.l0 k y0 y1 y2 y3) (codesearchref03_Put.l0 (k + 1) y0 y1 y2 y3)) ∧ (∀ y0 y1, LeO (codesearchref03_Put.l1 k y0 y1) (codesearchref03_Put.l1 (k + 1) y0 y1))
|0 => ⟨fun _ _ _ _ r h => by simp [codesearchref03_Put.l0] at h,fun _ _ r h => by simp [codesearchref03_Put.l1] at h⟩
|k + 1 => by
  obtain ⟨ih0,ih1⟩ := codesearchref03_Put.mono_l k
  refine ⟨?_,?_⟩
  ·intro y0 y1 y2 y3
   unfold codesearchref03_Put.l0
   repeat' first
  |(with_reducible exact ih0 _ _ _ _)
  |(with_reducible exact ih1 _ _)
  |(with_reducible exact LeO.refl _)
  |(with_reducible exact LeO.none _)
  |(with_reducible refine LeO.ite ?_ ?_)
  |(with_reducible refine LeO.bind ?_ (fun _ => ?_))
  |exact ih0 _ _ _ _
  |exact ih1 _ _
  |exact LeO.none _
  |refine LeO.ite ?_ ?_
  |refine LeO.bind ?_ (fun _ => ?_)
  ·intro y0 y1
   unfold codesearchref03_Put.l1
   repeat' first
  |(with_reducible exact ih0 _ _ _ _)
  |(with_reducible exact ih1 _ _)
  |(with_reducible exact LeO.refl _)
  |(with_reducible exact LeO.none _)
  |(with_reducible refine LeO.ite ?_ ?_)
  |(with_reducible refine LeO.bind ?_ (fun _ => ?_))
  |exact ih0 _ _ _ _
  |exact ih1 _ _
  |exact LeO.none _
  |refine LeO.ite ?_ ?_
  |refine LeO.bind ?_ (fun _ => ?_)
theorem codesearchref03_Put.mono : ∀ a0 a1 k, LeO (codesearchref03_Put.f k a0 a1) (codesearchref03_Put.f (k + 1) a0 a1) := by
 intro a0 a1 k
 obtain ⟨ih0,ih1⟩ := codesearchref03_Put.mono_l k
 unfold codesearchref03_Put.f
 repeat' first
  |(with_reducible exact ih0 _ _ _ _)
  |(with_reducible exact ih1 _ _)
  |(with_reducible exact LeO.refl _)
  |(with_reducible exact LeO.none _)
  |(with_reducible refine LeO.ite ?_ ?_)
  |(with_reducible refine LeO.bind ?_ (fun _ => ?_))
  |exact ih0 _ _ _ _
  |exact ih1 _ _
  |exact LeO.none _
  |refine LeO.ite ?_ ?_
  |refine LeO.bind ?_ (fun _ => ?_)
set_option maxHeartbeats 4000000 in
set_option maxRecDepth 100000 in
theorem codesearchref03_Put.calls (k : Nat) (A0 : Option Addr) (c0 : Nat) (l0 : List Int) (a1 : Int) (r : List Int) (w : World) (hr0 : Kd.C (Kd.int .u8) w A0 l0.length l0) (hc0 : l0.length ≤ c0) (h : codesearchref03_Put.f k l0 a1 = some r) :
  Calls Try.prog 41 #[.slice A0 l0.length c0,.int .i64 a1] w fun e w' => ∃ v0_ : Value,e = .returned (v0_) ∧ Kd.R (Kd.int .u8) 5 w' w.heap.size (fun _ => True) v0_ r ∧ Below w.heap.size w w' := by
 have HR0 := Aside0.mk hr0
 have HC0 := Aside0.mk hc0
 clear hr0 hc0
 have HB := Aside0.mk (Below.refl w.heap.size w)
 have H : (codesearchref03_Put.l0 k l0 a1 ([] : List Int) 0) = some r := h
 clear h
 have H' := Aside0.mk H
 clear H
 go_enter Try.func41,Try.ntmps41
 go_wp2
 go_loopg [5,6] k (fun kq v5 v6 w' => ∃ (x5_1 : List Int) (x6_1 : Int),v6 = .int .i64 x6_1 ∧ Aside0 (codesearchref03_Put.l0 kq l0 a1 x5_1 x6_1 = some r) ∧ Aside0 (kq ≤ k) ∧ Aside0 (Kd.R (Kd.int .u8) 5 w' w.heap.size (fun _ => True) v5 x5_1) ∧ Aside0 (Below w.heap.size w w'))
 case atStart => exact ⟨(([] : List Int)),(0),(by first|rfl|(simp;done)|(simp [*];done)),H',⟨Nat.le_refl _⟩,⟨by first|exact Kd.R_nil _ _ _ _ _|exact Kd.N_nil _ _ _ _ _|exact Kd.V_nil _ _ _ _ _|exact Kd.Q_nil _ _ _ _ _|exact Kd.S_nil _ _ _ _ _⟩,⟨bM HB.out⟩⟩
 case round =>
  clear H'
  try clear p2
  obtain ⟨x5_1,x6_1,rfl,HA,HK1,HO_5,HB⟩ := hrel
  cases gk with
 |zero => exact absurd HA.out (by simp [codesearchref03_Put.l0])
 |succ k1 =>
   have H := HA.out
   clear HA
   simp only [codesearchref03_Put.l0] at H
   by_cases c3 : x6_1 < (l0.length : Int)
   ·rw [if_pos c3] at H
    have c3b0 : decide (x6_1 < (l0.length : Int)) = true := decide_eq_true c3
    clear c3
    by_cases c4 : 0 ≤ x6_1
    ·rw [if_pos c4] at H
     have c4b0 : decide (0 ≤ x6_1) = true := decide_eq_true c4
     clear c4
     by_cases c5 : x5_1.length < 140737488355328
     ·rw [if_pos c5] at H
      have LMc5 := Aside0.mk c5
      clear c5
      obtain ⟨y419,hy419⟩ : ∃ y_ : List Int,y_ = (x5_1 ++ [rd l0 x6_1]) := ⟨_,rfl⟩
      replace H : (codesearchref03_Put.l0 k1 l0 a1 y419 (wrap64 (x6_1 + 1))) = some r := by first|(rw [hy419];with_reducible exact H)|(have H2_ := (Option.bind_some _ _).symm.trans H;rw [hy419];with_reducible exact H2_)|(have H2_ := (Option.bind_some _ _).symm.trans H;with_reducible exact H2_)|with_reducible exact H|(rw [hy419];exact H)|exact H
      have Ny419 := Aside0.mk hy419
      clear hy419
      have H' := Aside0.mk H
      clear H
      have p418 : 0 ≤ (x6_1 : Int) := of_decide_eq_true (by first|(with_reducible assumption)|assumption)
      have q418 : x6_1 < (l0.length : Int) := of_decide_eq_true (by first|(with_reducible assumption)|assumption)
      obtain ⟨ad418,e418,hx418_0⟩ := Kd.at_int HR0.out x6_1 p418 q418
      cases e418
      replace hx418_0 := (HB.out.cell (World.block_lt_of_cell? w _ hx418_0)).trans hx418_0
      replace p418 := eq_true p418
      replace q418 := eq_true q418
      go_wp2_with (first|((with_reducible refine gate_builtin (b := .append) (xs := #[.tmp 14,.tmp 19]) rfl ?_);at_builtin;refine Kd.R_append (Kd.int .u8) (w0 := w) w.heap.size rfl (.tmp 14) (.tmp 19) 30 5 (.int .u8 0) 1 rfl Try.underlying30 info5 rfl (by decide) (by omega) u5 x5_1 (rd l0 x6_1) [.int .u8 (rd l0 x6_1)] (fun _ => True) (fun _ => False) rfl rfl ?aP (fun _ hk => hk.elim) ?aF ?aO ?aB ?aS ?aL ?_;(case aP => exact rfl);(case aB => exact (bM HB.out));(case aF => exact (fun _ _ => trivial));(case aO => exact (rM HO_5.out));(case aS => exact (below_size (bM HB.out)));(case aL => have := LMc5.out;omega);intro v420 w6 ho hb hg hat;rw [← Ny419.out] at ho;have n0_ := Aside0.mk (hb);have n1_ := Aside0.mk (ho);clear HB;clear HO_5;have HB := n0_;have HO421 := n1_;clear n0_ n1_;clear ho hb hg hat))
      go_roundg k1
      case measure => have := HK1.out;omega
      case rel => exact ⟨(y419),(wrap64 (x6_1 + 1)),(by first|rfl|(simp;done)|(simp [*];done)),H',⟨by have := HK1.out;omega⟩,⟨rM HO421.out⟩,⟨bM HB.out⟩⟩
     ·rw [if_neg c5] at H
      exact absurd H (by simp)
    ·rw [if_neg c4] at H
     exact absurd H (by simp)
   ·rw [if_neg c3] at H
    have c3b0 : decide (x6_1 < (l0.length : Int)) = false := decide_eq_false c3
    clear c3
    obtain ⟨ji7,hji7⟩ : ∃ j_ : Int,(mx a1 0) = j_ := ⟨_,rfl⟩
    replace H : (codesearchref03_Put.l1 k1 x5_1 ji7) = some r := by first|(rw [hji7] at H;exact H)|(simp only [hji7] at H ⊢;exact H)
    have hji7_ : (if a1 < 0 then 0 else a1) = ji7 := hji7
    have H' := Aside0.mk H
    clear H
    go_wp2
    go_loopg [5,7] k1 (fun kq v5 v7 w' => ∃ (x5_2 : List Int) (x7_2 : Int),v7 = .int .i64 x7_2 ∧ Aside0 (codesearchref03_Put.l1 kq x5_2 x7_2 = some r) ∧ Aside0 (kq ≤ k1) ∧ Aside0 (Kd.R (Kd.int .u8) 5 w' w.heap.size (fun _ => True) v5 x5_2) ∧ Aside0 (Below w.heap.size w w'))
    case atStart => exact ⟨(x5_1),(ji7),(by first|rfl|(simp;done)|(rw [Int.tdiv_eq_ediv_of_nonneg (by assumption)];done)|(rw [Int.tmod_eq_emod_of_nonneg (by assumption)];done)|(simp only [← hji7] <;> (first|rfl|simp))|(simp [*];done)),H',⟨Nat.le_refl _⟩,⟨rM HO_5.out⟩,⟨bM HB.out⟩⟩
    case round =>
     clear H'
     try clear p2
     try clear c3
     try clear c3b0
     try clear c4
     try clear c4b0
     try clear p4
     try clear q4
     try clear hx4
     try clear c5
     try clear p6
     try clear hx418_0
     try clear p2
     try clear p418
     try clear q418
     obtain ⟨x5_2,x7_2,rfl,HA,HK2,HO_5,HB⟩ := hrel
     cases gk with
    |zero => exact absurd HA.out (by simp [codesearchref03_Put.l1])
    |succ k2 =>
      have H := HA.out
      clear HA
      simp only [codesearchref03_Put.l1] at H
      by_cases c8 : x7_2 ≥ 128
      ·rw [if_pos c8] at H
       have c8b0 : decide (128 ≤ x7_2) = true := decide_eq_true c8
       clear c8
       by_cases c9 : x5_2.length < 140737488355328
       ·rw [if_pos c9] at H
        have LMc9 := Aside0.mk c9
        clear c9
        obtain ⟨y422,hy422⟩ : ∃ y_ : List Int,y_ = (x5_2 ++ [(wrap64 ((Int.tmod x7_2 128) + 128)) % 256]) := ⟨_,rfl⟩
        replace H : (codesearchref03_Put.l1 k2 y422 (wrap64 (Int.tdiv x7_2 128))) = some r := by first|(rw [hy422];with_reducible exact H)|(have H2_ := (Option.bind_some _ _).symm.trans H;rw [hy422];with_reducible exact H2_)|(have H2_ := (Option.bind_some _ _).symm.trans H;with_reducible exact H2_)|with_reducible exact H|(rw [hy422];exact H)|exact H
        have Ny422 := Aside0.mk hy422
        clear hy422
        have H' := Aside0.mk H
        clear H
        go_wp2_with (first|((with_reducible refine gate_builtin (b := .append) (xs := #[.tmp 25,.tmp 30]) rfl ?_);at_builtin;refine Kd.R_append (Kd.int .u8) (w0 := w) w.heap.size rfl (.tmp 25) (.tmp 30) 30 5 (.int .u8 0) 1 rfl Try.underlying30 info5 rfl (by decide) (by omega) u5 x5_2 ((wrap64 ((Int.tmod x7_2 128) + 128)) % 256) [.int .u8 ((wrap64 ((Int.tmod x7_2 128) + 128)) % 256)] (fun _ => True) (fun _ => False) rfl rfl ?aP (fun _ hk => hk.elim) ?aF ?aO ?aB ?aS ?aL ?_;(case aP => exact rfl);(case aB => exact (bM HB.out));(case aF => exact (fun _ _ => trivial));(case aO => exact (rM HO_5.out));(case aS => exact (below_size (bM HB.out)));(case aL => have := LMc9.out;omega);intro v423 w10 ho hb hg hat;rw [← Ny422.out] at ho;have n0_ := Aside0.mk (hb);have n1_ := Aside0.mk (ho);clear HB;clear HO_5;have HB := n0_;have HO424 := n1_;clear n0_ n1_;clear ho hb hg hat))
        go_roundg k2
        case measure => have := HK1.out;have := HK2.out;omega
        case rel => exact ⟨(y422),(wrap64 (Int.tdiv x7_2 128)),(by first|rfl|(simp;done)|(simp [*];done)),H',⟨by have := HK1.out;have := HK2.out;omega⟩,⟨rM HO424.out⟩,⟨bM HB.out⟩⟩
       ·rw [if_neg c9] at H
        exact absurd H (by simp)
      ·rw [if_neg c8] at H
       have c8b0 : decide (128 ≤ x7_2) = false := decide_eq_false c8
       clear c8
       by_cases c11 : x5_2.length < 140737488355328
       ·rw [if_pos c11] at H
        have LMc11 := Aside0.mk c11
        clear c11
        obtain ⟨y425,hy425⟩ : ∃ y_ : List Int,y_ = (x5_2 ++ [(x7_2) % 256]) := ⟨_,rfl⟩
        replace H : (some y425) = some r := by first|(rw [hy425];with_reducible exact H)|(have H2_ := (Option.bind_some _ _).symm.trans H;rw [hy425];with_reducible exact H2_)|(have H2_ := (Option.bind_some _ _).symm.trans H;with_reducible exact H2_)|with_reducible exact H|(rw [hy425];exact H)|exact H
        have Ny425 := Aside0.mk hy425
        clear hy425
        obtain rfl := Option.some.inj H
        go_wp2_with (first|((with_reducible refine gate_builtin (b := .append) (xs := #[.tmp 34,.tmp 37]) rfl ?_);at_builtin;refine Kd.R_append (Kd.int .u8) (w0 := w) w.heap.size rfl (.tmp 34) (.tmp 37) 30 5 (.int .u8 0) 1 rfl Try.underlying30 info5 rfl (by decide) (by omega) u5 x5_2 ((x7_2) % 256) [.int .u8 ((x7_2) % 256)] (fun _ => True) (fun _ => False) rfl rfl ?aP (fun _ hk => hk.elim) ?aF ?aO ?aB ?aS ?aL ?_;(case aP => exact rfl);(case aB => exact (bM HB.out));(case aF => exact (fun _ _ => trivial));(case aO => exact (rM HO_5.out));(case aS => exact (below_size (bM HB.out)));(case aL => have := LMc11.out;omega);intro v426 w12 ho hb hg hat;rw [← Ny425.out] at ho;have n0_ := Aside0.mk (hb);have n1_ := Aside0.mk (ho);clear HB;clear HO_5;have HB := n0_;have HO427 := n1_;clear n0_ n1_;clear ho hb hg hat))
        go_ret
        exact ⟨_,by first|rfl|(simp [errW_none,errW_some] <;> rfl)|(simp only [← hji7];first|rfl|(simp [errW_none,errW_some] <;> rfl))|(simp [*,errW_none,errW_some] <;> rfl),rM HO427.out,bM HB.out⟩
       ·rw [if_neg c11] at H
        exact absurd H (by simp)

end Go.Proofs.Ytknpmknkkofnjaa.P
