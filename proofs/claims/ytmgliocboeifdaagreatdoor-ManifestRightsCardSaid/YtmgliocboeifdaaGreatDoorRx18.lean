-- Written by hp.py, a program of this session, over the kit's print of the translation. Not trusted: Lean checks it.
import Derived.Test.YtmgliocboeifdaaGreatDoorRx0
namespace Go.Proofs.YtmgliocboeifdaaGreatDoor.R
open Go.RowKit Go.Proofs.YtmgliocboeifdaaGreatDoorW.PrintWords Go.Proofs.YtmgliocboeifdaaGreatDoorW.PrintLast Go.Proofs.YtmgliocboeifdaaGreatDoorW.PrintMore
attribute [local go_sem] max2_int min2_int max_two min_two max_three min_three max_four min_four   -- for this text's walks alone
set_option linter.unusedVariables false
set_option linter.unusedSimpArgs false

/-! ### codesearchref33_has: function 28 -/
def codesearchref33_has.l0 : Nat → List Int → Int → Int → Option (Bool)
|0,_,_,_ => none
|k + 1,x0,x1,x5 => if x5 < (x0.length : Int) then (if 0 ≤ x5 then (if (rd x0 x5) = x1 then (some true) else (codesearchref33_has.l0 k x0 x1 (wrap64 (x5 + 1)))) else (none)) else (some false)
def codesearchref33_has.f (k : Nat) (l0 : List Int) (a1 : Int) : Option (Bool) := codesearchref33_has.l0 k l0 a1 0
theorem codesearchref33_has.mono_l : ∀ k, (∀ y0 y1 y2, LeO (codesearchref33_has.l0 k y0 y1 y2) (codesearchref33_has.l0 (k + 1) y0 y1 y2))
|0 => fun _ _ _ r h => by simp [codesearchref33_has.l0] at h
|k + 1 => by
  have ih0 := codesearchref33_has.mono_l k
  ·intro y0 y1 y2
   unfold codesearchref33_has.l0
   repeat' (with_reducible first|exact ih0 _ _ _|exact LeO.refl _|exact LeO.none _|refine LeO.ite ?_ ?_|refine LeO.bind ?_ (fun _ => ?_))
theorem codesearchref33_has.mono : ∀ a0 a1 k, LeO (codesearchref33_has.f k a0 a1) (codesearchref33_has.f (k + 1) a0 a1) := by
 intro a0 a1 k
 have ih0 := codesearchref33_has.mono_l k
 unfold codesearchref33_has.f
 repeat' first
  |(with_reducible exact ih0 _ _ _)
  |(with_reducible exact LeO.refl _)
  |(with_reducible exact LeO.none _)
  |(with_reducible refine LeO.ite ?_ ?_)
  |(with_reducible refine LeO.bind ?_ (fun _ => ?_))
  |exact ih0 _ _ _
  |exact LeO.none _
  |refine LeO.ite ?_ ?_
  |refine LeO.bind ?_ (fun _ => ?_)
set_option maxHeartbeats 4000000 in
set_option maxRecDepth 100000 in
theorem codesearchref33_has.calls (k : Nat) (A0 : Option Addr) (c0 : Nat) (l0 : List Int) (a1 : Int) (r : Bool) (w : World) (hr0 : Kd.C (Kd.int .i64) w A0 l0.length l0) (hc0 : l0.length ≤ c0) (h : codesearchref33_has.f k l0 a1 = some r) :
  Calls Tryz.prog 28 #[.slice A0 l0.length c0,.int .i64 a1] w fun e w' => e = .returned (.bool r) ∧ Drawn0 w w' := by
 have HR0 := aK hr0
 have HC0 := aK hc0
 clear hr0 hc0
 have H : (codesearchref33_has.l0 k l0 a1 0) = some r := h
 clear h
 have H' := aK H
 clear H
 go_enter Tryz.func28,Tryz.ntmps28
 go_wp2
 go_loopg [5] k (fun kq v5 w' => ∃ (x5_1 : Int),v5 = .int .i64 x5_1 ∧ Aside0 (codesearchref33_has.l0 kq l0 a1 x5_1 = some r) ∧ Aside0 (kq ≤ k) ∧ Drawn0 w w')
 case atStart => exact ⟨(0),(by first|rfl|(simp;done)|(simp [*];done)),H',⟨Nat.le_refl _⟩,by repeat (first|exact Drawn0.refl _|apply Drawn0.step)⟩
 case round =>
  clear H'
  try clear p2
  obtain ⟨x5_1,rfl,HA,HK1,⟨m1,rfl⟩⟩ := hrel
  cases gk with
 |zero => exact absurd HA.out (by simp [codesearchref33_has.l0])
 |succ k1 =>
   have H := HA.out
   clear HA
   simp only [codesearchref33_has.l0] at H
   by_cases c3 : x5_1 < (l0.length : Int)
   ·rw [if_pos c3] at H
    have c3b0 := decide_eq_true c3
    clear c3
    obtain ⟨c4,H⟩ := iS H
    have c4b0 := decide_eq_true c4
    clear c4
    by_cases c5 : (rd l0 x5_1) = a1
    ·rw [if_pos c5] at H
     have c5b0 := beq_iff_eq.mpr c5
     have c5b1 := bne_eq_false_iff_eq.mpr c5
     clear c5
     obtain rfl := Option.some.inj H
     have p464 : 0 ≤ (x5_1 : Int) := of_decide_eq_true (by assumption)
     have q464 : x5_1 < (l0.length : Int) := of_decide_eq_true (by assumption)
     obtain ⟨ad464,e464,hx464_0⟩ := Kd.at_int HR0.out x5_1 p464 q464
     cases e464
     replace p464 := eq_true p464
     replace q464 := eq_true q464
     go_wp2
     go_ret
     exact ⟨by first|rfl|(simp;done)|(simp [*];done),by repeat (first|exact Drawn0.refl _|apply Drawn0.step)⟩
    ·rw [if_neg c5] at H
     have c5b0 := beq_eq_false_iff_ne.mpr c5
     have c5b1 := bne_iff_ne.mpr c5
     have H' := aK H
     clear H
     have p464 : 0 ≤ (x5_1 : Int) := of_decide_eq_true (by assumption)
     have q464 : x5_1 < (l0.length : Int) := of_decide_eq_true (by assumption)
     obtain ⟨ad464,e464,hx464_0⟩ := Kd.at_int HR0.out x5_1 p464 q464
     cases e464
     replace p464 := eq_true p464
     replace q464 := eq_true q464
     go_wp2
     go_roundg k1
     case measure => have := HK1.out;omega
     case rel => exact ⟨(wrap64 (x5_1 + 1)),(by first|rfl|(simp;done)|(simp [*];done)),H',⟨by have := HK1.out;omega⟩,by repeat (first|exact Drawn0.refl _|apply Drawn0.step)⟩
   ·rw [if_neg c3] at H
    have c3b0 := decide_eq_false c3
    clear c3
    obtain rfl := Option.some.inj H
    go_wp2
    go_ret
    exact ⟨by first|rfl|(simp;done)|(simp [*];done),by repeat (first|exact Drawn0.refl _|apply Drawn0.step)⟩

/-! ### codesearchref33_with: function 58 -/
def codesearchref33_with.l0 : Nat → List Int → Int → List Int → Bool → Int → Option (List Int)
|0,_,_,_,_,_ => none
|k + 1,x0,x1,x5,x6,x7 => if x7 < (x0.length : Int) then (if x6 = true then (if 0 ≤ x7 then (if x5.length < 17592186044416 then (codesearchref33_with.l0 k x0 x1 (x5 ++ [rd x0 x7]) x6 (wrap64 (x7 + 1))) else (none)) else (none)) else (if 0 ≤ x7 then (if x1 < (rd x0 x7) then (if x5.length < 17592186044416 then ((some (x5 ++ [x1] : List Int)).bind fun y471 => (if y471.length < 17592186044416 then (codesearchref33_with.l0 k x0 x1 (y471 ++ [rd x0 x7]) true (wrap64 (x7 + 1))) else (none))) else (none)) else (if x5.length < 17592186044416 then (codesearchref33_with.l0 k x0 x1 (x5 ++ [rd x0 x7]) x6 (wrap64 (x7 + 1))) else (none))) else (none))) else (if x6 = true then (some x5) else (if x5.length < 17592186044416 then (some (x5 ++ [x1])) else (none)))
def codesearchref33_with.f (k : Nat) (l0 : List Int) (a1 : Int) : Option (List Int) := (codesearchref33_has.f k l0 a1).bind fun t465 => (if t465 = true then (some l0) else (codesearchref33_with.l0 k l0 a1 ([] : List Int) false 0))
theorem codesearchref33_with.mono_l : ∀ k, (∀ y0 y1 y2 y3 y4, LeO (codesearchref33_with.l0 k y0 y1 y2 y3 y4) (codesearchref33_with.l0 (k + 1) y0 y1 y2 y3 y4))
|0 => fun _ _ _ _ _ r h => by simp [codesearchref33_with.l0] at h
|k + 1 => by
  have ih0 := codesearchref33_with.mono_l k
  ·intro y0 y1 y2 y3 y4
   unfold codesearchref33_with.l0
   repeat' (with_reducible first|exact ih0 _ _ _ _ _|exact LeO.refl _|exact LeO.none _|refine LeO.ite ?_ ?_|refine LeO.bind ?_ (fun _ => ?_))
theorem codesearchref33_with.mono : ∀ a0 a1 k, LeO (codesearchref33_with.f k a0 a1) (codesearchref33_with.f (k + 1) a0 a1) := by
 intro a0 a1 k
 have ih0 := codesearchref33_with.mono_l k
 unfold codesearchref33_with.f
 repeat' first
  |(with_reducible exact ih0 _ _ _ _ _)
  |(with_reducible exact codesearchref33_has.mono _ _ _)
  |(with_reducible exact LeO.refl _)
  |(with_reducible exact LeO.none _)
  |(with_reducible refine LeO.ite ?_ ?_)
  |(with_reducible refine LeO.bind ?_ (fun _ => ?_))
  |exact ih0 _ _ _ _ _
  |exact codesearchref33_has.mono _ _ _
  |exact LeO.none _
  |refine LeO.ite ?_ ?_
  |refine LeO.bind ?_ (fun _ => ?_)
set_option maxHeartbeats 4000000 in
set_option maxRecDepth 100000 in
theorem codesearchref33_with.calls (k : Nat) (P0_ : Nat → Prop) (u9000_ : Value) (l0 : List Int) (a1 : Int) (r : List Int) (w0 w : World) (hB : Below w0.heap.size w0 w) (ho0 : Kd.R (Kd.int .i64) 3 w w0.heap.size P0_ u9000_ l0) (h : codesearchref33_with.f k l0 a1 = some r) :
  Calls Tryz.prog 58 #[u9000_,.int .i64 a1] w fun e w' => ∃ v0_ : Value,e = .returned (v0_) ∧ Kd.R (Kd.int .i64) 3 w' w0.heap.size (fun k_ => (P0_ k_ ∨ w.heap.size ≤ k_)) v0_ r ∧ Below w0.heap.size w0 w' ∧ Kept w w' (fun k_ => P0_ k_) := by
 have HO0 := aK (show Kd.R (Kd.int .i64) 3 w w0.heap.size (fun k_ => (P0_ k_ ∨ w.heap.size ≤ k_)) u9000_ l0 from Kd.R_mono ho0 (fun k_ hk => (.inl hk)))
 have HK := aK (Kept.refl w (fun k_ => P0_ k_))
 have HW0 := aK hB.size
 have HB := aK hB
 clear hB
 have H : ((codesearchref33_has.f k l0 a1).bind fun t465 => (if t465 = true then (some l0) else (codesearchref33_with.l0 k l0 a1 ([] : List Int) false 0))) = some r := h
 clear h
 replace H := Option.bind_eq_some_iff.mp H
 obtain ⟨t465,A30,H⟩ := H
 have A3 := aK A30
 clear A30
 by_cases c4 : t465 = true
 ·subst c4
  rw [if_pos rfl] at H
  obtain rfl := Option.some.inj H
  obtain ⟨Ao5,co5,eo5⟩ := Kd.R_slice HO0.out
  subst eo5
  go_enter Tryz.func58,Tryz.ntmps58
  go_wp2_with (first|((with_reducible refine gate_callee (f := 28) rfl ?_);refine goesL_ (some 10) rfl rfl Tryz.func28 (by kernel_rfl) rfl #[.slice Ao5 l0.length co5,.int .i64 a1] rfl (by (try simp only [List.map_toArray,List.map_cons,List.map_nil]);first|done|rfl|(simp only [List.length_drop,List.length_take];rfl)) ?_;(with_reducible refine (codesearchref33_has.calls k _ _ l0 a1 true _ ?side1 ?side2 A3.out).mono ?_);(case side1 => exact cM (Kd.R_reads' HO0.out).2.2);(case side2 => exact (Kd.R_reads' HO0.out).2.1);rintro e w' ⟨rfl,⟨nd,rfl⟩⟩;refine ⟨_,rfl,?_⟩))
  go_ret
  exact ⟨_,by first|rfl|(simp [errW_none,errW_some] <;> rfl)|(simp [*,errW_none,errW_some] <;> rfl),rM HO0.out,bM HB.out,kG HK.out⟩
 ·replace c4 := Bool.eq_false_iff.mpr c4
  subst c4
  rw [if_neg (show ¬ (false = true) by decide)] at H
  have H' := aK H
  clear H
  obtain ⟨Ao6,co6,eo6⟩ := Kd.R_slice HO0.out
  subst eo6
  go_enter Tryz.func58,Tryz.ntmps58
  go_wp2_with (first|((with_reducible refine gate_callee (f := 28) rfl ?_);refine goesL_ (some 10) rfl rfl Tryz.func28 (by kernel_rfl) rfl #[.slice Ao6 l0.length co6,.int .i64 a1] rfl (by (try simp only [List.map_toArray,List.map_cons,List.map_nil]);first|done|rfl|(simp only [List.length_drop,List.length_take];rfl)) ?_;(with_reducible refine (codesearchref33_has.calls k _ _ l0 a1 false _ ?side1 ?side2 A3.out).mono ?_);(case side1 => exact cM (Kd.R_reads' HO0.out).2.2);(case side2 => exact (Kd.R_reads' HO0.out).2.1);rintro e w' ⟨rfl,⟨nd,rfl⟩⟩;refine ⟨_,rfl,?_⟩))
  go_loopg [5,6,7] k (fun kq v5 v6 v7 w' => ∃ (x5_1 : List Int) (x6_1 : Bool) (x7_1 : Int),v6 = .bool x6_1 ∧ v7 = .int .i64 x7_1 ∧ Aside0 (codesearchref33_with.l0 kq l0 a1 x5_1 x6_1 x7_1 = some r) ∧ Aside0 (kq ≤ k) ∧ Aside0 (Kd.R (Kd.int .i64) 3 w' w0.heap.size (fun k_ => (P0_ k_ ∨ w.heap.size ≤ k_) ∧ some k_ ≠ (v5 : Value).ownBlock) (.slice Ao6 l0.length co6) l0) ∧ Aside0 (Kd.R (Kd.int .i64) 3 w' w0.heap.size (fun k_ => (P0_ k_ ∨ w.heap.size ≤ k_) ∧ some k_ ≠ ((.slice Ao6 l0.length co6) : Value).ownBlock) v5 x5_1) ∧ Aside0 (Kept w w' (fun k_ => P0_ k_)) ∧ Aside0 (Below w0.heap.size w0 w'))
  case atStart => exact ⟨(([] : List Int)),(false),(0),(by first|rfl|(simp;done)|(simp [*];done)),(by first|rfl|(simp;done)|(simp [*];done)),H',⟨Nat.le_refl _⟩,⟨by (with_reducible repeat (first|apply Kd.R_alloc|apply Kd.R_drewN|apply Kd.R_drew));exact Kd.R_mono HO0.out (fun _ hk => ⟨hk,(by simp [Value.ownBlock])⟩)⟩,⟨by first|exact Kd.R_nil _ _ _ _ _|exact Kd.N_nil _ _ _ _ _|exact Kd.V_nil _ _ _ _ _|exact Kd.Q_nil _ _ _ _ _|exact Kd.S_nil _ _ _ _ _⟩,⟨kG HK.out⟩,⟨bM HB.out⟩⟩
  case round =>
   clear H'
   try clear p2
   try clear c4
   obtain ⟨x5_1,x6_1,x7_1,rfl,rfl,HA,HK1,HO_0,HO_5,HK,HB⟩ := hrel
   cases gk with
  |zero => exact absurd HA.out (by simp [codesearchref33_with.l0])
  |succ k1 =>
    have H := HA.out
    clear HA
    simp only [codesearchref33_with.l0] at H
    by_cases c7 : x7_1 < (l0.length : Int)
    ·rw [if_pos c7] at H
     have c7b0 := decide_eq_true c7
     clear c7
     by_cases c8 : x6_1 = true
     ·subst c8
      rw [if_pos rfl] at H
      obtain ⟨c9,H⟩ := iS H
      have c9b0 := decide_eq_true c9
      clear c9
      obtain ⟨c10,H⟩ := iS H
      have LMc10 := aK c10
      clear c10
      obtain ⟨y467,hy467⟩ : ∃ y_ : List Int,y_ = (x5_1 ++ [rd l0 x7_1]) := ⟨_,rfl⟩
      replace H : (codesearchref33_with.l0 k1 l0 a1 y467 true (wrap64 (x7_1 + 1))) = some r := by first|(rw [hy467];with_reducible exact H)|(have H2_ := (Option.bind_some _ _).symm.trans H;rw [hy467];with_reducible exact H2_)|(have H2_ := (Option.bind_some _ _).symm.trans H;with_reducible exact H2_)|with_reducible exact H|(rw [hy467];exact H)|exact H
      have Ny467 := aK hy467
      clear hy467
      have H' := aK H
      clear H
      have p466 : 0 ≤ (x7_1 : Int) := of_decide_eq_true (by assumption)
      have q466 : x7_1 < (l0.length : Int) := of_decide_eq_true (by assumption)
      obtain ⟨ad466,e466,hx466_0⟩ := Kd.at_int (Kd.R_reads' HO_0.out).2.2 x7_1 p466 q466
      cases e466
      replace p466 := eq_true p466
      replace q466 := eq_true q466
      go_wp2_with (first|((with_reducible refine gate_builtin (b := .append) (xs := #[.tmp 32,.tmp 37]) rfl ?_);at_builtin;refine Kd.R_append (Kd.int .i64) (w0 := w0) w0.heap.size rfl (.tmp 32) (.tmp 37) 27 3 (.int .i64 0) 8 rfl Tryz.underlying27 info3 rfl (by decide) (by omega) u5 x5_1 (rd l0 x7_1) [.int .i64 (rd l0 x7_1)] (fun k_ => (P0_ k_ ∨ w.heap.size ≤ k_) ∧ some k_ ≠ (.slice (some ad466) l0.length co6 : Value).ownBlock) (fun _ => False) rfl rfl ?aP (fun _ hk => hk.elim) ?aF ?aO ?aB ?aS ?aL ?_;(case aP => exact rfl);(case aB => exact (bM HB.out));(case aF => exact (fun k_ hk => ⟨(.inr (Nat.le_trans (by first|exact HK.out.1|exact (show Kept w _ (fun k_ => P0_ k_) from kG HK.out).1) hk)),Kd.fresh' (Kd.R_lt (rM HO_0.out)) k_ hk⟩));(case aO => exact (rM HO_5.out));(case aS => exact (below_size (bM HB.out)));(case aL => have := LMc10.out;omega);intro v468 w11 ho hb hg hat;rw [← Ny467.out] at ho;replace HO_0 := aK (Kd.R_after (ok := (fun k_ => (P0_ k_ ∨ w.heap.size ≤ k_))) (rM HO_0.out) hg hat);replace HB := aK (hb);replace HK := aK (Kept.of_grown (S := (fun k_ => P0_ k_)) hg (kG HK.out) (fun k_ e_ => (HO_5.out.1 k_ e_).1));have HO469 := aK (ho);clear ho hb hg hat))
      go_roundg k1
      case measure => have := HK1.out;omega
      case rel => exact ⟨(y467),(true),(wrap64 (x7_1 + 1)),(by first|rfl|(simp;done)|(simp [*];done)),(by first|rfl|(simp;done)|(simp [*];done)),H',⟨by have := HK1.out;omega⟩,⟨rM HO_0.out⟩,⟨rM HO469.out⟩,⟨kG HK.out⟩,⟨bM HB.out⟩⟩
     ·replace c8 := Bool.eq_false_iff.mpr c8
      subst c8
      rw [if_neg (show ¬ (false = true) by decide)] at H
      obtain ⟨c12,H⟩ := iS H
      have c12b0 := decide_eq_true c12
      clear c12
      by_cases c13 : a1 < (rd l0 x7_1)
      ·rw [if_pos c13] at H
       have c13b0 := decide_eq_true c13
       clear c13
       obtain ⟨c14,H⟩ := iS H
       have LMc14 := aK c14
       clear c14
       obtain ⟨y471,hy471⟩ : ∃ y_ : List Int,y_ = (x5_1 ++ [a1]) := ⟨_,rfl⟩
       replace H : (if y471.length < 17592186044416 then (codesearchref33_with.l0 k1 l0 a1 (y471 ++ [rd l0 x7_1]) true (wrap64 (x7_1 + 1))) else (none)) = some r := by first|(rw [hy471];with_reducible exact H)|(have H2_ := (Option.bind_some _ _).symm.trans H;rw [hy471];with_reducible exact H2_)|(have H2_ := (Option.bind_some _ _).symm.trans H;with_reducible exact H2_)|with_reducible exact H|(rw [hy471];exact H)|exact H
       have Ny471 := aK hy471
       clear hy471
       obtain ⟨c15,H⟩ := iS H
       have LMc15 := aK c15
       clear c15
       obtain ⟨y475,hy475⟩ : ∃ y_ : List Int,y_ = (y471 ++ [rd l0 x7_1]) := ⟨_,rfl⟩
       replace H : (codesearchref33_with.l0 k1 l0 a1 y475 true (wrap64 (x7_1 + 1))) = some r := by first|(rw [hy475];with_reducible exact H)|(have H2_ := (Option.bind_some _ _).symm.trans H;rw [hy475];with_reducible exact H2_)|(have H2_ := (Option.bind_some _ _).symm.trans H;with_reducible exact H2_)|with_reducible exact H|(rw [hy475];exact H)|exact H
       have Ny475 := aK hy475
       clear hy475
       have H' := aK H
       clear H
       have p470 : 0 ≤ (x7_1 : Int) := of_decide_eq_true (by assumption)
       have q470 : x7_1 < (l0.length : Int) := of_decide_eq_true (by assumption)
       obtain ⟨ad470,e470,hx470_0⟩ := Kd.at_int (Kd.R_reads' HO_0.out).2.2 x7_1 p470 q470
       cases e470
       replace p470 := eq_true p470
       replace q470 := eq_true q470
       go_wp2_with (first|((with_reducible refine gate_builtin (b := .append) (xs := #[.tmp 28,.tmp 30]) rfl ?_);at_builtin;refine Kd.R_append (Kd.int .i64) (w0 := w0) w0.heap.size rfl (.tmp 28) (.tmp 30) 27 3 (.int .i64 0) 8 rfl Tryz.underlying27 info3 rfl (by decide) (by omega) u5 x5_1 a1 [.int .i64 a1] (fun k_ => (P0_ k_ ∨ w.heap.size ≤ k_) ∧ some k_ ≠ (.slice (some ad470) l0.length co6 : Value).ownBlock) (fun _ => False) rfl rfl ?aP (fun _ hk => hk.elim) ?aF ?aO ?aB ?aS ?aL ?_;(case aP => exact rfl);(case aB => exact (bM HB.out));(case aF => exact (fun k_ hk => ⟨(.inr (Nat.le_trans (by first|exact HK.out.1|exact (show Kept w _ (fun k_ => P0_ k_) from kG HK.out).1) hk)),Kd.fresh' (Kd.R_lt (rM HO_0.out)) k_ hk⟩));(case aO => exact (rM HO_5.out));(case aS => exact (below_size (bM HB.out)));(case aL => have := LMc14.out;omega);intro v472 w16 ho hb hg hat;rw [← Ny471.out] at ho;replace HO_0 := aK (Kd.R_after (ok := (fun k_ => (P0_ k_ ∨ w.heap.size ≤ k_))) (rM HO_0.out) hg hat);replace HB := aK (hb);replace HK := aK (Kept.of_grown (S := (fun k_ => P0_ k_)) hg (kG HK.out) (fun k_ e_ => (HO_5.out.1 k_ e_).1));have HO473 := aK (ho);clear ho hb hg hat;have p474 : 0 ≤ (x7_1 : Int) := of_decide_eq_true (by assumption);have q474 : x7_1 < (l0.length : Int) := of_decide_eq_true (by assumption);obtain ⟨ad474,e474,hx474_0⟩ := Kd.at_int (Kd.R_reads' HO_0.out).2.2 x7_1 p474 q474;obtain rfl : ad470 = ad474 := (by injection e474);replace p474 := eq_true p474;replace q474 := eq_true q474)|((with_reducible refine gate_builtin (b := .append) (xs := #[.tmp 32,.tmp 37]) rfl ?_);at_builtin;refine Kd.R_append (Kd.int .i64) (w0 := w0) w0.heap.size rfl (.tmp 32) (.tmp 37) 27 3 (.int .i64 0) 8 rfl Tryz.underlying27 info3 rfl (by decide) (by omega) v472 y471 (rd l0 x7_1) [.int .i64 (rd l0 x7_1)] (fun k_ => (P0_ k_ ∨ w.heap.size ≤ k_) ∧ some k_ ≠ (.slice (some ad470) l0.length co6 : Value).ownBlock) (fun _ => False) rfl rfl ?aP (fun _ hk => hk.elim) ?aF ?aO ?aB ?aS ?aL ?_;(case aP => exact rfl);(case aB => exact (bM HB.out));(case aF => exact (fun k_ hk => ⟨(.inr (Nat.le_trans (by first|exact HK.out.1|exact (show Kept w _ (fun k_ => P0_ k_) from kG HK.out).1) hk)),Kd.fresh' (Kd.R_lt (rM HO_0.out)) k_ hk⟩));(case aO => exact (rM HO473.out));(case aS => exact (below_size (bM HB.out)));(case aL => have := LMc15.out;omega);intro v476 w17 ho hb hg hat;rw [← Ny475.out] at ho;replace HO_0 := aK (Kd.R_after (ok := (fun k_ => (P0_ k_ ∨ w.heap.size ≤ k_))) (rM HO_0.out) hg hat);replace HB := aK (hb);replace HK := aK (Kept.of_grown (S := (fun k_ => P0_ k_)) hg (kG HK.out) (fun k_ e_ => (HO473.out.1 k_ e_).1));have HO477 := aK (ho);clear ho hb hg hat))
       go_roundg k1
       case measure => have := HK1.out;omega
       case rel => exact ⟨(y475),(true),(wrap64 (x7_1 + 1)),(by first|rfl|(simp;done)|(simp [*];done)),(by first|rfl|(simp;done)|(simp [*];done)),H',⟨by have := HK1.out;omega⟩,⟨rM HO_0.out⟩,⟨rM HO477.out⟩,⟨kG HK.out⟩,⟨bM HB.out⟩⟩
      ·rw [if_neg c13] at H
       have c13b0 := decide_eq_false c13
       clear c13
       obtain ⟨c18,H⟩ := iS H
       have LMc18 := aK c18
       clear c18
       obtain ⟨y479,hy479⟩ : ∃ y_ : List Int,y_ = (x5_1 ++ [rd l0 x7_1]) := ⟨_,rfl⟩
       replace H : (codesearchref33_with.l0 k1 l0 a1 y479 false (wrap64 (x7_1 + 1))) = some r := by first|(rw [hy479];with_reducible exact H)|(have H2_ := (Option.bind_some _ _).symm.trans H;rw [hy479];with_reducible exact H2_)|(have H2_ := (Option.bind_some _ _).symm.trans H;with_reducible exact H2_)|with_reducible exact H|(rw [hy479];exact H)|exact H
       have Ny479 := aK hy479
       clear hy479
       have H' := aK H
       clear H
       have p470 : 0 ≤ (x7_1 : Int) := of_decide_eq_true (by assumption)
       have q470 : x7_1 < (l0.length : Int) := of_decide_eq_true (by assumption)
       obtain ⟨ad470,e470,hx470_0⟩ := Kd.at_int (Kd.R_reads' HO_0.out).2.2 x7_1 p470 q470
       cases e470
       replace p470 := eq_true p470
       replace q470 := eq_true q470
       have p478 : 0 ≤ (x7_1 : Int) := of_decide_eq_true (by assumption)
       have q478 : x7_1 < (l0.length : Int) := of_decide_eq_true (by assumption)
       obtain ⟨ad478,e478,hx478_0⟩ := Kd.at_int (Kd.R_reads' HO_0.out).2.2 x7_1 p478 q478
       obtain rfl : ad470 = ad478 := (by injection e478)
       replace p478 := eq_true p478
       replace q478 := eq_true q478
       go_wp2_with (first|((with_reducible refine gate_builtin (b := .append) (xs := #[.tmp 32,.tmp 37]) rfl ?_);at_builtin;refine Kd.R_append (Kd.int .i64) (w0 := w0) w0.heap.size rfl (.tmp 32) (.tmp 37) 27 3 (.int .i64 0) 8 rfl Tryz.underlying27 info3 rfl (by decide) (by omega) u5 x5_1 (rd l0 x7_1) [.int .i64 (rd l0 x7_1)] (fun k_ => (P0_ k_ ∨ w.heap.size ≤ k_) ∧ some k_ ≠ (.slice (some ad470) l0.length co6 : Value).ownBlock) (fun _ => False) rfl rfl ?aP (fun _ hk => hk.elim) ?aF ?aO ?aB ?aS ?aL ?_;(case aP => exact rfl);(case aB => exact (bM HB.out));(case aF => exact (fun k_ hk => ⟨(.inr (Nat.le_trans (by first|exact HK.out.1|exact (show Kept w _ (fun k_ => P0_ k_) from kG HK.out).1) hk)),Kd.fresh' (Kd.R_lt (rM HO_0.out)) k_ hk⟩));(case aO => exact (rM HO_5.out));(case aS => exact (below_size (bM HB.out)));(case aL => have := LMc18.out;omega);intro v480 w19 ho hb hg hat;rw [← Ny479.out] at ho;replace HO_0 := aK (Kd.R_after (ok := (fun k_ => (P0_ k_ ∨ w.heap.size ≤ k_))) (rM HO_0.out) hg hat);replace HB := aK (hb);replace HK := aK (Kept.of_grown (S := (fun k_ => P0_ k_)) hg (kG HK.out) (fun k_ e_ => (HO_5.out.1 k_ e_).1));have HO481 := aK (ho);clear ho hb hg hat))
       go_roundg k1
       case measure => have := HK1.out;omega
       case rel => exact ⟨(y479),(false),(wrap64 (x7_1 + 1)),(by first|rfl|(simp;done)|(simp [*];done)),(by first|rfl|(simp;done)|(simp [*];done)),H',⟨by have := HK1.out;omega⟩,⟨rM HO_0.out⟩,⟨rM HO481.out⟩,⟨kG HK.out⟩,⟨bM HB.out⟩⟩
    ·rw [if_neg c7] at H
     have c7b0 := decide_eq_false c7
     clear c7
     by_cases c20 : x6_1 = true
     ·subst c20
      rw [if_pos rfl] at H
      obtain rfl := Option.some.inj H
      go_wp2
      go_ret
      exact ⟨_,by first|rfl|(simp [errW_none,errW_some] <;> rfl)|(simp [*,errW_none,errW_some] <;> rfl),by (with_reducible repeat (first|apply Kd.R_alloc|apply Kd.R_drewN|apply Kd.R_drew));exact Kd.R_mono HO_5.out (fun _ hk => hk.1),bM HB.out,kG HK.out⟩
     ·replace c20 := Bool.eq_false_iff.mpr c20
      subst c20
      rw [if_neg (show ¬ (false = true) by decide)] at H
      by_cases c21 : x5_1.length < 17592186044416
      ·rw [if_pos c21] at H
       have LMc21 := aK c21
       clear c21
       obtain ⟨y482,hy482⟩ : ∃ y_ : List Int,y_ = (x5_1 ++ [a1]) := ⟨_,rfl⟩
       replace H : (some y482) = some r := by first|(rw [hy482];with_reducible exact H)|(have H2_ := (Option.bind_some _ _).symm.trans H;rw [hy482];with_reducible exact H2_)|(have H2_ := (Option.bind_some _ _).symm.trans H;with_reducible exact H2_)|with_reducible exact H|(rw [hy482];exact H)|exact H
       have Ny482 := aK hy482
       clear hy482
       obtain rfl := Option.some.inj H
       go_wp2_with (first|((with_reducible refine gate_builtin (b := .append) (xs := #[.tmp 41,.tmp 43]) rfl ?_);at_builtin;refine Kd.R_append (Kd.int .i64) (w0 := w0) w0.heap.size rfl (.tmp 41) (.tmp 43) 27 3 (.int .i64 0) 8 rfl Tryz.underlying27 info3 rfl (by decide) (by omega) u5 x5_1 a1 [.int .i64 a1] (fun k_ => (P0_ k_ ∨ w.heap.size ≤ k_) ∧ some k_ ≠ (.slice Ao6 l0.length co6 : Value).ownBlock) (fun _ => False) rfl rfl ?aP (fun _ hk => hk.elim) ?aF ?aO ?aB ?aS ?aL ?_;(case aP => exact rfl);(case aB => exact (bM HB.out));(case aF => exact (fun k_ hk => ⟨(.inr (Nat.le_trans (by first|exact HK.out.1|exact (show Kept w _ (fun k_ => P0_ k_) from kG HK.out).1) hk)),Kd.fresh' (Kd.R_lt (rM HO_0.out)) k_ hk⟩));(case aO => exact (rM HO_5.out));(case aS => exact (below_size (bM HB.out)));(case aL => have := LMc21.out;omega);intro v483 w22 ho hb hg hat;rw [← Ny482.out] at ho;replace HB := aK (hb);replace HK := aK (Kept.of_grown (S := (fun k_ => P0_ k_)) hg (kG HK.out) (fun k_ e_ => (HO_5.out.1 k_ e_).1));have HO484 := aK (ho);clear ho hb hg hat))
       go_ret
       exact ⟨_,by first|rfl|(simp [errW_none,errW_some] <;> rfl)|(simp [*,errW_none,errW_some] <;> rfl),by (with_reducible repeat (first|apply Kd.R_alloc|apply Kd.R_drewN|apply Kd.R_drew));exact Kd.R_mono HO484.out (fun _ hk => hk.1),bM HB.out,kG HK.out⟩
      ·rw [if_neg c21] at H
       exact absurd H (by simp)

end Go.Proofs.YtmgliocboeifdaaGreatDoor.R
