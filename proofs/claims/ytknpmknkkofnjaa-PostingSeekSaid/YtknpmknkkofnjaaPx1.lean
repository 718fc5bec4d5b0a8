-- Written by hp.py, a program of this session, over the kit's print of the translation. Not trusted: Lean checks it.
import Derived.Test.YtknpmknkkofnjaaPx0
namespace Go.Proofs.Ytknpmknkkofnjaa.P
open Go.RowKit Go.Proofs.YtknpmknkkofnjaaW.PrintWords Go.Proofs.YtknpmknkkofnjaaW.PrintLast Go.Proofs.YtknpmknkkofnjaaW.PrintMore
attribute [local go_sem] max2_int min2_int max_two min_two max_three min_three max_four min_four   -- for this text's walks alone
set_option linter.unusedVariables false
set_option linter.unusedSimpArgs false

/-! ### codesearchref05_Same: function 13 -/
def codesearchref05_Same.l0 : Nat → List Int → List Int → Int → Option (Bool)
|0,_,_,_ => none
|k + 1,x0,x1,x5 => if x5 < (x0.length : Int) then (if 0 ≤ x5 then (if x5 < (x1.length : Int) then (if (rd x0 x5) = (rd x1 x5) then (codesearchref05_Same.l0 k x0 x1 (wrap64 (x5 + 1))) else (some false)) else (none)) else (none)) else (some true)
def codesearchref05_Same.f (k : Nat) (l0 : List Int) (l1 : List Int) : Option (Bool) := if (l0.length : Int) = (l1.length : Int) then (codesearchref05_Same.l0 k l0 l1 0) else (some false)
theorem codesearchref05_Same.mono_l : ∀ k, (∀ y0 y1 y2, LeO (codesearchref05_Same.l0 k y0 y1 y2) (codesearchref05_Same.l0 (k + 1) y0 y1 y2))
|0 => fun _ _ _ r h => by simp [codesearchref05_Same.l0] at h
|k + 1 => by
  have ih0 := codesearchref05_Same.mono_l k
  ·intro y0 y1 y2
   unfold codesearchref05_Same.l0
   repeat' first
  |(with_reducible exact ih0 _ _ _)
  |(with_reducible exact LeO.refl _)
  |(with_reducible exact LeO.none _)
  |(with_reducible refine LeO.ite ?_ ?_)
  |(with_reducible refine LeO.bind ?_ (fun _ => ?_))
  |exact ih0 _ _ _
  |exact LeO.none _
  |refine LeO.ite ?_ ?_
  |refine LeO.bind ?_ (fun _ => ?_)
theorem codesearchref05_Same.mono : ∀ a0 a1 k, LeO (codesearchref05_Same.f k a0 a1) (codesearchref05_Same.f (k + 1) a0 a1) := by
 intro a0 a1 k
 have ih0 := codesearchref05_Same.mono_l k
 unfold codesearchref05_Same.f
 repeat' first
  |(with_reducible exact ih0 _ _ _)
  |(with_reducible exact LeO.refl _)
  |(with_reducible exact LeO.none _)
  |(with_reducible refine LeO.ite ?_ ?_)
  |(with_reducible refine LeO.bind ?_ (fun _ => ?_))
  |exact ih0 _ _ _
  |exact LeO.none _
  |refine LeO.ite ?_ ?_
  |refine LeO.bind ?_ (fun _ => ?_)
set_option maxHeartbeats 4000000 in
set_option maxRecDepth 100000 in
theorem codesearchref05_Same.calls (k : Nat) (A0 : Option Addr) (c0 : Nat) (l0 : List Int) (A1 : Option Addr) (c1 : Nat) (l1 : List Int) (r : Bool) (w : World) (hr0 : Kd.C (Kd.int .i64) w A0 l0.length l0) (hc0 : l0.length ≤ c0) (hr1 : Kd.C (Kd.int .i64) w A1 l1.length l1) (hc1 : l1.length ≤ c1) (h : codesearchref05_Same.f k l0 l1 = some r) :
  Calls Try.prog 13 #[.slice A0 l0.length c0,.slice A1 l1.length c1] w fun e w' => e = .returned (.bool r) ∧ Drawn0 w w' := by
 have HR0 := Aside0.mk hr0
 have HC0 := Aside0.mk hc0
 clear hr0 hc0
 have HR1 := Aside0.mk hr1
 have HC1 := Aside0.mk hc1
 clear hr1 hc1
 have H : (if (l0.length : Int) = (l1.length : Int) then (codesearchref05_Same.l0 k l0 l1 0) else (some false)) = some r := h
 clear h
 by_cases c3 : (l0.length : Int) = (l1.length : Int)
 ·rw [if_pos c3] at H
  have c3b0 : ((l0.length : Int) == (l1.length : Int)) = true := beq_iff_eq.mpr c3
  have c3b1 : ((l0.length : Int) != (l1.length : Int)) = false := bne_eq_false_iff_eq.mpr c3
  have c3b2 : (l0.length == l1.length) = true := by first|simpa using c3|(simp at c3 ⊢;omega)
  clear c3
  have H' := Aside0.mk H
  clear H
  go_enter Try.func13,Try.ntmps13
  go_wp2
  repeat (go_quiet (fail);try go_wp2)
  go_loopg [5] k (fun kq v5 w' => ∃ (x5_1 : Int),v5 = .int .i64 x5_1 ∧ Aside0 (codesearchref05_Same.l0 kq l0 l1 x5_1 = some r) ∧ Aside0 (kq ≤ k) ∧ Drawn0 w w')
  case atStart => exact ⟨(0),(by first|rfl|(simp;done)|(simp [*];done)),H',⟨Nat.le_refl _⟩,by repeat (first|exact Drawn0.refl _|apply Drawn0.step)⟩
  case round =>
   clear H'
   try clear c1
   try clear p2
   try clear c3
   try clear c3b0
   try clear c3b1
   try clear c3b2
   obtain ⟨x5_1,rfl,HA,HK1,⟨m1,rfl⟩⟩ := hrel
   cases gk with
  |zero => exact absurd HA.out (by simp [codesearchref05_Same.l0])
  |succ k1 =>
    have H := HA.out
    clear HA
    simp only [codesearchref05_Same.l0] at H
    by_cases c4 : x5_1 < (l0.length : Int)
    ·rw [if_pos c4] at H
     have c4b0 : decide (x5_1 < (l0.length : Int)) = true := decide_eq_true c4
     clear c4
     by_cases c5 : 0 ≤ x5_1
     ·rw [if_pos c5] at H
      have c5b0 : decide (0 ≤ x5_1) = true := decide_eq_true c5
      clear c5
      by_cases c6 : x5_1 < (l1.length : Int)
      ·rw [if_pos c6] at H
       have c6b0 : decide (x5_1 < (l1.length : Int)) = true := decide_eq_true c6
       clear c6
       by_cases c7 : (rd l0 x5_1) = (rd l1 x5_1)
       ·rw [if_pos c7] at H
        have c7b0 : ((rd l0 x5_1) == (rd l1 x5_1)) = true := beq_iff_eq.mpr c7
        have c7b1 : ((rd l0 x5_1) != (rd l1 x5_1)) = false := bne_eq_false_iff_eq.mpr c7
        clear c7
        have H' := Aside0.mk H
        clear H
        have p101 : 0 ≤ (x5_1 : Int) := of_decide_eq_true (by first|(with_reducible assumption)|assumption)
        have q101 : x5_1 < (l0.length : Int) := of_decide_eq_true (by first|(with_reducible assumption)|assumption)
        obtain ⟨ad101,e101,hx101_0⟩ := Kd.at_int HR0.out x5_1 p101 q101
        cases e101
        replace p101 := eq_true p101
        replace q101 := eq_true q101
        have p102 : 0 ≤ (x5_1 : Int) := of_decide_eq_true (by first|(with_reducible assumption)|assumption)
        have q102 : x5_1 < (l1.length : Int) := of_decide_eq_true (by first|(with_reducible assumption)|assumption)
        obtain ⟨ad102,e102,hx102_0⟩ := Kd.at_int HR1.out x5_1 p102 q102
        cases e102
        replace p102 := eq_true p102
        replace q102 := eq_true q102
        go_wp2
        repeat (go_quiet (fail);try go_wp2)
        go_roundg k1
        case measure => have := HK1.out;omega
        case rel => exact ⟨(wrap64 (x5_1 + 1)),(by first|rfl|(simp;done)|(simp [*];done)),H',⟨by have := HK1.out;omega⟩,by repeat (first|exact Drawn0.refl _|apply Drawn0.step)⟩
       ·rw [if_neg c7] at H
        have c7b0 : ((rd l0 x5_1) == (rd l1 x5_1)) = false := beq_eq_false_iff_ne.mpr c7
        have c7b1 : ((rd l0 x5_1) != (rd l1 x5_1)) = true := bne_iff_ne.mpr c7
        obtain rfl := Option.some.inj H
        have p101 : 0 ≤ (x5_1 : Int) := of_decide_eq_true (by first|(with_reducible assumption)|assumption)
        have q101 : x5_1 < (l0.length : Int) := of_decide_eq_true (by first|(with_reducible assumption)|assumption)
        obtain ⟨ad101,e101,hx101_0⟩ := Kd.at_int HR0.out x5_1 p101 q101
        cases e101
        replace p101 := eq_true p101
        replace q101 := eq_true q101
        have p102 : 0 ≤ (x5_1 : Int) := of_decide_eq_true (by first|(with_reducible assumption)|assumption)
        have q102 : x5_1 < (l1.length : Int) := of_decide_eq_true (by first|(with_reducible assumption)|assumption)
        obtain ⟨ad102,e102,hx102_0⟩ := Kd.at_int HR1.out x5_1 p102 q102
        cases e102
        replace p102 := eq_true p102
        replace q102 := eq_true q102
        go_wp2
        repeat (go_quiet (fail);try go_wp2)
        go_ret
        exact ⟨by first|rfl|(simp;done)|(simp [*];done),by repeat (first|exact Drawn0.refl _|apply Drawn0.step)⟩
      ·rw [if_neg c6] at H
       exact absurd H (by simp)
     ·rw [if_neg c5] at H
      exact absurd H (by simp)
    ·rw [if_neg c4] at H
     have c4b0 : decide (x5_1 < (l0.length : Int)) = false := decide_eq_false c4
     clear c4
     obtain rfl := Option.some.inj H
     go_wp2
     repeat (go_quiet (fail);try go_wp2)
     go_ret
     exact ⟨by first|rfl|(simp;done)|(simp [*];done),by repeat (first|exact Drawn0.refl _|apply Drawn0.step)⟩
 ·rw [if_neg c3] at H
  have c3b0 : ((l0.length : Int) == (l1.length : Int)) = false := beq_eq_false_iff_ne.mpr c3
  have c3b1 : ((l0.length : Int) != (l1.length : Int)) = true := bne_iff_ne.mpr c3
  have c3b2 : (l0.length == l1.length) = false := by first|simpa using c3|(simp at c3 ⊢;omega)
  obtain rfl := Option.some.inj H
  go_enter Try.func13,Try.ntmps13
  go_wp2
  repeat (go_quiet (fail);try go_wp2)
  go_ret
  exact ⟨by first|rfl|(simp;done)|(simp [*];done),by repeat (first|exact Drawn0.refl _|apply Drawn0.step)⟩

/-! ### cmp_isNaN_int: function 71 -/
def cmp_isNaN_int.f (a0 : Int) : Option (Bool) := some (a0 != a0)
set_option maxHeartbeats 4000000 in
set_option maxRecDepth 100000 in
theorem cmp_isNaN_int.calls (a0 : Int) (r : Bool) (w : World) (h : cmp_isNaN_int.f a0 = some r) :
  Calls Try.prog 71 #[.int .i64 a0] w fun e w' => e = .returned (.bool r) ∧ Drawn0 w w' := by
 have H : (some (a0 != a0)) = some r := h
 clear h
 obtain rfl := Option.some.inj H
 go_enter Try.func71,Try.ntmps71
 go_wp2
 go_ret
 exact ⟨by first|rfl|(simp;done)|(simp [*];done),by repeat (first|exact Drawn0.refl _|apply Drawn0.step)⟩

/-! ### cmp_Less_int: function 59 -/
def cmp_Less_int.f (a0 : Int) (a1 : Int) : Option (Bool) := (cmp_isNaN_int.f a0).bind fun t103 => (if t103 = true then ((cmp_isNaN_int.f a1).bind fun t104 => (if t104 = true then (some (decide (a0 < a1))) else (some true))) else (some (decide (a0 < a1))))
set_option maxHeartbeats 4000000 in
set_option maxRecDepth 100000 in
theorem cmp_Less_int.calls (a0 : Int) (a1 : Int) (r : Bool) (w : World) (h : cmp_Less_int.f a0 a1 = some r) :
  Calls Try.prog 59 #[.int .i64 a0,.int .i64 a1] w fun e w' => e = .returned (.bool r) ∧ Drawn0 w w' := by
 have H : ((cmp_isNaN_int.f a0).bind fun t103 => (if t103 = true then ((cmp_isNaN_int.f a1).bind fun t104 => (if t104 = true then (some (decide (a0 < a1))) else (some true))) else (some (decide (a0 < a1))))) = some r := h
 clear h
 replace H := Option.bind_eq_some_iff.mp H
 obtain ⟨t103,A30,H⟩ := H
 replace H : (if t103 = true then ((cmp_isNaN_int.f a1).bind fun t104 => (if t104 = true then (some (decide (a0 < a1))) else (some true))) else (some (decide (a0 < a1)))) = some r := H
 have A3 := Aside0.mk A30
 clear A30
 by_cases c4 : t103 = true
 ·subst c4
  have H1 : ((cmp_isNaN_int.f a1).bind fun t104 => (if t104 = true then (some (decide (a0 < a1))) else (some true))) = some r := by rw [if_pos rfl] at H;exact H
  clear H
  have H := H1
  clear H1
  replace H := Option.bind_eq_some_iff.mp H
  obtain ⟨t104,A50,H⟩ := H
  replace H : (if t104 = true then (some (decide (a0 < a1))) else (some true)) = some r := H
  have A5 := Aside0.mk A50
  clear A50
  by_cases c6 : t104 = true
  ·subst c6
   have H1 : (some (decide (a0 < a1))) = some r := by rw [if_pos rfl] at H;exact H
   clear H
   have H := H1
   clear H1
   obtain rfl := Option.some.inj H
   go_enter Try.func59,Try.ntmps59
   go_wp2_with (first|((with_reducible refine gate_callee (f := 71) rfl ?_);refine goesL_ (some 6) rfl rfl Try.func71 (by kernel_rfl) rfl #[.int .i64 a0] rfl (by (try simp only [List.map_toArray,List.map_cons,List.map_nil]);first|done|rfl|(simp only [List.length_drop,List.length_take];rfl)) ?_;(with_reducible refine (cmp_isNaN_int.calls a0 true _ A3.out).mono ?_);rintro e w' ⟨rfl,⟨nd,rfl⟩⟩;refine ⟨_,rfl,?_⟩)|(go_at_call 71;(with_reducible refine (cmp_isNaN_int.calls a1 true _ A5.out).mono ?_);rintro e w' ⟨rfl,⟨nd,rfl⟩⟩))
   go_ret
   exact ⟨by first|rfl|(simp;done)|(simp [*];done),by repeat (first|exact Drawn0.refl _|apply Drawn0.step)⟩
  ·replace c6 := Bool.eq_false_iff.mpr c6
   subst c6
   have H1 : (some true) = some r := by rw [if_neg (show ¬ (false = true) by decide)] at H;exact H
   clear H
   have H := H1
   clear H1
   obtain rfl := Option.some.inj H
   go_enter Try.func59,Try.ntmps59
   go_wp2_with (first|((with_reducible refine gate_callee (f := 71) rfl ?_);refine goesL_ (some 6) rfl rfl Try.func71 (by kernel_rfl) rfl #[.int .i64 a0] rfl (by (try simp only [List.map_toArray,List.map_cons,List.map_nil]);first|done|rfl|(simp only [List.length_drop,List.length_take];rfl)) ?_;(with_reducible refine (cmp_isNaN_int.calls a0 true _ A3.out).mono ?_);rintro e w' ⟨rfl,⟨nd,rfl⟩⟩;refine ⟨_,rfl,?_⟩)|(go_at_call 71;(with_reducible refine (cmp_isNaN_int.calls a1 false _ A5.out).mono ?_);rintro e w' ⟨rfl,⟨nd,rfl⟩⟩))
   go_ret
   exact ⟨by first|rfl|(simp;done)|(simp [*];done),by repeat (first|exact Drawn0.refl _|apply Drawn0.step)⟩
 ·replace c4 := Bool.eq_false_iff.mpr c4
  subst c4
  have H1 : (some (decide (a0 < a1))) = some r := by rw [if_neg (show ¬ (false = true) by decide)] at H;exact H
  clear H
  have H := H1
  clear H1
  obtain rfl := Option.some.inj H
  go_enter Try.func59,Try.ntmps59
  go_wp2_with (first|((with_reducible refine gate_callee (f := 71) rfl ?_);refine goesL_ (some 6) rfl rfl Try.func71 (by kernel_rfl) rfl #[.int .i64 a0] rfl (by (try simp only [List.map_toArray,List.map_cons,List.map_nil]);first|done|rfl|(simp only [List.length_drop,List.length_take];rfl)) ?_;(with_reducible refine (cmp_isNaN_int.calls a0 false _ A3.out).mono ?_);rintro e w' ⟨rfl,⟨nd,rfl⟩⟩;refine ⟨_,rfl,?_⟩))
  go_ret
  exact ⟨by first|rfl|(simp;done)|(simp [*];done),by repeat (first|exact Drawn0.refl _|apply Drawn0.step)⟩

/-! ### slices_Sort_int_int: function 38 (by hand) -/
open Go.Sort
theorem below_sorted {B : Nat} {w0 w : World} {g n : Nat} {d : Array Int} {os : Array Obj} (h : Below B w0 w) (hg : B ≤ g) (hB : B ≤ w.heap.size) : Below B w0 (grow (putRow (Value.int .i64) (Sort.ahead w n) g 0 d) os) :=
  (Lib.below_putRow (enc := Value.int .i64) (q := n) (d := d) h hg).trans (Lib.below_grow B _ (by rw [size_putRow]; exact hB) 0 os)
/-- What a sort leaves of a row of the call's own. -/
theorem own_sorted {w : World} {base e g n cap q : Nat} {zs ys : List Int} {os : Array Obj} (h : w.ownsRow base e 1 (.slice (some ⟨g, 0, none⟩) n cap) n (zs.map (Value.int .i64))) (hy : ys.length = n) :
    (grow (putRow (Value.int .i64) (Sort.ahead w q) g 0 ys.toArray) os).ownsRow base e 1 (.slice (some ⟨g, 0, none⟩) n cap) n (ys.map (Value.int .i64)) := by
  have h1 := Lib.ownsRow_putRow (q := q) (k := n) h hy (Nat.le_refl _)
  rw [List.take_of_length_le (by omega)] at h1
  exact Lib.ownsRow_grow h1 0 os
def slices_Sort_int_int.f (l0 : List Int) : Option (List Int) := if l0.length < 4611686018427387904 then some (sortd l0) else none
/-- A row of the call's own, sorted in its place. -/
theorem slices_Sort_int_int.sorts {w W : World} {v : Value} {l r : List Int} (hR : Kd.R (Kd.int .i64) 3 W w.heap.size (fun _ => True) v l) (hB : Below w.heap.size w W) (hl : slices_Sort_int_int.f l = some r) :
    Calls Try.prog 38 #[v] W fun e w' => e = .returned (.tuple #[]) ∧ Kd.R (Kd.int .i64) 3 w' w.heap.size (fun _ => True) v r ∧ Below w.heap.size w w' := by
  unfold slices_Sort_int_int.f at hl
  split at hl
  case isFalse => cases hl
  rename_i hl0
  obtain rfl := Option.some.inj hl
  have ho := Kd.own_of_R hR
  by_cases hv : v = .slice none 0 0
  · subst hv
    obtain rfl : l = [] := by
      rcases ho.2 with ⟨_, h0⟩ | ⟨g, cap, cur, h1, _⟩
      · exact List.eq_nil_of_length_eq_zero h0
      · cases h1
    refine (Try.slices_Sort_int_none none 0 W).mono ?_
    rintro e w2 ⟨rfl, rfl⟩
    have e1 : sortd ([] : List Int) = [] := List.eq_nil_of_length_eq_zero (by have := sortd_len []; simpa using this)
    rw [e1]
    exact ⟨rfl, hR, hB⟩
  · obtain ⟨g, cap, rfl, hg, hlt, hn, hm, hll, hH⟩ := Lib.holds_of_ownsRow ho hv
    refine (Try.slices_Sort_int g 0 cap l W hH hlt hl0).mono ?_
    rintro e w2 ⟨rfl, n, os, rfl⟩
    have ho2 := own_sorted (q := n) (os := os) ho (sortd_len l)
    have hB2 := below_sorted (n := n) (d := (sortd l).toArray) (os := os) hB hg (by omega)
    refine ⟨rfl, Kd.R_of_own ?_ (fun _ _ => trivial), hB2⟩
    rw [sortd_len]
    exact ho2

/-! ### slices_Clone_int_int: function 52 -/
def slices_Clone_int_int.f (l0 : List Int) : Option (List Int) := (some (([] : List Int) : List Int)).bind fun y105 => (if y105.length + l0.length < 17592186044416 then (some (y105 ++ l0)) else (none))
set_option maxHeartbeats 4000000 in
set_option maxRecDepth 100000 in
theorem slices_Clone_int_int.calls (A0 : Option Addr) (c0 : Nat) (l0 : List Int) (r : List Int) (w : World) (hr0 : Kd.C (Kd.int .i64) w A0 l0.length l0) (hc0 : l0.length ≤ c0) (h : slices_Clone_int_int.f l0 = some r) :
  Calls Try.prog 52 #[.slice A0 l0.length c0] w fun e w' => ∃ v0_ : Value,e = .returned (v0_) ∧ Kd.R (Kd.int .i64) 3 w' w.heap.size (fun _ => True) v0_ r ∧ Below w.heap.size w w' := by
 cases A0 with
|none =>
  obtain rfl : l0 = [] := by
   rcases Nat.eq_zero_or_pos l0.length with hl|hl
   ·exact List.eq_nil_of_length_eq_zero hl
   ·obtain ⟨ad,ea,_⟩ := hr0.2.2 hl
    cases ea
  have hr : r = [] := by simpa [slices_Clone_int_int.f] using h.symm
  subst hr
  clear h
  go_enter Try.func52,Try.ntmps52
  go_wp2
  go_ret
  exact ⟨_,rfl,Kd.R_nil _ _ _ _ _,Below.refl _ _⟩
|some ad0 =>
  have HR0 := Aside0.mk hr0
  have HC0 := Aside0.mk hc0
  clear hr0 hc0
  have HB := Aside0.mk (Below.refl w.heap.size w)
  have H : ((some (([] : List Int) : List Int)).bind fun y105 => (if y105.length + l0.length < 17592186044416 then (some (y105 ++ l0)) else (none))) = some r := h
  clear h
  obtain ⟨y105,hy105⟩ : ∃ y_ : List Int,y_ = (([] : List Int)) := ⟨_,rfl⟩
  replace H : (if y105.length + l0.length < 17592186044416 then (some (y105 ++ l0)) else (none)) = some r := by first|(rw [hy105];with_reducible exact H)|(have H2_ := (Option.bind_some _ _).symm.trans H;rw [hy105];with_reducible exact H2_)|(have H2_ := (Option.bind_some _ _).symm.trans H;with_reducible exact H2_)|with_reducible exact H|(rw [hy105];exact H)|exact H
  have Ny105 := Aside0.mk hy105
  clear hy105
  by_cases c2 : y105.length + l0.length < 17592186044416
  ·rw [if_pos c2] at H
   have LMc2 := Aside0.mk c2
   clear c2
   obtain ⟨y108,hy108⟩ : ∃ y_ : List Int,y_ = (y105 ++ l0) := ⟨_,rfl⟩
   replace H : (some y108) = some r := by first|(rw [hy108];with_reducible exact H)|(have H2_ := (Option.bind_some _ _).symm.trans H;rw [hy108];with_reducible exact H2_)|(have H2_ := (Option.bind_some _ _).symm.trans H;with_reducible exact H2_)|with_reducible exact H|(rw [hy108];exact H)|exact H
   have Ny108 := Aside0.mk hy108
   clear hy108
   obtain rfl := Option.some.inj H
   go_enter Try.func52,Try.ntmps52
   go_wp2_with (first|((with_reducible refine gate_dst (N := 5) rfl ?_);refine Kd.R_lit (Kd.int .i64) _ 3 ?hg (N := 5) ?hd (xs := ([] : List Int)) (inner := []) (ok := fun _ => True) (okp := fun _ => True) ?hr ?hp (fun _ hk => hk) trivial (Below.refl _ _) (Nat.le_refl _) (by simp) ?_;(case hd => rfl);(case hg => rfl);(case hr => first|(go_simp;done)|(go_simp;rfl));(case hp => exact (Reps.none _ _));intro v106 w3 ho4 hb hg_ hnew_;clear hg_ hnew_;(first|rw [← Ny105.out] at ho4|(simp only [Int.reduceToNat] at ho4;rw [← Ny105.out] at ho4));have n0_ := Aside0.mk (Kd.R_lower ho4 (below_size (bM HB.out)));have n1_ := Aside0.mk (below_step (bM HB.out) hb);clear HB;have HO107 := n0_;have HB := n1_;clear n0_ n1_;clear hb ho4)|((with_reducible refine gate_builtin (b := .append) (xs := #[.tmp 5,.tmp 6]) rfl ?_);at_builtin;refine Kd.R_append_rows (Kd.int .i64) (w0 := w) w.heap.size rfl (.tmp 5) (.tmp 6) 22 3 (.int .i64 0) 8 rfl Try.underlying22 info3 rfl (by decide) (by omega) v106 y105 l0 _ _ _ (fun _ => True) (fun _ => False) rfl rfl ?aO ?aR (fun _ _ h => h) (fun _ h => h.elim) ?aF ?aB ?aS ?aL ?_;(case aR => exact cM (Kd.C_below HR0.out HB.out));(case aB => exact (bM HB.out));(case aF => exact (fun _ _ => trivial));(case aO => exact (rM HO107.out));(case aS => exact (below_size (bM HB.out)));(case aL => have := LMc2.out;omega);intro v109 w5 ho hb hg hat;rw [← Ny108.out] at ho;have n0_ := Aside0.mk (hb);have n1_ := Aside0.mk (ho);clear HB;clear HO107;have HB := n0_;have HO110 := n1_;clear n0_ n1_;clear ho hb hg hat))
   go_ret
   exact ⟨_,by first|rfl|(simp [errW_none,errW_some] <;> rfl)|(simp [*,errW_none,errW_some] <;> rfl),rM HO110.out,bM HB.out⟩
  ·rw [if_neg c2] at H
   exact absurd H (by simp)

/-! ### posting_unique_int: function 34 (by hand) -/
def posting_unique_int.f (l0 : List Int) : Option (List Int) := if l0.length < 1000000000 then some (uniq l0) else none
set_option maxHeartbeats 4000000 in
set_option maxRecDepth 100000 in
theorem posting_unique_int.calls (A0 : Option Addr) (c0 : Nat) (l0 : List Int) (r : List Int) (w : World) (hr0 : Kd.C (Kd.int .i64) w A0 l0.length l0) (hc0 : l0.length ≤ c0) (h : posting_unique_int.f l0 = some r) :
    Calls Try.prog 34 #[.slice A0 l0.length c0] w fun e w' => ∃ v0_ : Value, e = .returned (v0_) ∧ Kd.R (Kd.int .i64) 3 w' w.heap.size (fun _ => True) v0_ r ∧ Below w.heap.size w w' := by
  unfold posting_unique_int.f at h
  split at h
  case isFalse => cases h
  rename_i hl
  obtain rfl : uniq l0 = r := Option.some.inj h
  clear h
  have hcl := Aside0.mk (slices_Clone_int_int.calls A0 c0 l0 l0 w hr0 hc0 (by simp [slices_Clone_int_int.f]; omega))
  clear hr0 hc0
  have hl' := Aside0.mk hl
  clear hl
  go_enter Try.func34, Try.ntmps34
  go_wp2_with fail
  go_at_call 52
  refine hcl.out.mono ?_
  rintro e w1 ⟨v, rfl, hR, hB⟩
  clear hcl
  have ho := Kd.own_of_R hR
  have e1 := Aside0.mk (show uniq ([] : List Int) = [] from List.eq_nil_of_length_eq_zero (by have := uniq_len []; simpa using this))
  clear hR
  by_cases hv : v = .slice none 0 0
  · subst hv
    obtain rfl : l0 = [] := by
      rcases ho.2 with ⟨_, h0⟩ | ⟨g, cap, cur, h1, _⟩
      · exact List.eq_nil_of_length_eq_zero h0
      · cases h1
    have HB := Aside0.mk hB
    clear hB ho
    go_wp2_with fail
    go_at_call 38
    refine (Try.slices_Sort_int_none none 0 w1).mono ?_
    rintro e w2 ⟨rfl, rfl⟩
    go_wp2
    go_ret
    rw [e1.out]
    exact ⟨_, rfl, Kd.R_nil _ _ _ _ _, HB.out⟩
  · obtain ⟨g, cap, rfl, hg, hlt, hn, hm, hll, hH⟩ := Lib.holds_of_ownsRow ho hv
    have hs := Aside0.mk (Try.slices_Sort_int g 0 cap l0 w1 hH hlt (by have := hl'.out; omega))
    have HB := Aside0.mk hB
    have HO := Aside0.mk ho
    have HG := Aside0.mk (And.intro hg (And.intro hlt hn))
    clear hB ho hv hH hg hlt hm hll hn e1
    go_wp2_with fail
    go_at_call 38
    refine hs.out.mono ?_
    rintro e w2 ⟨rfl, n, os, rfl⟩
    clear hs
    obtain ⟨hg, hlt, hn⟩ := HG.out
    have ho2 := own_sorted (q := n) (os := os) HO.out (sortd_len l0)
    have hB2 := below_sorted (n := n) (d := (sortd l0).toArray) (os := os) HB.out hg (by omega)
    rw [show (l0.mergeSort fun x y => decide (x ≤ y)) = sortd l0 from rfl]
    clear HB HO HG
    generalize grow (putRow (Value.int .i64) (Sort.ahead w1 n) g 0 (sortd l0).toArray) os = w2 at ho2 hB2 ⊢
    obtain ⟨g', cap', e1, _, hlt2, hn2, hm2, hll2, hH2⟩ := Lib.holds_of_ownsRow ho2 (by simp)
    obtain ⟨rfl, rfl⟩ : g = g' ∧ cap = cap' := by
      injection e1 with e1 _ e3
      injection e1 with e1
      injection e1 with e1
      exact ⟨e1, e3⟩
    clear e1
    have hc := Try.slices_Compact (Value.int .i64) (fun _ => rfl) (EqlAt.intD _ _ _) (NeqAt.intD _ _ _) 0 Try.zeroValue3 g 0 cap (sortd l0).toArray w2 hH2 (by simp [sortd_len]; have := hl'.out; omega) (by simp [sortd_len]; omega)
    rw [show Lib.compactUpTo (sortd l0).toArray (sortd l0).toArray.size = uniq l0 from rfl, show (sortd l0).toArray.size = l0.length from by simp [sortd_len]] at hc
    have hc' := Aside0.mk hc
    have HB := Aside0.mk hB2
    have HO := Aside0.mk ho2
    have HG := Aside0.mk hg
    clear hc hB2 ho2 hg hlt hn hlt2 hn2 hm2 hll2 hH2
    go_wp2_with fail
    go_at_call 53
    refine hc'.out.mono ?_
    rintro e w3 ⟨rfl, q, rfl⟩
    clear hc'
    go_wp2
    go_ret
    have hul := uniq_len l0
    have h3 := Lib.ownsRow_putRow (q := q) (k := (uniq l0).length) (ys := uniq l0 ++ List.replicate (l0.length - (uniq l0).length) 0) HO.out (by simp; omega) hul
    rw [List.take_append_of_le_length (Nat.le_refl _), List.take_length] at h3
    exact ⟨_, rfl, Kd.R_of_own h3 (fun _ _ => trivial), Lib.below_putRow HB.out HG.out⟩

/-! ### posting_in: function 32 (by hand) -/
@[go_sem] theorem run_store_func_ {P : Program} {w : World} {a : Addr} {m : Mode} (fn : Fn) (first captured : Array Value) : (store a (.func fn first captured) m).run P w = stored P w a (.func fn first captured) m := run_store P w a _ m rfl
set_option maxHeartbeats 2000000 in
set_option maxRecDepth 1000000 in
theorem bsearch_none (a : Option Addr) (c : Nat) (x : Int) (w : World) :
    Calls Try.prog 49 #[.slice a 0 c, .int .i64 x] w fun e w' => e = .returned (.tuple #[.int .i64 0, .bool false]) ∧ w' = w := by
  go_enter Try.func49, Try.ntmps49
  go_wp2
  go_loopg [7, 8] 0 (fun _ s7 s8 wr => s7 = .int .i64 0 ∧ s8 = .int .i64 0 ∧ wr = w)
  case atStart => exact ⟨rfl, rfl, rfl⟩
  case round =>
    obtain ⟨rfl, rfl, rfl⟩ := hrel
    go_wp2
    go_ret2
    exact ⟨rfl, rfl⟩
set_option maxHeartbeats 2000000 in
set_option maxRecDepth 1000000 in
theorem idxfunc_none (a : Option Addr) (c : Nat) (fv : Value) (w : World) :
    Calls Try.prog 51 #[.slice a 0 c, fv] w fun e w' => e = .returned (.int .i64 (-1)) ∧ w' = w := by
  go_enter Try.func51, Try.ntmps51
  go_wp2
  go_loopg [5, 8] 0 (fun _ _ s8 wr => s8 = .int .i64 0 ∧ wr = w)
  case atStart => exact ⟨rfl, rfl⟩
  case round =>
    obtain ⟨rfl, rfl⟩ := hrel
    go_wp2
    go_ret
    exact ⟨rfl, rfl⟩
set_option maxHeartbeats 2000000 in
set_option maxRecDepth 1000000 in
theorem delfunc_none (a : Option Addr) (c : Nat) (fv : Value) (w : World) :
    Calls Try.prog 33 #[.slice a 0 c, fv] w fun e w' => e = .returned (.slice a 0 c) ∧ w' = w := by
  go_enter Try.func33, Try.ntmps33
  go_wp2_with (go_at_call 51; refine (idxfunc_none _ _ _ _).mono ?_; rintro e w' ⟨rfl, rfl⟩)
  go_ret
  exact ⟨rfl, rfl⟩
/-- The set s stands in a slice that lies in the box B; its row is not g0's. -/
def SetIn (W : World) (B : Nat) (s : List Int) : Prop :=
  W.cell? ⟨B, 0, none⟩ = some (.slice none 0 0) ∧ s = [] ∨ ∃ g cap, W.cell? ⟨B, 0, none⟩ = some (.slice (some ⟨g, 0, none⟩) s.length cap) ∧ ∀ j, j < s.length → W.cell? ⟨g, 0 + j, none⟩ = some (.int .i64 (s.getD j 0))
theorem in1_gives {W : World} {B : Nat} {s : List Int} (h : SetIn W B s) (hs : s.Pairwise (· < ·)) (hl : s.length < 1000000000) (x : Int) :
    FnGives Try.prog 50 #[.pointer (some ⟨B, 0, none⟩)] #[.int .i64 x] (.bool (s.contains x)) W := by
  show Calls Try.prog 50 #[.int .i64 x, .pointer (some ⟨B, 0, none⟩)] W _
  rcases h with ⟨hc, rfl⟩ | ⟨g, cap, hc, hr⟩
  · have hb := Aside0.mk (bsearch_none none 0 x W)
    go_enter Try.func50, Try.ntmps50
    go_wp2_with (go_at_call 49; refine hb.out.mono ?_; rintro e w' ⟨rfl, rfl⟩)
    go_ret
    exact ⟨rfl, 0, rfl⟩
  · have hb0 := Try.slices_BinarySearch_int g 0 s.length cap s x W (Nat.le_refl _) (by omega) hr (by rw [List.take_length]; exact hs.imp (fun h => Int.le_of_lt h))
    rw [List.take_length] at hb0
    have hb := Aside0.mk hb0
    clear hb0 hr
    go_enter Try.func50, Try.ntmps50
    go_wp2_with (go_at_call 49; refine hb.out.mono ?_; rintro e w' ⟨rfl, q, rfl⟩)
    go_ret
    exact ⟨by simp, _, rfl⟩

theorem SetIn.later {W W1 : World} {B : Nat} {s : List Int} (h : SetIn W B s) (hc : ∀ a : Addr, (a.block = B ∨ ∃ g cap, W.cell? ⟨B, 0, none⟩ = some (.slice (some ⟨g, 0, none⟩) s.length cap) ∧ a.block = g) → W1.cell? a = W.cell? a) : SetIn W1 B s := by
  rcases h with ⟨h1, h2⟩ | ⟨g, cap, h1, h2⟩
  · exact .inl ⟨(hc _ (.inl rfl)).trans h1, h2⟩
  · exact .inr ⟨g, cap, (hc _ (.inl rfl)).trans h1, fun j hj => (hc _ (.inr ⟨g, cap, h1, rfl⟩)).trans (h2 j hj)⟩
/-- The set s stands in a slice that lies in the box B: both are of the call's own, from base on. -/
def BoxIn (base : Nat) (W : World) (B : Nat) (s : List Int) : Prop :=
  base ≤ B ∧ B < W.heap.size ∧ (W.cell? ⟨B, 0, none⟩ = some (.slice none 0 0) ∧ s = [] ∨ ∃ g cap, base ≤ g ∧ g < W.heap.size ∧ W.cell? ⟨B, 0, none⟩ = some (.slice (some ⟨g, 0, none⟩) s.length cap) ∧ ∀ j, j < s.length → W.cell? ⟨g, 0 + j, none⟩ = some (.int .i64 (s.getD j 0)))
theorem BoxIn.set {base : Nat} {W : World} {B : Nat} {s : List Int} (h : BoxIn base W B s) : SetIn W B s := by
  rcases h.2.2 with h1 | ⟨g, cap, _, _, h1, h2⟩
  · exact .inl h1
  · exact .inr ⟨g, cap, h1, h2⟩
theorem BoxIn.same {base : Nat} {W W1 : World} {B : Nat} {s : List Int} (h : BoxIn base W B s) (hs : W.heap.size ≤ W1.heap.size) (hc : ∀ a : Addr, base ≤ a.block → a.block < W.heap.size → W1.cell? a = W.cell? a) : BoxIn base W1 B s := by
  obtain ⟨h0, h1, h2⟩ := h
  refine ⟨h0, by omega, ?_⟩
  rcases h2 with ⟨h3, h4⟩ | ⟨g, cap, h5, h6, h3, h4⟩
  · exact .inl ⟨(hc _ h0 h1).trans h3, h4⟩
  · exact .inr ⟨g, cap, h5, by omega, (hc _ h0 h1).trans h3, fun j hj => (hc _ h5 h6).trans (h4 j hj)⟩
theorem BoxIn.below {base : Nat} {W W1 : World} {B : Nat} {s : List Int} (h : BoxIn base W B s) (hb : Below W.heap.size W W1) : BoxIn base W1 B s :=
  h.same hb.size (fun _ _ h2 => hb.cell h2)
set_option maxHeartbeats 2000000 in
set_option maxRecDepth 1000000 in
theorem in_calls (A0 : Option Addr) (c0 : Nat) (l0 : List Int) (w : World) (hr0 : Kd.C (Kd.int .i64) w A0 l0.length l0) (hc0 : l0.length ≤ c0) (hl : l0.length < 1000000000) :
    Calls Try.prog 32 #[.slice A0 l0.length c0] w fun e w' => ∃ B, e = .returned (.func (.func 50) #[] #[.pointer (some ⟨B, 0, none⟩)]) ∧ BoxIn w.heap.size w' B (uniq l0) ∧ Below w.heap.size w w' := by
  have hcl := Aside0.mk (posting_unique_int.calls A0 c0 l0 (uniq l0) w hr0 hc0 (by simp [posting_unique_int.f]; omega))
  clear hr0 hc0
  have hl' := Aside0.mk hl
  clear hl
  go_enter Try.func32, Try.ntmps32
  go_wp2_with fail
  go_at_call 34
  refine hcl.out.mono ?_
  rintro e w1 ⟨v, rfl, hR, hB⟩
  clear hcl
  have ho := Kd.own_of_R hR
  clear hR
  by_cases hv : v = .slice none 0 0
  · subst hv
    have e1 : uniq l0 = [] := by
      rcases ho.2 with ⟨_, h0⟩ | ⟨g, cap, cur, h1, _⟩
      · exact List.eq_nil_of_length_eq_zero h0
      · cases h1
    have H1 := Aside0.mk e1
    have HB := Aside0.mk hB
    clear hB ho e1
    go_wp2
    go_ret
    refine ⟨_, rfl, ⟨HB.out.size, by simp, .inl ⟨by simp, H1.out⟩⟩, ?_⟩
    exact below_alloc HB.out _
  · obtain ⟨g, cap, rfl, hg, hlt, hn, hm, hll, hH⟩ := Lib.holds_of_ownsRow ho hv
    have HO := Aside0.mk hH
    have HB := Aside0.mk hB
    have HG := Aside0.mk (And.intro hg hlt)
    clear ho hB hv hH hg hlt hn hm hll
    go_wp2
    go_ret
    obtain ⟨hg, hlt⟩ := HG.out
    refine ⟨_, rfl, ⟨HB.out.size, by simp, .inr ⟨g, cap, hg, by simp; omega, by simp, fun j hj => ?_⟩⟩, below_alloc HB.out _⟩
    rw [(below_alloc (Below.refl w1.heap.size w1) _).cell (p := ⟨g, 0 + j, none⟩) hlt, (HO.out j (by simpa using hj)).1, getElem!_pos (uniq l0).toArray j (by simpa using hj)]
    simp [List.getD_eq_getElem?_getD, List.getElem?_eq_getElem hj]
theorem del_row {W w : World} {v : Value} {l : List Int} (p : Int → Bool) (g : Nat) (lb : Array Value) (eg : ∀ args w, (callFunc g args).run Try.prog w = .ok (.enter g args) w)
    (ho : W.ownsRow w.heap.size 3 1 v l.length (l.map (Value.int .i64))) (hB : Below w.heap.size w W) (hl : l.length < 1000000000)
    (hq : ∀ W' : World, W.heap.size ≤ W'.heap.size → (∀ a : Addr, a.block < W.heap.size → some a.block ≠ v.ownBlock → W'.cell? a = W.cell? a) → ∀ x : Int, FnGives Try.prog g lb #[.int .i64 x] (.bool (p x)) W') :
    Calls Try.prog 33 #[v, .func (.func g) #[] lb] W fun e w' => ∃ v', e = .returned v' ∧ Kd.R (Kd.int .i64) 3 w' w.heap.size (fun _ => True) v' (l.filter fun x => !p x) ∧ Below w.heap.size w w' := by
  by_cases hv : v = .slice none 0 0
  · subst hv
    obtain rfl : l = [] := by
      rcases ho.2 with ⟨_, h0⟩ | ⟨g, cap, cur, h1, _⟩
      · exact List.eq_nil_of_length_eq_zero h0
      · cases h1
    refine (delfunc_none _ _ _ _).mono ?_
    rintro e w' ⟨rfl, rfl⟩
    exact ⟨_, rfl, Kd.R_nil _ _ _ _ _, hB⟩
  · obtain ⟨b, cap, rfl, hg, hlt, hn, hm, hll, hH⟩ := Lib.holds_of_ownsRow ho hv
    refine (Try.slices_DeleteFunc (Value.int .i64) (fun _ => rfl) p g lb eg 0 Try.zeroValue3 b 0 cap l.toArray W (fun W' x hb => hq W' hb.size (fun a h1 _ => hb.cell h1) x)
      (fun n os dk x hd => hq _ (by unfold sortWorld; show W.heap.size ≤ ((putRow (Value.int .i64) (Sort.ahead W n) b 0 dk).heap ++ os).size; rw [Array.size_append, size_putRow]; exact Nat.le_add_right _ _) (fun a h1 h2 => by
        unfold sortWorld
        rw [cell?_grow _ _ _ (by rw [size_putRow]; exact h1), cell?_putRow_other _ _ b 0 _ _ (Or.inl (fun e => h2 (by rw [e]; rfl)))]
        rfl) x) hH (by simp; omega) (by simpa using hn)).mono ?_
    rintro e w' ⟨rfl, q, rfl⟩
    have hfl : (l.filter fun x => !p x).length ≤ l.length := List.length_filter_le _ _
    have h3 := Lib.ownsRow_putRow (q := q) (k := (l.filter fun x => !p x).length) (ys := (l.filter fun x => !p x) ++ List.replicate (l.length - (l.filter fun x => !p x).length) 0) ho (by simp; omega) hfl
    rw [List.take_append_of_le_length (Nat.le_refl _), List.take_length] at h3
    exact ⟨_, rfl, Kd.R_of_own h3 (fun _ _ => trivial), Lib.below_putRow hB hg⟩

/-! ### posting_And: function 14 (by hand) -/
theorem and1_gives {W : World} {B B2 : Nat} {s : List Int} (h : SetIn W B s) (h2 : W.cell? ⟨B2, 0, none⟩ = some (.func (.func 50) #[] #[.pointer (some ⟨B, 0, none⟩)])) (hs : s.Pairwise (· < ·)) (hl : s.length < 1000000000) (x : Int) :
    FnGives Try.prog 35 #[.pointer (some ⟨B2, 0, none⟩)] #[.int .i64 x] (.bool (!s.contains x)) W := by
  show Calls Try.prog 35 #[.int .i64 x, .pointer (some ⟨B2, 0, none⟩)] W _
  have hg := in1_gives h hs hl x
  unfold FnGives at hg
  have hg' := Aside0.mk hg
  clear hg h
  go_enter Try.func35, Try.ntmps35
  go_wp2_with (go_at_call 50; refine hg'.out.mono ?_; rintro e w' ⟨rfl, q, rfl⟩)
  go_ret
  exact ⟨by simp, _, rfl⟩
def posting_And.f (l0 l1 : List Int) : Option (List Int) := if l0.length < 1000000000 then if l1.length < 1000000000 then some ((uniq l0).filter fun x => (uniq l1).contains x) else none else none
set_option maxHeartbeats 4000000 in
set_option maxRecDepth 100000 in
theorem posting_And.calls (A0 : Option Addr) (c0 : Nat) (l0 : List Int) (A1 : Option Addr) (c1 : Nat) (l1 : List Int) (r : List Int) (w : World) (hr0 : Kd.C (Kd.int .i64) w A0 l0.length l0) (hc0 : l0.length ≤ c0) (hr1 : Kd.C (Kd.int .i64) w A1 l1.length l1) (hc1 : l1.length ≤ c1) (h : posting_And.f l0 l1 = some r) :
    Calls Try.prog 14 #[.slice A0 l0.length c0, .slice A1 l1.length c1] w fun e w' => ∃ v0_ : Value, e = .returned (v0_) ∧ Kd.R (Kd.int .i64) 3 w' w.heap.size (fun _ => True) v0_ r ∧ Below w.heap.size w w' := by
  unfold posting_And.f at h
  split at h
  case isFalse => cases h
  rename_i hl0
  split at h
  case isFalse => cases h
  rename_i hl1
  obtain rfl := Option.some.inj h
  clear h
  have hin := Aside0.mk (in_calls A1 c1 l1 w hr1 hc1 hl1)
  have H1 := Aside0.mk (And.intro hr0 (And.intro hc0 (And.intro hl0 hl1)))
  clear hr0 hc0 hr1 hc1 hl0 hl1
  go_enter Try.func14, Try.ntmps14
  go_wp2_with fail
  go_at_call 32
  refine hin.out.mono ?_
  rintro e w1 ⟨B, rfl, hbx, hB⟩
  clear hin
  have HX := Aside0.mk hbx
  have HB := Aside0.mk hB
  clear hbx hB
  go_wp2_with fail

  go_at_call 34
  generalize hw2 : w1.alloc _ = w2
  have hb2 : Below w1.heap.size w1 w2 := by rw [← hw2]; exact below_alloc (Below.refl _ _) _
  have hbox : w2.cell? ⟨w1.heap.size, 0, none⟩ = some (.func (.func 50) #[] #[.pointer (some ⟨B, 0, none⟩)]) := by rw [← hw2]; simp
  have hs2 : w1.heap.size < w2.heap.size := by rw [← hw2]; simp
  have hB2 := below_then HB.out HB.out.size hb2
  have hx2 := HX.out.below hb2
  have hcl := posting_unique_int.calls A0 c0 l0 (uniq l0) w2 (Kd.C_below H1.out.1 hB2) H1.out.2.1 (by simp [posting_unique_int.f]; have := H1.out.2.2.1; omega)
  refine hcl.mono ?_
  rintro e w3 ⟨v, rfl, hR, hB3⟩
  clear hcl hw2
  obtain ⟨A, c, rfl⟩ := Kd.R_slice hR
  have ho := Kd.own_of_R (Kd.R_lower hR hB2.size)
  have hown := Kd.own_of_R hR
  have hB4 := below_then hB2 hB2.size hB3
  have hd := del_row (W := w3) (w := w) (fun x => !(uniq l1).contains x) 35 #[.pointer (some ⟨w1.heap.size, 0, none⟩)] (enters_of Try.func35 (by kernel_rfl) rfl) ho hB4 (by have := uniq_len l0; have := H1.out.2.2.1; omega)
    (fun W' hs hc x => by
      have hcc : ∀ a : Addr, a.block < w2.heap.size → W'.cell? a = w2.cell? a := fun a h1 => by
        have h3 : a.block < w3.heap.size := by have := hB3.size; omega
        rw [hc a h3 (fun e => by have := own_base hown a.block e.symm; omega), hB3.cell h1]
      exact and1_gives (hx2.same (by have := hB3.size; omega) (fun a _ h2 => hcc a h2)).set ((hcc _ hs2).trans hbox) (uniq_srt l1) (by have := uniq_len l1; have := H1.out.2.2.2; omega) x)
  simp only [Bool.not_not] at hd
  have hd' := Aside0.mk hd
  clear hd hb2 hbox hs2 hB2 hx2 hR hB3 ho hown hB4 HB HX H1
  go_wp2_with fail
  go_at_call 33
  refine hd'.out.mono ?_
  rintro e w4 ⟨v', rfl, hR, hB⟩
  clear hd'
  have HR := Aside0.mk hR
  have HB := Aside0.mk hB
  clear hR hB
  go_wp2
  go_ret
  exact ⟨_, rfl, HR.out, HB.out⟩

/-! ### slices_Grow_int_int: function 54 (by hand) -/
def slices_Grow_int_int.f (l0 : List Int) (a1 : Int) : Option (List Int) := if 0 ≤ a1 then if a1 < 1000000000000 then some l0 else none else none
/-- The first k of a row of the call's own. -/
theorem own_head {w : World} {base e n cap k g : Nat} {xs : List Value} (h : w.ownsRow base e 1 (.slice (some ⟨g, 0, none⟩) n cap) n xs) (hk : k ≤ n) :
    w.ownsRow base e 1 (.slice (some ⟨g, 0, none⟩) k cap) k (xs.take k) := by
  obtain ⟨hl, h0 | ⟨g', cap', cur, hv, hb, hh, hn, hm, hs, ht⟩⟩ := h
  · cases h0.1
  · injection hv with e1 _ e3
    injection e1 with e1
    injection e1 with e1
    subst e1; subst e3
    refine ⟨by simp; omega, .inr ⟨g, cap, cur, rfl, hb, hh, by omega, hm, hs, ?_⟩⟩
    rw [← ht, Nat.mul_one, Nat.mul_one, List.take_take, Nat.min_eq_left hk]
set_option maxHeartbeats 4000000 in
set_option maxRecDepth 100000 in
theorem slices_Grow_int_int.calls0 (a1 : Int) (r : List Int) (w : World) (h : slices_Grow_int_int.f [] a1 = some r) :
    Calls Try.prog 54 #[.slice none ([] : List Int).length 0, .int .i64 a1] w fun e w' => ∃ v0_ : Value, e = .returned (v0_) ∧ Kd.R (Kd.int .i64) 3 w' w.heap.size (fun _ => True) v0_ r ∧ Below w.heap.size w w' := by
  have info3 : (Try.prog.info? 3).map (fun i => (i.zero, i.size, i.bytes)) = some (some (.int .i64 0), 1, 8) := by kernel_rfl
  unfold slices_Grow_int_int.f at h
  split at h
  case isFalse => cases h
  rename_i h0
  split at h
  case isFalse => cases h
  rename_i h1
  obtain rfl := Option.some.inj h
  clear h
  have hi := Aside0.mk info3
  clear info3
  simp only [List.length_nil]
  by_cases hz : a1 = 0
  · subst hz
    go_enter Try.func54, Try.ntmps54
    go_wp2
    go_ret
    exact ⟨_, rfl, Kd.R_nil _ _ _ _ _, Below.refl _ _⟩
  · have hp : ¬ a1 < 0 := by omega
    have hp2 : 0 < a1 := by omega
    have H0 := Aside0.mk h0
    have H1 := Aside0.mk h1
    have hw : wrap64 a1 = a1 := by unfold wrap64; omega
    clear h0 h1 hp
    go_enter Try.func54, Try.ntmps54
    go_wp2_with (((with_reducible refine gate_builtin (b := .append) (xs := #[.tmp 20, .tmp 21]) rfl ?_); at_builtin; refine Kd.R_append_zeros (Kd.int .i64) (w0 := w) w.heap.size rfl (.tmp 20) (.tmp 21) 22 3 3 (.int .i64 0) 8 rfl Try.underlying22 Try.underlying3 hi.out rfl (by decide) (by decide) (.slice none 0 0) [] 0 _ (fun _ => True) rfl rfl rfl (fun _ _ => trivial) (Kd.R_nil _ _ _ _ _) ?a0 (Below.refl _ _) (Nat.le_refl _) ?aL ?_; (case a0 => rw [hw]; exact H0.out); (case aL => have := H1.out; have := H0.out; rw [hw]; simp; omega); intro v1 w1 hR hb hg hat; rw [hw] at hR; clear hg hat; have ho := Kd.own_of_R hR; clear hR; simp only [List.nil_append, List.length_replicate] at ho; rcases ho.2 with ⟨_, h0⟩ | ⟨g, cap, cur, hv, _⟩; (case inl => exfalso; omega); subst hv; have HO := Aside0.mk (own_head ho (Nat.zero_le _)); have HB := Aside0.mk hb; clear ho hb))
    go_ret
    exact ⟨_, rfl, Kd.R_of_own HO.out (fun _ _ => trivial), HB.out⟩

/-! ### slices_Concat_int_int: function 37 -/
mutual
def slices_Concat_int_int.l0 : Nat → List (List Int) → Int → List (List Int) → Int → Int → Option (List Int)
|0,_,_,_,_,_ => none
|k + 1,x0,x3,x9,x10,x11 => if x11 < x10 then (if 0 ≤ x11 then (if x11 < (x9.length : Int) then (if (wrap64 (x3 + ((rd_L1 x9 x11).length : Int))) < 0 then (none) else (slices_Concat_int_int.l0 k x0 (wrap64 (x3 + ((rd_L1 x9 x11).length : Int))) x9 x10 (wrap64 (x11 + 1)))) else (none)) else (none)) else ((slices_Grow_int_int.f ([] : List Int) x3).bind fun t112 => (slices_Concat_int_int.l1 k t112 x0 (x0.length : Int) 0))
def slices_Concat_int_int.l1 : Nat → List Int → List (List Int) → Int → Int → Option (List Int)
|0,_,_,_,_ => none
|k + 1,x6,x25,x26,x27 => if x27 < x26 then (if 0 ≤ x27 then (if x27 < (x25.length : Int) then (if x6.length + (rd_L1 x25 x27).length < 17592186044416 then (slices_Concat_int_int.l1 k (x6 ++ (rd_L1 x25 x27)) x25 x26 (wrap64 (x27 + 1))) else (none)) else (none)) else (none)) else (some x6)
end
def slices_Concat_int_int.f (k : Nat) (l0 : List (List Int)) : Option (List Int) := slices_Concat_int_int.l0 k l0 0 l0 (l0.length : Int) 0
theorem slices_Concat_int_int.mono_l : ∀ k, (∀ y0 y1 y2 y3 y4, LeO (slices_Concat_int_int.l0 k y0 y1 y2 y3 y4) (slices_Concat_int_int.l0 (k + 1) y0 y1 y2 y3 y4)) ∧ (∀ y0 y1 y2 y3, LeO (slices_Concat_int_int.l1 k y0 y1 y2 y3) (slices_Concat_int_int.l1 (k + 1) y0 y1 y2 y3))
|0 => ⟨fun _ _ _ _ _ r h => by simp [slices_Concat_int_int.l0] at h,fun _ _ _ _ r h => by simp [slices_Concat_int_int.l1] at h⟩
|k + 1 => by
  obtain ⟨ih0,ih1⟩ := slices_Concat_int_int.mono_l k
  refine ⟨?_,?_⟩
  ·intro y0 y1 y2 y3 y4
   unfold slices_Concat_int_int.l0
   repeat' first
  |(with_reducible exact ih0 _ _ _ _ _)
  |(with_reducible exact ih1 _ _ _ _)
  |(with_reducible exact LeO.refl _)
  |(with_reducible exact LeO.none _)
  |(with_reducible refine LeO.ite ?_ ?_)
  |(with_reducible refine LeO.bind ?_ (fun _ => ?_))
  |exact ih0 _ _ _ _ _
  |exact ih1 _ _ _ _
  |exact LeO.none _
  |refine LeO.ite ?_ ?_
  |refine LeO.bind ?_ (fun _ => ?_)
  ·intro y0 y1 y2 y3
   unfold slices_Concat_int_int.l1
   repeat' first
  |(with_reducible exact ih0 _ _ _ _ _)
  |(with_reducible exact ih1 _ _ _ _)
  |(with_reducible exact LeO.refl _)
  |(with_reducible exact LeO.none _)
  |(with_reducible refine LeO.ite ?_ ?_)
  |(with_reducible refine LeO.bind ?_ (fun _ => ?_))
  |exact ih0 _ _ _ _ _
  |exact ih1 _ _ _ _
  |exact LeO.none _
  |refine LeO.ite ?_ ?_
  |refine LeO.bind ?_ (fun _ => ?_)
theorem slices_Concat_int_int.mono : ∀ a0 k, LeO (slices_Concat_int_int.f k a0) (slices_Concat_int_int.f (k + 1) a0) := by
 intro a0 k
 obtain ⟨ih0,ih1⟩ := slices_Concat_int_int.mono_l k
 unfold slices_Concat_int_int.f
 repeat' first
  |(with_reducible exact ih0 _ _ _ _ _)
  |(with_reducible exact ih1 _ _ _ _)
  |(with_reducible exact LeO.refl _)
  |(with_reducible exact LeO.none _)
  |(with_reducible refine LeO.ite ?_ ?_)
  |(with_reducible refine LeO.bind ?_ (fun _ => ?_))
  |exact ih0 _ _ _ _ _
  |exact ih1 _ _ _ _
  |exact LeO.none _
  |refine LeO.ite ?_ ?_
  |refine LeO.bind ?_ (fun _ => ?_)
set_option maxHeartbeats 4000000 in
set_option maxRecDepth 100000 in
theorem slices_Concat_int_int.calls (k : Nat) (A0 : Option Addr) (c0 : Nat) (l0 : List (List Int)) (r : List Int) (w : World) (hr0 : Kd.C (Kd.slice 3 (Kd.int .i64)) w A0 l0.length l0) (hc0 : l0.length ≤ c0) (h : slices_Concat_int_int.f k l0 = some r) :
  Calls Try.prog 37 #[.slice A0 l0.length c0] w fun e w' => ∃ v0_ : Value,e = .returned (v0_) ∧ Kd.R (Kd.int .i64) 3 w' w.heap.size (fun _ => True) v0_ r ∧ Below w.heap.size w w' := by
 have HR0 := Aside0.mk hr0
 have HC0 := Aside0.mk hc0
 clear hr0 hc0
 have HB := Aside0.mk (Below.refl w.heap.size w)
 have H : (slices_Concat_int_int.l0 k l0 0 l0 (l0.length : Int) 0) = some r := h
 clear h
 have H' := Aside0.mk H
 clear H
 go_enter Try.func37,Try.ntmps37
 go_wp2
 go_loopg [3,11] k (fun kq v3 v11 w' => ∃ (x3_1 : Int) (x11_1 : Int),v3 = .int .i64 x3_1 ∧ v11 = .int .i64 x11_1 ∧ Aside0 (slices_Concat_int_int.l0 kq l0 x3_1 l0 (l0.length : Int) x11_1 = some r) ∧ Aside0 (kq ≤ k) ∧ Aside0 (Below w.heap.size w w'))
 case atStart => exact ⟨(0),(0),(by first|rfl|(simp;done)|(simp [*];done)),(by first|rfl|(simp;done)|(simp [*];done)),H',⟨Nat.le_refl _⟩,⟨bM HB.out⟩⟩
 case round =>
  clear H'
  obtain ⟨x3_1,x11_1,rfl,rfl,HA,HK1,HB⟩ := hrel
  cases gk with
 |zero => exact absurd HA.out (by simp [slices_Concat_int_int.l0])
 |succ k1 =>
   have H := HA.out
   clear HA
   simp only [slices_Concat_int_int.l0] at H
   by_cases c2 : x11_1 < (l0.length : Int)
   ·rw [if_pos c2] at H
    have c2b0 : decide (x11_1 < (l0.length : Int)) = true := decide_eq_true c2
    clear c2
    by_cases c3 : 0 ≤ x11_1
    ·rw [if_pos c3] at H
     have c3b0 : decide (0 ≤ x11_1) = true := decide_eq_true c3
     clear c3
     by_cases c4 : x11_1 < (l0.length : Int)
     ·rw [if_pos c4] at H
      have c4b0 : decide (x11_1 < (l0.length : Int)) = true := decide_eq_true c4
      clear c4
      by_cases c5 : (wrap64 (x3_1 + ((rd_L1 l0 x11_1).length : Int))) < 0
      ·rw [if_pos c5] at H
       exact absurd H (by simp)
      ·rw [if_neg c5] at H
       have c5b0 : decide ((wrap64 (x3_1 + ((rd_L1 l0 x11_1).length : Int))) < 0) = false := decide_eq_false c5
       clear c5
       have H' := Aside0.mk H
       clear H
       have p111 : 0 ≤ (x11_1 : Int) := of_decide_eq_true (by first|(with_reducible assumption)|assumption)
       have q111 : x11_1 < (l0.length : Int) := of_decide_eq_true (by first|(with_reducible assumption)|assumption)
       obtain ⟨ad111,A111_0,c111_0,e111,hx111_0,hl111_0,hi111_0⟩ := at_L1 HR0.out x11_1 p111 q111
       cases e111
       replace hx111_0 := (HB.out.cell (World.block_lt_of_cell? w _ hx111_0)).trans hx111_0
       have HR111_0 := Aside0.mk hi111_0
       have HC111_0 := Aside0.mk hl111_0
       clear hi111_0 hl111_0
       replace p111 := eq_true p111
       replace q111 := eq_true q111
       go_wp2
       go_roundg k1
       case measure => have := HK1.out;omega
       case rel => exact ⟨(wrap64 (x3_1 + ((rd_L1 l0 x11_1).length : Int))),(wrap64 (x11_1 + 1)),(by first|rfl|(simp;done)|(simp [*];done)),(by first|rfl|(simp;done)|(simp [*];done)),H',⟨by have := HK1.out;omega⟩,⟨bM HB.out⟩⟩
     ·rw [if_neg c4] at H
      exact absurd H (by simp)
    ·rw [if_neg c3] at H
     exact absurd H (by simp)
   ·rw [if_neg c2] at H
    have c2b0 : decide (x11_1 < (l0.length : Int)) = false := decide_eq_false c2
    clear c2
    replace H := Option.bind_eq_some_iff.mp H
    obtain ⟨t112,A60,H⟩ := H
    replace H : (slices_Concat_int_int.l1 k1 t112 l0 (l0.length : Int) 0) = some r := H
    have A6 := Aside0.mk A60
    clear A60
    have H' := Aside0.mk H
    clear H
    go_wp2_with (first|(go_at_call 54;refine calls_of_args (args' := #[.slice none ([] : List Int).length 0,.int .i64 x3_1]) (by first|with_reducible rfl|(simp only [List.length_nil];done)|(simp only [List.length_nil];with_reducible rfl)) ?_;(with_reducible refine (slices_Grow_int_int.calls0 x3_1 t112 _ A6.out).mono ?_);rintro e w7 ⟨v113,rfl,ho0,hb⟩;have n0_ := Aside0.mk (Kd.R_lower ho0 (below_size (bM HB.out)));have n1_ := Aside0.mk (below_step (bM HB.out) hb);clear HB;have HO114 := n0_;have HB := n1_;clear n0_ n1_;(try clear hb);(try clear hb2);(try clear hk);(try clear hi);(try clear ho0)))
    go_loopg [6,27] k1 (fun kq v6 v27 w' => ∃ (x6_2 : List Int) (x27_2 : Int),v27 = .int .i64 x27_2 ∧ Aside0 (slices_Concat_int_int.l1 kq x6_2 l0 (l0.length : Int) x27_2 = some r) ∧ Aside0 (kq ≤ k1) ∧ Aside0 (Kd.R (Kd.int .i64) 3 w' w.heap.size (fun _ => True) v6 x6_2) ∧ Aside0 (Below w.heap.size w w'))
    case atStart => exact ⟨(t112),(0),(by first|rfl|(simp;done)|(simp [*];done)),H',⟨Nat.le_refl _⟩,⟨rM HO114.out⟩,⟨bM HB.out⟩⟩
    case round =>
     clear H'
     try clear c1
     try clear p1
     try clear q1
     try clear hx1
     try clear c2
     try clear c2b0
     try clear p2
     try clear c3
     try clear c3b0
     try clear c4
     try clear c4b0
     try clear c5
     try clear c5b0
     try clear p6
     try clear hx111_0
     try clear p111
     try clear q111
     obtain ⟨x6_2,x27_2,rfl,HA,HK2,HO_6,HB⟩ := hrel
     cases gk with
    |zero => exact absurd HA.out (by simp [slices_Concat_int_int.l1])
    |succ k2 =>
      have H := HA.out
      clear HA
      simp only [slices_Concat_int_int.l1] at H
      by_cases c8 : x27_2 < (l0.length : Int)
      ·rw [if_pos c8] at H
       have c8b0 : decide (x27_2 < (l0.length : Int)) = true := decide_eq_true c8
       clear c8
       by_cases c9 : 0 ≤ x27_2
       ·rw [if_pos c9] at H
        have c9b0 : decide (0 ≤ x27_2) = true := decide_eq_true c9
        clear c9
        by_cases c10 : x27_2 < (l0.length : Int)
        ·rw [if_pos c10] at H
         have c10b0 : decide (x27_2 < (l0.length : Int)) = true := decide_eq_true c10
         clear c10
         by_cases c11 : x6_2.length + (rd_L1 l0 x27_2).length < 17592186044416
         ·rw [if_pos c11] at H
          have LMc11 := Aside0.mk c11
          clear c11
          obtain ⟨y116,hy116⟩ : ∃ y_ : List Int,y_ = (x6_2 ++ (rd_L1 l0 x27_2)) := ⟨_,rfl⟩
          replace H : (slices_Concat_int_int.l1 k2 y116 l0 (l0.length : Int) (wrap64 (x27_2 + 1))) = some r := by first|(rw [hy116];with_reducible exact H)|(have H2_ := (Option.bind_some _ _).symm.trans H;rw [hy116];with_reducible exact H2_)|(have H2_ := (Option.bind_some _ _).symm.trans H;with_reducible exact H2_)|with_reducible exact H|(rw [hy116];exact H)|exact H
          have Ny116 := Aside0.mk hy116
          clear hy116
          have H' := Aside0.mk H
          clear H
          have p115 : 0 ≤ (x27_2 : Int) := of_decide_eq_true (by first|(with_reducible assumption)|assumption)
          have q115 : x27_2 < (l0.length : Int) := of_decide_eq_true (by first|(with_reducible assumption)|assumption)
          obtain ⟨ad115,A115_0,c115_0,e115,hx115_0,hl115_0,hi115_0⟩ := at_L1 HR0.out x27_2 p115 q115
          cases e115
          replace hx115_0 := (HB.out.cell (World.block_lt_of_cell? w _ hx115_0)).trans hx115_0
          have HR115_0 := Aside0.mk hi115_0
          have HC115_0 := Aside0.mk hl115_0
          clear hi115_0 hl115_0
          replace p115 := eq_true p115
          replace q115 := eq_true q115
          go_wp2_with (first|((with_reducible refine gate_builtin (b := .append) (xs := #[.tmp 31,.tmp 32]) rfl ?_);at_builtin;refine Kd.R_append_rows (Kd.int .i64) (w0 := w) w.heap.size rfl (.tmp 31) (.tmp 32) 22 3 (.int .i64 0) 8 rfl Try.underlying22 info3 rfl (by decide) (by omega) u6 x6_2 (rd_L1 l0 x27_2) _ _ _ (fun _ => True) (fun _ => False) rfl rfl ?aO ?aR (fun _ _ h => h) (fun _ h => h.elim) ?aF ?aB ?aS ?aL ?_;(case aR => exact cM (Kd.C_below HR115_0.out HB.out));(case aB => exact (bM HB.out));(case aF => exact (fun _ _ => trivial));(case aO => exact (rM HO_6.out));(case aS => exact (below_size (bM HB.out)));(case aL => have := LMc11.out;omega);intro v117 w12 ho hb hg hat;rw [← Ny116.out] at ho;have n0_ := Aside0.mk (hb);have n1_ := Aside0.mk (ho);clear HB;clear HO_6;have HB := n0_;have HO118 := n1_;clear n0_ n1_;clear ho hb hg hat))
          go_roundg k2
          case measure => have := HK1.out;have := HK2.out;omega
          case rel => exact ⟨(y116),(wrap64 (x27_2 + 1)),(by first|rfl|(simp;done)|(simp [*];done)),H',⟨by have := HK1.out;have := HK2.out;omega⟩,⟨rM HO118.out⟩,⟨bM HB.out⟩⟩
         ·rw [if_neg c11] at H
          exact absurd H (by simp)
        ·rw [if_neg c10] at H
         exact absurd H (by simp)
       ·rw [if_neg c9] at H
        exact absurd H (by simp)
      ·rw [if_neg c8] at H
       have c8b0 : decide (x27_2 < (l0.length : Int)) = false := decide_eq_false c8
       clear c8
       obtain rfl := Option.some.inj H
       go_wp2
       go_ret
       exact ⟨_,by first|rfl|(simp [errW_none,errW_some] <;> rfl)|(simp [*,errW_none,errW_some] <;> rfl),rM HO_6.out,bM HB.out⟩

end Go.Proofs.Ytknpmknkkofnjaa.P
