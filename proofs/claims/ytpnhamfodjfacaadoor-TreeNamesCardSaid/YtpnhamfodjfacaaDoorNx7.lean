-- Written by hp.py, a program of this session, over the kit's print of the translation. Not trusted: Lean checks it.
import Derived.Test.YtpnhamfodjfacaaDoorNx0
import Derived.Test.YtpnhamfodjfacaaDoorNx1
import Derived.Test.YtpnhamfodjfacaaDoorNx2
import Derived.Test.YtpnhamfodjfacaaDoorNx3
import Derived.Test.YtpnhamfodjfacaaDoorNx4
import Derived.Test.YtpnhamfodjfacaaDoorNx6
namespace Go.Proofs.YtpnhamfodjfacaaDoor.N
open Go.RowKit Go.Proofs.YtpnhamfodjfacaaDoorW.PrintWords Go.Proofs.YtpnhamfodjfacaaDoorW.PrintLast Go.Proofs.YtpnhamfodjfacaaDoorW.PrintMore
attribute [local go_sem] max2_int min2_int max_two min_two max_three min_three max_four min_four   -- for this text's walks alone
set_option linter.unusedVariables false
set_option linter.unusedSimpArgs false

attribute [local go_sem high] eqA45 eqA47
/-! ### codesearchref25_Files: function 18 -/
def codesearchref25_Files.l0 : Nat → List (S45) → List (S45) → Int → Option (Bool)
|0,_,_,_ => none
|k + 1,x0,x1,x5 => if x5 < (x0.length : Int) then (if 0 ≤ x5 then (if x5 < (x1.length : Int) then (if (!((((rd_T45 x0 x5).f0).toList) == (((rd_T45 x1 x5).f0).toList)) || (!(((rd_T45 x0 x5).f1) == ((rd_T45 x1 x5).f1)))) = true then (some false) else (codesearchref25_Files.l0 k x0 x1 (wrap64 (x5 + 1)))) else (none)) else (none)) else (some true)
def codesearchref25_Files.f (k : Nat) (l0 : List (S45)) (l1 : List (S45)) : Option (Bool) := if (l0.length : Int) = (l1.length : Int) then (codesearchref25_Files.l0 k l0 l1 0) else (some false)
theorem codesearchref25_Files.mono_l : ∀ k, (∀ y0 y1 y2, LeO (codesearchref25_Files.l0 k y0 y1 y2) (codesearchref25_Files.l0 (k + 1) y0 y1 y2))
|0 => fun _ _ _ r h => by simp [codesearchref25_Files.l0] at h
|k + 1 => by
  have ih0 := codesearchref25_Files.mono_l k
  ·intro y0 y1 y2
   unfold codesearchref25_Files.l0
   repeat' first
  |(with_reducible exact ih0 _ _ _)
  |(with_reducible exact LeO.refl _)
  |(with_reducible exact LeO.none _)
  |(with_reducible refine LeO.ite ?_ ?_)
  |(with_reducible refine LeO.bind ?_ (fun _ => ?_))
  |exact ih0 _ _ _
  |exact LeO.none _
  |refine LeO.ite ?_ ?_
  |refine LeO.bind ?_ (fun _ => ?_)
theorem codesearchref25_Files.mono : ∀ a0 a1 k, LeO (codesearchref25_Files.f k a0 a1) (codesearchref25_Files.f (k + 1) a0 a1) := by
 intro a0 a1 k
 have ih0 := codesearchref25_Files.mono_l k
 unfold codesearchref25_Files.f
 repeat' first
  |(with_reducible exact ih0 _ _ _)
  |(with_reducible exact LeO.refl _)
  |(with_reducible exact LeO.none _)
  |(with_reducible refine LeO.ite ?_ ?_)
  |(with_reducible refine LeO.bind ?_ (fun _ => ?_))
  |exact ih0 _ _ _
  |exact LeO.none _
  |refine LeO.ite ?_ ?_
  |refine LeO.bind ?_ (fun _ => ?_)
set_option maxHeartbeats 4000000 in
set_option maxRecDepth 100000 in
theorem codesearchref25_Files.calls (k : Nat) (A0 : Option Addr) (c0 : Nat) (l0 : List (S45)) (A1 : Option Addr) (c1 : Nat) (l1 : List (S45)) (r : Bool) (w : World) (hr0 : Kd.C k45 w A0 l0.length l0) (hc0 : l0.length ≤ c0) (hr1 : Kd.C k45 w A1 l1.length l1) (hc1 : l1.length ≤ c1) (h : codesearchref25_Files.f k l0 l1 = some r) :
  Calls Tryd.prog 18 #[.slice A0 l0.length c0,.slice A1 l1.length c1] w fun e w' => e = .returned (.bool r) ∧ Drawn0 w w' := by
 have hu45 := Tryd.underlying45
 have HR0 := Aside0.mk hr0
 have HC0 := Aside0.mk hc0
 clear hr0 hc0
 have HR1 := Aside0.mk hr1
 have HC1 := Aside0.mk hc1
 clear hr1 hc1
 have H : (if (l0.length : Int) = (l1.length : Int) then (codesearchref25_Files.l0 k l0 l1 0) else (some false)) = some r := h
 clear h
 by_cases c3 : (l0.length : Int) = (l1.length : Int)
 ·rw [if_pos c3] at H
  have c3b0 : ((l0.length : Int) == (l1.length : Int)) = true := beq_iff_eq.mpr c3
  have c3b1 : ((l0.length : Int) != (l1.length : Int)) = false := bne_eq_false_iff_eq.mpr c3
  have c3b2 : (l0.length == l1.length) = true := by first|simpa using c3|(simp at c3 ⊢;omega)
  clear c3
  have H' := Aside0.mk H
  clear H
  go_enter Tryd.func18,Tryd.ntmps18
  go_wp2
  repeat (go_quiet (fail);try go_wp2)
  go_loopg [5] k (fun kq v5 w' => ∃ (x5_1 : Int),v5 = .int .i64 x5_1 ∧ Aside0 (codesearchref25_Files.l0 kq l0 l1 x5_1 = some r) ∧ Aside0 (kq ≤ k) ∧ Drawn0 w w')
  case atStart => exact ⟨(0),(by first|rfl|(simp;done)|(simp [*];done)),H',⟨Nat.le_refl _⟩,by repeat (first|exact Drawn0.refl _|apply Drawn0.step)⟩
  case round =>
   clear H'
   try clear c1
   try clear p2
   try clear c3
   try clear c3b0
   try clear c3b1
   try clear c3b2
   obtain ⟨x5_1,rfl,HA,HK1,⟨m1,rfl⟩⟩ := hrel
   cases gk with
  |zero => exact absurd HA.out (by simp [codesearchref25_Files.l0])
  |succ k1 =>
    have H := HA.out
    clear HA
    simp only [codesearchref25_Files.l0] at H
    by_cases c4 : x5_1 < (l0.length : Int)
    ·rw [if_pos c4] at H
     have c4b0 : decide (x5_1 < (l0.length : Int)) = true := decide_eq_true c4
     clear c4
     by_cases c5 : 0 ≤ x5_1
     ·rw [if_pos c5] at H
      have c5b0 : decide (0 ≤ x5_1) = true := decide_eq_true c5
      clear c5
      by_cases c6 : x5_1 < (l1.length : Int)
      ·rw [if_pos c6] at H
       have c6b0 : decide (x5_1 < (l1.length : Int)) = true := decide_eq_true c6
       clear c6
       by_cases c7 : (!((((rd_T45 l0 x5_1).f0).toList) == (((rd_T45 l1 x5_1).f0).toList)) || (!(((rd_T45 l0 x5_1).f1) == ((rd_T45 l1 x5_1).f1)))) = true
       ·rw [if_pos c7] at H
        have c7b0 : (!((((rd_T45 l0 x5_1).f0).toList) == (((rd_T45 l1 x5_1).f0).toList)) || (!(((rd_T45 l0 x5_1).f1) == ((rd_T45 l1 x5_1).f1)))) = true := c7
        clear c7
        obtain rfl := Option.some.inj H
        have p137 : 0 ≤ (x5_1 : Int) := of_decide_eq_true (by first|(with_reducible assumption)|assumption)
        have q137 : x5_1 < (l0.length : Int) := of_decide_eq_true (by first|(with_reducible assumption)|assumption)
        obtain ⟨ad137,e137,hx137_0,hx137_1⟩ := at_T45 HR0.out x5_1 p137 q137
        cases e137
        replace p137 := eq_true p137
        replace q137 := eq_true q137
        have p138 : 0 ≤ (x5_1 : Int) := of_decide_eq_true (by first|(with_reducible assumption)|assumption)
        have q138 : x5_1 < (l1.length : Int) := of_decide_eq_true (by first|(with_reducible assumption)|assumption)
        obtain ⟨ad138,e138,hx138_0,hx138_1⟩ := at_T45 HR1.out x5_1 p138 q138
        cases e138
        replace p138 := eq_true p138
        replace q138 := eq_true q138
        go_wp2
        repeat (go_quiet (fail);try go_wp2)
        go_ret
        exact ⟨by first|rfl|(simp;done)|(simp [*];done),by repeat (first|exact Drawn0.refl _|apply Drawn0.step)⟩
       ·rw [if_neg c7] at H
        have c7b0 : (!((((rd_T45 l0 x5_1).f0).toList) == (((rd_T45 l1 x5_1).f0).toList)) || (!(((rd_T45 l0 x5_1).f1) == ((rd_T45 l1 x5_1).f1)))) = false := by simpa using c7
        clear c7
        have H' := Aside0.mk H
        clear H
        have p137 : 0 ≤ (x5_1 : Int) := of_decide_eq_true (by first|(with_reducible assumption)|assumption)
        have q137 : x5_1 < (l0.length : Int) := of_decide_eq_true (by first|(with_reducible assumption)|assumption)
        obtain ⟨ad137,e137,hx137_0,hx137_1⟩ := at_T45 HR0.out x5_1 p137 q137
        cases e137
        replace p137 := eq_true p137
        replace q137 := eq_true q137
        have p138 : 0 ≤ (x5_1 : Int) := of_decide_eq_true (by first|(with_reducible assumption)|assumption)
        have q138 : x5_1 < (l1.length : Int) := of_decide_eq_true (by first|(with_reducible assumption)|assumption)
        obtain ⟨ad138,e138,hx138_0,hx138_1⟩ := at_T45 HR1.out x5_1 p138 q138
        cases e138
        replace p138 := eq_true p138
        replace q138 := eq_true q138
        go_wp2
        repeat (go_quiet (fail);try go_wp2)
        go_roundg k1
        case measure => have := HK1.out;omega
        case rel => exact ⟨(wrap64 (x5_1 + 1)),(by first|rfl|(simp;done)|(simp [*];done)),H',⟨by have := HK1.out;omega⟩,by repeat (first|exact Drawn0.refl _|apply Drawn0.step)⟩
      ·rw [if_neg c6] at H
       exact absurd H (by simp)
     ·rw [if_neg c5] at H
      exact absurd H (by simp)
    ·rw [if_neg c4] at H
     have c4b0 : decide (x5_1 < (l0.length : Int)) = false := decide_eq_false c4
     clear c4
     obtain rfl := Option.some.inj H
     go_wp2
     repeat (go_quiet (fail);try go_wp2)
     go_ret
     exact ⟨by first|rfl|(simp;done)|(simp [*];done),by repeat (first|exact Drawn0.refl _|apply Drawn0.step)⟩
 ·rw [if_neg c3] at H
  have c3b0 : ((l0.length : Int) == (l1.length : Int)) = false := beq_eq_false_iff_ne.mpr c3
  have c3b1 : ((l0.length : Int) != (l1.length : Int)) = true := bne_iff_ne.mpr c3
  have c3b2 : (l0.length == l1.length) = false := by first|simpa using c3|(simp at c3 ⊢;omega)
  obtain rfl := Option.some.inj H
  go_enter Tryd.func18,Tryd.ntmps18
  go_wp2
  repeat (go_quiet (fail);try go_wp2)
  go_ret
  exact ⟨by first|rfl|(simp;done)|(simp [*];done),by repeat (first|exact Drawn0.refl _|apply Drawn0.step)⟩

/-! ### codesearchref25_Changes: function 20 -/
def codesearchref25_Changes.l0 : Nat → List (S47) → List (S47) → Int → Option (Bool)
|0,_,_,_ => none
|k + 1,x0,x1,x5 => if x5 < (x0.length : Int) then (if 0 ≤ x5 then (if x5 < (x1.length : Int) then (if (!((((rd_T47 x0 x5).f0).toList) == (((rd_T47 x1 x5).f0).toList)) || (!(((rd_T47 x0 x5).f1) == ((rd_T47 x1 x5).f1)))) = true then (some false) else (codesearchref25_Changes.l0 k x0 x1 (wrap64 (x5 + 1)))) else (none)) else (none)) else (some true)
def codesearchref25_Changes.f (k : Nat) (l0 : List (S47)) (l1 : List (S47)) : Option (Bool) := if (l0.length : Int) = (l1.length : Int) then (codesearchref25_Changes.l0 k l0 l1 0) else (some false)
theorem codesearchref25_Changes.mono_l : ∀ k, (∀ y0 y1 y2, LeO (codesearchref25_Changes.l0 k y0 y1 y2) (codesearchref25_Changes.l0 (k + 1) y0 y1 y2))
|0 => fun _ _ _ r h => by simp [codesearchref25_Changes.l0] at h
|k + 1 => by
  have ih0 := codesearchref25_Changes.mono_l k
  ·intro y0 y1 y2
   unfold codesearchref25_Changes.l0
   repeat' first
  |(with_reducible exact ih0 _ _ _)
  |(with_reducible exact LeO.refl _)
  |(with_reducible exact LeO.none _)
  |(with_reducible refine LeO.ite ?_ ?_)
  |(with_reducible refine LeO.bind ?_ (fun _ => ?_))
  |exact ih0 _ _ _
  |exact LeO.none _
  |refine LeO.ite ?_ ?_
  |refine LeO.bind ?_ (fun _ => ?_)
theorem codesearchref25_Changes.mono : ∀ a0 a1 k, LeO (codesearchref25_Changes.f k a0 a1) (codesearchref25_Changes.f (k + 1) a0 a1) := by
 intro a0 a1 k
 have ih0 := codesearchref25_Changes.mono_l k
 unfold codesearchref25_Changes.f
 repeat' first
  |(with_reducible exact ih0 _ _ _)
  |(with_reducible exact LeO.refl _)
  |(with_reducible exact LeO.none _)
  |(with_reducible refine LeO.ite ?_ ?_)
  |(with_reducible refine LeO.bind ?_ (fun _ => ?_))
  |exact ih0 _ _ _
  |exact LeO.none _
  |refine LeO.ite ?_ ?_
  |refine LeO.bind ?_ (fun _ => ?_)
set_option maxHeartbeats 4000000 in
set_option maxRecDepth 100000 in
theorem codesearchref25_Changes.calls (k : Nat) (A0 : Option Addr) (c0 : Nat) (l0 : List (S47)) (A1 : Option Addr) (c1 : Nat) (l1 : List (S47)) (r : Bool) (w : World) (hr0 : Kd.C k47 w A0 l0.length l0) (hc0 : l0.length ≤ c0) (hr1 : Kd.C k47 w A1 l1.length l1) (hc1 : l1.length ≤ c1) (h : codesearchref25_Changes.f k l0 l1 = some r) :
  Calls Tryd.prog 20 #[.slice A0 l0.length c0,.slice A1 l1.length c1] w fun e w' => e = .returned (.bool r) ∧ Drawn0 w w' := by
 have hu47 := Tryd.underlying47
 have HR0 := Aside0.mk hr0
 have HC0 := Aside0.mk hc0
 clear hr0 hc0
 have HR1 := Aside0.mk hr1
 have HC1 := Aside0.mk hc1
 clear hr1 hc1
 have H : (if (l0.length : Int) = (l1.length : Int) then (codesearchref25_Changes.l0 k l0 l1 0) else (some false)) = some r := h
 clear h
 by_cases c3 : (l0.length : Int) = (l1.length : Int)
 ·rw [if_pos c3] at H
  have c3b0 : ((l0.length : Int) == (l1.length : Int)) = true := beq_iff_eq.mpr c3
  have c3b1 : ((l0.length : Int) != (l1.length : Int)) = false := bne_eq_false_iff_eq.mpr c3
  have c3b2 : (l0.length == l1.length) = true := by first|simpa using c3|(simp at c3 ⊢;omega)
  clear c3
  have H' := Aside0.mk H
  clear H
  go_enter Tryd.func20,Tryd.ntmps20
  go_wp2
  repeat (go_quiet (fail);try go_wp2)
  go_loopg [5] k (fun kq v5 w' => ∃ (x5_1 : Int),v5 = .int .i64 x5_1 ∧ Aside0 (codesearchref25_Changes.l0 kq l0 l1 x5_1 = some r) ∧ Aside0 (kq ≤ k) ∧ Drawn0 w w')
  case atStart => exact ⟨(0),(by first|rfl|(simp;done)|(simp [*];done)),H',⟨Nat.le_refl _⟩,by repeat (first|exact Drawn0.refl _|apply Drawn0.step)⟩
  case round =>
   clear H'
   try clear c1
   try clear c2
   try clear p2
   try clear c3
   try clear c3b0
   try clear c3b1
   try clear c3b2
   obtain ⟨x5_1,rfl,HA,HK1,⟨m1,rfl⟩⟩ := hrel
   cases gk with
  |zero => exact absurd HA.out (by simp [codesearchref25_Changes.l0])
  |succ k1 =>
    have H := HA.out
    clear HA
    simp only [codesearchref25_Changes.l0] at H
    by_cases c4 : x5_1 < (l0.length : Int)
    ·rw [if_pos c4] at H
     have c4b0 : decide (x5_1 < (l0.length : Int)) = true := decide_eq_true c4
     clear c4
     by_cases c5 : 0 ≤ x5_1
     ·rw [if_pos c5] at H
      have c5b0 : decide (0 ≤ x5_1) = true := decide_eq_true c5
      clear c5
      by_cases c6 : x5_1 < (l1.length : Int)
      ·rw [if_pos c6] at H
       have c6b0 : decide (x5_1 < (l1.length : Int)) = true := decide_eq_true c6
       clear c6
       by_cases c7 : (!((((rd_T47 l0 x5_1).f0).toList) == (((rd_T47 l1 x5_1).f0).toList)) || (!(((rd_T47 l0 x5_1).f1) == ((rd_T47 l1 x5_1).f1)))) = true
       ·rw [if_pos c7] at H
        have c7b0 : (!((((rd_T47 l0 x5_1).f0).toList) == (((rd_T47 l1 x5_1).f0).toList)) || (!(((rd_T47 l0 x5_1).f1) == ((rd_T47 l1 x5_1).f1)))) = true := c7
        clear c7
        obtain rfl := Option.some.inj H
        have p139 : 0 ≤ (x5_1 : Int) := of_decide_eq_true (by first|(with_reducible assumption)|assumption)
        have q139 : x5_1 < (l0.length : Int) := of_decide_eq_true (by first|(with_reducible assumption)|assumption)
        obtain ⟨ad139,e139,hx139_0,hx139_1⟩ := at_T47 HR0.out x5_1 p139 q139
        cases e139
        replace p139 := eq_true p139
        replace q139 := eq_true q139
        have p140 : 0 ≤ (x5_1 : Int) := of_decide_eq_true (by first|(with_reducible assumption)|assumption)
        have q140 : x5_1 < (l1.length : Int) := of_decide_eq_true (by first|(with_reducible assumption)|assumption)
        obtain ⟨ad140,e140,hx140_0,hx140_1⟩ := at_T47 HR1.out x5_1 p140 q140
        cases e140
        replace p140 := eq_true p140
        replace q140 := eq_true q140
        go_wp2
        repeat (go_quiet (fail);try go_wp2)
        go_ret
        exact ⟨by first|rfl|(simp;done)|(simp [*];done),by repeat (first|exact Drawn0.refl _|apply Drawn0.step)⟩
       ·rw [if_neg c7] at H
        have c7b0 : (!((((rd_T47 l0 x5_1).f0).toList) == (((rd_T47 l1 x5_1).f0).toList)) || (!(((rd_T47 l0 x5_1).f1) == ((rd_T47 l1 x5_1).f1)))) = false := by simpa using c7
        clear c7
        have H' := Aside0.mk H
        clear H
        have p139 : 0 ≤ (x5_1 : Int) := of_decide_eq_true (by first|(with_reducible assumption)|assumption)
        have q139 : x5_1 < (l0.length : Int) := of_decide_eq_true (by first|(with_reducible assumption)|assumption)
        obtain ⟨ad139,e139,hx139_0,hx139_1⟩ := at_T47 HR0.out x5_1 p139 q139
        cases e139
        replace p139 := eq_true p139
        replace q139 := eq_true q139
        have p140 : 0 ≤ (x5_1 : Int) := of_decide_eq_true (by first|(with_reducible assumption)|assumption)
        have q140 : x5_1 < (l1.length : Int) := of_decide_eq_true (by first|(with_reducible assumption)|assumption)
        obtain ⟨ad140,e140,hx140_0,hx140_1⟩ := at_T47 HR1.out x5_1 p140 q140
        cases e140
        replace p140 := eq_true p140
        replace q140 := eq_true q140
        go_wp2
        repeat (go_quiet (fail);try go_wp2)
        go_roundg k1
        case measure => have := HK1.out;omega
        case rel => exact ⟨(wrap64 (x5_1 + 1)),(by first|rfl|(simp;done)|(simp [*];done)),H',⟨by have := HK1.out;omega⟩,by repeat (first|exact Drawn0.refl _|apply Drawn0.step)⟩
      ·rw [if_neg c6] at H
       exact absurd H (by simp)
     ·rw [if_neg c5] at H
      exact absurd H (by simp)
    ·rw [if_neg c4] at H
     have c4b0 : decide (x5_1 < (l0.length : Int)) = false := decide_eq_false c4
     clear c4
     obtain rfl := Option.some.inj H
     go_wp2
     repeat (go_quiet (fail);try go_wp2)
     go_ret
     exact ⟨by first|rfl|(simp;done)|(simp [*];done),by repeat (first|exact Drawn0.refl _|apply Drawn0.step)⟩
 ·rw [if_neg c3] at H
  have c3b0 : ((l0.length : Int) == (l1.length : Int)) = false := beq_eq_false_iff_ne.mpr c3
  have c3b1 : ((l0.length : Int) != (l1.length : Int)) = true := bne_iff_ne.mpr c3
  have c3b2 : (l0.length == l1.length) = false := by first|simpa using c3|(simp at c3 ⊢;omega)
  obtain rfl := Option.some.inj H
  go_enter Tryd.func20,Tryd.ntmps20
  go_wp2
  repeat (go_quiet (fail);try go_wp2)
  go_ret
  exact ⟨by first|rfl|(simp;done)|(simp [*];done),by repeat (first|exact Drawn0.refl _|apply Drawn0.step)⟩

/-! ### tree_Diff: function 21 (by hand) -/
def diffM (x y : MP) : List S47 := ((pathsM [x, y]).filter fun s => decide (valM x s ≠ valM y s)).map fun s => ⟨s, valM y s⟩
theorem diff_snoc (x y : MP) (ks : List ByteArray) (i : Nat) (h : i < ks.length) :
    (((ks.take (i + 1)).filter fun s => decide (valM x s ≠ valM y s)).map fun s => (⟨s, valM y s⟩ : S47)) = (((ks.take i).filter fun s => decide (valM x s ≠ valM y s)).map fun s => (⟨s, valM y s⟩ : S47)) ++ (if valM x ks[i] = valM y ks[i] then [] else [⟨ks[i], valM y ks[i]⟩]) := by
  rw [List.take_succ_eq_append_getElem h, List.filter_append, List.map_append]
  congr 1
  by_cases hz : valM x ks[i] = valM y ks[i]
  · rw [if_pos hz]; simp [hz]
  · rw [if_neg hz]; simp [hz]
def tree_Diff.f (l0 l1 : List S45) : Option (List S47) := if okFs l0 = true ∧ okFs l1 = true ∧ l0.length ≤ 100000 ∧ l1.length ≤ 100000 then some (diffM (contsM l0) (contsM l1)) else none
set_option maxHeartbeats 4000000 in
set_option maxRecDepth 100000 in
theorem tree_Diff.calls (A0 : Option Addr) (c0 : Nat) (l0 : List (S45)) (A1 : Option Addr) (c1 : Nat) (l1 : List (S45)) (r : List (S47)) (w : World) (hr0 : Kd.C k45 w A0 l0.length l0) (hc0 : l0.length ≤ c0) (hr1 : Kd.C k45 w A1 l1.length l1) (hc1 : l1.length ≤ c1) (h : tree_Diff.f l0 l1 = some r) :
    Calls Tryd.prog 21 #[.slice A0 l0.length c0, .slice A1 l1.length c1] w fun e w' => ∃ v0_ : Value, e = .returned (v0_) ∧ Kd.R k47 47 w' w.heap.size (fun _ => True) v0_ r ∧ Below w.heap.size w w' := by
  unfold tree_Diff.f at h
  split at h
  case isFalse => cases h
  rename_i hh
  obtain rfl := Option.some.inj h
  have hu47 := Tryd.underlying47
  have info47 : (Tryd.prog.info? 47).map (fun i => (i.zero, i.size, i.bytes)) = some (some (.agg #[(.string ⟨#[]⟩), (.int .i64 0)]), 2, 24) := by kernel_rfl
  have HI := Aside0.mk info47
  have HH := Aside0.mk hh
  have hca := Aside0.mk (tree_contents.calls_ A0 c0 l0 w hr0 hc0 hh.1 (by omega))
  have HR1 := Aside0.mk (And.intro hr1 hc1)
  clear h hh hr0 hc0 hr1 hc1 info47
  go_enter Tryd.func21, Tryd.ntmps21
  go_wp2_with fail
  go_at_call 36
  refine hca.out.mono ?_
  rintro e w1 ⟨b1, rfl, hb1, hm1, hB1⟩
  have hcb := Aside0.mk (tree_contents.calls_ A1 c1 l1 w1 (Kd.C_below HR1.out.1 hB1) HR1.out.2 HH.out.2.1 (by have := HH.out; omega))
  have HM1 := Aside0.mk (hm1.mono (n' := 1000000) (by have := HH.out; omega))
  have HB1 := Aside0.mk hB1
  clear hca hm1 hB1
  go_wp2_with fail
  go_at_call 36
  refine hcb.out.mono ?_
  rintro e w2 ⟨b2, rfl, hb2, hm2, hB2⟩
  have HMx := Aside0.mk (HM1.out.below hB2)
  have HMy := Aside0.mk (hm2.mono (n' := 1000000) (by have := HH.out; omega))
  have HB2 := Aside0.mk (below_then HB1.out HB1.out.size hB2)
  clear hcb hm2 hB2 HM1 HB1 hb1 hb2
  go_wp2_with fail
  go_at_call 40
  generalize hw3 : w2.alloc _ = w3
  have hs3 : w3.heap.size = w2.heap.size + 1 := by rw [← hw3]; simp
  have hb3 : Below w2.heap.size w2 w3 := by rw [← hw3]; exact below_alloc (Below.refl _ _) _
  have hat : MapsAt w3 w2.heap.size [(b1, contsM l0), (b2, contsM l1)] := by
    intro j hj
    have hj0 : j = 0 ∨ j = 1 := by simp at hj; omega
    rcases hj0 with rfl | rfl
    · exact ⟨by rw [← hw3]; simp, HMx.out.below hb3⟩
    · exact ⟨by rw [← hw3]; simp, HMy.out.below hb3⟩
  refine (tree_paths.calls_ w2.heap.size 2 [(b1, contsM l0), (b2, contsM l1)] w3 (by omega) hat (by simp)).mono ?_
  rintro e w4 ⟨v, rfl, hR, hB⟩
  clear hw3 hat
  have hB24 := below_then hb3 hb3.size hB
  obtain ⟨A, cA, rfl⟩ := Kd.R_slice hR
  simp only [List.map_cons, List.map_nil] at hR ⊢
  have hpl := pathsM_len [contsM l0, contsM l1] 100000 (by intro m hm; simp at hm; rcases hm with rfl | rfl <;> rw [contsM_len] <;> have := HH.out <;> omega)
  have hok : (pathsM [contsM l0, contsM l1]).all okS = true := okS_paths (ls := [l0, l1]) (by intro l hl; simp at hl; rcases hl with rfl | rfl; exact HH.out.1; exact HH.out.2.1)
  have HP := Aside0.mk (And.intro (Kd.R_reads' hR).2.2 (And.intro (by simpa using hpl) hok))
  have HX := Aside0.mk (HMx.out.below hB24)
  have HY := Aside0.mk (HMy.out.below hB24)
  have HB := Aside0.mk (below_then HB2.out HB2.out.size hB24)
  clear hs3 hb3 hR hB hB24 hpl hok HMx HMy HB2
  change Aside0 (Kd.C Kd.string w4 A (pathsM [contsM l0, contsM l1]).length (pathsM [contsM l0, contsM l1]) ∧ (pathsM [contsM l0, contsM l1]).length ≤ 200000 ∧ _) at HP
  generalize hks : pathsM [contsM l0, contsM l1] = ks at HP
  have HKS := Aside0.mk hks
  clear hks
  generalize hx0 : contsM l0 = x at HX HKS
  generalize hy0 : contsM l1 = y at HY HKS
  have HXY := Aside0.mk (And.intro hx0 hy0)
  clear hx0 hy0
  go_wp2
  go_loopg [7, 19] ks.length (fun kq v7 v19 w' => ∃ (i : Nat), v19 = .int .i64 (i : Int) ∧ Aside0 (i ≤ ks.length ∧ ks.length - i ≤ kq) ∧ Aside0 (Kd.R k47 47 w' w4.heap.size (fun _ => True) v7 (((ks.take i).filter fun s => decide (valM x s ≠ valM y s)).map fun s => (⟨s, valM y s⟩ : S47))) ∧ Aside0 (Below w4.heap.size w4 w'))
  case atStart => exact ⟨0, rfl, ⟨Nat.zero_le _, by omega⟩, ⟨Kd.R_nil _ _ _ _ _⟩, ⟨Below.refl _ _⟩⟩
  case round =>
    obtain ⟨i, rfl, HK, HO, HB2⟩ := hrel
    by_cases hlt : i < ks.length
    · cases gk with
      | zero => exfalso; have := HK.out; omega
      | succ k1 =>
        have c1 : decide ((i : Int) < (ks.length : Int)) = true := decide_eq_true (by omega)
        obtain ⟨ad, e, hx⟩ := at9 HP.out.1 i hlt rfl
        subst e
        replace hx := (HB2.out.cell (World.block_lt_of_cell? w4 _ hx)).trans hx
        have p : (0 ≤ (i : Int)) = True := eq_true (by omega)
        have q : ((i : Int) < (ks.length : Int)) = True := eq_true (by omega)
        have HS := Aside0.mk (show okS ks[i] = true from List.all_eq_true.1 HP.out.2.2 _ (List.getElem_mem _))
        have HF := Aside0.mk (diff_snoc x y ks i hlt)
        generalize ks[i] = s at hx HS HF
        obtain ⟨D, hD, hRp⟩ := HX.out.below HB2.out
        have HD := Aside0.mk (And.intro hD hRp)
        obtain ⟨E, hE, hRq⟩ := HY.out.below HB2.out
        have HE := Aside0.mk (And.intro hE hRq)
        clear hD hRp hE hRq
        by_cases hz : valM x s = valM y s
        · go_wp2_with (first
            | (at_lookup; refine wpList_lookup_own_int _ rfl _ _ 51 rfl 9 3 .i64 law9 Tryd.underlying51 Tryd.underlying3 (zero3 _) b1 1000000 D rfl HD.out.1 _ _ rfl (key_ok HS.out) ?_; intro c hat hwc; obtain rfl := SM.look HD.out.2 hat; clear hat hwc; simp only [hz])
            | (at_lookup; refine wpList_lookup_own_int _ rfl _ _ 51 rfl 9 3 .i64 law9 Tryd.underlying51 Tryd.underlying3 (zero3 _) b2 1000000 E rfl HE.out.1 _ _ rfl (key_ok HS.out) ?_; intro c hat hwc; obtain rfl := SM.look HE.out.2 hat; clear hat hwc))
          go_roundg k1
          case measure => omega
          case rel =>
            refine ⟨i + 1, by rw [w_inc_ i (by have := HP.out.2.1; omega)], ⟨by omega, by have := HK.out; omega⟩, ⟨?_⟩, HB2⟩
            rw [HF.out, if_pos hz, List.append_nil]
            exact HO.out
        · go_wp2_with (first
            | (at_lookup; refine wpList_lookup_own_int _ rfl _ _ 51 rfl 9 3 .i64 law9 Tryd.underlying51 Tryd.underlying3 (zero3 _) b1 1000000 D rfl HD.out.1 _ _ rfl (key_ok HS.out) ?_; intro c hat hwc; obtain rfl := SM.look HD.out.2 hat; clear hat hwc)
            | (at_lookup; refine wpList_lookup_own_int _ rfl _ _ 51 rfl 9 3 .i64 law9 Tryd.underlying51 Tryd.underlying3 (zero3 _) b2 1000000 E rfl HE.out.1 _ _ rfl (key_ok HS.out) ?_; intro c hat hwc; obtain rfl := SM.look HE.out.2 hat; clear hat hwc)
            | ((with_reducible refine gate_builtin (b := .append) (xs := #[.tmp 30, .tmp 36]) rfl ?_); at_builtin
               refine Kd.R_append k47 (w0 := w4) w4.heap.size rfl (.tmp 30) (.tmp 36) 29 47 (.agg #[(.string ⟨#[]⟩), (.int .i64 0)]) 24 rfl Tryd.underlying29 HI.out rfl (by decide) (by omega) _ _ (⟨s, valM y s⟩ : S47) [.string s, .int .i64 (valM y s)] (fun _ => True) (fun _ => False) rfl rfl (k47_mkM _ _ _ (⟨s, valM y s⟩ : S47)) (fun _ hk => hk.elim) (fun _ _ => trivial) HO.out HB2.out HB2.out.size ?len ?_;
               (case len => rw [List.length_map]; have h1 := List.length_filter_le (fun s => decide (valM x s ≠ valM y s)) (ks.take i); rw [List.length_take] at h1; have := HP.out.2.1; omega);
               intro v4 w5 ho4 hb4 hg4 hat4
               have n0_ := Aside0.mk ho4; have n1_ := Aside0.mk hb4
               clear ho4 hb4 hg4 hat4 HO HB2
               have HO := n0_; have HB2 := n1_; clear n0_ n1_))
          go_roundg k1
          case measure => omega
          case rel =>
            refine ⟨i + 1, by rw [w_inc_ i (by have := HP.out.2.1; omega)], ⟨by omega, by have := HK.out; omega⟩, ⟨?_⟩, HB2⟩
            rw [HF.out, if_neg hz]
            exact HO.out
    · have hi : i = ks.length := by have := HK.out; omega
      have c1 : decide ((i : Int) < (ks.length : Int)) = false := decide_eq_false (by omega)
      have h1 := HO.out
      rw [hi, List.take_length, ← HKS.out] at h1
      have h2 : Kd.R k47 47 wr w4.heap.size (fun _ => True) u7 (diffM (contsM l0) (contsM l1)) := by rw [HXY.out.1, HXY.out.2]; exact h1
      have HO2 := Aside0.mk h2
      clear h1 h2 HO
      go_wp2
      go_ret
      exact ⟨_, rfl, Kd.R_lower HO2.out HB.out.size, below_then HB.out HB.out.size HB2.out⟩

/-! ### tree_Under: function 23 -/
def tree_Under.l0 : Nat → ByteArray → List (S45) → List (S45) → Int → Int → Option ((List (S45)))
|0,_,_,_,_,_ => none
|k + 1,x1,x5,x8,x9,x10 => if x10 < x9 then (if 0 ≤ x10 then (if x10 < (x8.length : Int) then ((glob_Under.f ((rd_T45 x8 x10).f0) x1).bind fun t143 => (if t143 = true then (if x5.length < 5864062014805 then (tree_Under.l0 k x1 (x5 ++ [(⟨(rd_T45 x8 x10).f0,(rd_T45 x8 x10).f1⟩ : S45)]) x8 x9 (wrap64 (x10 + 1))) else (none)) else (tree_Under.l0 k x1 x5 x8 x9 (wrap64 (x10 + 1))))) else (none)) else (none)) else (some x5)
def tree_Under.f (k : Nat) (l0 : List (S45)) (a1 : ByteArray) : Option ((List (S45))) := tree_Under.l0 k a1 ([] : List (S45)) l0 (l0.length : Int) 0
theorem tree_Under.mono_l : ∀ k, (∀ y0 y1 y2 y3 y4, LeO (tree_Under.l0 k y0 y1 y2 y3 y4) (tree_Under.l0 (k + 1) y0 y1 y2 y3 y4))
|0 => fun _ _ _ _ _ r h => by simp [tree_Under.l0] at h
|k + 1 => by
  have ih0 := tree_Under.mono_l k
  ·intro y0 y1 y2 y3 y4
   unfold tree_Under.l0
   repeat' first
  |(with_reducible exact ih0 _ _ _ _ _)
  |(with_reducible exact LeO.refl _)
  |(with_reducible exact LeO.none _)
  |(with_reducible refine LeO.ite ?_ ?_)
  |(with_reducible refine LeO.bind ?_ (fun _ => ?_))
  |exact ih0 _ _ _ _ _
  |exact LeO.none _
  |refine LeO.ite ?_ ?_
  |refine LeO.bind ?_ (fun _ => ?_)
theorem tree_Under.mono : ∀ a0 a1 k, LeO (tree_Under.f k a0 a1) (tree_Under.f (k + 1) a0 a1) := by
 intro a0 a1 k
 have ih0 := tree_Under.mono_l k
 unfold tree_Under.f
 repeat' first
  |(with_reducible exact ih0 _ _ _ _ _)
  |(with_reducible exact LeO.refl _)
  |(with_reducible exact LeO.none _)
  |(with_reducible refine LeO.ite ?_ ?_)
  |(with_reducible refine LeO.bind ?_ (fun _ => ?_))
  |exact ih0 _ _ _ _ _
  |exact LeO.none _
  |refine LeO.ite ?_ ?_
  |refine LeO.bind ?_ (fun _ => ?_)
set_option maxHeartbeats 4000000 in
set_option maxRecDepth 100000 in
theorem tree_Under.calls (k : Nat) (A0 : Option Addr) (c0 : Nat) (l0 : List (S45)) (a1 : ByteArray) (r : List (S45)) (w : World) (hr0 : Kd.C k45 w A0 l0.length l0) (hc0 : l0.length ≤ c0) (h : tree_Under.f k l0 a1 = some r) :
  Calls Tryd.prog 23 #[.slice A0 l0.length c0,.string a1] w fun e w' => ∃ v0_ : Value,e = .returned (v0_) ∧ Kd.R k45 45 w' w.heap.size (fun _ => True) v0_ r ∧ Below w.heap.size w w' := by
 have hu45 := Tryd.underlying45
 have HR0 := Aside0.mk hr0
 have HC0 := Aside0.mk hc0
 clear hr0 hc0
 have HB := Aside0.mk (Below.refl w.heap.size w)
 have H : (tree_Under.l0 k a1 ([] : List (S45)) l0 (l0.length : Int) 0) = some r := h
 clear h
 have H' := Aside0.mk H
 clear H
 go_enter Tryd.func23,Tryd.ntmps23
 go_wp2
 go_loopg [5,10] k (fun kq v5 v10 w' => ∃ (x5_1 : List (S45)) (x10_1 : Int),v10 = .int .i64 x10_1 ∧ Aside0 (tree_Under.l0 kq a1 x5_1 l0 (l0.length : Int) x10_1 = some r) ∧ Aside0 (kq ≤ k) ∧ Aside0 (Kd.R k45 45 w' w.heap.size (fun _ => True) v5 x5_1) ∧ Aside0 (Below w.heap.size w w'))
 case atStart => exact ⟨(([] : List (S45))),(0),(by first|rfl|(simp;done)|(simp [*];done)),H',⟨Nat.le_refl _⟩,⟨by first|exact Kd.R_nil _ _ _ _ _|exact Kd.N_nil _ _ _ _ _|exact Kd.V_nil _ _ _ _ _|exact Kd.Q_nil _ _ _ _ _|exact Kd.S_nil _ _ _ _ _⟩,⟨bM HB.out⟩⟩
 case round =>
  clear H'
  try clear c2
  try clear p2
  obtain ⟨x5_1,x10_1,rfl,HA,HK1,HO_5,HB⟩ := hrel
  cases gk with
 |zero => exact absurd HA.out (by simp [tree_Under.l0])
 |succ k1 =>
   have H := HA.out
   clear HA
   simp only [tree_Under.l0] at H
   by_cases c3 : x10_1 < (l0.length : Int)
   ·rw [if_pos c3] at H
    have c3b0 : decide (x10_1 < (l0.length : Int)) = true := decide_eq_true c3
    clear c3
    by_cases c4 : 0 ≤ x10_1
    ·rw [if_pos c4] at H
     have c4b0 : decide (0 ≤ x10_1) = true := decide_eq_true c4
     clear c4
     by_cases c5 : x10_1 < (l0.length : Int)
     ·rw [if_pos c5] at H
      have c5b0 : decide (x10_1 < (l0.length : Int)) = true := decide_eq_true c5
      clear c5
      replace H := Option.bind_eq_some_iff.mp H
      obtain ⟨t143,A60,H⟩ := H
      replace H : (if t143 = true then (if x5_1.length < 5864062014805 then (tree_Under.l0 k1 a1 (x5_1 ++ [(⟨(rd_T45 l0 x10_1).f0,(rd_T45 l0 x10_1).f1⟩ : S45)]) l0 (l0.length : Int) (wrap64 (x10_1 + 1))) else (none)) else (tree_Under.l0 k1 a1 x5_1 l0 (l0.length : Int) (wrap64 (x10_1 + 1)))) = some r := H
      have A6 := Aside0.mk A60
      clear A60
      by_cases c7 : t143 = true
      ·subst c7
       have H1 : (if x5_1.length < 5864062014805 then (tree_Under.l0 k1 a1 (x5_1 ++ [(⟨(rd_T45 l0 x10_1).f0,(rd_T45 l0 x10_1).f1⟩ : S45)]) l0 (l0.length : Int) (wrap64 (x10_1 + 1))) else (none)) = some r := by rw [if_pos rfl] at H;exact H
       clear H
       have H := H1
       clear H1
       by_cases c8 : x5_1.length < 5864062014805
       ·rw [if_pos c8] at H
        have LMc8 := Aside0.mk c8
        clear c8
        obtain ⟨y144,hy144⟩ : ∃ y_ : List (S45),y_ = (x5_1 ++ [(⟨(rd_T45 l0 x10_1).f0,(rd_T45 l0 x10_1).f1⟩ : S45)]) := ⟨_,rfl⟩
        replace H : (tree_Under.l0 k1 a1 y144 l0 (l0.length : Int) (wrap64 (x10_1 + 1))) = some r := by first|(rw [hy144];with_reducible exact H)|(have H2_ := (Option.bind_some _ _).symm.trans H;rw [hy144];with_reducible exact H2_)|(have H2_ := (Option.bind_some _ _).symm.trans H;with_reducible exact H2_)|with_reducible exact H|(rw [hy144];exact H)|exact H
        have Ny144 := Aside0.mk hy144
        clear hy144
        have H' := Aside0.mk H
        clear H
        have p141 : 0 ≤ (x10_1 : Int) := of_decide_eq_true (by first|(with_reducible assumption)|assumption)
        have q141 : x10_1 < (l0.length : Int) := of_decide_eq_true (by first|(with_reducible assumption)|assumption)
        obtain ⟨ad141,e141,hx141_0,hx141_1⟩ := at_T45 HR0.out x10_1 p141 q141
        cases e141
        replace hx141_0 := (HB.out.cell (World.block_lt_of_cell? w _ hx141_0)).trans hx141_0
        replace hx141_1 := (HB.out.cell (World.block_lt_of_cell? w _ hx141_1)).trans hx141_1
        replace p141 := eq_true p141
        replace q141 := eq_true q141
        go_wp2_with (first|((with_reducible refine gate_dst (N := 7) rfl ?_);refine box_event ?hg (N := 7) ?hd (cs := #[.string (⟨#[]⟩ : ByteArray),.int .i64 0]) (t := 45) ?hr ?_;(case hd => rfl);(case hg => rfl);(case hr => first|(go_simp;done)|(go_simp;rfl));intro gb142 hg w9 hbox hb;have n0_ := Aside0.mk (Kd.R_below (Kd.R_elderB (rM HO_5.out) gb142 (Nat.le_of_eq hg.symm)) hb);have n1_ := Aside0.mk (below_step (bM HB.out) hb);have n2_ := Aside0.mk (hbox);have n3_ := Aside0.mk ((by rw [hg];exact (below_size (bM HB.out)) : w.heap.size ≤ gb142));have n4_ := Aside0.mk ((by rw [hg];exact (below_size (bM HB.out)) : w.heap.size ≤ gb142));clear HO_5;clear HB;have HO_5 := n0_;have HB := n1_;have BK142 := n2_;have GW142 := n3_;have GE142 := n4_;clear n0_ n1_ n2_ n3_ n4_;clear hb hbox hg;have hcz10_0 : w9.cell? ⟨gb142,0,none⟩ = some (.string (⟨#[]⟩ : ByteArray)) := (blk_cell BK142.out 0).trans rfl;have hcz10_1 : w9.cell? ⟨gb142,1,none⟩ = some (.int .i64 0) := (blk_cell BK142.out 1).trans rfl;have hfz10_0 := blk_frozen BK142.out 0;have hfz10_1 := blk_frozen BK142.out 1)|((with_reducible refine gate_callee (f := 32) rfl ?_);refine goesL_ (some 17) rfl rfl Tryd.func32 (by kernel_rfl) rfl #[.string ((rd_T45 l0 x10_1).f0),.string a1] rfl (by (try simp only [List.map_toArray,List.map_cons,List.map_nil]);first|done|rfl|(simp only [List.length_drop,List.length_take];rfl)) ?_;(with_reducible refine (glob_Under.calls ((rd_T45 l0 x10_1).f0) a1 true _ A6.out).mono ?_);rintro e w' ⟨rfl,⟨nd,rfl⟩⟩;refine ⟨_,rfl,?_⟩)|((with_reducible refine gate_builtin (b := .append) (xs := #[.tmp 18,.tmp 20]) rfl ?_);at_builtin;refine Kd.R_append k45 (w0 := w) w.heap.size rfl (.tmp 18) (.tmp 20) 22 45 (.agg #[(.string ⟨#[]⟩),(.int .i64 0)]) 24 rfl Tryd.underlying22 info45 rfl (by decide) (by omega) u5 x5_1 (⟨(rd_T45 l0 x10_1).f0,(rd_T45 l0 x10_1).f1⟩ : S45) [.string ((rd_T45 l0 x10_1).f0),.int .i64 ((rd_T45 l0 x10_1).f1)] (fun k_ => k_ ≠ gb142) (fun _ => False) rfl (by first|(go_simp;done)|(go_simp;rfl)) ?aP (fun _ hk => hk.elim) ?aF ?aO ?aB ?aS ?aL ?_;(case aP => exact k45_mkM _ _ _ (⟨(rd_T45 l0 x10_1).f0,(rd_T45 l0 x10_1).f1⟩ : S45));(case aB => exact (by repeat (first|(with_reducible first|exact HB.out|apply below_alloc|apply pw_below_drewN|apply below_drew1|refine below_set ?_ GE142.out)|exact HB.out)));(case aF => exact (fun k_ hk => Kd.freshB (g := gb142) (o := .cells #[.string ((rd_T45 l0 x10_1).f0),.int .i64 ((rd_T45 l0 x10_1).f1)] 45 (0,0)) (by (with_reducible repeat (first|refine blk_drewN ?_ _|refine blk_drew ?_|refine blk_alloc ?_ _));refine blk_put (cs := #[.string ((rd_T45 l0 x10_1).f0),.int .i64 0]) ?_ 1 _ rfl;(with_reducible repeat (first|refine blk_drewN ?_ _|refine blk_drew ?_|refine blk_alloc ?_ _));refine blk_put (cs := #[.string (⟨#[]⟩ : ByteArray),.int .i64 0]) ?_ 0 _ rfl;(with_reducible repeat (first|refine blk_drewN ?_ _|refine blk_drew ?_|refine blk_alloc ?_ _));exact BK142.out) k_ hk));(case aO => exact (by (with_reducible repeat (first|apply Kd.R_alloc|apply Kd.R_drewN|apply Kd.R_drew));exact Kd.R_mono (Kd.R_far (p := ⟨gb142,1,none⟩) (Kd.R_far (p := ⟨gb142,0,none⟩) (Kd.R_mono HO_5.out (fun k_ hk => (⟨hk,hk.2⟩ : _ ∧ k_ ≠ gb142))) (fun _ hk => hk.2) (.string ((rd_T45 l0 x10_1).f0))) (fun _ hk => hk.2) (.int .i64 ((rd_T45 l0 x10_1).f1))) (fun _ hk => hk.1.2)));(case aS => exact (below_size (by repeat (first|(with_reducible first|exact HB.out|apply below_alloc|apply pw_below_drewN|apply below_drew1|refine below_set ?_ GE142.out)|exact HB.out))));(case aL => have := LMc8.out;omega);intro v145 w11 ho hb hg hat;rw [← Ny144.out] at ho;have n0_ := Aside0.mk (blk_grown (g := gb142) (o := .cells #[.string ((rd_T45 l0 x10_1).f0),.int .i64 ((rd_T45 l0 x10_1).f1)] 45 (0,0)) (by (with_reducible repeat (first|refine blk_drewN ?_ _|refine blk_drew ?_|refine blk_alloc ?_ _));refine blk_put (cs := #[.string ((rd_T45 l0 x10_1).f0),.int .i64 0]) ?_ 1 _ rfl;(with_reducible repeat (first|refine blk_drewN ?_ _|refine blk_drew ?_|refine blk_alloc ?_ _));refine blk_put (cs := #[.string (⟨#[]⟩ : ByteArray),.int .i64 0]) ?_ 0 _ rfl;(with_reducible repeat (first|refine blk_drewN ?_ _|refine blk_drew ?_|refine blk_alloc ?_ _));exact BK142.out) hg (Kd.R_away HO_5.out (fun _ hk => hk.2)));have n1_ := Aside0.mk (hb);have n2_ := Aside0.mk (ho);clear BK142;clear HB;clear HO_5;have BK142 := n0_;have HB := n1_;have HO146 := n2_;clear n0_ n1_ n2_;clear ho hb hg hat))
        go_roundg k1
        case measure => have := HK1.out;omega
        case rel => exact ⟨(y144),(wrap64 (x10_1 + 1)),(by first|rfl|(simp;done)|(simp [*];done)),H',⟨by have := HK1.out;omega⟩,⟨rM (Kd.R_mono HO146.out (fun _ hk => trivial))⟩,⟨by repeat (first|(with_reducible first|exact HB.out|apply below_alloc|apply pw_below_drewN|apply below_drew1|refine below_set ?_ GE142.out)|exact HB.out)⟩⟩
       ·rw [if_neg c8] at H
        exact absurd H (by simp)
      ·replace c7 := Bool.eq_false_iff.mpr c7
       subst c7
       have H1 : (tree_Under.l0 k1 a1 x5_1 l0 (l0.length : Int) (wrap64 (x10_1 + 1))) = some r := by rw [if_neg (show ¬ (false = true) by decide)] at H;exact H
       clear H
       have H := H1
       clear H1
       have H' := Aside0.mk H
       clear H
       have p141 : 0 ≤ (x10_1 : Int) := of_decide_eq_true (by first|(with_reducible assumption)|assumption)
       have q141 : x10_1 < (l0.length : Int) := of_decide_eq_true (by first|(with_reducible assumption)|assumption)
       obtain ⟨ad141,e141,hx141_0,hx141_1⟩ := at_T45 HR0.out x10_1 p141 q141
       cases e141
       replace hx141_0 := (HB.out.cell (World.block_lt_of_cell? w _ hx141_0)).trans hx141_0
       replace hx141_1 := (HB.out.cell (World.block_lt_of_cell? w _ hx141_1)).trans hx141_1
       replace p141 := eq_true p141
       replace q141 := eq_true q141
       go_wp2_with (first|((with_reducible refine gate_dst (N := 7) rfl ?_);refine box_event ?hg (N := 7) ?hd (cs := #[.string (⟨#[]⟩ : ByteArray),.int .i64 0]) (t := 45) ?hr ?_;(case hd => rfl);(case hg => rfl);(case hr => first|(go_simp;done)|(go_simp;rfl));intro gb142 hg w12 hbox hb;have n0_ := Aside0.mk (Kd.R_below (Kd.R_elderB (rM HO_5.out) gb142 (Nat.le_of_eq hg.symm)) hb);have n1_ := Aside0.mk (below_step (bM HB.out) hb);have n2_ := Aside0.mk (hbox);have n3_ := Aside0.mk ((by rw [hg];exact (below_size (bM HB.out)) : w.heap.size ≤ gb142));have n4_ := Aside0.mk ((by rw [hg];exact (below_size (bM HB.out)) : w.heap.size ≤ gb142));clear HO_5;clear HB;have HO_5 := n0_;have HB := n1_;have BK142 := n2_;have GW142 := n3_;have GE142 := n4_;clear n0_ n1_ n2_ n3_ n4_;clear hb hbox hg;have hcz13_0 : w12.cell? ⟨gb142,0,none⟩ = some (.string (⟨#[]⟩ : ByteArray)) := (blk_cell BK142.out 0).trans rfl;have hcz13_1 : w12.cell? ⟨gb142,1,none⟩ = some (.int .i64 0) := (blk_cell BK142.out 1).trans rfl;have hfz13_0 := blk_frozen BK142.out 0;have hfz13_1 := blk_frozen BK142.out 1)|((with_reducible refine gate_callee (f := 32) rfl ?_);refine goesL_ (some 17) rfl rfl Tryd.func32 (by kernel_rfl) rfl #[.string ((rd_T45 l0 x10_1).f0),.string a1] rfl (by (try simp only [List.map_toArray,List.map_cons,List.map_nil]);first|done|rfl|(simp only [List.length_drop,List.length_take];rfl)) ?_;(with_reducible refine (glob_Under.calls ((rd_T45 l0 x10_1).f0) a1 false _ A6.out).mono ?_);rintro e w' ⟨rfl,⟨nd,rfl⟩⟩;refine ⟨_,rfl,?_⟩))
       go_roundg k1
       case measure => have := HK1.out;omega
       case rel => exact ⟨(x5_1),(wrap64 (x10_1 + 1)),(by first|rfl|(simp;done)|(simp [*];done)),H',⟨by have := HK1.out;omega⟩,⟨by (with_reducible repeat (first|apply Kd.R_alloc|apply Kd.R_drewN|apply Kd.R_drew));exact Kd.R_mono (Kd.R_far (p := ⟨gb142,1,none⟩) (Kd.R_far (p := ⟨gb142,0,none⟩) (Kd.R_mono HO_5.out (fun k_ hk => (⟨hk,hk.2⟩ : _ ∧ k_ ≠ gb142))) (fun _ hk => hk.2) (.string ((rd_T45 l0 x10_1).f0))) (fun _ hk => hk.2) (.int .i64 ((rd_T45 l0 x10_1).f1))) (fun _ hk => trivial)⟩,⟨by repeat (first|(with_reducible first|exact HB.out|apply below_alloc|apply pw_below_drewN|apply below_drew1|refine below_set ?_ GE142.out)|exact HB.out)⟩⟩
     ·rw [if_neg c5] at H
      exact absurd H (by simp)
    ·rw [if_neg c4] at H
     exact absurd H (by simp)
   ·rw [if_neg c3] at H
    have c3b0 : decide (x10_1 < (l0.length : Int)) = false := decide_eq_false c3
    clear c3
    obtain rfl := Option.some.inj H
    go_wp2
    go_ret
    exact ⟨_,by first|rfl|(simp [errW_none,errW_some] <;> rfl)|(simp [*,errW_none,errW_some] <;> rfl),rM HO_5.out,bM HB.out⟩

/-! ### codesearchref01_Strings: function 25 -/
def codesearchref01_Strings.l0 : Nat → List ByteArray → List ByteArray → Int → Option (Bool)
|0,_,_,_ => none
|k + 1,x0,x1,x5 => if x5 < (x0.length : Int) then (if 0 ≤ x5 then (if x5 < (x1.length : Int) then (if (rdOf ByteArray.empty x0 x5).toList = (rdOf ByteArray.empty x1 x5).toList then (codesearchref01_Strings.l0 k x0 x1 (wrap64 (x5 + 1))) else (some false)) else (none)) else (none)) else (some true)
def codesearchref01_Strings.f (k : Nat) (l0 : List ByteArray) (l1 : List ByteArray) : Option (Bool) := if (l0.length : Int) = (l1.length : Int) then (codesearchref01_Strings.l0 k l0 l1 0) else (some false)
theorem codesearchref01_Strings.mono_l : ∀ k, (∀ y0 y1 y2, LeO (codesearchref01_Strings.l0 k y0 y1 y2) (codesearchref01_Strings.l0 (k + 1) y0 y1 y2))
|0 => fun _ _ _ r h => by simp [codesearchref01_Strings.l0] at h
|k + 1 => by
  have ih0 := codesearchref01_Strings.mono_l k
  ·intro y0 y1 y2
   unfold codesearchref01_Strings.l0
   repeat' first
  |(with_reducible exact ih0 _ _ _)
  |(with_reducible exact LeO.refl _)
  |(with_reducible exact LeO.none _)
  |(with_reducible refine LeO.ite ?_ ?_)
  |(with_reducible refine LeO.bind ?_ (fun _ => ?_))
  |exact ih0 _ _ _
  |exact LeO.none _
  |refine LeO.ite ?_ ?_
  |refine LeO.bind ?_ (fun _ => ?_)
theorem codesearchref01_Strings.mono : ∀ a0 a1 k, LeO (codesearchref01_Strings.f k a0 a1) (codesearchref01_Strings.f (k + 1) a0 a1) := by
 intro a0 a1 k
 have ih0 := codesearchref01_Strings.mono_l k
 unfold codesearchref01_Strings.f
 repeat' first
  |(with_reducible exact ih0 _ _ _)
  |(with_reducible exact LeO.refl _)
  |(with_reducible exact LeO.none _)
  |(with_reducible refine LeO.ite ?_ ?_)
  |(with_reducible refine LeO.bind ?_ (fun _ => ?_))
  |exact ih0 _ _ _
  |exact LeO.none _
  |refine LeO.ite ?_ ?_
  |refine LeO.bind ?_ (fun _ => ?_)
set_option maxHeartbeats 4000000 in
set_option maxRecDepth 100000 in
theorem codesearchref01_Strings.calls (k : Nat) (A0 : Option Addr) (c0 : Nat) (l0 : List ByteArray) (A1 : Option Addr) (c1 : Nat) (l1 : List ByteArray) (r : Bool) (w : World) (hr0 : Kd.C Kd.string w A0 l0.length l0) (hc0 : l0.length ≤ c0) (hr1 : Kd.C Kd.string w A1 l1.length l1) (hc1 : l1.length ≤ c1) (h : codesearchref01_Strings.f k l0 l1 = some r) :
  Calls Tryd.prog 25 #[.slice A0 l0.length c0,.slice A1 l1.length c1] w fun e w' => e = .returned (.bool r) ∧ Drawn0 w w' := by
 have HR0 := Aside0.mk hr0
 have HC0 := Aside0.mk hc0
 clear hr0 hc0
 have HR1 := Aside0.mk hr1
 have HC1 := Aside0.mk hc1
 clear hr1 hc1
 have H : (if (l0.length : Int) = (l1.length : Int) then (codesearchref01_Strings.l0 k l0 l1 0) else (some false)) = some r := h
 clear h
 by_cases c3 : (l0.length : Int) = (l1.length : Int)
 ·rw [if_pos c3] at H
  have c3b0 : ((l0.length : Int) == (l1.length : Int)) = true := beq_iff_eq.mpr c3
  have c3b1 : ((l0.length : Int) != (l1.length : Int)) = false := bne_eq_false_iff_eq.mpr c3
  have c3b2 : (l0.length == l1.length) = true := by first|simpa using c3|(simp at c3 ⊢;omega)
  clear c3
  have H' := Aside0.mk H
  clear H
  go_enter Tryd.func25,Tryd.ntmps25
  go_wp2
  repeat (go_quiet (fail);try go_wp2)
  go_loopg [5] k (fun kq v5 w' => ∃ (x5_1 : Int),v5 = .int .i64 x5_1 ∧ Aside0 (codesearchref01_Strings.l0 kq l0 l1 x5_1 = some r) ∧ Aside0 (kq ≤ k) ∧ Drawn0 w w')
  case atStart => exact ⟨(0),(by first|rfl|(simp;done)|(simp [*];done)),H',⟨Nat.le_refl _⟩,by repeat (first|exact Drawn0.refl _|apply Drawn0.step)⟩
  case round =>
   clear H'
   try clear c1
   try clear c2
   try clear p2
   try clear c3
   try clear c3b0
   try clear c3b1
   try clear c3b2
   obtain ⟨x5_1,rfl,HA,HK1,⟨m1,rfl⟩⟩ := hrel
   cases gk with
  |zero => exact absurd HA.out (by simp [codesearchref01_Strings.l0])
  |succ k1 =>
    have H := HA.out
    clear HA
    simp only [codesearchref01_Strings.l0] at H
    by_cases c4 : x5_1 < (l0.length : Int)
    ·rw [if_pos c4] at H
     have c4b0 : decide (x5_1 < (l0.length : Int)) = true := decide_eq_true c4
     clear c4
     by_cases c5 : 0 ≤ x5_1
     ·rw [if_pos c5] at H
      have c5b0 : decide (0 ≤ x5_1) = true := decide_eq_true c5
      clear c5
      by_cases c6 : x5_1 < (l1.length : Int)
      ·rw [if_pos c6] at H
       have c6b0 : decide (x5_1 < (l1.length : Int)) = true := decide_eq_true c6
       clear c6
       by_cases c7 : (rdOf ByteArray.empty l0 x5_1).toList = (rdOf ByteArray.empty l1 x5_1).toList
       ·rw [if_pos c7] at H
        have c7b0 : ((rdOf ByteArray.empty l0 x5_1).toList == (rdOf ByteArray.empty l1 x5_1).toList) = true := beq_iff_eq.mpr c7
        have c7b1 : ((rdOf ByteArray.empty l0 x5_1).toList != (rdOf ByteArray.empty l1 x5_1).toList) = false := bne_eq_false_iff_eq.mpr c7
        clear c7
        have H' := Aside0.mk H
        clear H
        have p147 : 0 ≤ (x5_1 : Int) := of_decide_eq_true (by first|(with_reducible assumption)|assumption)
        have q147 : x5_1 < (l0.length : Int) := of_decide_eq_true (by first|(with_reducible assumption)|assumption)
        obtain ⟨ad147,e147,hx147_0⟩ := Kd.at_string HR0.out x5_1 p147 q147
        cases e147
        replace p147 := eq_true p147
        replace q147 := eq_true q147
        have p148 : 0 ≤ (x5_1 : Int) := of_decide_eq_true (by first|(with_reducible assumption)|assumption)
        have q148 : x5_1 < (l1.length : Int) := of_decide_eq_true (by first|(with_reducible assumption)|assumption)
        obtain ⟨ad148,e148,hx148_0⟩ := Kd.at_string HR1.out x5_1 p148 q148
        cases e148
        replace p148 := eq_true p148
        replace q148 := eq_true q148
        go_wp2
        repeat (go_quiet (fail);try go_wp2)
        go_roundg k1
        case measure => have := HK1.out;omega
        case rel => exact ⟨(wrap64 (x5_1 + 1)),(by first|rfl|(simp;done)|(simp [*];done)),H',⟨by have := HK1.out;omega⟩,by repeat (first|exact Drawn0.refl _|apply Drawn0.step)⟩
       ·rw [if_neg c7] at H
        have c7b0 : ((rdOf ByteArray.empty l0 x5_1).toList == (rdOf ByteArray.empty l1 x5_1).toList) = false := beq_eq_false_iff_ne.mpr c7
        have c7b1 : ((rdOf ByteArray.empty l0 x5_1).toList != (rdOf ByteArray.empty l1 x5_1).toList) = true := bne_iff_ne.mpr c7
        obtain rfl := Option.some.inj H
        have p147 : 0 ≤ (x5_1 : Int) := of_decide_eq_true (by first|(with_reducible assumption)|assumption)
        have q147 : x5_1 < (l0.length : Int) := of_decide_eq_true (by first|(with_reducible assumption)|assumption)
        obtain ⟨ad147,e147,hx147_0⟩ := Kd.at_string HR0.out x5_1 p147 q147
        cases e147
        replace p147 := eq_true p147
        replace q147 := eq_true q147
        have p148 : 0 ≤ (x5_1 : Int) := of_decide_eq_true (by first|(with_reducible assumption)|assumption)
        have q148 : x5_1 < (l1.length : Int) := of_decide_eq_true (by first|(with_reducible assumption)|assumption)
        obtain ⟨ad148,e148,hx148_0⟩ := Kd.at_string HR1.out x5_1 p148 q148
        cases e148
        replace p148 := eq_true p148
        replace q148 := eq_true q148
        go_wp2
        repeat (go_quiet (fail);try go_wp2)
        go_ret
        exact ⟨by first|rfl|(simp;done)|(simp [*];done),by repeat (first|exact Drawn0.refl _|apply Drawn0.step)⟩
      ·rw [if_neg c6] at H
       exact absurd H (by simp)
     ·rw [if_neg c5] at H
      exact absurd H (by simp)
    ·rw [if_neg c4] at H
     have c4b0 : decide (x5_1 < (l0.length : Int)) = false := decide_eq_false c4
     clear c4
     obtain rfl := Option.some.inj H
     go_wp2
     repeat (go_quiet (fail);try go_wp2)
     go_ret
     exact ⟨by first|rfl|(simp;done)|(simp [*];done),by repeat (first|exact Drawn0.refl _|apply Drawn0.step)⟩
 ·rw [if_neg c3] at H
  have c3b0 : ((l0.length : Int) == (l1.length : Int)) = false := beq_eq_false_iff_ne.mpr c3
  have c3b1 : ((l0.length : Int) != (l1.length : Int)) = true := bne_iff_ne.mpr c3
  have c3b2 : (l0.length == l1.length) = false := by first|simpa using c3|(simp at c3 ⊢;omega)
  obtain rfl := Option.some.inj H
  go_enter Tryd.func25,Tryd.ntmps25
  go_wp2
  repeat (go_quiet (fail);try go_wp2)
  go_ret
  exact ⟨by first|rfl|(simp;done)|(simp [*];done),by repeat (first|exact Drawn0.refl _|apply Drawn0.step)⟩

/-! ### stringslite_Cut: function 49 -/
def stringslite_Cut.f (a0 : ByteArray) (a1 : ByteArray) : Option (ByteArray × ByteArray × Bool) := (stringslite_Index.f a0 a1).bind fun t149 => (if t149 ≥ 0 then (if 0 ≤ t149 then (if t149 ≤ (a0.size : Int) then (if 0 ≤ (wrap64 (t149 + (a1.size : Int))) then (if (wrap64 (t149 + (a1.size : Int))) ≤ (a0.size : Int) then (some (a0.extract 0 (t149 : Int).toNat, a0.extract ((wrap64 (t149 + (a1.size : Int))) : Int).toNat a0.size, true)) else (none)) else (none)) else (none)) else (none)) else (some (a0, (⟨#[]⟩ : ByteArray), false)))
set_option maxHeartbeats 4000000 in
set_option maxRecDepth 100000 in
theorem stringslite_Cut.calls (a0 : ByteArray) (a1 : ByteArray) (r1 : ByteArray) (r2 : ByteArray) (r3 : Bool) (w : World) (h : stringslite_Cut.f a0 a1 = some (r1, r2, r3)) :
  Calls Tryd.prog 49 #[.string a0,.string a1] w fun e w' => e = .returned (.tuple #[.string r1,.string r2,.bool r3]) ∧ Drawn0 w w' := by
 have H : ((stringslite_Index.f a0 a1).bind fun t149 => (if t149 ≥ 0 then (if 0 ≤ t149 then (if t149 ≤ (a0.size : Int) then (if 0 ≤ (wrap64 (t149 + (a1.size : Int))) then (if (wrap64 (t149 + (a1.size : Int))) ≤ (a0.size : Int) then (some (a0.extract 0 (t149 : Int).toNat,a0.extract ((wrap64 (t149 + (a1.size : Int))) : Int).toNat a0.size,true)) else (none)) else (none)) else (none)) else (none)) else (some (a0,(⟨#[]⟩ : ByteArray),false)))) = some (r1,r2,r3) := h
 clear h
 replace H := Option.bind_eq_some_iff.mp H
 obtain ⟨t149,A30,H⟩ := H
 replace H : (if t149 ≥ 0 then (if 0 ≤ t149 then (if t149 ≤ (a0.size : Int) then (if 0 ≤ (wrap64 (t149 + (a1.size : Int))) then (if (wrap64 (t149 + (a1.size : Int))) ≤ (a0.size : Int) then (some (a0.extract 0 (t149 : Int).toNat,a0.extract ((wrap64 (t149 + (a1.size : Int))) : Int).toNat a0.size,true)) else (none)) else (none)) else (none)) else (none)) else (some (a0,(⟨#[]⟩ : ByteArray),false))) = some (r1,r2,r3) := H
 have A3 := Aside0.mk A30
 clear A30
 by_cases c4 : t149 ≥ 0
 ·rw [if_pos c4] at H
  have c4b0 : decide (0 ≤ t149) = true := decide_eq_true c4
  clear c4
  by_cases c5 : 0 ≤ t149
  ·rw [if_pos c5] at H
   have c5b0 := eq_true c5
   have c5b1 : decide (0 ≤ t149) = true := decide_eq_true c5
   clear c5
   by_cases c6 : t149 ≤ (a0.size : Int)
   ·rw [if_pos c6] at H
    have c6b0 := eq_true c6
    have c6b1 : decide (t149 ≤ (a0.size : Int)) = true := decide_eq_true c6
    clear c6
    obtain ⟨ji7,hji7⟩ : ∃ j_ : Int,(wrap64 (t149 + (a1.size : Int))) = j_ := ⟨_,rfl⟩
    replace H : (if 0 ≤ (ji7) then (if (ji7) ≤ (a0.size : Int) then (some (a0.extract 0 (t149 : Int).toNat,a0.extract ((ji7) : Int).toNat a0.size,true)) else (none)) else (none)) = some (r1,r2,r3) := by first|(rw [hji7] at H;exact H)|(simp only [hji7] at H ⊢;exact H)
    (try rw [hji7] at A3)
    have hji7w : (IntKind.i64.wrap (t149 + (a1.size : Int))) = ji7 := (i64_w _).trans hji7
    by_cases c8 : 0 ≤ (ji7)
    ·rw [if_pos c8] at H
     have c8b0 := eq_true c8
     have c8b1 : decide (0 ≤ (ji7)) = true := decide_eq_true c8
     clear c8
     by_cases c9 : (ji7) ≤ (a0.size : Int)
     ·rw [if_pos c9] at H
      have c9b0 := eq_true c9
      have c9b1 : decide ((ji7) ≤ (a0.size : Int)) = true := decide_eq_true c9
      clear c9
      simp only [Option.some.injEq,Prod.mk.injEq] at H
      obtain ⟨rfl,rfl,rfl⟩ := H
      go_enter Tryd.func49,Tryd.ntmps49
      go_wp2_with (first|(go_at_call 56;(with_reducible refine (stringslite_Index.calls a0 a1 t149 _ A3.out).mono ?_);rintro e w' ⟨rfl,⟨nd,rfl⟩⟩;(try first|exact ⟨rfl,_,World.drewN_drewN _ _ _⟩|exact ⟨rfl,_,Eq.trans (World.drewN_drewN _ _ _) (congrArg (World.drewN _) (Nat.add_assoc _ _ _))⟩)))
      repeat (go_quiet (first|(go_at_call 56;(with_reducible refine (stringslite_Index.calls a0 a1 t149 _ A3.out).mono ?_);rintro e w' ⟨rfl,⟨nd,rfl⟩⟩;(try first|exact ⟨rfl,_,World.drewN_drewN _ _ _⟩|exact ⟨rfl,_,Eq.trans (World.drewN_drewN _ _ _) (congrArg (World.drewN _) (Nat.add_assoc _ _ _))⟩)));try go_wp2_with (first|(go_at_call 56;(with_reducible refine (stringslite_Index.calls a0 a1 t149 _ A3.out).mono ?_);rintro e w' ⟨rfl,⟨nd,rfl⟩⟩;(try first|exact ⟨rfl,_,World.drewN_drewN _ _ _⟩|exact ⟨rfl,_,Eq.trans (World.drewN_drewN _ _ _) (congrArg (World.drewN _) (Nat.add_assoc _ _ _))⟩))))
      go_ret3
      exact ⟨by first|rfl|(simp;done)|(rw [Int.tdiv_eq_ediv_of_nonneg (by assumption)];done)|(rw [Int.tmod_eq_emod_of_nonneg (by assumption)];done)|(simp only [← hji7] <;> (first|rfl|simp))|(simp [*];done),by repeat (first|exact Drawn0.refl _|apply Drawn0.step)⟩
     ·rw [if_neg c9] at H
      exact absurd H (by simp)
    ·rw [if_neg c8] at H
     exact absurd H (by simp)
   ·rw [if_neg c6] at H
    exact absurd H (by simp)
  ·rw [if_neg c5] at H
   exact absurd H (by simp)
 ·rw [if_neg c4] at H
  have c4b0 : decide (0 ≤ t149) = false := decide_eq_false c4
  clear c4
  simp only [Option.some.injEq,Prod.mk.injEq] at H
  obtain ⟨rfl,rfl,rfl⟩ := H
  go_enter Tryd.func49,Tryd.ntmps49
  go_wp2_with (first|(go_at_call 56;(with_reducible refine (stringslite_Index.calls a0 a1 t149 _ A3.out).mono ?_);rintro e w' ⟨rfl,⟨nd,rfl⟩⟩;(try first|exact ⟨rfl,_,World.drewN_drewN _ _ _⟩|exact ⟨rfl,_,Eq.trans (World.drewN_drewN _ _ _) (congrArg (World.drewN _) (Nat.add_assoc _ _ _))⟩)))
  repeat (go_quiet (first|(go_at_call 56;(with_reducible refine (stringslite_Index.calls a0 a1 t149 _ A3.out).mono ?_);rintro e w' ⟨rfl,⟨nd,rfl⟩⟩;(try first|exact ⟨rfl,_,World.drewN_drewN _ _ _⟩|exact ⟨rfl,_,Eq.trans (World.drewN_drewN _ _ _) (congrArg (World.drewN _) (Nat.add_assoc _ _ _))⟩)));try go_wp2_with (first|(go_at_call 56;(with_reducible refine (stringslite_Index.calls a0 a1 t149 _ A3.out).mono ?_);rintro e w' ⟨rfl,⟨nd,rfl⟩⟩;(try first|exact ⟨rfl,_,World.drewN_drewN _ _ _⟩|exact ⟨rfl,_,Eq.trans (World.drewN_drewN _ _ _) (congrArg (World.drewN _) (Nat.add_assoc _ _ _))⟩))))
  go_ret3
  exact ⟨by first|rfl|(simp;done)|(simp [*];done),by repeat (first|exact Drawn0.refl _|apply Drawn0.step)⟩

/-! ### strings_Cut: function 42 -/
def strings_Cut.f (a0 : ByteArray) (a1 : ByteArray) : Option (ByteArray × ByteArray × Bool) := (stringslite_Cut.f a0 a1).bind fun bt150 => (some (bt150.1, bt150.2.1, bt150.2.2))
set_option maxHeartbeats 4000000 in
set_option maxRecDepth 100000 in
theorem strings_Cut.calls (a0 : ByteArray) (a1 : ByteArray) (r1 : ByteArray) (r2 : ByteArray) (r3 : Bool) (w : World) (h : strings_Cut.f a0 a1 = some (r1, r2, r3)) :
  Calls Tryd.prog 42 #[.string a0,.string a1] w fun e w' => e = .returned (.tuple #[.string r1,.string r2,.bool r3]) ∧ Drawn0 w w' := by
 have H : ((stringslite_Cut.f a0 a1).bind fun bt150 => (some (bt150.1,bt150.2.1,bt150.2.2))) = some (r1,r2,r3) := h
 clear h
 replace H := Option.bind_eq_some_iff.mp H
 obtain ⟨⟨t150,t151,t152⟩,A30,H⟩ := H
 replace H : (some (t150,t151,t152)) = some (r1,r2,r3) := H
 have A3 := Aside0.mk A30
 clear A30
 simp only [Option.some.injEq,Prod.mk.injEq] at H
 obtain ⟨rfl,rfl,rfl⟩ := H
 go_enter Tryd.func42,Tryd.ntmps42
 go_wp2_with (first|((with_reducible refine gate_callee (f := 49) rfl ?_);refine goesL_ (some 9) rfl rfl Tryd.func49 (by kernel_rfl) rfl #[.string a0,.string a1] rfl (by (try simp only [List.map_toArray,List.map_cons,List.map_nil]);first|done|rfl|(simp only [List.length_drop,List.length_take];rfl)) ?_;(with_reducible refine (stringslite_Cut.calls a0 a1 t150 t151 t152 _ A3.out).mono ?_);rintro e w' ⟨rfl,⟨nd,rfl⟩⟩;refine ⟨_,rfl,?_⟩))
 go_ret3
 exact ⟨by first|rfl|(simp;done)|(simp [*];done),by repeat (first|exact Drawn0.refl _|apply Drawn0.step)⟩

end Go.Proofs.YtpnhamfodjfacaaDoor.N
