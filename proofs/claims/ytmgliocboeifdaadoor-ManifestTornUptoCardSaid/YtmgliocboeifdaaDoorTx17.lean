-- Written by hp.py, a program of this session, over the kit's print of the translation. Not trusted: Lean checks it.
import Derived.Test.YtmgliocboeifdaaDoorTx0
import Derived.Test.YtmgliocboeifdaaDoorTx16
namespace Go.Proofs.YtmgliocboeifdaaDoor.T
open Go.RowKit Go.Proofs.YtmgliocboeifdaaDoorW.PrintWords Go.Proofs.YtmgliocboeifdaaDoorW.PrintLast Go.Proofs.YtmgliocboeifdaaDoorW.PrintMore
attribute [local go_sem] max2_int min2_int max_two min_two max_three min_three max_four min_four   -- for this text's walks alone
set_option linter.unusedVariables false
set_option linter.unusedSimpArgs false

/-! ### codesearchlaw33_plain: function 14 -/
def codesearchlaw33_plain.l0 : Nat → List (S37) → Int → Option (Bool)
|0,_,_ => none
|k + 1,x0,x3 => if x3 < (x0.length : Int) then (if 0 ≤ x3 then (if ((rd_T37 x0 x3).f0) = (wrap64 (x3 + 1)) then (if ((rd_T37 x0 x3).f1) < 0 then (some false) else (if ((rd_T37 x0 x3).f2) < 0 then (some false) else (if ((rd_T37 x0 x3).f1) > 4611686018427387904 then (some false) else (if ((rd_T37 x0 x3).f2) > 4611686018427387904 then (some false) else ((codesearchlaw33_rising.f k ((rd_T37 x0 x3).f3)).bind fun t457 => (if t457 = true then ((codesearchlaw33_rising.f k ((rd_T37 x0 x3).f4)).bind fun t459 => (if t459 = true then (codesearchlaw33_plain.l0 k x0 (wrap64 (x3 + 1))) else (some false))) else (some false))))))) else (some false)) else (none)) else (some true)
def codesearchlaw33_plain.f (k : Nat) (l0 : List (S37)) : Option (Bool) := codesearchlaw33_plain.l0 k l0 0
theorem codesearchlaw33_plain.mono_l : ∀ k, (∀ y0 y1, LeO (codesearchlaw33_plain.l0 k y0 y1) (codesearchlaw33_plain.l0 (k + 1) y0 y1))
|0 => fun _ _ r h => by simp [codesearchlaw33_plain.l0] at h
|k + 1 => by
  have ih0 := codesearchlaw33_plain.mono_l k
  ·intro y0 y1
   unfold codesearchlaw33_plain.l0
   repeat' (with_reducible first|exact ih0 _ _|exact codesearchlaw33_rising.mono _ _|exact LeO.refl _|exact LeO.none _|refine LeO.ite ?_ ?_|refine LeO.bind ?_ (fun _ => ?_))
theorem codesearchlaw33_plain.mono : ∀ a0 k, LeO (codesearchlaw33_plain.f k a0) (codesearchlaw33_plain.f (k + 1) a0) := by
 intro a0 k
 have ih0 := codesearchlaw33_plain.mono_l k
 unfold codesearchlaw33_plain.f
 repeat' first
  |(with_reducible exact ih0 _ _)
  |(with_reducible exact codesearchlaw33_rising.mono _ _)
  |(with_reducible exact LeO.refl _)
  |(with_reducible exact LeO.none _)
  |(with_reducible refine LeO.ite ?_ ?_)
  |(with_reducible refine LeO.bind ?_ (fun _ => ?_))
  |exact ih0 _ _
  |exact codesearchlaw33_rising.mono _ _
  |exact LeO.none _
  |refine LeO.ite ?_ ?_
  |refine LeO.bind ?_ (fun _ => ?_)
set_option maxHeartbeats 4000000 in
set_option maxRecDepth 100000 in
theorem codesearchlaw33_plain.calls (k : Nat) (A0 : Option Addr) (c0 : Nat) (l0 : List (S37)) (r : Bool) (w : World) (hr0 : Kd.C k37 w A0 l0.length l0) (hc0 : l0.length ≤ c0) (h : codesearchlaw33_plain.f k l0 = some r) :
  Calls Tryd.prog 14 #[.slice A0 l0.length c0] w fun e w' => e = .returned (.bool r) ∧ Drawn0 w w' := by
 have HR0 := aK hr0
 have HC0 := aK hc0
 clear hr0 hc0
 have H : (codesearchlaw33_plain.l0 k l0 0) = some r := h
 clear h
 have H' := aK H
 clear H
 go_enter Tryd.func14,Tryd.ntmps14
 go_wp2
 go_loopg [3] k (fun kq v3 w' => ∃ (x3_1 : Int),v3 = .int .i64 x3_1 ∧ Aside0 (codesearchlaw33_plain.l0 kq l0 x3_1 = some r) ∧ Aside0 (kq ≤ k) ∧ Drawn0 w w')
 case atStart => exact ⟨(0),(by first|rfl|(simp;done)|(simp [*];done)),H',⟨Nat.le_refl _⟩,by repeat (first|exact Drawn0.refl _|apply Drawn0.step)⟩
 case round =>
  clear H'
  obtain ⟨x3_1,rfl,HA,HK1,⟨m1,rfl⟩⟩ := hrel
  cases gk with
 |zero => exact absurd HA.out (by simp [codesearchlaw33_plain.l0])
 |succ k1 =>
   have H := HA.out
   clear HA
   simp only [codesearchlaw33_plain.l0] at H
   by_cases c2 : x3_1 < (l0.length : Int)
   ·rw [if_pos c2] at H
    have c2b0 := decide_eq_true c2
    clear c2
    obtain ⟨c3,H⟩ := iS H
    have c3b0 := decide_eq_true c3
    clear c3
    by_cases c4 : ((rd_T37 l0 x3_1).f0) = (wrap64 (x3_1 + 1))
    ·rw [if_pos c4] at H
     have c4b0 := beq_iff_eq.mpr c4
     have c4b1 := bne_eq_false_iff_eq.mpr c4
     clear c4
     by_cases c5 : ((rd_T37 l0 x3_1).f1) < 0
     ·rw [if_pos c5] at H
      have c5b0 := decide_eq_true c5
      clear c5
      obtain rfl := Option.some.inj H
      have p451 : 0 ≤ (x3_1 : Int) := of_decide_eq_true (by assumption)
      have q451 : x3_1 < (l0.length : Int) := of_decide_eq_true (by assumption)
      obtain ⟨ad451,A451_3,c451_3,A451_4,c451_4,A451_5,c451_5,e451,hx451_0,hx451_1,hx451_2,hx451_3,hx451_4,hx451_5,hl451_3,hi451_3,hl451_4,hi451_4,hl451_5,hi451_5⟩ := at_T37 HR0.out x3_1 p451 q451
      cases e451
      have HR451_3 := aK hi451_3
      have HC451_3 := aK hl451_3
      clear hi451_3 hl451_3
      have HR451_4 := aK hi451_4
      have HC451_4 := aK hl451_4
      clear hi451_4 hl451_4
      have HR451_5 := aK hi451_5
      have HC451_5 := aK hl451_5
      clear hi451_5 hl451_5
      replace p451 := eq_true p451
      replace q451 := eq_true q451
      have p452 : 0 ≤ (x3_1 : Int) := of_decide_eq_true (by assumption)
      have q452 : x3_1 < (l0.length : Int) := of_decide_eq_true (by assumption)
      obtain ⟨ad452,A452_3,c452_3,A452_4,c452_4,A452_5,c452_5,e452,hx452_0,hx452_1,hx452_2,hx452_3,hx452_4,hx452_5,hl452_3,hi452_3,hl452_4,hi452_4,hl452_5,hi452_5⟩ := at_T37 HR0.out x3_1 p452 q452
      obtain rfl : ad451 = ad452 := (by injection e452)
      have HR452_3 := aK hi452_3
      have HC452_3 := aK hl452_3
      clear hi452_3 hl452_3
      have HR452_4 := aK hi452_4
      have HC452_4 := aK hl452_4
      clear hi452_4 hl452_4
      have HR452_5 := aK hi452_5
      have HC452_5 := aK hl452_5
      clear hi452_5 hl452_5
      replace p452 := eq_true p452
      replace q452 := eq_true q452
      have ea_ := Option.some.inj (hx451_3.symm.trans hx452_3)
      injection ea_ with ea_ en_ ec_
      subst ea_
      subst ec_
      clear en_
      have ea_ := Option.some.inj (hx451_4.symm.trans hx452_4)
      injection ea_ with ea_ en_ ec_
      subst ea_
      subst ec_
      clear en_
      have ea_ := Option.some.inj (hx451_5.symm.trans hx452_5)
      injection ea_ with ea_ en_ ec_
      subst ea_
      subst ec_
      clear en_
      go_wp2
      go_ret
      exact ⟨by first|rfl|(simp;done)|(simp [*];done),by repeat (first|exact Drawn0.refl _|apply Drawn0.step)⟩
     ·rw [if_neg c5] at H
      have c5b0 := decide_eq_false c5
      clear c5
      by_cases c6 : ((rd_T37 l0 x3_1).f2) < 0
      ·rw [if_pos c6] at H
       have c6b0 := decide_eq_true c6
       clear c6
       obtain rfl := Option.some.inj H
       have p451 : 0 ≤ (x3_1 : Int) := of_decide_eq_true (by assumption)
       have q451 : x3_1 < (l0.length : Int) := of_decide_eq_true (by assumption)
       obtain ⟨ad451,A451_3,c451_3,A451_4,c451_4,A451_5,c451_5,e451,hx451_0,hx451_1,hx451_2,hx451_3,hx451_4,hx451_5,hl451_3,hi451_3,hl451_4,hi451_4,hl451_5,hi451_5⟩ := at_T37 HR0.out x3_1 p451 q451
       cases e451
       have HR451_3 := aK hi451_3
       have HC451_3 := aK hl451_3
       clear hi451_3 hl451_3
       have HR451_4 := aK hi451_4
       have HC451_4 := aK hl451_4
       clear hi451_4 hl451_4
       have HR451_5 := aK hi451_5
       have HC451_5 := aK hl451_5
       clear hi451_5 hl451_5
       replace p451 := eq_true p451
       replace q451 := eq_true q451
       have p452 : 0 ≤ (x3_1 : Int) := of_decide_eq_true (by assumption)
       have q452 : x3_1 < (l0.length : Int) := of_decide_eq_true (by assumption)
       obtain ⟨ad452,A452_3,c452_3,A452_4,c452_4,A452_5,c452_5,e452,hx452_0,hx452_1,hx452_2,hx452_3,hx452_4,hx452_5,hl452_3,hi452_3,hl452_4,hi452_4,hl452_5,hi452_5⟩ := at_T37 HR0.out x3_1 p452 q452
       obtain rfl : ad451 = ad452 := (by injection e452)
       have HR452_3 := aK hi452_3
       have HC452_3 := aK hl452_3
       clear hi452_3 hl452_3
       have HR452_4 := aK hi452_4
       have HC452_4 := aK hl452_4
       clear hi452_4 hl452_4
       have HR452_5 := aK hi452_5
       have HC452_5 := aK hl452_5
       clear hi452_5 hl452_5
       replace p452 := eq_true p452
       replace q452 := eq_true q452
       have ea_ := Option.some.inj (hx451_3.symm.trans hx452_3)
       injection ea_ with ea_ en_ ec_
       subst ea_
       subst ec_
       clear en_
       have ea_ := Option.some.inj (hx451_4.symm.trans hx452_4)
       injection ea_ with ea_ en_ ec_
       subst ea_
       subst ec_
       clear en_
       have ea_ := Option.some.inj (hx451_5.symm.trans hx452_5)
       injection ea_ with ea_ en_ ec_
       subst ea_
       subst ec_
       clear en_
       have p453 : 0 ≤ (x3_1 : Int) := of_decide_eq_true (by assumption)
       have q453 : x3_1 < (l0.length : Int) := of_decide_eq_true (by assumption)
       obtain ⟨ad453,A453_3,c453_3,A453_4,c453_4,A453_5,c453_5,e453,hx453_0,hx453_1,hx453_2,hx453_3,hx453_4,hx453_5,hl453_3,hi453_3,hl453_4,hi453_4,hl453_5,hi453_5⟩ := at_T37 HR0.out x3_1 p453 q453
       obtain rfl : ad451 = ad453 := (by injection e453)
       have HR453_3 := aK hi453_3
       have HC453_3 := aK hl453_3
       clear hi453_3 hl453_3
       have HR453_4 := aK hi453_4
       have HC453_4 := aK hl453_4
       clear hi453_4 hl453_4
       have HR453_5 := aK hi453_5
       have HC453_5 := aK hl453_5
       clear hi453_5 hl453_5
       replace p453 := eq_true p453
       replace q453 := eq_true q453
       have ea_ := Option.some.inj (hx451_3.symm.trans hx453_3)
       injection ea_ with ea_ en_ ec_
       subst ea_
       subst ec_
       clear en_
       have ea_ := Option.some.inj (hx451_4.symm.trans hx453_4)
       injection ea_ with ea_ en_ ec_
       subst ea_
       subst ec_
       clear en_
       have ea_ := Option.some.inj (hx451_5.symm.trans hx453_5)
       injection ea_ with ea_ en_ ec_
       subst ea_
       subst ec_
       clear en_
       go_wp2
       go_ret
       exact ⟨by first|rfl|(simp;done)|(simp [*];done),by repeat (first|exact Drawn0.refl _|apply Drawn0.step)⟩
      ·rw [if_neg c6] at H
       have c6b0 := decide_eq_false c6
       clear c6
       by_cases c7 : ((rd_T37 l0 x3_1).f1) > 4611686018427387904
       ·rw [if_pos c7] at H
        have c7b0 := decide_eq_true c7
        clear c7
        obtain rfl := Option.some.inj H
        have p451 : 0 ≤ (x3_1 : Int) := of_decide_eq_true (by assumption)
        have q451 : x3_1 < (l0.length : Int) := of_decide_eq_true (by assumption)
        obtain ⟨ad451,A451_3,c451_3,A451_4,c451_4,A451_5,c451_5,e451,hx451_0,hx451_1,hx451_2,hx451_3,hx451_4,hx451_5,hl451_3,hi451_3,hl451_4,hi451_4,hl451_5,hi451_5⟩ := at_T37 HR0.out x3_1 p451 q451
        cases e451
        have HR451_3 := aK hi451_3
        have HC451_3 := aK hl451_3
        clear hi451_3 hl451_3
        have HR451_4 := aK hi451_4
        have HC451_4 := aK hl451_4
        clear hi451_4 hl451_4
        have HR451_5 := aK hi451_5
        have HC451_5 := aK hl451_5
        clear hi451_5 hl451_5
        replace p451 := eq_true p451
        replace q451 := eq_true q451
        have p452 : 0 ≤ (x3_1 : Int) := of_decide_eq_true (by assumption)
        have q452 : x3_1 < (l0.length : Int) := of_decide_eq_true (by assumption)
        obtain ⟨ad452,A452_3,c452_3,A452_4,c452_4,A452_5,c452_5,e452,hx452_0,hx452_1,hx452_2,hx452_3,hx452_4,hx452_5,hl452_3,hi452_3,hl452_4,hi452_4,hl452_5,hi452_5⟩ := at_T37 HR0.out x3_1 p452 q452
        obtain rfl : ad451 = ad452 := (by injection e452)
        have HR452_3 := aK hi452_3
        have HC452_3 := aK hl452_3
        clear hi452_3 hl452_3
        have HR452_4 := aK hi452_4
        have HC452_4 := aK hl452_4
        clear hi452_4 hl452_4
        have HR452_5 := aK hi452_5
        have HC452_5 := aK hl452_5
        clear hi452_5 hl452_5
        replace p452 := eq_true p452
        replace q452 := eq_true q452
        have ea_ := Option.some.inj (hx451_3.symm.trans hx452_3)
        injection ea_ with ea_ en_ ec_
        subst ea_
        subst ec_
        clear en_
        have ea_ := Option.some.inj (hx451_4.symm.trans hx452_4)
        injection ea_ with ea_ en_ ec_
        subst ea_
        subst ec_
        clear en_
        have ea_ := Option.some.inj (hx451_5.symm.trans hx452_5)
        injection ea_ with ea_ en_ ec_
        subst ea_
        subst ec_
        clear en_
        have p453 : 0 ≤ (x3_1 : Int) := of_decide_eq_true (by assumption)
        have q453 : x3_1 < (l0.length : Int) := of_decide_eq_true (by assumption)
        obtain ⟨ad453,A453_3,c453_3,A453_4,c453_4,A453_5,c453_5,e453,hx453_0,hx453_1,hx453_2,hx453_3,hx453_4,hx453_5,hl453_3,hi453_3,hl453_4,hi453_4,hl453_5,hi453_5⟩ := at_T37 HR0.out x3_1 p453 q453
        obtain rfl : ad451 = ad453 := (by injection e453)
        have HR453_3 := aK hi453_3
        have HC453_3 := aK hl453_3
        clear hi453_3 hl453_3
        have HR453_4 := aK hi453_4
        have HC453_4 := aK hl453_4
        clear hi453_4 hl453_4
        have HR453_5 := aK hi453_5
        have HC453_5 := aK hl453_5
        clear hi453_5 hl453_5
        replace p453 := eq_true p453
        replace q453 := eq_true q453
        have ea_ := Option.some.inj (hx451_3.symm.trans hx453_3)
        injection ea_ with ea_ en_ ec_
        subst ea_
        subst ec_
        clear en_
        have ea_ := Option.some.inj (hx451_4.symm.trans hx453_4)
        injection ea_ with ea_ en_ ec_
        subst ea_
        subst ec_
        clear en_
        have ea_ := Option.some.inj (hx451_5.symm.trans hx453_5)
        injection ea_ with ea_ en_ ec_
        subst ea_
        subst ec_
        clear en_
        have p454 : 0 ≤ (x3_1 : Int) := of_decide_eq_true (by assumption)
        have q454 : x3_1 < (l0.length : Int) := of_decide_eq_true (by assumption)
        obtain ⟨ad454,A454_3,c454_3,A454_4,c454_4,A454_5,c454_5,e454,hx454_0,hx454_1,hx454_2,hx454_3,hx454_4,hx454_5,hl454_3,hi454_3,hl454_4,hi454_4,hl454_5,hi454_5⟩ := at_T37 HR0.out x3_1 p454 q454
        obtain rfl : ad451 = ad454 := (by injection e454)
        have HR454_3 := aK hi454_3
        have HC454_3 := aK hl454_3
        clear hi454_3 hl454_3
        have HR454_4 := aK hi454_4
        have HC454_4 := aK hl454_4
        clear hi454_4 hl454_4
        have HR454_5 := aK hi454_5
        have HC454_5 := aK hl454_5
        clear hi454_5 hl454_5
        replace p454 := eq_true p454
        replace q454 := eq_true q454
        have ea_ := Option.some.inj (hx451_3.symm.trans hx454_3)
        injection ea_ with ea_ en_ ec_
        subst ea_
        subst ec_
        clear en_
        have ea_ := Option.some.inj (hx451_4.symm.trans hx454_4)
        injection ea_ with ea_ en_ ec_
        subst ea_
        subst ec_
        clear en_
        have ea_ := Option.some.inj (hx451_5.symm.trans hx454_5)
        injection ea_ with ea_ en_ ec_
        subst ea_
        subst ec_
        clear en_
        go_wp2
        go_ret
        exact ⟨by first|rfl|(simp;done)|(simp [*];done),by repeat (first|exact Drawn0.refl _|apply Drawn0.step)⟩
       ·rw [if_neg c7] at H
        have c7b0 := decide_eq_false c7
        clear c7
        by_cases c8 : ((rd_T37 l0 x3_1).f2) > 4611686018427387904
        ·rw [if_pos c8] at H
         have c8b0 := decide_eq_true c8
         clear c8
         obtain rfl := Option.some.inj H
         have p451 : 0 ≤ (x3_1 : Int) := of_decide_eq_true (by assumption)
         have q451 : x3_1 < (l0.length : Int) := of_decide_eq_true (by assumption)
         obtain ⟨ad451,A451_3,c451_3,A451_4,c451_4,A451_5,c451_5,e451,hx451_0,hx451_1,hx451_2,hx451_3,hx451_4,hx451_5,hl451_3,hi451_3,hl451_4,hi451_4,hl451_5,hi451_5⟩ := at_T37 HR0.out x3_1 p451 q451
         cases e451
         have HR451_3 := aK hi451_3
         have HC451_3 := aK hl451_3
         clear hi451_3 hl451_3
         have HR451_4 := aK hi451_4
         have HC451_4 := aK hl451_4
         clear hi451_4 hl451_4
         have HR451_5 := aK hi451_5
         have HC451_5 := aK hl451_5
         clear hi451_5 hl451_5
         replace p451 := eq_true p451
         replace q451 := eq_true q451
         have p452 : 0 ≤ (x3_1 : Int) := of_decide_eq_true (by assumption)
         have q452 : x3_1 < (l0.length : Int) := of_decide_eq_true (by assumption)
         obtain ⟨ad452,A452_3,c452_3,A452_4,c452_4,A452_5,c452_5,e452,hx452_0,hx452_1,hx452_2,hx452_3,hx452_4,hx452_5,hl452_3,hi452_3,hl452_4,hi452_4,hl452_5,hi452_5⟩ := at_T37 HR0.out x3_1 p452 q452
         obtain rfl : ad451 = ad452 := (by injection e452)
         have HR452_3 := aK hi452_3
         have HC452_3 := aK hl452_3
         clear hi452_3 hl452_3
         have HR452_4 := aK hi452_4
         have HC452_4 := aK hl452_4
         clear hi452_4 hl452_4
         have HR452_5 := aK hi452_5
         have HC452_5 := aK hl452_5
         clear hi452_5 hl452_5
         replace p452 := eq_true p452
         replace q452 := eq_true q452
         have ea_ := Option.some.inj (hx451_3.symm.trans hx452_3)
         injection ea_ with ea_ en_ ec_
         subst ea_
         subst ec_
         clear en_
         have ea_ := Option.some.inj (hx451_4.symm.trans hx452_4)
         injection ea_ with ea_ en_ ec_
         subst ea_
         subst ec_
         clear en_
         have ea_ := Option.some.inj (hx451_5.symm.trans hx452_5)
         injection ea_ with ea_ en_ ec_
         subst ea_
         subst ec_
         clear en_
         have p453 : 0 ≤ (x3_1 : Int) := of_decide_eq_true (by assumption)
         have q453 : x3_1 < (l0.length : Int) := of_decide_eq_true (by assumption)
         obtain ⟨ad453,A453_3,c453_3,A453_4,c453_4,A453_5,c453_5,e453,hx453_0,hx453_1,hx453_2,hx453_3,hx453_4,hx453_5,hl453_3,hi453_3,hl453_4,hi453_4,hl453_5,hi453_5⟩ := at_T37 HR0.out x3_1 p453 q453
         obtain rfl : ad451 = ad453 := (by injection e453)
         have HR453_3 := aK hi453_3
         have HC453_3 := aK hl453_3
         clear hi453_3 hl453_3
         have HR453_4 := aK hi453_4
         have HC453_4 := aK hl453_4
         clear hi453_4 hl453_4
         have HR453_5 := aK hi453_5
         have HC453_5 := aK hl453_5
         clear hi453_5 hl453_5
         replace p453 := eq_true p453
         replace q453 := eq_true q453
         have ea_ := Option.some.inj (hx451_3.symm.trans hx453_3)
         injection ea_ with ea_ en_ ec_
         subst ea_
         subst ec_
         clear en_
         have ea_ := Option.some.inj (hx451_4.symm.trans hx453_4)
         injection ea_ with ea_ en_ ec_
         subst ea_
         subst ec_
         clear en_
         have ea_ := Option.some.inj (hx451_5.symm.trans hx453_5)
         injection ea_ with ea_ en_ ec_
         subst ea_
         subst ec_
         clear en_
         have p454 : 0 ≤ (x3_1 : Int) := of_decide_eq_true (by assumption)
         have q454 : x3_1 < (l0.length : Int) := of_decide_eq_true (by assumption)
         obtain ⟨ad454,A454_3,c454_3,A454_4,c454_4,A454_5,c454_5,e454,hx454_0,hx454_1,hx454_2,hx454_3,hx454_4,hx454_5,hl454_3,hi454_3,hl454_4,hi454_4,hl454_5,hi454_5⟩ := at_T37 HR0.out x3_1 p454 q454
         obtain rfl : ad451 = ad454 := (by injection e454)
         have HR454_3 := aK hi454_3
         have HC454_3 := aK hl454_3
         clear hi454_3 hl454_3
         have HR454_4 := aK hi454_4
         have HC454_4 := aK hl454_4
         clear hi454_4 hl454_4
         have HR454_5 := aK hi454_5
         have HC454_5 := aK hl454_5
         clear hi454_5 hl454_5
         replace p454 := eq_true p454
         replace q454 := eq_true q454
         have ea_ := Option.some.inj (hx451_3.symm.trans hx454_3)
         injection ea_ with ea_ en_ ec_
         subst ea_
         subst ec_
         clear en_
         have ea_ := Option.some.inj (hx451_4.symm.trans hx454_4)
         injection ea_ with ea_ en_ ec_
         subst ea_
         subst ec_
         clear en_
         have ea_ := Option.some.inj (hx451_5.symm.trans hx454_5)
         injection ea_ with ea_ en_ ec_
         subst ea_
         subst ec_
         clear en_
         have p455 : 0 ≤ (x3_1 : Int) := of_decide_eq_true (by assumption)
         have q455 : x3_1 < (l0.length : Int) := of_decide_eq_true (by assumption)
         obtain ⟨ad455,A455_3,c455_3,A455_4,c455_4,A455_5,c455_5,e455,hx455_0,hx455_1,hx455_2,hx455_3,hx455_4,hx455_5,hl455_3,hi455_3,hl455_4,hi455_4,hl455_5,hi455_5⟩ := at_T37 HR0.out x3_1 p455 q455
         obtain rfl : ad451 = ad455 := (by injection e455)
         have HR455_3 := aK hi455_3
         have HC455_3 := aK hl455_3
         clear hi455_3 hl455_3
         have HR455_4 := aK hi455_4
         have HC455_4 := aK hl455_4
         clear hi455_4 hl455_4
         have HR455_5 := aK hi455_5
         have HC455_5 := aK hl455_5
         clear hi455_5 hl455_5
         replace p455 := eq_true p455
         replace q455 := eq_true q455
         have ea_ := Option.some.inj (hx451_3.symm.trans hx455_3)
         injection ea_ with ea_ en_ ec_
         subst ea_
         subst ec_
         clear en_
         have ea_ := Option.some.inj (hx451_4.symm.trans hx455_4)
         injection ea_ with ea_ en_ ec_
         subst ea_
         subst ec_
         clear en_
         have ea_ := Option.some.inj (hx451_5.symm.trans hx455_5)
         injection ea_ with ea_ en_ ec_
         subst ea_
         subst ec_
         clear en_
         go_wp2
         go_ret
         exact ⟨by first|rfl|(simp;done)|(simp [*];done),by repeat (first|exact Drawn0.refl _|apply Drawn0.step)⟩
        ·rw [if_neg c8] at H
         have c8b0 := decide_eq_false c8
         clear c8
         replace H := Option.bind_eq_some_iff.mp H
         obtain ⟨t457,A90,H⟩ := H
         have A9 := aK A90
         clear A90
         by_cases c10 : t457 = true
         ·subst c10
          rw [if_pos rfl] at H
          replace H := Option.bind_eq_some_iff.mp H
          obtain ⟨t459,A110,H⟩ := H
          have A11 := aK A110
          clear A110
          by_cases c12 : t459 = true
          ·subst c12
           rw [if_pos rfl] at H
           have H' := aK H
           clear H
           have p451 : 0 ≤ (x3_1 : Int) := of_decide_eq_true (by assumption)
           have q451 : x3_1 < (l0.length : Int) := of_decide_eq_true (by assumption)
           obtain ⟨ad451,A451_3,c451_3,A451_4,c451_4,A451_5,c451_5,e451,hx451_0,hx451_1,hx451_2,hx451_3,hx451_4,hx451_5,hl451_3,hi451_3,hl451_4,hi451_4,hl451_5,hi451_5⟩ := at_T37 HR0.out x3_1 p451 q451
           cases e451
           have HR451_3 := aK hi451_3
           have HC451_3 := aK hl451_3
           clear hi451_3 hl451_3
           have HR451_4 := aK hi451_4
           have HC451_4 := aK hl451_4
           clear hi451_4 hl451_4
           have HR451_5 := aK hi451_5
           have HC451_5 := aK hl451_5
           clear hi451_5 hl451_5
           replace p451 := eq_true p451
           replace q451 := eq_true q451
           have p452 : 0 ≤ (x3_1 : Int) := of_decide_eq_true (by assumption)
           have q452 : x3_1 < (l0.length : Int) := of_decide_eq_true (by assumption)
           obtain ⟨ad452,A452_3,c452_3,A452_4,c452_4,A452_5,c452_5,e452,hx452_0,hx452_1,hx452_2,hx452_3,hx452_4,hx452_5,hl452_3,hi452_3,hl452_4,hi452_4,hl452_5,hi452_5⟩ := at_T37 HR0.out x3_1 p452 q452
           obtain rfl : ad451 = ad452 := (by injection e452)
           have HR452_3 := aK hi452_3
           have HC452_3 := aK hl452_3
           clear hi452_3 hl452_3
           have HR452_4 := aK hi452_4
           have HC452_4 := aK hl452_4
           clear hi452_4 hl452_4
           have HR452_5 := aK hi452_5
           have HC452_5 := aK hl452_5
           clear hi452_5 hl452_5
           replace p452 := eq_true p452
           replace q452 := eq_true q452
           have ea_ := Option.some.inj (hx451_3.symm.trans hx452_3)
           injection ea_ with ea_ en_ ec_
           subst ea_
           subst ec_
           clear en_
           have ea_ := Option.some.inj (hx451_4.symm.trans hx452_4)
           injection ea_ with ea_ en_ ec_
           subst ea_
           subst ec_
           clear en_
           have ea_ := Option.some.inj (hx451_5.symm.trans hx452_5)
           injection ea_ with ea_ en_ ec_
           subst ea_
           subst ec_
           clear en_
           have p453 : 0 ≤ (x3_1 : Int) := of_decide_eq_true (by assumption)
           have q453 : x3_1 < (l0.length : Int) := of_decide_eq_true (by assumption)
           obtain ⟨ad453,A453_3,c453_3,A453_4,c453_4,A453_5,c453_5,e453,hx453_0,hx453_1,hx453_2,hx453_3,hx453_4,hx453_5,hl453_3,hi453_3,hl453_4,hi453_4,hl453_5,hi453_5⟩ := at_T37 HR0.out x3_1 p453 q453
           obtain rfl : ad451 = ad453 := (by injection e453)
           have HR453_3 := aK hi453_3
           have HC453_3 := aK hl453_3
           clear hi453_3 hl453_3
           have HR453_4 := aK hi453_4
           have HC453_4 := aK hl453_4
           clear hi453_4 hl453_4
           have HR453_5 := aK hi453_5
           have HC453_5 := aK hl453_5
           clear hi453_5 hl453_5
           replace p453 := eq_true p453
           replace q453 := eq_true q453
           have ea_ := Option.some.inj (hx451_3.symm.trans hx453_3)
           injection ea_ with ea_ en_ ec_
           subst ea_
           subst ec_
           clear en_
           have ea_ := Option.some.inj (hx451_4.symm.trans hx453_4)
           injection ea_ with ea_ en_ ec_
           subst ea_
           subst ec_
           clear en_
           have ea_ := Option.some.inj (hx451_5.symm.trans hx453_5)
           injection ea_ with ea_ en_ ec_
           subst ea_
           subst ec_
           clear en_
           have p454 : 0 ≤ (x3_1 : Int) := of_decide_eq_true (by assumption)
           have q454 : x3_1 < (l0.length : Int) := of_decide_eq_true (by assumption)
           obtain ⟨ad454,A454_3,c454_3,A454_4,c454_4,A454_5,c454_5,e454,hx454_0,hx454_1,hx454_2,hx454_3,hx454_4,hx454_5,hl454_3,hi454_3,hl454_4,hi454_4,hl454_5,hi454_5⟩ := at_T37 HR0.out x3_1 p454 q454
           obtain rfl : ad451 = ad454 := (by injection e454)
           have HR454_3 := aK hi454_3
           have HC454_3 := aK hl454_3
           clear hi454_3 hl454_3
           have HR454_4 := aK hi454_4
           have HC454_4 := aK hl454_4
           clear hi454_4 hl454_4
           have HR454_5 := aK hi454_5
           have HC454_5 := aK hl454_5
           clear hi454_5 hl454_5
           replace p454 := eq_true p454
           replace q454 := eq_true q454
           have ea_ := Option.some.inj (hx451_3.symm.trans hx454_3)
           injection ea_ with ea_ en_ ec_
           subst ea_
           subst ec_
           clear en_
           have ea_ := Option.some.inj (hx451_4.symm.trans hx454_4)
           injection ea_ with ea_ en_ ec_
           subst ea_
           subst ec_
           clear en_
           have ea_ := Option.some.inj (hx451_5.symm.trans hx454_5)
           injection ea_ with ea_ en_ ec_
           subst ea_
           subst ec_
           clear en_
           have p455 : 0 ≤ (x3_1 : Int) := of_decide_eq_true (by assumption)
           have q455 : x3_1 < (l0.length : Int) := of_decide_eq_true (by assumption)
           obtain ⟨ad455,A455_3,c455_3,A455_4,c455_4,A455_5,c455_5,e455,hx455_0,hx455_1,hx455_2,hx455_3,hx455_4,hx455_5,hl455_3,hi455_3,hl455_4,hi455_4,hl455_5,hi455_5⟩ := at_T37 HR0.out x3_1 p455 q455
           obtain rfl : ad451 = ad455 := (by injection e455)
           have HR455_3 := aK hi455_3
           have HC455_3 := aK hl455_3
           clear hi455_3 hl455_3
           have HR455_4 := aK hi455_4
           have HC455_4 := aK hl455_4
           clear hi455_4 hl455_4
           have HR455_5 := aK hi455_5
           have HC455_5 := aK hl455_5
           clear hi455_5 hl455_5
           replace p455 := eq_true p455
           replace q455 := eq_true q455
           have ea_ := Option.some.inj (hx451_3.symm.trans hx455_3)
           injection ea_ with ea_ en_ ec_
           subst ea_
           subst ec_
           clear en_
           have ea_ := Option.some.inj (hx451_4.symm.trans hx455_4)
           injection ea_ with ea_ en_ ec_
           subst ea_
           subst ec_
           clear en_
           have ea_ := Option.some.inj (hx451_5.symm.trans hx455_5)
           injection ea_ with ea_ en_ ec_
           subst ea_
           subst ec_
           clear en_
           have p456 : 0 ≤ (x3_1 : Int) := of_decide_eq_true (by assumption)
           have q456 : x3_1 < (l0.length : Int) := of_decide_eq_true (by assumption)
           obtain ⟨ad456,A456_3,c456_3,A456_4,c456_4,A456_5,c456_5,e456,hx456_0,hx456_1,hx456_2,hx456_3,hx456_4,hx456_5,hl456_3,hi456_3,hl456_4,hi456_4,hl456_5,hi456_5⟩ := at_T37 HR0.out x3_1 p456 q456
           obtain rfl : ad451 = ad456 := (by injection e456)
           have HR456_3 := aK hi456_3
           have HC456_3 := aK hl456_3
           clear hi456_3 hl456_3
           have HR456_4 := aK hi456_4
           have HC456_4 := aK hl456_4
           clear hi456_4 hl456_4
           have HR456_5 := aK hi456_5
           have HC456_5 := aK hl456_5
           clear hi456_5 hl456_5
           replace p456 := eq_true p456
           replace q456 := eq_true q456
           have ea_ := Option.some.inj (hx451_3.symm.trans hx456_3)
           injection ea_ with ea_ en_ ec_
           subst ea_
           subst ec_
           clear en_
           have ea_ := Option.some.inj (hx451_4.symm.trans hx456_4)
           injection ea_ with ea_ en_ ec_
           subst ea_
           subst ec_
           clear en_
           have ea_ := Option.some.inj (hx451_5.symm.trans hx456_5)
           injection ea_ with ea_ en_ ec_
           subst ea_
           subst ec_
           clear en_
           go_wp2_with (first|(go_at_call 26;(with_reducible refine (codesearchlaw33_rising.calls k1 _ _ ((rd_T37 l0 x3_1).f3) true _ ?side1 ?side2 A9.out).mono ?_);(case side1 => exact cM HR456_3.out);(case side2 => exact HC456_3.out);rintro e w' ⟨rfl,⟨nd,rfl⟩⟩;have p458 : 0 ≤ (x3_1 : Int) := of_decide_eq_true (by assumption);have q458 : x3_1 < (l0.length : Int) := of_decide_eq_true (by assumption);obtain ⟨ad458,A458_3,c458_3,A458_4,c458_4,A458_5,c458_5,e458,hx458_0,hx458_1,hx458_2,hx458_3,hx458_4,hx458_5,hl458_3,hi458_3,hl458_4,hi458_4,hl458_5,hi458_5⟩ := at_T37 HR0.out x3_1 p458 q458;obtain rfl : ad451 = ad458 := (by injection e458);have HR458_3 := aK hi458_3;have HC458_3 := aK hl458_3;clear hi458_3 hl458_3;have HR458_4 := aK hi458_4;have HC458_4 := aK hl458_4;clear hi458_4 hl458_4;have HR458_5 := aK hi458_5;have HC458_5 := aK hl458_5;clear hi458_5 hl458_5;replace p458 := eq_true p458;replace q458 := eq_true q458;have ea_ := Option.some.inj (hx451_3.symm.trans hx458_3);injection ea_ with ea_ en_ ec_;subst ea_;subst ec_;clear en_;have ea_ := Option.some.inj (hx451_4.symm.trans hx458_4);injection ea_ with ea_ en_ ec_;subst ea_;subst ec_;clear en_;have ea_ := Option.some.inj (hx451_5.symm.trans hx458_5);injection ea_ with ea_ en_ ec_;subst ea_;subst ec_;clear en_)|(go_at_call 26;(with_reducible refine (codesearchlaw33_rising.calls k1 _ _ ((rd_T37 l0 x3_1).f4) true _ ?side1 ?side2 A11.out).mono ?_);(case side1 => exact cM HR458_4.out);(case side2 => exact HC458_4.out);rintro e w' ⟨rfl,⟨nd,rfl⟩⟩))
           go_roundg k1
           case measure => have := HK1.out;omega
           case rel => exact ⟨(wrap64 (x3_1 + 1)),(by first|rfl|(simp;done)|(simp [*];done)),H',⟨by have := HK1.out;omega⟩,by repeat (first|exact Drawn0.refl _|apply Drawn0.step)⟩
          ·replace c12 := Bool.eq_false_iff.mpr c12
           subst c12
           rw [if_neg (show ¬ (false = true) by decide)] at H
           obtain rfl := Option.some.inj H
           have p451 : 0 ≤ (x3_1 : Int) := of_decide_eq_true (by assumption)
           have q451 : x3_1 < (l0.length : Int) := of_decide_eq_true (by assumption)
           obtain ⟨ad451,A451_3,c451_3,A451_4,c451_4,A451_5,c451_5,e451,hx451_0,hx451_1,hx451_2,hx451_3,hx451_4,hx451_5,hl451_3,hi451_3,hl451_4,hi451_4,hl451_5,hi451_5⟩ := at_T37 HR0.out x3_1 p451 q451
           cases e451
           have HR451_3 := aK hi451_3
           have HC451_3 := aK hl451_3
           clear hi451_3 hl451_3
           have HR451_4 := aK hi451_4
           have HC451_4 := aK hl451_4
           clear hi451_4 hl451_4
           have HR451_5 := aK hi451_5
           have HC451_5 := aK hl451_5
           clear hi451_5 hl451_5
           replace p451 := eq_true p451
           replace q451 := eq_true q451
           have p452 : 0 ≤ (x3_1 : Int) := of_decide_eq_true (by assumption)
           have q452 : x3_1 < (l0.length : Int) := of_decide_eq_true (by assumption)
           obtain ⟨ad452,A452_3,c452_3,A452_4,c452_4,A452_5,c452_5,e452,hx452_0,hx452_1,hx452_2,hx452_3,hx452_4,hx452_5,hl452_3,hi452_3,hl452_4,hi452_4,hl452_5,hi452_5⟩ := at_T37 HR0.out x3_1 p452 q452
           obtain rfl : ad451 = ad452 := (by injection e452)
           have HR452_3 := aK hi452_3
           have HC452_3 := aK hl452_3
           clear hi452_3 hl452_3
           have HR452_4 := aK hi452_4
           have HC452_4 := aK hl452_4
           clear hi452_4 hl452_4
           have HR452_5 := aK hi452_5
           have HC452_5 := aK hl452_5
           clear hi452_5 hl452_5
           replace p452 := eq_true p452
           replace q452 := eq_true q452
           have ea_ := Option.some.inj (hx451_3.symm.trans hx452_3)
           injection ea_ with ea_ en_ ec_
           subst ea_
           subst ec_
           clear en_
           have ea_ := Option.some.inj (hx451_4.symm.trans hx452_4)
           injection ea_ with ea_ en_ ec_
           subst ea_
           subst ec_
           clear en_
           have ea_ := Option.some.inj (hx451_5.symm.trans hx452_5)
           injection ea_ with ea_ en_ ec_
           subst ea_
           subst ec_
           clear en_
           have p453 : 0 ≤ (x3_1 : Int) := of_decide_eq_true (by assumption)
           have q453 : x3_1 < (l0.length : Int) := of_decide_eq_true (by assumption)
           obtain ⟨ad453,A453_3,c453_3,A453_4,c453_4,A453_5,c453_5,e453,hx453_0,hx453_1,hx453_2,hx453_3,hx453_4,hx453_5,hl453_3,hi453_3,hl453_4,hi453_4,hl453_5,hi453_5⟩ := at_T37 HR0.out x3_1 p453 q453
           obtain rfl : ad451 = ad453 := (by injection e453)
           have HR453_3 := aK hi453_3
           have HC453_3 := aK hl453_3
           clear hi453_3 hl453_3
           have HR453_4 := aK hi453_4
           have HC453_4 := aK hl453_4
           clear hi453_4 hl453_4
           have HR453_5 := aK hi453_5
           have HC453_5 := aK hl453_5
           clear hi453_5 hl453_5
           replace p453 := eq_true p453
           replace q453 := eq_true q453
           have ea_ := Option.some.inj (hx451_3.symm.trans hx453_3)
           injection ea_ with ea_ en_ ec_
           subst ea_
           subst ec_
           clear en_
           have ea_ := Option.some.inj (hx451_4.symm.trans hx453_4)
           injection ea_ with ea_ en_ ec_
           subst ea_
           subst ec_
           clear en_
           have ea_ := Option.some.inj (hx451_5.symm.trans hx453_5)
           injection ea_ with ea_ en_ ec_
           subst ea_
           subst ec_
           clear en_
           have p454 : 0 ≤ (x3_1 : Int) := of_decide_eq_true (by assumption)
           have q454 : x3_1 < (l0.length : Int) := of_decide_eq_true (by assumption)
           obtain ⟨ad454,A454_3,c454_3,A454_4,c454_4,A454_5,c454_5,e454,hx454_0,hx454_1,hx454_2,hx454_3,hx454_4,hx454_5,hl454_3,hi454_3,hl454_4,hi454_4,hl454_5,hi454_5⟩ := at_T37 HR0.out x3_1 p454 q454
           obtain rfl : ad451 = ad454 := (by injection e454)
           have HR454_3 := aK hi454_3
           have HC454_3 := aK hl454_3
           clear hi454_3 hl454_3
           have HR454_4 := aK hi454_4
           have HC454_4 := aK hl454_4
           clear hi454_4 hl454_4
           have HR454_5 := aK hi454_5
           have HC454_5 := aK hl454_5
           clear hi454_5 hl454_5
           replace p454 := eq_true p454
           replace q454 := eq_true q454
           have ea_ := Option.some.inj (hx451_3.symm.trans hx454_3)
           injection ea_ with ea_ en_ ec_
           subst ea_
           subst ec_
           clear en_
           have ea_ := Option.some.inj (hx451_4.symm.trans hx454_4)
           injection ea_ with ea_ en_ ec_
           subst ea_
           subst ec_
           clear en_
           have ea_ := Option.some.inj (hx451_5.symm.trans hx454_5)
           injection ea_ with ea_ en_ ec_
           subst ea_
           subst ec_
           clear en_
           have p455 : 0 ≤ (x3_1 : Int) := of_decide_eq_true (by assumption)
           have q455 : x3_1 < (l0.length : Int) := of_decide_eq_true (by assumption)
           obtain ⟨ad455,A455_3,c455_3,A455_4,c455_4,A455_5,c455_5,e455,hx455_0,hx455_1,hx455_2,hx455_3,hx455_4,hx455_5,hl455_3,hi455_3,hl455_4,hi455_4,hl455_5,hi455_5⟩ := at_T37 HR0.out x3_1 p455 q455
           obtain rfl : ad451 = ad455 := (by injection e455)
           have HR455_3 := aK hi455_3
           have HC455_3 := aK hl455_3
           clear hi455_3 hl455_3
           have HR455_4 := aK hi455_4
           have HC455_4 := aK hl455_4
           clear hi455_4 hl455_4
           have HR455_5 := aK hi455_5
           have HC455_5 := aK hl455_5
           clear hi455_5 hl455_5
           replace p455 := eq_true p455
           replace q455 := eq_true q455
           have ea_ := Option.some.inj (hx451_3.symm.trans hx455_3)
           injection ea_ with ea_ en_ ec_
           subst ea_
           subst ec_
           clear en_
           have ea_ := Option.some.inj (hx451_4.symm.trans hx455_4)
           injection ea_ with ea_ en_ ec_
           subst ea_
           subst ec_
           clear en_
           have ea_ := Option.some.inj (hx451_5.symm.trans hx455_5)
           injection ea_ with ea_ en_ ec_
           subst ea_
           subst ec_
           clear en_
           have p456 : 0 ≤ (x3_1 : Int) := of_decide_eq_true (by assumption)
           have q456 : x3_1 < (l0.length : Int) := of_decide_eq_true (by assumption)
           obtain ⟨ad456,A456_3,c456_3,A456_4,c456_4,A456_5,c456_5,e456,hx456_0,hx456_1,hx456_2,hx456_3,hx456_4,hx456_5,hl456_3,hi456_3,hl456_4,hi456_4,hl456_5,hi456_5⟩ := at_T37 HR0.out x3_1 p456 q456
           obtain rfl : ad451 = ad456 := (by injection e456)
           have HR456_3 := aK hi456_3
           have HC456_3 := aK hl456_3
           clear hi456_3 hl456_3
           have HR456_4 := aK hi456_4
           have HC456_4 := aK hl456_4
           clear hi456_4 hl456_4
           have HR456_5 := aK hi456_5
           have HC456_5 := aK hl456_5
           clear hi456_5 hl456_5
           replace p456 := eq_true p456
           replace q456 := eq_true q456
           have ea_ := Option.some.inj (hx451_3.symm.trans hx456_3)
           injection ea_ with ea_ en_ ec_
           subst ea_
           subst ec_
           clear en_
           have ea_ := Option.some.inj (hx451_4.symm.trans hx456_4)
           injection ea_ with ea_ en_ ec_
           subst ea_
           subst ec_
           clear en_
           have ea_ := Option.some.inj (hx451_5.symm.trans hx456_5)
           injection ea_ with ea_ en_ ec_
           subst ea_
           subst ec_
           clear en_
           go_wp2_with (first|(go_at_call 26;(with_reducible refine (codesearchlaw33_rising.calls k1 _ _ ((rd_T37 l0 x3_1).f3) true _ ?side1 ?side2 A9.out).mono ?_);(case side1 => exact cM HR456_3.out);(case side2 => exact HC456_3.out);rintro e w' ⟨rfl,⟨nd,rfl⟩⟩;have p458 : 0 ≤ (x3_1 : Int) := of_decide_eq_true (by assumption);have q458 : x3_1 < (l0.length : Int) := of_decide_eq_true (by assumption);obtain ⟨ad458,A458_3,c458_3,A458_4,c458_4,A458_5,c458_5,e458,hx458_0,hx458_1,hx458_2,hx458_3,hx458_4,hx458_5,hl458_3,hi458_3,hl458_4,hi458_4,hl458_5,hi458_5⟩ := at_T37 HR0.out x3_1 p458 q458;obtain rfl : ad451 = ad458 := (by injection e458);have HR458_3 := aK hi458_3;have HC458_3 := aK hl458_3;clear hi458_3 hl458_3;have HR458_4 := aK hi458_4;have HC458_4 := aK hl458_4;clear hi458_4 hl458_4;have HR458_5 := aK hi458_5;have HC458_5 := aK hl458_5;clear hi458_5 hl458_5;replace p458 := eq_true p458;replace q458 := eq_true q458;have ea_ := Option.some.inj (hx451_3.symm.trans hx458_3);injection ea_ with ea_ en_ ec_;subst ea_;subst ec_;clear en_;have ea_ := Option.some.inj (hx451_4.symm.trans hx458_4);injection ea_ with ea_ en_ ec_;subst ea_;subst ec_;clear en_;have ea_ := Option.some.inj (hx451_5.symm.trans hx458_5);injection ea_ with ea_ en_ ec_;subst ea_;subst ec_;clear en_)|(go_at_call 26;(with_reducible refine (codesearchlaw33_rising.calls k1 _ _ ((rd_T37 l0 x3_1).f4) false _ ?side1 ?side2 A11.out).mono ?_);(case side1 => exact cM HR458_4.out);(case side2 => exact HC458_4.out);rintro e w' ⟨rfl,⟨nd,rfl⟩⟩))
           go_ret
           exact ⟨by first|rfl|(simp;done)|(simp [*];done),by repeat (first|exact Drawn0.refl _|apply Drawn0.step)⟩
         ·replace c10 := Bool.eq_false_iff.mpr c10
          subst c10
          rw [if_neg (show ¬ (false = true) by decide)] at H
          obtain rfl := Option.some.inj H
          have p451 : 0 ≤ (x3_1 : Int) := of_decide_eq_true (by assumption)
          have q451 : x3_1 < (l0.length : Int) := of_decide_eq_true (by assumption)
          obtain ⟨ad451,A451_3,c451_3,A451_4,c451_4,A451_5,c451_5,e451,hx451_0,hx451_1,hx451_2,hx451_3,hx451_4,hx451_5,hl451_3,hi451_3,hl451_4,hi451_4,hl451_5,hi451_5⟩ := at_T37 HR0.out x3_1 p451 q451
          cases e451
          have HR451_3 := aK hi451_3
          have HC451_3 := aK hl451_3
          clear hi451_3 hl451_3
          have HR451_4 := aK hi451_4
          have HC451_4 := aK hl451_4
          clear hi451_4 hl451_4
          have HR451_5 := aK hi451_5
          have HC451_5 := aK hl451_5
          clear hi451_5 hl451_5
          replace p451 := eq_true p451
          replace q451 := eq_true q451
          have p452 : 0 ≤ (x3_1 : Int) := of_decide_eq_true (by assumption)
          have q452 : x3_1 < (l0.length : Int) := of_decide_eq_true (by assumption)
          obtain ⟨ad452,A452_3,c452_3,A452_4,c452_4,A452_5,c452_5,e452,hx452_0,hx452_1,hx452_2,hx452_3,hx452_4,hx452_5,hl452_3,hi452_3,hl452_4,hi452_4,hl452_5,hi452_5⟩ := at_T37 HR0.out x3_1 p452 q452
          obtain rfl : ad451 = ad452 := (by injection e452)
          have HR452_3 := aK hi452_3
          have HC452_3 := aK hl452_3
          clear hi452_3 hl452_3
          have HR452_4 := aK hi452_4
          have HC452_4 := aK hl452_4
          clear hi452_4 hl452_4
          have HR452_5 := aK hi452_5
          have HC452_5 := aK hl452_5
          clear hi452_5 hl452_5
          replace p452 := eq_true p452
          replace q452 := eq_true q452
          have ea_ := Option.some.inj (hx451_3.symm.trans hx452_3)
          injection ea_ with ea_ en_ ec_
          subst ea_
          subst ec_
          clear en_
          have ea_ := Option.some.inj (hx451_4.symm.trans hx452_4)
          injection ea_ with ea_ en_ ec_
          subst ea_
          subst ec_
          clear en_
          have ea_ := Option.some.inj (hx451_5.symm.trans hx452_5)
          injection ea_ with ea_ en_ ec_
          subst ea_
          subst ec_
          clear en_
          have p453 : 0 ≤ (x3_1 : Int) := of_decide_eq_true (by assumption)
          have q453 : x3_1 < (l0.length : Int) := of_decide_eq_true (by assumption)
          obtain ⟨ad453,A453_3,c453_3,A453_4,c453_4,A453_5,c453_5,e453,hx453_0,hx453_1,hx453_2,hx453_3,hx453_4,hx453_5,hl453_3,hi453_3,hl453_4,hi453_4,hl453_5,hi453_5⟩ := at_T37 HR0.out x3_1 p453 q453
          obtain rfl : ad451 = ad453 := (by injection e453)
          have HR453_3 := aK hi453_3
          have HC453_3 := aK hl453_3
          clear hi453_3 hl453_3
          have HR453_4 := aK hi453_4
          have HC453_4 := aK hl453_4
          clear hi453_4 hl453_4
          have HR453_5 := aK hi453_5
          have HC453_5 := aK hl453_5
          clear hi453_5 hl453_5
          replace p453 := eq_true p453
          replace q453 := eq_true q453
          have ea_ := Option.some.inj (hx451_3.symm.trans hx453_3)
          injection ea_ with ea_ en_ ec_
          subst ea_
          subst ec_
          clear en_
          have ea_ := Option.some.inj (hx451_4.symm.trans hx453_4)
          injection ea_ with ea_ en_ ec_
          subst ea_
          subst ec_
          clear en_
          have ea_ := Option.some.inj (hx451_5.symm.trans hx453_5)
          injection ea_ with ea_ en_ ec_
          subst ea_
          subst ec_
          clear en_
          have p454 : 0 ≤ (x3_1 : Int) := of_decide_eq_true (by assumption)
          have q454 : x3_1 < (l0.length : Int) := of_decide_eq_true (by assumption)
          obtain ⟨ad454,A454_3,c454_3,A454_4,c454_4,A454_5,c454_5,e454,hx454_0,hx454_1,hx454_2,hx454_3,hx454_4,hx454_5,hl454_3,hi454_3,hl454_4,hi454_4,hl454_5,hi454_5⟩ := at_T37 HR0.out x3_1 p454 q454
          obtain rfl : ad451 = ad454 := (by injection e454)
          have HR454_3 := aK hi454_3
          have HC454_3 := aK hl454_3
          clear hi454_3 hl454_3
          have HR454_4 := aK hi454_4
          have HC454_4 := aK hl454_4
          clear hi454_4 hl454_4
          have HR454_5 := aK hi454_5
          have HC454_5 := aK hl454_5
          clear hi454_5 hl454_5
          replace p454 := eq_true p454
          replace q454 := eq_true q454
          have ea_ := Option.some.inj (hx451_3.symm.trans hx454_3)
          injection ea_ with ea_ en_ ec_
          subst ea_
          subst ec_
          clear en_
          have ea_ := Option.some.inj (hx451_4.symm.trans hx454_4)
          injection ea_ with ea_ en_ ec_
          subst ea_
          subst ec_
          clear en_
          have ea_ := Option.some.inj (hx451_5.symm.trans hx454_5)
          injection ea_ with ea_ en_ ec_
          subst ea_
          subst ec_
          clear en_
          have p455 : 0 ≤ (x3_1 : Int) := of_decide_eq_true (by assumption)
          have q455 : x3_1 < (l0.length : Int) := of_decide_eq_true (by assumption)
          obtain ⟨ad455,A455_3,c455_3,A455_4,c455_4,A455_5,c455_5,e455,hx455_0,hx455_1,hx455_2,hx455_3,hx455_4,hx455_5,hl455_3,hi455_3,hl455_4,hi455_4,hl455_5,hi455_5⟩ := at_T37 HR0.out x3_1 p455 q455
          obtain rfl : ad451 = ad455 := (by injection e455)
          have HR455_3 := aK hi455_3
          have HC455_3 := aK hl455_3
          clear hi455_3 hl455_3
          have HR455_4 := aK hi455_4
          have HC455_4 := aK hl455_4
          clear hi455_4 hl455_4
          have HR455_5 := aK hi455_5
          have HC455_5 := aK hl455_5
          clear hi455_5 hl455_5
          replace p455 := eq_true p455
          replace q455 := eq_true q455
          have ea_ := Option.some.inj (hx451_3.symm.trans hx455_3)
          injection ea_ with ea_ en_ ec_
          subst ea_
          subst ec_
          clear en_
          have ea_ := Option.some.inj (hx451_4.symm.trans hx455_4)
          injection ea_ with ea_ en_ ec_
          subst ea_
          subst ec_
          clear en_
          have ea_ := Option.some.inj (hx451_5.symm.trans hx455_5)
          injection ea_ with ea_ en_ ec_
          subst ea_
          subst ec_
          clear en_
          have p456 : 0 ≤ (x3_1 : Int) := of_decide_eq_true (by assumption)
          have q456 : x3_1 < (l0.length : Int) := of_decide_eq_true (by assumption)
          obtain ⟨ad456,A456_3,c456_3,A456_4,c456_4,A456_5,c456_5,e456,hx456_0,hx456_1,hx456_2,hx456_3,hx456_4,hx456_5,hl456_3,hi456_3,hl456_4,hi456_4,hl456_5,hi456_5⟩ := at_T37 HR0.out x3_1 p456 q456
          obtain rfl : ad451 = ad456 := (by injection e456)
          have HR456_3 := aK hi456_3
          have HC456_3 := aK hl456_3
          clear hi456_3 hl456_3
          have HR456_4 := aK hi456_4
          have HC456_4 := aK hl456_4
          clear hi456_4 hl456_4
          have HR456_5 := aK hi456_5
          have HC456_5 := aK hl456_5
          clear hi456_5 hl456_5
          replace p456 := eq_true p456
          replace q456 := eq_true q456
          have ea_ := Option.some.inj (hx451_3.symm.trans hx456_3)
          injection ea_ with ea_ en_ ec_
          subst ea_
          subst ec_
          clear en_
          have ea_ := Option.some.inj (hx451_4.symm.trans hx456_4)
          injection ea_ with ea_ en_ ec_
          subst ea_
          subst ec_
          clear en_
          have ea_ := Option.some.inj (hx451_5.symm.trans hx456_5)
          injection ea_ with ea_ en_ ec_
          subst ea_
          subst ec_
          clear en_
          go_wp2_with (first|(go_at_call 26;(with_reducible refine (codesearchlaw33_rising.calls k1 _ _ ((rd_T37 l0 x3_1).f3) false _ ?side1 ?side2 A9.out).mono ?_);(case side1 => exact cM HR456_3.out);(case side2 => exact HC456_3.out);rintro e w' ⟨rfl,⟨nd,rfl⟩⟩))
          go_ret
          exact ⟨by first|rfl|(simp;done)|(simp [*];done),by repeat (first|exact Drawn0.refl _|apply Drawn0.step)⟩
    ·rw [if_neg c4] at H
     have c4b0 := beq_eq_false_iff_ne.mpr c4
     have c4b1 := bne_iff_ne.mpr c4
     obtain rfl := Option.some.inj H
     have p451 : 0 ≤ (x3_1 : Int) := of_decide_eq_true (by assumption)
     have q451 : x3_1 < (l0.length : Int) := of_decide_eq_true (by assumption)
     obtain ⟨ad451,A451_3,c451_3,A451_4,c451_4,A451_5,c451_5,e451,hx451_0,hx451_1,hx451_2,hx451_3,hx451_4,hx451_5,hl451_3,hi451_3,hl451_4,hi451_4,hl451_5,hi451_5⟩ := at_T37 HR0.out x3_1 p451 q451
     cases e451
     have HR451_3 := aK hi451_3
     have HC451_3 := aK hl451_3
     clear hi451_3 hl451_3
     have HR451_4 := aK hi451_4
     have HC451_4 := aK hl451_4
     clear hi451_4 hl451_4
     have HR451_5 := aK hi451_5
     have HC451_5 := aK hl451_5
     clear hi451_5 hl451_5
     replace p451 := eq_true p451
     replace q451 := eq_true q451
     go_wp2
     go_ret
     exact ⟨by first|rfl|(simp;done)|(simp [*];done),by repeat (first|exact Drawn0.refl _|apply Drawn0.step)⟩
   ·rw [if_neg c2] at H
    have c2b0 := decide_eq_false c2
    clear c2
    obtain rfl := Option.some.inj H
    go_wp2
    go_ret
    exact ⟨by first|rfl|(simp;done)|(simp [*];done),by repeat (first|exact Drawn0.refl _|apply Drawn0.step)⟩

end Go.Proofs.YtmgliocboeifdaaDoor.T
