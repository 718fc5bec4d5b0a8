import Derived.Test.YtmgliocboeifdaaGreatDoorFx0
import Derived.Test.YtmgliocboeifdaaGreatDoorFx15
import Derived.Test.YtmgliocboeifdaaGreatDoorFx17
import Derived.Test.YtmgliocboeifdaaGreatDoorFx21
namespace Go.Proofs.YtmgliocboeifdaaGreatDoor.F
open Go.RowKit Go.Proofs.YtmgliocboeifdaaGreatDoorW.PrintWords Go.Proofs.YtmgliocboeifdaaGreatDoorW.PrintLast Go.Proofs.YtmgliocboeifdaaGreatDoorW.PrintMore
set_option maxHeartbeats 4000000
set_option maxRecDepth 100000
attribute [local go_sem] max2_int min2_int max_two min_two max_three min_three max_four min_four
set_option linter.unusedVariables false
set_option linter.unusedSimpArgs false
mutual
def r04_Open.j0 : Nat → List Int → Int → Int → Int → Bool → Option (List Int × Int × Int)
|0,_,_,_,_,_ => none
|k + 1,x0,x1,x9,aa,ad => if ad = true then (some (([] : List Int),0,5)) else (if 0 ≤ x1 then (if x1 ≤ (wrap64 (aa + x9)) then (if (wrap64 (aa + x9)) ≤ (x0.length : Int) then ((r04_Sum.f k ((x0.take ((wrap64 (aa + x9)) : Int).toNat).drop (x1 : Int).toNat)).bind fun ab => ((r04_four.f ab).bind fun ac => (r04_Open.l0 k x0 aa (wrap64 (aa + x9)) ac 0))) else (none)) else (none)) else (none))
def r04_Open.l0 : Nat → List Int → Int → Int → List Int → Int → Option (List Int × Int × Int)
|0,_,_,_,_,_ => none
|k + 1,x0,ad,ab,ac,aa => if aa < 4 then (if 0 ≤ (wrap64 (ab + aa)) then (if (wrap64 (ab + aa)) < (x0.length : Int) then (if 0 ≤ aa then (if aa < (ac.length : Int) then (if (rd x0 (wrap64 (ab + aa))) = (rd ac aa) then (r04_Open.l0 k x0 ad ab ac (wrap64 (aa + 1))) else (some (([] : List Int),0,6))) else (none)) else (none)) else (none)) else (none)) else (r04_Open.l1 k x0 ab ([] : List Int) ad)
def r04_Open.l1 : Nat → List Int → Int → List Int → Int → Option (List Int × Int × Int)
|0,_,_,_,_ => none
|k + 1,x0,ab,ac,aa => if aa < ab then (if 0 ≤ aa then (if aa < (x0.length : Int) then (if ac.length < 140737488355328 then (r04_Open.l1 k x0 ab (ac ++ [rd x0 aa]) (wrap64 (aa + 1))) else (none)) else (none)) else (none)) else (some (ac,wrap64 (ab + 4),0))
end
def r04_Open.f (k : Nat) (l0 : List Int) (a1 : Int) (a2 : Int) : Option (List Int × Int × Int) := (r03_Get.f k l0 a1).bind fun aa => (if aa.2.2 = 0 then (if aa.1 > a2 then (some (([] : List Int), 0, 4)) else (if aa.1 > (wrap64 ((l0.length : Int) - aa.2.1)) then (r04_Open.j0 k l0 a1 aa.1 aa.2.1 true) else (r04_Open.j0 k l0 a1 aa.1 aa.2.1 (decide ((wrap64 ((wrap64 ((l0.length : Int) - aa.2.1)) - aa.1)) < 4))))) else (some (([] : List Int), 0, aa.2.2)))
theorem r04_Open.mono_l : ∀ k, (∀ y0 y1 y2 y3 y4, LeO (r04_Open.j0 k y0 y1 y2 y3 y4) (r04_Open.j0 (k + 1) y0 y1 y2 y3 y4)) ∧ (∀ y0 y1 y2 y3 y4, LeO (r04_Open.l0 k y0 y1 y2 y3 y4) (r04_Open.l0 (k + 1) y0 y1 y2 y3 y4)) ∧ (∀ y0 y1 y2 y3, LeO (r04_Open.l1 k y0 y1 y2 y3) (r04_Open.l1 (k + 1) y0 y1 y2 y3))
|0 => ⟨fun _ _ _ _ _ r h => by simp [r04_Open.j0] at h,fun _ _ _ _ _ r h => by simp [r04_Open.l0] at h,fun _ _ _ _ r h => by simp [r04_Open.l1] at h⟩
|k + 1 => by
  obtain ⟨ih0,ih1,ih2⟩ := r04_Open.mono_l k
  refine ⟨?_,?_,?_⟩
  ·intro y0 y1 y2 y3 y4
   unfold r04_Open.j0
   repeat' (with_reducible first|exact ih1 _ _ _ _ _|exact r04_Sum.mono _ _|exact LeO.refl _|exact LeO.none _|refine LeO.ite ?_ ?_|refine LeO.bind ?_ (fun _ => ?_))
  ·intro y0 y1 y2 y3 y4
   unfold r04_Open.l0
   repeat' (with_reducible first|exact ih1 _ _ _ _ _|exact ih2 _ _ _ _|exact LeO.refl _|exact LeO.none _|refine LeO.ite ?_ ?_|refine LeO.bind ?_ (fun _ => ?_))
  ·intro y0 y1 y2 y3
   unfold r04_Open.l1
   repeat' (with_reducible first|exact ih2 _ _ _ _|exact LeO.refl _|exact LeO.none _|refine LeO.ite ?_ ?_|refine LeO.bind ?_ (fun _ => ?_))
theorem r04_Open.mono : ∀ a0 a1 a2 k, LeO (r04_Open.f k a0 a1 a2) (r04_Open.f (k + 1) a0 a1 a2) := by
 intro a0 a1 a2 k
 obtain ⟨ih0,ih1,ih2⟩ := r04_Open.mono_l k
 unfold r04_Open.f
 repeat' (with_reducible first|exact ih0 _ _ _ _ _|exact ih1 _ _ _ _ _|exact ih2 _ _ _ _|exact r03_Get.mono _ _ _|exact r04_Sum.mono _ _|exact LeO.refl _|exact LeO.none _|refine LeO.ite ?_ ?_|refine LeO.bind ?_ (fun _ => ?_))
theorem r04_Open.calls (k : Nat) (A0 : Option Addr) (c0 : Nat) (l0 : List Int) (a1 : Int) (a2 : Int) (r1 : List Int) (r2 : Int) (r3 : Int) (w : World) (bI : Kd.C (Kd.int .u8) w A0 l0.length l0) (bJ : l0.length ≤ c0) (h : r04_Open.f k l0 a1 a2 = some (r1, r2, r3)) :
  Calls Tryz.prog 48 #[.slice A0 l0.length c0,.int .i64 a1,.int .i64 a2] w fun e w' => ∃ bK : Value,e = .returned (.tuple #[bK,.int .i64 r2,.int .i64 r3]) ∧ Kd.R (Kd.int .u8) 5 w' w.heap.size (fun _ => True) bK r1 ∧ Below w.heap.size w w' := by
 have az := aK bI
 have aM := aK bJ
 clear bI bJ
 have HB := aK (Below.refl w.heap.size w)
 have H : ((r03_Get.f k l0 a1).bind fun ag => (if ag.2.2 = 0 then (if ag.1 > a2 then (some (([] : List Int),0,4)) else (if ag.1 > (wrap64 ((l0.length : Int) - ag.2.1)) then (r04_Open.j0 k l0 a1 ag.1 ag.2.1 true) else (r04_Open.j0 k l0 a1 ag.1 ag.2.1 (decide ((wrap64 ((wrap64 ((l0.length : Int) - ag.2.1)) - ag.1)) < 4))))) else (some (([] : List Int),0,ag.2.2)))) = some (r1,r2,r3) := h
 clear h
 replace H := Option.bind_eq_some_iff.mp H
 obtain ⟨⟨ab,aa,ai⟩,bL,H⟩ := H
 replace H : (if ai = 0 then (if ab > a2 then (some (([] : List Int),0,4)) else (if ab > (wrap64 ((l0.length : Int) - aa)) then (r04_Open.j0 k l0 a1 ab aa true) else (r04_Open.j0 k l0 a1 ab aa (decide ((wrap64 ((wrap64 ((l0.length : Int) - aa)) - ab)) < 4))))) else (some (([] : List Int),0,ai))) = some (r1,r2,r3) := H
 have A4 := aK bL
 clear bL
 by_cases c5 : ai = 0
 ·rw [if_pos c5] at H
  have a4 := beq_iff_eq.mpr c5
  have a5 := bne_eq_false_iff_eq.mpr c5
  clear c5
  by_cases c6 : ab > a2
  ·rw [if_pos c6] at H
   have a6 := decide_eq_true c6
   clear c6
   simp only [Option.some.injEq,Prod.mk.injEq] at H
   obtain ⟨rfl,rfl,rfl⟩ := H
   go_enter Tryz.func48,Tryz.ntmps48
   go_wp2_with (first|(go_at_call 38;(with_reducible refine (r03_Get.calls k _ _ l0 a1 ab aa ai _ ?ac ?ad A4.out).mono ?_);(case ac => exact cM az.out);(case ad => exact aM.out);rintro e w' ⟨rfl,⟨nd,rfl⟩⟩;(try first|exact ⟨rfl,_,World.drewN_drewN _ _ _⟩|exact ⟨rfl,_,Eq.trans (World.drewN_drewN _ _ _) (congrArg (World.drewN _) (Nat.add_assoc _ _ _))⟩)))
   repeat (go_quiet (first|(go_at_call 38;(with_reducible refine (r03_Get.calls k _ _ l0 a1 ab aa ai _ ?ac ?ad A4.out).mono ?_);(case ac => exact cM az.out);(case ad => exact aM.out);rintro e w' ⟨rfl,⟨nd,rfl⟩⟩;(try first|exact ⟨rfl,_,World.drewN_drewN _ _ _⟩|exact ⟨rfl,_,Eq.trans (World.drewN_drewN _ _ _) (congrArg (World.drewN _) (Nat.add_assoc _ _ _))⟩)));try go_wp2_with (first|(go_at_call 38;(with_reducible refine (r03_Get.calls k _ _ l0 a1 ab aa ai _ ?ac ?ad A4.out).mono ?_);(case ac => exact cM az.out);(case ad => exact aM.out);rintro e w' ⟨rfl,⟨nd,rfl⟩⟩;(try first|exact ⟨rfl,_,World.drewN_drewN _ _ _⟩|exact ⟨rfl,_,Eq.trans (World.drewN_drewN _ _ _) (congrArg (World.drewN _) (Nat.add_assoc _ _ _))⟩))))
   go_ret3
   exact ⟨_,by first|rfl|(simp [errW_none,errW_some] <;> rfl)|(simp [*,errW_none,errW_some] <;> rfl),by first|exact Kd.R_nil _ _ _ _ _|exact Kd.N_nil _ _ _ _ _|exact Kd.V_nil _ _ _ _ _|exact Kd.Q_nil _ _ _ _ _|exact Kd.S_nil _ _ _ _ _,bM HB.out⟩
  ·rw [if_neg c6] at H
   have a6 := decide_eq_false c6
   clear c6
   have br := aK H
   clear H
   go_enter Tryz.func48,Tryz.ntmps48
   go_upto_region 6 with (first|(go_at_call 38;(with_reducible refine (r03_Get.calls k _ _ l0 a1 ab aa ai _ ?ac ?ad A4.out).mono ?_);(case ac => exact cM az.out);(case ad => exact aM.out);rintro e w' ⟨rfl,⟨nd,rfl⟩⟩;(try first|exact ⟨rfl,_,World.drewN_drewN _ _ _⟩|exact ⟨rfl,_,Eq.trans (World.drewN_drewN _ _ _) (congrArg (World.drewN _) (Nat.add_assoc _ _ _))⟩)))
   repeat (go_quiet (first|(go_at_call 38;(with_reducible refine (r03_Get.calls k _ _ l0 a1 ab aa ai _ ?ac ?ad A4.out).mono ?_);(case ac => exact cM az.out);(case ad => exact aM.out);rintro e w' ⟨rfl,⟨nd,rfl⟩⟩;(try first|exact ⟨rfl,_,World.drewN_drewN _ _ _⟩|exact ⟨rfl,_,Eq.trans (World.drewN_drewN _ _ _) (congrArg (World.drewN _) (Nat.add_assoc _ _ _))⟩)));go_upto_region 6 with (first|(go_at_call 38;(with_reducible refine (r03_Get.calls k _ _ l0 a1 ab aa ai _ ?ac ?ad A4.out).mono ?_);(case ac => exact cM az.out);(case ad => exact aM.out);rintro e w' ⟨rfl,⟨nd,rfl⟩⟩;(try first|exact ⟨rfl,_,World.drewN_drewN _ _ _⟩|exact ⟨rfl,_,Eq.trans (World.drewN_drewN _ _ _) (congrArg (World.drewN _) (Nat.add_assoc _ _ _))⟩))))
   (try simp only [Act.put,z1_,z2_,z3_])
   go_cut [44] (fun b4 wc => ∃ (kq : Nat) (au : Bool),b4 = .bool au ∧ Aside0 (r04_Open.j0 kq l0 a1 ab aa au = some (r1,r2,r3)) ∧ Aside0 (kq ≤ k) ∧ Aside0 (Below w.heap.size w wc))
   case first =>
    have H := br.out
    clear br
    by_cases c8 : ab > (wrap64 ((l0.length : Int) - aa))
    ·rw [if_pos c8] at H
     have aC := decide_eq_true c8
     clear c8
     (first|rw [aC]|(simp only [i64_w,i32_w];rw [aC])|rw [c8b1]|skip)
     have H' := aK H
     clear H
     go_wp2
     repeat (go_quiet (fail);try go_wp2)
     go_meet
     case rel => exact ⟨_,(true),(by first|rfl|(simp;done)|(simp [*];done)),H',⟨by first|omega|exact Nat.le_refl _⟩,⟨bM HB.out⟩⟩
    ·rw [if_neg c8] at H
     have aC := decide_eq_false c8
     clear c8
     (first|rw [aC]|(simp only [i64_w,i32_w];rw [aC])|rw [c8b1]|skip)
     have H' := aK H
     clear H
     go_wp2
     repeat (go_quiet (fail);try go_wp2)
     go_meet
     case rel => exact ⟨_,(decide ((wrap64 ((wrap64 ((l0.length : Int) - aa)) - ab)) < 4)),(by first|rfl|(simp;done)|(simp [*];done)),H',⟨by first|omega|exact Nat.le_refl _⟩,⟨bM HB.out⟩⟩
   case rest =>
    clear br
    try clear p2
    try clear c5
    try clear a4
    try clear a5
    try clear c6
    try clear a6
    try clear p6
    obtain ⟨kq,au,rfl,HA,bp,HB⟩ := hcut
    cases kq with
   |zero => exact absurd HA.out (by simp [r04_Open.j0])
   |succ kj6 =>
     have H := HA.out
     clear HA
     simp only [r04_Open.j0] at H
     by_cases c9 : au = true
     ·subst c9
      rw [if_pos rfl] at H
      simp only [Option.some.injEq,Prod.mk.injEq] at H
      obtain ⟨rfl,rfl,rfl⟩ := H
      go_wp2
      repeat (go_quiet (fail);try go_wp2)
      go_ret3
      exact ⟨_,by first|rfl|(simp [errW_none,errW_some] <;> rfl)|(simp [*,errW_none,errW_some] <;> rfl),by first|exact Kd.R_nil _ _ _ _ _|exact Kd.N_nil _ _ _ _ _|exact Kd.V_nil _ _ _ _ _|exact Kd.Q_nil _ _ _ _ _|exact Kd.S_nil _ _ _ _ _,bM HB.out⟩
     ·replace c9 := Bool.eq_false_iff.mpr c9
      subst c9
      rw [if_neg (show ¬ (false = true) by decide)] at H
      obtain ⟨c10,H⟩ := iS H
      have a7 := eq_true c10
      have a8 := decide_eq_true c10
      clear c10
      obtain ⟨bs,H⟩ := iS H
      have a9 := eq_true bs
      have ba := decide_eq_true bs
      obtain ⟨bu,H⟩ := iS H
      have bb := eq_true bu
      have bc := decide_eq_true bu
      replace H := Option.bind_eq_some_iff.mp H
      obtain ⟨aA,bd,H⟩ := H
      have bv := aK bd
      clear bd
      replace H := Option.bind_eq_some_iff.mp H
      obtain ⟨aj,be,H⟩ := H
      have bx := aK be
      clear be
      have H' := aK H
      clear H
      obtain ⟨b5,aN,_,aQ,_⟩ := info_parts info5
      obtain ⟨bz,bB,bf,bg⟩ := print_mid_of (P := Tryz.prog) (Value.int .u8) 0 31 5 .i64 .i64 Tryz.underlying31 aN aQ A0 c0 l0 a1 (wrap64 (aa + ab)) (dA) (by first|omega|exact dA) (dA) aM.out
      have aD := aK (Kd.C_of_reads (h1 := fun _ => rfl) (bf _ (Kd.reads_of_C az.out)))
      have aE := aK bg
      clear bf bg aN aQ
      go_wp2_with (first|(go_at_call 65;refine calls_of_args (args' := #[.slice bz ((l0.take ((wrap64 (aa + ab)) : Int).toNat).drop (a1 : Int).toNat).length (c0 - a1.toNat)]) (by first|with_reducible rfl|(rw [show ((l0.take ((wrap64 (aa + ab)) : Int).toNat).drop (a1 : Int).toNat).length = ((wrap64 (aa + ab)).toNat - a1.toNat) from (by rw [z7_,z8_];have h_ : ((wrap64 (aa + ab)) : Int) ≤ (l0.length : Int) := dA;omega)] <;> rfl)|(simp only [List.length_nil];done)|(simp only [List.length_nil];with_reducible rfl)) ?_;(with_reducible refine (r04_Sum.calls kj6 _ _ ((l0.take ((wrap64 (aa + ab)) : Int).toNat).drop (a1 : Int).toNat) aA _ ?ac ?ad bv.out).mono ?_);(case ac => exact cM (Kd.C_below aD.out HB.out));(case ad => exact aE.out);rintro e w' ⟨rfl,⟨nd,rfl⟩⟩;(try first|exact ⟨rfl,_,World.drewN_drewN _ _ _⟩|exact ⟨rfl,_,Eq.trans (World.drewN_drewN _ _ _) (congrArg (World.drewN _) (Nat.add_assoc _ _ _))⟩))|(go_at_call 64;(with_reducible refine (r04_four.calls aA aj _ bx.out).mono ?_);rintro e bN ⟨aU,rfl,aR,hb⟩;have aG := aK (Kd.R_lower aR (below_size (bM HB.out)));replace HB := aK (below_step (bM HB.out) hb);(try clear hb);(try clear hk);(try clear aR)))
      repeat (go_quiet (first|(go_at_call 65;refine calls_of_args (args' := #[.slice bz ((l0.take ((wrap64 (aa + ab)) : Int).toNat).drop (a1 : Int).toNat).length (c0 - a1.toNat)]) (by first|with_reducible rfl|(rw [show ((l0.take ((wrap64 (aa + ab)) : Int).toNat).drop (a1 : Int).toNat).length = ((wrap64 (aa + ab)).toNat - a1.toNat) from (by rw [z7_,z8_];have h_ : ((wrap64 (aa + ab)) : Int) ≤ (l0.length : Int) := dA;omega)] <;> rfl)|(simp only [List.length_nil];done)|(simp only [List.length_nil];with_reducible rfl)) ?_;(with_reducible refine (r04_Sum.calls kj6 _ _ ((l0.take ((wrap64 (aa + ab)) : Int).toNat).drop (a1 : Int).toNat) aA _ ?ac ?ad bv.out).mono ?_);(case ac => exact cM (Kd.C_below aD.out HB.out));(case ad => exact aE.out);rintro e w' ⟨rfl,⟨nd,rfl⟩⟩;(try first|exact ⟨rfl,_,World.drewN_drewN _ _ _⟩|exact ⟨rfl,_,Eq.trans (World.drewN_drewN _ _ _) (congrArg (World.drewN _) (Nat.add_assoc _ _ _))⟩))|(go_at_call 64;(with_reducible refine (r04_four.calls aA aj _ bx.out).mono ?_);rintro e bN ⟨aU,rfl,aR,hb⟩;have aG := aK (Kd.R_lower aR (below_size (bM HB.out)));replace HB := aK (below_step (bM HB.out) hb);(try clear hb);(try clear hk);(try clear aR)));try go_wp2_with (first|(go_at_call 65;refine calls_of_args (args' := #[.slice bz ((l0.take ((wrap64 (aa + ab)) : Int).toNat).drop (a1 : Int).toNat).length (c0 - a1.toNat)]) (by first|with_reducible rfl|(rw [show ((l0.take ((wrap64 (aa + ab)) : Int).toNat).drop (a1 : Int).toNat).length = ((wrap64 (aa + ab)).toNat - a1.toNat) from (by rw [z7_,z8_];have h_ : ((wrap64 (aa + ab)) : Int) ≤ (l0.length : Int) := dA;omega)] <;> rfl)|(simp only [List.length_nil];done)|(simp only [List.length_nil];with_reducible rfl)) ?_;(with_reducible refine (r04_Sum.calls kj6 _ _ ((l0.take ((wrap64 (aa + ab)) : Int).toNat).drop (a1 : Int).toNat) aA _ ?ac ?ad bv.out).mono ?_);(case ac => exact cM (Kd.C_below aD.out HB.out));(case ad => exact aE.out);rintro e w' ⟨rfl,⟨nd,rfl⟩⟩;(try first|exact ⟨rfl,_,World.drewN_drewN _ _ _⟩|exact ⟨rfl,_,Eq.trans (World.drewN_drewN _ _ _) (congrArg (World.drewN _) (Nat.add_assoc _ _ _))⟩))|(go_at_call 64;(with_reducible refine (r04_four.calls aA aj _ bx.out).mono ?_);rintro e bN ⟨aU,rfl,aR,hb⟩;have aG := aK (Kd.R_lower aR (below_size (bM HB.out)));replace HB := aK (below_step (bM HB.out) hb);(try clear hb);(try clear hk);(try clear aR))))
      go_loopg [14] kj6 (fun kq b6 w' => ∃ (ae : Int),b6 = .int .i64 ae ∧ Aside0 (r04_Open.l0 kq l0 aa (wrap64 (aa + ab)) aj ae = some (r1,r2,r3)) ∧ Aside0 (kq ≤ kj6) ∧ Aside0 (Kd.R (Kd.int .u8) 5 w' w.heap.size (fun _ => True) aU aj) ∧ Aside0 (Below w.heap.size w w'))
      case atStart => exact ⟨(0),(by first|rfl|(simp;done)|(simp [*];done)),H',⟨Nat.le_refl _⟩,⟨rM aG.out⟩,⟨bM HB.out⟩⟩
      case round =>
       clear H'
       try clear p2
       try clear p6
       try clear c9
       try clear c10
       try clear a7
       try clear a8
       try clear bs
       try clear a9
       try clear ba
       try clear bu
       try clear bb
       try clear bc
       try clear p2
       try clear p6
       obtain ⟨ae,rfl,HA,bq,am,HB⟩ := hrel
       cases gk with
      |zero => exact absurd HA.out (by simp [r04_Open.l0])
      |succ k2 =>
        have H := HA.out
        clear HA
        simp only [r04_Open.l0] at H
        by_cases aV : ae < 4
        ·rw [if_pos aV] at H
         have aT := decide_eq_true aV
         clear aV
         obtain ⟨ak,av⟩ : ∃ j_ : Int,(wrap64 ((wrap64 (aa + ab)) + ae)) = j_ := ⟨_,rfl⟩
         replace H : (if 0 ≤ (ak) then (if (ak) < (l0.length : Int) then (if 0 ≤ ae then (if ae < (aj.length : Int) then (if (rd l0 (ak)) = (rd aj ae) then (r04_Open.l0 k2 l0 aa (wrap64 (aa + ab)) aj (wrap64 (ae + 1))) else (some (([] : List Int),0,6))) else (none)) else (none)) else (none)) else (none)) = some (r1,r2,r3) := by first|(rw [av] at H;exact H)|(simp only [av] at H ⊢;exact H)
         have bC : (IntKind.i64.wrap ((wrap64 (aa + ab)) + ae)) = ak := (i64_w _).trans av
         obtain ⟨bO,H⟩ := iS H
         have bP := decide_eq_true bO
         clear bO
         obtain ⟨bQ,H⟩ := iS H
         have bR := decide_eq_true bQ
         clear bQ
         obtain ⟨bS,H⟩ := iS H
         have bT := decide_eq_true bS
         clear bS
         obtain ⟨bU,H⟩ := iS H
         have bV := decide_eq_true bU
         clear bU
         by_cases aW : (rd l0 (ak)) = (rd aj ae)
         ·rw [if_pos aW] at H
          have bh := beq_iff_eq.mpr aW
          have bi := bne_eq_false_iff_eq.mpr aW
          clear aW
          have H' := aK H
          clear H
          have an : 0 ≤ ((ak) : Int) := dA
          have ao : (ak) < (l0.length : Int) := dA
          obtain ⟨bj,aX,ah⟩ := Kd.at_int az.out (ak) an ao
          cases aX
          replace ah := xM HB ah
          replace an := eq_true an
          replace ao := eq_true ao
          obtain ⟨b7,b8,bD⟩ := Kd.R_slice am.out
          subst bD
          have ap : 0 ≤ (ae : Int) := dA
          have aq : ae < (aj.length : Int) := dA
          obtain ⟨bk,aY,aw⟩ := Kd.at_int (Kd.R_reads' am.out).2.2 ae ap aq
          cases aY
          replace ap := eq_true ap
          replace aq := eq_true aq
          go_wp2
          repeat (go_quiet (fail);try go_wp2)
          go_roundg k2
          case measure => have := bp.out;have := bq.out;omega
          case rel => exact ⟨(wrap64 (ae + 1)),(by first|rfl|(simp;done)|(simp [*];done)),H',⟨by have := bp.out;have := bq.out;omega⟩,⟨rM am.out⟩,⟨bM HB.out⟩⟩
         ·rw [if_neg aW] at H
          have bh := beq_eq_false_iff_ne.mpr aW
          have bi := bne_iff_ne.mpr aW
          simp only [Option.some.injEq,Prod.mk.injEq] at H
          obtain ⟨rfl,rfl,rfl⟩ := H
          have an : 0 ≤ ((ak) : Int) := dA
          have ao : (ak) < (l0.length : Int) := dA
          obtain ⟨bj,aX,ah⟩ := Kd.at_int az.out (ak) an ao
          cases aX
          replace ah := xM HB ah
          replace an := eq_true an
          replace ao := eq_true ao
          obtain ⟨b9,ca,bE⟩ := Kd.R_slice am.out
          subst bE
          have ap : 0 ≤ (ae : Int) := dA
          have aq : ae < (aj.length : Int) := dA
          obtain ⟨bk,aY,aw⟩ := Kd.at_int (Kd.R_reads' am.out).2.2 ae ap aq
          cases aY
          replace ap := eq_true ap
          replace aq := eq_true aq
          go_wp2
          repeat (go_quiet (fail);try go_wp2)
          go_ret3
          exact ⟨_,by first|rfl|(simp [errW_none,errW_some] <;> rfl)|(simp only [← av];first|rfl|(simp [errW_none,errW_some] <;> rfl))|(simp [*,errW_none,errW_some] <;> rfl),by first|exact Kd.R_nil _ _ _ _ _|exact Kd.N_nil _ _ _ _ _|exact Kd.V_nil _ _ _ _ _|exact Kd.Q_nil _ _ _ _ _|exact Kd.S_nil _ _ _ _ _,bM HB.out⟩
        ·rw [if_neg aV] at H
         have aT := decide_eq_false aV
         clear aV
         have H' := aK H
         clear H
         go_wp2
         repeat (go_quiet (fail);try go_wp2)
         go_loopg [15,16] k2 (fun kq cb cc w' => ∃ (al : List Int) (af : Int),cc = .int .i64 af ∧ Aside0 (r04_Open.l1 kq l0 (wrap64 (aa + ab)) al af = some (r1,r2,r3)) ∧ Aside0 (kq ≤ k2) ∧ Aside0 (Kd.R (Kd.int .u8) 5 w' w.heap.size (fun _ => True) cb al) ∧ Aside0 (Below w.heap.size w w'))
         case atStart => exact ⟨(([] : List Int)),(aa),(by first|rfl|(simp;done)|(simp [*];done)),H',⟨Nat.le_refl _⟩,⟨by first|exact Kd.R_nil _ _ _ _ _|exact Kd.N_nil _ _ _ _ _|exact Kd.V_nil _ _ _ _ _|exact Kd.Q_nil _ _ _ _ _|exact Kd.S_nil _ _ _ _ _⟩,⟨bM HB.out⟩⟩
         case round =>
          clear H'
          try clear p2
          try clear p6
          try clear q6
          try clear hx6
          try clear aV
          try clear aT
          try clear ah
          try clear aw
          try clear p2
          try clear p6
          try clear an
          try clear ap
          try clear ao
          try clear aq
          obtain ⟨al,af,rfl,HA,bW,ax,HB⟩ := hrel
          cases gk with
         |zero => exact absurd HA.out (by simp [r04_Open.l1])
         |succ k3 =>
           have H := HA.out
           clear HA
           simp only [r04_Open.l1] at H
           by_cases a3 : af < (wrap64 (aa + ab))
           ·rw [if_pos a3] at H
            have bm := decide_eq_true a3
            clear a3
            obtain ⟨bX,H⟩ := iS H
            have bY := decide_eq_true bX
            clear bX
            obtain ⟨bZ,H⟩ := iS H
            have b0 := decide_eq_true bZ
            clear bZ
            obtain ⟨b1,H⟩ := iS H
            have aH := aK b1
            clear b1
            obtain ⟨bn,ar⟩ : ∃ y_ : List Int,y_ = (al ++ [rd l0 af]) := ⟨_,rfl⟩
            replace H : (r04_Open.l1 k3 l0 (wrap64 (aa + ab)) bn (wrap64 (af + 1))) = some (r1,r2,r3) := by first|(rw [ar];with_reducible exact H)|(have bF := (Option.bind_some _ _).symm.trans H;rw [ar];with_reducible exact bF)|(have bF := (Option.bind_some _ _).symm.trans H;with_reducible exact bF)|with_reducible exact H|(rw [ar];exact H)|exact H
            have aI := aK ar
            clear ar
            have H' := aK H
            clear H
            have aZ : 0 ≤ (af : Int) := dA
            have a0 : af < (l0.length : Int) := dA
            obtain ⟨b2,bH,ay⟩ := Kd.at_int az.out af aZ a0
            cases bH
            replace ay := xM HB ay
            replace aZ := eq_true aZ
            replace a0 := eq_true a0
            go_wp2_with (first|((with_reducible refine gate_builtin (b := .append) (xs := #[.tmp 75,.tmp 80]) rfl ?_);(try (refine gate_guard (by rfl) ?_;dsimp only));at_builtin;refine Kd.R_append (Kd.int .u8) (w0 := w) w.heap.size rfl (.tmp 75) (.tmp 80) 31 5 (.int .u8 0) 1 rfl Tryz.underlying31 info5 rfl (by decide) (by omega) u15 al (rd l0 af) [.int .u8 (rd l0 af)] (fun _ => True) (fun _ => False) rfl rfl ?aP (fun _ hk => hk.elim) ?aF ?aO ?aB ?aS ?aL ?_;(case aP => exact rfl);(case aB => exact (bM HB.out));(case aF => exact (fun _ _ => trivial));(case aO => exact (rM ax.out));(case aS => exact (below_size (bM HB.out)));(case aL => have := aH.out;omega);intro bo b3 ho hb hg hat;rw [← aI.out] at ho;replace HB := aK (hb);have aJ := aK (ho);clear ho hb hg hat))
            repeat (go_quiet (first|((with_reducible refine gate_builtin (b := .append) (xs := #[.tmp 75,.tmp 80]) rfl ?_);(try (refine gate_guard (by rfl) ?_;dsimp only));at_builtin;refine Kd.R_append (Kd.int .u8) (w0 := w) w.heap.size rfl (.tmp 75) (.tmp 80) 31 5 (.int .u8 0) 1 rfl Tryz.underlying31 info5 rfl (by decide) (by omega) u15 al (rd l0 af) [.int .u8 (rd l0 af)] (fun _ => True) (fun _ => False) rfl rfl ?aP (fun _ hk => hk.elim) ?aF ?aO ?aB ?aS ?aL ?_;(case aP => exact rfl);(case aB => exact (bM HB.out));(case aF => exact (fun _ _ => trivial));(case aO => exact (rM ax.out));(case aS => exact (below_size (bM HB.out)));(case aL => have := aH.out;omega);intro bo b3 ho hb hg hat;rw [← aI.out] at ho;replace HB := aK (hb);have aJ := aK (ho);clear ho hb hg hat));try go_wp2_with (first|((with_reducible refine gate_builtin (b := .append) (xs := #[.tmp 75,.tmp 80]) rfl ?_);(try (refine gate_guard (by rfl) ?_;dsimp only));at_builtin;refine Kd.R_append (Kd.int .u8) (w0 := w) w.heap.size rfl (.tmp 75) (.tmp 80) 31 5 (.int .u8 0) 1 rfl Tryz.underlying31 info5 rfl (by decide) (by omega) u15 al (rd l0 af) [.int .u8 (rd l0 af)] (fun _ => True) (fun _ => False) rfl rfl ?aP (fun _ hk => hk.elim) ?aF ?aO ?aB ?aS ?aL ?_;(case aP => exact rfl);(case aB => exact (bM HB.out));(case aF => exact (fun _ _ => trivial));(case aO => exact (rM ax.out));(case aS => exact (below_size (bM HB.out)));(case aL => have := aH.out;omega);intro bo b3 ho hb hg hat;rw [← aI.out] at ho;replace HB := aK (hb);have aJ := aK (ho);clear ho hb hg hat)))
            go_roundg k3
            case measure => have := bp.out;have := bq.out;have := bW.out;omega
            case rel => exact ⟨(bn),(wrap64 (af + 1)),(by first|rfl|(simp;done)|(simp [*];done)),H',⟨by have := bp.out;have := bq.out;have := bW.out;omega⟩,⟨rM aJ.out⟩,⟨bM HB.out⟩⟩
           ·rw [if_neg a3] at H
            have bm := decide_eq_false a3
            clear a3
            simp only [Option.some.injEq,Prod.mk.injEq] at H
            obtain ⟨rfl,rfl,rfl⟩ := H
            go_wp2
            repeat (go_quiet (fail);try go_wp2)
            go_ret3
            exact ⟨_,by first|rfl|(simp [errW_none,errW_some] <;> rfl)|(simp [*,errW_none,errW_some] <;> rfl),rM ax.out,bM HB.out⟩
 ·rw [if_neg c5] at H
  have a4 := beq_eq_false_iff_ne.mpr c5
  have a5 := bne_iff_ne.mpr c5
  simp only [Option.some.injEq,Prod.mk.injEq] at H
  obtain ⟨rfl,rfl,rfl⟩ := H
  go_enter Tryz.func48,Tryz.ntmps48
  go_wp2_with (first|(go_at_call 38;(with_reducible refine (r03_Get.calls k _ _ l0 a1 ab aa ai _ ?ac ?ad A4.out).mono ?_);(case ac => exact cM az.out);(case ad => exact aM.out);rintro e w' ⟨rfl,⟨nd,rfl⟩⟩;(try first|exact ⟨rfl,_,World.drewN_drewN _ _ _⟩|exact ⟨rfl,_,Eq.trans (World.drewN_drewN _ _ _) (congrArg (World.drewN _) (Nat.add_assoc _ _ _))⟩)))
  repeat (go_quiet (first|(go_at_call 38;(with_reducible refine (r03_Get.calls k _ _ l0 a1 ab aa ai _ ?ac ?ad A4.out).mono ?_);(case ac => exact cM az.out);(case ad => exact aM.out);rintro e w' ⟨rfl,⟨nd,rfl⟩⟩;(try first|exact ⟨rfl,_,World.drewN_drewN _ _ _⟩|exact ⟨rfl,_,Eq.trans (World.drewN_drewN _ _ _) (congrArg (World.drewN _) (Nat.add_assoc _ _ _))⟩)));try go_wp2_with (first|(go_at_call 38;(with_reducible refine (r03_Get.calls k _ _ l0 a1 ab aa ai _ ?ac ?ad A4.out).mono ?_);(case ac => exact cM az.out);(case ad => exact aM.out);rintro e w' ⟨rfl,⟨nd,rfl⟩⟩;(try first|exact ⟨rfl,_,World.drewN_drewN _ _ _⟩|exact ⟨rfl,_,Eq.trans (World.drewN_drewN _ _ _) (congrArg (World.drewN _) (Nat.add_assoc _ _ _))⟩))))
  go_ret3
  exact ⟨_,by first|rfl|(simp [errW_none,errW_some] <;> rfl)|(simp [*,errW_none,errW_some] <;> rfl),by first|exact Kd.R_nil _ _ _ _ _|exact Kd.N_nil _ _ _ _ _|exact Kd.V_nil _ _ _ _ _|exact Kd.Q_nil _ _ _ _ _|exact Kd.S_nil _ _ _ _ _,bM HB.out⟩
def r33_Recover.l0 : Nat → List Int → List (S30) → Int → Option ((List (S30)) × Int)
|0,_,_,_ => none
|k + 1,x0,x4,x5 => (r04_Open.f k x0 x5 (x0.length : Int)).bind fun ab => (if ab.2.2 = 0 then ((r33_Decode.f k ab.1).bind fun aa => (if aa.2.2.2.2.2.2 = 0 then (if aa.1 = (wrap64 ((x4.length : Int) + 1)) then (if x4.length < 1466015503701 then (r33_Recover.l0 k x0 (x4 ++ [(⟨aa.1,aa.2.1,aa.2.2.1,aa.2.2.2.1,aa.2.2.2.2.1,aa.2.2.2.2.2.1⟩ : S30)]) ab.2.1) else (none)) else (some (x4,x5))) else (some (x4,x5)))) else (some (x4,x5)))
def r33_Recover.f (k : Nat) (l0 : List Int) : Option ((List (S30)) × Int) := r33_Recover.l0 k l0 ([] : List (S30)) 0
theorem r33_Recover.mono_l : ∀ k, (∀ y0 y1 y2, LeO (r33_Recover.l0 k y0 y1 y2) (r33_Recover.l0 (k + 1) y0 y1 y2))
|0 => fun _ _ _ r h => by simp [r33_Recover.l0] at h
|k + 1 => by
  have ih0 := r33_Recover.mono_l k
  ·intro y0 y1 y2
   unfold r33_Recover.l0
   repeat' (with_reducible first|exact ih0 _ _ _|exact r04_Open.mono _ _ _ _|exact r33_Decode.mono _ _|exact LeO.refl _|exact LeO.none _|refine LeO.ite ?_ ?_|refine LeO.bind ?_ (fun _ => ?_))
theorem r33_Recover.mono : ∀ a0 k, LeO (r33_Recover.f k a0) (r33_Recover.f (k + 1) a0) := by
 intro a0 k
 have ih0 := r33_Recover.mono_l k
 unfold r33_Recover.f
 repeat' (with_reducible first|exact ih0 _ _ _|exact r04_Open.mono _ _ _ _|exact r33_Decode.mono _ _|exact LeO.refl _|exact LeO.none _|refine LeO.ite ?_ ?_|refine LeO.bind ?_ (fun _ => ?_))
theorem r33_Recover.calls (k : Nat) (A0 : Option Addr) (c0 : Nat) (l0 : List Int) (r1 : List (S30)) (r2 : Int) (w : World) (bO : Kd.C (Kd.int .u8) w A0 l0.length l0) (bP : l0.length ≤ c0) (h : r33_Recover.f k l0 = some (r1, r2)) :
  Calls Tryz.prog 16 #[.slice A0 l0.length c0] w fun e w' => ∃ bQ : Value,e = .returned (.tuple #[bQ,.int .i64 r2]) ∧ Kd.S k30 30 w' w.heap.size (fun _ => True) bQ r1 ∧ Below w.heap.size w w' := by
 have b3 := Tryz.underlying30
 have a3 := aK bO
 have a4 := aK bP
 clear bO bP
 have HB := aK (Below.refl w.heap.size w)
 have H : (r33_Recover.l0 k l0 ([] : List (S30)) 0) = some (r1,r2) := h
 clear h
 have H' := aK H
 clear H
 go_enter Tryz.func16,Tryz.ntmps16
 go_wp2
 go_loopg [4,5] k (fun kq v4 v5 w' => ∃ (ag : List (S30)) (aq : Int),v5 = .int .i64 aq ∧ Aside0 (r33_Recover.l0 kq l0 ag aq = some (r1,r2)) ∧ Aside0 (kq ≤ k) ∧ Aside0 (Kd.S k30 30 w' w.heap.size (fun _ => True) v4 ag) ∧ Aside0 (Below w.heap.size w w'))
 case atStart => exact ⟨(([] : List (S30))),(0),(by first|rfl|(simp;done)|(simp [*];done)),H',⟨Nat.le_refl _⟩,⟨by first|exact Kd.S_nil _ _ _ _ _|exact Kd.N_nil _ _ _ _ _|exact Kd.V_nil _ _ _ _ _|exact Kd.Q_nil _ _ _ _ _|exact Kd.R_nil _ _ _ _ _⟩,⟨bM HB.out⟩⟩
 case round =>
  clear H'
  obtain ⟨ag,aq,rfl,HA,bR,ab,HB⟩ := hrel
  cases gk with
 |zero => exact absurd HA.out (by simp [r33_Recover.l0])
 |succ k1 =>
   have H := HA.out
   clear HA
   simp only [r33_Recover.l0] at H
   replace H := Option.bind_eq_some_iff.mp H
   obtain ⟨⟨ax,aD,aM⟩,bS,H⟩ := H
   replace H : (if aM = 0 then ((r33_Decode.f k1 ax).bind fun aA => (if aA.2.2.2.2.2.2 = 0 then (if aA.1 = (wrap64 ((ag.length : Int) + 1)) then (if ag.length < 1466015503701 then (r33_Recover.l0 k1 l0 (ag ++ [(⟨aA.1,aA.2.1,aA.2.2.1,aA.2.2.2.1,aA.2.2.2.2.1,aA.2.2.2.2.2.1⟩ : S30)]) aD) else (none)) else (some (ag,aq))) else (some (ag,aq)))) else (some (ag,aq))) = some (r1,r2) := H
   have A2 := aK bS
   clear bS
   by_cases c3 : aM = 0
   ·rw [if_pos c3] at H
    have a5 := beq_iff_eq.mpr c3
    have a6 := bne_eq_false_iff_eq.mpr c3
    clear c3
    replace H := Option.bind_eq_some_iff.mp H
    obtain ⟨⟨ae,al,an,af,ah,am,aN⟩,bT,H⟩ := H
    replace H : (if aN = 0 then (if ae = (wrap64 ((ag.length : Int) + 1)) then (if ag.length < 1466015503701 then (r33_Recover.l0 k1 l0 (ag ++ [(⟨ae,al,an,af,ah,am⟩ : S30)]) aD) else (none)) else (some (ag,aq))) else (some (ag,aq))) = some (r1,r2) := H
    have A4 := aK bT
    clear bT
    by_cases c5 : aN = 0
    ·rw [if_pos c5] at H
     have a7 := beq_iff_eq.mpr c5
     have a8 := bne_eq_false_iff_eq.mpr c5
     clear c5
     by_cases c6 : ae = (wrap64 ((ag.length : Int) + 1))
     ·rw [if_pos c6] at H
      have a9 := beq_iff_eq.mpr c6
      have ba := bne_eq_false_iff_eq.mpr c6
      clear c6
      obtain ⟨c7,H⟩ := iS H
      have bb := aK c7
      clear c7
      obtain ⟨aX,aE⟩ : ∃ y_ : List (S30),y_ = (ag ++ [(⟨ae,al,an,af,ah,am⟩ : S30)]) := ⟨_,rfl⟩
      replace H : (r33_Recover.l0 k1 l0 aX aD) = some (r1,r2) := by first|(rw [aE];with_reducible exact H)|(have bc := (Option.bind_some _ _).symm.trans H;rw [aE];with_reducible exact bc)|(have bc := (Option.bind_some _ _).symm.trans H;with_reducible exact bc)|with_reducible exact H|(rw [aE];exact H)|exact H
      have aY := aK aE
      clear aE
      have H' := aK H
      clear H
      go_wp2_with (first|((with_reducible refine gate_callee (f := 48) rfl ?_);refine gL 15 Tryz.func48 #[.slice A0 l0.length c0,.int .i64 aq,.int .i64 (l0.length : Int)] ?_;(with_reducible refine (r04_Open.calls k1 _ _ l0 aq (l0.length : Int) ax aD aM _ ?ao ?ap A2.out).mono ?_);(case ao => exact cM (Kd.C_below a3.out HB.out));(case ap => exact a4.out);rintro e w8 ⟨aV,rfl,aC,hb⟩;refine ⟨_,rfl,?_⟩;replace ab := aK (Kd.S_below (by (with_reducible repeat (first|apply Kd.S_alloc|apply Kd.S_drewN|apply Kd.S_drew));exact ab.out) hb);have ac := aK (Kd.R_lower aC (below_size (bM HB.out)));replace HB := aK (below_step (bM HB.out) hb);(try clear hb);(try clear hk);(try clear aC);obtain ⟨bU,bV,b4⟩ := Kd.R_slice ac.out;subst b4)|((with_reducible refine gate_callee (f := 11) rfl ?_);refine gL 25 Tryz.func11 #[.slice bU ax.length bV] ?_;(with_reducible refine (r33_Decode.calls k1 _ _ ax ae al an af ah am aN _ ?ao ?ap A4.out).mono ?_);(case ao => exact cM (Kd.R_reads' ac.out).2.2);(case ap => exact (Kd.R_reads' ac.out).2.1);rintro e b9 ⟨aZ,a0,a1,rfl,aC,aQ,aR,hb⟩;refine ⟨_,rfl,?_⟩;replace ab := aK (Kd.S_mono (Kd.S_told (Kd.S_told (Kd.S_told (Kd.S_old (by (with_reducible repeat (first|apply Kd.S_alloc|apply Kd.S_drewN|apply Kd.S_drew));exact ab.out) hb) (Kd.R_base aC)) (Kd.R_base aQ)) (Kd.R_base aR)) (fun _ h_ => h_.1));replace ac := aK (Kd.R_below (rM ac.out) hb);have ai := aK (Kd.R_lower aC (below_size (bM HB.out)));have aj := aK (Kd.R_lower aQ (below_size (bM HB.out)));have ak := aK (Kd.R_lower aR (below_size (bM HB.out)));replace HB := aK (below_step (bM HB.out) hb);(try clear hb);(try clear hk);(try clear aC);(try clear aQ);(try clear aR))|((with_reducible refine gate_dst (N := 9) rfl ?_);(try (refine gate_guard (by rfl) ?_;dsimp only));refine box_event ?hg (N := 9) ?hd (cs := #[.int .i64 0,.int .i64 0,.int .i64 0,.slice none 0 0,.slice none 0 0,.slice none 0 0]) (t := 30) ?hr ?_;(case hd => rfl);(case hg => rfl);(case hr => first|(go_simp;done)|(go_simp;rfl));intro aa hg b5 hbox hb;replace ab := aK (Kd.S_below (Kd.S_elderB (by (with_reducible repeat (first|apply Kd.S_alloc|apply Kd.S_drewN|apply Kd.S_drew));exact ab.out) aa (Nat.le_of_eq hg.symm)) hb);replace ac := aK (Kd.R_below (rM ac.out) hb);replace ai := aK (Kd.R_below (rM ai.out) hb);replace aj := aK (Kd.R_below (rM aj.out) hb);replace ak := aK (Kd.R_below (rM ak.out) hb);have ad := aK (hbox);have aG := aK ((by rw [hg];exact (below_size (bM HB.out)) : w.heap.size ≤ aa));have aT := Ge.mk aG.out;have aH := aK ((by rw [hg];exact (below_size (bM HB.out)) : w.heap.size ≤ aa));have aU := Ge.mk aH.out;replace HB := aK (below_step (bM HB.out) hb);clear hb hbox hg;obtain ⟨_,_,_,_,_,_,_,_,_,_,_,_⟩ := bk6_ ad.out;obtain ⟨ar,au,bd⟩ := Kd.R_slice ai.out;subst bd;obtain ⟨av,aw,be⟩ := Kd.R_slice aj.out;subst be;obtain ⟨ay,az,bf⟩ := Kd.R_slice ak.out;subst bf)|((with_reducible refine gate_store (t := 30) (p := 9) rfl ?_);refine store_event (t := 30) (p := 9) (v := ?bg) (w1 := ((((((b5.setCell ⟨aa,0,none⟩ (.int .i64 ae)).setCell ⟨aa,1,none⟩ (.int .i64 al)).setCell ⟨aa,2,none⟩ (.int .i64 an)).setCell ⟨aa,3,none⟩ (.slice ar af.length au)).setCell ⟨aa,4,none⟩ (.slice av ah.length aw)).setCell ⟨aa,5,none⟩ (.slice ay am.length az))) ?hg ?ho ?hn ?hr ?_;(case ho => rfl);(case hg => rfl);(case hn => rfl);(case hr => first|(go_simp;done)|(go_simp;rfl));intro aW hw;have bW : Aside0 (Kd.S k30 30 aW w.heap.size (fun k_ => some k_ ≠ (.slice ar af.length au : Value).ownBlock ∧ some k_ ≠ (.slice av ah.length aw : Value).ownBlock ∧ some k_ ≠ (.slice ay am.length az : Value).ownBlock ∧ k_ ≠ aa) u4 ag) := ⟨(by rw [hw];exact (by (with_reducible repeat (first|apply Kd.S_alloc|apply Kd.S_drewN|apply Kd.S_drew));exact Kd.S_mono (Kd.S_far (p := ⟨aa,5,none⟩) (Kd.S_far (p := ⟨aa,4,none⟩) (Kd.S_far (p := ⟨aa,3,none⟩) (Kd.S_far (p := ⟨aa,2,none⟩) (Kd.S_far (p := ⟨aa,1,none⟩) (Kd.S_far (p := ⟨aa,0,none⟩) (Kd.S_mono ab.out (fun k_ hk => (⟨hk,hk.2⟩ : _ ∧ k_ ≠ aa))) (fun _ hk => hk.2) (.int .i64 ae)) (fun _ hk => hk.2) (.int .i64 al)) (fun _ hk => hk.2) (.int .i64 an)) (fun _ hk => hk.2) (.slice ar af.length au)) (fun _ hk => hk.2) (.slice av ah.length aw)) (fun _ hk => hk.2) (.slice ay am.length az)) (fun _ hk => ⟨hk.1.1.1.1.2,⟨hk.1.1.1.2,⟨hk.1.1.2,hk.1.2⟩⟩⟩)))⟩;have bX : Aside0 (Kd.R (Kd.int .u8) 5 aW w.heap.size (fun _ => True) (.slice bU ax.length bV) ax) := ⟨(by rw [hw];exact (by (with_reducible repeat (first|apply Kd.R_alloc|apply Kd.R_drewN|apply Kd.R_drew));exact Kd.R_mono (Kd.R_far (p := ⟨aa,5,none⟩) (Kd.R_far (p := ⟨aa,4,none⟩) (Kd.R_far (p := ⟨aa,3,none⟩) (Kd.R_far (p := ⟨aa,2,none⟩) (Kd.R_far (p := ⟨aa,1,none⟩) (Kd.R_far (p := ⟨aa,0,none⟩) (Kd.R_types ac.out ad.out (by decide)) (fun _ hk => hk.2) (.int .i64 ae)) (fun _ hk => hk.2) (.int .i64 al)) (fun _ hk => hk.2) (.int .i64 an)) (fun _ hk => hk.2) (.slice ar af.length au)) (fun _ hk => hk.2) (.slice av ah.length aw)) (fun _ hk => hk.2) (.slice ay am.length az)) (fun _ hk => trivial)))⟩;have bY : Aside0 (Kd.R (Kd.int .i64) 3 aW w.heap.size (fun k_ => some k_ ≠ (.slice av ah.length aw : Value).ownBlock) (.slice ar af.length au) af) := ⟨(by rw [hw];exact (by (with_reducible repeat (first|apply Kd.R_alloc|apply Kd.R_drewN|apply Kd.R_drew));exact Kd.R_mono (Kd.R_far (p := ⟨aa,5,none⟩) (Kd.R_far (p := ⟨aa,4,none⟩) (Kd.R_far (p := ⟨aa,3,none⟩) (Kd.R_far (p := ⟨aa,2,none⟩) (Kd.R_far (p := ⟨aa,1,none⟩) (Kd.R_far (p := ⟨aa,0,none⟩) (Kd.R_types ai.out ad.out (by decide)) (fun _ hk => hk.2) (.int .i64 ae)) (fun _ hk => hk.2) (.int .i64 al)) (fun _ hk => hk.2) (.int .i64 an)) (fun _ hk => hk.2) (.slice ar af.length au)) (fun _ hk => hk.2) (.slice av ah.length aw)) (fun _ hk => hk.2) (.slice ay am.length az)) (fun _ hk => hk.1)))⟩;have bZ : Aside0 (Kd.R (Kd.int .i64) 3 aW w.heap.size (fun k_ => some k_ ≠ (.slice ar af.length au : Value).ownBlock) (.slice av ah.length aw) ah) := ⟨(by rw [hw];exact (by (with_reducible repeat (first|apply Kd.R_alloc|apply Kd.R_drewN|apply Kd.R_drew));exact Kd.R_mono (Kd.R_far (p := ⟨aa,5,none⟩) (Kd.R_far (p := ⟨aa,4,none⟩) (Kd.R_far (p := ⟨aa,3,none⟩) (Kd.R_far (p := ⟨aa,2,none⟩) (Kd.R_far (p := ⟨aa,1,none⟩) (Kd.R_far (p := ⟨aa,0,none⟩) (Kd.R_types aj.out ad.out (by decide)) (fun _ hk => hk.2) (.int .i64 ae)) (fun _ hk => hk.2) (.int .i64 al)) (fun _ hk => hk.2) (.int .i64 an)) (fun _ hk => hk.2) (.slice ar af.length au)) (fun _ hk => hk.2) (.slice av ah.length aw)) (fun _ hk => hk.2) (.slice ay am.length az)) (fun _ hk => hk.1)))⟩;have b0 : Aside0 (Kd.R Kd.string 9 aW w.heap.size (fun _ => True) (.slice ay am.length az) am) := ⟨(by rw [hw];exact (by (with_reducible repeat (first|apply Kd.R_alloc|apply Kd.R_drewN|apply Kd.R_drew));exact Kd.R_mono (Kd.R_far (p := ⟨aa,5,none⟩) (Kd.R_far (p := ⟨aa,4,none⟩) (Kd.R_far (p := ⟨aa,3,none⟩) (Kd.R_far (p := ⟨aa,2,none⟩) (Kd.R_far (p := ⟨aa,1,none⟩) (Kd.R_far (p := ⟨aa,0,none⟩) (Kd.R_types ak.out ad.out (by decide)) (fun _ hk => hk.2) (.int .i64 ae)) (fun _ hk => hk.2) (.int .i64 al)) (fun _ hk => hk.2) (.int .i64 an)) (fun _ hk => hk.2) (.slice ar af.length au)) (fun _ hk => hk.2) (.slice av ah.length aw)) (fun _ hk => hk.2) (.slice ay am.length az)) (fun _ hk => trivial)))⟩;have b1 : Aside0 (aW.heap[aa]? = some (.cells #[.int .i64 ae,.int .i64 al,.int .i64 an,.slice ar af.length au,.slice av ah.length aw,.slice ay am.length az] 30 (0,0))) := ⟨(by rw [hw];exact (by refine kO ?_;refine blk_put (cs := #[.int .i64 ae,.int .i64 al,.int .i64 an,.slice ar af.length au,.slice av ah.length aw,.slice none 0 0]) ?_ 5 _ rfl;refine kO ?_;refine blk_put (cs := #[.int .i64 ae,.int .i64 al,.int .i64 an,.slice ar af.length au,.slice none 0 0,.slice none 0 0]) ?_ 4 _ rfl;refine kO ?_;refine blk_put (cs := #[.int .i64 ae,.int .i64 al,.int .i64 an,.slice none 0 0,.slice none 0 0,.slice none 0 0]) ?_ 3 _ rfl;refine kO ?_;refine blk_put (cs := #[.int .i64 ae,.int .i64 al,.int .i64 0,.slice none 0 0,.slice none 0 0,.slice none 0 0]) ?_ 2 _ rfl;refine kO ?_;refine blk_put (cs := #[.int .i64 ae,.int .i64 0,.int .i64 0,.slice none 0 0,.slice none 0 0,.slice none 0 0]) ?_ 1 _ rfl;refine kO ?_;refine blk_put (cs := #[.int .i64 0,.int .i64 0,.int .i64 0,.slice none 0 0,.slice none 0 0,.slice none 0 0]) ?_ 0 _ rfl;refine kO ?_;exact ad.out))⟩;have b2 : Aside0 (Below w.heap.size w aW) := ⟨(by rw [hw];exact (bG HB.out))⟩;clear hw;clear ab;clear ac;clear ai;clear aj;clear ak;clear ad;clear HB;have ab := bW;have ac := bX;have ai := bY;have aj := bZ;have ak := b0;have ad := b1;have HB := b2;clear bW bX bY bZ b0 b1 b2;obtain ⟨_,_,_,_,_,_,_,_,_,_,_,_⟩ := bk6_ ad.out;obtain ⟨aI,aJ,bh⟩ := Kd.S_slice ab.out;subst bh)|((with_reducible refine gate_builtin (b := .append) (xs := #[.tmp 40,.tmp 42]) rfl ?_);(try (refine gate_guard (by rfl) ?_;dsimp only));at_builtin;refine Kd.S_append k30 (w0 := w) w.heap.size rfl (.tmp 40) (.tmp 42) 22 30 (.agg #[(.int .i64 0),(.int .i64 0),(.int .i64 0),(.slice none 0 0),(.slice none 0 0),(.slice none 0 0)]) 96 rfl Tryz.underlying22 info30 rfl (by decide) (by omega) (.slice aI ag.length aJ) ag (⟨ae,al,an,af,ah,am⟩ : S30) [.int .i64 ae,.int .i64 al,.int .i64 an,.slice ar af.length au,.slice av ah.length aw,.slice ay am.length az] (fun k_ => k_ ≠ aa) (fun k_ => some k_ = (.slice ar af.length au : Value).ownBlock ∨ some k_ = (.slice av ah.length aw : Value).ownBlock ∨ some k_ = (.slice ay am.length az : Value).ownBlock) rfl rfl ?aP (fun k_ hk_ => hk_.elim (fun h_ => ((Kd.R_mono (ok' := fun k_ => ((fun k_ => k_ ≠ aa)) k_ ∧ some k_ ≠ (.slice aI ag.length aJ : Value).ownBlock) (Kd.R_types (Kd.R_apart' (ai.out) (Kd.S_typed ab.out) (by decide)) ad.out (by decide)) (fun k_ hk => ⟨hk.2,hk.1.2⟩))).1 k_ h_.symm) (fun h_ => h_.elim (fun h_ => ((Kd.R_mono (ok' := fun k_ => ((fun k_ => k_ ≠ aa)) k_ ∧ some k_ ≠ (.slice aI ag.length aJ : Value).ownBlock) (Kd.R_types (Kd.R_apart' (aj.out) (Kd.S_typed ab.out) (by decide)) ad.out (by decide)) (fun k_ hk => ⟨hk.2,hk.1.2⟩))).1 k_ h_.symm) (fun h_ => ((Kd.R_mono (ok' := fun k_ => ((fun k_ => k_ ≠ aa)) k_ ∧ some k_ ≠ (.slice aI ag.length aJ : Value).ownBlock) (Kd.R_types (Kd.R_apart' (ak.out) (Kd.S_typed ab.out) (by decide)) ad.out (by decide)) (fun k_ hk => ⟨hk.2,hk.1.2⟩))).1 k_ h_.symm))) ?aF ?aO ?aB ?aS ?aL ?_;(case aP => exact k30_mkM _ _ _ (⟨ae,al,an,af,ah,am⟩ : S30) (Kd.R_mono (Kd.R_tight rfl (Kd.R_mono (ok' := fun k_ => ((fun k_ => k_ ≠ aa)) k_ ∧ some k_ ≠ (.slice aI ag.length aJ : Value).ownBlock) (Kd.R_types (Kd.R_apart' (ai.out) (Kd.S_typed ab.out) (by decide)) ad.out (by decide)) (fun k_ hk => ⟨hk.2,hk.1.2⟩))) (fun _ h_ => Or.inl h_)) (Kd.R_mono (Kd.R_tight rfl (Kd.R_mono (ok' := fun k_ => ((fun k_ => k_ ≠ aa)) k_ ∧ some k_ ≠ (.slice aI ag.length aJ : Value).ownBlock) (Kd.R_types (Kd.R_apart' (aj.out) (Kd.S_typed ab.out) (by decide)) ad.out (by decide)) (fun k_ hk => ⟨hk.2,hk.1.2⟩))) (fun _ h_ => Or.inr (Or.inl h_))) (Kd.R_mono (Kd.R_tight rfl (Kd.R_mono (ok' := fun k_ => ((fun k_ => k_ ≠ aa)) k_ ∧ some k_ ≠ (.slice aI ag.length aJ : Value).ownBlock) (Kd.R_types (Kd.R_apart' (ak.out) (Kd.S_typed ab.out) (by decide)) ad.out (by decide)) (fun k_ hk => ⟨hk.2,hk.1.2⟩))) (fun _ h_ => Or.inr (Or.inr (h_)))));(case aB => exact (bG HB.out));(case aF => exact (fun k_ hk => Kd.freshB (g := aa) (o := .cells #[.int .i64 ae,.int .i64 al,.int .i64 an,.slice ar af.length au,.slice av ah.length aw,.slice ay am.length az] 30 (0,0)) (kM ad.out) k_ hk));(case aO => exact (by (with_reducible repeat (first|apply Kd.S_alloc|apply Kd.S_drewN|apply Kd.S_drew));exact Kd.S_mono ab.out (fun k_ hk => ⟨hk.2.2.2,fun e_ => e_.elim (fun h_ => hk.1 h_) (fun h_ => h_.elim (fun h_ => hk.2.1 h_) (fun h_ => hk.2.2.1 h_))⟩)));(case aS => exact (below_size (bG HB.out)));(case aL => have := bb.out;omega);intro b6 ca ho hb hg hat;rw [← aY.out] at ho;replace ac := aK (Kd.R_over' (rM ac.out) (Kd.S_typed (by (with_reducible repeat (first|apply Kd.S_alloc|apply Kd.S_drewN|apply Kd.S_drew));exact ab.out)) (by decide) hg);replace ad := aK (blk_grown (g := aa) (o := .cells #[.int .i64 ae,.int .i64 al,.int .i64 an,.slice ar af.length au,.slice av ah.length aw,.slice ay am.length az] 30 (0,0)) (kM ad.out) hg (Kd.S_away ab.out (fun _ hk => hk.2.2.2)));replace HB := aK (hb);have a2 := aK (ho);clear ho hb hg hat))
      go_roundg k1
      case measure => have := bR.out;omega
      case rel => exact ⟨(aX),(aD),(by first|rfl|(simp;done)|(simp [*];done)),H',⟨by have := bR.out;omega⟩,⟨by refine sO ?_;exact Kd.S_mono a2.out (fun _ hk => trivial)⟩,⟨bG HB.out⟩⟩
     ·rw [if_neg c6] at H
      have a9 := beq_eq_false_iff_ne.mpr c6
      have ba := bne_iff_ne.mpr c6
      simp only [Option.some.injEq,Prod.mk.injEq] at H
      obtain ⟨rfl,rfl⟩ := H
      go_wp2_with (first|((with_reducible refine gate_callee (f := 48) rfl ?_);refine gL 15 Tryz.func48 #[.slice A0 l0.length c0,.int .i64 aq,.int .i64 (l0.length : Int)] ?_;(with_reducible refine (r04_Open.calls k1 _ _ l0 aq (l0.length : Int) ax aD aM _ ?ao ?ap A2.out).mono ?_);(case ao => exact cM (Kd.C_below a3.out HB.out));(case ap => exact a4.out);rintro e cb ⟨aV,rfl,aC,hb⟩;refine ⟨_,rfl,?_⟩;replace ab := aK (Kd.S_below (by (with_reducible repeat (first|apply Kd.S_alloc|apply Kd.S_drewN|apply Kd.S_drew));exact ab.out) hb);have ac := aK (Kd.R_lower aC (below_size (bM HB.out)));replace HB := aK (below_step (bM HB.out) hb);(try clear hb);(try clear hk);(try clear aC);obtain ⟨bi,bj,bk⟩ := Kd.R_slice ac.out;subst bk)|((with_reducible refine gate_callee (f := 11) rfl ?_);refine gL 25 Tryz.func11 #[.slice bi ax.length bj] ?_;(with_reducible refine (r33_Decode.calls k1 _ _ ax ae al an af ah am aN _ ?ao ?ap A4.out).mono ?_);(case ao => exact cM (Kd.R_reads' ac.out).2.2);(case ap => exact (Kd.R_reads' ac.out).2.1);rintro e cc ⟨aZ,a0,a1,rfl,aC,aQ,aR,hb⟩;refine ⟨_,rfl,?_⟩;replace ab := aK (Kd.S_mono (Kd.S_told (Kd.S_told (Kd.S_told (Kd.S_old (by (with_reducible repeat (first|apply Kd.S_alloc|apply Kd.S_drewN|apply Kd.S_drew));exact ab.out) hb) (Kd.R_base aC)) (Kd.R_base aQ)) (Kd.R_base aR)) (fun _ h_ => h_.1));replace ac := aK (Kd.R_below (rM ac.out) hb);have ai := aK (Kd.R_lower aC (below_size (bM HB.out)));have aj := aK (Kd.R_lower aQ (below_size (bM HB.out)));have ak := aK (Kd.R_lower aR (below_size (bM HB.out)));replace HB := aK (below_step (bM HB.out) hb);(try clear hb);(try clear hk);(try clear aC);(try clear aQ);(try clear aR))|((with_reducible refine gate_dst (N := 9) rfl ?_);(try (refine gate_guard (by rfl) ?_;dsimp only));refine box_event ?hg (N := 9) ?hd (cs := #[.int .i64 0,.int .i64 0,.int .i64 0,.slice none 0 0,.slice none 0 0,.slice none 0 0]) (t := 30) ?hr ?_;(case hd => rfl);(case hg => rfl);(case hr => first|(go_simp;done)|(go_simp;rfl));intro aa hg cd hbox hb;replace ab := aK (Kd.S_below (Kd.S_elderB (by (with_reducible repeat (first|apply Kd.S_alloc|apply Kd.S_drewN|apply Kd.S_drew));exact ab.out) aa (Nat.le_of_eq hg.symm)) hb);replace ac := aK (Kd.R_below (rM ac.out) hb);replace ai := aK (Kd.R_below (rM ai.out) hb);replace aj := aK (Kd.R_below (rM aj.out) hb);replace ak := aK (Kd.R_below (rM ak.out) hb);have ad := aK (hbox);have aG := aK ((by rw [hg];exact (below_size (bM HB.out)) : w.heap.size ≤ aa));have aT := Ge.mk aG.out;have aH := aK ((by rw [hg];exact (below_size (bM HB.out)) : w.heap.size ≤ aa));have aU := Ge.mk aH.out;replace HB := aK (below_step (bM HB.out) hb);clear hb hbox hg;obtain ⟨_,_,_,_,_,_,_,_,_,_,_,_⟩ := bk6_ ad.out;obtain ⟨bm,bn,bo⟩ := Kd.R_slice ai.out;subst bo;obtain ⟨bp,bq,br⟩ := Kd.R_slice aj.out;subst br;obtain ⟨bs,bu,bv⟩ := Kd.R_slice ak.out;subst bv;obtain ⟨b7,b8,bx⟩ := Kd.S_slice ab.out;subst bx))
      go_ret2
      exact ⟨_,by first|rfl|(simp [errW_none,errW_some] <;> rfl)|(simp [*,errW_none,errW_some] <;> rfl),by (with_reducible repeat (first|apply Kd.S_alloc|apply Kd.S_drewN|apply Kd.S_drew));exact Kd.S_mono (Kd.S_far (p := ⟨aa,5,none⟩) (Kd.S_far (p := ⟨aa,4,none⟩) (Kd.S_far (p := ⟨aa,3,none⟩) (Kd.S_far (p := ⟨aa,2,none⟩) (Kd.S_far (p := ⟨aa,1,none⟩) (Kd.S_far (p := ⟨aa,0,none⟩) (Kd.S_mono ab.out (fun k_ hk => (⟨hk,hk.2⟩ : _ ∧ k_ ≠ aa))) (fun _ hk => hk.2) (.int .i64 ae)) (fun _ hk => hk.2) (.int .i64 al)) (fun _ hk => hk.2) (.int .i64 an)) (fun _ hk => hk.2) (.slice bm af.length bn)) (fun _ hk => hk.2) (.slice bp ah.length bq)) (fun _ hk => hk.2) (.slice bs am.length bu)) (fun _ hk => trivial),bG HB.out⟩
    ·rw [if_neg c5] at H
     have a7 := beq_eq_false_iff_ne.mpr c5
     have a8 := bne_iff_ne.mpr c5
     simp only [Option.some.injEq,Prod.mk.injEq] at H
     obtain ⟨rfl,rfl⟩ := H
     go_wp2_with (first|((with_reducible refine gate_callee (f := 48) rfl ?_);refine gL 15 Tryz.func48 #[.slice A0 l0.length c0,.int .i64 aq,.int .i64 (l0.length : Int)] ?_;(with_reducible refine (r04_Open.calls k1 _ _ l0 aq (l0.length : Int) ax aD aM _ ?ao ?ap A2.out).mono ?_);(case ao => exact cM (Kd.C_below a3.out HB.out));(case ap => exact a4.out);rintro e ce ⟨aV,rfl,aC,hb⟩;refine ⟨_,rfl,?_⟩;replace ab := aK (Kd.S_below (by (with_reducible repeat (first|apply Kd.S_alloc|apply Kd.S_drewN|apply Kd.S_drew));exact ab.out) hb);have ac := aK (Kd.R_lower aC (below_size (bM HB.out)));replace HB := aK (below_step (bM HB.out) hb);(try clear hb);(try clear hk);(try clear aC);obtain ⟨bz,bB,bC⟩ := Kd.R_slice ac.out;subst bC)|((with_reducible refine gate_callee (f := 11) rfl ?_);refine gL 25 Tryz.func11 #[.slice bz ax.length bB] ?_;(with_reducible refine (r33_Decode.calls k1 _ _ ax ae al an af ah am aN _ ?ao ?ap A4.out).mono ?_);(case ao => exact cM (Kd.R_reads' ac.out).2.2);(case ap => exact (Kd.R_reads' ac.out).2.1);rintro e cf ⟨aZ,a0,a1,rfl,aC,aQ,aR,hb⟩;refine ⟨_,rfl,?_⟩;replace ab := aK (Kd.S_mono (Kd.S_told (Kd.S_told (Kd.S_told (Kd.S_old (by (with_reducible repeat (first|apply Kd.S_alloc|apply Kd.S_drewN|apply Kd.S_drew));exact ab.out) hb) (Kd.R_base aC)) (Kd.R_base aQ)) (Kd.R_base aR)) (fun _ h_ => h_.1));have ai := aK (Kd.R_lower aC (below_size (bM HB.out)));have aj := aK (Kd.R_lower aQ (below_size (bM HB.out)));have ak := aK (Kd.R_lower aR (below_size (bM HB.out)));replace HB := aK (below_step (bM HB.out) hb);(try clear hb);(try clear hk);(try clear aC);(try clear aQ);(try clear aR))|((with_reducible refine gate_dst (N := 9) rfl ?_);(try (refine gate_guard (by rfl) ?_;dsimp only));refine box_event ?hg (N := 9) ?hd (cs := #[.int .i64 0,.int .i64 0,.int .i64 0,.slice none 0 0,.slice none 0 0,.slice none 0 0]) (t := 30) ?hr ?_;(case hd => rfl);(case hg => rfl);(case hr => first|(go_simp;done)|(go_simp;rfl));intro aa hg cg hbox hb;replace ab := aK (Kd.S_below (Kd.S_elderB (by (with_reducible repeat (first|apply Kd.S_alloc|apply Kd.S_drewN|apply Kd.S_drew));exact ab.out) aa (Nat.le_of_eq hg.symm)) hb);replace ai := aK (Kd.R_below (rM ai.out) hb);replace aj := aK (Kd.R_below (rM aj.out) hb);replace ak := aK (Kd.R_below (rM ak.out) hb);have ad := aK (hbox);have aG := aK ((by rw [hg];exact (below_size (bM HB.out)) : w.heap.size ≤ aa));have aT := Ge.mk aG.out;have aH := aK ((by rw [hg];exact (below_size (bM HB.out)) : w.heap.size ≤ aa));have aU := Ge.mk aH.out;replace HB := aK (below_step (bM HB.out) hb);clear hb hbox hg;obtain ⟨_,_,_,_,_,_,_,_,_,_,_,_⟩ := bk6_ ad.out;obtain ⟨bD,bE,bF⟩ := Kd.R_slice ai.out;subst bF;obtain ⟨bH,bI,bJ⟩ := Kd.R_slice aj.out;subst bJ;obtain ⟨bK,bL,bN⟩ := Kd.R_slice ak.out;subst bN))
     go_ret2
     exact ⟨_,by first|rfl|(simp [errW_none,errW_some] <;> rfl)|(simp [*,errW_none,errW_some] <;> rfl),by (with_reducible repeat (first|apply Kd.S_alloc|apply Kd.S_drewN|apply Kd.S_drew));exact Kd.S_mono (Kd.S_far (p := ⟨aa,5,none⟩) (Kd.S_far (p := ⟨aa,4,none⟩) (Kd.S_far (p := ⟨aa,3,none⟩) (Kd.S_far (p := ⟨aa,2,none⟩) (Kd.S_far (p := ⟨aa,1,none⟩) (Kd.S_far (p := ⟨aa,0,none⟩) (Kd.S_mono ab.out (fun k_ hk => (⟨hk,hk.2⟩ : _ ∧ k_ ≠ aa))) (fun _ hk => hk.2) (.int .i64 ae)) (fun _ hk => hk.2) (.int .i64 al)) (fun _ hk => hk.2) (.int .i64 an)) (fun _ hk => hk.2) (.slice bD af.length bE)) (fun _ hk => hk.2) (.slice bH ah.length bI)) (fun _ hk => hk.2) (.slice bK am.length bL)) (fun _ hk => trivial),bG HB.out⟩
   ·rw [if_neg c3] at H
    have a5 := beq_eq_false_iff_ne.mpr c3
    have a6 := bne_iff_ne.mpr c3
    simp only [Option.some.injEq,Prod.mk.injEq] at H
    obtain ⟨rfl,rfl⟩ := H
    go_wp2_with (first|((with_reducible refine gate_callee (f := 48) rfl ?_);refine gL 15 Tryz.func48 #[.slice A0 l0.length c0,.int .i64 aq,.int .i64 (l0.length : Int)] ?_;(with_reducible refine (r04_Open.calls k1 _ _ l0 aq (l0.length : Int) ax aD aM _ ?ao ?ap A2.out).mono ?_);(case ao => exact cM (Kd.C_below a3.out HB.out));(case ap => exact a4.out);rintro e ch ⟨aV,rfl,aC,hb⟩;refine ⟨_,rfl,?_⟩;replace ab := aK (Kd.S_below (by (with_reducible repeat (first|apply Kd.S_alloc|apply Kd.S_drewN|apply Kd.S_drew));exact ab.out) hb);replace HB := aK (below_step (bM HB.out) hb);(try clear hb);(try clear hk);(try clear aC)))
    go_ret2
    exact ⟨_,by first|rfl|(simp [errW_none,errW_some] <;> rfl)|(simp [*,errW_none,errW_some] <;> rfl),by refine sO ?_;exact ab.out,bM HB.out⟩
mutual
def r04_Seal.l0 : Nat → List Int → List Int → Int → Option (List Int)
|0,_,_,_ => none
|k + 1,x0,x3,x4 => if x4 < (x0.length : Int) then (if 0 ≤ x4 then (if x3.length < 140737488355328 then (r04_Seal.l0 k x0 (x3 ++ [rd x0 x4]) (wrap64 (x4 + 1))) else (none)) else (none)) else ((r04_Sum.f k x3).bind fun aa => ((r04_four.f aa).bind fun ab => (r04_Seal.l1 k x3 ab 0)))
def r04_Seal.l1 : Nat → List Int → List Int → Int → Option (List Int)
|0,_,_,_ => none
|k + 1,x3,x5,x6 => if x6 < 4 then (if 0 ≤ x6 then (if x6 < (x5.length : Int) then (if x3.length < 140737488355328 then (r04_Seal.l1 k (x3 ++ [rd x5 x6]) x5 (wrap64 (x6 + 1))) else (none)) else (none)) else (none)) else (some x3)
end
def r04_Seal.f (k : Nat) (l0 : List Int) : Option (List Int) := (r03_Put.f k ([] : List Int) (l0.length : Int)).bind fun aa => (r04_Seal.l0 k l0 aa 0)
theorem r04_Seal.mono_l : ∀ k, (∀ y0 y1 y2, LeO (r04_Seal.l0 k y0 y1 y2) (r04_Seal.l0 (k + 1) y0 y1 y2)) ∧ (∀ y0 y1 y2, LeO (r04_Seal.l1 k y0 y1 y2) (r04_Seal.l1 (k + 1) y0 y1 y2))
|0 => ⟨fun _ _ _ r h => by simp [r04_Seal.l0] at h,fun _ _ _ r h => by simp [r04_Seal.l1] at h⟩
|k + 1 => by
  obtain ⟨ih0,ih1⟩ := r04_Seal.mono_l k
  refine ⟨?_,?_⟩
  ·intro y0 y1 y2
   unfold r04_Seal.l0
   repeat' (with_reducible first|exact ih0 _ _ _|exact ih1 _ _ _|exact r04_Sum.mono _ _|exact LeO.refl _|exact LeO.none _|refine LeO.ite ?_ ?_|refine LeO.bind ?_ (fun _ => ?_))
  ·intro y0 y1 y2
   unfold r04_Seal.l1
   repeat' (with_reducible first|exact ih1 _ _ _|exact LeO.refl _|exact LeO.none _|refine LeO.ite ?_ ?_|refine LeO.bind ?_ (fun _ => ?_))
theorem r04_Seal.mono : ∀ a0 k, LeO (r04_Seal.f k a0) (r04_Seal.f (k + 1) a0) := by
 intro a0 k
 obtain ⟨ih0,ih1⟩ := r04_Seal.mono_l k
 unfold r04_Seal.f
 repeat' (with_reducible first|exact ih0 _ _ _|exact ih1 _ _ _|exact r03_Put.mono _ _ _|exact r04_Sum.mono _ _|exact LeO.refl _|exact LeO.none _|refine LeO.ite ?_ ?_|refine LeO.bind ?_ (fun _ => ?_))
theorem r04_Seal.calls (k : Nat) (A0 : Option Addr) (c0 : Nat) (l0 : List Int) (r : List Int) (w : World) (a1 : Kd.C (Kd.int .u8) w A0 l0.length l0) (a2 : l0.length ≤ c0) (h : r04_Seal.f k l0 = some r) :
  Calls Tryz.prog 50 #[.slice A0 l0.length c0] w fun e w' => ∃ a3 : Value,e = .returned (a3) ∧ Kd.R (Kd.int .u8) 5 w' w.heap.size (fun _ => True) a3 r ∧ Below w.heap.size w w' := by
 have be := aK a1
 have bk := aK a2
 clear a1 a2
 have HB := aK (Below.refl w.heap.size w)
 have H : ((r03_Put.f k ([] : List Int) (l0.length : Int)).bind fun am => (r04_Seal.l0 k l0 am 0)) = some r := h
 clear h
 replace H := Option.bind_eq_some_iff.mp H
 obtain ⟨am,a4,H⟩ := H
 have A2 := aK a4
 clear a4
 have H' := aK H
 clear H
 go_enter Tryz.func50,Tryz.ntmps50
 go_wp2_with (first|(go_at_call 44;refine calls_of_args (args' := #[.slice none ([] : List Int).length 0,.int .i64 (l0.length : Int)]) (by first|with_reducible rfl|(simp only [List.length_nil];done)|(simp only [List.length_nil];with_reducible rfl)) ?_;(with_reducible refine (r03_Put.calls k _ _ ([] : List Int) (l0.length : Int) am _ ?aj ?ak A2.out).mono ?_);(case aj => exact Kd.C_nil _ _);(case ak => exact Nat.le_refl _);rintro e w3 ⟨bf,rfl,av,hb⟩;have ax := aK (Kd.R_lower av (below_size (bM HB.out)));replace HB := aK (below_step (bM HB.out) hb);(try clear hb);(try clear hk);(try clear av)))
 go_loopg [3,4] k (fun kq v3 v4 w' => ∃ (af : List Int) (aa : Int),v4 = .int .i64 aa ∧ Aside0 (r04_Seal.l0 kq l0 af aa = some r) ∧ Aside0 (kq ≤ k) ∧ Aside0 (Kd.R (Kd.int .u8) 5 w' w.heap.size (fun _ => True) v3 af) ∧ Aside0 (Below w.heap.size w w'))
 case atStart => exact ⟨(am),(0),(by first|rfl|(simp;done)|(simp [*];done)),H',⟨Nat.le_refl _⟩,⟨rM ax.out⟩,⟨bM HB.out⟩⟩
 case round =>
  clear H'
  try clear p2
  obtain ⟨af,aa,rfl,HA,aQ,ac,HB⟩ := hrel
  cases gk with
 |zero => exact absurd HA.out (by simp [r04_Seal.l0])
 |succ k1 =>
   have H := HA.out
   clear HA
   simp only [r04_Seal.l0] at H
   by_cases c4 : aa < (l0.length : Int)
   ·rw [if_pos c4] at H
    have ay := decide_eq_true c4
    clear c4
    obtain ⟨c5,H⟩ := iS H
    have bg := decide_eq_true c5
    clear c5
    obtain ⟨c6,H⟩ := iS H
    have aT := aK c6
    clear c6
    obtain ⟨az,ag⟩ : ∃ y_ : List Int,y_ = (af ++ [rd l0 aa]) := ⟨_,rfl⟩
    replace H : (r04_Seal.l0 k1 l0 az (wrap64 (aa + 1))) = some r := by first|(rw [ag];with_reducible exact H)|(have ap := (Option.bind_some _ _).symm.trans H;rw [ag];with_reducible exact ap)|(have ap := (Option.bind_some _ _).symm.trans H;with_reducible exact ap)|with_reducible exact H|(rw [ag];exact H)|exact H
    have aA := aK ag
    clear ag
    have H' := aK H
    clear H
    have an : 0 ≤ (aa : Int) := dA
    have ao : aa < (l0.length : Int) := dA
    obtain ⟨a5,aU,ad⟩ := Kd.at_int be.out aa an ao
    cases aU
    replace ad := xM HB ad
    replace an := eq_true an
    replace ao := eq_true ao
    go_wp2_with (first|((with_reducible refine gate_builtin (b := .append) (xs := #[.tmp 16,.tmp 21]) rfl ?_);at_builtin;refine Kd.R_append (Kd.int .u8) (w0 := w) w.heap.size rfl (.tmp 16) (.tmp 21) 31 5 (.int .u8 0) 1 rfl Tryz.underlying31 info5 rfl (by decide) (by omega) u3 af (rd l0 aa) [.int .u8 (rd l0 aa)] (fun _ => True) (fun _ => False) rfl rfl ?aP (fun _ hk => hk.elim) ?aF ?aO ?aB ?aS ?aL ?_;(case aP => exact rfl);(case aB => exact (bM HB.out));(case aF => exact (fun _ _ => trivial));(case aO => exact (rM ac.out));(case aS => exact (below_size (bM HB.out)));(case aL => have := aT.out;omega);intro bh w7 ho hb hg hat;rw [← aA.out] at ho;replace HB := aK (hb);have aC := aK (ho);clear ho hb hg hat))
    go_roundg k1
    case measure => have := aQ.out;omega
    case rel => exact ⟨(az),(wrap64 (aa + 1)),(by first|rfl|(simp;done)|(simp [*];done)),H',⟨by have := aQ.out;omega⟩,⟨rM aC.out⟩,⟨bM HB.out⟩⟩
   ·rw [if_neg c4] at H
    have ay := decide_eq_false c4
    clear c4
    replace H := Option.bind_eq_some_iff.mp H
    obtain ⟨aq,a6,H⟩ := H
    have A8 := aK a6
    clear a6
    replace H := Option.bind_eq_some_iff.mp H
    obtain ⟨ae,a7,H⟩ := H
    have A9 := aK a7
    clear a7
    have H' := aK H
    clear H
    obtain ⟨aV,aW,aX⟩ := Kd.R_slice ac.out
    subst aX
    go_wp2_with (first|((with_reducible refine gate_callee (f := 65) rfl ?_);refine gL 24 Tryz.func65 #[.slice aV af.length aW] ?_;(with_reducible refine (r04_Sum.calls k1 _ _ af aq _ ?aj ?ak A8.out).mono ?_);(case aj => exact cM (Kd.R_reads' ac.out).2.2);(case ak => exact (Kd.R_reads' ac.out).2.1);rintro e w' ⟨rfl,⟨nd,rfl⟩⟩;refine ⟨_,rfl,?_⟩)|((with_reducible refine gate_callee (f := 64) rfl ?_);refine gL 25 Tryz.func64 #[.int .u32 aq] ?_;(with_reducible refine (r04_four.calls aq ae _ A9.out).mono ?_);rintro e bm ⟨aD,rfl,av,hb⟩;refine ⟨_,rfl,?_⟩;have aE := aK (Kd.R_lower (Kd.R_new' av (Kd.R_lt (rM ac.out))) (below_size (bM HB.out)));replace ac := aK (Kd.R_elder' (rM ac.out) (Kd.R_base av) hb);replace HB := aK (below_step (bM HB.out) hb);(try clear hb);(try clear hk);(try clear av)))
    go_loopg [3,6] k1 (fun kq v3 v6 w' => ∃ (al : List Int) (ab : Int),v6 = .int .i64 ab ∧ Aside0 (r04_Seal.l1 kq al ae ab = some r) ∧ Aside0 (kq ≤ k1) ∧ Aside0 (Kd.R (Kd.int .u8) 5 w' w.heap.size (fun k_ => some k_ ≠ (aD : Value).ownBlock) v3 al) ∧ Aside0 (Kd.R (Kd.int .u8) 5 w' w.heap.size (fun k_ => some k_ ≠ (v3 : Value).ownBlock) aD ae) ∧ Aside0 (Below w.heap.size w w'))
    case atStart => exact ⟨(af),(0),(by first|rfl|(simp;done)|(simp [*];done)),H',⟨Nat.le_refl _⟩,⟨by refine rO ?_;exact Kd.R_mono ac.out (fun _ hk => hk.2)⟩,⟨by refine rO ?_;exact Kd.R_mono aE.out (fun _ hk => hk.2)⟩,⟨bM HB.out⟩⟩
    case round =>
     clear H'
     try clear p2
     try clear c4
     try clear ay
     try clear p6
     try clear q6
     try clear hx6
     try clear ad
     try clear p2
     try clear an
     try clear ao
     obtain ⟨al,ab,rfl,HA,a8,ac,ai,HB⟩ := hrel
     cases gk with
    |zero => exact absurd HA.out (by simp [r04_Seal.l1])
    |succ k2 =>
      have H := HA.out
      clear HA
      simp only [r04_Seal.l1] at H
      by_cases aw : ab < 4
      ·rw [if_pos aw] at H
       have aG := decide_eq_true aw
       clear aw
       obtain ⟨a9,H⟩ := iS H
       have ba := decide_eq_true a9
       clear a9
       obtain ⟨bb,H⟩ := iS H
       have bc := decide_eq_true bb
       clear bb
       obtain ⟨bd,H⟩ := iS H
       have aH := aK bd
       clear bd
       obtain ⟨aI,ah⟩ : ∃ y_ : List Int,y_ = (al ++ [rd ae ab]) := ⟨_,rfl⟩
       replace H : (r04_Seal.l1 k2 aI ae (wrap64 (ab + 1))) = some r := by first|(rw [ah];with_reducible exact H)|(have ap := (Option.bind_some _ _).symm.trans H;rw [ah];with_reducible exact ap)|(have ap := (Option.bind_some _ _).symm.trans H;with_reducible exact ap)|with_reducible exact H|(rw [ah];exact H)|exact H
       have aJ := aK ah
       clear ah
       have H' := aK H
       clear H
       obtain ⟨bi,aY,aZ⟩ := Kd.R_slice ai.out
       subst aZ
       have ar : 0 ≤ (ab : Int) := dA
       have au : ab < (ae.length : Int) := dA
       obtain ⟨aM,a0,aR⟩ := Kd.at_int (Kd.R_reads' ai.out).2.2 ab ar au
       cases a0
       replace ar := eq_true ar
       replace au := eq_true au
       go_wp2_with (first|((with_reducible refine gate_builtin (b := .append) (xs := #[.tmp 30,.tmp 35]) rfl ?_);at_builtin;refine Kd.R_append (Kd.int .u8) (w0 := w) w.heap.size rfl (.tmp 30) (.tmp 35) 31 5 (.int .u8 0) 1 rfl Tryz.underlying31 info5 rfl (by decide) (by omega) u3 al (rd ae ab) [.int .u8 (rd ae ab)] (fun k_ => some k_ ≠ (.slice (some aM) ae.length aY : Value).ownBlock) (fun _ => False) rfl rfl ?aP (fun _ hk => hk.elim) ?aF ?aO ?aB ?aS ?aL ?_;(case aP => exact rfl);(case aB => exact (bM HB.out));(case aF => exact (fun k_ hk => Kd.fresh' (Kd.R_lt (rM ai.out)) k_ hk));(case aO => exact (rM ac.out));(case aS => exact (below_size (bM HB.out)));(case aL => have := aH.out;omega);intro bj bn ho hb hg hat;rw [← aJ.out] at ho;replace ai := aK (Kd.R_after (ok := (fun _ => True)) (by (with_reducible repeat (first|apply Kd.R_alloc|apply Kd.R_drewN|apply Kd.R_drew));exact Kd.R_mono ai.out (fun _ hk => ⟨trivial,hk⟩)) hg hat);replace HB := aK (hb);have aN := aK (ho);clear ho hb hg hat))
       go_roundg k2
       case measure => have := aQ.out;have := a8.out;omega
       case rel => exact ⟨(aI),(wrap64 (ab + 1)),(by first|rfl|(simp;done)|(simp [*];done)),H',⟨by have := aQ.out;have := a8.out;omega⟩,⟨rM aN.out⟩,⟨by refine rO ?_;exact Kd.R_mono ai.out (fun _ hk => hk.2)⟩,⟨bM HB.out⟩⟩
      ·rw [if_neg aw] at H
       have aG := decide_eq_false aw
       clear aw
       obtain rfl := Option.some.inj H
       go_wp2
       go_ret
       exact ⟨_,by first|rfl|(simp [errW_none,errW_some] <;> rfl)|(simp [*,errW_none,errW_some] <;> rfl),rM (Kd.R_mono ac.out (fun _ hk => trivial)),bM HB.out⟩
end Go.Proofs.YtmgliocboeifdaaGreatDoor.F
