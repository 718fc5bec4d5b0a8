import Derived.Test.YtgadbpljlpclnaaGreatDoorHx0
import Derived.Test.YtgadbpljlpclnaaGreatDoorHx3
import Derived.Test.YtgadbpljlpclnaaGreatDoorHx5
namespace Go.Proofs.YtgadbpljlpclnaaGreatDoor.H
open Go.RowKit Go.Proofs.YtgadbpljlpclnaaGreatDoorW.PrintWords Go.Proofs.YtgadbpljlpclnaaGreatDoorW.PrintLast Go.Proofs.YtgadbpljlpclnaaGreatDoorW.PrintMore
set_option maxHeartbeats 4000000
set_option maxRecDepth 100000
attribute [local go_sem] max2_int min2_int max_two min_two max_three min_three max_four min_four
set_option linter.unusedVariables false
set_option linter.unusedSimpArgs false

/-! ### r25_Apply: function 59 -/
def r25_Apply.l0 : Nat → List (S53) → List (S55) → Int → Option ((List (S55)) × Int)
|0,_,_,_ => none
|k + 1,x1,x7,x8 => if x8 < (x1.length : Int) then (if 0 ≤ x8 then (if ((rd_T53 x1 x8).f1) = 0 then ((r25_there.f k x7 ((rd_T53 x1 x8).f0)).bind fun ab => (if ab = true then ((r25_Set.f k x7 ((rd_T53 x1 x8).f0) ((rd_T53 x1 x8).f1)).bind fun ac => (r25_Apply.l0 k x1 ac (wrap64 (x8 + 1)))) else (some (([] : List (S55)),8)))) else ((r25_Set.f k x7 ((rd_T53 x1 x8).f0) ((rd_T53 x1 x8).f1)).bind fun ad => (r25_Apply.l0 k x1 ad (wrap64 (x8 + 1))))) else (none)) else ((r25_Right.f k x7).bind fun aa => (if aa = 0 then (some (x7,0)) else (some (([] : List (S55)),aa))))
def r25_Apply.f (k : Nat) (l0 : List (S55)) (l1 : List (S53)) : Option ((List (S55)) × Int) := (r25_Right.f k l0).bind fun aa => (if aa = 0 then (if (l1.length : Int) > 16 then (some (([] : List (S55)), 4)) else (r25_Apply.l0 k l1 l0 0)) else (some (([] : List (S55)), aa)))
theorem r25_Apply.mono_l : ∀ k, (∀ y0 y1 y2, LeO (r25_Apply.l0 k y0 y1 y2) (r25_Apply.l0 (k + 1) y0 y1 y2))
|0 => fun _ _ _ r h => by simp [r25_Apply.l0] at h
|k + 1 => by
  have ih0 := r25_Apply.mono_l k
  ·intro y0 y1 y2
   unfold r25_Apply.l0
   repeat' (with_reducible first|exact ih0 _ _ _|exact r25_Right.mono _ _|exact r25_Set.mono _ _ _ _|exact r25_there.mono _ _ _|exact LeO.refl _|exact LeO.none _|refine LeO.ite ?_ ?_|refine LeO.bind ?_ (fun _ => ?_))
theorem r25_Apply.mono : ∀ a0 a1 k, LeO (r25_Apply.f k a0 a1) (r25_Apply.f (k + 1) a0 a1) := by
 intro a0 a1 k
 have ih0 := r25_Apply.mono_l k
 unfold r25_Apply.f
 repeat' (with_reducible first|exact ih0 _ _ _|exact r25_Right.mono _ _|exact r25_Set.mono _ _ _ _|exact r25_there.mono _ _ _|exact LeO.refl _|exact LeO.none _|refine LeO.ite ?_ ?_|refine LeO.bind ?_ (fun _ => ?_))
def r25_Apply.T12 : Bool × List (List Nat × List Nat) := (true, [([], []), ([], []), ([], []), ([1, 2], [1, 2]), ([3], [3]), ([4], [4]), ([], []), ([], []), ([6, 7], [6, 7]), ([8], [8]), ([9], [9]), ([0, 5, 10], [0, 5, 10]), ([11, 11, 0, 1, 2, 3, 4, 5, 6, 7, 8, 9, 10, 11], [0, 11])])
def r25_Apply.B12 : List Nat := [0, 0, 0, 6, 14, 30, 0, 0, 192, 448, 960, 2047, 4095]
theorem r25_Apply.tab12 : rtab .any (opsOf Tryz.f59 12) = r25_Apply.T12 := by kernel_rfl
theorem r25_Apply.bits12 : waitsOk r25_Apply.T12.2 r25_Apply.B12 = true := by kernel_rfl
theorem r25_Apply.calls (k : Nat) (a0 : Nat → Prop) (A0 : Option Addr) (c0 : Nat) (l0 : List (S55)) (A1 : Option Addr) (c1 : Nat) (l1 : List (S53)) (r1 : List (S55)) (r2 : Int) (w : World) (bS : Kd.V k55 55 w w.heap.size (fun k_ => a0 k_) (.slice A0 l0.length c0) l0) (bL : Kd.C k53 w A1 l1.length l1) (bN : l1.length ≤ c1) (h : r25_Apply.f k l0 l1 = some (r1, r2)) :
  Calls Tryz.prog 59 #[.slice A0 l0.length c0,.slice A1 l1.length c1] w fun e w' => ∃ bO : Value,e = .returned (.tuple #[bO,.int .i64 r2]) ∧ Kd.V k55 55 w' w.heap.size (fun k_ => (a0 k_ ∨ w.heap.size ≤ k_)) bO r1 ∧ Below w.heap.size w w' := by
 have aN := aK (show Kd.V k55 55 w w.heap.size (fun k_ => (a0 k_ ∨ w.heap.size ≤ k_)) (.slice A0 l0.length c0) l0 from Kd.V_mono bS (fun k_ hk => .inl hk))
 have aM := aK bL
 have b3 := aK bN
 clear bL bN
 have HB := aK (Below.refl w.heap.size w)
 have H : ((r25_Right.f k l0).bind fun aE => (if aE = 0 then (if (l1.length : Int) > 16 then (some (([] : List (S55)),4)) else (r25_Apply.l0 k l1 l0 0)) else (some (([] : List (S55)),aE)))) = some (r1,r2) := h
 clear h
 replace H := Option.bind_eq_some_iff.mp H
 obtain ⟨aE,bP,H⟩ := H
 have A3 := aK bP
 clear bP
 by_cases c4 : aE = 0
 ·rw [if_pos c4] at H
  have a1 := beq_iff_eq.mpr c4
  have a2 := bne_eq_false_iff_eq.mpr c4
  clear c4
  by_cases c5 : (l1.length : Int) > 16
  ·rw [if_pos c5] at H
   have a3 := decide_eq_true c5
   have a4 : decide (16 < l1.length) = true := decide_eq_true (by omega)
   clear c5
   simp only [Option.some.injEq,Prod.mk.injEq] at H
   obtain ⟨rfl,rfl⟩ := H
   go_enter Tryz.func59,Tryz.ntmps59
   go_wp2_with (first|((with_reducible refine gate_callee (f := 68) rfl ?_);refine gL 11 Tryz.func68 #[.slice A0 l0.length c0] ?_;(with_reducible refine (r25_Right.calls k _ _ l0 aE _ ?ad ?ae A3.out).mono ?_);(case ad => exact cM (Kd.V_reads' aN.out).2.2);(case ae => exact (Kd.V_reads' aN.out).2.1);rintro e w' ⟨rfl,⟨nd,rfl⟩⟩;refine ⟨_,rfl,?_⟩))
   go_ret2
   exact ⟨_,by first|rfl|(simp [errW_none,errW_some] <;> rfl)|(simp [*,errW_none,errW_some] <;> rfl),Kd.V_nil _ _ _ _ _,bM HB.out⟩
  ·rw [if_neg c5] at H
   have a3 := decide_eq_false c5
   have a4 : decide (16 < l1.length) = false := decide_eq_false (by omega)
   clear c5
   have H' := aK H
   clear H
   go_enter Tryz.func59,Tryz.ntmps59
   go_wp2_with (first|((with_reducible refine gate_callee (f := 68) rfl ?_);refine gL 11 Tryz.func68 #[.slice A0 l0.length c0] ?_;(with_reducible refine (r25_Right.calls k _ _ l0 aE _ ?ad ?ae A3.out).mono ?_);(case ad => exact cM (Kd.V_reads' aN.out).2.2);(case ae => exact (Kd.V_reads' aN.out).2.1);rintro e w' ⟨rfl,⟨nd,rfl⟩⟩;refine ⟨_,rfl,?_⟩))
   go_loopg [7,8] k (fun kq v7 v8 w' => ∃ (ah : List (S55)) (aa : Int),v8 = .int .i64 aa ∧ Aside0 (r25_Apply.l0 kq l1 ah aa = some (r1,r2)) ∧ Aside0 (kq ≤ k) ∧ Aside0 (Kd.V k55 55 w' w.heap.size (fun k_ => (a0 k_ ∨ w.heap.size ≤ k_)) v7 ah) ∧ Aside0 (Below w.heap.size w w'))
   case atStart => exact ⟨(l0),(0),(by first|rfl|(simp;done)|(simp [*];done)),H',⟨Nat.le_refl _⟩,⟨vM aN.out⟩,⟨bM HB.out⟩⟩
   case round =>
    clear H'
    try clear p2
    try clear c4
    try clear a1
    try clear a2
    try clear c5
    try clear a3
    try clear a4
    obtain ⟨ah,aa,rfl,HA,bn,ab,HB⟩ := hrel
    cases gk with
   |zero => exact absurd HA.out (by simp [r25_Apply.l0])
   |succ k1 =>
     have H := HA.out
     clear HA
     simp only [r25_Apply.l0] at H
     by_cases c6 : aa < (l1.length : Int)
     ·rw [if_pos c6] at H
      have bo := decide_eq_true c6
      clear c6
      obtain ⟨c7,H⟩ := iS H
      have bT := decide_eq_true c7
      clear c7
      by_cases c8 : ((rd_T53 l1 aa).f1) = 0
      ·rw [if_pos c8] at H
       have bp := beq_iff_eq.mpr c8
       have bq := bne_eq_false_iff_eq.mpr c8
       clear c8
       replace H := Option.bind_eq_some_iff.mp H
       obtain ⟨br,bQ,H⟩ := H
       have A9 := aK bQ
       clear bQ
       by_cases c10 : br = true
       ·subst c10
        rw [if_pos rfl] at H
        replace H := Option.bind_eq_some_iff.mp H
        obtain ⟨a5,a6,H⟩ := H
        have bU := aK a6
        clear a6
        have H' := aK H
        clear H
        have aC : 0 ≤ (aa : Int) := dA
        have aD : aa < (l1.length : Int) := dA
        obtain ⟨ac,aJ,af,ag⟩ := at_T53 aM.out aa aC aD
        cases aJ
        replace af := xM HB af
        replace ag := xM HB ag
        replace aC := eq_true aC
        replace aD := eq_true aD
        have aF : 0 ≤ (aa : Int) := dA
        have aG : aa < (l1.length : Int) := dA
        obtain ⟨aL,aO,ai,aj⟩ := at_T53 aM.out aa aF aG
        obtain rfl : ac = aL := (by injection aO)
        replace ai := xM HB ai
        replace aj := xM HB aj
        replace aF := eq_true aF
        replace aG := eq_true aG
        obtain ⟨a7,a8,bs⟩ := Kd.V_slice ab.out
        subst bs
        try go_wp2_with (first|(go_at_call 69;(with_reducible refine (r25_there.calls k1 _ _ ah ((rd_T53 l1 aa).f0) true _ ?ad ?ae A9.out).mono ?_);(case ad => exact cM (Kd.V_reads' ab.out).2.2);(case ae => exact (Kd.V_reads' ab.out).2.1);rintro e w' ⟨rfl,⟨nd,rfl⟩⟩))
        (try (rw [drewN_self wr];generalize hq_ : World.drewN wr _ = wr;have aH : Aside0 (Kd.V k55 55 wr w.heap.size (fun k_ => (a0 k_ ∨ w.heap.size ≤ k_)) (.slice a7 ah.length a8) ah) := ⟨by rw [← hq_];exact (vM ab.out)⟩;have aI : Aside0 (Below w.heap.size w wr) := ⟨by rw [← hq_];exact (bM HB.out)⟩;clear ab HB hq_;have ab := aH;have HB := aI;clear aH aI))
        have aH := aK (Kd.V_drew ab.out)
        have aI := aK (below_drew1 HB.out)
        clear ab
        clear HB
        have ab := aH
        have HB := aI
        clear aH aI
        have aP : 0 ≤ (aa : Int) := dA
        have aQ : aa < (l1.length : Int) := dA
        obtain ⟨a9,bu,ak,al⟩ := at_T53 aM.out aa aP aQ
        have am := al
        have an := ak
        obtain rfl : ac = a9 := (by injection bu)
        replace ak := xM HB ak
        replace al := xM HB al
        replace aP := eq_true aP
        replace aQ := eq_true aQ
        have aR : 0 ≤ (aa : Int) := dA
        have aS : aa < (l1.length : Int) := dA
        obtain ⟨ba,bv,ao,ap⟩ := at_T53 aM.out aa aR aS
        have aq := ap
        have ar := ao
        obtain rfl : ac = ba := (by injection bv)
        replace ao := xM HB ao
        replace ap := xM HB ap
        replace aR := eq_true aR
        replace aS := eq_true aS
        refine start_ (n := 13) (S := fun w' => w'.cell? (ac.add ((aa).toNat * 2)) = some (.string ((rd_T53 l1 aa).f0)) ∧ w'.cell? ⟨(ac.add ((aa).toNat * 2)).block,(ac.add ((aa).toNat * 2)).off + 1,none⟩ = some (.int .i64 ((rd_T53 l1 aa).f1)) ∧ w'.cell? (ac.add ((aa).toNat * 2)) = some (.string ((rd_T53 l1 aa).f0)) ∧ w'.cell? ⟨(ac.add ((aa).toNat * 2)).block,(ac.add ((aa).toNat * 2)).off + 1,none⟩ = some (.int .i64 ((rd_T53 l1 aa).f1))) (ds := []) (bA 13 0) (by kernel_rfl) rfl rfl ⟨((HB.out.cell (World.block_lt_of_cell? w _ an)).trans an),((HB.out.cell (World.block_lt_of_cell? w _ am)).trans am),((HB.out.cell (World.block_lt_of_cell? w _ ar)).trans ar),((HB.out.cell (World.block_lt_of_cell? w _ aq)).trans aq)⟩ (fun hHeld => ?_);refine with_tabW r25_Apply.tab12 r25_Apply.bits12 (fun HT_ HW_ => ?_)
        generalize wr.drew = w13 at ab HB ak al ao ap hHeld ⊢
        refine pure_ (i := 0) (N := some 41) (v := ?_) (a' := ?_) (bA 13 1) rfl rfl (any_of HT_.out (by kernel_rfl)) (fun _ _ _ h => h) (Or.inl ⟨by rfl,?_⟩) ?_ ?_
        rotate_left
        ·intro w'
         go_simp
         with_reducible rfl
        rotate_left
        ·simp only [Act.put,z1_,z2_,z3_,i64_w,i32_w]
         rfl
        refine pure_ (i := 1) (N := some 42) (v := ?_) (a' := ?_) (bA 13 3) rfl rfl (any_of HT_.out (by kernel_rfl)) (fun _ _ _ h => h) (Or.inl ⟨by rfl,?_⟩) ?_ ?_
        rotate_left
        ·intro w'
         go_simp
         with_reducible rfl
        rotate_left
        ·simp only [Act.put,z1_,z2_,z3_,i64_w,i32_w]
         rfl
        refine pure_ (i := 2) (N := some 43) (v := ?_) (a' := ?_) (bA 13 7) rfl rfl (any_of HT_.out (by kernel_rfl)) (fun _ _ _ h => h) (Or.inl ⟨by rfl,?_⟩) ?_ ?_
        rotate_left
        ·intro w'
         go_simp
         with_reducible rfl
        rotate_left
        ·simp only [Act.put,z1_,z2_,z3_,i64_w,i32_w]
         rfl
        refine pure_ (i := 3) (N := some 44) (v := ?_) (a' := ?_) (bA 13 15) rfl rfl (any_of HT_.out (by kernel_rfl)) (fun _ _ _ h => h) (Or.inl ⟨by rfl,?_⟩) ?_ ?_
        rotate_left
        ·intro w'
         go_simp
         with_reducible rfl
        rotate_left
        ·simp only [Act.put,z1_,z2_,z3_,i64_w,i32_w]
         rfl
        refine pure_ (i := 4) (N := some 45) (v := ?_) (a' := ?_) (bA 13 31) rfl rfl (any_of HT_.out (by kernel_rfl)) (fun _ _ _ h => h) (Or.inl ⟨by rfl,?_⟩) ?_ ?_
        rotate_left
        ·intro w'
         go_simp
         with_reducible rfl
        rotate_left
        ·simp only [Act.put,z1_,z2_,z3_,i64_w,i32_w]
         rfl
        refine pure_ (i := 6) (N := some 47) (v := ?_) (a' := ?_) (bA 13 95) rfl rfl (any_of HT_.out (by kernel_rfl)) (fun _ _ _ h => h) (Or.inl ⟨by rfl,?_⟩) ?_ ?_
        rotate_left
        ·intro w'
         go_simp
         with_reducible rfl
        rotate_left
        ·simp only [Act.put,z1_,z2_,z3_,i64_w,i32_w]
         rfl
        refine pure_ (i := 7) (N := some 48) (v := ?_) (a' := ?_) (bA 13 223) rfl rfl (any_of HT_.out (by kernel_rfl)) (fun _ _ _ h => h) (Or.inl ⟨by rfl,?_⟩) ?_ ?_
        rotate_left
        ·intro w'
         go_simp
         with_reducible rfl
        rotate_left
        ·simp only [Act.put,z1_,z2_,z3_,i64_w,i32_w]
         rfl
        refine pure_ (i := 8) (N := some 49) (v := ?_) (a' := ?_) (bA 13 479) rfl rfl (any_of HT_.out (by kernel_rfl)) (fun _ _ _ h => h) (Or.inl ⟨by rfl,?_⟩) ?_ ?_
        rotate_left
        ·intro w'
         go_simp
         with_reducible rfl
        rotate_left
        ·simp only [Act.put,z1_,z2_,z3_,i64_w,i32_w]
         rfl
        refine pure_ (i := 9) (N := some 50) (v := ?_) (a' := ?_) (bA 13 991) rfl rfl (any_of HT_.out (by kernel_rfl)) (fun _ _ _ h => h) (Or.inl ⟨by rfl,?_⟩) ?_ ?_
        rotate_left
        ·intro w'
         go_simp
         with_reducible rfl
        rotate_left
        ·simp only [Act.put,z1_,z2_,z3_,i64_w,i32_w]
         rfl
        refine take_ (i := 5) (N := some 46) (v := ?_) (a' := ?_) (bA 13 1023) rfl rfl (take_ofW HT_.out HW_.out (by kernel_rfl)) (fun _ _ _ h => h) (Or.inl ⟨by rfl,?_⟩) hHeld ?_ ?_
        rotate_left
        ·rintro w' ⟨s0,s1,s2,s3⟩
         go_simp
         with_reducible rfl
        rotate_left
        ·simp only [Act.put,z1_,z2_,z3_,i64_w,i32_w]
         rfl
        refine take_ (i := 10) (N := some 51) (v := ?_) (a' := ?_) (bA 13 2047) rfl rfl (take_ofW HT_.out HW_.out (by kernel_rfl)) (fun _ _ _ h => h) (Or.inl ⟨by rfl,?_⟩) hHeld ?_ ?_
        rotate_left
        ·rintro w' ⟨s0,s1,s2,s3⟩
         go_simp
         with_reducible rfl
        rotate_left
        ·simp only [Act.put,z1_,z2_,z3_,i64_w,i32_w]
         rfl
        refine one_ (i := 11) (N := some 52) (bA 13 4095) rfl rfl (one_of HT_.out (by kernel_rfl)) (by decide) (fun K hK => ?_)
        refine goes_ Tryz.func64 (by kernel_rfl) rfl #[.slice a7 ah.length a8,.string ((rd_T53 l1 aa).f0),.int .i64 ((rd_T53 l1 aa).f1)] (by rfl) rfl rfl (by (try simp only [z4_,z5_,z6_]);first|done|rfl|(simp only [z7_,z8_];rfl)) ?_
        with_reducible refine (r25_Set.calls k1 _ _ ah ((rd_T53 l1 aa).f0) ((rd_T53 l1 aa).f1) a5 _ ?ad ?ae bU.out).mono ?_
        (case ad => exact cM (Kd.V_reads' ab.out).2.2)
        (case ae => exact (Kd.V_reads' ab.out).2.1)
        rintro e b4 ⟨bV,rfl,aT,hb⟩
        refine ⟨_,rfl,?_⟩
        have aH := aK (Kd.V_elder' (vM ab.out) (Kd.R_base aT) hb)
        have aI := aK (Kd.R_lower (Kd.R_newM (M := fun k_ => (w.heap.size ≤ k_)) aT (below_size (bM HB.out)) (fun k_ h_ => h_)) (below_size (bM HB.out)))
        have bb := aK (below_step (bM HB.out) hb)
        clear ab
        clear HB
        have ab := aH
        have bc := aI
        have HB := bb
        clear aH aI bb
        (try clear hb)
        
        (try clear hk)
        
        (try clear aT)
        refine hK.out _ _ ⟨((HB.out.cell (World.block_lt_of_cell? w _ an)).trans an),((HB.out.cell (World.block_lt_of_cell? w _ am)).trans am),((HB.out.cell (World.block_lt_of_cell? w _ ar)).trans ar),((HB.out.cell (World.block_lt_of_cell? w _ aq)).trans aq)⟩ (fun hHeld => ?_)
        clear hK K
        refine norm_ (a' := ?_) ?_ ?_
        rotate_left
        ·show Act.put _ (some 52) _ = _
         simp only [Act.put,z1_,z2_,z3_,i64_w,i32_w]
         rfl
        refine pure_ (i := 12) (N := some 7) (v := ?_) (a' := ?_) (bA 13 8191) rfl rfl (any_of HT_.out (by kernel_rfl)) (fun _ _ _ h => h) (Or.inl ⟨by rfl,?_⟩) ?_ ?_
        rotate_left
        ·intro w'
         go_simp
         with_reducible rfl
        rotate_left
        ·simp only [Act.put,z1_,z2_,z3_,i64_w,i32_w]
         rfl
        refine done_ (done_of HT_.out (by kernel_rfl)) ?_
        try go_wp2
        go_roundg k1
        case measure => have := bn.out;omega
        case rel => exact ⟨(a5),(wrap64 (aa + 1)),(by first|rfl|(simp;done)|(simp [*];done)),H',⟨by have := bn.out;omega⟩,⟨Kd.V_mono (Kd.R_V (by (with_reducible repeat (first|apply Kd.R_alloc|apply Kd.R_drewN|apply Kd.R_drew));exact Kd.R_mono bc.out (fun _ hk => hk.1))) (fun k_ hk => by first|exact ⟨(.inr (hk.1)),hk.2⟩|exact (.inr (hk)))⟩,⟨bM HB.out⟩⟩
       ·replace c10 := Bool.eq_false_iff.mpr c10
        subst c10
        rw [if_neg (show ¬ (false = true) by decide)] at H
        simp only [Option.some.injEq,Prod.mk.injEq] at H
        obtain ⟨rfl,rfl⟩ := H
        have aC : 0 ≤ (aa : Int) := dA
        have aD : aa < (l1.length : Int) := dA
        obtain ⟨ac,aJ,af,ag⟩ := at_T53 aM.out aa aC aD
        cases aJ
        replace af := xM HB af
        replace ag := xM HB ag
        replace aC := eq_true aC
        replace aD := eq_true aD
        have aF : 0 ≤ (aa : Int) := dA
        have aG : aa < (l1.length : Int) := dA
        obtain ⟨aL,aO,ai,aj⟩ := at_T53 aM.out aa aF aG
        obtain rfl : ac = aL := (by injection aO)
        replace ai := xM HB ai
        replace aj := xM HB aj
        replace aF := eq_true aF
        replace aG := eq_true aG
        obtain ⟨bW,bX,bx⟩ := Kd.V_slice ab.out
        subst bx
        go_wp2_with (first|(go_at_call 69;(with_reducible refine (r25_there.calls k1 _ _ ah ((rd_T53 l1 aa).f0) false _ ?ad ?ae A9.out).mono ?_);(case ad => exact cM (Kd.V_reads' ab.out).2.2);(case ae => exact (Kd.V_reads' ab.out).2.1);rintro e w' ⟨rfl,⟨nd,rfl⟩⟩))
        go_ret2
        exact ⟨_,by first|rfl|(simp [errW_none,errW_some] <;> rfl)|(simp [*,errW_none,errW_some] <;> rfl),Kd.V_nil _ _ _ _ _,bM HB.out⟩
      ·rw [if_neg c8] at H
       have bp := beq_eq_false_iff_ne.mpr c8
       have bq := bne_iff_ne.mpr c8
       replace H := Option.bind_eq_some_iff.mp H
       obtain ⟨bd,be,H⟩ := H
       have bY := aK be
       clear be
       have H' := aK H
       clear H
       have aC : 0 ≤ (aa : Int) := dA
       have aD : aa < (l1.length : Int) := dA
       obtain ⟨ac,aJ,af,ag⟩ := at_T53 aM.out aa aC aD
       cases aJ
       replace af := xM HB af
       replace ag := xM HB ag
       replace aC := eq_true aC
       replace aD := eq_true aD
       try go_wp2
       have aH := aK (Kd.V_drew ab.out)
       have aI := aK (below_drew1 HB.out)
       clear ab
       clear HB
       have ab := aH
       have HB := aI
       clear aH aI
       have aU : 0 ≤ (aa : Int) := dA
       have aV : aa < (l1.length : Int) := dA
       obtain ⟨bf,bz,au,av⟩ := at_T53 aM.out aa aU aV
       have aw := av
       have ax := au
       obtain rfl : ac = bf := (by injection bz)
       replace au := xM HB au
       replace av := xM HB av
       replace aU := eq_true aU
       replace aV := eq_true aV
       have aW : 0 ≤ (aa : Int) := dA
       have aX : aa < (l1.length : Int) := dA
       obtain ⟨bg,bB,ay,az⟩ := at_T53 aM.out aa aW aX
       have aA := az
       have aB := ay
       obtain rfl : ac = bg := (by injection bB)
       replace ay := xM HB ay
       replace az := xM HB az
       replace aW := eq_true aW
       replace aX := eq_true aX
       obtain ⟨bC,bD,bh⟩ := Kd.V_slice ab.out
       (first|subst bh|(injection bh with f1_ f2_ f3_;have bZ := f1_.symm;have b1 := f3_.symm;clear f1_ f2_ f3_;subst bZ;subst b1))
       refine start_ (n := 13) (S := fun w' => w'.cell? (ac.add ((aa).toNat * 2)) = some (.string ((rd_T53 l1 aa).f0)) ∧ w'.cell? ⟨(ac.add ((aa).toNat * 2)).block,(ac.add ((aa).toNat * 2)).off + 1,none⟩ = some (.int .i64 ((rd_T53 l1 aa).f1)) ∧ w'.cell? (ac.add ((aa).toNat * 2)) = some (.string ((rd_T53 l1 aa).f0)) ∧ w'.cell? ⟨(ac.add ((aa).toNat * 2)).block,(ac.add ((aa).toNat * 2)).off + 1,none⟩ = some (.int .i64 ((rd_T53 l1 aa).f1))) (ds := []) (bA 13 0) (by kernel_rfl) rfl rfl ⟨((HB.out.cell (World.block_lt_of_cell? w _ ax)).trans ax),((HB.out.cell (World.block_lt_of_cell? w _ aw)).trans aw),((HB.out.cell (World.block_lt_of_cell? w _ aB)).trans aB),((HB.out.cell (World.block_lt_of_cell? w _ aA)).trans aA)⟩ (fun hHeld => ?_);refine with_tabW r25_Apply.tab12 r25_Apply.bits12 (fun HT_ HW_ => ?_)
       generalize wr.drew = w17 at ab HB au av ay az hHeld ⊢
       refine pure_ (i := 0) (N := some 41) (v := ?_) (a' := ?_) (bA 13 1) rfl rfl (any_of HT_.out (by kernel_rfl)) (fun _ _ _ h => h) (Or.inl ⟨by rfl,?_⟩) ?_ ?_
       rotate_left
       ·intro w'
        go_simp
        with_reducible rfl
       rotate_left
       ·simp only [Act.put,z1_,z2_,z3_,i64_w,i32_w]
        rfl
       refine pure_ (i := 1) (N := some 42) (v := ?_) (a' := ?_) (bA 13 3) rfl rfl (any_of HT_.out (by kernel_rfl)) (fun _ _ _ h => h) (Or.inl ⟨by rfl,?_⟩) ?_ ?_
       rotate_left
       ·intro w'
        go_simp
        with_reducible rfl
       rotate_left
       ·simp only [Act.put,z1_,z2_,z3_,i64_w,i32_w]
        rfl
       refine pure_ (i := 2) (N := some 43) (v := ?_) (a' := ?_) (bA 13 7) rfl rfl (any_of HT_.out (by kernel_rfl)) (fun _ _ _ h => h) (Or.inl ⟨by rfl,?_⟩) ?_ ?_
       rotate_left
       ·intro w'
        go_simp
        with_reducible rfl
       rotate_left
       ·simp only [Act.put,z1_,z2_,z3_,i64_w,i32_w]
        rfl
       refine pure_ (i := 3) (N := some 44) (v := ?_) (a' := ?_) (bA 13 15) rfl rfl (any_of HT_.out (by kernel_rfl)) (fun _ _ _ h => h) (Or.inl ⟨by rfl,?_⟩) ?_ ?_
       rotate_left
       ·intro w'
        go_simp
        with_reducible rfl
       rotate_left
       ·simp only [Act.put,z1_,z2_,z3_,i64_w,i32_w]
        rfl
       refine pure_ (i := 4) (N := some 45) (v := ?_) (a' := ?_) (bA 13 31) rfl rfl (any_of HT_.out (by kernel_rfl)) (fun _ _ _ h => h) (Or.inl ⟨by rfl,?_⟩) ?_ ?_
       rotate_left
       ·intro w'
        go_simp
        with_reducible rfl
       rotate_left
       ·simp only [Act.put,z1_,z2_,z3_,i64_w,i32_w]
        rfl
       refine pure_ (i := 6) (N := some 47) (v := ?_) (a' := ?_) (bA 13 95) rfl rfl (any_of HT_.out (by kernel_rfl)) (fun _ _ _ h => h) (Or.inl ⟨by rfl,?_⟩) ?_ ?_
       rotate_left
       ·intro w'
        go_simp
        with_reducible rfl
       rotate_left
       ·simp only [Act.put,z1_,z2_,z3_,i64_w,i32_w]
        rfl
       refine pure_ (i := 7) (N := some 48) (v := ?_) (a' := ?_) (bA 13 223) rfl rfl (any_of HT_.out (by kernel_rfl)) (fun _ _ _ h => h) (Or.inl ⟨by rfl,?_⟩) ?_ ?_
       rotate_left
       ·intro w'
        go_simp
        with_reducible rfl
       rotate_left
       ·simp only [Act.put,z1_,z2_,z3_,i64_w,i32_w]
        rfl
       refine pure_ (i := 8) (N := some 49) (v := ?_) (a' := ?_) (bA 13 479) rfl rfl (any_of HT_.out (by kernel_rfl)) (fun _ _ _ h => h) (Or.inl ⟨by rfl,?_⟩) ?_ ?_
       rotate_left
       ·intro w'
        go_simp
        with_reducible rfl
       rotate_left
       ·simp only [Act.put,z1_,z2_,z3_,i64_w,i32_w]
        rfl
       refine pure_ (i := 9) (N := some 50) (v := ?_) (a' := ?_) (bA 13 991) rfl rfl (any_of HT_.out (by kernel_rfl)) (fun _ _ _ h => h) (Or.inl ⟨by rfl,?_⟩) ?_ ?_
       rotate_left
       ·intro w'
        go_simp
        with_reducible rfl
       rotate_left
       ·simp only [Act.put,z1_,z2_,z3_,i64_w,i32_w]
        rfl
       refine take_ (i := 5) (N := some 46) (v := ?_) (a' := ?_) (bA 13 1023) rfl rfl (take_ofW HT_.out HW_.out (by kernel_rfl)) (fun _ _ _ h => h) (Or.inl ⟨by rfl,?_⟩) hHeld ?_ ?_
       rotate_left
       ·rintro w' ⟨s0,s1,s2,s3⟩
        go_simp
        with_reducible rfl
       rotate_left
       ·simp only [Act.put,z1_,z2_,z3_,i64_w,i32_w]
        rfl
       refine take_ (i := 10) (N := some 51) (v := ?_) (a' := ?_) (bA 13 2047) rfl rfl (take_ofW HT_.out HW_.out (by kernel_rfl)) (fun _ _ _ h => h) (Or.inl ⟨by rfl,?_⟩) hHeld ?_ ?_
       rotate_left
       ·rintro w' ⟨s0,s1,s2,s3⟩
        go_simp
        with_reducible rfl
       rotate_left
       ·simp only [Act.put,z1_,z2_,z3_,i64_w,i32_w]
        rfl
       refine one_ (i := 11) (N := some 52) (bA 13 4095) rfl rfl (one_of HT_.out (by kernel_rfl)) (by decide) (fun K hK => ?_)
       refine goes_ Tryz.func64 (by kernel_rfl) rfl #[.slice bC ah.length bD,.string ((rd_T53 l1 aa).f0),.int .i64 ((rd_T53 l1 aa).f1)] (by rfl) rfl rfl (by (try simp only [z4_,z5_,z6_]);first|done|rfl|(simp only [z7_,z8_];rfl)) ?_
       with_reducible refine (r25_Set.calls k1 _ _ ah ((rd_T53 l1 aa).f0) ((rd_T53 l1 aa).f1) bd _ ?ad ?ae bY.out).mono ?_
       (case ad => exact cM (Kd.V_reads' ab.out).2.2)
       (case ae => exact (Kd.V_reads' ab.out).2.1)
       rintro e b5 ⟨b2,rfl,aT,hb⟩
       refine ⟨_,rfl,?_⟩
       have aH := aK (Kd.V_elder' (vM ab.out) (Kd.R_base aT) hb)
       have aI := aK (Kd.R_lower (Kd.R_newM (M := fun k_ => (w.heap.size ≤ k_)) aT (below_size (bM HB.out)) (fun k_ h_ => h_)) (below_size (bM HB.out)))
       have bb := aK (below_step (bM HB.out) hb)
       clear ab
       clear HB
       have ab := aH
       have bi := aI
       have HB := bb
       clear aH aI bb
       (try clear hb)
       
       (try clear hk)
       
       (try clear aT)
       refine hK.out _ _ ⟨((HB.out.cell (World.block_lt_of_cell? w _ ax)).trans ax),((HB.out.cell (World.block_lt_of_cell? w _ aw)).trans aw),((HB.out.cell (World.block_lt_of_cell? w _ aB)).trans aB),((HB.out.cell (World.block_lt_of_cell? w _ aA)).trans aA)⟩ (fun hHeld => ?_)
       clear hK K
       refine norm_ (a' := ?_) ?_ ?_
       rotate_left
       ·show Act.put _ (some 52) _ = _
        simp only [Act.put,z1_,z2_,z3_,i64_w,i32_w]
        rfl
       refine pure_ (i := 12) (N := some 7) (v := ?_) (a' := ?_) (bA 13 8191) rfl rfl (any_of HT_.out (by kernel_rfl)) (fun _ _ _ h => h) (Or.inl ⟨by rfl,?_⟩) ?_ ?_
       rotate_left
       ·intro w'
        go_simp
        with_reducible rfl
       rotate_left
       ·simp only [Act.put,z1_,z2_,z3_,i64_w,i32_w]
        rfl
       refine done_ (done_of HT_.out (by kernel_rfl)) ?_
       try go_wp2
       go_roundg k1
       case measure => have := bn.out;omega
       case rel => exact ⟨(bd),(wrap64 (aa + 1)),(by first|rfl|(simp;done)|(simp [*];done)),H',⟨by have := bn.out;omega⟩,⟨Kd.V_mono (Kd.R_V (by (with_reducible repeat (first|apply Kd.R_alloc|apply Kd.R_drewN|apply Kd.R_drew));exact Kd.R_mono bi.out (fun _ hk => hk.1))) (fun k_ hk => by first|exact ⟨(.inr (hk.1)),hk.2⟩|exact (.inr (hk)))⟩,⟨bM HB.out⟩⟩
     ·rw [if_neg c6] at H
      have bo := decide_eq_false c6
      clear c6
      replace H := Option.bind_eq_some_iff.mp H
      obtain ⟨aY,bj,H⟩ := H
      have bR := aK bj
      clear bj
      by_cases aZ : aY = 0
      ·rw [if_pos aZ] at H
       have bk := beq_iff_eq.mpr aZ
       have bm := bne_eq_false_iff_eq.mpr aZ
       clear aZ
       simp only [Option.some.injEq,Prod.mk.injEq] at H
       obtain ⟨rfl,rfl⟩ := H
       obtain ⟨bE,bF,bH⟩ := Kd.V_slice ab.out
       subst bH
       go_wp2_with (first|((with_reducible refine gate_callee (f := 68) rfl ?_);refine gL 54 Tryz.func68 #[.slice bE ah.length bF] ?_;(with_reducible refine (r25_Right.calls k1 _ _ ah aY _ ?ad ?ae bR.out).mono ?_);(case ad => exact cM (Kd.V_reads' ab.out).2.2);(case ae => exact (Kd.V_reads' ab.out).2.1);rintro e w' ⟨rfl,⟨nd,rfl⟩⟩;refine ⟨_,rfl,?_⟩))
       go_ret2
       exact ⟨_,by first|rfl|(simp [errW_none,errW_some] <;> rfl)|(simp [*,errW_none,errW_some] <;> rfl),vM ab.out,bM HB.out⟩
      ·rw [if_neg aZ] at H
       have bk := beq_eq_false_iff_ne.mpr aZ
       have bm := bne_iff_ne.mpr aZ
       simp only [Option.some.injEq,Prod.mk.injEq] at H
       obtain ⟨rfl,rfl⟩ := H
       obtain ⟨bI,bJ,bK⟩ := Kd.V_slice ab.out
       subst bK
       go_wp2_with (first|((with_reducible refine gate_callee (f := 68) rfl ?_);refine gL 54 Tryz.func68 #[.slice bI ah.length bJ] ?_;(with_reducible refine (r25_Right.calls k1 _ _ ah aY _ ?ad ?ae bR.out).mono ?_);(case ad => exact cM (Kd.V_reads' ab.out).2.2);(case ae => exact (Kd.V_reads' ab.out).2.1);rintro e w' ⟨rfl,⟨nd,rfl⟩⟩;refine ⟨_,rfl,?_⟩))
       go_ret2
       exact ⟨_,by first|rfl|(simp [errW_none,errW_some] <;> rfl)|(simp [*,errW_none,errW_some] <;> rfl),Kd.V_nil _ _ _ _ _,bM HB.out⟩
 ·rw [if_neg c4] at H
  have a1 := beq_eq_false_iff_ne.mpr c4
  have a2 := bne_iff_ne.mpr c4
  simp only [Option.some.injEq,Prod.mk.injEq] at H
  obtain ⟨rfl,rfl⟩ := H
  go_enter Tryz.func59,Tryz.ntmps59
  go_wp2_with (first|((with_reducible refine gate_callee (f := 68) rfl ?_);refine gL 11 Tryz.func68 #[.slice A0 l0.length c0] ?_;(with_reducible refine (r25_Right.calls k _ _ l0 aE _ ?ad ?ae A3.out).mono ?_);(case ad => exact cM (Kd.V_reads' aN.out).2.2);(case ae => exact (Kd.V_reads' aN.out).2.1);rintro e w' ⟨rfl,⟨nd,rfl⟩⟩;refine ⟨_,rfl,?_⟩))
  go_ret2
  exact ⟨_,by first|rfl|(simp [errW_none,errW_some] <;> rfl)|(simp [*,errW_none,errW_some] <;> rfl),Kd.V_nil _ _ _ _ _,bM HB.out⟩

/-! ### history_Get: function 12 -/
def history_Get.l0 : Nat → Int → List (S28) → Int → Int → Option (Int × List Int × (List (S53)) × Int × Int × Bool)
|0,_,_,_,_ => none
|k + 1,x1,x8,x9,aa => if aa < x9 then (if 0 ≤ aa then (if aa < (x8.length : Int) then (if ((rd_T28 x8 aa).f0) = x1 then (some ((rd_T28 x8 aa).f0,(rd_T28 x8 aa).f1,(rd_T28 x8 aa).f2,(rd_T28 x8 aa).f3,(rd_T28 x8 aa).f4,true)) else (history_Get.l0 k x1 x8 x9 (wrap64 (aa + 1)))) else (none)) else (none)) else (some (0,([] : List Int),([] : List (S53)),0,0,false))
def history_Get.f (k : Nat) (l0 : List (S28)) (a1 : Int) : Option (Int × List Int × (List (S53)) × Int × Int × Bool) := history_Get.l0 k a1 l0 (l0.length : Int) 0
theorem history_Get.mono_l : ∀ k, (∀ y0 y1 y2 y3, LeO (history_Get.l0 k y0 y1 y2 y3) (history_Get.l0 (k + 1) y0 y1 y2 y3))
|0 => fun _ _ _ _ r h => by simp [history_Get.l0] at h
|k + 1 => by
  have ih0 := history_Get.mono_l k
  ·intro y0 y1 y2 y3
   unfold history_Get.l0
   repeat' (with_reducible first|exact ih0 _ _ _ _|exact LeO.refl _|exact LeO.none _|refine LeO.ite ?_ ?_|refine LeO.bind ?_ (fun _ => ?_))
theorem history_Get.mono : ∀ a0 a1 k, LeO (history_Get.f k a0 a1) (history_Get.f (k + 1) a0 a1) := by
 intro a0 a1 k
 have ih0 := history_Get.mono_l k
 unfold history_Get.f
 repeat' (with_reducible first|exact ih0 _ _ _ _|exact LeO.refl _|exact LeO.none _|refine LeO.ite ?_ ?_|refine LeO.bind ?_ (fun _ => ?_))
theorem history_Get.calls (k : Nat) (aZ : Nat → Prop) (A0 : Option Addr) (c0 : Nat) (l0 : List (S28)) (a1 : Int) (r1 : Int) (r2 : List Int) (r3 : List (S53)) (r4 : Int) (r5 : Int) (r6 : Bool) (w : World) (bi : Kd.V k28 28 w w.heap.size (fun k_ => aZ k_) (.slice A0 l0.length c0) l0) (h : history_Get.f k l0 a1 = some (r1, r2, r3, r4, r5, r6)) :
  Calls Tryz.prog 12 #[.slice A0 l0.length c0,.int .i64 a1] w fun e w' => ∃ bb bc : Value,e = .returned (.tuple #[.agg #[.int .i64 r1,bb,bc,.int .i64 r4,.int .i64 r5],.bool r6]) ∧ Kd.V (Kd.int .i64) 3 w' w.heap.size (fun k_ => (aZ k_ ∨ w.heap.size ≤ k_)) bb r2 ∧ Kd.V k53 53 w' w.heap.size (fun k_ => (aZ k_ ∨ w.heap.size ≤ k_)) bc r3 ∧ Below w.heap.size w w' := by
 have bj := Tryz.underlying28
 have a7 := aK (show Kd.V k28 28 w w.heap.size (fun k_ => (aZ k_ ∨ w.heap.size ≤ k_)) (.slice A0 l0.length c0) l0 from Kd.V_mono bi (fun k_ hk => .inl hk))
 have HB := aK (Below.refl w.heap.size w)
 have H : (history_Get.l0 k a1 l0 (l0.length : Int) 0) = some (r1,r2,r3,r4,r5,r6) := h
 clear h
 have H' := aK H
 clear H
 go_enter Tryz.func12,Tryz.ntmps12
 go_wp2_with (first|((with_reducible refine gate_dst (N := 4) rfl ?_);refine box_event ?hg (N := 4) ?hd (cs := #[.int .i64 0,.slice none 0 0,.slice none 0 0,.int .i64 0,.int .i64 0]) (t := 28) ?hr ?_;(case hd => rfl);(case hg => rfl);(case hr => first|(go_simp;done)|(go_simp;rfl));intro af hg w3 hbox hb;replace a7 := aK (Kd.V_below (Kd.V_elderB (vM a7.out) af (Nat.le_of_eq hg.symm)) hb);have ai := aK (hbox);have a0 := aK ((by rw [hg];exact (below_size (bM HB.out)) : w.heap.size ≤ af));have bd := Ge.mk a0.out;have a2 := aK ((by rw [hg];exact (below_size (bM HB.out)) : w.heap.size ≤ af));have be := Ge.mk a2.out;replace HB := aK (below_step (bM HB.out) hb);clear hb hbox hg))
 go_loopg [10] k (fun kq bk w' => ∃ (aa : Int) (al : Int) (ad : Int) (ab : Int),bk = .int .i64 aa ∧ Aside0 (history_Get.l0 kq a1 l0 (l0.length : Int) aa = some (r1,r2,r3,r4,r5,r6)) ∧ Aside0 (kq ≤ k) ∧ Aside0 (Kd.V k28 28 w' w.heap.size (fun k_ => (aZ k_ ∨ w.heap.size ≤ k_) ∧ k_ ≠ af) (.slice A0 l0.length c0) l0) ∧ Aside0 (w'.heap[af]? = some (.cells #[.int .i64 al,(.slice none 0 0),(.slice none 0 0),.int .i64 ad,.int .i64 ab] 28 (0,0))) ∧ Aside0 (Below w.heap.size w w'))
 case atStart => exact ⟨(0),(0),(0),(0),(by first|rfl|(simp;done)|(simp [*];done)),H',⟨Nat.le_refl _⟩,⟨vM a7.out⟩,⟨kM ai.out⟩,⟨bG HB.out⟩⟩
 case round =>
  clear H'
  try clear p2
  obtain ⟨aa,al,ad,ab,rfl,HA,bf,aC,ai,HB⟩ := hrel
  cases gk with
 |zero => exact absurd HA.out (by simp [history_Get.l0])
 |succ k1 =>
   have H := HA.out
   clear HA
   simp only [history_Get.l0] at H
   by_cases c4 : aa < (l0.length : Int)
   ·rw [if_pos c4] at H
    have a8 := decide_eq_true c4
    clear c4
    obtain ⟨c5,H⟩ := iS H
    have bm := decide_eq_true c5
    clear c5
    obtain ⟨c6,H⟩ := iS H
    have bn := decide_eq_true c6
    clear c6
    by_cases c7 : ((rd_T28 l0 aa).f0) = a1
    ·rw [if_pos c7] at H
     have a9 := beq_iff_eq.mpr c7
     have ba := bne_eq_false_iff_eq.mpr c7
     clear c7
     simp only [Option.some.injEq,Prod.mk.injEq] at H
     obtain ⟨rfl,rfl,rfl,rfl,rfl,rfl⟩ := H
     have aD : 0 ≤ (aa : Int) := dA
     have aE : aa < (l0.length : Int) := dA
     obtain ⟨a3,aj,ak,am,an,aY,aP,aF,aG,aQ,aR,av,aw,ax,ay⟩ := at_T28 (Kd.V_reads' aC.out).2.2 aa aD aE
     cases aY
     obtain ⟨a4,aJ,aL,au⟩ := Kd.V_get aC.out z28 aa aD (by first|exact aE|exact dA|(have e_ := (Kd.V_reads' aC.out).1;omega))
     obtain ⟨aS,aT,aU,aV,rfl,ao,ap,aq,ar⟩ := k28_openF aL
     have ag := au 1 _ rfl
     rw [add_field _ _ 1 (by omega)] at ag
     replace ag := Option.some.inj (ag.symm.trans aF)
     injection ag with hva_ hvn_ hvc_
     rw [hva_] at ap
     rw [hvc_] at ao
     have aA := aK (show Kd.V (Kd.int .i64) 3 _ w.heap.size _ _ ((rd_T28 l0 aa).f1) from Kd.V_mk ao ap)
     clear hva_ hvn_ hvc_ ap ao
     have ah := au 2 _ rfl
     rw [add_field _ _ 2 (by omega)] at ah
     replace ah := Option.some.inj (ah.symm.trans aG)
     injection ah with hva_ hvn_ hvc_
     rw [hva_] at ar
     rw [hvc_] at aq
     have aB := aK (show Kd.V k53 53 _ w.heap.size _ _ ((rd_T28 l0 aa).f2) from Kd.V_mk aq ar)
     clear hva_ hvn_ hvc_ ar aq
     clear au aJ
     have aH := aK aw
     have aW := aK av
     clear aw av
     have aI := aK ay
     have aX := aK ax
     clear ay ax
     replace aD := eq_true aD
     replace aE := eq_true aE
     go_wp2_with (first|((with_reducible refine gate_dst (N := 7) rfl ?_);refine box_event ?hg (N := 7) ?hd (cs := #[.int .i64 0,.slice none 0 0,.slice none 0 0,.int .i64 0,.int .i64 0]) (t := 28) ?hr ?_;(case hd => rfl);(case hg => rfl);(case hr => first|(go_simp;done)|(go_simp;rfl));intro ae hg w8 hbox hb;replace aC := aK (Kd.V_below (Kd.V_elderB (vM aC.out) ae (Nat.le_of_eq hg.symm)) hb);replace aA := aK (Kd.V_below (Kd.V_elderB (vM aA.out) ae (Nat.le_of_eq hg.symm)) hb);replace aB := aK (Kd.V_below (Kd.V_elderB (vM aB.out) ae (Nat.le_of_eq hg.symm)) hb);replace aH := aK (Kd.C_below (cM aH.out) hb);replace aI := aK (Kd.C_below (cM aI.out) hb);have aM := aK (hbox);have aN := aK ((by rw [hg];exact (below_size (bG HB.out)) : w.heap.size ≤ ae));have a5 := Ge.mk aN.out;have aO := aK ((by rw [hg];exact (below_size (bG HB.out)) : w.heap.size ≤ ae));have a6 := Ge.mk aO.out;replace HB := aK (below_step (bG HB.out) hb);have ac := aK (nbL ai.out hg);have az := aK (nbR ai.out hg);replace ai := aK (blk_below (kM ai.out) hb);clear hb hbox hg;have bo := az.out;have bp := ac.out;obtain ⟨_,_,_,_,_,_,_,_,_,_⟩ := bk5_ aM.out;obtain ⟨_,_,_,_,_,_,_,_,_,_⟩ := bk5_ ai.out))
     refine bodyPost_ret (results_ct rfl _ _ af 28 #[.int .i64 ((rd_T28 l0 aa).f0),.slice aj ((rd_T28 l0 aa).f1).length ak,.slice am ((rd_T28 l0 aa).f2).length an,.int .i64 ((rd_T28 l0 aa).f3),.int .i64 ((rd_T28 l0 aa).f4)] (0,0) _ rfl (by refine kO ?_;refine blk_put (cs := #[.int .i64 ((rd_T28 l0 aa).f0),.slice aj ((rd_T28 l0 aa).f1).length ak,.slice am ((rd_T28 l0 aa).f2).length an,.int .i64 ((rd_T28 l0 aa).f3),.int .i64 ab]) ?_ 4 _ rfl;refine kO ?_;refine blk_put (cs := #[.int .i64 ((rd_T28 l0 aa).f0),.slice aj ((rd_T28 l0 aa).f1).length ak,.slice am ((rd_T28 l0 aa).f2).length an,.int .i64 ad,.int .i64 ab]) ?_ 3 _ rfl;refine kO ?_;refine blk_put (cs := #[.int .i64 ((rd_T28 l0 aa).f0),.slice aj ((rd_T28 l0 aa).f1).length ak,.slice none 0 0,.int .i64 ad,.int .i64 ab]) ?_ 2 _ rfl;refine kO ?_;refine blk_put (cs := #[.int .i64 ((rd_T28 l0 aa).f0),.slice none 0 0,.slice none 0 0,.int .i64 ad,.int .i64 ab]) ?_ 1 _ rfl;refine kO ?_;refine blk_put (cs := #[.int .i64 al,.slice none 0 0,.slice none 0 0,.int .i64 ad,.int .i64 ab]) ?_ 0 _ rfl;refine kO ?_;refine blk_far ?_ ac.out _;refine kO ?_;refine blk_far ?_ ac.out _;refine kO ?_;refine blk_far ?_ ac.out _;refine kO ?_;refine blk_far ?_ ac.out _;refine kO ?_;refine blk_far ?_ ac.out _;refine kO ?_;exact ai.out) Tryz.underlying28 rfl (by kernel_rfl)) rfl ?_
     exact ⟨_,_,by first|rfl|(simp [errW_none,errW_some] <;> rfl)|(simp [*,errW_none,errW_some] <;> rfl),by (with_reducible repeat (first|apply Kd.V_alloc|apply Kd.V_drewN|apply Kd.V_drew));exact Kd.V_mono (Kd.V_far (p := ⟨af,4,none⟩) (Kd.V_far (p := ⟨af,3,none⟩) (Kd.V_far (p := ⟨af,2,none⟩) (Kd.V_far (p := ⟨af,1,none⟩) (Kd.V_far (p := ⟨af,0,none⟩) (Kd.V_far (p := ⟨ae,4,none⟩) (Kd.V_far (p := ⟨ae,3,none⟩) (Kd.V_far (p := ⟨ae,2,none⟩) (Kd.V_far (p := ⟨ae,1,none⟩) (Kd.V_far (p := ⟨ae,0,none⟩) (Kd.V_mono (Kd.V_mono aA.out (fun k_ hk => (⟨hk,hk.2⟩ : _ ∧ k_ ≠ ae))) (fun k_ hk => (⟨hk,hk.1.1.2⟩ : _ ∧ k_ ≠ af))) (fun _ hk => hk.1.2) (.int .i64 ((rd_T28 l0 aa).f0))) (fun _ hk => hk.1.2) (.slice aj ((rd_T28 l0 aa).f1).length ak)) (fun _ hk => hk.1.2) (.slice am ((rd_T28 l0 aa).f2).length an)) (fun _ hk => hk.1.2) (.int .i64 ((rd_T28 l0 aa).f3))) (fun _ hk => hk.1.2) (.int .i64 ((rd_T28 l0 aa).f4))) (fun _ hk => hk.2) (.int .i64 ((rd_T28 l0 aa).f0))) (fun _ hk => hk.2) (.slice aj ((rd_T28 l0 aa).f1).length ak)) (fun _ hk => hk.2) (.slice am ((rd_T28 l0 aa).f2).length an)) (fun _ hk => hk.2) (.int .i64 ((rd_T28 l0 aa).f3))) (fun _ hk => hk.2) (.int .i64 ((rd_T28 l0 aa).f4))) (fun _ hk => hk.1.1.1.1),by (with_reducible repeat (first|apply Kd.V_alloc|apply Kd.V_drewN|apply Kd.V_drew));exact Kd.V_mono (Kd.V_far (p := ⟨af,4,none⟩) (Kd.V_far (p := ⟨af,3,none⟩) (Kd.V_far (p := ⟨af,2,none⟩) (Kd.V_far (p := ⟨af,1,none⟩) (Kd.V_far (p := ⟨af,0,none⟩) (Kd.V_far (p := ⟨ae,4,none⟩) (Kd.V_far (p := ⟨ae,3,none⟩) (Kd.V_far (p := ⟨ae,2,none⟩) (Kd.V_far (p := ⟨ae,1,none⟩) (Kd.V_far (p := ⟨ae,0,none⟩) (Kd.V_mono (Kd.V_mono aB.out (fun k_ hk => (⟨hk,hk.2⟩ : _ ∧ k_ ≠ ae))) (fun k_ hk => (⟨hk,hk.1.1.2⟩ : _ ∧ k_ ≠ af))) (fun _ hk => hk.1.2) (.int .i64 ((rd_T28 l0 aa).f0))) (fun _ hk => hk.1.2) (.slice aj ((rd_T28 l0 aa).f1).length ak)) (fun _ hk => hk.1.2) (.slice am ((rd_T28 l0 aa).f2).length an)) (fun _ hk => hk.1.2) (.int .i64 ((rd_T28 l0 aa).f3))) (fun _ hk => hk.1.2) (.int .i64 ((rd_T28 l0 aa).f4))) (fun _ hk => hk.2) (.int .i64 ((rd_T28 l0 aa).f0))) (fun _ hk => hk.2) (.slice aj ((rd_T28 l0 aa).f1).length ak)) (fun _ hk => hk.2) (.slice am ((rd_T28 l0 aa).f2).length an)) (fun _ hk => hk.2) (.int .i64 ((rd_T28 l0 aa).f3))) (fun _ hk => hk.2) (.int .i64 ((rd_T28 l0 aa).f4))) (fun _ hk => hk.1.1.1.1),bG HB.out⟩
    ·rw [if_neg c7] at H
     have a9 := beq_eq_false_iff_ne.mpr c7
     have ba := bne_iff_ne.mpr c7
     have H' := aK H
     clear H
     have aD : 0 ≤ (aa : Int) := dA
     have aE : aa < (l0.length : Int) := dA
     obtain ⟨a3,aj,ak,am,an,aY,aP,aF,aG,aQ,aR,av,aw,ax,ay⟩ := at_T28 (Kd.V_reads' aC.out).2.2 aa aD aE
     cases aY
     obtain ⟨a4,aJ,aL,au⟩ := Kd.V_get aC.out z28 aa aD (by first|exact aE|exact dA|(have e_ := (Kd.V_reads' aC.out).1;omega))
     obtain ⟨aS,aT,aU,aV,rfl,ao,ap,aq,ar⟩ := k28_openF aL
     have ag := au 1 _ rfl
     rw [add_field _ _ 1 (by omega)] at ag
     replace ag := Option.some.inj (ag.symm.trans aF)
     injection ag with hva_ hvn_ hvc_
     rw [hva_] at ap
     rw [hvc_] at ao
     have aA := aK (show Kd.V (Kd.int .i64) 3 _ w.heap.size _ _ ((rd_T28 l0 aa).f1) from Kd.V_mk ao ap)
     clear hva_ hvn_ hvc_ ap ao
     have ah := au 2 _ rfl
     rw [add_field _ _ 2 (by omega)] at ah
     replace ah := Option.some.inj (ah.symm.trans aG)
     injection ah with hva_ hvn_ hvc_
     rw [hva_] at ar
     rw [hvc_] at aq
     have aB := aK (show Kd.V k53 53 _ w.heap.size _ _ ((rd_T28 l0 aa).f2) from Kd.V_mk aq ar)
     clear hva_ hvn_ hvc_ ar aq
     clear au aJ
     have aH := aK aw
     have aW := aK av
     clear aw av
     have aI := aK ay
     have aX := aK ax
     clear ay ax
     replace aD := eq_true aD
     replace aE := eq_true aE
     go_wp2_with (first|((with_reducible refine gate_dst (N := 7) rfl ?_);refine box_event ?hg (N := 7) ?hd (cs := #[.int .i64 0,.slice none 0 0,.slice none 0 0,.int .i64 0,.int .i64 0]) (t := 28) ?hr ?_;(case hd => rfl);(case hg => rfl);(case hr => first|(go_simp;done)|(go_simp;rfl));intro ae hg bq hbox hb;replace aC := aK (Kd.V_below (Kd.V_elderB (vM aC.out) ae (Nat.le_of_eq hg.symm)) hb);have aM := aK (hbox);have aN := aK ((by rw [hg];exact (below_size (bG HB.out)) : w.heap.size ≤ ae));have a5 := Ge.mk aN.out;have aO := aK ((by rw [hg];exact (below_size (bG HB.out)) : w.heap.size ≤ ae));have a6 := Ge.mk aO.out;replace HB := aK (below_step (bG HB.out) hb);have ac := aK (nbL ai.out hg);have az := aK (nbR ai.out hg);replace ai := aK (blk_below (kM ai.out) hb);clear hb hbox hg;have bg := az.out;have bh := ac.out;obtain ⟨_,_,_,_,_,_,_,_,_,_⟩ := bk5_ aM.out))
     go_roundg k1
     case measure => have := bf.out;omega
     case rel => exact ⟨(wrap64 (aa + 1)),(al),(ad),(ab),(by first|rfl|(simp;done)|(simp [*];done)),H',⟨by have := bf.out;omega⟩,⟨by (with_reducible repeat (first|apply Kd.V_alloc|apply Kd.V_drewN|apply Kd.V_drew));exact Kd.V_mono (Kd.V_far (p := ⟨ae,4,none⟩) (Kd.V_far (p := ⟨ae,3,none⟩) (Kd.V_far (p := ⟨ae,2,none⟩) (Kd.V_far (p := ⟨ae,1,none⟩) (Kd.V_far (p := ⟨ae,0,none⟩) (Kd.V_mono aC.out (fun k_ hk => (⟨hk,hk.2⟩ : _ ∧ k_ ≠ ae))) (fun _ hk => hk.2) (.int .i64 ((rd_T28 l0 aa).f0))) (fun _ hk => hk.2) (.slice aj ((rd_T28 l0 aa).f1).length ak)) (fun _ hk => hk.2) (.slice am ((rd_T28 l0 aa).f2).length an)) (fun _ hk => hk.2) (.int .i64 ((rd_T28 l0 aa).f3))) (fun _ hk => hk.2) (.int .i64 ((rd_T28 l0 aa).f4))) (fun _ hk => ⟨hk.1.1.1,hk.1.1.2⟩)⟩,⟨by refine kO ?_;refine blk_far ?_ ac.out _;refine kO ?_;refine blk_far ?_ ac.out _;refine kO ?_;refine blk_far ?_ ac.out _;refine kO ?_;refine blk_far ?_ ac.out _;refine kO ?_;refine blk_far ?_ ac.out _;refine kO ?_;exact ai.out⟩,⟨bG HB.out⟩⟩
   ·rw [if_neg c4] at H
    have a8 := decide_eq_false c4
    clear c4
    simp only [Option.some.injEq,Prod.mk.injEq] at H
    obtain ⟨rfl,rfl,rfl,rfl,rfl,rfl⟩ := H
    obtain ⟨_,_,_,_,_,_,_,_,_,_⟩ := bk5_ ai.out
    go_wp2
    refine bodyPost_ret (results_ct rfl _ _ af 28 #[.int .i64 0,.slice none 0 0,.slice none 0 0,.int .i64 0,.int .i64 0] (0,0) _ rfl (by refine kO ?_;refine blk_put (cs := #[.int .i64 0,.slice none 0 0,.slice none 0 0,.int .i64 0,.int .i64 ab]) ?_ 4 _ rfl;refine kO ?_;refine blk_put (cs := #[.int .i64 0,.slice none 0 0,.slice none 0 0,.int .i64 ad,.int .i64 ab]) ?_ 3 _ rfl;refine kO ?_;refine blk_put (cs := #[.int .i64 0,.slice none 0 0,.slice none 0 0,.int .i64 ad,.int .i64 ab]) ?_ 2 _ rfl;refine kO ?_;refine blk_put (cs := #[.int .i64 0,.slice none 0 0,.slice none 0 0,.int .i64 ad,.int .i64 ab]) ?_ 1 _ rfl;refine kO ?_;refine blk_put (cs := #[.int .i64 al,.slice none 0 0,.slice none 0 0,.int .i64 ad,.int .i64 ab]) ?_ 0 _ rfl;refine kO ?_;exact ai.out) Tryz.underlying28 rfl (by kernel_rfl)) rfl ?_
    exact ⟨_,_,by first|rfl|(simp [errW_none,errW_some] <;> rfl)|(simp [*,errW_none,errW_some] <;> rfl),Kd.V_nil _ _ _ _ _,Kd.V_nil _ _ _ _ _,bG HB.out⟩
end Go.Proofs.YtgadbpljlpclnaaGreatDoor.H
