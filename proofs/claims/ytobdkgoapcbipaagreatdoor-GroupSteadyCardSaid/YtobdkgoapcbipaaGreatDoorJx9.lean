import Derived.Test.YtobdkgoapcbipaaGreatDoorJx0
import Derived.Test.YtobdkgoapcbipaaGreatDoorJx8
namespace Go.Proofs.YtobdkgoapcbipaaGreatDoor.J
open Go.RowKit Go.Proofs.YtobdkgoapcbipaaGreatDoorW.PrintWords Go.Proofs.YtobdkgoapcbipaaGreatDoorW.PrintLast Go.Proofs.YtobdkgoapcbipaaGreatDoorW.PrintMore
attribute [local go_sem] max2_int min2_int max_two min_two max_three min_three max_four min_four
set_option linter.unusedVariables false
set_option linter.unusedSimpArgs false

/-! ### r43_Same: function 25 -/
def r43_Same.l0 : Nat → List (S36) → List (S36) → Int → Option (Bool)
|0,_,_,_ => none
|k + 1,x0,x1,x5 => if x5 < (x0.length : Int) then (if 0 ≤ x5 then (if x5 < (x1.length : Int) then ((r43_SameGroup.f k ((rd_T36 x0 x5).f0) ((rd_T36 x0 x5).f1) ((rd_T36 x0 x5).f2) ((rd_T36 x1 x5).f0) ((rd_T36 x1 x5).f1) ((rd_T36 x1 x5).f2)).bind fun aa => (if aa = true then (r43_Same.l0 k x0 x1 (wrap64 (x5 + 1))) else (some false))) else (none)) else (none)) else (some true)
def r43_Same.f (k : Nat) (l0 : List (S36)) (l1 : List (S36)) : Option (Bool) := if (l0.length : Int) = (l1.length : Int) then (r43_Same.l0 k l0 l1 0) else (some false)
theorem r43_Same.mono_l : ∀ k, (∀ y0 y1 y2, LeO (r43_Same.l0 k y0 y1 y2) (r43_Same.l0 (k + 1) y0 y1 y2))
|0 => fun _ _ _ r h => by simp [r43_Same.l0] at h
|k + 1 => by
  have ih0 := r43_Same.mono_l k
  ·intro y0 y1 y2
   unfold r43_Same.l0
   repeat' (with_reducible first|exact ih0 _ _ _|exact r43_SameGroup.mono _ _ _ _ _ _ _|exact LeO.refl _|exact LeO.none _|refine LeO.ite ?_ ?_|refine LeO.bind ?_ (fun _ => ?_))
theorem r43_Same.mono : ∀ a0 a1 k, LeO (r43_Same.f k a0 a1) (r43_Same.f (k + 1) a0 a1) := by
 intro a0 a1 k
 have ih0 := r43_Same.mono_l k
 unfold r43_Same.f
 repeat' (with_reducible first|exact ih0 _ _ _|exact r43_SameGroup.mono _ _ _ _ _ _ _|exact LeO.refl _|exact LeO.none _|refine LeO.ite ?_ ?_|refine LeO.bind ?_ (fun _ => ?_))
def r43_Same.T6 : Bool × List (List Nat × List Nat) := (true, [([], []), ([], []), ([0, 1], [0, 1]), ([2], [2]), ([], []), ([], []), ([4, 5], [4, 5]), ([6], [6]), ([3, 7], [3, 7]), ([8], [8])])
def r43_Same.B6 : List Nat := [0, 0, 3, 7, 0, 0, 48, 112, 255, 511]
theorem r43_Same.tab6 : rtab .any (opsOf Tryz.f25 6) = r43_Same.T6 := by kernel_rfl
theorem r43_Same.bits6 : waitsOk r43_Same.T6.2 r43_Same.B6 = true := by kernel_rfl
set_option maxHeartbeats 4000000 in
set_option maxRecDepth 100000 in
theorem r43_Same.calls (k : Nat) (A0 : Option Addr) (c0 : Nat) (l0 : List (S36)) (A1 : Option Addr) (c1 : Nat) (l1 : List (S36)) (r : Bool) (w : World) (ba : Kd.C k36 w A0 l0.length l0) (bb : l0.length ≤ c0) (bc : Kd.C k36 w A1 l1.length l1) (bd : l1.length ≤ c1) (h : r43_Same.f k l0 l1 = some r) :
  Calls Tryz.prog 25 #[.slice A0 l0.length c0,.slice A1 l1.length c1] w fun e w' => e = .returned (.bool r) ∧ Below w.heap.size w w' := by
 have bi := Tryz.underlying36
 have be := aK ba
 have bm := aK bb
 clear ba bb
 have bf := aK bc
 have bn := aK bd
 clear bc bd
 have HB := aK (Below.refl w.heap.size w)
 have H : (if (l0.length : Int) = (l1.length : Int) then (r43_Same.l0 k l0 l1 0) else (some false)) = some r := h
 clear h
 by_cases c3 : (l0.length : Int) = (l1.length : Int)
 ·rw [if_pos c3] at H
  have a5 := beq_iff_eq.mpr c3
  have a6 := bne_eq_false_iff_eq.mpr c3
  have a7 : (l0.length == l1.length) = true := by first|simpa using c3|(simp at c3 ⊢;omega)
  clear c3
  have H' := aK H
  clear H
  go_enter Tryz.func25,Tryz.ntmps25
  go_wp2
  go_loopg [5] k (fun kq v5 w' => ∃ (aa : Int),v5 = .int .i64 aa ∧ Aside0 (r43_Same.l0 kq l0 l1 aa = some r) ∧ Aside0 (kq ≤ k) ∧ Aside0 (Below w.heap.size w w'))
  case atStart => exact ⟨(0),(by first|rfl|(simp;done)|(simp [*];done)),H',⟨Nat.le_refl _⟩,⟨bM HB.out⟩⟩
  case round =>
   clear H'
   try clear p2
   try clear c3
   try clear a5
   try clear a6
   try clear a7
   obtain ⟨aa,rfl,HA,bg,HB⟩ := hrel
   cases gk with
  |zero => exact absurd HA.out (by simp [r43_Same.l0])
  |succ k1 =>
    have H := HA.out
    clear HA
    simp only [r43_Same.l0] at H
    by_cases c4 : aa < (l0.length : Int)
    ·rw [if_pos c4] at H
     have a8 := decide_eq_true c4
     clear c4
     obtain ⟨c5,H⟩ := iS H
     have bj := decide_eq_true c5
     clear c5
     obtain ⟨c6,H⟩ := iS H
     have bk := decide_eq_true c6
     clear c6
     replace H := Option.bind_eq_some_iff.mp H
     obtain ⟨a9,bh,H⟩ := H
     have A7 := aK bh
     clear bh
     by_cases c8 : a9 = true
     ·subst c8
      rw [if_pos rfl] at H
      have H' := aK H
      clear H
      try go_wp2
      have aU := aK (below_drew1 HB.out)
      clear HB
      have HB := aU
      clear aU
      have aQ : 0 ≤ (aa : Int) := dA
      have aR : aa < (l0.length : Int) := dA
      obtain ⟨an,aD,aE,aF,aG,a3,ab,ac,ad,ap,aq,ar,au⟩ := at_T36 be.out aa aQ aR
      have ae := ad
      have af := ac
      have ag := ab
      cases a3
      replace ab := xM HB ab
      replace ac := xM HB ac
      replace ad := xM HB ad
      have av := aK aq
      have aM := aK ap
      clear aq ap
      have aw := aK au
      have aN := aK ar
      clear au ar
      replace aQ := eq_true aQ
      replace aR := eq_true aR
      have aS : 0 ≤ (aa : Int) := dA
      have aT : aa < (l1.length : Int) := dA
      obtain ⟨ao,aH,aI,aJ,aL,a4,ah,ai,aj,ax,ay,az,aA⟩ := at_T36 bf.out aa aS aT
      have ak := aj
      have al := ai
      have am := ah
      cases a4
      replace ah := xM HB ah
      replace ai := xM HB ai
      replace aj := xM HB aj
      have aB := aK ay
      have aO := aK ax
      clear ay ax
      have aC := aK aA
      have aP := aK az
      clear aA az
      replace aS := eq_true aS
      replace aT := eq_true aT
      refine start_ (n := 10) (S := fun w' => w'.cell? (an.add ((aa).toNat * 3)) = some (.string ((rd_T36 l0 aa).f0)) ∧ w'.cell? ⟨(an.add ((aa).toNat * 3)).block,(an.add ((aa).toNat * 3)).off + 1,none⟩ = some (.slice aD ((rd_T36 l0 aa).f1).length aE) ∧ w'.cell? ⟨(an.add ((aa).toNat * 3)).block,(an.add ((aa).toNat * 3)).off + 2,none⟩ = some (.slice aF ((rd_T36 l0 aa).f2).length aG) ∧ w'.cell? (ao.add ((aa).toNat * 3)) = some (.string ((rd_T36 l1 aa).f0)) ∧ w'.cell? ⟨(ao.add ((aa).toNat * 3)).block,(ao.add ((aa).toNat * 3)).off + 1,none⟩ = some (.slice aH ((rd_T36 l1 aa).f1).length aI) ∧ w'.cell? ⟨(ao.add ((aa).toNat * 3)).block,(ao.add ((aa).toNat * 3)).off + 2,none⟩ = some (.slice aJ ((rd_T36 l1 aa).f2).length aL)) (ds := []) (bA 10 0) (by kernel_rfl) rfl rfl ⟨((HB.out.cell (World.block_lt_of_cell? w _ ag)).trans ag),((HB.out.cell (World.block_lt_of_cell? w _ af)).trans af),((HB.out.cell (World.block_lt_of_cell? w _ ae)).trans ae),((HB.out.cell (World.block_lt_of_cell? w _ am)).trans am),((HB.out.cell (World.block_lt_of_cell? w _ al)).trans al),((HB.out.cell (World.block_lt_of_cell? w _ ak)).trans ak)⟩ (fun hHeld => ?_);refine with_tabW r43_Same.tab6 r43_Same.bits6 (fun HT_ HW_ => ?_)
      generalize wr.drew = w9 at HB av aw aB aC ab ac ad ah ai aj hHeld ⊢
      refine pure_ (i := 0) (N := some 17) (v := ?_) (a' := ?_) (bA 10 1) rfl rfl (any_of HT_.out (by kernel_rfl)) (fun _ _ _ h => h) (Or.inl ⟨by rfl,?_⟩) ?_ ?_
      rotate_left
      ·intro w'
       go_simp
       with_reducible rfl
      rotate_left
      ·simp only [Act.put,z1_,z2_,z3_,i64_w,i32_w]
       rfl
      refine pure_ (i := 1) (N := some 18) (v := ?_) (a' := ?_) (bA 10 3) rfl rfl (any_of HT_.out (by kernel_rfl)) (fun _ _ _ h => h) (Or.inl ⟨by rfl,?_⟩) ?_ ?_
      rotate_left
      ·intro w'
       go_simp
       with_reducible rfl
      rotate_left
      ·simp only [Act.put,z1_,z2_,z3_,i64_w,i32_w]
       rfl
      refine pure_ (i := 2) (N := some 19) (v := ?_) (a' := ?_) (bA 10 7) rfl rfl (any_of HT_.out (by kernel_rfl)) (fun _ _ _ h => h) (Or.inl ⟨by rfl,?_⟩) ?_ ?_
      rotate_left
      ·intro w'
       go_simp
       with_reducible rfl
      rotate_left
      ·simp only [Act.put,z1_,z2_,z3_,i64_w,i32_w]
       rfl
      refine pure_ (i := 4) (N := some 21) (v := ?_) (a' := ?_) (bA 10 23) rfl rfl (any_of HT_.out (by kernel_rfl)) (fun _ _ _ h => h) (Or.inl ⟨by rfl,?_⟩) ?_ ?_
      rotate_left
      ·intro w'
       go_simp
       with_reducible rfl
      rotate_left
      ·simp only [Act.put,z1_,z2_,z3_,i64_w,i32_w]
       rfl
      refine pure_ (i := 5) (N := some 22) (v := ?_) (a' := ?_) (bA 10 55) rfl rfl (any_of HT_.out (by kernel_rfl)) (fun _ _ _ h => h) (Or.inl ⟨by rfl,?_⟩) ?_ ?_
      rotate_left
      ·intro w'
       go_simp
       with_reducible rfl
      rotate_left
      ·simp only [Act.put,z1_,z2_,z3_,i64_w,i32_w]
       rfl
      refine pure_ (i := 6) (N := some 23) (v := ?_) (a' := ?_) (bA 10 119) rfl rfl (any_of HT_.out (by kernel_rfl)) (fun _ _ _ h => h) (Or.inl ⟨by rfl,?_⟩) ?_ ?_
      rotate_left
      ·intro w'
       go_simp
       with_reducible rfl
      rotate_left
      ·simp only [Act.put,z1_,z2_,z3_,i64_w,i32_w]
       rfl
      refine take_ (i := 3) (N := some 20) (v := ?_) (a' := ?_) (bA 10 127) rfl rfl (take_ofW HT_.out HW_.out (by kernel_rfl)) (fun _ _ _ h => h) (Or.inl ⟨by rfl,?_⟩) hHeld ?_ ?_
      rotate_left
      ·rintro w' ⟨s0,s1,s2,s3,s4,s5⟩
       go_simp
       with_reducible rfl
      rotate_left
      ·simp only [Act.put,z1_,z2_,z3_,i64_w,i32_w]
       rfl
      refine take_ (i := 7) (N := some 24) (v := ?_) (a' := ?_) (bA 10 255) rfl rfl (take_ofW HT_.out HW_.out (by kernel_rfl)) (fun _ _ _ h => h) (Or.inl ⟨by rfl,?_⟩) hHeld ?_ ?_
      rotate_left
      ·rintro w' ⟨s0,s1,s2,s3,s4,s5⟩
       go_simp
       with_reducible rfl
      rotate_left
      ·simp only [Act.put,z1_,z2_,z3_,i64_w,i32_w]
       rfl
      refine one_ (i := 8) (N := some 25) (bA 10 511) rfl rfl (one_of HT_.out (by kernel_rfl)) (by decide) (fun K hK => ?_)
      refine goes_ Tryz.func30 (by kernel_rfl) rfl #[.agg #[.string ((rd_T36 l0 aa).f0),.slice aD ((rd_T36 l0 aa).f1).length aE,.slice aF ((rd_T36 l0 aa).f2).length aG],.agg #[.string ((rd_T36 l1 aa).f0),.slice aH ((rd_T36 l1 aa).f1).length aI,.slice aJ ((rd_T36 l1 aa).f2).length aL]] (by rfl) rfl rfl (by (try simp only [z4_,z5_,z6_]);first|done|rfl|(simp only [z7_,z8_];rfl)) ?_
      with_reducible refine (r43_SameGroup.calls k1 ((rd_T36 l0 aa).f0) _ _ ((rd_T36 l0 aa).f1) _ _ ((rd_T36 l0 aa).f2) ((rd_T36 l1 aa).f0) _ _ ((rd_T36 l1 aa).f1) _ _ ((rd_T36 l1 aa).f2) true _ ?aV ?aW ?aX ?aY ?aZ ?a0 ?a1 ?a2 A7.out).mono ?_
      (case aV => exact cM (Kd.C_below av.out HB.out))
      (case aW => exact aM.out)
      (case aX => exact cM (Kd.C_below aw.out HB.out))
      (case aY => exact aN.out)
      (case aZ => exact cM (Kd.C_below aB.out HB.out))
      (case a0 => exact aO.out)
      (case a1 => exact cM (Kd.C_below aC.out HB.out))
      (case a2 => exact aP.out)
      rintro e bo ⟨rfl,hb⟩
      refine ⟨_,rfl,?_⟩
      have aU := aK (below_step (bM HB.out) hb)
      clear HB
      have HB := aU
      clear aU
      (try clear hb)
      refine hK.out _ _ ⟨((HB.out.cell (World.block_lt_of_cell? w _ ag)).trans ag),((HB.out.cell (World.block_lt_of_cell? w _ af)).trans af),((HB.out.cell (World.block_lt_of_cell? w _ ae)).trans ae),((HB.out.cell (World.block_lt_of_cell? w _ am)).trans am),((HB.out.cell (World.block_lt_of_cell? w _ al)).trans al),((HB.out.cell (World.block_lt_of_cell? w _ ak)).trans ak)⟩ (fun hHeld => ?_)
      clear hK K
      refine norm_ (a' := ?_) ?_ ?_
      rotate_left
      ·show Act.put _ (some 25) _ = _
       simp only [Act.put,z1_,z2_,z3_,i64_w,i32_w]
       rfl
      refine pure_ (i := 9) (N := some 26) (v := ?_) (a' := ?_) (bA 10 1023) rfl rfl (any_of HT_.out (by kernel_rfl)) (fun _ _ _ h => h) (Or.inl ⟨by rfl,?_⟩) ?_ ?_
      rotate_left
      ·intro w'
       go_simp
       with_reducible rfl
      rotate_left
      ·simp only [Act.put,z1_,z2_,z3_,i64_w,i32_w]
       rfl
      refine done_ (done_of HT_.out (by kernel_rfl)) ?_
      try go_wp2
      go_roundg k1
      case measure => have := bg.out;omega
      case rel => exact ⟨(wrap64 (aa + 1)),(by first|rfl|(simp;done)|(simp [*];done)),H',⟨by have := bg.out;omega⟩,⟨bM HB.out⟩⟩
     ·replace c8 := Bool.eq_false_iff.mpr c8
      subst c8
      rw [if_neg (show ¬ (false = true) by decide)] at H
      obtain rfl := Option.some.inj H
      try go_wp2
      have aU := aK (below_drew1 HB.out)
      clear HB
      have HB := aU
      clear aU
      have aQ : 0 ≤ (aa : Int) := dA
      have aR : aa < (l0.length : Int) := dA
      obtain ⟨an,aD,aE,aF,aG,a3,ab,ac,ad,ap,aq,ar,au⟩ := at_T36 be.out aa aQ aR
      have ae := ad
      have af := ac
      have ag := ab
      cases a3
      replace ab := xM HB ab
      replace ac := xM HB ac
      replace ad := xM HB ad
      have av := aK aq
      have aM := aK ap
      clear aq ap
      have aw := aK au
      have aN := aK ar
      clear au ar
      replace aQ := eq_true aQ
      replace aR := eq_true aR
      have aS : 0 ≤ (aa : Int) := dA
      have aT : aa < (l1.length : Int) := dA
      obtain ⟨ao,aH,aI,aJ,aL,a4,ah,ai,aj,ax,ay,az,aA⟩ := at_T36 bf.out aa aS aT
      have ak := aj
      have al := ai
      have am := ah
      cases a4
      replace ah := xM HB ah
      replace ai := xM HB ai
      replace aj := xM HB aj
      have aB := aK ay
      have aO := aK ax
      clear ay ax
      have aC := aK aA
      have aP := aK az
      clear aA az
      replace aS := eq_true aS
      replace aT := eq_true aT
      refine start_ (n := 10) (S := fun w' => w'.cell? (an.add ((aa).toNat * 3)) = some (.string ((rd_T36 l0 aa).f0)) ∧ w'.cell? ⟨(an.add ((aa).toNat * 3)).block,(an.add ((aa).toNat * 3)).off + 1,none⟩ = some (.slice aD ((rd_T36 l0 aa).f1).length aE) ∧ w'.cell? ⟨(an.add ((aa).toNat * 3)).block,(an.add ((aa).toNat * 3)).off + 2,none⟩ = some (.slice aF ((rd_T36 l0 aa).f2).length aG) ∧ w'.cell? (ao.add ((aa).toNat * 3)) = some (.string ((rd_T36 l1 aa).f0)) ∧ w'.cell? ⟨(ao.add ((aa).toNat * 3)).block,(ao.add ((aa).toNat * 3)).off + 1,none⟩ = some (.slice aH ((rd_T36 l1 aa).f1).length aI) ∧ w'.cell? ⟨(ao.add ((aa).toNat * 3)).block,(ao.add ((aa).toNat * 3)).off + 2,none⟩ = some (.slice aJ ((rd_T36 l1 aa).f2).length aL)) (ds := []) (bA 10 0) (by kernel_rfl) rfl rfl ⟨((HB.out.cell (World.block_lt_of_cell? w _ ag)).trans ag),((HB.out.cell (World.block_lt_of_cell? w _ af)).trans af),((HB.out.cell (World.block_lt_of_cell? w _ ae)).trans ae),((HB.out.cell (World.block_lt_of_cell? w _ am)).trans am),((HB.out.cell (World.block_lt_of_cell? w _ al)).trans al),((HB.out.cell (World.block_lt_of_cell? w _ ak)).trans ak)⟩ (fun hHeld => ?_);refine with_tabW r43_Same.tab6 r43_Same.bits6 (fun HT_ HW_ => ?_)
      generalize wr.drew = w11 at HB av aw aB aC ab ac ad ah ai aj hHeld ⊢
      refine pure_ (i := 0) (N := some 17) (v := ?_) (a' := ?_) (bA 10 1) rfl rfl (any_of HT_.out (by kernel_rfl)) (fun _ _ _ h => h) (Or.inl ⟨by rfl,?_⟩) ?_ ?_
      rotate_left
      ·intro w'
       go_simp
       with_reducible rfl
      rotate_left
      ·simp only [Act.put,z1_,z2_,z3_,i64_w,i32_w]
       rfl
      refine pure_ (i := 1) (N := some 18) (v := ?_) (a' := ?_) (bA 10 3) rfl rfl (any_of HT_.out (by kernel_rfl)) (fun _ _ _ h => h) (Or.inl ⟨by rfl,?_⟩) ?_ ?_
      rotate_left
      ·intro w'
       go_simp
       with_reducible rfl
      rotate_left
      ·simp only [Act.put,z1_,z2_,z3_,i64_w,i32_w]
       rfl
      refine pure_ (i := 2) (N := some 19) (v := ?_) (a' := ?_) (bA 10 7) rfl rfl (any_of HT_.out (by kernel_rfl)) (fun _ _ _ h => h) (Or.inl ⟨by rfl,?_⟩) ?_ ?_
      rotate_left
      ·intro w'
       go_simp
       with_reducible rfl
      rotate_left
      ·simp only [Act.put,z1_,z2_,z3_,i64_w,i32_w]
       rfl
      refine pure_ (i := 4) (N := some 21) (v := ?_) (a' := ?_) (bA 10 23) rfl rfl (any_of HT_.out (by kernel_rfl)) (fun _ _ _ h => h) (Or.inl ⟨by rfl,?_⟩) ?_ ?_
      rotate_left
      ·intro w'
       go_simp
       with_reducible rfl
      rotate_left
      ·simp only [Act.put,z1_,z2_,z3_,i64_w,i32_w]
       rfl
      refine pure_ (i := 5) (N := some 22) (v := ?_) (a' := ?_) (bA 10 55) rfl rfl (any_of HT_.out (by kernel_rfl)) (fun _ _ _ h => h) (Or.inl ⟨by rfl,?_⟩) ?_ ?_
      rotate_left
      ·intro w'
       go_simp
       with_reducible rfl
      rotate_left
      ·simp only [Act.put,z1_,z2_,z3_,i64_w,i32_w]
       rfl
      refine pure_ (i := 6) (N := some 23) (v := ?_) (a' := ?_) (bA 10 119) rfl rfl (any_of HT_.out (by kernel_rfl)) (fun _ _ _ h => h) (Or.inl ⟨by rfl,?_⟩) ?_ ?_
      rotate_left
      ·intro w'
       go_simp
       with_reducible rfl
      rotate_left
      ·simp only [Act.put,z1_,z2_,z3_,i64_w,i32_w]
       rfl
      refine take_ (i := 3) (N := some 20) (v := ?_) (a' := ?_) (bA 10 127) rfl rfl (take_ofW HT_.out HW_.out (by kernel_rfl)) (fun _ _ _ h => h) (Or.inl ⟨by rfl,?_⟩) hHeld ?_ ?_
      rotate_left
      ·rintro w' ⟨s0,s1,s2,s3,s4,s5⟩
       go_simp
       with_reducible rfl
      rotate_left
      ·simp only [Act.put,z1_,z2_,z3_,i64_w,i32_w]
       rfl
      refine take_ (i := 7) (N := some 24) (v := ?_) (a' := ?_) (bA 10 255) rfl rfl (take_ofW HT_.out HW_.out (by kernel_rfl)) (fun _ _ _ h => h) (Or.inl ⟨by rfl,?_⟩) hHeld ?_ ?_
      rotate_left
      ·rintro w' ⟨s0,s1,s2,s3,s4,s5⟩
       go_simp
       with_reducible rfl
      rotate_left
      ·simp only [Act.put,z1_,z2_,z3_,i64_w,i32_w]
       rfl
      refine one_ (i := 8) (N := some 25) (bA 10 511) rfl rfl (one_of HT_.out (by kernel_rfl)) (by decide) (fun K hK => ?_)
      refine goes_ Tryz.func30 (by kernel_rfl) rfl #[.agg #[.string ((rd_T36 l0 aa).f0),.slice aD ((rd_T36 l0 aa).f1).length aE,.slice aF ((rd_T36 l0 aa).f2).length aG],.agg #[.string ((rd_T36 l1 aa).f0),.slice aH ((rd_T36 l1 aa).f1).length aI,.slice aJ ((rd_T36 l1 aa).f2).length aL]] (by rfl) rfl rfl (by (try simp only [z4_,z5_,z6_]);first|done|rfl|(simp only [z7_,z8_];rfl)) ?_
      with_reducible refine (r43_SameGroup.calls k1 ((rd_T36 l0 aa).f0) _ _ ((rd_T36 l0 aa).f1) _ _ ((rd_T36 l0 aa).f2) ((rd_T36 l1 aa).f0) _ _ ((rd_T36 l1 aa).f1) _ _ ((rd_T36 l1 aa).f2) false _ ?aV ?aW ?aX ?aY ?aZ ?a0 ?a1 ?a2 A7.out).mono ?_
      (case aV => exact cM (Kd.C_below av.out HB.out))
      (case aW => exact aM.out)
      (case aX => exact cM (Kd.C_below aw.out HB.out))
      (case aY => exact aN.out)
      (case aZ => exact cM (Kd.C_below aB.out HB.out))
      (case a0 => exact aO.out)
      (case a1 => exact cM (Kd.C_below aC.out HB.out))
      (case a2 => exact aP.out)
      rintro e bp ⟨rfl,hb⟩
      refine ⟨_,rfl,?_⟩
      have aU := aK (below_step (bM HB.out) hb)
      clear HB
      have HB := aU
      clear aU
      (try clear hb)
      refine hK.out _ _ ⟨((HB.out.cell (World.block_lt_of_cell? w _ ag)).trans ag),((HB.out.cell (World.block_lt_of_cell? w _ af)).trans af),((HB.out.cell (World.block_lt_of_cell? w _ ae)).trans ae),((HB.out.cell (World.block_lt_of_cell? w _ am)).trans am),((HB.out.cell (World.block_lt_of_cell? w _ al)).trans al),((HB.out.cell (World.block_lt_of_cell? w _ ak)).trans ak)⟩ (fun hHeld => ?_)
      clear hK K
      refine norm_ (a' := ?_) ?_ ?_
      rotate_left
      ·show Act.put _ (some 25) _ = _
       simp only [Act.put,z1_,z2_,z3_,i64_w,i32_w]
       rfl
      refine pure_ (i := 9) (N := some 26) (v := ?_) (a' := ?_) (bA 10 1023) rfl rfl (any_of HT_.out (by kernel_rfl)) (fun _ _ _ h => h) (Or.inl ⟨by rfl,?_⟩) ?_ ?_
      rotate_left
      ·intro w'
       go_simp
       with_reducible rfl
      rotate_left
      ·simp only [Act.put,z1_,z2_,z3_,i64_w,i32_w]
       rfl
      refine done_ (done_of HT_.out (by kernel_rfl)) ?_
      try go_wp2
      go_ret
      exact ⟨by first|rfl|(simp [errW_none,errW_some] <;> rfl)|(simp [*,errW_none,errW_some] <;> rfl),bM HB.out⟩
    ·rw [if_neg c4] at H
     have a8 := decide_eq_false c4
     clear c4
     obtain rfl := Option.some.inj H
     go_wp2
     go_ret
     exact ⟨by first|rfl|(simp [errW_none,errW_some] <;> rfl)|(simp [*,errW_none,errW_some] <;> rfl),bM HB.out⟩
 ·rw [if_neg c3] at H
  have a5 := beq_eq_false_iff_ne.mpr c3
  have a6 := bne_iff_ne.mpr c3
  have a7 : (l0.length == l1.length) = false := by first|simpa using c3|(simp at c3 ⊢;omega)
  obtain rfl := Option.some.inj H
  go_enter Tryz.func25,Tryz.ntmps25
  go_wp2
  go_ret
  exact ⟨by first|rfl|(simp [errW_none,errW_some] <;> rfl)|(simp [*,errW_none,errW_some] <;> rfl),bM HB.out⟩
end Go.Proofs.YtobdkgoapcbipaaGreatDoor.J
