-- Written by hp.py, a program of this session, over the kit's print of the translation. Not trusted: Lean checks it.
import Derived.Test.YtmgliocboeifdaaDoorTx0
import Derived.Test.YtmgliocboeifdaaDoorTx8
namespace Go.Proofs.YtmgliocboeifdaaDoor.T
open Go.RowKit Go.Proofs.YtmgliocboeifdaaDoorW.PrintWords Go.Proofs.YtmgliocboeifdaaDoorW.PrintLast Go.Proofs.YtmgliocboeifdaaDoorW.PrintMore
attribute [local go_sem] max2_int min2_int max_two min_two max_three min_three max_four min_four   -- for this text's walks alone
set_option linter.unusedVariables false
set_option linter.unusedSimpArgs false

/-! ### codesearchref33_SameAll: function 17 -/
def codesearchref33_SameAll.l0 : Nat → List (S37) → List (S37) → Int → Option (Bool)
|0,_,_,_ => none
|k + 1,x0,x1,x5 => if x5 < (x0.length : Int) then (if 0 ≤ x5 then (if x5 < (x1.length : Int) then ((codesearchref33_Same.f k ((rd_T37 x0 x5).f0) ((rd_T37 x0 x5).f1) ((rd_T37 x0 x5).f2) ((rd_T37 x0 x5).f3) ((rd_T37 x0 x5).f4) ((rd_T37 x0 x5).f5) ((rd_T37 x1 x5).f0) ((rd_T37 x1 x5).f1) ((rd_T37 x1 x5).f2) ((rd_T37 x1 x5).f3) ((rd_T37 x1 x5).f4) ((rd_T37 x1 x5).f5)).bind fun t311 => (if t311 = true then (codesearchref33_SameAll.l0 k x0 x1 (wrap64 (x5 + 1))) else (some false))) else (none)) else (none)) else (some true)
def codesearchref33_SameAll.f (k : Nat) (l0 : List (S37)) (l1 : List (S37)) : Option (Bool) := if (l0.length : Int) = (l1.length : Int) then (codesearchref33_SameAll.l0 k l0 l1 0) else (some false)
theorem codesearchref33_SameAll.mono_l : ∀ k, (∀ y0 y1 y2, LeO (codesearchref33_SameAll.l0 k y0 y1 y2) (codesearchref33_SameAll.l0 (k + 1) y0 y1 y2))
|0 => fun _ _ _ r h => by simp [codesearchref33_SameAll.l0] at h
|k + 1 => by
  have ih0 := codesearchref33_SameAll.mono_l k
  ·intro y0 y1 y2
   unfold codesearchref33_SameAll.l0
   repeat' (with_reducible first|exact ih0 _ _ _|exact codesearchref33_Same.mono _ _ _ _ _ _ _ _ _ _ _ _ _|exact LeO.refl _|exact LeO.none _|refine LeO.ite ?_ ?_|refine LeO.bind ?_ (fun _ => ?_))
theorem codesearchref33_SameAll.mono : ∀ a0 a1 k, LeO (codesearchref33_SameAll.f k a0 a1) (codesearchref33_SameAll.f (k + 1) a0 a1) := by
 intro a0 a1 k
 have ih0 := codesearchref33_SameAll.mono_l k
 unfold codesearchref33_SameAll.f
 repeat' first
  |(with_reducible exact ih0 _ _ _)
  |(with_reducible exact codesearchref33_Same.mono _ _ _ _ _ _ _ _ _ _ _ _ _)
  |(with_reducible exact LeO.refl _)
  |(with_reducible exact LeO.none _)
  |(with_reducible refine LeO.ite ?_ ?_)
  |(with_reducible refine LeO.bind ?_ (fun _ => ?_))
  |exact ih0 _ _ _
  |exact codesearchref33_Same.mono _ _ _ _ _ _ _ _ _ _ _ _ _
  |exact LeO.none _
  |refine LeO.ite ?_ ?_
  |refine LeO.bind ?_ (fun _ => ?_)
def codesearchref33_SameAll.T6 : Bool × List (List Nat × List Nat) := (true, [([], []), ([], []), ([0, 1], [0, 1]), ([2], [2]), ([], []), ([], []), ([4, 5], [4, 5]), ([6], [6]), ([3, 7], [3, 7]), ([8], [8])])
def codesearchref33_SameAll.B6 : List Nat := [0, 0, 3, 7, 0, 0, 48, 112, 255, 511]
theorem codesearchref33_SameAll.tab6 : rtab .any (opsOf Tryd.f17 6) = codesearchref33_SameAll.T6 := by kernel_rfl
theorem codesearchref33_SameAll.bits6 : waitsOk codesearchref33_SameAll.T6.2 codesearchref33_SameAll.B6 = true := by kernel_rfl
set_option maxHeartbeats 4000000 in
set_option maxRecDepth 100000 in
theorem codesearchref33_SameAll.calls (k : Nat) (A0 : Option Addr) (c0 : Nat) (l0 : List (S37)) (A1 : Option Addr) (c1 : Nat) (l1 : List (S37)) (r : Bool) (w : World) (hr0 : Kd.C k37 w A0 l0.length l0) (hc0 : l0.length ≤ c0) (hr1 : Kd.C k37 w A1 l1.length l1) (hc1 : l1.length ≤ c1) (h : codesearchref33_SameAll.f k l0 l1 = some r) :
  Calls Tryd.prog 17 #[.slice A0 l0.length c0,.slice A1 l1.length c1] w fun e w' => e = .returned (.bool r) ∧ Below w.heap.size w w' := by
 have hu37 := Tryd.underlying37
 have HR0 := aK hr0
 have HC0 := aK hc0
 clear hr0 hc0
 have HR1 := aK hr1
 have HC1 := aK hc1
 clear hr1 hc1
 have HB := aK (Below.refl w.heap.size w)
 have H : (if (l0.length : Int) = (l1.length : Int) then (codesearchref33_SameAll.l0 k l0 l1 0) else (some false)) = some r := h
 clear h
 by_cases c3 : (l0.length : Int) = (l1.length : Int)
 ·rw [if_pos c3] at H
  have c3b0 := beq_iff_eq.mpr c3
  have c3b1 := bne_eq_false_iff_eq.mpr c3
  have c3b2 : (l0.length == l1.length) = true := by first|simpa using c3|(simp at c3 ⊢;omega)
  clear c3
  have H' := aK H
  clear H
  go_enter Tryd.func17,Tryd.ntmps17
  go_wp2
  go_loopg [5] k (fun kq v5 w' => ∃ (x5_1 : Int),v5 = .int .i64 x5_1 ∧ Aside0 (codesearchref33_SameAll.l0 kq l0 l1 x5_1 = some r) ∧ Aside0 (kq ≤ k) ∧ Aside0 (Below w.heap.size w w'))
  case atStart => exact ⟨(0),(by first|rfl|(simp;done)|(simp [*];done)),H',⟨Nat.le_refl _⟩,⟨bM HB.out⟩⟩
  case round =>
   clear H'
   try clear p2
   try clear c3
   try clear c3b0
   try clear c3b1
   try clear c3b2
   obtain ⟨x5_1,rfl,HA,HK1,HB⟩ := hrel
   cases gk with
  |zero => exact absurd HA.out (by simp [codesearchref33_SameAll.l0])
  |succ k1 =>
    have H := HA.out
    clear HA
    simp only [codesearchref33_SameAll.l0] at H
    by_cases c4 : x5_1 < (l0.length : Int)
    ·rw [if_pos c4] at H
     have c4b0 := decide_eq_true c4
     clear c4
     obtain ⟨c5,H⟩ := iS H
     have c5b0 := decide_eq_true c5
     clear c5
     obtain ⟨c6,H⟩ := iS H
     have c6b0 := decide_eq_true c6
     clear c6
     replace H := Option.bind_eq_some_iff.mp H
     obtain ⟨t311,A70,H⟩ := H
     have A7 := aK A70
     clear A70
     by_cases c8 : t311 = true
     ·subst c8
      rw [if_pos rfl] at H
      have H' := aK H
      clear H
      try go_wp2
      have n0_ := aK (below_drew1 HB.out)
      clear HB
      have HB := n0_
      clear n0_
      have p309 : 0 ≤ (x5_1 : Int) := of_decide_eq_true (by assumption)
      have q309 : x5_1 < (l0.length : Int) := of_decide_eq_true (by assumption)
      obtain ⟨ad309,A309_3,c309_3,A309_4,c309_4,A309_5,c309_5,e309,hx309_0,hx309_1,hx309_2,hx309_3,hx309_4,hx309_5,hl309_3,hi309_3,hl309_4,hi309_4,hl309_5,hi309_5⟩ := at_T37 HR0.out x5_1 p309 q309
      have hw309_5 := hx309_5
      have hw309_4 := hx309_4
      have hw309_3 := hx309_3
      have hw309_2 := hx309_2
      have hw309_1 := hx309_1
      have hw309_0 := hx309_0
      cases e309
      replace hx309_0 := xM HB hx309_0
      replace hx309_1 := xM HB hx309_1
      replace hx309_2 := xM HB hx309_2
      replace hx309_3 := xM HB hx309_3
      replace hx309_4 := xM HB hx309_4
      replace hx309_5 := xM HB hx309_5
      have HR309_3 := aK hi309_3
      have HC309_3 := aK hl309_3
      clear hi309_3 hl309_3
      have HR309_4 := aK hi309_4
      have HC309_4 := aK hl309_4
      clear hi309_4 hl309_4
      have HR309_5 := aK hi309_5
      have HC309_5 := aK hl309_5
      clear hi309_5 hl309_5
      replace p309 := eq_true p309
      replace q309 := eq_true q309
      have p310 : 0 ≤ (x5_1 : Int) := of_decide_eq_true (by assumption)
      have q310 : x5_1 < (l1.length : Int) := of_decide_eq_true (by assumption)
      obtain ⟨ad310,A310_3,c310_3,A310_4,c310_4,A310_5,c310_5,e310,hx310_0,hx310_1,hx310_2,hx310_3,hx310_4,hx310_5,hl310_3,hi310_3,hl310_4,hi310_4,hl310_5,hi310_5⟩ := at_T37 HR1.out x5_1 p310 q310
      have hw310_5 := hx310_5
      have hw310_4 := hx310_4
      have hw310_3 := hx310_3
      have hw310_2 := hx310_2
      have hw310_1 := hx310_1
      have hw310_0 := hx310_0
      cases e310
      replace hx310_0 := xM HB hx310_0
      replace hx310_1 := xM HB hx310_1
      replace hx310_2 := xM HB hx310_2
      replace hx310_3 := xM HB hx310_3
      replace hx310_4 := xM HB hx310_4
      replace hx310_5 := xM HB hx310_5
      have HR310_3 := aK hi310_3
      have HC310_3 := aK hl310_3
      clear hi310_3 hl310_3
      have HR310_4 := aK hi310_4
      have HC310_4 := aK hl310_4
      clear hi310_4 hl310_4
      have HR310_5 := aK hi310_5
      have HC310_5 := aK hl310_5
      clear hi310_5 hl310_5
      replace p310 := eq_true p310
      replace q310 := eq_true q310
      refine start_ (n := 10) (S := fun w' => w'.cell? (ad309.add ((x5_1).toNat * 6)) = some (.int .i64 ((rd_T37 l0 x5_1).f0)) ∧ w'.cell? ⟨(ad309.add ((x5_1).toNat * 6)).block,(ad309.add ((x5_1).toNat * 6)).off + 1,none⟩ = some (.int .i64 ((rd_T37 l0 x5_1).f1)) ∧ w'.cell? ⟨(ad309.add ((x5_1).toNat * 6)).block,(ad309.add ((x5_1).toNat * 6)).off + 2,none⟩ = some (.int .i64 ((rd_T37 l0 x5_1).f2)) ∧ w'.cell? ⟨(ad309.add ((x5_1).toNat * 6)).block,(ad309.add ((x5_1).toNat * 6)).off + 3,none⟩ = some (.slice A309_3 ((rd_T37 l0 x5_1).f3).length c309_3) ∧ w'.cell? ⟨(ad309.add ((x5_1).toNat * 6)).block,(ad309.add ((x5_1).toNat * 6)).off + 4,none⟩ = some (.slice A309_4 ((rd_T37 l0 x5_1).f4).length c309_4) ∧ w'.cell? ⟨(ad309.add ((x5_1).toNat * 6)).block,(ad309.add ((x5_1).toNat * 6)).off + 5,none⟩ = some (.slice A309_5 ((rd_T37 l0 x5_1).f5).length c309_5) ∧ w'.cell? (ad310.add ((x5_1).toNat * 6)) = some (.int .i64 ((rd_T37 l1 x5_1).f0)) ∧ w'.cell? ⟨(ad310.add ((x5_1).toNat * 6)).block,(ad310.add ((x5_1).toNat * 6)).off + 1,none⟩ = some (.int .i64 ((rd_T37 l1 x5_1).f1)) ∧ w'.cell? ⟨(ad310.add ((x5_1).toNat * 6)).block,(ad310.add ((x5_1).toNat * 6)).off + 2,none⟩ = some (.int .i64 ((rd_T37 l1 x5_1).f2)) ∧ w'.cell? ⟨(ad310.add ((x5_1).toNat * 6)).block,(ad310.add ((x5_1).toNat * 6)).off + 3,none⟩ = some (.slice A310_3 ((rd_T37 l1 x5_1).f3).length c310_3) ∧ w'.cell? ⟨(ad310.add ((x5_1).toNat * 6)).block,(ad310.add ((x5_1).toNat * 6)).off + 4,none⟩ = some (.slice A310_4 ((rd_T37 l1 x5_1).f4).length c310_4) ∧ w'.cell? ⟨(ad310.add ((x5_1).toNat * 6)).block,(ad310.add ((x5_1).toNat * 6)).off + 5,none⟩ = some (.slice A310_5 ((rd_T37 l1 x5_1).f5).length c310_5)) (ds := []) #[false,false,false,false,false,false,false,false,false,false] (by kernel_rfl) rfl rfl ⟨((HB.out.cell (World.block_lt_of_cell? w _ hw309_0)).trans hw309_0),((HB.out.cell (World.block_lt_of_cell? w _ hw309_1)).trans hw309_1),((HB.out.cell (World.block_lt_of_cell? w _ hw309_2)).trans hw309_2),((HB.out.cell (World.block_lt_of_cell? w _ hw309_3)).trans hw309_3),((HB.out.cell (World.block_lt_of_cell? w _ hw309_4)).trans hw309_4),((HB.out.cell (World.block_lt_of_cell? w _ hw309_5)).trans hw309_5),((HB.out.cell (World.block_lt_of_cell? w _ hw310_0)).trans hw310_0),((HB.out.cell (World.block_lt_of_cell? w _ hw310_1)).trans hw310_1),((HB.out.cell (World.block_lt_of_cell? w _ hw310_2)).trans hw310_2),((HB.out.cell (World.block_lt_of_cell? w _ hw310_3)).trans hw310_3),((HB.out.cell (World.block_lt_of_cell? w _ hw310_4)).trans hw310_4),((HB.out.cell (World.block_lt_of_cell? w _ hw310_5)).trans hw310_5)⟩ (fun hHeld => ?_);refine with_tabW codesearchref33_SameAll.tab6 codesearchref33_SameAll.bits6 (fun HT_ HW_ => ?_)
      generalize wr.drew = w9 at HB HR309_3 HR309_4 HR309_5 HR310_3 HR310_4 HR310_5 hx309_0 hx309_1 hx309_2 hx309_3 hx309_4 hx309_5 hx310_0 hx310_1 hx310_2 hx310_3 hx310_4 hx310_5 hHeld ⊢
      refine pure_ (i := 0) (N := some 17) (v := ?_) (a' := ?_) #[true,false,false,false,false,false,false,false,false,false] rfl rfl (any_of HT_.out (by kernel_rfl)) (fun _ _ _ h => h) (Or.inl ⟨by rfl,?_⟩) ?_ ?_
      rotate_left
      ·intro w'
       go_simp
       with_reducible rfl
      rotate_left
      ·simp only [Act.put,List.setIfInBounds_toArray,List.set_cons_zero,List.set_cons_succ,i64_w,i32_w]
       rfl
      refine pure_ (i := 1) (N := some 18) (v := ?_) (a' := ?_) #[true,true,false,false,false,false,false,false,false,false] rfl rfl (any_of HT_.out (by kernel_rfl)) (fun _ _ _ h => h) (Or.inl ⟨by rfl,?_⟩) ?_ ?_
      rotate_left
      ·intro w'
       go_simp
       with_reducible rfl
      rotate_left
      ·simp only [Act.put,List.setIfInBounds_toArray,List.set_cons_zero,List.set_cons_succ,i64_w,i32_w]
       rfl
      refine pure_ (i := 2) (N := some 19) (v := ?_) (a' := ?_) #[true,true,true,false,false,false,false,false,false,false] rfl rfl (any_of HT_.out (by kernel_rfl)) (fun _ _ _ h => h) (Or.inl ⟨by rfl,?_⟩) ?_ ?_
      rotate_left
      ·intro w'
       go_simp
       with_reducible rfl
      rotate_left
      ·simp only [Act.put,List.setIfInBounds_toArray,List.set_cons_zero,List.set_cons_succ,i64_w,i32_w]
       rfl
      refine pure_ (i := 4) (N := some 21) (v := ?_) (a' := ?_) #[true,true,true,false,true,false,false,false,false,false] rfl rfl (any_of HT_.out (by kernel_rfl)) (fun _ _ _ h => h) (Or.inl ⟨by rfl,?_⟩) ?_ ?_
      rotate_left
      ·intro w'
       go_simp
       with_reducible rfl
      rotate_left
      ·simp only [Act.put,List.setIfInBounds_toArray,List.set_cons_zero,List.set_cons_succ,i64_w,i32_w]
       rfl
      refine pure_ (i := 5) (N := some 22) (v := ?_) (a' := ?_) #[true,true,true,false,true,true,false,false,false,false] rfl rfl (any_of HT_.out (by kernel_rfl)) (fun _ _ _ h => h) (Or.inl ⟨by rfl,?_⟩) ?_ ?_
      rotate_left
      ·intro w'
       go_simp
       with_reducible rfl
      rotate_left
      ·simp only [Act.put,List.setIfInBounds_toArray,List.set_cons_zero,List.set_cons_succ,i64_w,i32_w]
       rfl
      refine pure_ (i := 6) (N := some 23) (v := ?_) (a' := ?_) #[true,true,true,false,true,true,true,false,false,false] rfl rfl (any_of HT_.out (by kernel_rfl)) (fun _ _ _ h => h) (Or.inl ⟨by rfl,?_⟩) ?_ ?_
      rotate_left
      ·intro w'
       go_simp
       with_reducible rfl
      rotate_left
      ·simp only [Act.put,List.setIfInBounds_toArray,List.set_cons_zero,List.set_cons_succ,i64_w,i32_w]
       rfl
      refine take_ (i := 3) (N := some 20) (v := ?_) (a' := ?_) #[true,true,true,true,true,true,true,false,false,false] rfl rfl (take_ofW HT_.out HW_.out (by kernel_rfl)) (fun _ _ _ h => h) (Or.inl ⟨by rfl,?_⟩) hHeld ?_ ?_
      rotate_left
      ·rintro w' ⟨s0,s1,s2,s3,s4,s5,s6,s7,s8,s9,s10,s11⟩
       go_simp
       with_reducible rfl
      rotate_left
      ·simp only [Act.put,List.setIfInBounds_toArray,List.set_cons_zero,List.set_cons_succ,i64_w,i32_w]
       rfl
      refine take_ (i := 7) (N := some 24) (v := ?_) (a' := ?_) #[true,true,true,true,true,true,true,true,false,false] rfl rfl (take_ofW HT_.out HW_.out (by kernel_rfl)) (fun _ _ _ h => h) (Or.inl ⟨by rfl,?_⟩) hHeld ?_ ?_
      rotate_left
      ·rintro w' ⟨s0,s1,s2,s3,s4,s5,s6,s7,s8,s9,s10,s11⟩
       go_simp
       with_reducible rfl
      rotate_left
      ·simp only [Act.put,List.setIfInBounds_toArray,List.set_cons_zero,List.set_cons_succ,i64_w,i32_w]
       rfl
      refine one_ (i := 8) (N := some 25) #[true,true,true,true,true,true,true,true,true,false] rfl rfl (one_of HT_.out (by kernel_rfl)) (by decide) (fun K hK => ?_)
      refine goes_ Tryd.func20 (by kernel_rfl) rfl #[.agg #[.int .i64 ((rd_T37 l0 x5_1).f0),.int .i64 ((rd_T37 l0 x5_1).f1),.int .i64 ((rd_T37 l0 x5_1).f2),.slice A309_3 ((rd_T37 l0 x5_1).f3).length c309_3,.slice A309_4 ((rd_T37 l0 x5_1).f4).length c309_4,.slice A309_5 ((rd_T37 l0 x5_1).f5).length c309_5],.agg #[.int .i64 ((rd_T37 l1 x5_1).f0),.int .i64 ((rd_T37 l1 x5_1).f1),.int .i64 ((rd_T37 l1 x5_1).f2),.slice A310_3 ((rd_T37 l1 x5_1).f3).length c310_3,.slice A310_4 ((rd_T37 l1 x5_1).f4).length c310_4,.slice A310_5 ((rd_T37 l1 x5_1).f5).length c310_5]] (by rfl) rfl rfl (by (try simp only [List.map_toArray,List.map_cons,List.map_nil]);first|done|rfl|(simp only [List.length_drop,List.length_take];rfl)) ?_
      with_reducible refine (codesearchref33_Same.calls k1 ((rd_T37 l0 x5_1).f0) ((rd_T37 l0 x5_1).f1) ((rd_T37 l0 x5_1).f2) _ _ ((rd_T37 l0 x5_1).f3) _ _ ((rd_T37 l0 x5_1).f4) _ _ ((rd_T37 l0 x5_1).f5) ((rd_T37 l1 x5_1).f0) ((rd_T37 l1 x5_1).f1) ((rd_T37 l1 x5_1).f2) _ _ ((rd_T37 l1 x5_1).f3) _ _ ((rd_T37 l1 x5_1).f4) _ _ ((rd_T37 l1 x5_1).f5) true _ ?side1 ?side2 ?side3 ?side4 ?side5 ?side6 ?side7 ?side8 ?side9 ?side10 ?side11 ?side12 A7.out).mono ?_
      (case side1 => exact cM (Kd.C_below HR309_3.out HB.out))
      (case side2 => exact HC309_3.out)
      (case side3 => exact cM (Kd.C_below HR309_4.out HB.out))
      (case side4 => exact HC309_4.out)
      (case side5 => exact cM (Kd.C_below HR309_5.out HB.out))
      (case side6 => exact HC309_5.out)
      (case side7 => exact cM (Kd.C_below HR310_3.out HB.out))
      (case side8 => exact HC310_3.out)
      (case side9 => exact cM (Kd.C_below HR310_4.out HB.out))
      (case side10 => exact HC310_4.out)
      (case side11 => exact cM (Kd.C_below HR310_5.out HB.out))
      (case side12 => exact HC310_5.out)
      rintro e w10 ⟨rfl,hb⟩
      refine ⟨_,rfl,?_⟩
      have n0_ := aK (below_step (bM HB.out) hb)
      clear HB
      have HB := n0_
      clear n0_
      (try clear hb)
      
      
      
      refine hK.out _ _ ⟨((HB.out.cell (World.block_lt_of_cell? w _ hw309_0)).trans hw309_0),((HB.out.cell (World.block_lt_of_cell? w _ hw309_1)).trans hw309_1),((HB.out.cell (World.block_lt_of_cell? w _ hw309_2)).trans hw309_2),((HB.out.cell (World.block_lt_of_cell? w _ hw309_3)).trans hw309_3),((HB.out.cell (World.block_lt_of_cell? w _ hw309_4)).trans hw309_4),((HB.out.cell (World.block_lt_of_cell? w _ hw309_5)).trans hw309_5),((HB.out.cell (World.block_lt_of_cell? w _ hw310_0)).trans hw310_0),((HB.out.cell (World.block_lt_of_cell? w _ hw310_1)).trans hw310_1),((HB.out.cell (World.block_lt_of_cell? w _ hw310_2)).trans hw310_2),((HB.out.cell (World.block_lt_of_cell? w _ hw310_3)).trans hw310_3),((HB.out.cell (World.block_lt_of_cell? w _ hw310_4)).trans hw310_4),((HB.out.cell (World.block_lt_of_cell? w _ hw310_5)).trans hw310_5)⟩ (fun hHeld => ?_)
      clear hK K
      refine norm_ (a' := ?_) ?_ ?_
      rotate_left
      ·show Act.put _ (some 25) _ = _
       simp only [Act.put,List.setIfInBounds_toArray,List.set_cons_zero,List.set_cons_succ,i64_w,i32_w]
       rfl
      refine pure_ (i := 9) (N := some 26) (v := ?_) (a' := ?_) #[true,true,true,true,true,true,true,true,true,true] rfl rfl (any_of HT_.out (by kernel_rfl)) (fun _ _ _ h => h) (Or.inl ⟨by rfl,?_⟩) ?_ ?_
      rotate_left
      ·intro w'
       go_simp
       with_reducible rfl
      rotate_left
      ·simp only [Act.put,List.setIfInBounds_toArray,List.set_cons_zero,List.set_cons_succ,i64_w,i32_w]
       rfl
      refine done_ (done_of HT_.out (by kernel_rfl)) ?_
      try go_wp2
      go_roundg k1
      case measure => have := HK1.out;omega
      case rel => exact ⟨(wrap64 (x5_1 + 1)),(by first|rfl|(simp;done)|(simp [*];done)),H',⟨by have := HK1.out;omega⟩,⟨bM HB.out⟩⟩
     ·replace c8 := Bool.eq_false_iff.mpr c8
      subst c8
      rw [if_neg (show ¬ (false = true) by decide)] at H
      obtain rfl := Option.some.inj H
      try go_wp2
      have n0_ := aK (below_drew1 HB.out)
      clear HB
      have HB := n0_
      clear n0_
      have p309 : 0 ≤ (x5_1 : Int) := of_decide_eq_true (by assumption)
      have q309 : x5_1 < (l0.length : Int) := of_decide_eq_true (by assumption)
      obtain ⟨ad309,A309_3,c309_3,A309_4,c309_4,A309_5,c309_5,e309,hx309_0,hx309_1,hx309_2,hx309_3,hx309_4,hx309_5,hl309_3,hi309_3,hl309_4,hi309_4,hl309_5,hi309_5⟩ := at_T37 HR0.out x5_1 p309 q309
      have hw309_5 := hx309_5
      have hw309_4 := hx309_4
      have hw309_3 := hx309_3
      have hw309_2 := hx309_2
      have hw309_1 := hx309_1
      have hw309_0 := hx309_0
      cases e309
      replace hx309_0 := xM HB hx309_0
      replace hx309_1 := xM HB hx309_1
      replace hx309_2 := xM HB hx309_2
      replace hx309_3 := xM HB hx309_3
      replace hx309_4 := xM HB hx309_4
      replace hx309_5 := xM HB hx309_5
      have HR309_3 := aK hi309_3
      have HC309_3 := aK hl309_3
      clear hi309_3 hl309_3
      have HR309_4 := aK hi309_4
      have HC309_4 := aK hl309_4
      clear hi309_4 hl309_4
      have HR309_5 := aK hi309_5
      have HC309_5 := aK hl309_5
      clear hi309_5 hl309_5
      replace p309 := eq_true p309
      replace q309 := eq_true q309
      have p310 : 0 ≤ (x5_1 : Int) := of_decide_eq_true (by assumption)
      have q310 : x5_1 < (l1.length : Int) := of_decide_eq_true (by assumption)
      obtain ⟨ad310,A310_3,c310_3,A310_4,c310_4,A310_5,c310_5,e310,hx310_0,hx310_1,hx310_2,hx310_3,hx310_4,hx310_5,hl310_3,hi310_3,hl310_4,hi310_4,hl310_5,hi310_5⟩ := at_T37 HR1.out x5_1 p310 q310
      have hw310_5 := hx310_5
      have hw310_4 := hx310_4
      have hw310_3 := hx310_3
      have hw310_2 := hx310_2
      have hw310_1 := hx310_1
      have hw310_0 := hx310_0
      cases e310
      replace hx310_0 := xM HB hx310_0
      replace hx310_1 := xM HB hx310_1
      replace hx310_2 := xM HB hx310_2
      replace hx310_3 := xM HB hx310_3
      replace hx310_4 := xM HB hx310_4
      replace hx310_5 := xM HB hx310_5
      have HR310_3 := aK hi310_3
      have HC310_3 := aK hl310_3
      clear hi310_3 hl310_3
      have HR310_4 := aK hi310_4
      have HC310_4 := aK hl310_4
      clear hi310_4 hl310_4
      have HR310_5 := aK hi310_5
      have HC310_5 := aK hl310_5
      clear hi310_5 hl310_5
      replace p310 := eq_true p310
      replace q310 := eq_true q310
      refine start_ (n := 10) (S := fun w' => w'.cell? (ad309.add ((x5_1).toNat * 6)) = some (.int .i64 ((rd_T37 l0 x5_1).f0)) ∧ w'.cell? ⟨(ad309.add ((x5_1).toNat * 6)).block,(ad309.add ((x5_1).toNat * 6)).off + 1,none⟩ = some (.int .i64 ((rd_T37 l0 x5_1).f1)) ∧ w'.cell? ⟨(ad309.add ((x5_1).toNat * 6)).block,(ad309.add ((x5_1).toNat * 6)).off + 2,none⟩ = some (.int .i64 ((rd_T37 l0 x5_1).f2)) ∧ w'.cell? ⟨(ad309.add ((x5_1).toNat * 6)).block,(ad309.add ((x5_1).toNat * 6)).off + 3,none⟩ = some (.slice A309_3 ((rd_T37 l0 x5_1).f3).length c309_3) ∧ w'.cell? ⟨(ad309.add ((x5_1).toNat * 6)).block,(ad309.add ((x5_1).toNat * 6)).off + 4,none⟩ = some (.slice A309_4 ((rd_T37 l0 x5_1).f4).length c309_4) ∧ w'.cell? ⟨(ad309.add ((x5_1).toNat * 6)).block,(ad309.add ((x5_1).toNat * 6)).off + 5,none⟩ = some (.slice A309_5 ((rd_T37 l0 x5_1).f5).length c309_5) ∧ w'.cell? (ad310.add ((x5_1).toNat * 6)) = some (.int .i64 ((rd_T37 l1 x5_1).f0)) ∧ w'.cell? ⟨(ad310.add ((x5_1).toNat * 6)).block,(ad310.add ((x5_1).toNat * 6)).off + 1,none⟩ = some (.int .i64 ((rd_T37 l1 x5_1).f1)) ∧ w'.cell? ⟨(ad310.add ((x5_1).toNat * 6)).block,(ad310.add ((x5_1).toNat * 6)).off + 2,none⟩ = some (.int .i64 ((rd_T37 l1 x5_1).f2)) ∧ w'.cell? ⟨(ad310.add ((x5_1).toNat * 6)).block,(ad310.add ((x5_1).toNat * 6)).off + 3,none⟩ = some (.slice A310_3 ((rd_T37 l1 x5_1).f3).length c310_3) ∧ w'.cell? ⟨(ad310.add ((x5_1).toNat * 6)).block,(ad310.add ((x5_1).toNat * 6)).off + 4,none⟩ = some (.slice A310_4 ((rd_T37 l1 x5_1).f4).length c310_4) ∧ w'.cell? ⟨(ad310.add ((x5_1).toNat * 6)).block,(ad310.add ((x5_1).toNat * 6)).off + 5,none⟩ = some (.slice A310_5 ((rd_T37 l1 x5_1).f5).length c310_5)) (ds := []) #[false,false,false,false,false,false,false,false,false,false] (by kernel_rfl) rfl rfl ⟨((HB.out.cell (World.block_lt_of_cell? w _ hw309_0)).trans hw309_0),((HB.out.cell (World.block_lt_of_cell? w _ hw309_1)).trans hw309_1),((HB.out.cell (World.block_lt_of_cell? w _ hw309_2)).trans hw309_2),((HB.out.cell (World.block_lt_of_cell? w _ hw309_3)).trans hw309_3),((HB.out.cell (World.block_lt_of_cell? w _ hw309_4)).trans hw309_4),((HB.out.cell (World.block_lt_of_cell? w _ hw309_5)).trans hw309_5),((HB.out.cell (World.block_lt_of_cell? w _ hw310_0)).trans hw310_0),((HB.out.cell (World.block_lt_of_cell? w _ hw310_1)).trans hw310_1),((HB.out.cell (World.block_lt_of_cell? w _ hw310_2)).trans hw310_2),((HB.out.cell (World.block_lt_of_cell? w _ hw310_3)).trans hw310_3),((HB.out.cell (World.block_lt_of_cell? w _ hw310_4)).trans hw310_4),((HB.out.cell (World.block_lt_of_cell? w _ hw310_5)).trans hw310_5)⟩ (fun hHeld => ?_);refine with_tabW codesearchref33_SameAll.tab6 codesearchref33_SameAll.bits6 (fun HT_ HW_ => ?_)
      generalize wr.drew = w11 at HB HR309_3 HR309_4 HR309_5 HR310_3 HR310_4 HR310_5 hx309_0 hx309_1 hx309_2 hx309_3 hx309_4 hx309_5 hx310_0 hx310_1 hx310_2 hx310_3 hx310_4 hx310_5 hHeld ⊢
      refine pure_ (i := 0) (N := some 17) (v := ?_) (a' := ?_) #[true,false,false,false,false,false,false,false,false,false] rfl rfl (any_of HT_.out (by kernel_rfl)) (fun _ _ _ h => h) (Or.inl ⟨by rfl,?_⟩) ?_ ?_
      rotate_left
      ·intro w'
       go_simp
       with_reducible rfl
      rotate_left
      ·simp only [Act.put,List.setIfInBounds_toArray,List.set_cons_zero,List.set_cons_succ,i64_w,i32_w]
       rfl
      refine pure_ (i := 1) (N := some 18) (v := ?_) (a' := ?_) #[true,true,false,false,false,false,false,false,false,false] rfl rfl (any_of HT_.out (by kernel_rfl)) (fun _ _ _ h => h) (Or.inl ⟨by rfl,?_⟩) ?_ ?_
      rotate_left
      ·intro w'
       go_simp
       with_reducible rfl
      rotate_left
      ·simp only [Act.put,List.setIfInBounds_toArray,List.set_cons_zero,List.set_cons_succ,i64_w,i32_w]
       rfl
      refine pure_ (i := 2) (N := some 19) (v := ?_) (a' := ?_) #[true,true,true,false,false,false,false,false,false,false] rfl rfl (any_of HT_.out (by kernel_rfl)) (fun _ _ _ h => h) (Or.inl ⟨by rfl,?_⟩) ?_ ?_
      rotate_left
      ·intro w'
       go_simp
       with_reducible rfl
      rotate_left
      ·simp only [Act.put,List.setIfInBounds_toArray,List.set_cons_zero,List.set_cons_succ,i64_w,i32_w]
       rfl
      refine pure_ (i := 4) (N := some 21) (v := ?_) (a' := ?_) #[true,true,true,false,true,false,false,false,false,false] rfl rfl (any_of HT_.out (by kernel_rfl)) (fun _ _ _ h => h) (Or.inl ⟨by rfl,?_⟩) ?_ ?_
      rotate_left
      ·intro w'
       go_simp
       with_reducible rfl
      rotate_left
      ·simp only [Act.put,List.setIfInBounds_toArray,List.set_cons_zero,List.set_cons_succ,i64_w,i32_w]
       rfl
      refine pure_ (i := 5) (N := some 22) (v := ?_) (a' := ?_) #[true,true,true,false,true,true,false,false,false,false] rfl rfl (any_of HT_.out (by kernel_rfl)) (fun _ _ _ h => h) (Or.inl ⟨by rfl,?_⟩) ?_ ?_
      rotate_left
      ·intro w'
       go_simp
       with_reducible rfl
      rotate_left
      ·simp only [Act.put,List.setIfInBounds_toArray,List.set_cons_zero,List.set_cons_succ,i64_w,i32_w]
       rfl
      refine pure_ (i := 6) (N := some 23) (v := ?_) (a' := ?_) #[true,true,true,false,true,true,true,false,false,false] rfl rfl (any_of HT_.out (by kernel_rfl)) (fun _ _ _ h => h) (Or.inl ⟨by rfl,?_⟩) ?_ ?_
      rotate_left
      ·intro w'
       go_simp
       with_reducible rfl
      rotate_left
      ·simp only [Act.put,List.setIfInBounds_toArray,List.set_cons_zero,List.set_cons_succ,i64_w,i32_w]
       rfl
      refine take_ (i := 3) (N := some 20) (v := ?_) (a' := ?_) #[true,true,true,true,true,true,true,false,false,false] rfl rfl (take_ofW HT_.out HW_.out (by kernel_rfl)) (fun _ _ _ h => h) (Or.inl ⟨by rfl,?_⟩) hHeld ?_ ?_
      rotate_left
      ·rintro w' ⟨s0,s1,s2,s3,s4,s5,s6,s7,s8,s9,s10,s11⟩
       go_simp
       with_reducible rfl
      rotate_left
      ·simp only [Act.put,List.setIfInBounds_toArray,List.set_cons_zero,List.set_cons_succ,i64_w,i32_w]
       rfl
      refine take_ (i := 7) (N := some 24) (v := ?_) (a' := ?_) #[true,true,true,true,true,true,true,true,false,false] rfl rfl (take_ofW HT_.out HW_.out (by kernel_rfl)) (fun _ _ _ h => h) (Or.inl ⟨by rfl,?_⟩) hHeld ?_ ?_
      rotate_left
      ·rintro w' ⟨s0,s1,s2,s3,s4,s5,s6,s7,s8,s9,s10,s11⟩
       go_simp
       with_reducible rfl
      rotate_left
      ·simp only [Act.put,List.setIfInBounds_toArray,List.set_cons_zero,List.set_cons_succ,i64_w,i32_w]
       rfl
      refine one_ (i := 8) (N := some 25) #[true,true,true,true,true,true,true,true,true,false] rfl rfl (one_of HT_.out (by kernel_rfl)) (by decide) (fun K hK => ?_)
      refine goes_ Tryd.func20 (by kernel_rfl) rfl #[.agg #[.int .i64 ((rd_T37 l0 x5_1).f0),.int .i64 ((rd_T37 l0 x5_1).f1),.int .i64 ((rd_T37 l0 x5_1).f2),.slice A309_3 ((rd_T37 l0 x5_1).f3).length c309_3,.slice A309_4 ((rd_T37 l0 x5_1).f4).length c309_4,.slice A309_5 ((rd_T37 l0 x5_1).f5).length c309_5],.agg #[.int .i64 ((rd_T37 l1 x5_1).f0),.int .i64 ((rd_T37 l1 x5_1).f1),.int .i64 ((rd_T37 l1 x5_1).f2),.slice A310_3 ((rd_T37 l1 x5_1).f3).length c310_3,.slice A310_4 ((rd_T37 l1 x5_1).f4).length c310_4,.slice A310_5 ((rd_T37 l1 x5_1).f5).length c310_5]] (by rfl) rfl rfl (by (try simp only [List.map_toArray,List.map_cons,List.map_nil]);first|done|rfl|(simp only [List.length_drop,List.length_take];rfl)) ?_
      with_reducible refine (codesearchref33_Same.calls k1 ((rd_T37 l0 x5_1).f0) ((rd_T37 l0 x5_1).f1) ((rd_T37 l0 x5_1).f2) _ _ ((rd_T37 l0 x5_1).f3) _ _ ((rd_T37 l0 x5_1).f4) _ _ ((rd_T37 l0 x5_1).f5) ((rd_T37 l1 x5_1).f0) ((rd_T37 l1 x5_1).f1) ((rd_T37 l1 x5_1).f2) _ _ ((rd_T37 l1 x5_1).f3) _ _ ((rd_T37 l1 x5_1).f4) _ _ ((rd_T37 l1 x5_1).f5) false _ ?side1 ?side2 ?side3 ?side4 ?side5 ?side6 ?side7 ?side8 ?side9 ?side10 ?side11 ?side12 A7.out).mono ?_
      (case side1 => exact cM (Kd.C_below HR309_3.out HB.out))
      (case side2 => exact HC309_3.out)
      (case side3 => exact cM (Kd.C_below HR309_4.out HB.out))
      (case side4 => exact HC309_4.out)
      (case side5 => exact cM (Kd.C_below HR309_5.out HB.out))
      (case side6 => exact HC309_5.out)
      (case side7 => exact cM (Kd.C_below HR310_3.out HB.out))
      (case side8 => exact HC310_3.out)
      (case side9 => exact cM (Kd.C_below HR310_4.out HB.out))
      (case side10 => exact HC310_4.out)
      (case side11 => exact cM (Kd.C_below HR310_5.out HB.out))
      (case side12 => exact HC310_5.out)
      rintro e w12 ⟨rfl,hb⟩
      refine ⟨_,rfl,?_⟩
      have n0_ := aK (below_step (bM HB.out) hb)
      clear HB
      have HB := n0_
      clear n0_
      (try clear hb)
      
      
      
      refine hK.out _ _ ⟨((HB.out.cell (World.block_lt_of_cell? w _ hw309_0)).trans hw309_0),((HB.out.cell (World.block_lt_of_cell? w _ hw309_1)).trans hw309_1),((HB.out.cell (World.block_lt_of_cell? w _ hw309_2)).trans hw309_2),((HB.out.cell (World.block_lt_of_cell? w _ hw309_3)).trans hw309_3),((HB.out.cell (World.block_lt_of_cell? w _ hw309_4)).trans hw309_4),((HB.out.cell (World.block_lt_of_cell? w _ hw309_5)).trans hw309_5),((HB.out.cell (World.block_lt_of_cell? w _ hw310_0)).trans hw310_0),((HB.out.cell (World.block_lt_of_cell? w _ hw310_1)).trans hw310_1),((HB.out.cell (World.block_lt_of_cell? w _ hw310_2)).trans hw310_2),((HB.out.cell (World.block_lt_of_cell? w _ hw310_3)).trans hw310_3),((HB.out.cell (World.block_lt_of_cell? w _ hw310_4)).trans hw310_4),((HB.out.cell (World.block_lt_of_cell? w _ hw310_5)).trans hw310_5)⟩ (fun hHeld => ?_)
      clear hK K
      refine norm_ (a' := ?_) ?_ ?_
      rotate_left
      ·show Act.put _ (some 25) _ = _
       simp only [Act.put,List.setIfInBounds_toArray,List.set_cons_zero,List.set_cons_succ,i64_w,i32_w]
       rfl
      refine pure_ (i := 9) (N := some 26) (v := ?_) (a' := ?_) #[true,true,true,true,true,true,true,true,true,true] rfl rfl (any_of HT_.out (by kernel_rfl)) (fun _ _ _ h => h) (Or.inl ⟨by rfl,?_⟩) ?_ ?_
      rotate_left
      ·intro w'
       go_simp
       with_reducible rfl
      rotate_left
      ·simp only [Act.put,List.setIfInBounds_toArray,List.set_cons_zero,List.set_cons_succ,i64_w,i32_w]
       rfl
      refine done_ (done_of HT_.out (by kernel_rfl)) ?_
      try go_wp2
      go_ret
      exact ⟨by first|rfl|(simp [errW_none,errW_some] <;> rfl)|(simp [*,errW_none,errW_some] <;> rfl),bM HB.out⟩
    ·rw [if_neg c4] at H
     have c4b0 := decide_eq_false c4
     clear c4
     obtain rfl := Option.some.inj H
     go_wp2
     go_ret
     exact ⟨by first|rfl|(simp [errW_none,errW_some] <;> rfl)|(simp [*,errW_none,errW_some] <;> rfl),bM HB.out⟩
 ·rw [if_neg c3] at H
  have c3b0 := beq_eq_false_iff_ne.mpr c3
  have c3b1 := bne_iff_ne.mpr c3
  have c3b2 : (l0.length == l1.length) = false := by first|simpa using c3|(simp at c3 ⊢;omega)
  obtain rfl := Option.some.inj H
  go_enter Tryd.func17,Tryd.ntmps17
  go_wp2
  go_ret
  exact ⟨by first|rfl|(simp [errW_none,errW_some] <;> rfl)|(simp [*,errW_none,errW_some] <;> rfl),bM HB.out⟩

/-! ### posting_Valid: function 52 -/
def posting_Valid.l0 : Nat → List Int → List Int → Int → Int → Option (Bool)
|0,_,_,_,_ => none
|k + 1,x0,x5,x6,x7 => if x7 < x6 then (if 0 ≤ x7 then (if x7 < (x5.length : Int) then (if (rd x5 x7) < 0 then (some false) else (if (rd x5 x7) > 9999 then (some false) else (if x7 > 0 then (if 0 ≤ (wrap64 (x7 - 1)) then (if (wrap64 (x7 - 1)) < (x0.length : Int) then (if (rd x5 x7) ≤ (rd x0 (wrap64 (x7 - 1))) then (some false) else (posting_Valid.l0 k x0 x5 x6 (wrap64 (x7 + 1)))) else (none)) else (none)) else (posting_Valid.l0 k x0 x5 x6 (wrap64 (x7 + 1)))))) else (none)) else (none)) else (some true)
def posting_Valid.f (k : Nat) (l0 : List Int) : Option (Bool) := posting_Valid.l0 k l0 l0 (l0.length : Int) 0
theorem posting_Valid.mono_l : ∀ k, (∀ y0 y1 y2 y3, LeO (posting_Valid.l0 k y0 y1 y2 y3) (posting_Valid.l0 (k + 1) y0 y1 y2 y3))
|0 => fun _ _ _ _ r h => by simp [posting_Valid.l0] at h
|k + 1 => by
  have ih0 := posting_Valid.mono_l k
  ·intro y0 y1 y2 y3
   unfold posting_Valid.l0
   repeat' (with_reducible first|exact ih0 _ _ _ _|exact LeO.refl _|exact LeO.none _|refine LeO.ite ?_ ?_|refine LeO.bind ?_ (fun _ => ?_))
theorem posting_Valid.mono : ∀ a0 k, LeO (posting_Valid.f k a0) (posting_Valid.f (k + 1) a0) := by
 intro a0 k
 have ih0 := posting_Valid.mono_l k
 unfold posting_Valid.f
 repeat' first
  |(with_reducible exact ih0 _ _ _ _)
  |(with_reducible exact LeO.refl _)
  |(with_reducible exact LeO.none _)
  |(with_reducible refine LeO.ite ?_ ?_)
  |(with_reducible refine LeO.bind ?_ (fun _ => ?_))
  |exact ih0 _ _ _ _
  |exact LeO.none _
  |refine LeO.ite ?_ ?_
  |refine LeO.bind ?_ (fun _ => ?_)
set_option maxHeartbeats 4000000 in
set_option maxRecDepth 100000 in
theorem posting_Valid.calls (k : Nat) (A0 : Option Addr) (c0 : Nat) (l0 : List Int) (r : Bool) (w : World) (hr0 : Kd.C (Kd.int .i64) w A0 l0.length l0) (hc0 : l0.length ≤ c0) (h : posting_Valid.f k l0 = some r) :
  Calls Tryd.prog 52 #[.slice A0 l0.length c0] w fun e w' => e = .returned (.bool r) ∧ Drawn0 w w' := by
 have HR0 := aK hr0
 have HC0 := aK hc0
 clear hr0 hc0
 have H : (posting_Valid.l0 k l0 l0 (l0.length : Int) 0) = some r := h
 clear h
 have H' := aK H
 clear H
 go_enter Tryd.func52,Tryd.ntmps52
 go_wp2
 go_loopg [7] k (fun kq v7 w' => ∃ (x7_1 : Int),v7 = .int .i64 x7_1 ∧ Aside0 (posting_Valid.l0 kq l0 l0 (l0.length : Int) x7_1 = some r) ∧ Aside0 (kq ≤ k) ∧ Drawn0 w w')
 case atStart => exact ⟨(0),(by first|rfl|(simp;done)|(simp [*];done)),H',⟨Nat.le_refl _⟩,by repeat (first|exact Drawn0.refl _|apply Drawn0.step)⟩
 case round =>
  clear H'
  obtain ⟨x7_1,rfl,HA,HK1,⟨m1,rfl⟩⟩ := hrel
  cases gk with
 |zero => exact absurd HA.out (by simp [posting_Valid.l0])
 |succ k1 =>
   have H := HA.out
   clear HA
   simp only [posting_Valid.l0] at H
   by_cases c2 : x7_1 < (l0.length : Int)
   ·rw [if_pos c2] at H
    have c2b0 := decide_eq_true c2
    clear c2
    obtain ⟨c3,H⟩ := iS H
    have c3b0 := decide_eq_true c3
    clear c3
    obtain ⟨c4,H⟩ := iS H
    have c4b0 := decide_eq_true c4
    clear c4
    by_cases c5 : (rd l0 x7_1) < 0
    ·rw [if_pos c5] at H
     have c5b0 := decide_eq_true c5
     clear c5
     obtain rfl := Option.some.inj H
     have p312 : 0 ≤ (x7_1 : Int) := of_decide_eq_true (by assumption)
     have q312 : x7_1 < (l0.length : Int) := of_decide_eq_true (by assumption)
     obtain ⟨ad312,e312,hx312_0⟩ := Kd.at_int HR0.out x7_1 p312 q312
     cases e312
     replace p312 := eq_true p312
     replace q312 := eq_true q312
     go_wp2
     go_ret
     exact ⟨by first|rfl|(simp;done)|(simp [*];done),by repeat (first|exact Drawn0.refl _|apply Drawn0.step)⟩
    ·rw [if_neg c5] at H
     have c5b0 := decide_eq_false c5
     clear c5
     by_cases c6 : (rd l0 x7_1) > 9999
     ·rw [if_pos c6] at H
      have c6b0 := decide_eq_true c6
      clear c6
      obtain rfl := Option.some.inj H
      have p312 : 0 ≤ (x7_1 : Int) := of_decide_eq_true (by assumption)
      have q312 : x7_1 < (l0.length : Int) := of_decide_eq_true (by assumption)
      obtain ⟨ad312,e312,hx312_0⟩ := Kd.at_int HR0.out x7_1 p312 q312
      cases e312
      replace p312 := eq_true p312
      replace q312 := eq_true q312
      go_wp2
      go_ret
      exact ⟨by first|rfl|(simp;done)|(simp [*];done),by repeat (first|exact Drawn0.refl _|apply Drawn0.step)⟩
     ·rw [if_neg c6] at H
      have c6b0 := decide_eq_false c6
      clear c6
      by_cases c7 : x7_1 > 0
      ·rw [if_pos c7] at H
       have c7b0 := decide_eq_true c7
       clear c7
       obtain ⟨ji8,hji8⟩ : ∃ j_ : Int,(wrap64 (x7_1 - 1)) = j_ := ⟨_,rfl⟩
       replace H : (if 0 ≤ (ji8) then (if (ji8) < (l0.length : Int) then (if (rd l0 x7_1) ≤ (rd l0 (ji8)) then (some false) else (posting_Valid.l0 k1 l0 l0 (l0.length : Int) (wrap64 (x7_1 + 1)))) else (none)) else (none)) = some r := by first|(rw [hji8] at H;exact H)|(simp only [hji8] at H ⊢;exact H)
       have hji8w : (IntKind.i64.wrap (x7_1 - 1)) = ji8 := (i64_w _).trans hji8
       obtain ⟨c9,H⟩ := iS H
       have c9b0 := decide_eq_true c9
       clear c9
       obtain ⟨c10,H⟩ := iS H
       have c10b0 := decide_eq_true c10
       clear c10
       by_cases c11 : (rd l0 x7_1) ≤ (rd l0 (ji8))
       ·rw [if_pos c11] at H
        have c11b0 := decide_eq_true c11
        clear c11
        obtain rfl := Option.some.inj H
        have p312 : 0 ≤ (x7_1 : Int) := of_decide_eq_true (by assumption)
        have q312 : x7_1 < (l0.length : Int) := of_decide_eq_true (by assumption)
        obtain ⟨ad312,e312,hx312_0⟩ := Kd.at_int HR0.out x7_1 p312 q312
        cases e312
        replace p312 := eq_true p312
        replace q312 := eq_true q312
        have p313 : 0 ≤ ((ji8) : Int) := of_decide_eq_true (by assumption)
        have q313 : (ji8) < (l0.length : Int) := of_decide_eq_true (by assumption)
        obtain ⟨ad313,e313,hx313_0⟩ := Kd.at_int HR0.out (ji8) p313 q313
        obtain rfl : ad312 = ad313 := (by injection e313)
        replace p313 := eq_true p313
        replace q313 := eq_true q313
        go_wp2
        go_ret
        exact ⟨by first|rfl|(simp;done)|(rw [Int.tdiv_eq_ediv_of_nonneg (by assumption)];done)|(rw [Int.tmod_eq_emod_of_nonneg (by assumption)];done)|(simp only [← hji8] <;> (first|rfl|simp))|(simp [*];done),by repeat (first|exact Drawn0.refl _|apply Drawn0.step)⟩
       ·rw [if_neg c11] at H
        have c11b0 := decide_eq_false c11
        clear c11
        have H' := aK H
        clear H
        have p312 : 0 ≤ (x7_1 : Int) := of_decide_eq_true (by assumption)
        have q312 : x7_1 < (l0.length : Int) := of_decide_eq_true (by assumption)
        obtain ⟨ad312,e312,hx312_0⟩ := Kd.at_int HR0.out x7_1 p312 q312
        cases e312
        replace p312 := eq_true p312
        replace q312 := eq_true q312
        have p313 : 0 ≤ ((ji8) : Int) := of_decide_eq_true (by assumption)
        have q313 : (ji8) < (l0.length : Int) := of_decide_eq_true (by assumption)
        obtain ⟨ad313,e313,hx313_0⟩ := Kd.at_int HR0.out (ji8) p313 q313
        obtain rfl : ad312 = ad313 := (by injection e313)
        replace p313 := eq_true p313
        replace q313 := eq_true q313
        go_wp2
        go_roundg k1
        case measure => have := HK1.out;omega
        case rel => exact ⟨(wrap64 (x7_1 + 1)),(by first|rfl|(simp;done)|(simp [*];done)),H',⟨by have := HK1.out;omega⟩,by repeat (first|exact Drawn0.refl _|apply Drawn0.step)⟩
      ·rw [if_neg c7] at H
       have c7b0 := decide_eq_false c7
       clear c7
       have H' := aK H
       clear H
       have p312 : 0 ≤ (x7_1 : Int) := of_decide_eq_true (by assumption)
       have q312 : x7_1 < (l0.length : Int) := of_decide_eq_true (by assumption)
       obtain ⟨ad312,e312,hx312_0⟩ := Kd.at_int HR0.out x7_1 p312 q312
       cases e312
       replace p312 := eq_true p312
       replace q312 := eq_true q312
       go_wp2
       go_roundg k1
       case measure => have := HK1.out;omega
       case rel => exact ⟨(wrap64 (x7_1 + 1)),(by first|rfl|(simp;done)|(simp [*];done)),H',⟨by have := HK1.out;omega⟩,by repeat (first|exact Drawn0.refl _|apply Drawn0.step)⟩
   ·rw [if_neg c2] at H
    have c2b0 := decide_eq_false c2
    clear c2
    obtain rfl := Option.some.inj H
    go_wp2
    go_ret
    exact ⟨by first|rfl|(simp;done)|(simp [*];done),by repeat (first|exact Drawn0.refl _|apply Drawn0.step)⟩

/-! ### strings_Index: function 69 (by hand) -/
def strings_Index.f (a0 a1 : ByteArray) : Option Int := if a1.size = 1 then some (Lib.indexByte a0.data.toList (a1.data.toList.headD 0)) else none
theorem strings_Index.calls (a0 : ByteArray) (a1 : ByteArray) (r : Int) (w : World) (h : strings_Index.f a0 a1 = some r) :
    Calls Tryd.prog 69 #[.string a0, .string a1] w fun e w' => e = .returned (.int .i64 r) ∧ Drawn0 w w' := by
  unfold strings_Index.f at h
  split at h
  case isFalse => cases h
  rename_i h1
  obtain rfl := Option.some.inj h
  have e := one_byte_ a1 h1
  have hc := Tryd.strings_Index_one a0 (a1.data.toList.headD 0) w
  rw [← e] at hc
  refine hc.mono ?_
  rintro e w' ⟨rfl, rfl⟩
  exact ⟨rfl, Drawn0.refl _⟩

/-! ### strings_Contains: function 60 -/
def strings_Contains.f (a0 : ByteArray) (a1 : ByteArray) : Option (Bool) := (strings_Index.f a0 a1).bind fun t314 => (some (decide (t314 ≥ 0)))
set_option maxHeartbeats 4000000 in
set_option maxRecDepth 100000 in
theorem strings_Contains.calls (a0 : ByteArray) (a1 : ByteArray) (r : Bool) (w : World) (h : strings_Contains.f a0 a1 = some r) :
  Calls Tryd.prog 60 #[.string a0,.string a1] w fun e w' => e = .returned (.bool r) ∧ Drawn0 w w' := by
 have H : ((strings_Index.f a0 a1).bind fun t314 => (some (decide (t314 ≥ 0)))) = some r := h
 clear h
 replace H := Option.bind_eq_some_iff.mp H
 obtain ⟨t314,A30,H⟩ := H
 have A3 := aK A30
 clear A30
 obtain rfl := Option.some.inj H
 go_enter Tryd.func60,Tryd.ntmps60
 go_wp2_with (first|((with_reducible refine gate_callee (f := 69) rfl ?_);refine goesL_ (some 7) rfl rfl Tryd.func69 (by kernel_rfl) rfl #[.string a0,.string a1] rfl (by (try simp only [List.map_toArray,List.map_cons,List.map_nil]);first|done|rfl|(simp only [List.length_drop,List.length_take];rfl)) ?_;(with_reducible refine (strings_Index.calls a0 a1 t314 _ A3.out).mono ?_);rintro e w' ⟨rfl,⟨nd,rfl⟩⟩;refine ⟨_,rfl,?_⟩))
 go_ret
 exact ⟨by first|rfl|(simp;done)|(simp [*];done),by repeat (first|exact Drawn0.refl _|apply Drawn0.step)⟩

/-! ### strings_explode: function 93 (by hand) -/
/-- Not reached: what is split is not split at nothing. -/
def strings_explode.f (_a0 : ByteArray) (_a1 : Int) : Option (List ByteArray) := none
theorem strings_explode.calls (a0 : ByteArray) (a1 : Int) (r : List ByteArray) (w : World) (h : strings_explode.f a0 a1 = some r) :
    Calls Tryd.prog 93 #[.string a0, .int .i64 a1] w fun e w' => ∃ v0_ : Value, e = .returned (v0_) ∧ Kd.R Kd.string 9 w' w.heap.size (fun _ => True) v0_ r ∧ Below w.heap.size w w' := by
  cases h

/-! ### strings_Count: function 94 (by hand) -/
def strings_Count.f (a0 a1 : ByteArray) : Option Int := if a1.size = 1 then some (Lib.countByte a0.data.toList (a1.data.toList.headD 0)) else none
theorem strings_Count.calls (a0 : ByteArray) (a1 : ByteArray) (r : Int) (w : World) (h : strings_Count.f a0 a1 = some r) :
    Calls Tryd.prog 94 #[.string a0, .string a1] w fun e w' => e = .returned (.int .i64 r) ∧ Drawn0 w w' := by
  unfold strings_Count.f at h
  split at h
  case isFalse => cases h
  rename_i h1
  obtain rfl := Option.some.inj h
  have e := one_byte_ a1 h1
  have hc := Tryd.strings_Count_one a0 (a1.data.toList.headD 0) w
  rw [← e] at hc
  refine hc.mono ?_
  rintro e w' ⟨rfl, rfl⟩
  exact ⟨rfl, Drawn0.refl _⟩

end Go.Proofs.YtmgliocboeifdaaDoor.T
