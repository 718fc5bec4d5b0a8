-- Written by hp.py, a program of this session, over the kit's print of the translation. Not trusted: Lean checks it.
import Derived.Test.YtmgliocboeifdaaGreatDoorRx0
import Derived.Test.YtmgliocboeifdaaGreatDoorRx9
import Derived.Test.YtmgliocboeifdaaGreatDoorRx13
namespace Go.Proofs.YtmgliocboeifdaaGreatDoor.R
open Go.RowKit Go.Proofs.YtmgliocboeifdaaGreatDoorW.PrintWords Go.Proofs.YtmgliocboeifdaaGreatDoorW.PrintLast Go.Proofs.YtmgliocboeifdaaGreatDoorW.PrintMore
attribute [local go_sem] max2_int min2_int max_two min_two max_three min_three max_four min_four   -- for this text's walks alone
set_option linter.unusedVariables false
set_option linter.unusedSimpArgs false

/-! ### codesearchref33_SameAll: function 19 -/
def codesearchref33_SameAll.l0 : Nat → List (S30) → List (S30) → Int → Option (Bool)
|0,_,_,_ => none
|k + 1,x0,x1,x5 => if x5 < (x0.length : Int) then (if 0 ≤ x5 then (if x5 < (x1.length : Int) then ((codesearchref33_Same.f k ((rd_T30 x0 x5).f0) ((rd_T30 x0 x5).f1) ((rd_T30 x0 x5).f2) ((rd_T30 x0 x5).f3) ((rd_T30 x0 x5).f4) ((rd_T30 x0 x5).f5) ((rd_T30 x1 x5).f0) ((rd_T30 x1 x5).f1) ((rd_T30 x1 x5).f2) ((rd_T30 x1 x5).f3) ((rd_T30 x1 x5).f4) ((rd_T30 x1 x5).f5)).bind fun t340 => (if t340 = true then (codesearchref33_SameAll.l0 k x0 x1 (wrap64 (x5 + 1))) else (some false))) else (none)) else (none)) else (some true)
def codesearchref33_SameAll.f (k : Nat) (l0 : List (S30)) (l1 : List (S30)) : Option (Bool) := if (l0.length : Int) = (l1.length : Int) then (codesearchref33_SameAll.l0 k l0 l1 0) else (some false)
theorem codesearchref33_SameAll.mono_l : ∀ k, (∀ y0 y1 y2, LeO (codesearchref33_SameAll.l0 k y0 y1 y2) (codesearchref33_SameAll.l0 (k + 1) y0 y1 y2))
|0 => fun _ _ _ r h => by simp [codesearchref33_SameAll.l0] at h
|k + 1 => by
  have ih0 := codesearchref33_SameAll.mono_l k
  ·intro y0 y1 y2
   unfold codesearchref33_SameAll.l0
   repeat' (with_reducible first|exact ih0 _ _ _|exact codesearchref33_Same.mono _ _ _ _ _ _ _ _ _ _ _ _ _|exact LeO.refl _|exact LeO.none _|refine LeO.ite ?_ ?_|refine LeO.bind ?_ (fun _ => ?_))
theorem codesearchref33_SameAll.mono : ∀ a0 a1 k, LeO (codesearchref33_SameAll.f k a0 a1) (codesearchref33_SameAll.f (k + 1) a0 a1) := by
 intro a0 a1 k
 have ih0 := codesearchref33_SameAll.mono_l k
 unfold codesearchref33_SameAll.f
 repeat' first
  |(with_reducible exact ih0 _ _ _)
  |(with_reducible exact codesearchref33_Same.mono _ _ _ _ _ _ _ _ _ _ _ _ _)
  |(with_reducible exact LeO.refl _)
  |(with_reducible exact LeO.none _)
  |(with_reducible refine LeO.ite ?_ ?_)
  |(with_reducible refine LeO.bind ?_ (fun _ => ?_))
  |exact ih0 _ _ _
  |exact codesearchref33_Same.mono _ _ _ _ _ _ _ _ _ _ _ _ _
  |exact LeO.none _
  |refine LeO.ite ?_ ?_
  |refine LeO.bind ?_ (fun _ => ?_)
def codesearchref33_SameAll.T6 : Bool × List (List Nat × List Nat) := (true, [([], []), ([], []), ([0, 1], [0, 1]), ([2], [2]), ([], []), ([], []), ([4, 5], [4, 5]), ([6], [6]), ([3, 7], [3, 7]), ([8], [8])])
def codesearchref33_SameAll.B6 : List Nat := [0, 0, 3, 7, 0, 0, 48, 112, 255, 511]
theorem codesearchref33_SameAll.tab6 : rtab .any (opsOf Tryz.f19 6) = codesearchref33_SameAll.T6 := by kernel_rfl
theorem codesearchref33_SameAll.bits6 : waitsOk codesearchref33_SameAll.T6.2 codesearchref33_SameAll.B6 = true := by kernel_rfl
set_option maxHeartbeats 4000000 in
set_option maxRecDepth 100000 in
theorem codesearchref33_SameAll.calls (k : Nat) (A0 : Option Addr) (c0 : Nat) (l0 : List (S30)) (A1 : Option Addr) (c1 : Nat) (l1 : List (S30)) (r : Bool) (w : World) (hr0 : Kd.C k30 w A0 l0.length l0) (hc0 : l0.length ≤ c0) (hr1 : Kd.C k30 w A1 l1.length l1) (hc1 : l1.length ≤ c1) (h : codesearchref33_SameAll.f k l0 l1 = some r) :
  Calls Tryz.prog 19 #[.slice A0 l0.length c0,.slice A1 l1.length c1] w fun e w' => e = .returned (.bool r) ∧ Below w.heap.size w w' := by
 have hu30 := Tryz.underlying30
 have HR0 := aK hr0
 have HC0 := aK hc0
 clear hr0 hc0
 have HR1 := aK hr1
 have HC1 := aK hc1
 clear hr1 hc1
 have HB := aK (Below.refl w.heap.size w)
 have H : (if (l0.length : Int) = (l1.length : Int) then (codesearchref33_SameAll.l0 k l0 l1 0) else (some false)) = some r := h
 clear h
 by_cases c3 : (l0.length : Int) = (l1.length : Int)
 ·rw [if_pos c3] at H
  have c3b0 := beq_iff_eq.mpr c3
  have c3b1 := bne_eq_false_iff_eq.mpr c3
  have c3b2 : (l0.length == l1.length) = true := by first|simpa using c3|(simp at c3 ⊢;omega)
  clear c3
  have H' := aK H
  clear H
  go_enter Tryz.func19,Tryz.ntmps19
  go_wp2
  go_loopg [5] k (fun kq v5 w' => ∃ (x5_1 : Int),v5 = .int .i64 x5_1 ∧ Aside0 (codesearchref33_SameAll.l0 kq l0 l1 x5_1 = some r) ∧ Aside0 (kq ≤ k) ∧ Aside0 (Below w.heap.size w w'))
  case atStart => exact ⟨(0),(by first|rfl|(simp;done)|(simp [*];done)),H',⟨Nat.le_refl _⟩,⟨bM HB.out⟩⟩
  case round =>
   clear H'
   try clear p2
   try clear c3
   try clear c3b0
   try clear c3b1
   try clear c3b2
   obtain ⟨x5_1,rfl,HA,HK1,HB⟩ := hrel
   cases gk with
  |zero => exact absurd HA.out (by simp [codesearchref33_SameAll.l0])
  |succ k1 =>
    have H := HA.out
    clear HA
    simp only [codesearchref33_SameAll.l0] at H
    by_cases c4 : x5_1 < (l0.length : Int)
    ·rw [if_pos c4] at H
     have c4b0 := decide_eq_true c4
     clear c4
     obtain ⟨c5,H⟩ := iS H
     have c5b0 := decide_eq_true c5
     clear c5
     obtain ⟨c6,H⟩ := iS H
     have c6b0 := decide_eq_true c6
     clear c6
     replace H := Option.bind_eq_some_iff.mp H
     obtain ⟨t340,A70,H⟩ := H
     have A7 := aK A70
     clear A70
     by_cases c8 : t340 = true
     ·subst c8
      rw [if_pos rfl] at H
      have H' := aK H
      clear H
      try go_wp2
      have n0_ := aK (below_drew1 HB.out)
      clear HB
      have HB := n0_
      clear n0_
      have p338 : 0 ≤ (x5_1 : Int) := of_decide_eq_true (by assumption)
      have q338 : x5_1 < (l0.length : Int) := of_decide_eq_true (by assumption)
      obtain ⟨ad338,A338_3,c338_3,A338_4,c338_4,A338_5,c338_5,e338,hx338_0,hx338_1,hx338_2,hx338_3,hx338_4,hx338_5,hl338_3,hi338_3,hl338_4,hi338_4,hl338_5,hi338_5⟩ := at_T30 HR0.out x5_1 p338 q338
      have hw338_5 := hx338_5
      have hw338_4 := hx338_4
      have hw338_3 := hx338_3
      have hw338_2 := hx338_2
      have hw338_1 := hx338_1
      have hw338_0 := hx338_0
      cases e338
      replace hx338_0 := xM HB hx338_0
      replace hx338_1 := xM HB hx338_1
      replace hx338_2 := xM HB hx338_2
      replace hx338_3 := xM HB hx338_3
      replace hx338_4 := xM HB hx338_4
      replace hx338_5 := xM HB hx338_5
      have HR338_3 := aK hi338_3
      have HC338_3 := aK hl338_3
      clear hi338_3 hl338_3
      have HR338_4 := aK hi338_4
      have HC338_4 := aK hl338_4
      clear hi338_4 hl338_4
      have HR338_5 := aK hi338_5
      have HC338_5 := aK hl338_5
      clear hi338_5 hl338_5
      replace p338 := eq_true p338
      replace q338 := eq_true q338
      have p339 : 0 ≤ (x5_1 : Int) := of_decide_eq_true (by assumption)
      have q339 : x5_1 < (l1.length : Int) := of_decide_eq_true (by assumption)
      obtain ⟨ad339,A339_3,c339_3,A339_4,c339_4,A339_5,c339_5,e339,hx339_0,hx339_1,hx339_2,hx339_3,hx339_4,hx339_5,hl339_3,hi339_3,hl339_4,hi339_4,hl339_5,hi339_5⟩ := at_T30 HR1.out x5_1 p339 q339
      have hw339_5 := hx339_5
      have hw339_4 := hx339_4
      have hw339_3 := hx339_3
      have hw339_2 := hx339_2
      have hw339_1 := hx339_1
      have hw339_0 := hx339_0
      cases e339
      replace hx339_0 := xM HB hx339_0
      replace hx339_1 := xM HB hx339_1
      replace hx339_2 := xM HB hx339_2
      replace hx339_3 := xM HB hx339_3
      replace hx339_4 := xM HB hx339_4
      replace hx339_5 := xM HB hx339_5
      have HR339_3 := aK hi339_3
      have HC339_3 := aK hl339_3
      clear hi339_3 hl339_3
      have HR339_4 := aK hi339_4
      have HC339_4 := aK hl339_4
      clear hi339_4 hl339_4
      have HR339_5 := aK hi339_5
      have HC339_5 := aK hl339_5
      clear hi339_5 hl339_5
      replace p339 := eq_true p339
      replace q339 := eq_true q339
      refine start_ (n := 10) (S := fun w' => w'.cell? (ad338.add ((x5_1).toNat * 6)) = some (.int .i64 ((rd_T30 l0 x5_1).f0)) ∧ w'.cell? ⟨(ad338.add ((x5_1).toNat * 6)).block,(ad338.add ((x5_1).toNat * 6)).off + 1,none⟩ = some (.int .i64 ((rd_T30 l0 x5_1).f1)) ∧ w'.cell? ⟨(ad338.add ((x5_1).toNat * 6)).block,(ad338.add ((x5_1).toNat * 6)).off + 2,none⟩ = some (.int .i64 ((rd_T30 l0 x5_1).f2)) ∧ w'.cell? ⟨(ad338.add ((x5_1).toNat * 6)).block,(ad338.add ((x5_1).toNat * 6)).off + 3,none⟩ = some (.slice A338_3 ((rd_T30 l0 x5_1).f3).length c338_3) ∧ w'.cell? ⟨(ad338.add ((x5_1).toNat * 6)).block,(ad338.add ((x5_1).toNat * 6)).off + 4,none⟩ = some (.slice A338_4 ((rd_T30 l0 x5_1).f4).length c338_4) ∧ w'.cell? ⟨(ad338.add ((x5_1).toNat * 6)).block,(ad338.add ((x5_1).toNat * 6)).off + 5,none⟩ = some (.slice A338_5 ((rd_T30 l0 x5_1).f5).length c338_5) ∧ w'.cell? (ad339.add ((x5_1).toNat * 6)) = some (.int .i64 ((rd_T30 l1 x5_1).f0)) ∧ w'.cell? ⟨(ad339.add ((x5_1).toNat * 6)).block,(ad339.add ((x5_1).toNat * 6)).off + 1,none⟩ = some (.int .i64 ((rd_T30 l1 x5_1).f1)) ∧ w'.cell? ⟨(ad339.add ((x5_1).toNat * 6)).block,(ad339.add ((x5_1).toNat * 6)).off + 2,none⟩ = some (.int .i64 ((rd_T30 l1 x5_1).f2)) ∧ w'.cell? ⟨(ad339.add ((x5_1).toNat * 6)).block,(ad339.add ((x5_1).toNat * 6)).off + 3,none⟩ = some (.slice A339_3 ((rd_T30 l1 x5_1).f3).length c339_3) ∧ w'.cell? ⟨(ad339.add ((x5_1).toNat * 6)).block,(ad339.add ((x5_1).toNat * 6)).off + 4,none⟩ = some (.slice A339_4 ((rd_T30 l1 x5_1).f4).length c339_4) ∧ w'.cell? ⟨(ad339.add ((x5_1).toNat * 6)).block,(ad339.add ((x5_1).toNat * 6)).off + 5,none⟩ = some (.slice A339_5 ((rd_T30 l1 x5_1).f5).length c339_5)) (ds := []) #[false,false,false,false,false,false,false,false,false,false] (by kernel_rfl) rfl rfl ⟨((HB.out.cell (World.block_lt_of_cell? w _ hw338_0)).trans hw338_0),((HB.out.cell (World.block_lt_of_cell? w _ hw338_1)).trans hw338_1),((HB.out.cell (World.block_lt_of_cell? w _ hw338_2)).trans hw338_2),((HB.out.cell (World.block_lt_of_cell? w _ hw338_3)).trans hw338_3),((HB.out.cell (World.block_lt_of_cell? w _ hw338_4)).trans hw338_4),((HB.out.cell (World.block_lt_of_cell? w _ hw338_5)).trans hw338_5),((HB.out.cell (World.block_lt_of_cell? w _ hw339_0)).trans hw339_0),((HB.out.cell (World.block_lt_of_cell? w _ hw339_1)).trans hw339_1),((HB.out.cell (World.block_lt_of_cell? w _ hw339_2)).trans hw339_2),((HB.out.cell (World.block_lt_of_cell? w _ hw339_3)).trans hw339_3),((HB.out.cell (World.block_lt_of_cell? w _ hw339_4)).trans hw339_4),((HB.out.cell (World.block_lt_of_cell? w _ hw339_5)).trans hw339_5)⟩ (fun hHeld => ?_);refine with_tabW codesearchref33_SameAll.tab6 codesearchref33_SameAll.bits6 (fun HT_ HW_ => ?_)
      generalize wr.drew = w9 at HB HR338_3 HR338_4 HR338_5 HR339_3 HR339_4 HR339_5 hx338_0 hx338_1 hx338_2 hx338_3 hx338_4 hx338_5 hx339_0 hx339_1 hx339_2 hx339_3 hx339_4 hx339_5 hHeld ⊢
      refine pure_ (i := 0) (N := some 17) (v := ?_) (a' := ?_) #[true,false,false,false,false,false,false,false,false,false] rfl rfl (any_of HT_.out (by kernel_rfl)) (fun _ _ _ h => h) (Or.inl ⟨by rfl,?_⟩) ?_ ?_
      rotate_left
      ·intro w'
       go_simp
       with_reducible rfl
      rotate_left
      ·simp only [Act.put,List.setIfInBounds_toArray,List.set_cons_zero,List.set_cons_succ,i64_w,i32_w]
       rfl
      refine pure_ (i := 1) (N := some 18) (v := ?_) (a' := ?_) #[true,true,false,false,false,false,false,false,false,false] rfl rfl (any_of HT_.out (by kernel_rfl)) (fun _ _ _ h => h) (Or.inl ⟨by rfl,?_⟩) ?_ ?_
      rotate_left
      ·intro w'
       go_simp
       with_reducible rfl
      rotate_left
      ·simp only [Act.put,List.setIfInBounds_toArray,List.set_cons_zero,List.set_cons_succ,i64_w,i32_w]
       rfl
      refine pure_ (i := 2) (N := some 19) (v := ?_) (a' := ?_) #[true,true,true,false,false,false,false,false,false,false] rfl rfl (any_of HT_.out (by kernel_rfl)) (fun _ _ _ h => h) (Or.inl ⟨by rfl,?_⟩) ?_ ?_
      rotate_left
      ·intro w'
       go_simp
       with_reducible rfl
      rotate_left
      ·simp only [Act.put,List.setIfInBounds_toArray,List.set_cons_zero,List.set_cons_succ,i64_w,i32_w]
       rfl
      refine pure_ (i := 4) (N := some 21) (v := ?_) (a' := ?_) #[true,true,true,false,true,false,false,false,false,false] rfl rfl (any_of HT_.out (by kernel_rfl)) (fun _ _ _ h => h) (Or.inl ⟨by rfl,?_⟩) ?_ ?_
      rotate_left
      ·intro w'
       go_simp
       with_reducible rfl
      rotate_left
      ·simp only [Act.put,List.setIfInBounds_toArray,List.set_cons_zero,List.set_cons_succ,i64_w,i32_w]
       rfl
      refine pure_ (i := 5) (N := some 22) (v := ?_) (a' := ?_) #[true,true,true,false,true,true,false,false,false,false] rfl rfl (any_of HT_.out (by kernel_rfl)) (fun _ _ _ h => h) (Or.inl ⟨by rfl,?_⟩) ?_ ?_
      rotate_left
      ·intro w'
       go_simp
       with_reducible rfl
      rotate_left
      ·simp only [Act.put,List.setIfInBounds_toArray,List.set_cons_zero,List.set_cons_succ,i64_w,i32_w]
       rfl
      refine pure_ (i := 6) (N := some 23) (v := ?_) (a' := ?_) #[true,true,true,false,true,true,true,false,false,false] rfl rfl (any_of HT_.out (by kernel_rfl)) (fun _ _ _ h => h) (Or.inl ⟨by rfl,?_⟩) ?_ ?_
      rotate_left
      ·intro w'
       go_simp
       with_reducible rfl
      rotate_left
      ·simp only [Act.put,List.setIfInBounds_toArray,List.set_cons_zero,List.set_cons_succ,i64_w,i32_w]
       rfl
      refine take_ (i := 3) (N := some 20) (v := ?_) (a' := ?_) #[true,true,true,true,true,true,true,false,false,false] rfl rfl (take_ofW HT_.out HW_.out (by kernel_rfl)) (fun _ _ _ h => h) (Or.inl ⟨by rfl,?_⟩) hHeld ?_ ?_
      rotate_left
      ·rintro w' ⟨s0,s1,s2,s3,s4,s5,s6,s7,s8,s9,s10,s11⟩
       go_simp
       with_reducible rfl
      rotate_left
      ·simp only [Act.put,List.setIfInBounds_toArray,List.set_cons_zero,List.set_cons_succ,i64_w,i32_w]
       rfl
      refine take_ (i := 7) (N := some 24) (v := ?_) (a' := ?_) #[true,true,true,true,true,true,true,true,false,false] rfl rfl (take_ofW HT_.out HW_.out (by kernel_rfl)) (fun _ _ _ h => h) (Or.inl ⟨by rfl,?_⟩) hHeld ?_ ?_
      rotate_left
      ·rintro w' ⟨s0,s1,s2,s3,s4,s5,s6,s7,s8,s9,s10,s11⟩
       go_simp
       with_reducible rfl
      rotate_left
      ·simp only [Act.put,List.setIfInBounds_toArray,List.set_cons_zero,List.set_cons_succ,i64_w,i32_w]
       rfl
      refine one_ (i := 8) (N := some 25) #[true,true,true,true,true,true,true,true,true,false] rfl rfl (one_of HT_.out (by kernel_rfl)) (by decide) (fun K hK => ?_)
      refine goes_ Tryz.func14 (by kernel_rfl) rfl #[.agg #[.int .i64 ((rd_T30 l0 x5_1).f0),.int .i64 ((rd_T30 l0 x5_1).f1),.int .i64 ((rd_T30 l0 x5_1).f2),.slice A338_3 ((rd_T30 l0 x5_1).f3).length c338_3,.slice A338_4 ((rd_T30 l0 x5_1).f4).length c338_4,.slice A338_5 ((rd_T30 l0 x5_1).f5).length c338_5],.agg #[.int .i64 ((rd_T30 l1 x5_1).f0),.int .i64 ((rd_T30 l1 x5_1).f1),.int .i64 ((rd_T30 l1 x5_1).f2),.slice A339_3 ((rd_T30 l1 x5_1).f3).length c339_3,.slice A339_4 ((rd_T30 l1 x5_1).f4).length c339_4,.slice A339_5 ((rd_T30 l1 x5_1).f5).length c339_5]] (by rfl) rfl rfl (by (try simp only [List.map_toArray,List.map_cons,List.map_nil]);first|done|rfl|(simp only [List.length_drop,List.length_take];rfl)) ?_
      with_reducible refine (codesearchref33_Same.calls k1 ((rd_T30 l0 x5_1).f0) ((rd_T30 l0 x5_1).f1) ((rd_T30 l0 x5_1).f2) _ _ ((rd_T30 l0 x5_1).f3) _ _ ((rd_T30 l0 x5_1).f4) _ _ ((rd_T30 l0 x5_1).f5) ((rd_T30 l1 x5_1).f0) ((rd_T30 l1 x5_1).f1) ((rd_T30 l1 x5_1).f2) _ _ ((rd_T30 l1 x5_1).f3) _ _ ((rd_T30 l1 x5_1).f4) _ _ ((rd_T30 l1 x5_1).f5) true _ ?side1 ?side2 ?side3 ?side4 ?side5 ?side6 ?side7 ?side8 ?side9 ?side10 ?side11 ?side12 A7.out).mono ?_
      (case side1 => exact cM (Kd.C_below HR338_3.out HB.out))
      (case side2 => exact HC338_3.out)
      (case side3 => exact cM (Kd.C_below HR338_4.out HB.out))
      (case side4 => exact HC338_4.out)
      (case side5 => exact cM (Kd.C_below HR338_5.out HB.out))
      (case side6 => exact HC338_5.out)
      (case side7 => exact cM (Kd.C_below HR339_3.out HB.out))
      (case side8 => exact HC339_3.out)
      (case side9 => exact cM (Kd.C_below HR339_4.out HB.out))
      (case side10 => exact HC339_4.out)
      (case side11 => exact cM (Kd.C_below HR339_5.out HB.out))
      (case side12 => exact HC339_5.out)
      rintro e w10 ⟨rfl,hb⟩
      refine ⟨_,rfl,?_⟩
      have n0_ := aK (below_step (bM HB.out) hb)
      clear HB
      have HB := n0_
      clear n0_
      (try clear hb)
      
      
      
      refine hK.out _ _ ⟨((HB.out.cell (World.block_lt_of_cell? w _ hw338_0)).trans hw338_0),((HB.out.cell (World.block_lt_of_cell? w _ hw338_1)).trans hw338_1),((HB.out.cell (World.block_lt_of_cell? w _ hw338_2)).trans hw338_2),((HB.out.cell (World.block_lt_of_cell? w _ hw338_3)).trans hw338_3),((HB.out.cell (World.block_lt_of_cell? w _ hw338_4)).trans hw338_4),((HB.out.cell (World.block_lt_of_cell? w _ hw338_5)).trans hw338_5),((HB.out.cell (World.block_lt_of_cell? w _ hw339_0)).trans hw339_0),((HB.out.cell (World.block_lt_of_cell? w _ hw339_1)).trans hw339_1),((HB.out.cell (World.block_lt_of_cell? w _ hw339_2)).trans hw339_2),((HB.out.cell (World.block_lt_of_cell? w _ hw339_3)).trans hw339_3),((HB.out.cell (World.block_lt_of_cell? w _ hw339_4)).trans hw339_4),((HB.out.cell (World.block_lt_of_cell? w _ hw339_5)).trans hw339_5)⟩ (fun hHeld => ?_)
      clear hK K
      refine norm_ (a' := ?_) ?_ ?_
      rotate_left
      ·show Act.put _ (some 25) _ = _
       simp only [Act.put,List.setIfInBounds_toArray,List.set_cons_zero,List.set_cons_succ,i64_w,i32_w]
       rfl
      refine pure_ (i := 9) (N := some 26) (v := ?_) (a' := ?_) #[true,true,true,true,true,true,true,true,true,true] rfl rfl (any_of HT_.out (by kernel_rfl)) (fun _ _ _ h => h) (Or.inl ⟨by rfl,?_⟩) ?_ ?_
      rotate_left
      ·intro w'
       go_simp
       with_reducible rfl
      rotate_left
      ·simp only [Act.put,List.setIfInBounds_toArray,List.set_cons_zero,List.set_cons_succ,i64_w,i32_w]
       rfl
      refine done_ (done_of HT_.out (by kernel_rfl)) ?_
      try go_wp2
      go_roundg k1
      case measure => have := HK1.out;omega
      case rel => exact ⟨(wrap64 (x5_1 + 1)),(by first|rfl|(simp;done)|(simp [*];done)),H',⟨by have := HK1.out;omega⟩,⟨bM HB.out⟩⟩
     ·replace c8 := Bool.eq_false_iff.mpr c8
      subst c8
      rw [if_neg (show ¬ (false = true) by decide)] at H
      obtain rfl := Option.some.inj H
      try go_wp2
      have n0_ := aK (below_drew1 HB.out)
      clear HB
      have HB := n0_
      clear n0_
      have p338 : 0 ≤ (x5_1 : Int) := of_decide_eq_true (by assumption)
      have q338 : x5_1 < (l0.length : Int) := of_decide_eq_true (by assumption)
      obtain ⟨ad338,A338_3,c338_3,A338_4,c338_4,A338_5,c338_5,e338,hx338_0,hx338_1,hx338_2,hx338_3,hx338_4,hx338_5,hl338_3,hi338_3,hl338_4,hi338_4,hl338_5,hi338_5⟩ := at_T30 HR0.out x5_1 p338 q338
      have hw338_5 := hx338_5
      have hw338_4 := hx338_4
      have hw338_3 := hx338_3
      have hw338_2 := hx338_2
      have hw338_1 := hx338_1
      have hw338_0 := hx338_0
      cases e338
      replace hx338_0 := xM HB hx338_0
      replace hx338_1 := xM HB hx338_1
      replace hx338_2 := xM HB hx338_2
      replace hx338_3 := xM HB hx338_3
      replace hx338_4 := xM HB hx338_4
      replace hx338_5 := xM HB hx338_5
      have HR338_3 := aK hi338_3
      have HC338_3 := aK hl338_3
      clear hi338_3 hl338_3
      have HR338_4 := aK hi338_4
      have HC338_4 := aK hl338_4
      clear hi338_4 hl338_4
      have HR338_5 := aK hi338_5
      have HC338_5 := aK hl338_5
      clear hi338_5 hl338_5
      replace p338 := eq_true p338
      replace q338 := eq_true q338
      have p339 : 0 ≤ (x5_1 : Int) := of_decide_eq_true (by assumption)
      have q339 : x5_1 < (l1.length : Int) := of_decide_eq_true (by assumption)
      obtain ⟨ad339,A339_3,c339_3,A339_4,c339_4,A339_5,c339_5,e339,hx339_0,hx339_1,hx339_2,hx339_3,hx339_4,hx339_5,hl339_3,hi339_3,hl339_4,hi339_4,hl339_5,hi339_5⟩ := at_T30 HR1.out x5_1 p339 q339
      have hw339_5 := hx339_5
      have hw339_4 := hx339_4
      have hw339_3 := hx339_3
      have hw339_2 := hx339_2
      have hw339_1 := hx339_1
      have hw339_0 := hx339_0
      cases e339
      replace hx339_0 := xM HB hx339_0
      replace hx339_1 := xM HB hx339_1
      replace hx339_2 := xM HB hx339_2
      replace hx339_3 := xM HB hx339_3
      replace hx339_4 := xM HB hx339_4
      replace hx339_5 := xM HB hx339_5
      have HR339_3 := aK hi339_3
      have HC339_3 := aK hl339_3
      clear hi339_3 hl339_3
      have HR339_4 := aK hi339_4
      have HC339_4 := aK hl339_4
      clear hi339_4 hl339_4
      have HR339_5 := aK hi339_5
      have HC339_5 := aK hl339_5
      clear hi339_5 hl339_5
      replace p339 := eq_true p339
      replace q339 := eq_true q339
      refine start_ (n := 10) (S := fun w' => w'.cell? (ad338.add ((x5_1).toNat * 6)) = some (.int .i64 ((rd_T30 l0 x5_1).f0)) ∧ w'.cell? ⟨(ad338.add ((x5_1).toNat * 6)).block,(ad338.add ((x5_1).toNat * 6)).off + 1,none⟩ = some (.int .i64 ((rd_T30 l0 x5_1).f1)) ∧ w'.cell? ⟨(ad338.add ((x5_1).toNat * 6)).block,(ad338.add ((x5_1).toNat * 6)).off + 2,none⟩ = some (.int .i64 ((rd_T30 l0 x5_1).f2)) ∧ w'.cell? ⟨(ad338.add ((x5_1).toNat * 6)).block,(ad338.add ((x5_1).toNat * 6)).off + 3,none⟩ = some (.slice A338_3 ((rd_T30 l0 x5_1).f3).length c338_3) ∧ w'.cell? ⟨(ad338.add ((x5_1).toNat * 6)).block,(ad338.add ((x5_1).toNat * 6)).off + 4,none⟩ = some (.slice A338_4 ((rd_T30 l0 x5_1).f4).length c338_4) ∧ w'.cell? ⟨(ad338.add ((x5_1).toNat * 6)).block,(ad338.add ((x5_1).toNat * 6)).off + 5,none⟩ = some (.slice A338_5 ((rd_T30 l0 x5_1).f5).length c338_5) ∧ w'.cell? (ad339.add ((x5_1).toNat * 6)) = some (.int .i64 ((rd_T30 l1 x5_1).f0)) ∧ w'.cell? ⟨(ad339.add ((x5_1).toNat * 6)).block,(ad339.add ((x5_1).toNat * 6)).off + 1,none⟩ = some (.int .i64 ((rd_T30 l1 x5_1).f1)) ∧ w'.cell? ⟨(ad339.add ((x5_1).toNat * 6)).block,(ad339.add ((x5_1).toNat * 6)).off + 2,none⟩ = some (.int .i64 ((rd_T30 l1 x5_1).f2)) ∧ w'.cell? ⟨(ad339.add ((x5_1).toNat * 6)).block,(ad339.add ((x5_1).toNat * 6)).off + 3,none⟩ = some (.slice A339_3 ((rd_T30 l1 x5_1).f3).length c339_3) ∧ w'.cell? ⟨(ad339.add ((x5_1).toNat * 6)).block,(ad339.add ((x5_1).toNat * 6)).off + 4,none⟩ = some (.slice A339_4 ((rd_T30 l1 x5_1).f4).length c339_4) ∧ w'.cell? ⟨(ad339.add ((x5_1).toNat * 6)).block,(ad339.add ((x5_1).toNat * 6)).off + 5,none⟩ = some (.slice A339_5 ((rd_T30 l1 x5_1).f5).length c339_5)) (ds := []) #[false,false,false,false,false,false,false,false,false,false] (by kernel_rfl) rfl rfl ⟨((HB.out.cell (World.block_lt_of_cell? w _ hw338_0)).trans hw338_0),((HB.out.cell (World.block_lt_of_cell? w _ hw338_1)).trans hw338_1),((HB.out.cell (World.block_lt_of_cell? w _ hw338_2)).trans hw338_2),((HB.out.cell (World.block_lt_of_cell? w _ hw338_3)).trans hw338_3),((HB.out.cell (World.block_lt_of_cell? w _ hw338_4)).trans hw338_4),((HB.out.cell (World.block_lt_of_cell? w _ hw338_5)).trans hw338_5),((HB.out.cell (World.block_lt_of_cell? w _ hw339_0)).trans hw339_0),((HB.out.cell (World.block_lt_of_cell? w _ hw339_1)).trans hw339_1),((HB.out.cell (World.block_lt_of_cell? w _ hw339_2)).trans hw339_2),((HB.out.cell (World.block_lt_of_cell? w _ hw339_3)).trans hw339_3),((HB.out.cell (World.block_lt_of_cell? w _ hw339_4)).trans hw339_4),((HB.out.cell (World.block_lt_of_cell? w _ hw339_5)).trans hw339_5)⟩ (fun hHeld => ?_);refine with_tabW codesearchref33_SameAll.tab6 codesearchref33_SameAll.bits6 (fun HT_ HW_ => ?_)
      generalize wr.drew = w11 at HB HR338_3 HR338_4 HR338_5 HR339_3 HR339_4 HR339_5 hx338_0 hx338_1 hx338_2 hx338_3 hx338_4 hx338_5 hx339_0 hx339_1 hx339_2 hx339_3 hx339_4 hx339_5 hHeld ⊢
      refine pure_ (i := 0) (N := some 17) (v := ?_) (a' := ?_) #[true,false,false,false,false,false,false,false,false,false] rfl rfl (any_of HT_.out (by kernel_rfl)) (fun _ _ _ h => h) (Or.inl ⟨by rfl,?_⟩) ?_ ?_
      rotate_left
      ·intro w'
       go_simp
       with_reducible rfl
      rotate_left
      ·simp only [Act.put,List.setIfInBounds_toArray,List.set_cons_zero,List.set_cons_succ,i64_w,i32_w]
       rfl
      refine pure_ (i := 1) (N := some 18) (v := ?_) (a' := ?_) #[true,true,false,false,false,false,false,false,false,false] rfl rfl (any_of HT_.out (by kernel_rfl)) (fun _ _ _ h => h) (Or.inl ⟨by rfl,?_⟩) ?_ ?_
      rotate_left
      ·intro w'
       go_simp
       with_reducible rfl
      rotate_left
      ·simp only [Act.put,List.setIfInBounds_toArray,List.set_cons_zero,List.set_cons_succ,i64_w,i32_w]
       rfl
      refine pure_ (i := 2) (N := some 19) (v := ?_) (a' := ?_) #[true,true,true,false,false,false,false,false,false,false] rfl rfl (any_of HT_.out (by kernel_rfl)) (fun _ _ _ h => h) (Or.inl ⟨by rfl,?_⟩) ?_ ?_
      rotate_left
      ·intro w'
       go_simp
       with_reducible rfl
      rotate_left
      ·simp only [Act.put,List.setIfInBounds_toArray,List.set_cons_zero,List.set_cons_succ,i64_w,i32_w]
       rfl
      refine pure_ (i := 4) (N := some 21) (v := ?_) (a' := ?_) #[true,true,true,false,true,false,false,false,false,false] rfl rfl (any_of HT_.out (by kernel_rfl)) (fun _ _ _ h => h) (Or.inl ⟨by rfl,?_⟩) ?_ ?_
      rotate_left
      ·intro w'
       go_simp
       with_reducible rfl
      rotate_left
      ·simp only [Act.put,List.setIfInBounds_toArray,List.set_cons_zero,List.set_cons_succ,i64_w,i32_w]
       rfl
      refine pure_ (i := 5) (N := some 22) (v := ?_) (a' := ?_) #[true,true,true,false,true,true,false,false,false,false] rfl rfl (any_of HT_.out (by kernel_rfl)) (fun _ _ _ h => h) (Or.inl ⟨by rfl,?_⟩) ?_ ?_
      rotate_left
      ·intro w'
       go_simp
       with_reducible rfl
      rotate_left
      ·simp only [Act.put,List.setIfInBounds_toArray,List.set_cons_zero,List.set_cons_succ,i64_w,i32_w]
       rfl
      refine pure_ (i := 6) (N := some 23) (v := ?_) (a' := ?_) #[true,true,true,false,true,true,true,false,false,false] rfl rfl (any_of HT_.out (by kernel_rfl)) (fun _ _ _ h => h) (Or.inl ⟨by rfl,?_⟩) ?_ ?_
      rotate_left
      ·intro w'
       go_simp
       with_reducible rfl
      rotate_left
      ·simp only [Act.put,List.setIfInBounds_toArray,List.set_cons_zero,List.set_cons_succ,i64_w,i32_w]
       rfl
      refine take_ (i := 3) (N := some 20) (v := ?_) (a' := ?_) #[true,true,true,true,true,true,true,false,false,false] rfl rfl (take_ofW HT_.out HW_.out (by kernel_rfl)) (fun _ _ _ h => h) (Or.inl ⟨by rfl,?_⟩) hHeld ?_ ?_
      rotate_left
      ·rintro w' ⟨s0,s1,s2,s3,s4,s5,s6,s7,s8,s9,s10,s11⟩
       go_simp
       with_reducible rfl
      rotate_left
      ·simp only [Act.put,List.setIfInBounds_toArray,List.set_cons_zero,List.set_cons_succ,i64_w,i32_w]
       rfl
      refine take_ (i := 7) (N := some 24) (v := ?_) (a' := ?_) #[true,true,true,true,true,true,true,true,false,false] rfl rfl (take_ofW HT_.out HW_.out (by kernel_rfl)) (fun _ _ _ h => h) (Or.inl ⟨by rfl,?_⟩) hHeld ?_ ?_
      rotate_left
      ·rintro w' ⟨s0,s1,s2,s3,s4,s5,s6,s7,s8,s9,s10,s11⟩
       go_simp
       with_reducible rfl
      rotate_left
      ·simp only [Act.put,List.setIfInBounds_toArray,List.set_cons_zero,List.set_cons_succ,i64_w,i32_w]
       rfl
      refine one_ (i := 8) (N := some 25) #[true,true,true,true,true,true,true,true,true,false] rfl rfl (one_of HT_.out (by kernel_rfl)) (by decide) (fun K hK => ?_)
      refine goes_ Tryz.func14 (by kernel_rfl) rfl #[.agg #[.int .i64 ((rd_T30 l0 x5_1).f0),.int .i64 ((rd_T30 l0 x5_1).f1),.int .i64 ((rd_T30 l0 x5_1).f2),.slice A338_3 ((rd_T30 l0 x5_1).f3).length c338_3,.slice A338_4 ((rd_T30 l0 x5_1).f4).length c338_4,.slice A338_5 ((rd_T30 l0 x5_1).f5).length c338_5],.agg #[.int .i64 ((rd_T30 l1 x5_1).f0),.int .i64 ((rd_T30 l1 x5_1).f1),.int .i64 ((rd_T30 l1 x5_1).f2),.slice A339_3 ((rd_T30 l1 x5_1).f3).length c339_3,.slice A339_4 ((rd_T30 l1 x5_1).f4).length c339_4,.slice A339_5 ((rd_T30 l1 x5_1).f5).length c339_5]] (by rfl) rfl rfl (by (try simp only [List.map_toArray,List.map_cons,List.map_nil]);first|done|rfl|(simp only [List.length_drop,List.length_take];rfl)) ?_
      with_reducible refine (codesearchref33_Same.calls k1 ((rd_T30 l0 x5_1).f0) ((rd_T30 l0 x5_1).f1) ((rd_T30 l0 x5_1).f2) _ _ ((rd_T30 l0 x5_1).f3) _ _ ((rd_T30 l0 x5_1).f4) _ _ ((rd_T30 l0 x5_1).f5) ((rd_T30 l1 x5_1).f0) ((rd_T30 l1 x5_1).f1) ((rd_T30 l1 x5_1).f2) _ _ ((rd_T30 l1 x5_1).f3) _ _ ((rd_T30 l1 x5_1).f4) _ _ ((rd_T30 l1 x5_1).f5) false _ ?side1 ?side2 ?side3 ?side4 ?side5 ?side6 ?side7 ?side8 ?side9 ?side10 ?side11 ?side12 A7.out).mono ?_
      (case side1 => exact cM (Kd.C_below HR338_3.out HB.out))
      (case side2 => exact HC338_3.out)
      (case side3 => exact cM (Kd.C_below HR338_4.out HB.out))
      (case side4 => exact HC338_4.out)
      (case side5 => exact cM (Kd.C_below HR338_5.out HB.out))
      (case side6 => exact HC338_5.out)
      (case side7 => exact cM (Kd.C_below HR339_3.out HB.out))
      (case side8 => exact HC339_3.out)
      (case side9 => exact cM (Kd.C_below HR339_4.out HB.out))
      (case side10 => exact HC339_4.out)
      (case side11 => exact cM (Kd.C_below HR339_5.out HB.out))
      (case side12 => exact HC339_5.out)
      rintro e w12 ⟨rfl,hb⟩
      refine ⟨_,rfl,?_⟩
      have n0_ := aK (below_step (bM HB.out) hb)
      clear HB
      have HB := n0_
      clear n0_
      (try clear hb)
      
      
      
      refine hK.out _ _ ⟨((HB.out.cell (World.block_lt_of_cell? w _ hw338_0)).trans hw338_0),((HB.out.cell (World.block_lt_of_cell? w _ hw338_1)).trans hw338_1),((HB.out.cell (World.block_lt_of_cell? w _ hw338_2)).trans hw338_2),((HB.out.cell (World.block_lt_of_cell? w _ hw338_3)).trans hw338_3),((HB.out.cell (World.block_lt_of_cell? w _ hw338_4)).trans hw338_4),((HB.out.cell (World.block_lt_of_cell? w _ hw338_5)).trans hw338_5),((HB.out.cell (World.block_lt_of_cell? w _ hw339_0)).trans hw339_0),((HB.out.cell (World.block_lt_of_cell? w _ hw339_1)).trans hw339_1),((HB.out.cell (World.block_lt_of_cell? w _ hw339_2)).trans hw339_2),((HB.out.cell (World.block_lt_of_cell? w _ hw339_3)).trans hw339_3),((HB.out.cell (World.block_lt_of_cell? w _ hw339_4)).trans hw339_4),((HB.out.cell (World.block_lt_of_cell? w _ hw339_5)).trans hw339_5)⟩ (fun hHeld => ?_)
      clear hK K
      refine norm_ (a' := ?_) ?_ ?_
      rotate_left
      ·show Act.put _ (some 25) _ = _
       simp only [Act.put,List.setIfInBounds_toArray,List.set_cons_zero,List.set_cons_succ,i64_w,i32_w]
       rfl
      refine pure_ (i := 9) (N := some 26) (v := ?_) (a' := ?_) #[true,true,true,true,true,true,true,true,true,true] rfl rfl (any_of HT_.out (by kernel_rfl)) (fun _ _ _ h => h) (Or.inl ⟨by rfl,?_⟩) ?_ ?_
      rotate_left
      ·intro w'
       go_simp
       with_reducible rfl
      rotate_left
      ·simp only [Act.put,List.setIfInBounds_toArray,List.set_cons_zero,List.set_cons_succ,i64_w,i32_w]
       rfl
      refine done_ (done_of HT_.out (by kernel_rfl)) ?_
      try go_wp2
      go_ret
      exact ⟨by first|rfl|(simp [errW_none,errW_some] <;> rfl)|(simp [*,errW_none,errW_some] <;> rfl),bM HB.out⟩
    ·rw [if_neg c4] at H
     have c4b0 := decide_eq_false c4
     clear c4
     obtain rfl := Option.some.inj H
     go_wp2
     go_ret
     exact ⟨by first|rfl|(simp [errW_none,errW_some] <;> rfl)|(simp [*,errW_none,errW_some] <;> rfl),bM HB.out⟩
 ·rw [if_neg c3] at H
  have c3b0 := beq_eq_false_iff_ne.mpr c3
  have c3b1 := bne_iff_ne.mpr c3
  have c3b2 : (l0.length == l1.length) = false := by first|simpa using c3|(simp at c3 ⊢;omega)
  obtain rfl := Option.some.inj H
  go_enter Tryz.func19,Tryz.ntmps19
  go_wp2
  go_ret
  exact ⟨by first|rfl|(simp [errW_none,errW_some] <;> rfl)|(simp [*,errW_none,errW_some] <;> rfl),bM HB.out⟩

/-! ### codesearchlaw33_example: function 20 -/
def codesearchlaw33_example.f  : Option ((List (S30))) := some (([(⟨1, 1, 1, ([] : List Int), ([] : List Int), ([] : List ByteArray)⟩ : S30), (⟨2, 1, 2, ([] : List Int), ([] : List Int), ([] : List ByteArray)⟩ : S30), (⟨3, 2, 0, (([7, 9] : List Int)), ([] : List Int), ([] : List ByteArray)⟩ : S30), (⟨4, 3, 3, ([] : List Int), (([1, 2] : List Int)), ([] : List ByteArray)⟩ : S30)] : List (S30)))
set_option maxHeartbeats 4000000 in
set_option maxRecDepth 100000 in
theorem codesearchlaw33_example.calls  (r : List (S30)) (w : World) (h : codesearchlaw33_example.f  = some r) :
  Calls Tryz.prog 20 #[] w fun e w' => ∃ v0_ : Value,e = .returned (v0_) ∧ Kd.N k30 30 w' w.heap.size (fun k_ => (w.heap.size ≤ k_)) v0_ r ∧ Below w.heap.size w w' := by
 have hu30 := Tryz.underlying30
 have HB := aK (Below.refl w.heap.size w)
 unfold codesearchlaw33_example.f at h
 have H := h
 clear h
 obtain ⟨y341,hy341⟩ : ∃ y_ : List Int,y_ = (([7,9] : List Int)) := ⟨_,rfl⟩
 replace H : (some (([(⟨1,1,1,([] : List Int),([] : List Int),([] : List ByteArray)⟩ : S30),(⟨2,1,2,([] : List Int),([] : List Int),([] : List ByteArray)⟩ : S30),(⟨3,2,0,y341,([] : List Int),([] : List ByteArray)⟩ : S30),(⟨4,3,3,([] : List Int),(([1,2] : List Int)),([] : List ByteArray)⟩ : S30)] : List (S30)))) = some r := by first|(rw [hy341];with_reducible exact H)|(have H2_ := (Option.bind_some _ _).symm.trans H;rw [hy341];with_reducible exact H2_)|(have H2_ := (Option.bind_some _ _).symm.trans H;with_reducible exact H2_)|with_reducible exact H|(rw [hy341];exact H)|exact H
 have Ny341 := aK hy341
 clear hy341
 obtain ⟨y344,hy344⟩ : ∃ y_ : List Int,y_ = (([1,2] : List Int)) := ⟨_,rfl⟩
 replace H : (some (([(⟨1,1,1,([] : List Int),([] : List Int),([] : List ByteArray)⟩ : S30),(⟨2,1,2,([] : List Int),([] : List Int),([] : List ByteArray)⟩ : S30),(⟨3,2,0,y341,([] : List Int),([] : List ByteArray)⟩ : S30),(⟨4,3,3,([] : List Int),y344,([] : List ByteArray)⟩ : S30)] : List (S30)))) = some r := by first|(rw [hy344];with_reducible exact H)|(have H2_ := (Option.bind_some _ _).symm.trans H;rw [hy344];with_reducible exact H2_)|(have H2_ := (Option.bind_some _ _).symm.trans H;with_reducible exact H2_)|with_reducible exact H|(rw [hy344];exact H)|exact H
 have Ny344 := aK hy344
 clear hy344
 obtain ⟨y347,hy347⟩ : ∃ y_ : List (S30),y_ = (([(⟨1,1,1,([] : List Int),([] : List Int),([] : List ByteArray)⟩ : S30),(⟨2,1,2,([] : List Int),([] : List Int),([] : List ByteArray)⟩ : S30),(⟨3,2,0,y341,([] : List Int),([] : List ByteArray)⟩ : S30),(⟨4,3,3,([] : List Int),y344,([] : List ByteArray)⟩ : S30)] : List (S30))) := ⟨_,rfl⟩
 replace H : (some y347) = some r := by first|(rw [hy347];with_reducible exact H)|(have H2_ := (Option.bind_some _ _).symm.trans H;rw [hy347];with_reducible exact H2_)|(have H2_ := (Option.bind_some _ _).symm.trans H;with_reducible exact H2_)|with_reducible exact H|(rw [hy347];exact H)|exact H
 have Ny347 := aK hy347
 clear hy347
 obtain rfl := Option.some.inj H
 go_enter Tryz.func20,Tryz.ntmps20
 go_wp2_with (first|((with_reducible refine gate_dst (N := 3) rfl ?_);refine Kd.R_lit (Kd.int .i64) _ 3 ?hg (N := 3) ?hd (xs := ([7,9] : List Int)) (inner := [.int .i64 7,.int .i64 9]) (ok := fun _ => True) (okp := fun _ => True) ?hr ?hp (fun _ hk => hk) trivial (Below.refl _ _) (Nat.le_refl _) (by simp) ?_;(case hd => rfl);(case hg => rfl);(case hr => first|(go_simp;done)|(go_simp;rfl));(case hp => exact (Reps.one (show Kd.M (Kd.int .i64) _ _ _ 7 [.int .i64 7] from rfl) (Reps.one (show Kd.M (Kd.int .i64) _ _ _ 9 [.int .i64 9] from rfl) (Reps.none _ _))));intro v342 w1 ho2 hb hg_ hnew_;clear hg_ hnew_;(first|rw [← Ny341.out] at ho2|(simp only [Int.reduceToNat] at ho2;rw [← Ny341.out] at ho2));have HO343 := aK (Kd.R_lower (Kd.R_newM (M := fun k_ => (w.heap.size ≤ k_)) ho2 (below_size (bM HB.out)) (fun k_ h_ => h_)) (below_size (bM HB.out)));replace HB := aK (below_step (bM HB.out) hb);clear hb ho2;obtain ⟨Ao3,co3,eo3⟩ := Kd.R_slice HO343.out;subst eo3)|((with_reducible refine gate_dst (N := 5) rfl ?_);refine Kd.R_lit (Kd.int .i64) _ 3 ?hg (N := 5) ?hd (xs := ([1,2] : List Int)) (inner := [.int .i64 1,.int .i64 2]) (ok := fun _ => True) (okp := fun _ => True) ?hr ?hp (fun _ hk => hk) trivial (Below.refl _ _) (Nat.le_refl _) (by simp) ?_;(case hd => rfl);(case hg => rfl);(case hr => first|(go_simp;done)|(go_simp;rfl));(case hp => exact (Reps.one (show Kd.M (Kd.int .i64) _ _ _ 1 [.int .i64 1] from rfl) (Reps.one (show Kd.M (Kd.int .i64) _ _ _ 2 [.int .i64 2] from rfl) (Reps.none _ _))));intro v345 w4 ho5 hb hg_ hnew_;clear hg_ hnew_;(first|rw [← Ny344.out] at ho5|(simp only [Int.reduceToNat] at ho5;rw [← Ny344.out] at ho5));have HO346 := aK (Kd.R_lower (Kd.R_new' (Kd.R_newM (M := fun k_ => (w.heap.size ≤ k_)) ho5 (below_size (bM HB.out)) (fun k_ h_ => h_)) (Kd.R_lt (rM HO343.out))) (below_size (bM HB.out)));replace HO343 := aK (Kd.R_elder' (rM HO343.out) (Kd.R_base ho5) hb);replace HB := aK (below_step (bM HB.out) hb);clear hb ho5;obtain ⟨Ao6,co6,eo6⟩ := Kd.R_slice HO346.out;subst eo6)|((with_reducible refine gate_dst (N := 7) rfl ?_);refine Kd.N_lit k30 _ 30 ?hg (N' := 7) ?hd (xs := ([(⟨1,1,1,([] : List Int),([] : List Int),([] : List ByteArray)⟩ : S30),(⟨2,1,2,([] : List Int),([] : List Int),([] : List ByteArray)⟩ : S30),(⟨3,2,0,y341,([] : List Int),([] : List ByteArray)⟩ : S30),(⟨4,3,3,([] : List Int),y344,([] : List ByteArray)⟩ : S30)] : List (S30))) (inner := [.int .i64 1,.int .i64 1,.int .i64 1,.slice none 0 0,.slice none 0 0,.slice none 0 0,.int .i64 2,.int .i64 1,.int .i64 2,.slice none 0 0,.slice none 0 0,.slice none 0 0,.int .i64 3,.int .i64 2,.int .i64 0,.slice Ao3 y341.length co3,.slice none 0 0,.slice none 0 0,.int .i64 4,.int .i64 3,.int .i64 3,.slice none 0 0,.slice Ao6 y344.length co6,.slice none 0 0]) (ok := (fun k_ => (w.heap.size ≤ k_))) (okp := (fun k_ => (w.heap.size ≤ k_))) ?hr ?hp (fun _ hk => hk) ((show ∀ k_,w4.heap.size ≤ k_ → (fun k_ => (w.heap.size ≤ k_)) k_ from fun k_ hk => (Nat.le_trans (below_size (bM HB.out)) hk)) _ (Nat.le_refl _)) (Below.refl _ _) (Nat.le_refl _) (by simp) ?_;(case hd => rfl);(case hg => rfl);(case hr => first|(go_simp;done)|(go_simp;rfl));(case hp => exact (Reps.c6 (show Kd.FK k30 _ _ (⟨1,1,1,([] : List Int),([] : List Int),([] : List ByteArray)⟩ : S30) [.int .i64 1,.int .i64 1,.int .i64 1,.slice none 0 0,.slice none 0 0,.slice none 0 0] from (k30_mkF _ _ (⟨1,1,1,([] : List Int),([] : List Int),([] : List ByteArray)⟩ : S30) (Nat.le_refl _) (Kd.F_nil _ _ _) (Nat.le_refl _) (Kd.F_nil _ _ _) (Nat.le_refl _) (Kd.F_nil _ _ _))) (Reps.c6 (show Kd.FK k30 _ _ (⟨2,1,2,([] : List Int),([] : List Int),([] : List ByteArray)⟩ : S30) [.int .i64 2,.int .i64 1,.int .i64 2,.slice none 0 0,.slice none 0 0,.slice none 0 0] from (k30_mkF _ _ (⟨2,1,2,([] : List Int),([] : List Int),([] : List ByteArray)⟩ : S30) (Nat.le_refl _) (Kd.F_nil _ _ _) (Nat.le_refl _) (Kd.F_nil _ _ _) (Nat.le_refl _) (Kd.F_nil _ _ _))) (Reps.c6 (show Kd.FK k30 _ _ (⟨3,2,0,y341,([] : List Int),([] : List ByteArray)⟩ : S30) [.int .i64 3,.int .i64 2,.int .i64 0,.slice Ao3 y341.length co3,.slice none 0 0,.slice none 0 0] from (k30_mkF _ _ (⟨3,2,0,y341,([] : List Int),([] : List ByteArray)⟩ : S30) (Kd.R_reads' (Kd.R_mono (ok' := (fun k_ => (w.heap.size ≤ k_))) (HO343.out) (fun k_ hk => hk.1.1))).2.1 (Kd.R_F (Kd.R_mono (ok' := (fun k_ => (w.heap.size ≤ k_))) (HO343.out) (fun k_ hk => hk.1.1))) (Nat.le_refl _) (Kd.F_nil _ _ _) (Nat.le_refl _) (Kd.F_nil _ _ _))) (Reps.c6 (show Kd.FK k30 _ _ (⟨4,3,3,([] : List Int),y344,([] : List ByteArray)⟩ : S30) [.int .i64 4,.int .i64 3,.int .i64 3,.slice none 0 0,.slice Ao6 y344.length co6,.slice none 0 0] from (k30_mkF _ _ (⟨4,3,3,([] : List Int),y344,([] : List ByteArray)⟩ : S30) (Nat.le_refl _) (Kd.F_nil _ _ _) (Kd.R_reads' (Kd.R_mono (ok' := (fun k_ => (w.heap.size ≤ k_))) (HO346.out) (fun k_ hk => hk.1.1))).2.1 (Kd.R_F (Kd.R_mono (ok' := (fun k_ => (w.heap.size ≤ k_))) (HO346.out) (fun k_ hk => hk.1.1))) (Nat.le_refl _) (Kd.F_nil _ _ _))) (Reps.none _ _))))));intro v348 w7 ho8 hb hg_ hnew_;clear hg_ hnew_;(first|rw [← Ny347.out] at ho8|(simp only [Int.reduceToNat] at ho8;rw [← Ny347.out] at ho8));have HO349 := aK (Kd.N_lower ho8 (below_size (bM HB.out)));replace HB := aK (below_step (bM HB.out) hb);clear hb ho8))
 go_ret
 exact ⟨_,by first|rfl|(simp [errW_none,errW_some] <;> rfl)|(simp [*,errW_none,errW_some] <;> rfl),nM HO349.out,bM HB.out⟩

/-! ### manifest_run: function 51 -/
def manifest_run.l0 : Nat → List (S30) → Int → Int → List Int → List Int → Int → Option (List Int × List Int × Int)
|0,_,_,_,_,_,_ => none
|k + 1,x7,x8,x9,x352000,x352001,x352002 => if x9 < x8 then (if 0 ≤ x9 then (if x9 < (x7.length : Int) then ((manifest_state_after.f k x352000 x352001 x352002 ((rd_T30 x7 x9).f0) ((rd_T30 x7 x9).f1) ((rd_T30 x7 x9).f2) ((rd_T30 x7 x9).f3) ((rd_T30 x7 x9).f4) ((rd_T30 x7 x9).f5)).bind fun bt354 => (manifest_run.l0 k x7 x8 (wrap64 (x9 + 1)) bt354.1 bt354.2.1 bt354.2.2)) else (none)) else (none)) else (some (x352000,x352001,x352002))
def manifest_run.f (k : Nat) (l0 : List (S30)) : Option (List Int × List Int × Int) := manifest_run.l0 k l0 (l0.length : Int) 0 ([] : List Int) ([] : List Int) 0
theorem manifest_run.mono_l : ∀ k, (∀ y0 y1 y2 y3 y4 y5, LeO (manifest_run.l0 k y0 y1 y2 y3 y4 y5) (manifest_run.l0 (k + 1) y0 y1 y2 y3 y4 y5))
|0 => fun _ _ _ _ _ _ r h => by simp [manifest_run.l0] at h
|k + 1 => by
  have ih0 := manifest_run.mono_l k
  ·intro y0 y1 y2 y3 y4 y5
   unfold manifest_run.l0
   repeat' (with_reducible first|exact ih0 _ _ _ _ _ _|exact manifest_state_after.mono _ _ _ _ _ _ _ _ _ _|exact LeO.refl _|exact LeO.none _|refine LeO.ite ?_ ?_|refine LeO.bind ?_ (fun _ => ?_))
theorem manifest_run.mono : ∀ a0 k, LeO (manifest_run.f k a0) (manifest_run.f (k + 1) a0) := by
 intro a0 k
 have ih0 := manifest_run.mono_l k
 unfold manifest_run.f
 repeat' first
  |(with_reducible exact ih0 _ _ _ _ _ _)
  |(with_reducible exact manifest_state_after.mono _ _ _ _ _ _ _ _ _ _)
  |(with_reducible exact LeO.refl _)
  |(with_reducible exact LeO.none _)
  |(with_reducible refine LeO.ite ?_ ?_)
  |(with_reducible refine LeO.bind ?_ (fun _ => ?_))
  |exact ih0 _ _ _ _ _ _
  |exact manifest_state_after.mono _ _ _ _ _ _ _ _ _ _
  |exact LeO.none _
  |refine LeO.ite ?_ ?_
  |refine LeO.bind ?_ (fun _ => ?_)
set_option maxHeartbeats 4000000 in
set_option maxRecDepth 100000 in
theorem manifest_run.calls (k : Nat) (A0 : Option Addr) (c0 : Nat) (l0 : List (S30)) (r1 : List Int) (r2 : List Int) (r3 : Int) (w : World) (hr0 : Kd.C k30 w A0 l0.length l0) (hc0 : l0.length ≤ c0) (h : manifest_run.f k l0 = some (r1, r2, r3)) :
  Calls Tryz.prog 51 #[.slice A0 l0.length c0] w fun e w' => ∃ v0_ v1_ : Value,e = .returned (.agg #[v0_,v1_,.int .i64 r3]) ∧ Kd.R (Kd.int .i64) 3 w' w.heap.size (fun k_ => some k_ ≠ (v1_ : Value).ownBlock) v0_ r1 ∧ Kd.R (Kd.int .i64) 3 w' w.heap.size (fun k_ => some k_ ≠ (v0_ : Value).ownBlock) v1_ r2 ∧ Below w.heap.size w w' := by
 have hu46 := Tryz.underlying46
 have hu30 := Tryz.underlying30
 have HR0 := aK hr0
 have HC0 := aK hc0
 clear hr0 hc0
 have HB := aK (Below.refl w.heap.size w)
 have H : (manifest_run.l0 k l0 (l0.length : Int) 0 ([] : List Int) ([] : List Int) 0) = some (r1,r2,r3) := h
 clear h
 have H' := aK H
 clear H
 go_enter Tryz.func51,Tryz.ntmps51
 go_wp2_with (first|((with_reducible refine gate_dst (N := 2) rfl ?_);refine box_event ?hg (N := 2) ?hd (cs := #[.slice none 0 0,.slice none 0 0,.int .i64 0]) (t := 46) ?hr ?_;(case hd => rfl);(case hg => rfl);(case hr => first|(go_simp;done)|(go_simp;rfl));intro gb350 hg w2 hbox hb;have BK350 := aK (hbox);have GW350 := aK ((by rw [hg];exact (below_size (bM HB.out)) : w.heap.size ≤ gb350));have GJ350 := Ge.mk GW350.out;have GE350 := aK ((by rw [hg];exact (below_size (bM HB.out)) : w.heap.size ≤ gb350));have GI350 := Ge.mk GE350.out;replace HB := aK (below_step (bM HB.out) hb);clear hb hbox hg)|((with_reducible refine gate_dst (N := 3) rfl ?_);refine box_event ?hg (N := 3) ?hd (cs := #[.slice none 0 0,.slice none 0 0,.int .i64 0]) (t := 46) ?hr ?_;(case hd => rfl);(case hg => rfl);(case hr => first|(go_simp;done)|(go_simp;rfl));intro gb351 hg w3 hbox hb;have BK351 := aK (hbox);have GW351 := aK ((by rw [hg];exact (below_size (bG HB.out)) : w.heap.size ≤ gb351));have GJ351 := Ge.mk GW351.out;have GE351 := aK ((by rw [hg];exact (below_size (bG HB.out)) : w.heap.size ≤ gb351));have GI351 := Ge.mk GE351.out;replace HB := aK (below_step (bG HB.out) hb);have NB350_351 := aK (nbL BK350.out hg);have NB351_350 := aK (nbR BK350.out hg);replace BK350 := aK (blk_below (kM BK350.out) hb);clear hb hbox hg;have hnb4 := NB351_350.out;have hnc4 := NB350_351.out;obtain ⟨hcz5_0,hcz5_1,hcz5_2,hfz5_0,hfz5_1,hfz5_2⟩ := bk3_ BK351.out))
 go_loopg [9] k (fun kq v9 w' => ∃ (x9_1 : Int) (x352000_1 : List Int) (x352001_1 : List Int) (x352002_1 : Int) (u352000 : Value) (u352001 : Value),v9 = .int .i64 x9_1 ∧ Aside0 (manifest_run.l0 kq l0 (l0.length : Int) x9_1 x352000_1 x352001_1 x352002_1 = some (r1,r2,r3)) ∧ Aside0 (kq ≤ k) ∧ Aside0 (Kd.R (Kd.int .i64) 3 w' w.heap.size (fun k_ => some k_ ≠ (u352001 : Value).ownBlock) u352000 x352000_1) ∧ Aside0 (Kd.R (Kd.int .i64) 3 w' w.heap.size (fun k_ => some k_ ≠ (u352000 : Value).ownBlock) u352001 x352001_1) ∧ Aside0 (w'.heap[gb350]? = some (.cells #[(.slice none 0 0),(.slice none 0 0),.int .i64 0] 46 (0,0))) ∧ Aside0 (w'.heap[gb351]? = some (.cells #[u352000,u352001,.int .i64 x352002_1] 46 (0,0))) ∧ Aside0 (Below w.heap.size w w'))
 case atStart => exact ⟨(0),(([] : List Int)),(([] : List Int)),(0),(.slice none 0 0),(.slice none 0 0),(by first|rfl|(simp;done)|(simp [*];done)),H',⟨Nat.le_refl _⟩,⟨by first|exact Kd.R_nil _ _ _ _ _|exact Kd.N_nil _ _ _ _ _|exact Kd.V_nil _ _ _ _ _|exact Kd.Q_nil _ _ _ _ _|exact Kd.S_nil _ _ _ _ _⟩,⟨by first|exact Kd.R_nil _ _ _ _ _|exact Kd.N_nil _ _ _ _ _|exact Kd.V_nil _ _ _ _ _|exact Kd.Q_nil _ _ _ _ _|exact Kd.S_nil _ _ _ _ _⟩,⟨by (with_reducible repeat (first|refine blk_drewN ?_ _|refine blk_drew ?_|refine blk_alloc ?_ _));refine blk_far ?_ NB350_351.out _;(with_reducible repeat (first|refine blk_drewN ?_ _|refine blk_drew ?_|refine blk_alloc ?_ _));refine blk_far ?_ NB350_351.out _;(with_reducible repeat (first|refine blk_drewN ?_ _|refine blk_drew ?_|refine blk_alloc ?_ _));refine blk_far ?_ NB350_351.out _;(with_reducible repeat (first|refine blk_drewN ?_ _|refine blk_drew ?_|refine blk_alloc ?_ _));exact BK350.out⟩,⟨by (with_reducible repeat (first|refine blk_drewN ?_ _|refine blk_drew ?_|refine blk_alloc ?_ _));refine blk_put (cs := #[.slice none 0 0,.slice none 0 0,.int .i64 0]) ?_ 2 _ rfl;(with_reducible repeat (first|refine blk_drewN ?_ _|refine blk_drew ?_|refine blk_alloc ?_ _));refine blk_put (cs := #[.slice none 0 0,.slice none 0 0,.int .i64 0]) ?_ 1 _ rfl;(with_reducible repeat (first|refine blk_drewN ?_ _|refine blk_drew ?_|refine blk_alloc ?_ _));refine blk_put (cs := #[.slice none 0 0,.slice none 0 0,.int .i64 0]) ?_ 0 _ rfl;(with_reducible repeat (first|refine blk_drewN ?_ _|refine blk_drew ?_|refine blk_alloc ?_ _));exact BK351.out⟩,⟨bG HB.out⟩⟩
 case round =>
  clear H'
  try clear p2
  try clear hcz5_0
  try clear hcz5_1
  try clear hcz5_2
  try clear hfz5_0
  try clear hfz5_1
  try clear hfz5_2
  obtain ⟨x9_1,x352000_1,x352001_1,x352002_1,u352000,u352001,rfl,HA,HK1,HO_352000,HO_352001,BK350,BK351,HB⟩ := hrel
  cases gk with
 |zero => exact absurd HA.out (by simp [manifest_run.l0])
 |succ k1 =>
   have H := HA.out
   clear HA
   simp only [manifest_run.l0] at H
   by_cases c6 : x9_1 < (l0.length : Int)
   ·rw [if_pos c6] at H
    have c6b0 := decide_eq_true c6
    clear c6
    obtain ⟨c7,H⟩ := iS H
    have c7b0 := decide_eq_true c7
    clear c7
    obtain ⟨c8,H⟩ := iS H
    have c8b0 := decide_eq_true c8
    clear c8
    replace H := Option.bind_eq_some_iff.mp H
    obtain ⟨⟨t354,t357,t360⟩,A90,H⟩ := H
    replace H : (manifest_run.l0 k1 l0 (l0.length : Int) (wrap64 (x9_1 + 1)) t354 t357 t360) = some (r1,r2,r3) := H
    have A9 := aK A90
    clear A90
    have H' := aK H
    clear H
    have p352 : 0 ≤ (x9_1 : Int) := of_decide_eq_true (by assumption)
    have q352 : x9_1 < (l0.length : Int) := of_decide_eq_true (by assumption)
    obtain ⟨ad352,A352_3,c352_3,A352_4,c352_4,A352_5,c352_5,e352,hx352_0,hx352_1,hx352_2,hx352_3,hx352_4,hx352_5,hl352_3,hi352_3,hl352_4,hi352_4,hl352_5,hi352_5⟩ := at_T30 HR0.out x9_1 p352 q352
    cases e352
    replace hx352_0 := xM HB hx352_0
    replace hx352_1 := xM HB hx352_1
    replace hx352_2 := xM HB hx352_2
    replace hx352_3 := xM HB hx352_3
    replace hx352_4 := xM HB hx352_4
    replace hx352_5 := xM HB hx352_5
    have HR352_3 := aK hi352_3
    have HC352_3 := aK hl352_3
    clear hi352_3 hl352_3
    have HR352_4 := aK hi352_4
    have HC352_4 := aK hl352_4
    clear hi352_4 hl352_4
    have HR352_5 := aK hi352_5
    have HC352_5 := aK hl352_5
    clear hi352_5 hl352_5
    replace p352 := eq_true p352
    replace q352 := eq_true q352
    go_wp2_with (first|((with_reducible refine gate_dst (N := 5) rfl ?_);refine box_event ?hg (N := 5) ?hd (cs := #[.int .i64 0,.int .i64 0,.int .i64 0,.slice none 0 0,.slice none 0 0,.slice none 0 0]) (t := 30) ?hr ?_;(case hd => rfl);(case hg => rfl);(case hr => first|(go_simp;done)|(go_simp;rfl));intro gb353 hg w10 hbox hb;replace HO_352000 := aK (Kd.R_below (rM HO_352000.out) hb);replace HO_352001 := aK (Kd.R_below (rM HO_352001.out) hb);have BK353 := aK (hbox);have GW353 := aK ((by rw [hg];exact (below_size (bG HB.out)) : w.heap.size ≤ gb353));have GJ353 := Ge.mk GW353.out;have GE353 := aK ((by rw [hg];exact (below_size (bG HB.out)) : w.heap.size ≤ gb353));have GI353 := Ge.mk GE353.out;replace HB := aK (below_step (bG HB.out) hb);have NB350_353 := aK (nbL BK350.out hg);have NB353_350 := aK (nbR BK350.out hg);replace BK350 := aK (blk_below (kM BK350.out) hb);have NB351_353 := aK (nbL BK351.out hg);have NB353_351 := aK (nbR BK351.out hg);replace BK351 := aK (blk_below (kM BK351.out) hb);clear hb hbox hg;have hnb11 := NB353_350.out;have hnc11 := NB350_353.out;have hnb12 := NB353_351.out;have hnc12 := NB351_353.out;obtain ⟨_,_,_,_,_,_,_,_,_,_,_,_⟩ := bk6_ BK353.out)|((with_reducible refine gate_store (t := 30) (p := 5) rfl ?_);refine store_event (t := 30) (p := 5) (v := ?vo_w14) (w1 := ((((((w10.setCell ⟨gb353,0,none⟩ (.int .i64 ((rd_T30 l0 x9_1).f0))).setCell ⟨gb353,1,none⟩ (.int .i64 ((rd_T30 l0 x9_1).f1))).setCell ⟨gb353,2,none⟩ (.int .i64 ((rd_T30 l0 x9_1).f2))).setCell ⟨gb353,3,none⟩ (.slice A352_3 ((rd_T30 l0 x9_1).f3).length c352_3)).setCell ⟨gb353,4,none⟩ (.slice A352_4 ((rd_T30 l0 x9_1).f4).length c352_4)).setCell ⟨gb353,5,none⟩ (.slice A352_5 ((rd_T30 l0 x9_1).f5).length c352_5))) ?hg ?ho ?hn ?hr ?_;(case ho => rfl);(case hg => rfl);(case hn => rfl);(case hr => first|(go_simp;done)|(go_simp;rfl));intro w14 hw;have n0_ : Aside0 (Kd.R (Kd.int .i64) 3 w14 w.heap.size (fun k_ => some k_ ≠ (u352001 : Value).ownBlock) u352000 x352000_1) := ⟨(by rw [hw];exact (by (with_reducible repeat (first|apply Kd.R_alloc|apply Kd.R_drewN|apply Kd.R_drew));exact Kd.R_mono (Kd.R_far (p := ⟨gb353,5,none⟩) (Kd.R_far (p := ⟨gb353,4,none⟩) (Kd.R_far (p := ⟨gb353,3,none⟩) (Kd.R_far (p := ⟨gb353,2,none⟩) (Kd.R_far (p := ⟨gb353,1,none⟩) (Kd.R_far (p := ⟨gb353,0,none⟩) (Kd.R_types HO_352000.out BK353.out (by decide)) (fun _ hk => hk.2) (.int .i64 ((rd_T30 l0 x9_1).f0))) (fun _ hk => hk.2) (.int .i64 ((rd_T30 l0 x9_1).f1))) (fun _ hk => hk.2) (.int .i64 ((rd_T30 l0 x9_1).f2))) (fun _ hk => hk.2) (.slice A352_3 ((rd_T30 l0 x9_1).f3).length c352_3)) (fun _ hk => hk.2) (.slice A352_4 ((rd_T30 l0 x9_1).f4).length c352_4)) (fun _ hk => hk.2) (.slice A352_5 ((rd_T30 l0 x9_1).f5).length c352_5)) (fun _ hk => hk.1)))⟩;have n1_ : Aside0 (Kd.R (Kd.int .i64) 3 w14 w.heap.size (fun k_ => some k_ ≠ (u352000 : Value).ownBlock) u352001 x352001_1) := ⟨(by rw [hw];exact (by (with_reducible repeat (first|apply Kd.R_alloc|apply Kd.R_drewN|apply Kd.R_drew));exact Kd.R_mono (Kd.R_far (p := ⟨gb353,5,none⟩) (Kd.R_far (p := ⟨gb353,4,none⟩) (Kd.R_far (p := ⟨gb353,3,none⟩) (Kd.R_far (p := ⟨gb353,2,none⟩) (Kd.R_far (p := ⟨gb353,1,none⟩) (Kd.R_far (p := ⟨gb353,0,none⟩) (Kd.R_types HO_352001.out BK353.out (by decide)) (fun _ hk => hk.2) (.int .i64 ((rd_T30 l0 x9_1).f0))) (fun _ hk => hk.2) (.int .i64 ((rd_T30 l0 x9_1).f1))) (fun _ hk => hk.2) (.int .i64 ((rd_T30 l0 x9_1).f2))) (fun _ hk => hk.2) (.slice A352_3 ((rd_T30 l0 x9_1).f3).length c352_3)) (fun _ hk => hk.2) (.slice A352_4 ((rd_T30 l0 x9_1).f4).length c352_4)) (fun _ hk => hk.2) (.slice A352_5 ((rd_T30 l0 x9_1).f5).length c352_5)) (fun _ hk => hk.1)))⟩;have n2_ : Aside0 (w14.heap[gb350]? = some (.cells #[.slice none 0 0,.slice none 0 0,.int .i64 0] 46 (0,0))) := ⟨(by rw [hw];exact (by (with_reducible repeat (first|refine blk_drewN ?_ _|refine blk_drew ?_|refine blk_alloc ?_ _));refine blk_far ?_ NB350_353.out _;(with_reducible repeat (first|refine blk_drewN ?_ _|refine blk_drew ?_|refine blk_alloc ?_ _));refine blk_far ?_ NB350_353.out _;(with_reducible repeat (first|refine blk_drewN ?_ _|refine blk_drew ?_|refine blk_alloc ?_ _));refine blk_far ?_ NB350_353.out _;(with_reducible repeat (first|refine blk_drewN ?_ _|refine blk_drew ?_|refine blk_alloc ?_ _));refine blk_far ?_ NB350_353.out _;(with_reducible repeat (first|refine blk_drewN ?_ _|refine blk_drew ?_|refine blk_alloc ?_ _));refine blk_far ?_ NB350_353.out _;(with_reducible repeat (first|refine blk_drewN ?_ _|refine blk_drew ?_|refine blk_alloc ?_ _));refine blk_far ?_ NB350_353.out _;(with_reducible repeat (first|refine blk_drewN ?_ _|refine blk_drew ?_|refine blk_alloc ?_ _));exact BK350.out))⟩;have n3_ : Aside0 (w14.heap[gb351]? = some (.cells #[u352000,u352001,.int .i64 x352002_1] 46 (0,0))) := ⟨(by rw [hw];exact (by (with_reducible repeat (first|refine blk_drewN ?_ _|refine blk_drew ?_|refine blk_alloc ?_ _));refine blk_far ?_ NB351_353.out _;(with_reducible repeat (first|refine blk_drewN ?_ _|refine blk_drew ?_|refine blk_alloc ?_ _));refine blk_far ?_ NB351_353.out _;(with_reducible repeat (first|refine blk_drewN ?_ _|refine blk_drew ?_|refine blk_alloc ?_ _));refine blk_far ?_ NB351_353.out _;(with_reducible repeat (first|refine blk_drewN ?_ _|refine blk_drew ?_|refine blk_alloc ?_ _));refine blk_far ?_ NB351_353.out _;(with_reducible repeat (first|refine blk_drewN ?_ _|refine blk_drew ?_|refine blk_alloc ?_ _));refine blk_far ?_ NB351_353.out _;(with_reducible repeat (first|refine blk_drewN ?_ _|refine blk_drew ?_|refine blk_alloc ?_ _));refine blk_far ?_ NB351_353.out _;(with_reducible repeat (first|refine blk_drewN ?_ _|refine blk_drew ?_|refine blk_alloc ?_ _));exact BK351.out))⟩;have n4_ : Aside0 (w14.heap[gb353]? = some (.cells #[.int .i64 ((rd_T30 l0 x9_1).f0),.int .i64 ((rd_T30 l0 x9_1).f1),.int .i64 ((rd_T30 l0 x9_1).f2),.slice A352_3 ((rd_T30 l0 x9_1).f3).length c352_3,.slice A352_4 ((rd_T30 l0 x9_1).f4).length c352_4,.slice A352_5 ((rd_T30 l0 x9_1).f5).length c352_5] 30 (0,0))) := ⟨(by rw [hw];exact (by (with_reducible repeat (first|refine blk_drewN ?_ _|refine blk_drew ?_|refine blk_alloc ?_ _));refine blk_put (cs := #[.int .i64 ((rd_T30 l0 x9_1).f0),.int .i64 ((rd_T30 l0 x9_1).f1),.int .i64 ((rd_T30 l0 x9_1).f2),.slice A352_3 ((rd_T30 l0 x9_1).f3).length c352_3,.slice A352_4 ((rd_T30 l0 x9_1).f4).length c352_4,.slice none 0 0]) ?_ 5 _ rfl;(with_reducible repeat (first|refine blk_drewN ?_ _|refine blk_drew ?_|refine blk_alloc ?_ _));refine blk_put (cs := #[.int .i64 ((rd_T30 l0 x9_1).f0),.int .i64 ((rd_T30 l0 x9_1).f1),.int .i64 ((rd_T30 l0 x9_1).f2),.slice A352_3 ((rd_T30 l0 x9_1).f3).length c352_3,.slice none 0 0,.slice none 0 0]) ?_ 4 _ rfl;(with_reducible repeat (first|refine blk_drewN ?_ _|refine blk_drew ?_|refine blk_alloc ?_ _));refine blk_put (cs := #[.int .i64 ((rd_T30 l0 x9_1).f0),.int .i64 ((rd_T30 l0 x9_1).f1),.int .i64 ((rd_T30 l0 x9_1).f2),.slice none 0 0,.slice none 0 0,.slice none 0 0]) ?_ 3 _ rfl;(with_reducible repeat (first|refine blk_drewN ?_ _|refine blk_drew ?_|refine blk_alloc ?_ _));refine blk_put (cs := #[.int .i64 ((rd_T30 l0 x9_1).f0),.int .i64 ((rd_T30 l0 x9_1).f1),.int .i64 0,.slice none 0 0,.slice none 0 0,.slice none 0 0]) ?_ 2 _ rfl;(with_reducible repeat (first|refine blk_drewN ?_ _|refine blk_drew ?_|refine blk_alloc ?_ _));refine blk_put (cs := #[.int .i64 ((rd_T30 l0 x9_1).f0),.int .i64 0,.int .i64 0,.slice none 0 0,.slice none 0 0,.slice none 0 0]) ?_ 1 _ rfl;(with_reducible repeat (first|refine blk_drewN ?_ _|refine blk_drew ?_|refine blk_alloc ?_ _));refine blk_put (cs := #[.int .i64 0,.int .i64 0,.int .i64 0,.slice none 0 0,.slice none 0 0,.slice none 0 0]) ?_ 0 _ rfl;(with_reducible repeat (first|refine blk_drewN ?_ _|refine blk_drew ?_|refine blk_alloc ?_ _));exact BK353.out))⟩;have n5_ : Aside0 (Below w.heap.size w w14) := ⟨(by rw [hw];exact (bG HB.out))⟩;clear hw;clear HO_352000;clear HO_352001;clear BK350;clear BK351;clear BK353;clear HB;have HO_352000 := n0_;have HO_352001 := n1_;have BK350 := n2_;have BK351 := n3_;have BK353 := n4_;have HB := n5_;clear n0_ n1_ n2_ n3_ n4_ n5_;have hnb15 := NB351_350.out;have hnc15 := NB350_351.out;obtain ⟨_,_,_,_,_,_⟩ := bk3_ BK351.out;obtain ⟨_,_,_,_,_,_,_,_,_,_,_,_⟩ := bk6_ BK353.out;obtain ⟨Ao18,co18,eo18⟩ := Kd.R_slice HO_352000.out;subst eo18;obtain ⟨Ao19,co19,eo19⟩ := Kd.R_slice HO_352001.out;subst eo19)|((with_reducible refine gate_callee (f := 25) rfl ?_);refine goesL_ (some 15) rfl rfl Tryz.func25 (by kernel_rfl) rfl #[.agg #[.slice Ao18 x352000_1.length co18,.slice Ao19 x352001_1.length co19,.int .i64 x352002_1],.agg #[.int .i64 ((rd_T30 l0 x9_1).f0),.int .i64 ((rd_T30 l0 x9_1).f1),.int .i64 ((rd_T30 l0 x9_1).f2),.slice A352_3 ((rd_T30 l0 x9_1).f3).length c352_3,.slice A352_4 ((rd_T30 l0 x9_1).f4).length c352_4,.slice A352_5 ((rd_T30 l0 x9_1).f5).length c352_5]] rfl (by (try simp only [List.map_toArray,List.map_cons,List.map_nil]);first|done|rfl|(simp only [List.length_drop,List.length_take];rfl)) ?_;(with_reducible refine (manifest_state_after.calls k1 (fun k_ => some k_ = (.slice Ao18 x352000_1.length co18 : Value).ownBlock) (.slice Ao18 x352000_1.length co18) x352000_1 (fun k_ => some k_ = (.slice Ao19 x352001_1.length co19 : Value).ownBlock) (.slice Ao19 x352001_1.length co19) x352001_1 x352002_1 ((rd_T30 l0 x9_1).f0) ((rd_T30 l0 x9_1).f1) ((rd_T30 l0 x9_1).f2) (fun k_ => k_ < w.heap.size) _ _ ((rd_T30 l0 x9_1).f3) _ _ ((rd_T30 l0 x9_1).f4) _ _ ((rd_T30 l0 x9_1).f5) t354 t357 t360 w _ ?side1 ?side2 ?side3 ?side4 ?side5 ?side6 ?side7 ?side8 ?side9 ?side10 A9.out).mono ?_);(case side1 => repeat (first|(with_reducible first|exact HB.out|apply below_alloc|apply pw_below_drewN|apply below_drew1|refine below_set ?_ GE350.out|refine below_set ?_ GE351.out|refine below_set ?_ GE353.out)|exact HB.out));(case side2 => exact Kd.R_tight rfl HO_352000.out);(case side3 => exact fun k_ e_ => (HO_352000.out.1 k_ e_.symm));(case side4 => exact Kd.R_tight rfl HO_352001.out);(case side5 => exact fun k_ e_ => (HO_352001.out.1 k_ e_.symm));(case side6 => exact Kd.V_mono (Kd.V_mk HC352_3.out (Kd.F_below (Kd.C_F (Kd.heap_int .i64) HR352_3.out) (bG HB.out))) (fun k_ hk_ => ⟨hk_,fun e_ => Nat.not_le.2 hk_ (Kd.R_base HO_352000.out k_ e_.symm),fun e_ => Nat.not_le.2 hk_ (Kd.R_base HO_352001.out k_ e_.symm)⟩));(case side7 => exact Kd.C_kept_came (Kd.heap_int .i64) HR352_4.out (bG HB.out) (fun k_ hs_ => Or.elim hs_ (fun e_ => (fun e_ => Kd.R_base HO_352000.out k_ e_.symm) e_) (fun e_ => (fun e_ => Kd.R_base HO_352001.out k_ e_.symm) e_)));(case side8 => exact HC352_4.out);(case side9 => exact Kd.C_kept_came Kd.heap_string HR352_5.out (bG HB.out) (fun k_ hs_ => Or.elim hs_ (fun e_ => (fun e_ => Kd.R_base HO_352000.out k_ e_.symm) e_) (fun e_ => (fun e_ => Kd.R_base HO_352001.out k_ e_.symm) e_)));(case side10 => exact HC352_5.out);rintro e w20 ⟨v355,v358,rfl,ho0,ho1,hb,hkp⟩;refine ⟨_,rfl,?_⟩;replace BK350 := aK (blk_kept (kM BK350.out) hkp (fun hs_ => Or.elim hs_ (fun e_ => (fun e_ => (Kd.R_ne HO_352000.out BK350.out (by decide)) e_) e_) (fun e_ => (fun e_ => (Kd.R_ne HO_352001.out BK350.out (by decide)) e_) e_)));replace BK351 := aK (blk_kept (kM BK351.out) hkp (fun hs_ => Or.elim hs_ (fun e_ => (fun e_ => (Kd.R_ne HO_352000.out BK351.out (by decide)) e_) e_) (fun e_ => (fun e_ => (Kd.R_ne HO_352001.out BK351.out (by decide)) e_) e_)));have HO356 := aK (Kd.R_mono (ok' := fun k_ => some k_ ≠ (v358 : Value).ownBlock) ho0 (fun k_ hk_ => hk_.2));have HO359 := aK (Kd.R_mono (ok' := fun k_ => some k_ ≠ (v355 : Value).ownBlock) ho1 (fun k_ hk_ => hk_.2));replace HB := aK (hb);(try clear hb);(try clear hkp);(try clear ho0);(try clear ho1);obtain ⟨Ao21,co21,eo21⟩ := Kd.R_slice HO356.out;subst eo21;obtain ⟨_,_,_,_,_,_⟩ := bk3_ BK351.out;obtain ⟨Ao23,co23,eo23⟩ := Kd.R_slice HO359.out;subst eo23))
    go_roundg k1
    case measure => have := HK1.out;omega
    case rel => exact ⟨(wrap64 (x9_1 + 1)),(t354),(t357),(t360),(.slice Ao21 t354.length co21),(.slice Ao23 t357.length co23),(by first|rfl|(simp;done)|(simp [*];done)),H',⟨by have := HK1.out;omega⟩,⟨by (with_reducible repeat (first|apply Kd.R_alloc|apply Kd.R_drewN|apply Kd.R_drew));exact Kd.R_mono (Kd.R_far (p := ⟨gb351,2,none⟩) (Kd.R_far (p := ⟨gb351,1,none⟩) (Kd.R_far (p := ⟨gb351,0,none⟩) (Kd.R_types HO356.out BK351.out (by decide)) (fun _ hk => hk.2) (.slice Ao21 t354.length co21)) (fun _ hk => hk.2) (.slice Ao23 t357.length co23)) (fun _ hk => hk.2) (.int .i64 t360)) (fun _ hk => hk.1)⟩,⟨by (with_reducible repeat (first|apply Kd.R_alloc|apply Kd.R_drewN|apply Kd.R_drew));exact Kd.R_mono (Kd.R_far (p := ⟨gb351,2,none⟩) (Kd.R_far (p := ⟨gb351,1,none⟩) (Kd.R_far (p := ⟨gb351,0,none⟩) (Kd.R_types HO359.out BK351.out (by decide)) (fun _ hk => hk.2) (.slice Ao21 t354.length co21)) (fun _ hk => hk.2) (.slice Ao23 t357.length co23)) (fun _ hk => hk.2) (.int .i64 t360)) (fun _ hk => hk.1)⟩,⟨by (with_reducible repeat (first|refine blk_drewN ?_ _|refine blk_drew ?_|refine blk_alloc ?_ _));refine blk_far ?_ NB350_351.out _;(with_reducible repeat (first|refine blk_drewN ?_ _|refine blk_drew ?_|refine blk_alloc ?_ _));refine blk_far ?_ NB350_351.out _;(with_reducible repeat (first|refine blk_drewN ?_ _|refine blk_drew ?_|refine blk_alloc ?_ _));refine blk_far ?_ NB350_351.out _;(with_reducible repeat (first|refine blk_drewN ?_ _|refine blk_drew ?_|refine blk_alloc ?_ _));exact BK350.out⟩,⟨by (with_reducible repeat (first|refine blk_drewN ?_ _|refine blk_drew ?_|refine blk_alloc ?_ _));refine blk_put (cs := #[.slice Ao21 t354.length co21,.slice Ao23 t357.length co23,.int .i64 x352002_1]) ?_ 2 _ rfl;(with_reducible repeat (first|refine blk_drewN ?_ _|refine blk_drew ?_|refine blk_alloc ?_ _));refine blk_put (cs := #[.slice Ao21 t354.length co21,.slice Ao19 x352001_1.length co19,.int .i64 x352002_1]) ?_ 1 _ rfl;(with_reducible repeat (first|refine blk_drewN ?_ _|refine blk_drew ?_|refine blk_alloc ?_ _));refine blk_put (cs := #[.slice Ao18 x352000_1.length co18,.slice Ao19 x352001_1.length co19,.int .i64 x352002_1]) ?_ 0 _ rfl;(with_reducible repeat (first|refine blk_drewN ?_ _|refine blk_drew ?_|refine blk_alloc ?_ _));exact BK351.out⟩,⟨bG HB.out⟩⟩
   ·rw [if_neg c6] at H
    have c6b0 := decide_eq_false c6
    clear c6
    simp only [Option.some.injEq,Prod.mk.injEq] at H
    obtain ⟨rfl,rfl,rfl⟩ := H
    have hnb24 := NB351_350.out
    have hnc24 := NB350_351.out
    obtain ⟨_,_,_,_,_,_⟩ := bk3_ BK351.out
    obtain ⟨Ao26,co26,eo26⟩ := Kd.R_slice HO_352000.out
    subst eo26
    obtain ⟨_,_,_,_,_,_⟩ := bk3_ BK350.out
    obtain ⟨Ao28,co28,eo28⟩ := Kd.R_slice HO_352001.out
    subst eo28
    go_wp2
    refine bodyPost_ret (results_cell_row rfl _ _ gb350 46 #[.slice Ao26 x352000_1.length co26,.slice Ao28 x352001_1.length co28,.int .i64 x352002_1] (0,0) _ rfl (by (with_reducible repeat (first|refine blk_drewN ?_ _|refine blk_drew ?_|refine blk_alloc ?_ _));refine blk_put (cs := #[.slice Ao26 x352000_1.length co26,.slice Ao28 x352001_1.length co28,.int .i64 0]) ?_ 2 _ rfl;(with_reducible repeat (first|refine blk_drewN ?_ _|refine blk_drew ?_|refine blk_alloc ?_ _));refine blk_put (cs := #[.slice Ao26 x352000_1.length co26,.slice none 0 0,.int .i64 0]) ?_ 1 _ rfl;(with_reducible repeat (first|refine blk_drewN ?_ _|refine blk_drew ?_|refine blk_alloc ?_ _));refine blk_put (cs := #[.slice none 0 0,.slice none 0 0,.int .i64 0]) ?_ 0 _ rfl;(with_reducible repeat (first|refine blk_drewN ?_ _|refine blk_drew ?_|refine blk_alloc ?_ _));exact BK350.out) Tryz.underlying46 rfl (by kernel_rfl)) rfl ?_
    exact ⟨_,_,by first|rfl|(simp [errW_none,errW_some] <;> rfl)|(simp [*,errW_none,errW_some] <;> rfl),by (with_reducible repeat (first|apply Kd.R_alloc|apply Kd.R_drewN|apply Kd.R_drew));exact Kd.R_mono (Kd.R_far (p := ⟨gb350,2,none⟩) (Kd.R_far (p := ⟨gb350,1,none⟩) (Kd.R_far (p := ⟨gb350,0,none⟩) (Kd.R_types HO_352000.out BK350.out (by decide)) (fun _ hk => hk.2) (.slice Ao26 x352000_1.length co26)) (fun _ hk => hk.2) (.slice Ao28 x352001_1.length co28)) (fun _ hk => hk.2) (.int .i64 x352002_1)) (fun _ hk => hk.1),by (with_reducible repeat (first|apply Kd.R_alloc|apply Kd.R_drewN|apply Kd.R_drew));exact Kd.R_mono (Kd.R_far (p := ⟨gb350,2,none⟩) (Kd.R_far (p := ⟨gb350,1,none⟩) (Kd.R_far (p := ⟨gb350,0,none⟩) (Kd.R_types HO_352001.out BK350.out (by decide)) (fun _ hk => hk.2) (.slice Ao26 x352000_1.length co26)) (fun _ hk => hk.2) (.slice Ao28 x352001_1.length co28)) (fun _ hk => hk.2) (.int .i64 x352002_1)) (fun _ hk => hk.1),bG HB.out⟩

/-! ### manifest_Live: function 22 -/
def manifest_Live.f (k : Nat) (l0 : List (S30)) : Option (List Int) := (manifest_run.f k l0).bind fun bt361 => (some bt361.1)
theorem manifest_Live.mono : ∀ a0 k, LeO (manifest_Live.f k a0) (manifest_Live.f (k + 1) a0) := by
 intro a0 k
 unfold manifest_Live.f
 repeat' first
  |(with_reducible exact manifest_run.mono _ _)
  |(with_reducible exact LeO.refl _)
  |(with_reducible exact LeO.none _)
  |(with_reducible refine LeO.ite ?_ ?_)
  |(with_reducible refine LeO.bind ?_ (fun _ => ?_))
  |exact manifest_run.mono _ _
  |exact LeO.none _
  |refine LeO.ite ?_ ?_
  |refine LeO.bind ?_ (fun _ => ?_)
set_option maxHeartbeats 4000000 in
set_option maxRecDepth 100000 in
theorem manifest_Live.calls (k : Nat) (A0 : Option Addr) (c0 : Nat) (l0 : List (S30)) (r : List Int) (w : World) (hr0 : Kd.C k30 w A0 l0.length l0) (hc0 : l0.length ≤ c0) (h : manifest_Live.f k l0 = some r) :
  Calls Tryz.prog 22 #[.slice A0 l0.length c0] w fun e w' => ∃ v0_ : Value,e = .returned (v0_) ∧ Kd.R (Kd.int .i64) 3 w' w.heap.size (fun _ => True) v0_ r ∧ Below w.heap.size w w' := by
 have hfld46_0_ := fun (x0_ x1_ x2_ : Value) (w_ : World) => (show (Instr.field 46 (.agg #[x0_,x1_,x2_]) 0).run Tryz.prog w_ = .ok x0_ w_ by simp [Instr.field,run_underlying Tryz.underlying46,part,isAgg,run_underlying Tryz.underlying27,asAgg,Result.andThen])
 have HR0 := aK hr0
 have HC0 := aK hc0
 clear hr0 hc0
 have HB := aK (Below.refl w.heap.size w)
 have H : ((manifest_run.f k l0).bind fun bt361 => (some bt361.1)) = some r := h
 clear h
 replace H := Option.bind_eq_some_iff.mp H
 obtain ⟨⟨t361,t364,t367⟩,A20,H⟩ := H
 replace H : (some t361) = some r := H
 have A2 := aK A20
 clear A20
 obtain rfl := Option.some.inj H
 go_enter Tryz.func22,Tryz.ntmps22
 go_wp2_with (first|((with_reducible refine gate_callee (f := 51) rfl ?_);refine goesL_ (some 4) rfl rfl Tryz.func51 (by kernel_rfl) rfl #[.slice A0 l0.length c0] rfl (by (try simp only [List.map_toArray,List.map_cons,List.map_nil]);first|done|rfl|(simp only [List.length_drop,List.length_take];rfl)) ?_;(with_reducible refine (manifest_run.calls k _ _ l0 t361 t364 t367 _ ?side1 ?side2 A2.out).mono ?_);(case side1 => exact cM HR0.out);(case side2 => exact HC0.out);rintro e w3 ⟨v362,v365,rfl,ho0,ho1,hb⟩;refine ⟨_,rfl,?_⟩;have HO363 := aK (Kd.R_lower ho0 (below_size (bM HB.out)));replace HB := aK (below_step (bM HB.out) hb);(try clear hb);(try clear hk);(try clear ho0);(try clear ho1)))
 go_ret
 exact ⟨_,by first|rfl|(simp [errW_none,errW_some] <;> rfl)|(simp [*,errW_none,errW_some] <;> rfl),rM (Kd.R_mono HO363.out (fun _ hk => trivial)),bM HB.out⟩

/-! ### manifest_Dead: function 23 -/
def manifest_Dead.f (k : Nat) (l0 : List (S30)) : Option (List Int) := (manifest_run.f k l0).bind fun bt368 => (some bt368.2.1)
theorem manifest_Dead.mono : ∀ a0 k, LeO (manifest_Dead.f k a0) (manifest_Dead.f (k + 1) a0) := by
 intro a0 k
 unfold manifest_Dead.f
 repeat' first
  |(with_reducible exact manifest_run.mono _ _)
  |(with_reducible exact LeO.refl _)
  |(with_reducible exact LeO.none _)
  |(with_reducible refine LeO.ite ?_ ?_)
  |(with_reducible refine LeO.bind ?_ (fun _ => ?_))
  |exact manifest_run.mono _ _
  |exact LeO.none _
  |refine LeO.ite ?_ ?_
  |refine LeO.bind ?_ (fun _ => ?_)
set_option maxHeartbeats 4000000 in
set_option maxRecDepth 100000 in
theorem manifest_Dead.calls (k : Nat) (A0 : Option Addr) (c0 : Nat) (l0 : List (S30)) (r : List Int) (w : World) (hr0 : Kd.C k30 w A0 l0.length l0) (hc0 : l0.length ≤ c0) (h : manifest_Dead.f k l0 = some r) :
  Calls Tryz.prog 23 #[.slice A0 l0.length c0] w fun e w' => ∃ v0_ : Value,e = .returned (v0_) ∧ Kd.R (Kd.int .i64) 3 w' w.heap.size (fun _ => True) v0_ r ∧ Below w.heap.size w w' := by
 have hfld46_1_ := fun (x0_ x1_ x2_ : Value) (w_ : World) => (show (Instr.field 46 (.agg #[x0_,x1_,x2_]) 1).run Tryz.prog w_ = .ok x1_ w_ by simp [Instr.field,run_underlying Tryz.underlying46,part,isAgg,run_underlying Tryz.underlying27,asAgg,Result.andThen])
 have HR0 := aK hr0
 have HC0 := aK hc0
 clear hr0 hc0
 have HB := aK (Below.refl w.heap.size w)
 have H : ((manifest_run.f k l0).bind fun bt368 => (some bt368.2.1)) = some r := h
 clear h
 replace H := Option.bind_eq_some_iff.mp H
 obtain ⟨⟨t368,t371,t374⟩,A20,H⟩ := H
 replace H : (some t371) = some r := H
 have A2 := aK A20
 clear A20
 obtain rfl := Option.some.inj H
 go_enter Tryz.func23,Tryz.ntmps23
 go_wp2_with (first|((with_reducible refine gate_callee (f := 51) rfl ?_);refine goesL_ (some 4) rfl rfl Tryz.func51 (by kernel_rfl) rfl #[.slice A0 l0.length c0] rfl (by (try simp only [List.map_toArray,List.map_cons,List.map_nil]);first|done|rfl|(simp only [List.length_drop,List.length_take];rfl)) ?_;(with_reducible refine (manifest_run.calls k _ _ l0 t368 t371 t374 _ ?side1 ?side2 A2.out).mono ?_);(case side1 => exact cM HR0.out);(case side2 => exact HC0.out);rintro e w3 ⟨v369,v372,rfl,ho0,ho1,hb⟩;refine ⟨_,rfl,?_⟩;have HO373 := aK (Kd.R_lower ho1 (below_size (bM HB.out)));replace HB := aK (below_step (bM HB.out) hb);(try clear hb);(try clear hk);(try clear ho0);(try clear ho1)))
 go_ret
 exact ⟨_,by first|rfl|(simp [errW_none,errW_some] <;> rfl)|(simp [*,errW_none,errW_some] <;> rfl),rM (Kd.R_mono HO373.out (fun _ hk => trivial)),bM HB.out⟩

end Go.Proofs.YtmgliocboeifdaaGreatDoor.R
