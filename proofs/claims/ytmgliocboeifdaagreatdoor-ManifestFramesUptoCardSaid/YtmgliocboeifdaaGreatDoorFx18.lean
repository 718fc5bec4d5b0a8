import Derived.Test.YtmgliocboeifdaaGreatDoorFx0
import Derived.Test.YtmgliocboeifdaaGreatDoorFx17
namespace Go.Proofs.YtmgliocboeifdaaGreatDoor.F
open Go.RowKit Go.Proofs.YtmgliocboeifdaaGreatDoorW.PrintWords Go.Proofs.YtmgliocboeifdaaGreatDoorW.PrintLast Go.Proofs.YtmgliocboeifdaaGreatDoorW.PrintMore
attribute [local go_sem] max2_int min2_int max_two min_two max_three min_three max_four min_four
set_option linter.unusedVariables false
set_option linter.unusedSimpArgs false
mutual
def r03_PutList.l0 : Nat → List Int → List Int → Int → Option (List Int × Int)
|0,_,_,_ => none
|k + 1,x0,x1,x6 => if x6 < (x1.length : Int) then (if 0 ≤ x6 then (if (rd x1 x6) < 0 then (some (([] : List Int),1)) else (if x6 > 0 then (if 0 ≤ (wrap64 (x6 - 1)) then (if (wrap64 (x6 - 1)) < (x1.length : Int) then (if (rd x1 x6) ≤ (rd x1 (wrap64 (x6 - 1))) then (some (([] : List Int),1)) else (r03_PutList.l0 k x0 x1 (wrap64 (x6 + 1)))) else (none)) else (none)) else (r03_PutList.l0 k x0 x1 (wrap64 (x6 + 1))))) else (none)) else ((r03_Put.f k x0 (x1.length : Int)).bind fun aa => (r03_PutList.l1 k x1 aa 0))
def r03_PutList.l1 : Nat → List Int → List Int → Int → Option (List Int × Int)
|0,_,_,_ => none
|k + 1,x1,x7,x8 => if x8 < (x1.length : Int) then (if x8 = 0 then (if 0 ≤ x8 then ((r03_Put.f k x7 (rd x1 x8)).bind fun aa => (r03_PutList.l1 k x1 aa (wrap64 (x8 + 1)))) else (none)) else (if 0 ≤ x8 then (if 0 ≤ (wrap64 (x8 - 1)) then (if (wrap64 (x8 - 1)) < (x1.length : Int) then ((r03_Put.f k x7 (wrap64 ((rd x1 x8) - (rd x1 (wrap64 (x8 - 1)))))).bind fun ab => (r03_PutList.l1 k x1 ab (wrap64 (x8 + 1)))) else (none)) else (none)) else (none))) else (some (x7,0))
end
def r03_PutList.f (k : Nat) (l0 : List Int) (l1 : List Int) : Option (List Int × Int) := r03_PutList.l0 k l0 l1 0
theorem r03_PutList.mono_l : ∀ k, (∀ y0 y1 y2, LeO (r03_PutList.l0 k y0 y1 y2) (r03_PutList.l0 (k + 1) y0 y1 y2)) ∧ (∀ y0 y1 y2, LeO (r03_PutList.l1 k y0 y1 y2) (r03_PutList.l1 (k + 1) y0 y1 y2))
|0 => ⟨fun _ _ _ r h => by simp [r03_PutList.l0] at h,fun _ _ _ r h => by simp [r03_PutList.l1] at h⟩
|k + 1 => by
  obtain ⟨ih0,ih1⟩ := r03_PutList.mono_l k
  refine ⟨?_,?_⟩
  ·intro y0 y1 y2
   unfold r03_PutList.l0
   repeat' (with_reducible first|exact ih0 _ _ _|exact ih1 _ _ _|exact r03_Put.mono _ _ _|exact LeO.refl _|exact LeO.none _|refine LeO.ite ?_ ?_|refine LeO.bind ?_ (fun _ => ?_))
  ·intro y0 y1 y2
   unfold r03_PutList.l1
   repeat' (with_reducible first|exact ih1 _ _ _|exact r03_Put.mono _ _ _|exact LeO.refl _|exact LeO.none _|refine LeO.ite ?_ ?_|refine LeO.bind ?_ (fun _ => ?_))
theorem r03_PutList.mono : ∀ a0 a1 k, LeO (r03_PutList.f k a0 a1) (r03_PutList.f (k + 1) a0 a1) := by
 intro a0 a1 k
 obtain ⟨ih0,ih1⟩ := r03_PutList.mono_l k
 unfold r03_PutList.f
 repeat' (with_reducible first|exact ih0 _ _ _|exact ih1 _ _ _|exact r03_Put.mono _ _ _|exact LeO.refl _|exact LeO.none _|refine LeO.ite ?_ ?_|refine LeO.bind ?_ (fun _ => ?_))
def r03_PutList.T4 : Bool × List (List Nat × List Nat) := (true, [([], []), ([], []), ([0, 1], [0, 1]), ([2], [2]), ([3], [3]), ([4], [4]), ([5], [5]), ([6, 5], [5, 6]), ([7, 5, 5], [5, 7]), ([8], [8]), ([8], [8]), ([9, 10, 8], [8, 9, 10]), ([11, 8], [8, 11]), ([8], [8]), ([8], [8]), ([14, 8], [8, 14]), ([13, 15, 8], [8, 13, 15]), ([16, 8], [8, 16]), ([12, 17, 8], [8, 12, 17]), ([8, 18, 5], [5, 8, 18]), ([5, 19], [5, 19])])
def r03_PutList.B4 : List Nat := [0, 0, 3, 7, 15, 31, 63, 127, 255, 511, 511, 2047, 4095, 511, 511, 16895, 57855, 123391, 262143, 524287, 1048575]
theorem r03_PutList.tab4 : rtab .any (opsOf Tryz.f61 4) = r03_PutList.T4 := by kernel_rfl
theorem r03_PutList.bits4 : waitsOk r03_PutList.T4.2 r03_PutList.B4 = true := by kernel_rfl
def r03_PutList.T12 : Bool × List (List Nat × List Nat) := (true, [([], []), ([], []), ([], []), ([1, 2], [1, 2]), ([3], [3]), ([], []), ([], []), ([6], [6]), ([5, 7], [5, 7]), ([8], [8]), ([4, 9], [4, 9]), ([0, 10], [0, 10]), ([11, 11, 0, 1, 2, 3, 4, 5, 6, 7, 8, 9, 10, 11], [0, 11])])
def r03_PutList.B12 : List Nat := [0, 0, 0, 6, 14, 0, 0, 64, 224, 480, 1022, 2047, 4095]
theorem r03_PutList.tab12 : rtab .any (opsOf Tryz.f61 12) = r03_PutList.T12 := by kernel_rfl
theorem r03_PutList.bits12 : waitsOk r03_PutList.T12.2 r03_PutList.B12 = true := by kernel_rfl
set_option maxHeartbeats 4000000 in
set_option maxRecDepth 100000 in
theorem r03_PutList.calls (k : Nat) (A0 : Option Addr) (c0 : Nat) (l0 : List Int) (A1 : Option Addr) (c1 : Nat) (l1 : List Int) (r1 : List Int) (r2 : Int) (w : World) (bs : Kd.C (Kd.int .u8) w A0 l0.length l0) (bu : l0.length ≤ c0) (bv : Kd.C (Kd.int .i64) w A1 l1.length l1) (bx : l1.length ≤ c1) (h : r03_PutList.f k l0 l1 = some (r1, r2)) :
  Calls Tryz.prog 61 #[.slice A0 l0.length c0,.slice A1 l1.length c1] w fun e w' => ∃ bz : Value,e = .returned (.tuple #[bz,.int .i64 r2]) ∧ Kd.R (Kd.int .u8) 5 w' w.heap.size (fun _ => True) bz r1 ∧ Below w.heap.size w w' := by
 have bP := aK bs
 have bQ := aK bu
 clear bs bu
 have aF := aK bv
 have b1 := aK bx
 clear bv bx
 have HB := aK (Below.refl w.heap.size w)
 have H : (r03_PutList.l0 k l0 l1 0) = some (r1,r2) := h
 clear h
 have H' := aK H
 clear H
 go_enter Tryz.func61,Tryz.ntmps61
 go_wp2
 go_loopg [6] k (fun kq v6 w' => ∃ (ab : Int),v6 = .int .i64 ab ∧ Aside0 (r03_PutList.l0 kq l0 l1 ab = some (r1,r2)) ∧ Aside0 (kq ≤ k) ∧ Aside0 (Below w.heap.size w w'))
 case atStart => exact ⟨(0),(by first|rfl|(simp;done)|(simp [*];done)),H',⟨Nat.le_refl _⟩,⟨bM HB.out⟩⟩
 case round =>
  clear H'
  try clear p2
  obtain ⟨ab,rfl,HA,aN,HB⟩ := hrel
  cases gk with
 |zero => exact absurd HA.out (by simp [r03_PutList.l0])
 |succ k1 =>
   have H := HA.out
   clear HA
   simp only [r03_PutList.l0] at H
   by_cases c3 : ab < (l1.length : Int)
   ·rw [if_pos c3] at H
    have aZ := decide_eq_true c3
    clear c3
    obtain ⟨c4,H⟩ := iS H
    have bR := decide_eq_true c4
    clear c4
    by_cases c5 : (rd l1 ab) < 0
    ·rw [if_pos c5] at H
     have bg := decide_eq_true c5
     clear c5
     simp only [Option.some.injEq,Prod.mk.injEq] at H
     obtain ⟨rfl,rfl⟩ := H
     try go_wp2
     have ar := aK (below_drew1 HB.out)
     clear HB
     have HB := ar
     clear ar
     have ai : 0 ≤ (ab : Int) := dA
     have aj : ab < (l1.length : Int) := dA
     obtain ⟨af,aB,aa⟩ := Kd.at_int aF.out ab ai aj
     have ac := aa
     cases aB
     replace aa := xM HB aa
     replace ai := eq_true ai
     replace aj := eq_true aj
     refine start_ (n := 21) (S := fun w' => w'.cell? (af.add (ab).toNat) = some (.int .i64 (rd l1 ab))) (ds := []) (bA 21 0) (by kernel_rfl) rfl rfl (((HB.out.cell (World.block_lt_of_cell? w _ ac)).trans ac)) (fun hHeld => ?_);refine with_tabW r03_PutList.tab4 r03_PutList.bits4 (fun HT_ HW_ => ?_)
     generalize wr.drew = w6 at HB aa hHeld ⊢
     refine pure_ (i := 0) (N := some 15) (v := ?_) (a' := ?_) (bA 21 1) rfl rfl (any_of HT_.out (by kernel_rfl)) (fun _ _ _ h => h) (Or.inl ⟨by rfl,?_⟩) ?_ ?_
     rotate_left
     ·intro w'
      go_simp
      with_reducible rfl
     rotate_left
     ·simp only [Act.put,z1_,z2_,z3_,i64_w,i32_w]
      rfl
     refine pure_ (i := 1) (N := some 16) (v := ?_) (a' := ?_) (bA 21 3) rfl rfl (any_of HT_.out (by kernel_rfl)) (fun _ _ _ h => h) (Or.inl ⟨by rfl,?_⟩) ?_ ?_
     rotate_left
     ·intro w'
      go_simp
      with_reducible rfl
     rotate_left
     ·simp only [Act.put,z1_,z2_,z3_,i64_w,i32_w]
      rfl
     refine pure_ (i := 2) (N := some 17) (v := ?_) (a' := ?_) (bA 21 7) rfl rfl (any_of HT_.out (by kernel_rfl)) (fun _ _ _ h => h) (Or.inl ⟨by rfl,?_⟩) ?_ ?_
     rotate_left
     ·intro w'
      go_simp
      with_reducible rfl
     rotate_left
     ·simp only [Act.put,z1_,z2_,z3_,i64_w,i32_w]
      rfl
     refine take_ (i := 3) (N := some 18) (v := ?_) (a' := ?_) (bA 21 15) rfl rfl (take_ofW HT_.out HW_.out (by kernel_rfl)) (fun _ _ _ h => h) (Or.inl ⟨by rfl,?_⟩) hHeld ?_ ?_
     rotate_left
     ·intro w' s0
      go_simp
      with_reducible rfl
     rotate_left
     ·simp only [Act.put,z1_,z2_,z3_,i64_w,i32_w]
      rfl
     refine pure_ (i := 4) (N := some 19) (v := ?_) (a' := ?_) (bA 21 31) rfl rfl (any_of HT_.out (by kernel_rfl)) (fun _ _ _ h => h) (Or.inl ⟨by rfl,?_⟩) ?_ ?_
     rotate_left
     ·intro w'
      go_simp
      with_reducible rfl
     rotate_left
     ·simp only [Act.put,z1_,z2_,z3_,i64_w,i32_w]
      rfl
     refine pure_ (i := 5) (N := some 20) (v := ?_) (a' := ?_) (bA 21 63) rfl rfl (any_of HT_.out (by kernel_rfl)) (fun _ _ _ h => h) (Or.inl ⟨by rfl,?_⟩) ?_ ?_
     rotate_left
     ·intro w'
      go_simp
      with_reducible rfl
     rotate_left
     ·simp only [Act.put,z1_,z2_,z3_,i64_w,i32_w]
      rfl
     refine pure_ (i := 6) (N := some 21) (v := undef) (a' := ?_) (bA 21 127) rfl rfl (any_of HT_.out (by kernel_rfl)) (fun _ _ _ h => h) (Or.inr ⟨by rfl,rfl⟩) ?_ ?_
     rotate_left
     ·simp only [Act.put,z1_,z2_,z3_,i64_w,i32_w]
      rfl
     refine pure_ (i := 7) (N := some 22) (v := undef) (a' := ?_) (bA 21 255) rfl rfl (any_of HT_.out (by kernel_rfl)) (fun _ _ _ h => h) (Or.inr ⟨by rfl,rfl⟩) ?_ ?_
     rotate_left
     ·simp only [Act.put,z1_,z2_,z3_,i64_w,i32_w]
      rfl
     refine pure_ (i := 8) (N := some 23) (v := undef) (a' := ?_) (bA 21 511) rfl rfl (any_of HT_.out (by kernel_rfl)) (fun _ _ _ h => h) (Or.inr ⟨by rfl,rfl⟩) ?_ ?_
     rotate_left
     ·simp only [Act.put,z1_,z2_,z3_,i64_w,i32_w]
      rfl
     refine pure_ (i := 9) (N := some 24) (v := undef) (a' := ?_) (bA 21 1023) rfl rfl (any_of HT_.out (by kernel_rfl)) (fun _ _ _ h => h) (Or.inr ⟨by rfl,rfl⟩) ?_ ?_
     rotate_left
     ·simp only [Act.put,z1_,z2_,z3_,i64_w,i32_w]
      rfl
     refine pure_ (i := 10) (N := some 25) (v := undef) (a' := ?_) (bA 21 2047) rfl rfl (any_of HT_.out (by kernel_rfl)) (fun _ _ _ h => h) (Or.inr ⟨by rfl,rfl⟩) ?_ ?_
     rotate_left
     ·simp only [Act.put,z1_,z2_,z3_,i64_w,i32_w]
      rfl
     refine pure_ (i := 11) (N := some 26) (v := undef) (a' := ?_) (bA 21 4095) rfl rfl (any_of HT_.out (by kernel_rfl)) (fun _ _ _ h => h) (Or.inr ⟨by rfl,rfl⟩) ?_ ?_
     rotate_left
     ·simp only [Act.put,z1_,z2_,z3_,i64_w,i32_w]
      rfl
     refine pure_ (i := 12) (N := some 27) (v := undef) (a' := ?_) (bA 21 8191) rfl rfl (any_of HT_.out (by kernel_rfl)) (fun _ _ _ h => h) (Or.inr ⟨by rfl,rfl⟩) ?_ ?_
     rotate_left
     ·simp only [Act.put,z1_,z2_,z3_,i64_w,i32_w]
      rfl
     refine pure_ (i := 13) (N := some 28) (v := undef) (a' := ?_) (bA 21 16383) rfl rfl (any_of HT_.out (by kernel_rfl)) (fun _ _ _ h => h) (Or.inr ⟨by rfl,rfl⟩) ?_ ?_
     rotate_left
     ·simp only [Act.put,z1_,z2_,z3_,i64_w,i32_w]
      rfl
     refine pure_ (i := 14) (N := some 29) (v := undef) (a' := ?_) (bA 21 32767) rfl rfl (any_of HT_.out (by kernel_rfl)) (fun _ _ _ h => h) (Or.inr ⟨by rfl,rfl⟩) ?_ ?_
     rotate_left
     ·simp only [Act.put,z1_,z2_,z3_,i64_w,i32_w]
      rfl
     refine pure_ (i := 15) (N := some 30) (v := undef) (a' := ?_) (bA 21 65535) rfl rfl (any_of HT_.out (by kernel_rfl)) (fun _ _ _ h => h) (Or.inr ⟨by rfl,rfl⟩) ?_ ?_
     rotate_left
     ·simp only [Act.put,z1_,z2_,z3_,i64_w,i32_w]
      rfl
     refine pure_ (i := 16) (N := some 31) (v := undef) (a' := ?_) (bA 21 131071) rfl rfl (any_of HT_.out (by kernel_rfl)) (fun _ _ _ h => h) (Or.inr ⟨by rfl,rfl⟩) ?_ ?_
     rotate_left
     ·simp only [Act.put,z1_,z2_,z3_,i64_w,i32_w]
      rfl
     refine pure_ (i := 17) (N := some 32) (v := undef) (a' := ?_) (bA 21 262143) rfl rfl (any_of HT_.out (by kernel_rfl)) (fun _ _ _ h => h) (Or.inr ⟨by rfl,rfl⟩) ?_ ?_
     rotate_left
     ·simp only [Act.put,z1_,z2_,z3_,i64_w,i32_w]
      rfl
     refine pure_ (i := 18) (N := some 33) (v := undef) (a' := ?_) (bA 21 524287) rfl rfl (any_of HT_.out (by kernel_rfl)) (fun _ _ _ h => h) (Or.inr ⟨by rfl,rfl⟩) ?_ ?_
     rotate_left
     ·simp only [Act.put,z1_,z2_,z3_,i64_w,i32_w]
      rfl
     refine pure_ (i := 19) (N := some 34) (v := undef) (a' := ?_) (bA 21 1048575) rfl rfl (any_of HT_.out (by kernel_rfl)) (fun _ _ _ h => h) (Or.inr ⟨by rfl,rfl⟩) ?_ ?_
     rotate_left
     ·simp only [Act.put,z1_,z2_,z3_,i64_w,i32_w]
      rfl
     refine pure_ (i := 20) (N := some 35) (v := ?_) (a' := ?_) (bA 21 2097151) rfl rfl (any_of HT_.out (by kernel_rfl)) (fun _ _ _ h => h) (Or.inl ⟨by rfl,?_⟩) ?_ ?_
     rotate_left
     ·intro w'
      go_simp
      with_reducible rfl
     rotate_left
     ·simp only [Act.put,z1_,z2_,z3_,i64_w,i32_w]
      rfl
     refine done_ (done_of HT_.out (by kernel_rfl)) ?_
     try go_wp2
     go_ret2
     exact ⟨_,by first|rfl|(simp [errW_none,errW_some] <;> rfl)|(simp [*,errW_none,errW_some] <;> rfl),by first|exact Kd.R_nil _ _ _ _ _|exact Kd.N_nil _ _ _ _ _|exact Kd.V_nil _ _ _ _ _|exact Kd.Q_nil _ _ _ _ _|exact Kd.S_nil _ _ _ _ _,bM HB.out⟩
    ·rw [if_neg c5] at H
     have bg := decide_eq_false c5
     clear c5
     by_cases c7 : ab > 0
     ·rw [if_pos c7] at H
      have bh := decide_eq_true c7
      clear c7
      obtain ⟨aC,aL⟩ : ∃ j_ : Int,(wrap64 (ab - 1)) = j_ := ⟨_,rfl⟩
      replace H : (if 0 ≤ (aC) then (if (aC) < (l1.length : Int) then (if (rd l1 ab) ≤ (rd l1 (aC)) then (some (([] : List Int),1)) else (r03_PutList.l0 k1 l0 l1 (wrap64 (ab + 1)))) else (none)) else (none)) = some (r1,r2) := by first|(rw [aL] at H;exact H)|(simp only [aL] at H ⊢;exact H)
      have bB : (IntKind.i64.wrap (ab - 1)) = aC := (i64_w _).trans aL
      obtain ⟨c9,H⟩ := iS H
      have bS := decide_eq_true c9
      clear c9
      obtain ⟨c10,H⟩ := iS H
      have bC := decide_eq_true c10
      clear c10
      by_cases aX : (rd l1 ab) ≤ (rd l1 (aC))
      ·rw [if_pos aX] at H
       have a0 := decide_eq_true aX
       clear aX
       simp only [Option.some.injEq,Prod.mk.injEq] at H
       obtain ⟨rfl,rfl⟩ := H
       try go_wp2
       have ar := aK (below_drew1 HB.out)
       clear HB
       have HB := ar
       clear ar
       have ai : 0 ≤ (ab : Int) := dA
       have aj : ab < (l1.length : Int) := dA
       obtain ⟨af,aB,aa⟩ := Kd.at_int aF.out ab ai aj
       have ac := aa
       cases aB
       replace aa := xM HB aa
       replace ai := eq_true ai
       replace aj := eq_true aj
       have au : 0 ≤ (ab : Int) := dA
       have av : ab < (l1.length : Int) := dA
       obtain ⟨aG,aO,ad⟩ := Kd.at_int aF.out ab au av
       have ak := ad
       obtain rfl : af = aG := (by injection aO)
       replace ad := xM HB ad
       replace au := eq_true au
       replace av := eq_true av
       have aw : 0 ≤ ((aC) : Int) := dA
       have ax : (aC) < (l1.length : Int) := dA
       obtain ⟨aH,aP,ae⟩ := Kd.at_int aF.out (aC) aw ax
       have al := ae
       obtain rfl : af = aH := (by injection aP)
       replace ae := xM HB ae
       replace aw := eq_true aw
       replace ax := eq_true ax
       refine start_ (n := 21) (S := fun w' => w'.cell? (af.add (ab).toNat) = some (.int .i64 (rd l1 ab)) ∧ w'.cell? (af.add (ab).toNat) = some (.int .i64 (rd l1 ab)) ∧ w'.cell? (af.add ((aC)).toNat) = some (.int .i64 (rd l1 (aC)))) (ds := []) (bA 21 0) (by kernel_rfl) rfl rfl ⟨((HB.out.cell (World.block_lt_of_cell? w _ ac)).trans ac),((HB.out.cell (World.block_lt_of_cell? w _ ak)).trans ak),((HB.out.cell (World.block_lt_of_cell? w _ al)).trans al)⟩ (fun hHeld => ?_);refine with_tabW r03_PutList.tab4 r03_PutList.bits4 (fun HT_ HW_ => ?_)
       generalize wr.drew = w12 at HB aa ad ae hHeld ⊢
       refine pure_ (i := 0) (N := some 15) (v := ?_) (a' := ?_) (bA 21 1) rfl rfl (any_of HT_.out (by kernel_rfl)) (fun _ _ _ h => h) (Or.inl ⟨by rfl,?_⟩) ?_ ?_
       rotate_left
       ·intro w'
        go_simp
        with_reducible rfl
       rotate_left
       ·simp only [Act.put,z1_,z2_,z3_,i64_w,i32_w]
        rfl
       refine pure_ (i := 1) (N := some 16) (v := ?_) (a' := ?_) (bA 21 3) rfl rfl (any_of HT_.out (by kernel_rfl)) (fun _ _ _ h => h) (Or.inl ⟨by rfl,?_⟩) ?_ ?_
       rotate_left
       ·intro w'
        go_simp
        with_reducible rfl
       rotate_left
       ·simp only [Act.put,z1_,z2_,z3_,i64_w,i32_w]
        rfl
       refine pure_ (i := 2) (N := some 17) (v := ?_) (a' := ?_) (bA 21 7) rfl rfl (any_of HT_.out (by kernel_rfl)) (fun _ _ _ h => h) (Or.inl ⟨by rfl,?_⟩) ?_ ?_
       rotate_left
       ·intro w'
        go_simp
        with_reducible rfl
       rotate_left
       ·simp only [Act.put,z1_,z2_,z3_,i64_w,i32_w]
        rfl
       refine take_ (i := 3) (N := some 18) (v := ?_) (a' := ?_) (bA 21 15) rfl rfl (take_ofW HT_.out HW_.out (by kernel_rfl)) (fun _ _ _ h => h) (Or.inl ⟨by rfl,?_⟩) hHeld ?_ ?_
       rotate_left
       ·rintro w' ⟨s0,s1,s2⟩
        go_simp
        with_reducible rfl
       rotate_left
       ·simp only [Act.put,z1_,z2_,z3_,i64_w,i32_w]
        rfl
       refine pure_ (i := 4) (N := some 19) (v := ?_) (a' := ?_) (bA 21 31) rfl rfl (any_of HT_.out (by kernel_rfl)) (fun _ _ _ h => h) (Or.inl ⟨by rfl,?_⟩) ?_ ?_
       rotate_left
       ·intro w'
        go_simp
        with_reducible rfl
       rotate_left
       ·simp only [Act.put,z1_,z2_,z3_,i64_w,i32_w]
        rfl
       refine pure_ (i := 5) (N := some 20) (v := ?_) (a' := ?_) (bA 21 63) rfl rfl (any_of HT_.out (by kernel_rfl)) (fun _ _ _ h => h) (Or.inl ⟨by rfl,?_⟩) ?_ ?_
       rotate_left
       ·intro w'
        go_simp
        with_reducible rfl
       rotate_left
       ·simp only [Act.put,z1_,z2_,z3_,i64_w,i32_w]
        rfl
       refine pure_ (i := 6) (N := some 21) (v := ?_) (a' := ?_) (bA 21 127) rfl rfl (any_of HT_.out (by kernel_rfl)) (fun _ _ _ h => h) (Or.inl ⟨by rfl,?_⟩) ?_ ?_
       rotate_left
       ·intro w'
        go_simp
        with_reducible rfl
       rotate_left
       ·simp only [Act.put,z1_,z2_,z3_,i64_w,i32_w]
        rfl
       refine pure_ (i := 7) (N := some 22) (v := ?_) (a' := ?_) (bA 21 255) rfl rfl (any_of HT_.out (by kernel_rfl)) (fun _ _ _ h => h) (Or.inl ⟨by rfl,?_⟩) ?_ ?_
       rotate_left
       ·intro w'
        go_simp
        with_reducible rfl
       rotate_left
       ·simp only [Act.put,z1_,z2_,z3_,i64_w,i32_w]
        rfl
       refine pure_ (i := 8) (N := some 23) (v := ?_) (a' := ?_) (bA 21 511) rfl rfl (any_of HT_.out (by kernel_rfl)) (fun _ _ _ h => h) (Or.inl ⟨by rfl,?_⟩) ?_ ?_
       rotate_left
       ·intro w'
        go_simp
        with_reducible rfl
       rotate_left
       ·simp only [Act.put,z1_,z2_,z3_,i64_w,i32_w]
        rfl
       refine pure_ (i := 9) (N := some 24) (v := ?_) (a' := ?_) (bA 21 1023) rfl rfl (any_of HT_.out (by kernel_rfl)) (fun _ _ _ h => h) (Or.inl ⟨by rfl,?_⟩) ?_ ?_
       rotate_left
       ·intro w'
        go_simp
        with_reducible rfl
       rotate_left
       ·simp only [Act.put,z1_,z2_,z3_,i64_w,i32_w]
        rfl
       refine pure_ (i := 10) (N := some 25) (v := ?_) (a' := ?_) (bA 21 2047) rfl rfl (any_of HT_.out (by kernel_rfl)) (fun _ _ _ h => h) (Or.inl ⟨by rfl,?_⟩) ?_ ?_
       rotate_left
       ·intro w'
        go_simp
        with_reducible rfl
       rotate_left
       ·simp only [Act.put,z1_,z2_,z3_,i64_w,i32_w]
        rfl
       refine pure_ (i := 11) (N := some 26) (v := ?_) (a' := ?_) (bA 21 4095) rfl rfl (any_of HT_.out (by kernel_rfl)) (fun _ _ _ h => h) (Or.inl ⟨by rfl,?_⟩) ?_ ?_
       rotate_left
       ·intro w'
        go_simp
        with_reducible rfl
       rotate_left
       ·simp only [Act.put,z1_,z2_,z3_,i64_w,i32_w]
        rfl
       refine pure_ (i := 13) (N := some 28) (v := ?_) (a' := ?_) (bA 21 12287) rfl rfl (any_of HT_.out (by kernel_rfl)) (fun _ _ _ h => h) (Or.inl ⟨by rfl,?_⟩) ?_ ?_
       rotate_left
       ·intro w'
        go_simp
        with_reducible rfl
       rotate_left
       ·simp only [Act.put,z1_,z2_,z3_,i64_w,i32_w]
        rfl
       refine pure_ (i := 14) (N := some 29) (v := ?_) (a' := ?_) (bA 21 28671) rfl rfl (any_of HT_.out (by kernel_rfl)) (fun _ _ _ h => h) (Or.inl ⟨by rfl,?_⟩) ?_ ?_
       rotate_left
       ·intro w'
        go_simp
        with_reducible rfl
       rotate_left
       ·simp only [Act.put,z1_,z2_,z3_,i64_w,i32_w]
        rfl
       refine pure_ (i := 15) (N := some 30) (v := ?_) (a' := ?_) (bA 21 61439) rfl rfl (any_of HT_.out (by kernel_rfl)) (fun _ _ _ h => h) (Or.inl ⟨by rfl,?_⟩) ?_ ?_
       rotate_left
       ·intro w'
        go_simp
        with_reducible rfl
       rotate_left
       ·simp only [Act.put,z1_,z2_,z3_,i64_w,i32_w]
        rfl
       refine pure_ (i := 16) (N := some 31) (v := ?_) (a' := ?_) (bA 21 126975) rfl rfl (any_of HT_.out (by kernel_rfl)) (fun _ _ _ h => h) (Or.inl ⟨by rfl,?_⟩) ?_ ?_
       rotate_left
       ·intro w'
        go_simp
        with_reducible rfl
       rotate_left
       ·simp only [Act.put,z1_,z2_,z3_,i64_w,i32_w]
        rfl
       refine take_ (i := 12) (N := some 27) (v := ?_) (a' := ?_) (bA 21 131071) rfl rfl (take_ofW HT_.out HW_.out (by kernel_rfl)) (fun _ _ _ h => h) (Or.inl ⟨by rfl,?_⟩) hHeld ?_ ?_
       rotate_left
       ·rintro w' ⟨s0,s1,s2⟩
        go_simp
        with_reducible rfl
       rotate_left
       ·simp only [Act.put,z1_,z2_,z3_,i64_w,i32_w]
        rfl
       refine take_ (i := 17) (N := some 32) (v := ?_) (a' := ?_) (bA 21 262143) rfl rfl (take_ofW HT_.out HW_.out (by kernel_rfl)) (fun _ _ _ h => h) (Or.inl ⟨by rfl,?_⟩) hHeld ?_ ?_
       rotate_left
       ·rintro w' ⟨s0,s1,s2⟩
        go_simp
        with_reducible rfl
       rotate_left
       ·simp only [Act.put,z1_,z2_,z3_,i64_w,i32_w]
        rfl
       refine pure_ (i := 18) (N := some 33) (v := ?_) (a' := ?_) (bA 21 524287) rfl rfl (any_of HT_.out (by kernel_rfl)) (fun _ _ _ h => h) (Or.inl ⟨by rfl,?_⟩) ?_ ?_
       rotate_left
       ·intro w'
        go_simp
        with_reducible rfl
       rotate_left
       ·simp only [Act.put,z1_,z2_,z3_,i64_w,i32_w]
        rfl
       refine pure_ (i := 19) (N := some 34) (v := ?_) (a' := ?_) (bA 21 1048575) rfl rfl (any_of HT_.out (by kernel_rfl)) (fun _ _ _ h => h) (Or.inl ⟨by rfl,?_⟩) ?_ ?_
       rotate_left
       ·intro w'
        go_simp
        with_reducible rfl
       rotate_left
       ·simp only [Act.put,z1_,z2_,z3_,i64_w,i32_w]
        rfl
       refine pure_ (i := 20) (N := some 35) (v := ?_) (a' := ?_) (bA 21 2097151) rfl rfl (any_of HT_.out (by kernel_rfl)) (fun _ _ _ h => h) (Or.inl ⟨by rfl,?_⟩) ?_ ?_
       rotate_left
       ·intro w'
        go_simp
        with_reducible rfl
       rotate_left
       ·simp only [Act.put,z1_,z2_,z3_,i64_w,i32_w]
        rfl
       refine done_ (done_of HT_.out (by kernel_rfl)) ?_
       try go_wp2
       go_ret2
       exact ⟨_,by first|rfl|(simp [errW_none,errW_some] <;> rfl)|(simp only [← aL];first|rfl|(simp [errW_none,errW_some] <;> rfl))|(simp [*,errW_none,errW_some] <;> rfl),by first|exact Kd.R_nil _ _ _ _ _|exact Kd.N_nil _ _ _ _ _|exact Kd.V_nil _ _ _ _ _|exact Kd.Q_nil _ _ _ _ _|exact Kd.S_nil _ _ _ _ _,bM HB.out⟩
      ·rw [if_neg aX] at H
       have a0 := decide_eq_false aX
       clear aX
       have H' := aK H
       clear H
       try go_wp2
       have ar := aK (below_drew1 HB.out)
       clear HB
       have HB := ar
       clear ar
       have ai : 0 ≤ (ab : Int) := dA
       have aj : ab < (l1.length : Int) := dA
       obtain ⟨af,aB,aa⟩ := Kd.at_int aF.out ab ai aj
       have ac := aa
       cases aB
       replace aa := xM HB aa
       replace ai := eq_true ai
       replace aj := eq_true aj
       have au : 0 ≤ (ab : Int) := dA
       have av : ab < (l1.length : Int) := dA
       obtain ⟨aG,aO,ad⟩ := Kd.at_int aF.out ab au av
       have ak := ad
       obtain rfl : af = aG := (by injection aO)
       replace ad := xM HB ad
       replace au := eq_true au
       replace av := eq_true av
       have aw : 0 ≤ ((aC) : Int) := dA
       have ax : (aC) < (l1.length : Int) := dA
       obtain ⟨aH,aP,ae⟩ := Kd.at_int aF.out (aC) aw ax
       have al := ae
       obtain rfl : af = aH := (by injection aP)
       replace ae := xM HB ae
       replace aw := eq_true aw
       replace ax := eq_true ax
       refine start_ (n := 21) (S := fun w' => w'.cell? (af.add (ab).toNat) = some (.int .i64 (rd l1 ab)) ∧ w'.cell? (af.add (ab).toNat) = some (.int .i64 (rd l1 ab)) ∧ w'.cell? (af.add ((aC)).toNat) = some (.int .i64 (rd l1 (aC)))) (ds := []) (bA 21 0) (by kernel_rfl) rfl rfl ⟨((HB.out.cell (World.block_lt_of_cell? w _ ac)).trans ac),((HB.out.cell (World.block_lt_of_cell? w _ ak)).trans ak),((HB.out.cell (World.block_lt_of_cell? w _ al)).trans al)⟩ (fun hHeld => ?_);refine with_tabW r03_PutList.tab4 r03_PutList.bits4 (fun HT_ HW_ => ?_)
       generalize wr.drew = w13 at HB aa ad ae hHeld ⊢
       refine pure_ (i := 0) (N := some 15) (v := ?_) (a' := ?_) (bA 21 1) rfl rfl (any_of HT_.out (by kernel_rfl)) (fun _ _ _ h => h) (Or.inl ⟨by rfl,?_⟩) ?_ ?_
       rotate_left
       ·intro w'
        go_simp
        with_reducible rfl
       rotate_left
       ·simp only [Act.put,z1_,z2_,z3_,i64_w,i32_w]
        rfl
       refine pure_ (i := 1) (N := some 16) (v := ?_) (a' := ?_) (bA 21 3) rfl rfl (any_of HT_.out (by kernel_rfl)) (fun _ _ _ h => h) (Or.inl ⟨by rfl,?_⟩) ?_ ?_
       rotate_left
       ·intro w'
        go_simp
        with_reducible rfl
       rotate_left
       ·simp only [Act.put,z1_,z2_,z3_,i64_w,i32_w]
        rfl
       refine pure_ (i := 2) (N := some 17) (v := ?_) (a' := ?_) (bA 21 7) rfl rfl (any_of HT_.out (by kernel_rfl)) (fun _ _ _ h => h) (Or.inl ⟨by rfl,?_⟩) ?_ ?_
       rotate_left
       ·intro w'
        go_simp
        with_reducible rfl
       rotate_left
       ·simp only [Act.put,z1_,z2_,z3_,i64_w,i32_w]
        rfl
       refine take_ (i := 3) (N := some 18) (v := ?_) (a' := ?_) (bA 21 15) rfl rfl (take_ofW HT_.out HW_.out (by kernel_rfl)) (fun _ _ _ h => h) (Or.inl ⟨by rfl,?_⟩) hHeld ?_ ?_
       rotate_left
       ·rintro w' ⟨s0,s1,s2⟩
        go_simp
        with_reducible rfl
       rotate_left
       ·simp only [Act.put,z1_,z2_,z3_,i64_w,i32_w]
        rfl
       refine pure_ (i := 4) (N := some 19) (v := ?_) (a' := ?_) (bA 21 31) rfl rfl (any_of HT_.out (by kernel_rfl)) (fun _ _ _ h => h) (Or.inl ⟨by rfl,?_⟩) ?_ ?_
       rotate_left
       ·intro w'
        go_simp
        with_reducible rfl
       rotate_left
       ·simp only [Act.put,z1_,z2_,z3_,i64_w,i32_w]
        rfl
       refine pure_ (i := 5) (N := some 20) (v := ?_) (a' := ?_) (bA 21 63) rfl rfl (any_of HT_.out (by kernel_rfl)) (fun _ _ _ h => h) (Or.inl ⟨by rfl,?_⟩) ?_ ?_
       rotate_left
       ·intro w'
        go_simp
        with_reducible rfl
       rotate_left
       ·simp only [Act.put,z1_,z2_,z3_,i64_w,i32_w]
        rfl
       refine pure_ (i := 6) (N := some 21) (v := ?_) (a' := ?_) (bA 21 127) rfl rfl (any_of HT_.out (by kernel_rfl)) (fun _ _ _ h => h) (Or.inl ⟨by rfl,?_⟩) ?_ ?_
       rotate_left
       ·intro w'
        go_simp
        with_reducible rfl
       rotate_left
       ·simp only [Act.put,z1_,z2_,z3_,i64_w,i32_w]
        rfl
       refine pure_ (i := 7) (N := some 22) (v := ?_) (a' := ?_) (bA 21 255) rfl rfl (any_of HT_.out (by kernel_rfl)) (fun _ _ _ h => h) (Or.inl ⟨by rfl,?_⟩) ?_ ?_
       rotate_left
       ·intro w'
        go_simp
        with_reducible rfl
       rotate_left
       ·simp only [Act.put,z1_,z2_,z3_,i64_w,i32_w]
        rfl
       refine pure_ (i := 8) (N := some 23) (v := ?_) (a' := ?_) (bA 21 511) rfl rfl (any_of HT_.out (by kernel_rfl)) (fun _ _ _ h => h) (Or.inl ⟨by rfl,?_⟩) ?_ ?_
       rotate_left
       ·intro w'
        go_simp
        with_reducible rfl
       rotate_left
       ·simp only [Act.put,z1_,z2_,z3_,i64_w,i32_w]
        rfl
       refine pure_ (i := 9) (N := some 24) (v := ?_) (a' := ?_) (bA 21 1023) rfl rfl (any_of HT_.out (by kernel_rfl)) (fun _ _ _ h => h) (Or.inl ⟨by rfl,?_⟩) ?_ ?_
       rotate_left
       ·intro w'
        go_simp
        with_reducible rfl
       rotate_left
       ·simp only [Act.put,z1_,z2_,z3_,i64_w,i32_w]
        rfl
       refine pure_ (i := 10) (N := some 25) (v := ?_) (a' := ?_) (bA 21 2047) rfl rfl (any_of HT_.out (by kernel_rfl)) (fun _ _ _ h => h) (Or.inl ⟨by rfl,?_⟩) ?_ ?_
       rotate_left
       ·intro w'
        go_simp
        with_reducible rfl
       rotate_left
       ·simp only [Act.put,z1_,z2_,z3_,i64_w,i32_w]
        rfl
       refine pure_ (i := 11) (N := some 26) (v := ?_) (a' := ?_) (bA 21 4095) rfl rfl (any_of HT_.out (by kernel_rfl)) (fun _ _ _ h => h) (Or.inl ⟨by rfl,?_⟩) ?_ ?_
       rotate_left
       ·intro w'
        go_simp
        with_reducible rfl
       rotate_left
       ·simp only [Act.put,z1_,z2_,z3_,i64_w,i32_w]
        rfl
       refine pure_ (i := 13) (N := some 28) (v := ?_) (a' := ?_) (bA 21 12287) rfl rfl (any_of HT_.out (by kernel_rfl)) (fun _ _ _ h => h) (Or.inl ⟨by rfl,?_⟩) ?_ ?_
       rotate_left
       ·intro w'
        go_simp
        with_reducible rfl
       rotate_left
       ·simp only [Act.put,z1_,z2_,z3_,i64_w,i32_w]
        rfl
       refine pure_ (i := 14) (N := some 29) (v := ?_) (a' := ?_) (bA 21 28671) rfl rfl (any_of HT_.out (by kernel_rfl)) (fun _ _ _ h => h) (Or.inl ⟨by rfl,?_⟩) ?_ ?_
       rotate_left
       ·intro w'
        go_simp
        with_reducible rfl
       rotate_left
       ·simp only [Act.put,z1_,z2_,z3_,i64_w,i32_w]
        rfl
       refine pure_ (i := 15) (N := some 30) (v := ?_) (a' := ?_) (bA 21 61439) rfl rfl (any_of HT_.out (by kernel_rfl)) (fun _ _ _ h => h) (Or.inl ⟨by rfl,?_⟩) ?_ ?_
       rotate_left
       ·intro w'
        go_simp
        with_reducible rfl
       rotate_left
       ·simp only [Act.put,z1_,z2_,z3_,i64_w,i32_w]
        rfl
       refine pure_ (i := 16) (N := some 31) (v := ?_) (a' := ?_) (bA 21 126975) rfl rfl (any_of HT_.out (by kernel_rfl)) (fun _ _ _ h => h) (Or.inl ⟨by rfl,?_⟩) ?_ ?_
       rotate_left
       ·intro w'
        go_simp
        with_reducible rfl
       rotate_left
       ·simp only [Act.put,z1_,z2_,z3_,i64_w,i32_w]
        rfl
       refine take_ (i := 12) (N := some 27) (v := ?_) (a' := ?_) (bA 21 131071) rfl rfl (take_ofW HT_.out HW_.out (by kernel_rfl)) (fun _ _ _ h => h) (Or.inl ⟨by rfl,?_⟩) hHeld ?_ ?_
       rotate_left
       ·rintro w' ⟨s0,s1,s2⟩
        go_simp
        with_reducible rfl
       rotate_left
       ·simp only [Act.put,z1_,z2_,z3_,i64_w,i32_w]
        rfl
       refine take_ (i := 17) (N := some 32) (v := ?_) (a' := ?_) (bA 21 262143) rfl rfl (take_ofW HT_.out HW_.out (by kernel_rfl)) (fun _ _ _ h => h) (Or.inl ⟨by rfl,?_⟩) hHeld ?_ ?_
       rotate_left
       ·rintro w' ⟨s0,s1,s2⟩
        go_simp
        with_reducible rfl
       rotate_left
       ·simp only [Act.put,z1_,z2_,z3_,i64_w,i32_w]
        rfl
       refine pure_ (i := 18) (N := some 33) (v := ?_) (a' := ?_) (bA 21 524287) rfl rfl (any_of HT_.out (by kernel_rfl)) (fun _ _ _ h => h) (Or.inl ⟨by rfl,?_⟩) ?_ ?_
       rotate_left
       ·intro w'
        go_simp
        with_reducible rfl
       rotate_left
       ·simp only [Act.put,z1_,z2_,z3_,i64_w,i32_w]
        rfl
       refine pure_ (i := 19) (N := some 34) (v := ?_) (a' := ?_) (bA 21 1048575) rfl rfl (any_of HT_.out (by kernel_rfl)) (fun _ _ _ h => h) (Or.inl ⟨by rfl,?_⟩) ?_ ?_
       rotate_left
       ·intro w'
        go_simp
        with_reducible rfl
       rotate_left
       ·simp only [Act.put,z1_,z2_,z3_,i64_w,i32_w]
        rfl
       refine pure_ (i := 20) (N := some 35) (v := ?_) (a' := ?_) (bA 21 2097151) rfl rfl (any_of HT_.out (by kernel_rfl)) (fun _ _ _ h => h) (Or.inl ⟨by rfl,?_⟩) ?_ ?_
       rotate_left
       ·intro w'
        go_simp
        with_reducible rfl
       rotate_left
       ·simp only [Act.put,z1_,z2_,z3_,i64_w,i32_w]
        rfl
       refine done_ (done_of HT_.out (by kernel_rfl)) ?_
       try go_wp2
       go_roundg k1
       case measure => have := aN.out;omega
       case rel => exact ⟨(wrap64 (ab + 1)),(by first|rfl|(simp;done)|(simp [*];done)),H',⟨by have := aN.out;omega⟩,⟨bM HB.out⟩⟩
     ·rw [if_neg c7] at H
      have bh := decide_eq_false c7
      clear c7
      have H' := aK H
      clear H
      try go_wp2
      have ar := aK (below_drew1 HB.out)
      clear HB
      have HB := ar
      clear ar
      have ai : 0 ≤ (ab : Int) := dA
      have aj : ab < (l1.length : Int) := dA
      obtain ⟨af,aB,aa⟩ := Kd.at_int aF.out ab ai aj
      have ac := aa
      cases aB
      replace aa := xM HB aa
      replace ai := eq_true ai
      replace aj := eq_true aj
      refine start_ (n := 21) (S := fun w' => w'.cell? (af.add (ab).toNat) = some (.int .i64 (rd l1 ab))) (ds := []) (bA 21 0) (by kernel_rfl) rfl rfl (((HB.out.cell (World.block_lt_of_cell? w _ ac)).trans ac)) (fun hHeld => ?_);refine with_tabW r03_PutList.tab4 r03_PutList.bits4 (fun HT_ HW_ => ?_)
      generalize wr.drew = w14 at HB aa hHeld ⊢
      refine pure_ (i := 0) (N := some 15) (v := ?_) (a' := ?_) (bA 21 1) rfl rfl (any_of HT_.out (by kernel_rfl)) (fun _ _ _ h => h) (Or.inl ⟨by rfl,?_⟩) ?_ ?_
      rotate_left
      ·intro w'
       go_simp
       with_reducible rfl
      rotate_left
      ·simp only [Act.put,z1_,z2_,z3_,i64_w,i32_w]
       rfl
      refine pure_ (i := 1) (N := some 16) (v := ?_) (a' := ?_) (bA 21 3) rfl rfl (any_of HT_.out (by kernel_rfl)) (fun _ _ _ h => h) (Or.inl ⟨by rfl,?_⟩) ?_ ?_
      rotate_left
      ·intro w'
       go_simp
       with_reducible rfl
      rotate_left
      ·simp only [Act.put,z1_,z2_,z3_,i64_w,i32_w]
       rfl
      refine pure_ (i := 2) (N := some 17) (v := ?_) (a' := ?_) (bA 21 7) rfl rfl (any_of HT_.out (by kernel_rfl)) (fun _ _ _ h => h) (Or.inl ⟨by rfl,?_⟩) ?_ ?_
      rotate_left
      ·intro w'
       go_simp
       with_reducible rfl
      rotate_left
      ·simp only [Act.put,z1_,z2_,z3_,i64_w,i32_w]
       rfl
      refine take_ (i := 3) (N := some 18) (v := ?_) (a' := ?_) (bA 21 15) rfl rfl (take_ofW HT_.out HW_.out (by kernel_rfl)) (fun _ _ _ h => h) (Or.inl ⟨by rfl,?_⟩) hHeld ?_ ?_
      rotate_left
      ·intro w' s0
       go_simp
       with_reducible rfl
      rotate_left
      ·simp only [Act.put,z1_,z2_,z3_,i64_w,i32_w]
       rfl
      refine pure_ (i := 4) (N := some 19) (v := ?_) (a' := ?_) (bA 21 31) rfl rfl (any_of HT_.out (by kernel_rfl)) (fun _ _ _ h => h) (Or.inl ⟨by rfl,?_⟩) ?_ ?_
      rotate_left
      ·intro w'
       go_simp
       with_reducible rfl
      rotate_left
      ·simp only [Act.put,z1_,z2_,z3_,i64_w,i32_w]
       rfl
      refine pure_ (i := 5) (N := some 20) (v := ?_) (a' := ?_) (bA 21 63) rfl rfl (any_of HT_.out (by kernel_rfl)) (fun _ _ _ h => h) (Or.inl ⟨by rfl,?_⟩) ?_ ?_
      rotate_left
      ·intro w'
       go_simp
       with_reducible rfl
      rotate_left
      ·simp only [Act.put,z1_,z2_,z3_,i64_w,i32_w]
       rfl
      refine pure_ (i := 6) (N := some 21) (v := ?_) (a' := ?_) (bA 21 127) rfl rfl (any_of HT_.out (by kernel_rfl)) (fun _ _ _ h => h) (Or.inl ⟨by rfl,?_⟩) ?_ ?_
      rotate_left
      ·intro w'
       go_simp
       with_reducible rfl
      rotate_left
      ·simp only [Act.put,z1_,z2_,z3_,i64_w,i32_w]
       rfl
      refine pure_ (i := 7) (N := some 22) (v := ?_) (a' := ?_) (bA 21 255) rfl rfl (any_of HT_.out (by kernel_rfl)) (fun _ _ _ h => h) (Or.inl ⟨by rfl,?_⟩) ?_ ?_
      rotate_left
      ·intro w'
       go_simp
       with_reducible rfl
      rotate_left
      ·simp only [Act.put,z1_,z2_,z3_,i64_w,i32_w]
       rfl
      refine pure_ (i := 8) (N := some 23) (v := ?_) (a' := ?_) (bA 21 511) rfl rfl (any_of HT_.out (by kernel_rfl)) (fun _ _ _ h => h) (Or.inl ⟨by rfl,?_⟩) ?_ ?_
      rotate_left
      ·intro w'
       go_simp
       with_reducible rfl
      rotate_left
      ·simp only [Act.put,z1_,z2_,z3_,i64_w,i32_w]
       rfl
      refine pure_ (i := 9) (N := some 24) (v := undef) (a' := ?_) (bA 21 1023) rfl rfl (any_of HT_.out (by kernel_rfl)) (fun _ _ _ h => h) (Or.inr ⟨by rfl,rfl⟩) ?_ ?_
      rotate_left
      ·simp only [Act.put,z1_,z2_,z3_,i64_w,i32_w]
       rfl
      refine pure_ (i := 10) (N := some 25) (v := undef) (a' := ?_) (bA 21 2047) rfl rfl (any_of HT_.out (by kernel_rfl)) (fun _ _ _ h => h) (Or.inr ⟨by rfl,rfl⟩) ?_ ?_
      rotate_left
      ·simp only [Act.put,z1_,z2_,z3_,i64_w,i32_w]
       rfl
      refine pure_ (i := 11) (N := some 26) (v := undef) (a' := ?_) (bA 21 4095) rfl rfl (any_of HT_.out (by kernel_rfl)) (fun _ _ _ h => h) (Or.inr ⟨by rfl,rfl⟩) ?_ ?_
      rotate_left
      ·simp only [Act.put,z1_,z2_,z3_,i64_w,i32_w]
       rfl
      refine pure_ (i := 12) (N := some 27) (v := undef) (a' := ?_) (bA 21 8191) rfl rfl (any_of HT_.out (by kernel_rfl)) (fun _ _ _ h => h) (Or.inr ⟨by rfl,rfl⟩) ?_ ?_
      rotate_left
      ·simp only [Act.put,z1_,z2_,z3_,i64_w,i32_w]
       rfl
      refine pure_ (i := 13) (N := some 28) (v := undef) (a' := ?_) (bA 21 16383) rfl rfl (any_of HT_.out (by kernel_rfl)) (fun _ _ _ h => h) (Or.inr ⟨by rfl,rfl⟩) ?_ ?_
      rotate_left
      ·simp only [Act.put,z1_,z2_,z3_,i64_w,i32_w]
       rfl
      refine pure_ (i := 14) (N := some 29) (v := undef) (a' := ?_) (bA 21 32767) rfl rfl (any_of HT_.out (by kernel_rfl)) (fun _ _ _ h => h) (Or.inr ⟨by rfl,rfl⟩) ?_ ?_
      rotate_left
      ·simp only [Act.put,z1_,z2_,z3_,i64_w,i32_w]
       rfl
      refine pure_ (i := 15) (N := some 30) (v := undef) (a' := ?_) (bA 21 65535) rfl rfl (any_of HT_.out (by kernel_rfl)) (fun _ _ _ h => h) (Or.inr ⟨by rfl,rfl⟩) ?_ ?_
      rotate_left
      ·simp only [Act.put,z1_,z2_,z3_,i64_w,i32_w]
       rfl
      refine pure_ (i := 16) (N := some 31) (v := undef) (a' := ?_) (bA 21 131071) rfl rfl (any_of HT_.out (by kernel_rfl)) (fun _ _ _ h => h) (Or.inr ⟨by rfl,rfl⟩) ?_ ?_
      rotate_left
      ·simp only [Act.put,z1_,z2_,z3_,i64_w,i32_w]
       rfl
      refine pure_ (i := 17) (N := some 32) (v := undef) (a' := ?_) (bA 21 262143) rfl rfl (any_of HT_.out (by kernel_rfl)) (fun _ _ _ h => h) (Or.inr ⟨by rfl,rfl⟩) ?_ ?_
      rotate_left
      ·simp only [Act.put,z1_,z2_,z3_,i64_w,i32_w]
       rfl
      refine pure_ (i := 18) (N := some 33) (v := undef) (a' := ?_) (bA 21 524287) rfl rfl (any_of HT_.out (by kernel_rfl)) (fun _ _ _ h => h) (Or.inr ⟨by rfl,rfl⟩) ?_ ?_
      rotate_left
      ·simp only [Act.put,z1_,z2_,z3_,i64_w,i32_w]
       rfl
      refine pure_ (i := 19) (N := some 34) (v := ?_) (a' := ?_) (bA 21 1048575) rfl rfl (any_of HT_.out (by kernel_rfl)) (fun _ _ _ h => h) (Or.inl ⟨by rfl,?_⟩) ?_ ?_
      rotate_left
      ·intro w'
       go_simp
       with_reducible rfl
      rotate_left
      ·simp only [Act.put,z1_,z2_,z3_,i64_w,i32_w]
       rfl
      refine pure_ (i := 20) (N := some 35) (v := ?_) (a' := ?_) (bA 21 2097151) rfl rfl (any_of HT_.out (by kernel_rfl)) (fun _ _ _ h => h) (Or.inl ⟨by rfl,?_⟩) ?_ ?_
      rotate_left
      ·intro w'
       go_simp
       with_reducible rfl
      rotate_left
      ·simp only [Act.put,z1_,z2_,z3_,i64_w,i32_w]
       rfl
      refine done_ (done_of HT_.out (by kernel_rfl)) ?_
      try go_wp2
      go_roundg k1
      case measure => have := aN.out;omega
      case rel => exact ⟨(wrap64 (ab + 1)),(by first|rfl|(simp;done)|(simp [*];done)),H',⟨by have := aN.out;omega⟩,⟨bM HB.out⟩⟩
   ·rw [if_neg c3] at H
    have aZ := decide_eq_false c3
    clear c3
    replace H := Option.bind_eq_some_iff.mp H
    obtain ⟨a1,a2,H⟩ := H
    have bT := aK a2
    clear a2
    have H' := aK H
    clear H
    go_wp2_with (first|((with_reducible refine gate_callee (f := 44) rfl ?_);refine gL 39 Tryz.func44 #[.slice A0 l0.length c0,.int .i64 (l1.length : Int)] ?_;(with_reducible refine (r03_Put.calls k1 _ _ l0 (l1.length : Int) a1 _ ?ay ?az bT.out).mono ?_);(case ay => exact cM (Kd.C_below bP.out HB.out));(case az => exact bQ.out);rintro e b2 ⟨bU,rfl,aJ,hb⟩;refine ⟨_,rfl,?_⟩;have a3 := aK (Kd.R_lower aJ (below_size (bM HB.out)));replace HB := aK (below_step (bM HB.out) hb);(try clear hb);(try clear hk);(try clear aJ)))
    go_loopg [7,8] k1 (fun kq v7 v8 w' => ∃ (aA : List Int) (ag : Int),v8 = .int .i64 ag ∧ Aside0 (r03_PutList.l1 kq l1 aA ag = some (r1,r2)) ∧ Aside0 (kq ≤ k1) ∧ Aside0 (Kd.R (Kd.int .u8) 5 w' w.heap.size (fun _ => True) v7 aA) ∧ Aside0 (Below w.heap.size w w'))
    case atStart => exact ⟨(a1),(0),(by first|rfl|(simp;done)|(simp [*];done)),H',⟨Nat.le_refl _⟩,⟨rM a3.out⟩,⟨bM HB.out⟩⟩
    case round =>
     clear H'
     try clear p2
     try clear c3
     try clear aZ
     try clear p5
     try clear q5
     try clear hx5
     try clear p6
     try clear aa
     try clear ad
     try clear ae
     try clear ai
     try clear au
     try clear aw
     try clear aj
     try clear av
     try clear ax
     obtain ⟨aA,ag,rfl,HA,bf,ah,HB⟩ := hrel
     cases gk with
    |zero => exact absurd HA.out (by simp [r03_PutList.l1])
    |succ k2 =>
      have H := HA.out
      clear HA
      simp only [r03_PutList.l1] at H
      by_cases aY : ag < (l1.length : Int)
      ·rw [if_pos aY] at H
       have a4 := decide_eq_true aY
       clear aY
       by_cases aQ : ag = 0
       ·rw [if_pos aQ] at H
        have a5 := beq_iff_eq.mpr aQ
        have a6 := bne_eq_false_iff_eq.mpr aQ
        clear aQ
        obtain ⟨bD,H⟩ := iS H
        have bE := decide_eq_true bD
        clear bD
        replace H := Option.bind_eq_some_iff.mp H
        obtain ⟨a7,a8,H⟩ := H
        have bV := aK a8
        clear a8
        have H' := aK H
        clear H
        have aR : 0 ≤ (ag : Int) := dA
        have aS : ag < (l1.length : Int) := dA
        obtain ⟨bF,bi,aD⟩ := Kd.at_int aF.out ag aR aS
        cases bi
        replace aD := xM HB aD
        replace aR := eq_true aR
        replace aS := eq_true aS
        obtain ⟨bj,bk,bm⟩ := Kd.R_slice ah.out
        subst bm
        go_wp2_with (first|((with_reducible refine gate_callee (f := 44) rfl ?_);refine gL 53 Tryz.func44 #[.slice bj aA.length bk,.int .i64 (rd l1 ag)] ?_;(with_reducible refine (r03_Put.calls k2 _ _ aA (rd l1 ag) a7 _ ?ay ?az bV.out).mono ?_);(case ay => exact cM (Kd.R_reads' ah.out).2.2);(case az => exact (Kd.R_reads' ah.out).2.1);rintro e b3 ⟨bW,rfl,aJ,hb⟩;refine ⟨_,rfl,?_⟩;have a9 := aK (Kd.R_lower (Kd.R_new' aJ (Kd.R_lt (rM ah.out))) (below_size (bM HB.out)));replace ah := aK (Kd.R_elder' (rM ah.out) (Kd.R_base aJ) hb);replace HB := aK (below_step (bM HB.out) hb);(try clear hb);(try clear hk);(try clear aJ)))
        go_roundg k2
        case measure => have := aN.out;have := bf.out;omega
        case rel => exact ⟨(a7),(wrap64 (ag + 1)),(by first|rfl|(simp;done)|(simp [*];done)),H',⟨by have := aN.out;have := bf.out;omega⟩,⟨rM (Kd.R_mono a9.out (fun _ hk => trivial))⟩,⟨bM HB.out⟩⟩
       ·rw [if_neg aQ] at H
        have a5 := beq_eq_false_iff_ne.mpr aQ
        have a6 := bne_iff_ne.mpr aQ
        obtain ⟨bH,H⟩ := iS H
        have bI := decide_eq_true bH
        clear bH
        obtain ⟨aq,aE⟩ : ∃ j_ : Int,(wrap64 (ag - 1)) = j_ := ⟨_,rfl⟩
        replace H : (if 0 ≤ (aq) then (if (aq) < (l1.length : Int) then ((r03_Put.f k2 aA (wrap64 ((rd l1 ag) - (rd l1 (aq))))).bind fun aM => (r03_PutList.l1 k2 l1 aM (wrap64 (ag + 1)))) else (none)) else (none)) = some (r1,r2) := by first|(rw [aE] at H;exact H)|(simp only [aE] at H ⊢;exact H)
        have bn : (IntKind.i64.wrap (ag - 1)) = aq := (i64_w _).trans aE
        obtain ⟨bJ,H⟩ := iS H
        have bK := decide_eq_true bJ
        clear bJ
        obtain ⟨bL,H⟩ := iS H
        have bN := decide_eq_true bL
        clear bL
        replace H := Option.bind_eq_some_iff.mp H
        obtain ⟨aM,ba,H⟩ := H
        have bX := aK ba
        clear ba
        have H' := aK H
        clear H
        try go_wp2
        have ar := aK (Kd.R_drew ah.out)
        have bb := aK (below_drew1 HB.out)
        clear ah
        clear HB
        have ah := ar
        have HB := bb
        clear ar bb
        have aT : 0 ≤ (ag : Int) := dA
        have aU : ag < (l1.length : Int) := dA
        obtain ⟨aI,bo,am⟩ := Kd.at_int aF.out ag aT aU
        have an := am
        cases bo
        replace am := xM HB am
        replace aT := eq_true aT
        replace aU := eq_true aU
        have aV : 0 ≤ ((aq) : Int) := dA
        have aW : (aq) < (l1.length : Int) := dA
        obtain ⟨bc,bp,ao⟩ := Kd.at_int aF.out (aq) aV aW
        have ap := ao
        obtain rfl : aI = bc := (by injection bp)
        replace ao := xM HB ao
        replace aV := eq_true aV
        replace aW := eq_true aW
        obtain ⟨bq,br,bd⟩ := Kd.R_slice ah.out
        (first|subst bd|(injection bd with f1_ f2_ f3_;have bY := f1_.symm;have bZ := f3_.symm;clear f1_ f2_ f3_;subst bY;subst bZ))
        refine start_ (n := 13) (S := fun w' => w'.cell? (aI.add (ag).toNat) = some (.int .i64 (rd l1 ag)) ∧ w'.cell? (aI.add ((aq)).toNat) = some (.int .i64 (rd l1 (aq)))) (ds := []) (bA 13 0) (by kernel_rfl) rfl rfl ⟨((HB.out.cell (World.block_lt_of_cell? w _ an)).trans an),((HB.out.cell (World.block_lt_of_cell? w _ ap)).trans ap)⟩ (fun hHeld => ?_);refine with_tabW r03_PutList.tab12 r03_PutList.bits12 (fun HT_ HW_ => ?_)
        generalize wr.drew = w28 at ah HB am ao hHeld ⊢
        refine pure_ (i := 0) (N := some 54) (v := ?_) (a' := ?_) (bA 13 1) rfl rfl (any_of HT_.out (by kernel_rfl)) (fun _ _ _ h => h) (Or.inl ⟨by rfl,?_⟩) ?_ ?_
        rotate_left
        ·intro w'
         go_simp
         with_reducible rfl
        rotate_left
        ·simp only [Act.put,z1_,z2_,z3_,i64_w,i32_w]
         rfl
        refine pure_ (i := 1) (N := some 55) (v := ?_) (a' := ?_) (bA 13 3) rfl rfl (any_of HT_.out (by kernel_rfl)) (fun _ _ _ h => h) (Or.inl ⟨by rfl,?_⟩) ?_ ?_
        rotate_left
        ·intro w'
         go_simp
         with_reducible rfl
        rotate_left
        ·simp only [Act.put,z1_,z2_,z3_,i64_w,i32_w]
         rfl
        refine pure_ (i := 2) (N := some 56) (v := ?_) (a' := ?_) (bA 13 7) rfl rfl (any_of HT_.out (by kernel_rfl)) (fun _ _ _ h => h) (Or.inl ⟨by rfl,?_⟩) ?_ ?_
        rotate_left
        ·intro w'
         go_simp
         with_reducible rfl
        rotate_left
        ·simp only [Act.put,z1_,z2_,z3_,i64_w,i32_w]
         rfl
        refine pure_ (i := 3) (N := some 57) (v := ?_) (a' := ?_) (bA 13 15) rfl rfl (any_of HT_.out (by kernel_rfl)) (fun _ _ _ h => h) (Or.inl ⟨by rfl,?_⟩) ?_ ?_
        rotate_left
        ·intro w'
         go_simp
         with_reducible rfl
        rotate_left
        ·simp only [Act.put,z1_,z2_,z3_,i64_w,i32_w]
         rfl
        refine pure_ (i := 5) (N := some 59) (v := ?_) (a' := ?_) (bA 13 47) rfl rfl (any_of HT_.out (by kernel_rfl)) (fun _ _ _ h => h) (Or.inl ⟨by rfl,?_⟩) ?_ ?_
        rotate_left
        ·intro w'
         go_simp
         with_reducible rfl
        rotate_left
        ·simp only [Act.put,z1_,z2_,z3_,i64_w,i32_w]
         rfl
        refine pure_ (i := 6) (N := some 60) (v := ?_) (a' := ?_) (bA 13 111) rfl rfl (any_of HT_.out (by kernel_rfl)) (fun _ _ _ h => h) (Or.inl ⟨by rfl,?_⟩) ?_ ?_
        rotate_left
        ·intro w'
         go_simp
         with_reducible rfl
        rotate_left
        ·simp only [Act.put,z1_,z2_,z3_,i64_w,i32_w]
         rfl
        refine pure_ (i := 7) (N := some 61) (v := ?_) (a' := ?_) (bA 13 239) rfl rfl (any_of HT_.out (by kernel_rfl)) (fun _ _ _ h => h) (Or.inl ⟨by rfl,?_⟩) ?_ ?_
        rotate_left
        ·intro w'
         go_simp
         with_reducible rfl
        rotate_left
        ·simp only [Act.put,z1_,z2_,z3_,i64_w,i32_w]
         rfl
        refine pure_ (i := 8) (N := some 62) (v := ?_) (a' := ?_) (bA 13 495) rfl rfl (any_of HT_.out (by kernel_rfl)) (fun _ _ _ h => h) (Or.inl ⟨by rfl,?_⟩) ?_ ?_
        rotate_left
        ·intro w'
         go_simp
         with_reducible rfl
        rotate_left
        ·simp only [Act.put,z1_,z2_,z3_,i64_w,i32_w]
         rfl
        refine take_ (i := 4) (N := some 58) (v := ?_) (a' := ?_) (bA 13 511) rfl rfl (take_ofW HT_.out HW_.out (by kernel_rfl)) (fun _ _ _ h => h) (Or.inl ⟨by rfl,?_⟩) hHeld ?_ ?_
        rotate_left
        ·rintro w' ⟨s0,s1⟩
         go_simp
         with_reducible rfl
        rotate_left
        ·simp only [Act.put,z1_,z2_,z3_,i64_w,i32_w]
         rfl
        refine take_ (i := 9) (N := some 63) (v := ?_) (a' := ?_) (bA 13 1023) rfl rfl (take_ofW HT_.out HW_.out (by kernel_rfl)) (fun _ _ _ h => h) (Or.inl ⟨by rfl,?_⟩) hHeld ?_ ?_
        rotate_left
        ·rintro w' ⟨s0,s1⟩
         go_simp
         with_reducible rfl
        rotate_left
        ·simp only [Act.put,z1_,z2_,z3_,i64_w,i32_w]
         rfl
        refine pure_ (i := 10) (N := some 64) (v := ?_) (a' := ?_) (bA 13 2047) rfl rfl (any_of HT_.out (by kernel_rfl)) (fun _ _ _ h => h) (Or.inl ⟨by rfl,?_⟩) ?_ ?_
        rotate_left
        ·intro w'
         go_simp
         with_reducible rfl
        rotate_left
        ·simp only [Act.put,z1_,z2_,z3_,i64_w,i32_w]
         rfl
        refine one_ (i := 11) (N := some 65) (bA 13 4095) rfl rfl (one_of HT_.out (by kernel_rfl)) (by decide) (fun K hK => ?_)
        refine goes_ Tryz.func44 (by kernel_rfl) rfl #[.slice bq aA.length br,.int .i64 (wrap64 ((rd l1 ag) - (rd l1 (aq))))] (by rfl) rfl rfl (by (try simp only [z4_,z5_,z6_]);first|done|(simp only [aE];rfl)|rfl|(simp only [z7_,z8_];rfl)) ?_
        with_reducible refine (r03_Put.calls k2 _ _ aA (wrap64 ((rd l1 ag) - (rd l1 (aq)))) aM _ ?ay ?az bX.out).mono ?_
        (case ay => exact cM (Kd.R_reads' ah.out).2.2)
        (case az => exact (Kd.R_reads' ah.out).2.1)
        rintro e b4 ⟨b0,rfl,aJ,hb⟩
        refine ⟨_,rfl,?_⟩
        have ar := aK (Kd.R_elder' (rM ah.out) (Kd.R_base aJ) hb)
        have bb := aK (Kd.R_lower (Kd.R_new' aJ (Kd.R_lt (rM ah.out))) (below_size (bM HB.out)))
        have bO := aK (below_step (bM HB.out) hb)
        clear ah
        clear HB
        have ah := ar
        have be := bb
        have HB := bO
        clear ar bb bO
        (try clear hb)
        (try clear hk)
        (try clear aJ)
        refine hK.out _ _ ⟨((HB.out.cell (World.block_lt_of_cell? w _ an)).trans an),((HB.out.cell (World.block_lt_of_cell? w _ ap)).trans ap)⟩ (fun hHeld => ?_)
        clear hK K
        refine norm_ (a' := ?_) ?_ ?_
        rotate_left
        ·show Act.put _ (some 65) _ = _
         simp only [Act.put,z1_,z2_,z3_,i64_w,i32_w]
         rfl
        refine pure_ (i := 12) (N := some 7) (v := ?_) (a' := ?_) (bA 13 8191) rfl rfl (any_of HT_.out (by kernel_rfl)) (fun _ _ _ h => h) (Or.inl ⟨by rfl,?_⟩) ?_ ?_
        rotate_left
        ·intro w'
         go_simp
         with_reducible rfl
        rotate_left
        ·simp only [Act.put,z1_,z2_,z3_,i64_w,i32_w]
         rfl
        refine done_ (done_of HT_.out (by kernel_rfl)) ?_
        try go_wp2
        go_roundg k2
        case measure => have := aN.out;have := bf.out;omega
        case rel => exact ⟨(aM),(wrap64 (ag + 1)),(by first|rfl|(simp;done)|(simp [*];done)),H',⟨by have := aN.out;have := bf.out;omega⟩,⟨rM (Kd.R_mono be.out (fun _ hk => trivial))⟩,⟨bM HB.out⟩⟩
      ·rw [if_neg aY] at H
       have a4 := decide_eq_false aY
       clear aY
       simp only [Option.some.injEq,Prod.mk.injEq] at H
       obtain ⟨rfl,rfl⟩ := H
       go_wp2
       go_ret2
       exact ⟨_,by first|rfl|(simp [errW_none,errW_some] <;> rfl)|(simp [*,errW_none,errW_some] <;> rfl),rM ah.out,bM HB.out⟩
end Go.Proofs.YtmgliocboeifdaaGreatDoor.F
