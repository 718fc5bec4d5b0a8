import Derived.Test.YtihfpmociffpeaaWAdd
import Derived.Test.YtihfpmociffpeaaOx0
import Derived.Test.YtihfpmociffpeaaOx1
import Derived.Test.YtihfpmociffpeaaOx2
namespace Go.Proofs.Ytihfpmociffpeaa.O
open Go.RowKit Go.Proofs.YtihfpmociffpeaaW.PrintWords Go.Proofs.YtihfpmociffpeaaW.PrintLast Go.Proofs.YtihfpmociffpeaaW.PrintMore
attribute [local go_sem] max2_int min2_int max_two min_two max_three min_three max_four min_four
set_option linter.unusedVariables false
set_option linter.unusedSimpArgs false

/-! ### l03_VarintOnce: function 9 -/
mutual
def l03_VarintOnce.j0 : Nat → List Int → Int → Int → Bool → Option (Bool)
|0,_,_,_,_ => none
|k + 1,x0,x1,x2,ac => if ac = true then (some false) else ((varint_GetString.f k x0 x1 x2).bind fun aa => (if aa.2.2 = 0 then (if x1 < 0 then (l03_VarintOnce.j1 k x0 x1 x2 true) else (if aa.2.1 ≤ x1 then (l03_VarintOnce.j1 k x0 x1 x2 true) else (if aa.2.1 > (x0.length : Int) then (l03_VarintOnce.j1 k x0 x1 x2 true) else ((varint_PutString.f ([] : List Int) aa.1).bind fun ab => (if 0 ≤ x1 then (if x1 ≤ aa.2.1 then (if aa.2.1 ≤ (x0.length : Int) then (l03_VarintOnce.j1 k x0 x1 x2 ((strOfNums ab).toList != (strOfNums ((x0.take (aa.2.1 : Int).toNat).drop (x1 : Int).toNat)).toList)) else (none)) else (none)) else (none)))))) else (l03_VarintOnce.j1 k x0 x1 x2 false)))
def l03_VarintOnce.j1 : Nat → List Int → Int → Int → Bool → Option (Bool)
|0,_,_,_,_ => none
|k + 1,x0,x1,x2,ac => if ac = true then (some false) else ((varint_GetList.f k x0 x1 x2).bind fun aa => (if aa.2.2 = 0 then ((varint_PutList.f k ([] : List Int) aa.1).bind fun ab => (if x1 ≥ 0 then (if aa.2.1 > x1 then (if aa.2.1 ≤ (x0.length : Int) then (if ab.2 = 0 then (if 0 ≤ x1 then (if x1 ≤ aa.2.1 then (some ((strOfNums ab.1).toList == (strOfNums ((x0.take (aa.2.1 : Int).toNat).drop (x1 : Int).toNat)).toList)) else (none)) else (none)) else (some false)) else (some false)) else (some false)) else (some false))) else (some true)))
end
def l03_VarintOnce.f (k : Nat) (l0 : List Int) (a1 : Int) (a2 : Int) : Option (Bool) := (l03_alive.f k).bind fun ab => (if ab = true then ((varint_Get.f k l0 a1).bind fun aa => (if aa.2.2 = 0 then (if a1 < 0 then (l03_VarintOnce.j0 k l0 a1 a2 true) else (if aa.2.1 ≤ a1 then (l03_VarintOnce.j0 k l0 a1 a2 true) else (if aa.2.1 > (l0.length : Int) then (l03_VarintOnce.j0 k l0 a1 a2 true) else ((varint_Put.f ([] : List Int) aa.1).bind fun ac => (if 0 ≤ a1 then (if a1 ≤ aa.2.1 then (if aa.2.1 ≤ (l0.length : Int) then (l03_VarintOnce.j0 k l0 a1 a2 ((strOfNums ac).toList != (strOfNums ((l0.take (aa.2.1 : Int).toNat).drop (a1 : Int).toNat)).toList)) else (none)) else (none)) else (none)))))) else (l03_VarintOnce.j0 k l0 a1 a2 false))) else (some false))
theorem l03_VarintOnce.mono_l : ∀ k, (∀ y0 y1 y2 y3, LeO (l03_VarintOnce.j0 k y0 y1 y2 y3) (l03_VarintOnce.j0 (k + 1) y0 y1 y2 y3)) ∧ (∀ y0 y1 y2 y3, LeO (l03_VarintOnce.j1 k y0 y1 y2 y3) (l03_VarintOnce.j1 (k + 1) y0 y1 y2 y3))
|0 => ⟨fun _ _ _ _ r h => by simp [l03_VarintOnce.j0] at h,fun _ _ _ _ r h => by simp [l03_VarintOnce.j1] at h⟩
|k + 1 => by
  obtain ⟨ih0,ih1⟩ := l03_VarintOnce.mono_l k
  refine ⟨?_,?_⟩
  ·intro y0 y1 y2 y3
   unfold l03_VarintOnce.j0
   repeat' (with_reducible first|exact ih1 _ _ _ _|exact varint_GetString.mono _ _ _ _|exact LeO.refl _|exact LeO.none _|refine LeO.ite ?_ ?_|refine LeO.bind ?_ (fun _ => ?_))
  ·intro y0 y1 y2 y3
   unfold l03_VarintOnce.j1
   repeat' (with_reducible first|exact varint_GetList.mono _ _ _ _|exact varint_PutList.mono _ _ _|exact LeO.refl _|exact LeO.none _|refine LeO.ite ?_ ?_|refine LeO.bind ?_ (fun _ => ?_))
theorem l03_VarintOnce.mono : ∀ a0 a1 a2 k, LeO (l03_VarintOnce.f k a0 a1 a2) (l03_VarintOnce.f (k + 1) a0 a1 a2) := by
 intro a0 a1 a2 k
 obtain ⟨ih0,ih1⟩ := l03_VarintOnce.mono_l k
 unfold l03_VarintOnce.f
 repeat' (with_reducible first|exact ih0 _ _ _ _|exact ih1 _ _ _ _|exact l03_alive.mono _|exact varint_Get.mono _ _ _|exact varint_GetList.mono _ _ _ _|exact varint_GetString.mono _ _ _ _|exact varint_PutList.mono _ _ _|exact LeO.refl _|exact LeO.none _|refine LeO.ite ?_ ?_|refine LeO.bind ?_ (fun _ => ?_))
def l03_VarintOnce.T4 : Bool × List (List Nat × List Nat) := (true, [([], []), ([0], [0]), ([1], [1]), ([2], [2]), ([3, 2], [2, 3]), ([4, 2, 2], [2, 4]), ([5], [5]), ([5], [5]), ([6, 7, 5], [5, 6, 7]), ([5, 8, 2], [2, 5, 8]), ([9, 5, 2], [2, 9]), ([10], [10]), ([10], [10]), ([12, 10], [10, 12]), ([11, 13, 10], [10, 11, 13]), ([10, 14, 2], [2, 10, 14]), ([15, 10, 2], [2, 15]), ([16], [16]), ([17, 16, 16], [16, 17]), ([18, 16], [16, 18]), ([16], [16]), ([16], [16]), ([16], [16]), ([20, 21, 22, 16], [16, 20, 21, 22]), ([23, 16], [16, 23]), ([19, 24, 16], [16, 19, 24]), ([16, 25, 2], [2, 16, 25]), ([2, 26], [2, 26])])
def l03_VarintOnce.B4 : List Nat := [0, 1, 3, 7, 15, 31, 63, 63, 255, 511, 1023, 2047, 2047, 6143, 16383, 32767, 65535, 131071, 262143, 524287, 131071, 131071, 131071, 7471103, 15859711, 33554431, 67108863, 134217727]
theorem l03_VarintOnce.tab4 : rtab .any (opsOf Try.f9 4) = l03_VarintOnce.T4 := by kernel_rfl
theorem l03_VarintOnce.bits4 : waitsOk l03_VarintOnce.T4.2 l03_VarintOnce.B4 = true := by kernel_rfl
def l03_VarintOnce.T7 : Bool × List (List Nat × List Nat) := (true, [([], []), ([0], [0]), ([1], [1]), ([2], [2]), ([3, 2], [2, 3]), ([4, 2, 2], [2, 4]), ([5], [5]), ([5], [5]), ([6, 7, 5], [5, 6, 7]), ([5, 8, 2], [2, 5, 8]), ([9, 5, 2], [2, 9]), ([10], [10]), ([10], [10]), ([12, 10], [10, 12]), ([11, 13, 10], [10, 11, 13]), ([10, 14, 2], [2, 10, 14]), ([15, 10, 2], [2, 15]), ([16], [16]), ([17, 16, 16], [16, 17]), ([18, 16], [16, 18]), ([16], [16]), ([16], [16]), ([16], [16]), ([20, 21, 22, 16], [16, 20, 21, 22]), ([23, 16], [16, 23]), ([19, 24, 16], [16, 19, 24]), ([16, 25, 2], [2, 16, 25]), ([2, 26], [2, 26])])
def l03_VarintOnce.B7 : List Nat := [0, 1, 3, 7, 15, 31, 63, 63, 255, 511, 1023, 2047, 2047, 6143, 16383, 32767, 65535, 131071, 262143, 524287, 131071, 131071, 131071, 7471103, 15859711, 33554431, 67108863, 134217727]
theorem l03_VarintOnce.tab7 : rtab .any (opsOf Try.f9 7) = l03_VarintOnce.T7 := by kernel_rfl
theorem l03_VarintOnce.bits7 : waitsOk l03_VarintOnce.T7.2 l03_VarintOnce.B7 = true := by kernel_rfl
def l03_VarintOnce.T13 : Bool × List (List Nat × List Nat) := (true, [([], []), ([0], [0]), ([1], [1]), ([2], [2]), ([2], [2]), ([3, 4, 2], [2, 3, 4]), ([2, 5], [2, 5]), ([6, 2], [6]), ([7], [7]), ([7], [7]), ([9, 7], [7, 9]), ([8, 10, 7], [7, 8, 10]), ([7, 11], [7, 11]), ([12, 7], [12]), ([13], [13]), ([14, 13], [13, 14]), ([13, 15], [13, 15]), ([16, 13], [16]), ([17], [17]), ([18, 17], [17, 18]), ([17], [17]), ([17], [17]), ([17], [17]), ([20, 21, 22, 17], [17, 20, 21, 22]), ([23, 17], [17, 23]), ([19, 24, 17], [17, 19, 24]), ([17, 25], [17, 25]), ([26, 17, 0, 1, 2, 3, 4, 5, 6, 7, 8, 9, 10, 11, 12, 13, 14, 15, 16, 17, 18, 19, 20, 21, 22, 23, 24, 25, 26], [26])])
def l03_VarintOnce.B13 : List Nat := [0, 1, 3, 7, 7, 31, 63, 127, 255, 255, 767, 2047, 4095, 8191, 16383, 32767, 65535, 131071, 262143, 524287, 262143, 262143, 262143, 7602175, 15990783, 33554431, 67108863, 134217727]
theorem l03_VarintOnce.tab13 : rtab .any (opsOf Try.f9 13) = l03_VarintOnce.T13 := by kernel_rfl
theorem l03_VarintOnce.bits13 : waitsOk l03_VarintOnce.T13.2 l03_VarintOnce.B13 = true := by kernel_rfl
set_option maxHeartbeats 4000000 in
set_option maxRecDepth 100000 in
theorem l03_VarintOnce.calls (k : Nat) (A0 : Option Addr) (c0 : Nat) (l0 : List Int) (a1 : Int) (a2 : Int) (r : Bool) (w : World) (cv : Kd.C (Kd.int .u8) w A0 l0.length l0) (cw : l0.length ≤ c0) (h : l03_VarintOnce.f k l0 a1 a2 = some r) :
  Calls Try.prog 9 #[.slice A0 l0.length c0,.int .i64 a1,.int .i64 a2] w fun e w' => e = .returned (.bool r) ∧ Below w.heap.size w w' := by
 have aE := aK cv
 have aF := aK cw
 clear cv cw
 have HB := aK (Below.refl w.heap.size w)
 unfold l03_VarintOnce.f at h
 have H := h
 clear h
 replace H := Option.bind_eq_some_iff.mp H
 obtain ⟨b3,cx,H⟩ := H
 have A4 := aK cx
 clear cx
 by_cases c5 : b3 = true
 ·subst c5
  rw [if_pos rfl] at H
  replace H := Option.bind_eq_some_iff.mp H
  obtain ⟨⟨aG,ah,aY⟩,cy,H⟩ := H
  replace H : (if aY = 0 then (if a1 < 0 then (l03_VarintOnce.j0 k l0 a1 a2 true) else (if ah ≤ a1 then (l03_VarintOnce.j0 k l0 a1 a2 true) else (if ah > (l0.length : Int) then (l03_VarintOnce.j0 k l0 a1 a2 true) else ((varint_Put.f ([] : List Int) aG).bind fun aH => (if 0 ≤ a1 then (if a1 ≤ ah then (if ah ≤ (l0.length : Int) then (l03_VarintOnce.j0 k l0 a1 a2 ((strOfNums aH).toList != (strOfNums ((l0.take (ah : Int).toNat).drop (a1 : Int).toNat)).toList)) else (none)) else (none)) else (none)))))) else (l03_VarintOnce.j0 k l0 a1 a2 false)) = some r := H
  have A6 := aK cy
  clear cy
  have b4 := aK H
  clear H
  go_enter Try.func9,Try.ntmps9
  go_upto_region 4 with (first|((with_reducible refine gate_callee (f := 15) rfl ?_);refine gL 14 Try.func15 #[] ?_;(with_reducible refine (l03_alive.calls k  true _ A4.out).mono ?_);rintro e w8 ⟨rfl,hb⟩;refine ⟨_,rfl,?_⟩;replace HB := aK (below_step (bM HB.out) hb);(try clear hb))|((with_reducible refine gate_callee (f := 21) rfl ?_);refine gL 19 Try.func21 #[.slice A0 l0.length c0,.int .i64 a1] ?_;(with_reducible refine (varint_Get.calls k _ _ l0 a1 aG ah aY _ ?ab ?ac A6.out).mono ?_);(case ab => exact cM (Kd.C_below aE.out HB.out));(case ac => exact aF.out);rintro e w' ⟨rfl,⟨nd,rfl⟩⟩;refine ⟨_,rfl,?_⟩;(try (rw [drewN_self w8];generalize hq_ : World.drewN w8 _ = w8;have ae : Aside0 (Below w.heap.size w w8) := ⟨by rw [← hq_];exact (bM HB.out)⟩;clear HB hq_;have HB := ae;clear ae))))
  (try simp only [Act.put,z1_,z2_,z3_])
  go_cut [50] (fun cV wc => ∃ (kq : Nat) (au : Bool),cV = .bool au ∧ Aside0 (l03_VarintOnce.j0 kq l0 a1 a2 au = some r) ∧ Aside0 (kq ≤ k) ∧ Aside0 (Below w.heap.size w wc))
  case first =>
   have H := b4.out
   clear b4
   by_cases c9 : aY = 0
   ·rw [if_pos c9] at H
    have az := beq_iff_eq.mpr c9
    have aZ := bne_eq_false_iff_eq.mpr c9
    clear c9
    (first|rw [az]|(simp only [i64_w,i32_w];rw [az])|rw [aZ]|skip)
    by_cases c10 : a1 < 0
    ·rw [if_pos c10] at H
     have bo := decide_eq_true c10
     clear c10
     have H' := aK H
     clear H
     try go_wp2
     have ae := aK (below_drew1 HB.out)
     clear HB
     have HB := ae
     clear ae
     refine start_ (n := 28) (S := fun w' => True) (ds := []) (bA 28 0) (by kernel_rfl) rfl rfl trivial (fun hHeld => ?_);refine with_tabW l03_VarintOnce.tab4 l03_VarintOnce.bits4 (fun HT_ HW_ => ?_)
     generalize w8.drew = w11 at HB hHeld ⊢
     refine pure_ (i := 0) (N := some 23) (v := ?_) (a' := ?_) (bA 28 1) rfl rfl (any_of HT_.out (by kernel_rfl)) (fun _ _ _ h => h) (Or.inl ⟨by rfl,?_⟩) ?_ ?_
     rotate_left
     ·intro w'
      go_simp
      with_reducible rfl
     rotate_left
     ·simp only [Act.put,z1_,z2_,z3_,i64_w,i32_w]
      rfl
     refine pure_ (i := 1) (N := some 24) (v := ?_) (a' := ?_) (bA 28 3) rfl rfl (any_of HT_.out (by kernel_rfl)) (fun _ _ _ h => h) (Or.inl ⟨by rfl,?_⟩) ?_ ?_
     rotate_left
     ·intro w'
      go_simp
      with_reducible rfl
     rotate_left
     ·simp only [Act.put,z1_,z2_,z3_,i64_w,i32_w]
      rfl
     refine pure_ (i := 2) (N := some 25) (v := ?_) (a' := ?_) (bA 28 7) rfl rfl (any_of HT_.out (by kernel_rfl)) (fun _ _ _ h => h) (Or.inl ⟨by rfl,?_⟩) ?_ ?_
     rotate_left
     ·intro w'
      go_simp
      with_reducible rfl
     rotate_left
     ·simp only [Act.put,z1_,z2_,z3_,i64_w,i32_w]
      rfl
     refine pure_ (i := 3) (N := some 26) (v := ?_) (a' := ?_) (bA 28 15) rfl rfl (any_of HT_.out (by kernel_rfl)) (fun _ _ _ h => h) (Or.inl ⟨by rfl,?_⟩) ?_ ?_
     rotate_left
     ·intro w'
      go_simp
      with_reducible rfl
     rotate_left
     ·simp only [Act.put,z1_,z2_,z3_,i64_w,i32_w]
      rfl
     refine pure_ (i := 4) (N := some 27) (v := ?_) (a' := ?_) (bA 28 31) rfl rfl (any_of HT_.out (by kernel_rfl)) (fun _ _ _ h => h) (Or.inl ⟨by rfl,?_⟩) ?_ ?_
     rotate_left
     ·intro w'
      go_simp
      with_reducible rfl
     rotate_left
     ·simp only [Act.put,z1_,z2_,z3_,i64_w,i32_w]
      rfl
     refine pure_ (i := 5) (N := some 28) (v := ?_) (a' := ?_) (bA 28 63) rfl rfl (any_of HT_.out (by kernel_rfl)) (fun _ _ _ h => h) (Or.inl ⟨by rfl,?_⟩) ?_ ?_
     rotate_left
     ·intro w'
      go_simp
      with_reducible rfl
     rotate_left
     ·simp only [Act.put,z1_,z2_,z3_,i64_w,i32_w]
      rfl
     refine pure_ (i := 6) (N := some 29) (v := undef) (a' := ?_) (bA 28 127) rfl rfl (any_of HT_.out (by kernel_rfl)) (fun _ _ _ h => h) (Or.inr ⟨by rfl,rfl⟩) ?_ ?_
     rotate_left
     ·simp only [Act.put,z1_,z2_,z3_,i64_w,i32_w]
      rfl
     refine pure_ (i := 7) (N := some 30) (v := undef) (a' := ?_) (bA 28 255) rfl rfl (any_of HT_.out (by kernel_rfl)) (fun _ _ _ h => h) (Or.inr ⟨by rfl,rfl⟩) ?_ ?_
     rotate_left
     ·simp only [Act.put,z1_,z2_,z3_,i64_w,i32_w]
      rfl
     refine pure_ (i := 8) (N := some 31) (v := undef) (a' := ?_) (bA 28 511) rfl rfl (any_of HT_.out (by kernel_rfl)) (fun _ _ _ h => h) (Or.inr ⟨by rfl,rfl⟩) ?_ ?_
     rotate_left
     ·simp only [Act.put,z1_,z2_,z3_,i64_w,i32_w]
      rfl
     refine pure_ (i := 9) (N := some 32) (v := ?_) (a' := ?_) (bA 28 1023) rfl rfl (any_of HT_.out (by kernel_rfl)) (fun _ _ _ h => h) (Or.inl ⟨by rfl,?_⟩) ?_ ?_
     rotate_left
     ·intro w'
      go_simp
      with_reducible rfl
     rotate_left
     ·simp only [Act.put,z1_,z2_,z3_,i64_w,i32_w]
      rfl
     refine pure_ (i := 10) (N := some 33) (v := ?_) (a' := ?_) (bA 28 2047) rfl rfl (any_of HT_.out (by kernel_rfl)) (fun _ _ _ h => h) (Or.inl ⟨by rfl,?_⟩) ?_ ?_
     rotate_left
     ·intro w'
      go_simp
      with_reducible rfl
     rotate_left
     ·simp only [Act.put,z1_,z2_,z3_,i64_w,i32_w]
      rfl
     refine pure_ (i := 11) (N := some 34) (v := undef) (a' := ?_) (bA 28 4095) rfl rfl (any_of HT_.out (by kernel_rfl)) (fun _ _ _ h => h) (Or.inr ⟨by rfl,rfl⟩) ?_ ?_
     rotate_left
     ·simp only [Act.put,z1_,z2_,z3_,i64_w,i32_w]
      rfl
     refine pure_ (i := 12) (N := some 35) (v := undef) (a' := ?_) (bA 28 8191) rfl rfl (any_of HT_.out (by kernel_rfl)) (fun _ _ _ h => h) (Or.inr ⟨by rfl,rfl⟩) ?_ ?_
     rotate_left
     ·simp only [Act.put,z1_,z2_,z3_,i64_w,i32_w]
      rfl
     refine pure_ (i := 13) (N := some 36) (v := undef) (a' := ?_) (bA 28 16383) rfl rfl (any_of HT_.out (by kernel_rfl)) (fun _ _ _ h => h) (Or.inr ⟨by rfl,rfl⟩) ?_ ?_
     rotate_left
     ·simp only [Act.put,z1_,z2_,z3_,i64_w,i32_w]
      rfl
     refine pure_ (i := 14) (N := some 37) (v := undef) (a' := ?_) (bA 28 32767) rfl rfl (any_of HT_.out (by kernel_rfl)) (fun _ _ _ h => h) (Or.inr ⟨by rfl,rfl⟩) ?_ ?_
     rotate_left
     ·simp only [Act.put,z1_,z2_,z3_,i64_w,i32_w]
      rfl
     refine pure_ (i := 15) (N := some 38) (v := ?_) (a' := ?_) (bA 28 65535) rfl rfl (any_of HT_.out (by kernel_rfl)) (fun _ _ _ h => h) (Or.inl ⟨by rfl,?_⟩) ?_ ?_
     rotate_left
     ·intro w'
      go_simp
      with_reducible rfl
     rotate_left
     ·simp only [Act.put,z1_,z2_,z3_,i64_w,i32_w]
      rfl
     refine pure_ (i := 16) (N := some 39) (v := ?_) (a' := ?_) (bA 28 131071) rfl rfl (any_of HT_.out (by kernel_rfl)) (fun _ _ _ h => h) (Or.inl ⟨by rfl,?_⟩) ?_ ?_
     rotate_left
     ·intro w'
      go_simp
      with_reducible rfl
     rotate_left
     ·simp only [Act.put,z1_,z2_,z3_,i64_w,i32_w]
      rfl
     refine pure_ (i := 17) (N := some 40) (v := undef) (a' := ?_) (bA 28 262143) rfl rfl (any_of HT_.out (by kernel_rfl)) (fun _ _ _ h => h) (Or.inr ⟨by rfl,rfl⟩) ?_ ?_
     rotate_left
     ·simp only [Act.put,z1_,z2_,z3_,i64_w,i32_w]
      rfl
     refine pure_ (i := 18) (N := some 41) (v := undef) (a' := ?_) (bA 28 524287) rfl rfl (any_of HT_.out (by kernel_rfl)) (fun _ _ _ h => h) (Or.inr ⟨by rfl,rfl⟩) ?_ ?_
     rotate_left
     ·simp only [Act.put,z1_,z2_,z3_,i64_w,i32_w]
      rfl
     refine pure_ (i := 19) (N := some 42) (v := undef) (a' := ?_) (bA 28 1048575) rfl rfl (any_of HT_.out (by kernel_rfl)) (fun _ _ _ h => h) (Or.inr ⟨by rfl,rfl⟩) ?_ ?_
     rotate_left
     ·simp only [Act.put,z1_,z2_,z3_,i64_w,i32_w]
      rfl
     refine pure_ (i := 20) (N := some 43) (v := undef) (a' := ?_) (bA 28 2097151) rfl rfl (any_of HT_.out (by kernel_rfl)) (fun _ _ _ h => h) (Or.inr ⟨by rfl,rfl⟩) ?_ ?_
     rotate_left
     ·simp only [Act.put,z1_,z2_,z3_,i64_w,i32_w]
      rfl
     refine pure_ (i := 21) (N := some 44) (v := undef) (a' := ?_) (bA 28 4194303) rfl rfl (any_of HT_.out (by kernel_rfl)) (fun _ _ _ h => h) (Or.inr ⟨by rfl,rfl⟩) ?_ ?_
     rotate_left
     ·simp only [Act.put,z1_,z2_,z3_,i64_w,i32_w]
      rfl
     refine pure_ (i := 22) (N := some 45) (v := undef) (a' := ?_) (bA 28 8388607) rfl rfl (any_of HT_.out (by kernel_rfl)) (fun _ _ _ h => h) (Or.inr ⟨by rfl,rfl⟩) ?_ ?_
     rotate_left
     ·simp only [Act.put,z1_,z2_,z3_,i64_w,i32_w]
      rfl
     refine pure_ (i := 23) (N := some 46) (v := undef) (a' := ?_) (bA 28 16777215) rfl rfl (any_of HT_.out (by kernel_rfl)) (fun _ _ _ h => h) (Or.inr ⟨by rfl,rfl⟩) ?_ ?_
     rotate_left
     ·simp only [Act.put,z1_,z2_,z3_,i64_w,i32_w]
      rfl
     refine pure_ (i := 24) (N := some 47) (v := undef) (a' := ?_) (bA 28 33554431) rfl rfl (any_of HT_.out (by kernel_rfl)) (fun _ _ _ h => h) (Or.inr ⟨by rfl,rfl⟩) ?_ ?_
     rotate_left
     ·simp only [Act.put,z1_,z2_,z3_,i64_w,i32_w]
      rfl
     refine pure_ (i := 25) (N := some 48) (v := undef) (a' := ?_) (bA 28 67108863) rfl rfl (any_of HT_.out (by kernel_rfl)) (fun _ _ _ h => h) (Or.inr ⟨by rfl,rfl⟩) ?_ ?_
     rotate_left
     ·simp only [Act.put,z1_,z2_,z3_,i64_w,i32_w]
      rfl
     refine pure_ (i := 26) (N := some 49) (v := ?_) (a' := ?_) (bA 28 134217727) rfl rfl (any_of HT_.out (by kernel_rfl)) (fun _ _ _ h => h) (Or.inl ⟨by rfl,?_⟩) ?_ ?_
     rotate_left
     ·intro w'
      go_simp
      with_reducible rfl
     rotate_left
     ·simp only [Act.put,z1_,z2_,z3_,i64_w,i32_w]
      rfl
     refine pure_ (i := 27) (N := some 50) (v := ?_) (a' := ?_) (bA 28 268435455) rfl rfl (any_of HT_.out (by kernel_rfl)) (fun _ _ _ h => h) (Or.inl ⟨by rfl,?_⟩) ?_ ?_
     rotate_left
     ·intro w'
      go_simp
      with_reducible rfl
     rotate_left
     ·simp only [Act.put,z1_,z2_,z3_,i64_w,i32_w]
      rfl
     refine done_ (done_of HT_.out (by kernel_rfl)) ?_
     try go_wp2
     go_meet
     case rel => exact ⟨_,(true),(by first|rfl|(simp;done)|(simp [*];done)),H',⟨by first|omega|exact Nat.le_refl _⟩,⟨bM HB.out⟩⟩
    ·rw [if_neg c10] at H
     have bo := decide_eq_false c10
     clear c10
     by_cases bg : ah ≤ a1
     ·rw [if_pos bg] at H
      have bp := decide_eq_true bg
      clear bg
      have H' := aK H
      clear H
      try go_wp2
      have ae := aK (below_drew1 HB.out)
      clear HB
      have HB := ae
      clear ae
      refine start_ (n := 28) (S := fun w' => True) (ds := []) (bA 28 0) (by kernel_rfl) rfl rfl trivial (fun hHeld => ?_);refine with_tabW l03_VarintOnce.tab4 l03_VarintOnce.bits4 (fun HT_ HW_ => ?_)
      generalize w8.drew = w13 at HB hHeld ⊢
      refine pure_ (i := 0) (N := some 23) (v := ?_) (a' := ?_) (bA 28 1) rfl rfl (any_of HT_.out (by kernel_rfl)) (fun _ _ _ h => h) (Or.inl ⟨by rfl,?_⟩) ?_ ?_
      rotate_left
      ·intro w'
       go_simp
       with_reducible rfl
      rotate_left
      ·simp only [Act.put,z1_,z2_,z3_,i64_w,i32_w]
       rfl
      refine pure_ (i := 1) (N := some 24) (v := ?_) (a' := ?_) (bA 28 3) rfl rfl (any_of HT_.out (by kernel_rfl)) (fun _ _ _ h => h) (Or.inl ⟨by rfl,?_⟩) ?_ ?_
      rotate_left
      ·intro w'
       go_simp
       with_reducible rfl
      rotate_left
      ·simp only [Act.put,z1_,z2_,z3_,i64_w,i32_w]
       rfl
      refine pure_ (i := 2) (N := some 25) (v := ?_) (a' := ?_) (bA 28 7) rfl rfl (any_of HT_.out (by kernel_rfl)) (fun _ _ _ h => h) (Or.inl ⟨by rfl,?_⟩) ?_ ?_
      rotate_left
      ·intro w'
       go_simp
       with_reducible rfl
      rotate_left
      ·simp only [Act.put,z1_,z2_,z3_,i64_w,i32_w]
       rfl
      refine pure_ (i := 3) (N := some 26) (v := ?_) (a' := ?_) (bA 28 15) rfl rfl (any_of HT_.out (by kernel_rfl)) (fun _ _ _ h => h) (Or.inl ⟨by rfl,?_⟩) ?_ ?_
      rotate_left
      ·intro w'
       go_simp
       with_reducible rfl
      rotate_left
      ·simp only [Act.put,z1_,z2_,z3_,i64_w,i32_w]
       rfl
      refine pure_ (i := 4) (N := some 27) (v := ?_) (a' := ?_) (bA 28 31) rfl rfl (any_of HT_.out (by kernel_rfl)) (fun _ _ _ h => h) (Or.inl ⟨by rfl,?_⟩) ?_ ?_
      rotate_left
      ·intro w'
       go_simp
       with_reducible rfl
      rotate_left
      ·simp only [Act.put,z1_,z2_,z3_,i64_w,i32_w]
       rfl
      refine pure_ (i := 5) (N := some 28) (v := ?_) (a' := ?_) (bA 28 63) rfl rfl (any_of HT_.out (by kernel_rfl)) (fun _ _ _ h => h) (Or.inl ⟨by rfl,?_⟩) ?_ ?_
      rotate_left
      ·intro w'
       go_simp
       with_reducible rfl
      rotate_left
      ·simp only [Act.put,z1_,z2_,z3_,i64_w,i32_w]
       rfl
      refine pure_ (i := 6) (N := some 29) (v := ?_) (a' := ?_) (bA 28 127) rfl rfl (any_of HT_.out (by kernel_rfl)) (fun _ _ _ h => h) (Or.inl ⟨by rfl,?_⟩) ?_ ?_
      rotate_left
      ·intro w'
       go_simp
       with_reducible rfl
      rotate_left
      ·simp only [Act.put,z1_,z2_,z3_,i64_w,i32_w]
       rfl
      refine pure_ (i := 7) (N := some 30) (v := ?_) (a' := ?_) (bA 28 255) rfl rfl (any_of HT_.out (by kernel_rfl)) (fun _ _ _ h => h) (Or.inl ⟨by rfl,?_⟩) ?_ ?_
      rotate_left
      ·intro w'
       go_simp
       with_reducible rfl
      rotate_left
      ·simp only [Act.put,z1_,z2_,z3_,i64_w,i32_w]
       rfl
      refine pure_ (i := 8) (N := some 31) (v := ?_) (a' := ?_) (bA 28 511) rfl rfl (any_of HT_.out (by kernel_rfl)) (fun _ _ _ h => h) (Or.inl ⟨by rfl,?_⟩) ?_ ?_
      rotate_left
      ·intro w'
       go_simp
       with_reducible rfl
      rotate_left
      ·simp only [Act.put,z1_,z2_,z3_,i64_w,i32_w]
       rfl
      refine pure_ (i := 9) (N := some 32) (v := ?_) (a' := ?_) (bA 28 1023) rfl rfl (any_of HT_.out (by kernel_rfl)) (fun _ _ _ h => h) (Or.inl ⟨by rfl,?_⟩) ?_ ?_
      rotate_left
      ·intro w'
       go_simp
       with_reducible rfl
      rotate_left
      ·simp only [Act.put,z1_,z2_,z3_,i64_w,i32_w]
       rfl
      refine pure_ (i := 10) (N := some 33) (v := ?_) (a' := ?_) (bA 28 2047) rfl rfl (any_of HT_.out (by kernel_rfl)) (fun _ _ _ h => h) (Or.inl ⟨by rfl,?_⟩) ?_ ?_
      rotate_left
      ·intro w'
       go_simp
       with_reducible rfl
      rotate_left
      ·simp only [Act.put,z1_,z2_,z3_,i64_w,i32_w]
       rfl
      refine pure_ (i := 11) (N := some 34) (v := undef) (a' := ?_) (bA 28 4095) rfl rfl (any_of HT_.out (by kernel_rfl)) (fun _ _ _ h => h) (Or.inr ⟨by rfl,rfl⟩) ?_ ?_
      rotate_left
      ·simp only [Act.put,z1_,z2_,z3_,i64_w,i32_w]
       rfl
      refine pure_ (i := 12) (N := some 35) (v := undef) (a' := ?_) (bA 28 8191) rfl rfl (any_of HT_.out (by kernel_rfl)) (fun _ _ _ h => h) (Or.inr ⟨by rfl,rfl⟩) ?_ ?_
      rotate_left
      ·simp only [Act.put,z1_,z2_,z3_,i64_w,i32_w]
       rfl
      refine pure_ (i := 13) (N := some 36) (v := undef) (a' := ?_) (bA 28 16383) rfl rfl (any_of HT_.out (by kernel_rfl)) (fun _ _ _ h => h) (Or.inr ⟨by rfl,rfl⟩) ?_ ?_
      rotate_left
      ·simp only [Act.put,z1_,z2_,z3_,i64_w,i32_w]
       rfl
      refine pure_ (i := 14) (N := some 37) (v := undef) (a' := ?_) (bA 28 32767) rfl rfl (any_of HT_.out (by kernel_rfl)) (fun _ _ _ h => h) (Or.inr ⟨by rfl,rfl⟩) ?_ ?_
      rotate_left
      ·simp only [Act.put,z1_,z2_,z3_,i64_w,i32_w]
       rfl
      refine pure_ (i := 15) (N := some 38) (v := ?_) (a' := ?_) (bA 28 65535) rfl rfl (any_of HT_.out (by kernel_rfl)) (fun _ _ _ h => h) (Or.inl ⟨by rfl,?_⟩) ?_ ?_
      rotate_left
      ·intro w'
       go_simp
       with_reducible rfl
      rotate_left
      ·simp only [Act.put,z1_,z2_,z3_,i64_w,i32_w]
       rfl
      refine pure_ (i := 16) (N := some 39) (v := ?_) (a' := ?_) (bA 28 131071) rfl rfl (any_of HT_.out (by kernel_rfl)) (fun _ _ _ h => h) (Or.inl ⟨by rfl,?_⟩) ?_ ?_
      rotate_left
      ·intro w'
       go_simp
       with_reducible rfl
      rotate_left
      ·simp only [Act.put,z1_,z2_,z3_,i64_w,i32_w]
       rfl
      refine pure_ (i := 17) (N := some 40) (v := undef) (a' := ?_) (bA 28 262143) rfl rfl (any_of HT_.out (by kernel_rfl)) (fun _ _ _ h => h) (Or.inr ⟨by rfl,rfl⟩) ?_ ?_
      rotate_left
      ·simp only [Act.put,z1_,z2_,z3_,i64_w,i32_w]
       rfl
      refine pure_ (i := 18) (N := some 41) (v := undef) (a' := ?_) (bA 28 524287) rfl rfl (any_of HT_.out (by kernel_rfl)) (fun _ _ _ h => h) (Or.inr ⟨by rfl,rfl⟩) ?_ ?_
      rotate_left
      ·simp only [Act.put,z1_,z2_,z3_,i64_w,i32_w]
       rfl
      refine pure_ (i := 19) (N := some 42) (v := undef) (a' := ?_) (bA 28 1048575) rfl rfl (any_of HT_.out (by kernel_rfl)) (fun _ _ _ h => h) (Or.inr ⟨by rfl,rfl⟩) ?_ ?_
      rotate_left
      ·simp only [Act.put,z1_,z2_,z3_,i64_w,i32_w]
       rfl
      refine pure_ (i := 20) (N := some 43) (v := undef) (a' := ?_) (bA 28 2097151) rfl rfl (any_of HT_.out (by kernel_rfl)) (fun _ _ _ h => h) (Or.inr ⟨by rfl,rfl⟩) ?_ ?_
      rotate_left
      ·simp only [Act.put,z1_,z2_,z3_,i64_w,i32_w]
       rfl
      refine pure_ (i := 21) (N := some 44) (v := undef) (a' := ?_) (bA 28 4194303) rfl rfl (any_of HT_.out (by kernel_rfl)) (fun _ _ _ h => h) (Or.inr ⟨by rfl,rfl⟩) ?_ ?_
      rotate_left
      ·simp only [Act.put,z1_,z2_,z3_,i64_w,i32_w]
       rfl
      refine pure_ (i := 22) (N := some 45) (v := undef) (a' := ?_) (bA 28 8388607) rfl rfl (any_of HT_.out (by kernel_rfl)) (fun _ _ _ h => h) (Or.inr ⟨by rfl,rfl⟩) ?_ ?_
      rotate_left
      ·simp only [Act.put,z1_,z2_,z3_,i64_w,i32_w]
       rfl
      refine pure_ (i := 23) (N := some 46) (v := undef) (a' := ?_) (bA 28 16777215) rfl rfl (any_of HT_.out (by kernel_rfl)) (fun _ _ _ h => h) (Or.inr ⟨by rfl,rfl⟩) ?_ ?_
      rotate_left
      ·simp only [Act.put,z1_,z2_,z3_,i64_w,i32_w]
       rfl
      refine pure_ (i := 24) (N := some 47) (v := undef) (a' := ?_) (bA 28 33554431) rfl rfl (any_of HT_.out (by kernel_rfl)) (fun _ _ _ h => h) (Or.inr ⟨by rfl,rfl⟩) ?_ ?_
      rotate_left
      ·simp only [Act.put,z1_,z2_,z3_,i64_w,i32_w]
       rfl
      refine pure_ (i := 25) (N := some 48) (v := undef) (a' := ?_) (bA 28 67108863) rfl rfl (any_of HT_.out (by kernel_rfl)) (fun _ _ _ h => h) (Or.inr ⟨by rfl,rfl⟩) ?_ ?_
      rotate_left
      ·simp only [Act.put,z1_,z2_,z3_,i64_w,i32_w]
       rfl
      refine pure_ (i := 26) (N := some 49) (v := ?_) (a' := ?_) (bA 28 134217727) rfl rfl (any_of HT_.out (by kernel_rfl)) (fun _ _ _ h => h) (Or.inl ⟨by rfl,?_⟩) ?_ ?_
      rotate_left
      ·intro w'
       go_simp
       with_reducible rfl
      rotate_left
      ·simp only [Act.put,z1_,z2_,z3_,i64_w,i32_w]
       rfl
      refine pure_ (i := 27) (N := some 50) (v := ?_) (a' := ?_) (bA 28 268435455) rfl rfl (any_of HT_.out (by kernel_rfl)) (fun _ _ _ h => h) (Or.inl ⟨by rfl,?_⟩) ?_ ?_
      rotate_left
      ·intro w'
       go_simp
       with_reducible rfl
      rotate_left
      ·simp only [Act.put,z1_,z2_,z3_,i64_w,i32_w]
       rfl
      refine done_ (done_of HT_.out (by kernel_rfl)) ?_
      try go_wp2
      go_meet
      case rel => exact ⟨_,(true),(by first|rfl|(simp;done)|(simp [*];done)),H',⟨by first|omega|exact Nat.le_refl _⟩,⟨bM HB.out⟩⟩
     ·rw [if_neg bg] at H
      have bp := decide_eq_false bg
      clear bg
      by_cases bh : ah > (l0.length : Int)
      ·rw [if_pos bh] at H
       have bq := decide_eq_true bh
       clear bh
       have H' := aK H
       clear H
       try go_wp2
       have ae := aK (below_drew1 HB.out)
       clear HB
       have HB := ae
       clear ae
       refine start_ (n := 28) (S := fun w' => True) (ds := []) (bA 28 0) (by kernel_rfl) rfl rfl trivial (fun hHeld => ?_);refine with_tabW l03_VarintOnce.tab4 l03_VarintOnce.bits4 (fun HT_ HW_ => ?_)
       generalize w8.drew = w15 at HB hHeld ⊢
       refine pure_ (i := 0) (N := some 23) (v := ?_) (a' := ?_) (bA 28 1) rfl rfl (any_of HT_.out (by kernel_rfl)) (fun _ _ _ h => h) (Or.inl ⟨by rfl,?_⟩) ?_ ?_
       rotate_left
       ·intro w'
        go_simp
        with_reducible rfl
       rotate_left
       ·simp only [Act.put,z1_,z2_,z3_,i64_w,i32_w]
        rfl
       refine pure_ (i := 1) (N := some 24) (v := ?_) (a' := ?_) (bA 28 3) rfl rfl (any_of HT_.out (by kernel_rfl)) (fun _ _ _ h => h) (Or.inl ⟨by rfl,?_⟩) ?_ ?_
       rotate_left
       ·intro w'
        go_simp
        with_reducible rfl
       rotate_left
       ·simp only [Act.put,z1_,z2_,z3_,i64_w,i32_w]
        rfl
       refine pure_ (i := 2) (N := some 25) (v := ?_) (a' := ?_) (bA 28 7) rfl rfl (any_of HT_.out (by kernel_rfl)) (fun _ _ _ h => h) (Or.inl ⟨by rfl,?_⟩) ?_ ?_
       rotate_left
       ·intro w'
        go_simp
        with_reducible rfl
       rotate_left
       ·simp only [Act.put,z1_,z2_,z3_,i64_w,i32_w]
        rfl
       refine pure_ (i := 3) (N := some 26) (v := ?_) (a' := ?_) (bA 28 15) rfl rfl (any_of HT_.out (by kernel_rfl)) (fun _ _ _ h => h) (Or.inl ⟨by rfl,?_⟩) ?_ ?_
       rotate_left
       ·intro w'
        go_simp
        with_reducible rfl
       rotate_left
       ·simp only [Act.put,z1_,z2_,z3_,i64_w,i32_w]
        rfl
       refine pure_ (i := 4) (N := some 27) (v := ?_) (a' := ?_) (bA 28 31) rfl rfl (any_of HT_.out (by kernel_rfl)) (fun _ _ _ h => h) (Or.inl ⟨by rfl,?_⟩) ?_ ?_
       rotate_left
       ·intro w'
        go_simp
        with_reducible rfl
       rotate_left
       ·simp only [Act.put,z1_,z2_,z3_,i64_w,i32_w]
        rfl
       refine pure_ (i := 5) (N := some 28) (v := ?_) (a' := ?_) (bA 28 63) rfl rfl (any_of HT_.out (by kernel_rfl)) (fun _ _ _ h => h) (Or.inl ⟨by rfl,?_⟩) ?_ ?_
       rotate_left
       ·intro w'
        go_simp
        with_reducible rfl
       rotate_left
       ·simp only [Act.put,z1_,z2_,z3_,i64_w,i32_w]
        rfl
       refine pure_ (i := 6) (N := some 29) (v := ?_) (a' := ?_) (bA 28 127) rfl rfl (any_of HT_.out (by kernel_rfl)) (fun _ _ _ h => h) (Or.inl ⟨by rfl,?_⟩) ?_ ?_
       rotate_left
       ·intro w'
        go_simp
        with_reducible rfl
       rotate_left
       ·simp only [Act.put,z1_,z2_,z3_,i64_w,i32_w]
        rfl
       refine pure_ (i := 7) (N := some 30) (v := ?_) (a' := ?_) (bA 28 255) rfl rfl (any_of HT_.out (by kernel_rfl)) (fun _ _ _ h => h) (Or.inl ⟨by rfl,?_⟩) ?_ ?_
       rotate_left
       ·intro w'
        go_simp
        with_reducible rfl
       rotate_left
       ·simp only [Act.put,z1_,z2_,z3_,i64_w,i32_w]
        rfl
       refine pure_ (i := 8) (N := some 31) (v := ?_) (a' := ?_) (bA 28 511) rfl rfl (any_of HT_.out (by kernel_rfl)) (fun _ _ _ h => h) (Or.inl ⟨by rfl,?_⟩) ?_ ?_
       rotate_left
       ·intro w'
        go_simp
        with_reducible rfl
       rotate_left
       ·simp only [Act.put,z1_,z2_,z3_,i64_w,i32_w]
        rfl
       refine pure_ (i := 9) (N := some 32) (v := ?_) (a' := ?_) (bA 28 1023) rfl rfl (any_of HT_.out (by kernel_rfl)) (fun _ _ _ h => h) (Or.inl ⟨by rfl,?_⟩) ?_ ?_
       rotate_left
       ·intro w'
        go_simp
        with_reducible rfl
       rotate_left
       ·simp only [Act.put,z1_,z2_,z3_,i64_w,i32_w]
        rfl
       refine pure_ (i := 10) (N := some 33) (v := ?_) (a' := ?_) (bA 28 2047) rfl rfl (any_of HT_.out (by kernel_rfl)) (fun _ _ _ h => h) (Or.inl ⟨by rfl,?_⟩) ?_ ?_
       rotate_left
       ·intro w'
        go_simp
        with_reducible rfl
       rotate_left
       ·simp only [Act.put,z1_,z2_,z3_,i64_w,i32_w]
        rfl
       refine pure_ (i := 11) (N := some 34) (v := ?_) (a' := ?_) (bA 28 4095) rfl rfl (any_of HT_.out (by kernel_rfl)) (fun _ _ _ h => h) (Or.inl ⟨by rfl,?_⟩) ?_ ?_
       rotate_left
       ·intro w'
        go_simp
        with_reducible rfl
       rotate_left
       ·simp only [Act.put,z1_,z2_,z3_,i64_w,i32_w]
        rfl
       refine pure_ (i := 12) (N := some 35) (v := ?_) (a' := ?_) (bA 28 8191) rfl rfl (any_of HT_.out (by kernel_rfl)) (fun _ _ _ h => h) (Or.inl ⟨by rfl,?_⟩) ?_ ?_
       rotate_left
       ·intro w'
        go_simp
        with_reducible rfl
       rotate_left
       ·simp only [Act.put,z1_,z2_,z3_,i64_w,i32_w]
        rfl
       refine pure_ (i := 13) (N := some 36) (v := ?_) (a' := ?_) (bA 28 16383) rfl rfl (any_of HT_.out (by kernel_rfl)) (fun _ _ _ h => h) (Or.inl ⟨by rfl,?_⟩) ?_ ?_
       rotate_left
       ·intro w'
        go_simp
        with_reducible rfl
       rotate_left
       ·simp only [Act.put,z1_,z2_,z3_,i64_w,i32_w]
        rfl
       refine pure_ (i := 14) (N := some 37) (v := ?_) (a' := ?_) (bA 28 32767) rfl rfl (any_of HT_.out (by kernel_rfl)) (fun _ _ _ h => h) (Or.inl ⟨by rfl,?_⟩) ?_ ?_
       rotate_left
       ·intro w'
        go_simp
        with_reducible rfl
       rotate_left
       ·simp only [Act.put,z1_,z2_,z3_,i64_w,i32_w]
        rfl
       refine pure_ (i := 15) (N := some 38) (v := ?_) (a' := ?_) (bA 28 65535) rfl rfl (any_of HT_.out (by kernel_rfl)) (fun _ _ _ h => h) (Or.inl ⟨by rfl,?_⟩) ?_ ?_
       rotate_left
       ·intro w'
        go_simp
        with_reducible rfl
       rotate_left
       ·simp only [Act.put,z1_,z2_,z3_,i64_w,i32_w]
        rfl
       refine pure_ (i := 16) (N := some 39) (v := ?_) (a' := ?_) (bA 28 131071) rfl rfl (any_of HT_.out (by kernel_rfl)) (fun _ _ _ h => h) (Or.inl ⟨by rfl,?_⟩) ?_ ?_
       rotate_left
       ·intro w'
        go_simp
        with_reducible rfl
       rotate_left
       ·simp only [Act.put,z1_,z2_,z3_,i64_w,i32_w]
        rfl
       refine pure_ (i := 17) (N := some 40) (v := undef) (a' := ?_) (bA 28 262143) rfl rfl (any_of HT_.out (by kernel_rfl)) (fun _ _ _ h => h) (Or.inr ⟨by rfl,rfl⟩) ?_ ?_
       rotate_left
       ·simp only [Act.put,z1_,z2_,z3_,i64_w,i32_w]
        rfl
       refine pure_ (i := 18) (N := some 41) (v := undef) (a' := ?_) (bA 28 524287) rfl rfl (any_of HT_.out (by kernel_rfl)) (fun _ _ _ h => h) (Or.inr ⟨by rfl,rfl⟩) ?_ ?_
       rotate_left
       ·simp only [Act.put,z1_,z2_,z3_,i64_w,i32_w]
        rfl
       refine pure_ (i := 19) (N := some 42) (v := undef) (a' := ?_) (bA 28 1048575) rfl rfl (any_of HT_.out (by kernel_rfl)) (fun _ _ _ h => h) (Or.inr ⟨by rfl,rfl⟩) ?_ ?_
       rotate_left
       ·simp only [Act.put,z1_,z2_,z3_,i64_w,i32_w]
        rfl
       refine pure_ (i := 20) (N := some 43) (v := undef) (a' := ?_) (bA 28 2097151) rfl rfl (any_of HT_.out (by kernel_rfl)) (fun _ _ _ h => h) (Or.inr ⟨by rfl,rfl⟩) ?_ ?_
       rotate_left
       ·simp only [Act.put,z1_,z2_,z3_,i64_w,i32_w]
        rfl
       refine pure_ (i := 21) (N := some 44) (v := undef) (a' := ?_) (bA 28 4194303) rfl rfl (any_of HT_.out (by kernel_rfl)) (fun _ _ _ h => h) (Or.inr ⟨by rfl,rfl⟩) ?_ ?_
       rotate_left
       ·simp only [Act.put,z1_,z2_,z3_,i64_w,i32_w]
        rfl
       refine pure_ (i := 22) (N := some 45) (v := undef) (a' := ?_) (bA 28 8388607) rfl rfl (any_of HT_.out (by kernel_rfl)) (fun _ _ _ h => h) (Or.inr ⟨by rfl,rfl⟩) ?_ ?_
       rotate_left
       ·simp only [Act.put,z1_,z2_,z3_,i64_w,i32_w]
        rfl
       refine pure_ (i := 23) (N := some 46) (v := undef) (a' := ?_) (bA 28 16777215) rfl rfl (any_of HT_.out (by kernel_rfl)) (fun _ _ _ h => h) (Or.inr ⟨by rfl,rfl⟩) ?_ ?_
       rotate_left
       ·simp only [Act.put,z1_,z2_,z3_,i64_w,i32_w]
        rfl
       refine pure_ (i := 24) (N := some 47) (v := undef) (a' := ?_) (bA 28 33554431) rfl rfl (any_of HT_.out (by kernel_rfl)) (fun _ _ _ h => h) (Or.inr ⟨by rfl,rfl⟩) ?_ ?_
       rotate_left
       ·simp only [Act.put,z1_,z2_,z3_,i64_w,i32_w]
        rfl
       refine pure_ (i := 25) (N := some 48) (v := undef) (a' := ?_) (bA 28 67108863) rfl rfl (any_of HT_.out (by kernel_rfl)) (fun _ _ _ h => h) (Or.inr ⟨by rfl,rfl⟩) ?_ ?_
       rotate_left
       ·simp only [Act.put,z1_,z2_,z3_,i64_w,i32_w]
        rfl
       refine pure_ (i := 26) (N := some 49) (v := ?_) (a' := ?_) (bA 28 134217727) rfl rfl (any_of HT_.out (by kernel_rfl)) (fun _ _ _ h => h) (Or.inl ⟨by rfl,?_⟩) ?_ ?_
       rotate_left
       ·intro w'
        go_simp
        with_reducible rfl
       rotate_left
       ·simp only [Act.put,z1_,z2_,z3_,i64_w,i32_w]
        rfl
       refine pure_ (i := 27) (N := some 50) (v := ?_) (a' := ?_) (bA 28 268435455) rfl rfl (any_of HT_.out (by kernel_rfl)) (fun _ _ _ h => h) (Or.inl ⟨by rfl,?_⟩) ?_ ?_
       rotate_left
       ·intro w'
        go_simp
        with_reducible rfl
       rotate_left
       ·simp only [Act.put,z1_,z2_,z3_,i64_w,i32_w]
        rfl
       refine done_ (done_of HT_.out (by kernel_rfl)) ?_
       try go_wp2
       go_meet
       case rel => exact ⟨_,(true),(by first|rfl|(simp;done)|(simp [*];done)),H',⟨by first|omega|exact Nat.le_refl _⟩,⟨bM HB.out⟩⟩
      ·rw [if_neg bh] at H
       have bq := decide_eq_false bh
       clear bh
       replace H := Option.bind_eq_some_iff.mp H
       obtain ⟨aH,br,H⟩ := H
       have cW := aK br
       clear br
       obtain ⟨b5,H⟩ := iS H
       have cz := eq_true b5
       have cA := decide_eq_true b5
       clear b5
       obtain ⟨b6,H⟩ := iS H
       have cB := eq_true b6
       have cC := decide_eq_true b6
       clear b6
       obtain ⟨b7,H⟩ := iS H
       have cD := eq_true b7
       have cE := decide_eq_true b7
       clear b7
       have H' := aK H
       clear H
       try go_wp2
       have ae := aK (below_drew1 HB.out)
       clear HB
       have HB := ae
       clear ae
       obtain ⟨cX,aN,_,aO,_⟩ := info_parts info5
       obtain ⟨b8,b9,bs,bu⟩ := print_mid_of (P := Try.prog) (Value.int .u8) 0 22 5 .i64 .i64 Try.underlying22 aN aO A0 c0 l0 a1 ah (dA) (by first|omega|exact dA) (dA) aF.out
       have av := aK (Kd.C_of_reads (h1 := fun _ => rfl) (bs _ (Kd.reads_of_C aE.out)))
       have cF := aK bu
       clear bs bu aN aO
       refine start_ (n := 28) (S := fun w' => Below w.heap.size w w') (ds := []) (bA 28 0) (by kernel_rfl) rfl rfl HB.out (fun hHeld => ?_);refine with_tabW l03_VarintOnce.tab4 l03_VarintOnce.bits4 (fun HT_ HW_ => ?_)
       generalize w8.drew = w20 at HB av hHeld ⊢
       refine pure_ (i := 0) (N := some 23) (v := ?_) (a' := ?_) (bA 28 1) rfl rfl (any_of HT_.out (by kernel_rfl)) (fun _ _ _ h => h) (Or.inl ⟨by rfl,?_⟩) ?_ ?_
       rotate_left
       ·intro w'
        go_simp
        with_reducible rfl
       rotate_left
       ·simp only [Act.put,z1_,z2_,z3_,i64_w,i32_w]
        rfl
       refine pure_ (i := 1) (N := some 24) (v := ?_) (a' := ?_) (bA 28 3) rfl rfl (any_of HT_.out (by kernel_rfl)) (fun _ _ _ h => h) (Or.inl ⟨by rfl,?_⟩) ?_ ?_
       rotate_left
       ·intro w'
        go_simp
        with_reducible rfl
       rotate_left
       ·simp only [Act.put,z1_,z2_,z3_,i64_w,i32_w]
        rfl
       refine pure_ (i := 2) (N := some 25) (v := ?_) (a' := ?_) (bA 28 7) rfl rfl (any_of HT_.out (by kernel_rfl)) (fun _ _ _ h => h) (Or.inl ⟨by rfl,?_⟩) ?_ ?_
       rotate_left
       ·intro w'
        go_simp
        with_reducible rfl
       rotate_left
       ·simp only [Act.put,z1_,z2_,z3_,i64_w,i32_w]
        rfl
       refine pure_ (i := 3) (N := some 26) (v := ?_) (a' := ?_) (bA 28 15) rfl rfl (any_of HT_.out (by kernel_rfl)) (fun _ _ _ h => h) (Or.inl ⟨by rfl,?_⟩) ?_ ?_
       rotate_left
       ·intro w'
        go_simp
        with_reducible rfl
       rotate_left
       ·simp only [Act.put,z1_,z2_,z3_,i64_w,i32_w]
        rfl
       refine pure_ (i := 4) (N := some 27) (v := ?_) (a' := ?_) (bA 28 31) rfl rfl (any_of HT_.out (by kernel_rfl)) (fun _ _ _ h => h) (Or.inl ⟨by rfl,?_⟩) ?_ ?_
       rotate_left
       ·intro w'
        go_simp
        with_reducible rfl
       rotate_left
       ·simp only [Act.put,z1_,z2_,z3_,i64_w,i32_w]
        rfl
       refine pure_ (i := 5) (N := some 28) (v := ?_) (a' := ?_) (bA 28 63) rfl rfl (any_of HT_.out (by kernel_rfl)) (fun _ _ _ h => h) (Or.inl ⟨by rfl,?_⟩) ?_ ?_
       rotate_left
       ·intro w'
        go_simp
        with_reducible rfl
       rotate_left
       ·simp only [Act.put,z1_,z2_,z3_,i64_w,i32_w]
        rfl
       refine pure_ (i := 6) (N := some 29) (v := ?_) (a' := ?_) (bA 28 127) rfl rfl (any_of HT_.out (by kernel_rfl)) (fun _ _ _ h => h) (Or.inl ⟨by rfl,?_⟩) ?_ ?_
       rotate_left
       ·intro w'
        go_simp
        with_reducible rfl
       rotate_left
       ·simp only [Act.put,z1_,z2_,z3_,i64_w,i32_w]
        rfl
       refine pure_ (i := 7) (N := some 30) (v := ?_) (a' := ?_) (bA 28 255) rfl rfl (any_of HT_.out (by kernel_rfl)) (fun _ _ _ h => h) (Or.inl ⟨by rfl,?_⟩) ?_ ?_
       rotate_left
       ·intro w'
        go_simp
        with_reducible rfl
       rotate_left
       ·simp only [Act.put,z1_,z2_,z3_,i64_w,i32_w]
        rfl
       refine pure_ (i := 8) (N := some 31) (v := ?_) (a' := ?_) (bA 28 511) rfl rfl (any_of HT_.out (by kernel_rfl)) (fun _ _ _ h => h) (Or.inl ⟨by rfl,?_⟩) ?_ ?_
       rotate_left
       ·intro w'
        go_simp
        with_reducible rfl
       rotate_left
       ·simp only [Act.put,z1_,z2_,z3_,i64_w,i32_w]
        rfl
       refine pure_ (i := 9) (N := some 32) (v := ?_) (a' := ?_) (bA 28 1023) rfl rfl (any_of HT_.out (by kernel_rfl)) (fun _ _ _ h => h) (Or.inl ⟨by rfl,?_⟩) ?_ ?_
       rotate_left
       ·intro w'
        go_simp
        with_reducible rfl
       rotate_left
       ·simp only [Act.put,z1_,z2_,z3_,i64_w,i32_w]
        rfl
       refine pure_ (i := 10) (N := some 33) (v := ?_) (a' := ?_) (bA 28 2047) rfl rfl (any_of HT_.out (by kernel_rfl)) (fun _ _ _ h => h) (Or.inl ⟨by rfl,?_⟩) ?_ ?_
       rotate_left
       ·intro w'
        go_simp
        with_reducible rfl
       rotate_left
       ·simp only [Act.put,z1_,z2_,z3_,i64_w,i32_w]
        rfl
       refine pure_ (i := 11) (N := some 34) (v := ?_) (a' := ?_) (bA 28 4095) rfl rfl (any_of HT_.out (by kernel_rfl)) (fun _ _ _ h => h) (Or.inl ⟨by rfl,?_⟩) ?_ ?_
       rotate_left
       ·intro w'
        go_simp
        with_reducible rfl
       rotate_left
       ·simp only [Act.put,z1_,z2_,z3_,i64_w,i32_w]
        rfl
       refine pure_ (i := 12) (N := some 35) (v := ?_) (a' := ?_) (bA 28 8191) rfl rfl (any_of HT_.out (by kernel_rfl)) (fun _ _ _ h => h) (Or.inl ⟨by rfl,?_⟩) ?_ ?_
       rotate_left
       ·intro w'
        go_simp
        with_reducible rfl
       rotate_left
       ·simp only [Act.put,z1_,z2_,z3_,i64_w,i32_w]
        rfl
       refine pure_ (i := 13) (N := some 36) (v := ?_) (a' := ?_) (bA 28 16383) rfl rfl (any_of HT_.out (by kernel_rfl)) (fun _ _ _ h => h) (Or.inl ⟨by rfl,?_⟩) ?_ ?_
       rotate_left
       ·intro w'
        go_simp
        with_reducible rfl
       rotate_left
       ·simp only [Act.put,z1_,z2_,z3_,i64_w,i32_w]
        rfl
       refine pure_ (i := 14) (N := some 37) (v := ?_) (a' := ?_) (bA 28 32767) rfl rfl (any_of HT_.out (by kernel_rfl)) (fun _ _ _ h => h) (Or.inl ⟨by rfl,?_⟩) ?_ ?_
       rotate_left
       ·intro w'
        go_simp
        with_reducible rfl
       rotate_left
       ·simp only [Act.put,z1_,z2_,z3_,i64_w,i32_w]
        rfl
       refine pure_ (i := 15) (N := some 38) (v := ?_) (a' := ?_) (bA 28 65535) rfl rfl (any_of HT_.out (by kernel_rfl)) (fun _ _ _ h => h) (Or.inl ⟨by rfl,?_⟩) ?_ ?_
       rotate_left
       ·intro w'
        go_simp
        with_reducible rfl
       rotate_left
       ·simp only [Act.put,z1_,z2_,z3_,i64_w,i32_w]
        rfl
       refine pure_ (i := 16) (N := some 39) (v := ?_) (a' := ?_) (bA 28 131071) rfl rfl (any_of HT_.out (by kernel_rfl)) (fun _ _ _ h => h) (Or.inl ⟨by rfl,?_⟩) ?_ ?_
       rotate_left
       ·intro w'
        go_simp
        with_reducible rfl
       rotate_left
       ·simp only [Act.put,z1_,z2_,z3_,i64_w,i32_w]
        rfl
       refine pure_ (i := 17) (N := some 40) (v := ?_) (a' := ?_) (bA 28 262143) rfl rfl (any_of HT_.out (by kernel_rfl)) (fun _ _ _ h => h) (Or.inl ⟨by rfl,?_⟩) ?_ ?_
       rotate_left
       ·intro w'
        go_simp
        with_reducible rfl
       rotate_left
       ·simp only [Act.put,z1_,z2_,z3_,i64_w,i32_w]
        rfl
       refine pure_ (i := 20) (N := some 43) (v := ?_) (a' := ?_) (bA 28 1310719) rfl rfl (any_of HT_.out (by kernel_rfl)) (fun _ _ _ h => h) (Or.inl ⟨by rfl,?_⟩) ?_ ?_
       rotate_left
       ·intro w'
        go_simp
        with_reducible rfl
       rotate_left
       ·simp only [Act.put,z1_,z2_,z3_,i64_w,i32_w]
        rfl
       refine pure_ (i := 21) (N := some 44) (v := ?_) (a' := ?_) (bA 28 3407871) rfl rfl (any_of HT_.out (by kernel_rfl)) (fun _ _ _ h => h) (Or.inl ⟨by rfl,?_⟩) ?_ ?_
       rotate_left
       ·intro w'
        go_simp
        with_reducible rfl
       rotate_left
       ·simp only [Act.put,z1_,z2_,z3_,i64_w,i32_w]
        rfl
       refine pure_ (i := 22) (N := some 45) (v := ?_) (a' := ?_) (bA 28 7602175) rfl rfl (any_of HT_.out (by kernel_rfl)) (fun _ _ _ h => h) (Or.inl ⟨by rfl,?_⟩) ?_ ?_
       rotate_left
       ·intro w'
        go_simp
        with_reducible rfl
       rotate_left
       ·simp only [Act.put,z1_,z2_,z3_,i64_w,i32_w]
        rfl
       refine pure_ (i := 23) (N := some 46) (v := ?_) (a' := ?_) (bA 28 15990783) rfl rfl (any_of HT_.out (by kernel_rfl)) (fun _ _ _ h => h) (Or.inl ⟨by rfl,?_⟩) ?_ ?_
       rotate_left
       ·intro w'
        go_simp
        with_reducible rfl
       rotate_left
       ·simp only [Act.put,z1_,z2_,z3_,i64_w,i32_w]
        rfl
       refine take_ (i := 24) (N := some 47) (v := ?_) (a' := ?_) (bA 28 32767999) rfl rfl (take_ofW HT_.out HW_.out (by kernel_rfl)) (fun _ _ _ h => h) (Or.inl ⟨by rfl,?_⟩) hHeld ?_ ?_
       rotate_left
       ·intro w' s_
        have cv_ := Kd.C_string (P := Try.prog) (A := b8) (c := (c0 - a1.toNat)) Try.underlying22 Try.underlying5 Try.underlying9 (Kd.C_below av.out s_)
        have aA : ((l0.take (ah : Int).toNat).drop (a1 : Int).toNat).length = (ah : Int).toNat - (a1 : Int).toNat := (by rw [z7_,z8_,Nat.min_eq_left (by simp only [decide_eq_true_eq,eq_iff_iff,iff_true] at *;omega)]);simp only [aA] at cv_;clear aA
        go_simp
        with_reducible rfl
       rotate_left
       ·simp only [Act.put,z1_,z2_,z3_,i64_w,i32_w]
        rfl
       refine one_ (i := 18) (N := some 41) (bA 28 33030143) rfl rfl (one_of HT_.out (by kernel_rfl)) (by decide) (fun K hK => ?_)
       refine goes_ Try.func17 (by kernel_rfl) rfl #[.slice none 0 0,.int .i64 aG] (by rfl) rfl rfl (by (try simp only [z4_,z5_,z6_]);first|done|rfl|(simp only [z7_,z8_];rfl)) ?_
       refine (varint_Put.calls _ _ ([] : List Int) aG aH _ ?ab ?ac cW.out).mono ?_
       (case ab => exact Kd.C_nil _ _)
       (case ac => exact Nat.le_refl _)
       rintro e dj ⟨cY,rfl,ag,hb⟩
       refine ⟨_,rfl,?_⟩
       have ae := aK (Kd.R_lower ag (below_size (bM HB.out)))
       have an := aK (below_step (bM HB.out) hb)
       clear HB
       have bv := ae
       have HB := an
       clear ae an
       (try clear hb)
       (try clear ag)
       have aP := Kd.C_string (P := Try.prog) (A := b8) (c := (c0 - a1.toNat)) Try.underlying22 Try.underlying5 Try.underlying9 (Kd.C_below av.out HB.out)
       have a0 := fun n_ : Nat => Kd.C_string (P := Try.prog) (A := b8) (c := (c0 - a1.toNat)) Try.underlying22 Try.underlying5 Try.underlying9 (Kd.C_drewN (Kd.C_below av.out HB.out) n_)
       (try (have aA : ((l0.take (ah : Int).toNat).drop (a1 : Int).toNat).length = (ah : Int).toNat - (a1 : Int).toNat := (by rw [z7_,z8_,Nat.min_eq_left (by simp only [decide_eq_true_eq,eq_iff_iff,iff_true] at *;omega)]);have a3 := aP;have a4 := a0;simp only [aA] at a3 a4;clear aA))
       refine hK.out _ _ HB.out (fun hHeld => ?_)
       clear hK K
       refine norm_ (a' := ?_) ?_ ?_
       rotate_left
       ·show Act.put _ (some 41) _ = _
        simp only [Act.put,z1_,z2_,z3_,i64_w,i32_w]
        rfl
       refine one_ (i := 19) (N := some 42) (bA 28 33554431) rfl rfl (one_of HT_.out (by kernel_rfl)) (by decide) (fun K hK => ?_)
       have aQ := own_string (P := Try.prog) Try.underlying22 Try.underlying5 Try.underlying9 (Kd.own_of_R bv.out)
       refine value_ (w1 := ?_) (v := ?_) (by rfl) rfl ?_ ?_
       rotate_left 2
       ·go_simp
        constructor
        ·rfl
        ·rfl
       clear aQ
       refine hK.out _ _ HB.out (fun hHeld => ?_)
       clear hK K
       refine norm_ (a' := ?_) ?_ ?_
       rotate_left
       ·show Act.put _ (some 42) _ = _
        simp only [Act.put,z1_,z2_,z3_,i64_w,i32_w]
        rfl
       refine pure_ (i := 25) (N := some 48) (v := ?_) (a' := ?_) (bA 28 67108863) rfl rfl (any_of HT_.out (by kernel_rfl)) (fun _ _ _ h => h) (Or.inl ⟨by rfl,?_⟩) ?_ ?_
       rotate_left
       ·intro w'
        go_simp
        with_reducible rfl
       rotate_left
       ·simp only [Act.put,z1_,z2_,z3_,i64_w,i32_w]
        rfl
       refine pure_ (i := 26) (N := some 49) (v := ?_) (a' := ?_) (bA 28 134217727) rfl rfl (any_of HT_.out (by kernel_rfl)) (fun _ _ _ h => h) (Or.inl ⟨by rfl,?_⟩) ?_ ?_
       rotate_left
       ·intro w'
        go_simp
        with_reducible rfl
       rotate_left
       ·simp only [Act.put,z1_,z2_,z3_,i64_w,i32_w]
        rfl
       refine pure_ (i := 27) (N := some 50) (v := ?_) (a' := ?_) (bA 28 268435455) rfl rfl (any_of HT_.out (by kernel_rfl)) (fun _ _ _ h => h) (Or.inl ⟨by rfl,?_⟩) ?_ ?_
       rotate_left
       ·intro w'
        go_simp
        with_reducible rfl
       rotate_left
       ·simp only [Act.put,z1_,z2_,z3_,i64_w,i32_w]
        rfl
       refine done_ (done_of HT_.out (by kernel_rfl)) ?_
       try go_wp2
       go_meet
       case rel => exact ⟨_,(((strOfNums aH).toList != (strOfNums ((l0.take (ah : Int).toNat).drop (a1 : Int).toNat)).toList)),(by first|rfl|(simp;done)|(simp [*];done)),H',⟨by first|omega|exact Nat.le_refl _⟩,⟨bM HB.out⟩⟩
   ·rw [if_neg c9] at H
    have az := beq_eq_false_iff_ne.mpr c9
    have aZ := bne_iff_ne.mpr c9
    (first|rw [az]|(simp only [i64_w,i32_w];rw [az])|rw [aZ]|skip)
    have H' := aK H
    clear H
    try go_wp2
    have ae := aK (below_drew1 HB.out)
    clear HB
    have HB := ae
    clear ae
    refine start_ (n := 28) (S := fun w' => True) (ds := []) (bA 28 0) (by kernel_rfl) rfl rfl trivial (fun hHeld => ?_);refine with_tabW l03_VarintOnce.tab4 l03_VarintOnce.bits4 (fun HT_ HW_ => ?_)
    generalize w8.drew = w26 at HB hHeld ⊢
    refine pure_ (i := 0) (N := some 23) (v := ?_) (a' := ?_) (bA 28 1) rfl rfl (any_of HT_.out (by kernel_rfl)) (fun _ _ _ h => h) (Or.inl ⟨by rfl,?_⟩) ?_ ?_
    rotate_left
    ·intro w'
     go_simp
     with_reducible rfl
    rotate_left
    ·simp only [Act.put,z1_,z2_,z3_,i64_w,i32_w]
     rfl
    refine pure_ (i := 1) (N := some 24) (v := ?_) (a' := ?_) (bA 28 3) rfl rfl (any_of HT_.out (by kernel_rfl)) (fun _ _ _ h => h) (Or.inl ⟨by rfl,?_⟩) ?_ ?_
    rotate_left
    ·intro w'
     go_simp
     with_reducible rfl
    rotate_left
    ·simp only [Act.put,z1_,z2_,z3_,i64_w,i32_w]
     rfl
    refine pure_ (i := 2) (N := some 25) (v := ?_) (a' := ?_) (bA 28 7) rfl rfl (any_of HT_.out (by kernel_rfl)) (fun _ _ _ h => h) (Or.inl ⟨by rfl,?_⟩) ?_ ?_
    rotate_left
    ·intro w'
     go_simp
     with_reducible rfl
    rotate_left
    ·simp only [Act.put,z1_,z2_,z3_,i64_w,i32_w]
     rfl
    refine pure_ (i := 3) (N := some 26) (v := undef) (a' := ?_) (bA 28 15) rfl rfl (any_of HT_.out (by kernel_rfl)) (fun _ _ _ h => h) (Or.inr ⟨by rfl,rfl⟩) ?_ ?_
    rotate_left
    ·simp only [Act.put,z1_,z2_,z3_,i64_w,i32_w]
     rfl
    refine pure_ (i := 4) (N := some 27) (v := undef) (a' := ?_) (bA 28 31) rfl rfl (any_of HT_.out (by kernel_rfl)) (fun _ _ _ h => h) (Or.inr ⟨by rfl,rfl⟩) ?_ ?_
    rotate_left
    ·simp only [Act.put,z1_,z2_,z3_,i64_w,i32_w]
     rfl
    refine pure_ (i := 5) (N := some 28) (v := undef) (a' := ?_) (bA 28 63) rfl rfl (any_of HT_.out (by kernel_rfl)) (fun _ _ _ h => h) (Or.inr ⟨by rfl,rfl⟩) ?_ ?_
    rotate_left
    ·simp only [Act.put,z1_,z2_,z3_,i64_w,i32_w]
     rfl
    refine pure_ (i := 6) (N := some 29) (v := undef) (a' := ?_) (bA 28 127) rfl rfl (any_of HT_.out (by kernel_rfl)) (fun _ _ _ h => h) (Or.inr ⟨by rfl,rfl⟩) ?_ ?_
    rotate_left
    ·simp only [Act.put,z1_,z2_,z3_,i64_w,i32_w]
     rfl
    refine pure_ (i := 7) (N := some 30) (v := undef) (a' := ?_) (bA 28 255) rfl rfl (any_of HT_.out (by kernel_rfl)) (fun _ _ _ h => h) (Or.inr ⟨by rfl,rfl⟩) ?_ ?_
    rotate_left
    ·simp only [Act.put,z1_,z2_,z3_,i64_w,i32_w]
     rfl
    refine pure_ (i := 8) (N := some 31) (v := undef) (a' := ?_) (bA 28 511) rfl rfl (any_of HT_.out (by kernel_rfl)) (fun _ _ _ h => h) (Or.inr ⟨by rfl,rfl⟩) ?_ ?_
    rotate_left
    ·simp only [Act.put,z1_,z2_,z3_,i64_w,i32_w]
     rfl
    refine pure_ (i := 9) (N := some 32) (v := undef) (a' := ?_) (bA 28 1023) rfl rfl (any_of HT_.out (by kernel_rfl)) (fun _ _ _ h => h) (Or.inr ⟨by rfl,rfl⟩) ?_ ?_
    rotate_left
    ·simp only [Act.put,z1_,z2_,z3_,i64_w,i32_w]
     rfl
    refine pure_ (i := 10) (N := some 33) (v := undef) (a' := ?_) (bA 28 2047) rfl rfl (any_of HT_.out (by kernel_rfl)) (fun _ _ _ h => h) (Or.inr ⟨by rfl,rfl⟩) ?_ ?_
    rotate_left
    ·simp only [Act.put,z1_,z2_,z3_,i64_w,i32_w]
     rfl
    refine pure_ (i := 11) (N := some 34) (v := undef) (a' := ?_) (bA 28 4095) rfl rfl (any_of HT_.out (by kernel_rfl)) (fun _ _ _ h => h) (Or.inr ⟨by rfl,rfl⟩) ?_ ?_
    rotate_left
    ·simp only [Act.put,z1_,z2_,z3_,i64_w,i32_w]
     rfl
    refine pure_ (i := 12) (N := some 35) (v := undef) (a' := ?_) (bA 28 8191) rfl rfl (any_of HT_.out (by kernel_rfl)) (fun _ _ _ h => h) (Or.inr ⟨by rfl,rfl⟩) ?_ ?_
    rotate_left
    ·simp only [Act.put,z1_,z2_,z3_,i64_w,i32_w]
     rfl
    refine pure_ (i := 13) (N := some 36) (v := undef) (a' := ?_) (bA 28 16383) rfl rfl (any_of HT_.out (by kernel_rfl)) (fun _ _ _ h => h) (Or.inr ⟨by rfl,rfl⟩) ?_ ?_
    rotate_left
    ·simp only [Act.put,z1_,z2_,z3_,i64_w,i32_w]
     rfl
    refine pure_ (i := 14) (N := some 37) (v := undef) (a' := ?_) (bA 28 32767) rfl rfl (any_of HT_.out (by kernel_rfl)) (fun _ _ _ h => h) (Or.inr ⟨by rfl,rfl⟩) ?_ ?_
    rotate_left
    ·simp only [Act.put,z1_,z2_,z3_,i64_w,i32_w]
     rfl
    refine pure_ (i := 15) (N := some 38) (v := undef) (a' := ?_) (bA 28 65535) rfl rfl (any_of HT_.out (by kernel_rfl)) (fun _ _ _ h => h) (Or.inr ⟨by rfl,rfl⟩) ?_ ?_
    rotate_left
    ·simp only [Act.put,z1_,z2_,z3_,i64_w,i32_w]
     rfl
    refine pure_ (i := 16) (N := some 39) (v := undef) (a' := ?_) (bA 28 131071) rfl rfl (any_of HT_.out (by kernel_rfl)) (fun _ _ _ h => h) (Or.inr ⟨by rfl,rfl⟩) ?_ ?_
    rotate_left
    ·simp only [Act.put,z1_,z2_,z3_,i64_w,i32_w]
     rfl
    refine pure_ (i := 17) (N := some 40) (v := undef) (a' := ?_) (bA 28 262143) rfl rfl (any_of HT_.out (by kernel_rfl)) (fun _ _ _ h => h) (Or.inr ⟨by rfl,rfl⟩) ?_ ?_
    rotate_left
    ·simp only [Act.put,z1_,z2_,z3_,i64_w,i32_w]
     rfl
    refine pure_ (i := 18) (N := some 41) (v := undef) (a' := ?_) (bA 28 524287) rfl rfl (any_of HT_.out (by kernel_rfl)) (fun _ _ _ h => h) (Or.inr ⟨by rfl,rfl⟩) ?_ ?_
    rotate_left
    ·simp only [Act.put,z1_,z2_,z3_,i64_w,i32_w]
     rfl
    refine pure_ (i := 19) (N := some 42) (v := undef) (a' := ?_) (bA 28 1048575) rfl rfl (any_of HT_.out (by kernel_rfl)) (fun _ _ _ h => h) (Or.inr ⟨by rfl,rfl⟩) ?_ ?_
    rotate_left
    ·simp only [Act.put,z1_,z2_,z3_,i64_w,i32_w]
     rfl
    refine pure_ (i := 20) (N := some 43) (v := undef) (a' := ?_) (bA 28 2097151) rfl rfl (any_of HT_.out (by kernel_rfl)) (fun _ _ _ h => h) (Or.inr ⟨by rfl,rfl⟩) ?_ ?_
    rotate_left
    ·simp only [Act.put,z1_,z2_,z3_,i64_w,i32_w]
     rfl
    refine pure_ (i := 21) (N := some 44) (v := undef) (a' := ?_) (bA 28 4194303) rfl rfl (any_of HT_.out (by kernel_rfl)) (fun _ _ _ h => h) (Or.inr ⟨by rfl,rfl⟩) ?_ ?_
    rotate_left
    ·simp only [Act.put,z1_,z2_,z3_,i64_w,i32_w]
     rfl
    refine pure_ (i := 22) (N := some 45) (v := undef) (a' := ?_) (bA 28 8388607) rfl rfl (any_of HT_.out (by kernel_rfl)) (fun _ _ _ h => h) (Or.inr ⟨by rfl,rfl⟩) ?_ ?_
    rotate_left
    ·simp only [Act.put,z1_,z2_,z3_,i64_w,i32_w]
     rfl
    refine pure_ (i := 23) (N := some 46) (v := undef) (a' := ?_) (bA 28 16777215) rfl rfl (any_of HT_.out (by kernel_rfl)) (fun _ _ _ h => h) (Or.inr ⟨by rfl,rfl⟩) ?_ ?_
    rotate_left
    ·simp only [Act.put,z1_,z2_,z3_,i64_w,i32_w]
     rfl
    refine pure_ (i := 24) (N := some 47) (v := undef) (a' := ?_) (bA 28 33554431) rfl rfl (any_of HT_.out (by kernel_rfl)) (fun _ _ _ h => h) (Or.inr ⟨by rfl,rfl⟩) ?_ ?_
    rotate_left
    ·simp only [Act.put,z1_,z2_,z3_,i64_w,i32_w]
     rfl
    refine pure_ (i := 25) (N := some 48) (v := undef) (a' := ?_) (bA 28 67108863) rfl rfl (any_of HT_.out (by kernel_rfl)) (fun _ _ _ h => h) (Or.inr ⟨by rfl,rfl⟩) ?_ ?_
    rotate_left
    ·simp only [Act.put,z1_,z2_,z3_,i64_w,i32_w]
     rfl
    refine pure_ (i := 26) (N := some 49) (v := undef) (a' := ?_) (bA 28 134217727) rfl rfl (any_of HT_.out (by kernel_rfl)) (fun _ _ _ h => h) (Or.inr ⟨by rfl,rfl⟩) ?_ ?_
    rotate_left
    ·simp only [Act.put,z1_,z2_,z3_,i64_w,i32_w]
     rfl
    refine pure_ (i := 27) (N := some 50) (v := ?_) (a' := ?_) (bA 28 268435455) rfl rfl (any_of HT_.out (by kernel_rfl)) (fun _ _ _ h => h) (Or.inl ⟨by rfl,?_⟩) ?_ ?_
    rotate_left
    ·intro w'
     go_simp
     with_reducible rfl
    rotate_left
    ·simp only [Act.put,z1_,z2_,z3_,i64_w,i32_w]
     rfl
    refine done_ (done_of HT_.out (by kernel_rfl)) ?_
    try go_wp2
    go_meet
    case rel => exact ⟨_,(false),(by first|rfl|(simp;done)|(simp [*];done)),H',⟨by first|omega|exact Nat.le_refl _⟩,⟨bM HB.out⟩⟩
  case rest =>
   clear b4
   try clear p2
   try clear hcv2
   try clear aQ
   try clear aP
   obtain ⟨kq,au,rfl,HA,bx,HB⟩ := hcut
   cases kq with
  |zero => exact absurd HA.out (by simp [l03_VarintOnce.j0])
  |succ kj6 =>
    have H := HA.out
    clear HA
    simp only [l03_VarintOnce.j0] at H
    by_cases bZ : au = true
    ·subst bZ
     rw [if_pos rfl] at H
     obtain rfl := Option.some.inj H
     go_wp2
     go_ret
     exact ⟨by first|rfl|(simp [errW_none,errW_some] <;> rfl)|(simp [*,errW_none,errW_some] <;> rfl),bM HB.out⟩
    ·replace bZ := Bool.eq_false_iff.mpr bZ
     subst bZ
     rw [if_neg (show ¬ (false = true) by decide)] at H
     replace H := Option.bind_eq_some_iff.mp H
     obtain ⟨⟨aI,ai,a5⟩,bz,H⟩ := H
     replace H : (if a5 = 0 then (if a1 < 0 then (l03_VarintOnce.j1 kj6 l0 a1 a2 true) else (if ai ≤ a1 then (l03_VarintOnce.j1 kj6 l0 a1 a2 true) else (if ai > (l0.length : Int) then (l03_VarintOnce.j1 kj6 l0 a1 a2 true) else ((varint_PutString.f ([] : List Int) aI).bind fun aJ => (if 0 ≤ a1 then (if a1 ≤ ai then (if ai ≤ (l0.length : Int) then (l03_VarintOnce.j1 kj6 l0 a1 a2 ((strOfNums aJ).toList != (strOfNums ((l0.take (ai : Int).toNat).drop (a1 : Int).toNat)).toList)) else (none)) else (none)) else (none)))))) else (l03_VarintOnce.j1 kj6 l0 a1 a2 false)) = some r := H
     have cZ := aK bz
     clear bz
     have a6 := aK H
     clear H
     go_upto_region 7 with (first|((with_reducible refine gate_callee (f := 25) rfl ?_);refine gL 55 Try.func25 #[.slice A0 l0.length c0,.int .i64 a1,.int .i64 a2] ?_;(with_reducible refine (varint_GetString.calls kj6 _ _ l0 a1 a2 aI ai a5 _ ?ab ?ac cZ.out).mono ?_);(case ab => exact cM (Kd.C_below aE.out HB.out));(case ac => exact aF.out);rintro e w' ⟨rfl,⟨nd,rfl⟩⟩;refine ⟨_,rfl,?_⟩;(try (rw [drewN_self wc];generalize hq_ : World.drewN wc _ = wc;have ae : Aside0 (Below w.heap.size w wc) := ⟨by rw [← hq_];exact (bM HB.out)⟩;clear HB hq_;have HB := ae;clear ae))))
     (try simp only [Act.put,z1_,z2_,z3_])
     go_cut [86] (fun c1 wc => ∃ (kq : Nat) (am : Bool),c1 = .bool am ∧ Aside0 (l03_VarintOnce.j1 kq l0 a1 a2 am = some r) ∧ Aside0 (kq ≤ kj6) ∧ Aside0 (Below w.heap.size w wc))
     case first =>
      have H := a6.out
      clear a6
      by_cases a7 : a5 = 0
      ·rw [if_pos a7] at H
       have ao := beq_iff_eq.mpr a7
       have aB := bne_eq_false_iff_eq.mpr a7
       clear a7
       (first|rw [ao]|(simp only [i64_w,i32_w];rw [ao])|rw [aB]|skip)
       by_cases bi : a1 < 0
       ·rw [if_pos bi] at H
        have bB := decide_eq_true bi
        clear bi
        have H' := aK H
        clear H
        try go_wp2
        have ae := aK (below_drew1 HB.out)
        clear HB
        have HB := ae
        clear ae
        refine start_ (n := 28) (S := fun w' => True) (ds := []) (bA 28 0) (by kernel_rfl) rfl rfl trivial (fun hHeld => ?_);refine with_tabW l03_VarintOnce.tab7 l03_VarintOnce.bits7 (fun HT_ HW_ => ?_)
        generalize wc.drew = w32 at HB hHeld ⊢
        refine pure_ (i := 0) (N := some 59) (v := ?_) (a' := ?_) (bA 28 1) rfl rfl (any_of HT_.out (by kernel_rfl)) (fun _ _ _ h => h) (Or.inl ⟨by rfl,?_⟩) ?_ ?_
        rotate_left
        ·intro w'
         go_simp
         with_reducible rfl
        rotate_left
        ·simp only [Act.put,z1_,z2_,z3_,i64_w,i32_w]
         rfl
        refine pure_ (i := 1) (N := some 60) (v := ?_) (a' := ?_) (bA 28 3) rfl rfl (any_of HT_.out (by kernel_rfl)) (fun _ _ _ h => h) (Or.inl ⟨by rfl,?_⟩) ?_ ?_
        rotate_left
        ·intro w'
         go_simp
         with_reducible rfl
        rotate_left
        ·simp only [Act.put,z1_,z2_,z3_,i64_w,i32_w]
         rfl
        refine pure_ (i := 2) (N := some 61) (v := ?_) (a' := ?_) (bA 28 7) rfl rfl (any_of HT_.out (by kernel_rfl)) (fun _ _ _ h => h) (Or.inl ⟨by rfl,?_⟩) ?_ ?_
        rotate_left
        ·intro w'
         go_simp
         with_reducible rfl
        rotate_left
        ·simp only [Act.put,z1_,z2_,z3_,i64_w,i32_w]
         rfl
        refine pure_ (i := 3) (N := some 62) (v := ?_) (a' := ?_) (bA 28 15) rfl rfl (any_of HT_.out (by kernel_rfl)) (fun _ _ _ h => h) (Or.inl ⟨by rfl,?_⟩) ?_ ?_
        rotate_left
        ·intro w'
         go_simp
         with_reducible rfl
        rotate_left
        ·simp only [Act.put,z1_,z2_,z3_,i64_w,i32_w]
         rfl
        refine pure_ (i := 4) (N := some 63) (v := ?_) (a' := ?_) (bA 28 31) rfl rfl (any_of HT_.out (by kernel_rfl)) (fun _ _ _ h => h) (Or.inl ⟨by rfl,?_⟩) ?_ ?_
        rotate_left
        ·intro w'
         go_simp
         with_reducible rfl
        rotate_left
        ·simp only [Act.put,z1_,z2_,z3_,i64_w,i32_w]
         rfl
        refine pure_ (i := 5) (N := some 64) (v := ?_) (a' := ?_) (bA 28 63) rfl rfl (any_of HT_.out (by kernel_rfl)) (fun _ _ _ h => h) (Or.inl ⟨by rfl,?_⟩) ?_ ?_
        rotate_left
        ·intro w'
         go_simp
         with_reducible rfl
        rotate_left
        ·simp only [Act.put,z1_,z2_,z3_,i64_w,i32_w]
         rfl
        refine pure_ (i := 6) (N := some 65) (v := undef) (a' := ?_) (bA 28 127) rfl rfl (any_of HT_.out (by kernel_rfl)) (fun _ _ _ h => h) (Or.inr ⟨by rfl,rfl⟩) ?_ ?_
        rotate_left
        ·simp only [Act.put,z1_,z2_,z3_,i64_w,i32_w]
         rfl
        refine pure_ (i := 7) (N := some 66) (v := undef) (a' := ?_) (bA 28 255) rfl rfl (any_of HT_.out (by kernel_rfl)) (fun _ _ _ h => h) (Or.inr ⟨by rfl,rfl⟩) ?_ ?_
        rotate_left
        ·simp only [Act.put,z1_,z2_,z3_,i64_w,i32_w]
         rfl
        refine pure_ (i := 8) (N := some 67) (v := undef) (a' := ?_) (bA 28 511) rfl rfl (any_of HT_.out (by kernel_rfl)) (fun _ _ _ h => h) (Or.inr ⟨by rfl,rfl⟩) ?_ ?_
        rotate_left
        ·simp only [Act.put,z1_,z2_,z3_,i64_w,i32_w]
         rfl
        refine pure_ (i := 9) (N := some 68) (v := ?_) (a' := ?_) (bA 28 1023) rfl rfl (any_of HT_.out (by kernel_rfl)) (fun _ _ _ h => h) (Or.inl ⟨by rfl,?_⟩) ?_ ?_
        rotate_left
        ·intro w'
         go_simp
         with_reducible rfl
        rotate_left
        ·simp only [Act.put,z1_,z2_,z3_,i64_w,i32_w]
         rfl
        refine pure_ (i := 10) (N := some 69) (v := ?_) (a' := ?_) (bA 28 2047) rfl rfl (any_of HT_.out (by kernel_rfl)) (fun _ _ _ h => h) (Or.inl ⟨by rfl,?_⟩) ?_ ?_
        rotate_left
        ·intro w'
         go_simp
         with_reducible rfl
        rotate_left
        ·simp only [Act.put,z1_,z2_,z3_,i64_w,i32_w]
         rfl
        refine pure_ (i := 11) (N := some 70) (v := undef) (a' := ?_) (bA 28 4095) rfl rfl (any_of HT_.out (by kernel_rfl)) (fun _ _ _ h => h) (Or.inr ⟨by rfl,rfl⟩) ?_ ?_
        rotate_left
        ·simp only [Act.put,z1_,z2_,z3_,i64_w,i32_w]
         rfl
        refine pure_ (i := 12) (N := some 71) (v := undef) (a' := ?_) (bA 28 8191) rfl rfl (any_of HT_.out (by kernel_rfl)) (fun _ _ _ h => h) (Or.inr ⟨by rfl,rfl⟩) ?_ ?_
        rotate_left
        ·simp only [Act.put,z1_,z2_,z3_,i64_w,i32_w]
         rfl
        refine pure_ (i := 13) (N := some 72) (v := undef) (a' := ?_) (bA 28 16383) rfl rfl (any_of HT_.out (by kernel_rfl)) (fun _ _ _ h => h) (Or.inr ⟨by rfl,rfl⟩) ?_ ?_
        rotate_left
        ·simp only [Act.put,z1_,z2_,z3_,i64_w,i32_w]
         rfl
        refine pure_ (i := 14) (N := some 73) (v := undef) (a' := ?_) (bA 28 32767) rfl rfl (any_of HT_.out (by kernel_rfl)) (fun _ _ _ h => h) (Or.inr ⟨by rfl,rfl⟩) ?_ ?_
        rotate_left
        ·simp only [Act.put,z1_,z2_,z3_,i64_w,i32_w]
         rfl
        refine pure_ (i := 15) (N := some 74) (v := ?_) (a' := ?_) (bA 28 65535) rfl rfl (any_of HT_.out (by kernel_rfl)) (fun _ _ _ h => h) (Or.inl ⟨by rfl,?_⟩) ?_ ?_
        rotate_left
        ·intro w'
         go_simp
         with_reducible rfl
        rotate_left
        ·simp only [Act.put,z1_,z2_,z3_,i64_w,i32_w]
         rfl
        refine pure_ (i := 16) (N := some 75) (v := ?_) (a' := ?_) (bA 28 131071) rfl rfl (any_of HT_.out (by kernel_rfl)) (fun _ _ _ h => h) (Or.inl ⟨by rfl,?_⟩) ?_ ?_
        rotate_left
        ·intro w'
         go_simp
         with_reducible rfl
        rotate_left
        ·simp only [Act.put,z1_,z2_,z3_,i64_w,i32_w]
         rfl
        refine pure_ (i := 17) (N := some 76) (v := undef) (a' := ?_) (bA 28 262143) rfl rfl (any_of HT_.out (by kernel_rfl)) (fun _ _ _ h => h) (Or.inr ⟨by rfl,rfl⟩) ?_ ?_
        rotate_left
        ·simp only [Act.put,z1_,z2_,z3_,i64_w,i32_w]
         rfl
        refine pure_ (i := 18) (N := some 77) (v := undef) (a' := ?_) (bA 28 524287) rfl rfl (any_of HT_.out (by kernel_rfl)) (fun _ _ _ h => h) (Or.inr ⟨by rfl,rfl⟩) ?_ ?_
        rotate_left
        ·simp only [Act.put,z1_,z2_,z3_,i64_w,i32_w]
         rfl
        refine pure_ (i := 19) (N := some 78) (v := undef) (a' := ?_) (bA 28 1048575) rfl rfl (any_of HT_.out (by kernel_rfl)) (fun _ _ _ h => h) (Or.inr ⟨by rfl,rfl⟩) ?_ ?_
        rotate_left
        ·simp only [Act.put,z1_,z2_,z3_,i64_w,i32_w]
         rfl
        refine pure_ (i := 20) (N := some 79) (v := undef) (a' := ?_) (bA 28 2097151) rfl rfl (any_of HT_.out (by kernel_rfl)) (fun _ _ _ h => h) (Or.inr ⟨by rfl,rfl⟩) ?_ ?_
        rotate_left
        ·simp only [Act.put,z1_,z2_,z3_,i64_w,i32_w]
         rfl
        refine pure_ (i := 21) (N := some 80) (v := undef) (a' := ?_) (bA 28 4194303) rfl rfl (any_of HT_.out (by kernel_rfl)) (fun _ _ _ h => h) (Or.inr ⟨by rfl,rfl⟩) ?_ ?_
        rotate_left
        ·simp only [Act.put,z1_,z2_,z3_,i64_w,i32_w]
         rfl
        refine pure_ (i := 22) (N := some 81) (v := undef) (a' := ?_) (bA 28 8388607) rfl rfl (any_of HT_.out (by kernel_rfl)) (fun _ _ _ h => h) (Or.inr ⟨by rfl,rfl⟩) ?_ ?_
        rotate_left
        ·simp only [Act.put,z1_,z2_,z3_,i64_w,i32_w]
         rfl
        refine pure_ (i := 23) (N := some 82) (v := undef) (a' := ?_) (bA 28 16777215) rfl rfl (any_of HT_.out (by kernel_rfl)) (fun _ _ _ h => h) (Or.inr ⟨by rfl,rfl⟩) ?_ ?_
        rotate_left
        ·simp only [Act.put,z1_,z2_,z3_,i64_w,i32_w]
         rfl
        refine pure_ (i := 24) (N := some 83) (v := undef) (a' := ?_) (bA 28 33554431) rfl rfl (any_of HT_.out (by kernel_rfl)) (fun _ _ _ h => h) (Or.inr ⟨by rfl,rfl⟩) ?_ ?_
        rotate_left
        ·simp only [Act.put,z1_,z2_,z3_,i64_w,i32_w]
         rfl
        refine pure_ (i := 25) (N := some 84) (v := undef) (a' := ?_) (bA 28 67108863) rfl rfl (any_of HT_.out (by kernel_rfl)) (fun _ _ _ h => h) (Or.inr ⟨by rfl,rfl⟩) ?_ ?_
        rotate_left
        ·simp only [Act.put,z1_,z2_,z3_,i64_w,i32_w]
         rfl
        refine pure_ (i := 26) (N := some 85) (v := ?_) (a' := ?_) (bA 28 134217727) rfl rfl (any_of HT_.out (by kernel_rfl)) (fun _ _ _ h => h) (Or.inl ⟨by rfl,?_⟩) ?_ ?_
        rotate_left
        ·intro w'
         go_simp
         with_reducible rfl
        rotate_left
        ·simp only [Act.put,z1_,z2_,z3_,i64_w,i32_w]
         rfl
        refine pure_ (i := 27) (N := some 86) (v := ?_) (a' := ?_) (bA 28 268435455) rfl rfl (any_of HT_.out (by kernel_rfl)) (fun _ _ _ h => h) (Or.inl ⟨by rfl,?_⟩) ?_ ?_
        rotate_left
        ·intro w'
         go_simp
         with_reducible rfl
        rotate_left
        ·simp only [Act.put,z1_,z2_,z3_,i64_w,i32_w]
         rfl
        refine done_ (done_of HT_.out (by kernel_rfl)) ?_
        try go_wp2
        go_meet
        case rel => exact ⟨_,(true),(by first|rfl|(simp;done)|(simp [*];done)),H',⟨by have := bx.out;first|omega|exact Nat.le_refl _⟩,⟨bM HB.out⟩⟩
       ·rw [if_neg bi] at H
        have bB := decide_eq_false bi
        clear bi
        by_cases bj : ai ≤ a1
        ·rw [if_pos bj] at H
         have bC := decide_eq_true bj
         clear bj
         have H' := aK H
         clear H
         try go_wp2
         have ae := aK (below_drew1 HB.out)
         clear HB
         have HB := ae
         clear ae
         refine start_ (n := 28) (S := fun w' => True) (ds := []) (bA 28 0) (by kernel_rfl) rfl rfl trivial (fun hHeld => ?_);refine with_tabW l03_VarintOnce.tab7 l03_VarintOnce.bits7 (fun HT_ HW_ => ?_)
         generalize wc.drew = w34 at HB hHeld ⊢
         refine pure_ (i := 0) (N := some 59) (v := ?_) (a' := ?_) (bA 28 1) rfl rfl (any_of HT_.out (by kernel_rfl)) (fun _ _ _ h => h) (Or.inl ⟨by rfl,?_⟩) ?_ ?_
         rotate_left
         ·intro w'
          go_simp
          with_reducible rfl
         rotate_left
         ·simp only [Act.put,z1_,z2_,z3_,i64_w,i32_w]
          rfl
         refine pure_ (i := 1) (N := some 60) (v := ?_) (a' := ?_) (bA 28 3) rfl rfl (any_of HT_.out (by kernel_rfl)) (fun _ _ _ h => h) (Or.inl ⟨by rfl,?_⟩) ?_ ?_
         rotate_left
         ·intro w'
          go_simp
          with_reducible rfl
         rotate_left
         ·simp only [Act.put,z1_,z2_,z3_,i64_w,i32_w]
          rfl
         refine pure_ (i := 2) (N := some 61) (v := ?_) (a' := ?_) (bA 28 7) rfl rfl (any_of HT_.out (by kernel_rfl)) (fun _ _ _ h => h) (Or.inl ⟨by rfl,?_⟩) ?_ ?_
         rotate_left
         ·intro w'
          go_simp
          with_reducible rfl
         rotate_left
         ·simp only [Act.put,z1_,z2_,z3_,i64_w,i32_w]
          rfl
         refine pure_ (i := 3) (N := some 62) (v := ?_) (a' := ?_) (bA 28 15) rfl rfl (any_of HT_.out (by kernel_rfl)) (fun _ _ _ h => h) (Or.inl ⟨by rfl,?_⟩) ?_ ?_
         rotate_left
         ·intro w'
          go_simp
          with_reducible rfl
         rotate_left
         ·simp only [Act.put,z1_,z2_,z3_,i64_w,i32_w]
          rfl
         refine pure_ (i := 4) (N := some 63) (v := ?_) (a' := ?_) (bA 28 31) rfl rfl (any_of HT_.out (by kernel_rfl)) (fun _ _ _ h => h) (Or.inl ⟨by rfl,?_⟩) ?_ ?_
         rotate_left
         ·intro w'
          go_simp
          with_reducible rfl
         rotate_left
         ·simp only [Act.put,z1_,z2_,z3_,i64_w,i32_w]
          rfl
         refine pure_ (i := 5) (N := some 64) (v := ?_) (a' := ?_) (bA 28 63) rfl rfl (any_of HT_.out (by kernel_rfl)) (fun _ _ _ h => h) (Or.inl ⟨by rfl,?_⟩) ?_ ?_
         rotate_left
         ·intro w'
          go_simp
          with_reducible rfl
         rotate_left
         ·simp only [Act.put,z1_,z2_,z3_,i64_w,i32_w]
          rfl
         refine pure_ (i := 6) (N := some 65) (v := ?_) (a' := ?_) (bA 28 127) rfl rfl (any_of HT_.out (by kernel_rfl)) (fun _ _ _ h => h) (Or.inl ⟨by rfl,?_⟩) ?_ ?_
         rotate_left
         ·intro w'
          go_simp
          with_reducible rfl
         rotate_left
         ·simp only [Act.put,z1_,z2_,z3_,i64_w,i32_w]
          rfl
         refine pure_ (i := 7) (N := some 66) (v := ?_) (a' := ?_) (bA 28 255) rfl rfl (any_of HT_.out (by kernel_rfl)) (fun _ _ _ h => h) (Or.inl ⟨by rfl,?_⟩) ?_ ?_
         rotate_left
         ·intro w'
          go_simp
          with_reducible rfl
         rotate_left
         ·simp only [Act.put,z1_,z2_,z3_,i64_w,i32_w]
          rfl
         refine pure_ (i := 8) (N := some 67) (v := ?_) (a' := ?_) (bA 28 511) rfl rfl (any_of HT_.out (by kernel_rfl)) (fun _ _ _ h => h) (Or.inl ⟨by rfl,?_⟩) ?_ ?_
         rotate_left
         ·intro w'
          go_simp
          with_reducible rfl
         rotate_left
         ·simp only [Act.put,z1_,z2_,z3_,i64_w,i32_w]
          rfl
         refine pure_ (i := 9) (N := some 68) (v := ?_) (a' := ?_) (bA 28 1023) rfl rfl (any_of HT_.out (by kernel_rfl)) (fun _ _ _ h => h) (Or.inl ⟨by rfl,?_⟩) ?_ ?_
         rotate_left
         ·intro w'
          go_simp
          with_reducible rfl
         rotate_left
         ·simp only [Act.put,z1_,z2_,z3_,i64_w,i32_w]
          rfl
         refine pure_ (i := 10) (N := some 69) (v := ?_) (a' := ?_) (bA 28 2047) rfl rfl (any_of HT_.out (by kernel_rfl)) (fun _ _ _ h => h) (Or.inl ⟨by rfl,?_⟩) ?_ ?_
         rotate_left
         ·intro w'
          go_simp
          with_reducible rfl
         rotate_left
         ·simp only [Act.put,z1_,z2_,z3_,i64_w,i32_w]
          rfl
         refine pure_ (i := 11) (N := some 70) (v := undef) (a' := ?_) (bA 28 4095) rfl rfl (any_of HT_.out (by kernel_rfl)) (fun _ _ _ h => h) (Or.inr ⟨by rfl,rfl⟩) ?_ ?_
         rotate_left
         ·simp only [Act.put,z1_,z2_,z3_,i64_w,i32_w]
          rfl
         refine pure_ (i := 12) (N := some 71) (v := undef) (a' := ?_) (bA 28 8191) rfl rfl (any_of HT_.out (by kernel_rfl)) (fun _ _ _ h => h) (Or.inr ⟨by rfl,rfl⟩) ?_ ?_
         rotate_left
         ·simp only [Act.put,z1_,z2_,z3_,i64_w,i32_w]
          rfl
         refine pure_ (i := 13) (N := some 72) (v := undef) (a' := ?_) (bA 28 16383) rfl rfl (any_of HT_.out (by kernel_rfl)) (fun _ _ _ h => h) (Or.inr ⟨by rfl,rfl⟩) ?_ ?_
         rotate_left
         ·simp only [Act.put,z1_,z2_,z3_,i64_w,i32_w]
          rfl
         refine pure_ (i := 14) (N := some 73) (v := undef) (a' := ?_) (bA 28 32767) rfl rfl (any_of HT_.out (by kernel_rfl)) (fun _ _ _ h => h) (Or.inr ⟨by rfl,rfl⟩) ?_ ?_
         rotate_left
         ·simp only [Act.put,z1_,z2_,z3_,i64_w,i32_w]
          rfl
         refine pure_ (i := 15) (N := some 74) (v := ?_) (a' := ?_) (bA 28 65535) rfl rfl (any_of HT_.out (by kernel_rfl)) (fun _ _ _ h => h) (Or.inl ⟨by rfl,?_⟩) ?_ ?_
         rotate_left
         ·intro w'
          go_simp
          with_reducible rfl
         rotate_left
         ·simp only [Act.put,z1_,z2_,z3_,i64_w,i32_w]
          rfl
         refine pure_ (i := 16) (N := some 75) (v := ?_) (a' := ?_) (bA 28 131071) rfl rfl (any_of HT_.out (by kernel_rfl)) (fun _ _ _ h => h) (Or.inl ⟨by rfl,?_⟩) ?_ ?_
         rotate_left
         ·intro w'
          go_simp
          with_reducible rfl
         rotate_left
         ·simp only [Act.put,z1_,z2_,z3_,i64_w,i32_w]
          rfl
         refine pure_ (i := 17) (N := some 76) (v := undef) (a' := ?_) (bA 28 262143) rfl rfl (any_of HT_.out (by kernel_rfl)) (fun _ _ _ h => h) (Or.inr ⟨by rfl,rfl⟩) ?_ ?_
         rotate_left
         ·simp only [Act.put,z1_,z2_,z3_,i64_w,i32_w]
          rfl
         refine pure_ (i := 18) (N := some 77) (v := undef) (a' := ?_) (bA 28 524287) rfl rfl (any_of HT_.out (by kernel_rfl)) (fun _ _ _ h => h) (Or.inr ⟨by rfl,rfl⟩) ?_ ?_
         rotate_left
         ·simp only [Act.put,z1_,z2_,z3_,i64_w,i32_w]
          rfl
         refine pure_ (i := 19) (N := some 78) (v := undef) (a' := ?_) (bA 28 1048575) rfl rfl (any_of HT_.out (by kernel_rfl)) (fun _ _ _ h => h) (Or.inr ⟨by rfl,rfl⟩) ?_ ?_
         rotate_left
         ·simp only [Act.put,z1_,z2_,z3_,i64_w,i32_w]
          rfl
         refine pure_ (i := 20) (N := some 79) (v := undef) (a' := ?_) (bA 28 2097151) rfl rfl (any_of HT_.out (by kernel_rfl)) (fun _ _ _ h => h) (Or.inr ⟨by rfl,rfl⟩) ?_ ?_
         rotate_left
         ·simp only [Act.put,z1_,z2_,z3_,i64_w,i32_w]
          rfl
         refine pure_ (i := 21) (N := some 80) (v := undef) (a' := ?_) (bA 28 4194303) rfl rfl (any_of HT_.out (by kernel_rfl)) (fun _ _ _ h => h) (Or.inr ⟨by rfl,rfl⟩) ?_ ?_
         rotate_left
         ·simp only [Act.put,z1_,z2_,z3_,i64_w,i32_w]
          rfl
         refine pure_ (i := 22) (N := some 81) (v := undef) (a' := ?_) (bA 28 8388607) rfl rfl (any_of HT_.out (by kernel_rfl)) (fun _ _ _ h => h) (Or.inr ⟨by rfl,rfl⟩) ?_ ?_
         rotate_left
         ·simp only [Act.put,z1_,z2_,z3_,i64_w,i32_w]
          rfl
         refine pure_ (i := 23) (N := some 82) (v := undef) (a' := ?_) (bA 28 16777215) rfl rfl (any_of HT_.out (by kernel_rfl)) (fun _ _ _ h => h) (Or.inr ⟨by rfl,rfl⟩) ?_ ?_
         rotate_left
         ·simp only [Act.put,z1_,z2_,z3_,i64_w,i32_w]
          rfl
         refine pure_ (i := 24) (N := some 83) (v := undef) (a' := ?_) (bA 28 33554431) rfl rfl (any_of HT_.out (by kernel_rfl)) (fun _ _ _ h => h) (Or.inr ⟨by rfl,rfl⟩) ?_ ?_
         rotate_left
         ·simp only [Act.put,z1_,z2_,z3_,i64_w,i32_w]
          rfl
         refine pure_ (i := 25) (N := some 84) (v := undef) (a' := ?_) (bA 28 67108863) rfl rfl (any_of HT_.out (by kernel_rfl)) (fun _ _ _ h => h) (Or.inr ⟨by rfl,rfl⟩) ?_ ?_
         rotate_left
         ·simp only [Act.put,z1_,z2_,z3_,i64_w,i32_w]
          rfl
         refine pure_ (i := 26) (N := some 85) (v := ?_) (a' := ?_) (bA 28 134217727) rfl rfl (any_of HT_.out (by kernel_rfl)) (fun _ _ _ h => h) (Or.inl ⟨by rfl,?_⟩) ?_ ?_
         rotate_left
         ·intro w'
          go_simp
          with_reducible rfl
         rotate_left
         ·simp only [Act.put,z1_,z2_,z3_,i64_w,i32_w]
          rfl
         refine pure_ (i := 27) (N := some 86) (v := ?_) (a' := ?_) (bA 28 268435455) rfl rfl (any_of HT_.out (by kernel_rfl)) (fun _ _ _ h => h) (Or.inl ⟨by rfl,?_⟩) ?_ ?_
         rotate_left
         ·intro w'
          go_simp
          with_reducible rfl
         rotate_left
         ·simp only [Act.put,z1_,z2_,z3_,i64_w,i32_w]
          rfl
         refine done_ (done_of HT_.out (by kernel_rfl)) ?_
         try go_wp2
         go_meet
         case rel => exact ⟨_,(true),(by first|rfl|(simp;done)|(simp [*];done)),H',⟨by have := bx.out;first|omega|exact Nat.le_refl _⟩,⟨bM HB.out⟩⟩
        ·rw [if_neg bj] at H
         have bC := decide_eq_false bj
         clear bj
         by_cases bk : ai > (l0.length : Int)
         ·rw [if_pos bk] at H
          have bD := decide_eq_true bk
          clear bk
          have H' := aK H
          clear H
          try go_wp2
          have ae := aK (below_drew1 HB.out)
          clear HB
          have HB := ae
          clear ae
          refine start_ (n := 28) (S := fun w' => True) (ds := []) (bA 28 0) (by kernel_rfl) rfl rfl trivial (fun hHeld => ?_);refine with_tabW l03_VarintOnce.tab7 l03_VarintOnce.bits7 (fun HT_ HW_ => ?_)
          generalize wc.drew = w36 at HB hHeld ⊢
          refine pure_ (i := 0) (N := some 59) (v := ?_) (a' := ?_) (bA 28 1) rfl rfl (any_of HT_.out (by kernel_rfl)) (fun _ _ _ h => h) (Or.inl ⟨by rfl,?_⟩) ?_ ?_
          rotate_left
          ·intro w'
           go_simp
           with_reducible rfl
          rotate_left
          ·simp only [Act.put,z1_,z2_,z3_,i64_w,i32_w]
           rfl
          refine pure_ (i := 1) (N := some 60) (v := ?_) (a' := ?_) (bA 28 3) rfl rfl (any_of HT_.out (by kernel_rfl)) (fun _ _ _ h => h) (Or.inl ⟨by rfl,?_⟩) ?_ ?_
          rotate_left
          ·intro w'
           go_simp
           with_reducible rfl
          rotate_left
          ·simp only [Act.put,z1_,z2_,z3_,i64_w,i32_w]
           rfl
          refine pure_ (i := 2) (N := some 61) (v := ?_) (a' := ?_) (bA 28 7) rfl rfl (any_of HT_.out (by kernel_rfl)) (fun _ _ _ h => h) (Or.inl ⟨by rfl,?_⟩) ?_ ?_
          rotate_left
          ·intro w'
           go_simp
           with_reducible rfl
          rotate_left
          ·simp only [Act.put,z1_,z2_,z3_,i64_w,i32_w]
           rfl
          refine pure_ (i := 3) (N := some 62) (v := ?_) (a' := ?_) (bA 28 15) rfl rfl (any_of HT_.out (by kernel_rfl)) (fun _ _ _ h => h) (Or.inl ⟨by rfl,?_⟩) ?_ ?_
          rotate_left
          ·intro w'
           go_simp
           with_reducible rfl
          rotate_left
          ·simp only [Act.put,z1_,z2_,z3_,i64_w,i32_w]
           rfl
          refine pure_ (i := 4) (N := some 63) (v := ?_) (a' := ?_) (bA 28 31) rfl rfl (any_of HT_.out (by kernel_rfl)) (fun _ _ _ h => h) (Or.inl ⟨by rfl,?_⟩) ?_ ?_
          rotate_left
          ·intro w'
           go_simp
           with_reducible rfl
          rotate_left
          ·simp only [Act.put,z1_,z2_,z3_,i64_w,i32_w]
           rfl
          refine pure_ (i := 5) (N := some 64) (v := ?_) (a' := ?_) (bA 28 63) rfl rfl (any_of HT_.out (by kernel_rfl)) (fun _ _ _ h => h) (Or.inl ⟨by rfl,?_⟩) ?_ ?_
          rotate_left
          ·intro w'
           go_simp
           with_reducible rfl
          rotate_left
          ·simp only [Act.put,z1_,z2_,z3_,i64_w,i32_w]
           rfl
          refine pure_ (i := 6) (N := some 65) (v := ?_) (a' := ?_) (bA 28 127) rfl rfl (any_of HT_.out (by kernel_rfl)) (fun _ _ _ h => h) (Or.inl ⟨by rfl,?_⟩) ?_ ?_
          rotate_left
          ·intro w'
           go_simp
           with_reducible rfl
          rotate_left
          ·simp only [Act.put,z1_,z2_,z3_,i64_w,i32_w]
           rfl
          refine pure_ (i := 7) (N := some 66) (v := ?_) (a' := ?_) (bA 28 255) rfl rfl (any_of HT_.out (by kernel_rfl)) (fun _ _ _ h => h) (Or.inl ⟨by rfl,?_⟩) ?_ ?_
          rotate_left
          ·intro w'
           go_simp
           with_reducible rfl
          rotate_left
          ·simp only [Act.put,z1_,z2_,z3_,i64_w,i32_w]
           rfl
          refine pure_ (i := 8) (N := some 67) (v := ?_) (a' := ?_) (bA 28 511) rfl rfl (any_of HT_.out (by kernel_rfl)) (fun _ _ _ h => h) (Or.inl ⟨by rfl,?_⟩) ?_ ?_
          rotate_left
          ·intro w'
           go_simp
           with_reducible rfl
          rotate_left
          ·simp only [Act.put,z1_,z2_,z3_,i64_w,i32_w]
           rfl
          refine pure_ (i := 9) (N := some 68) (v := ?_) (a' := ?_) (bA 28 1023) rfl rfl (any_of HT_.out (by kernel_rfl)) (fun _ _ _ h => h) (Or.inl ⟨by rfl,?_⟩) ?_ ?_
          rotate_left
          ·intro w'
           go_simp
           with_reducible rfl
          rotate_left
          ·simp only [Act.put,z1_,z2_,z3_,i64_w,i32_w]
           rfl
          refine pure_ (i := 10) (N := some 69) (v := ?_) (a' := ?_) (bA 28 2047) rfl rfl (any_of HT_.out (by kernel_rfl)) (fun _ _ _ h => h) (Or.inl ⟨by rfl,?_⟩) ?_ ?_
          rotate_left
          ·intro w'
           go_simp
           with_reducible rfl
          rotate_left
          ·simp only [Act.put,z1_,z2_,z3_,i64_w,i32_w]
           rfl
          refine pure_ (i := 11) (N := some 70) (v := ?_) (a' := ?_) (bA 28 4095) rfl rfl (any_of HT_.out (by kernel_rfl)) (fun _ _ _ h => h) (Or.inl ⟨by rfl,?_⟩) ?_ ?_
          rotate_left
          ·intro w'
           go_simp
           with_reducible rfl
          rotate_left
          ·simp only [Act.put,z1_,z2_,z3_,i64_w,i32_w]
           rfl
          refine pure_ (i := 12) (N := some 71) (v := ?_) (a' := ?_) (bA 28 8191) rfl rfl (any_of HT_.out (by kernel_rfl)) (fun _ _ _ h => h) (Or.inl ⟨by rfl,?_⟩) ?_ ?_
          rotate_left
          ·intro w'
           go_simp
           with_reducible rfl
          rotate_left
          ·simp only [Act.put,z1_,z2_,z3_,i64_w,i32_w]
           rfl
          refine pure_ (i := 13) (N := some 72) (v := ?_) (a' := ?_) (bA 28 16383) rfl rfl (any_of HT_.out (by kernel_rfl)) (fun _ _ _ h => h) (Or.inl ⟨by rfl,?_⟩) ?_ ?_
          rotate_left
          ·intro w'
           go_simp
           with_reducible rfl
          rotate_left
          ·simp only [Act.put,z1_,z2_,z3_,i64_w,i32_w]
           rfl
          refine pure_ (i := 14) (N := some 73) (v := ?_) (a' := ?_) (bA 28 32767) rfl rfl (any_of HT_.out (by kernel_rfl)) (fun _ _ _ h => h) (Or.inl ⟨by rfl,?_⟩) ?_ ?_
          rotate_left
          ·intro w'
           go_simp
           with_reducible rfl
          rotate_left
          ·simp only [Act.put,z1_,z2_,z3_,i64_w,i32_w]
           rfl
          refine pure_ (i := 15) (N := some 74) (v := ?_) (a' := ?_) (bA 28 65535) rfl rfl (any_of HT_.out (by kernel_rfl)) (fun _ _ _ h => h) (Or.inl ⟨by rfl,?_⟩) ?_ ?_
          rotate_left
          ·intro w'
           go_simp
           with_reducible rfl
          rotate_left
          ·simp only [Act.put,z1_,z2_,z3_,i64_w,i32_w]
           rfl
          refine pure_ (i := 16) (N := some 75) (v := ?_) (a' := ?_) (bA 28 131071) rfl rfl (any_of HT_.out (by kernel_rfl)) (fun _ _ _ h => h) (Or.inl ⟨by rfl,?_⟩) ?_ ?_
          rotate_left
          ·intro w'
           go_simp
           with_reducible rfl
          rotate_left
          ·simp only [Act.put,z1_,z2_,z3_,i64_w,i32_w]
           rfl
          refine pure_ (i := 17) (N := some 76) (v := undef) (a' := ?_) (bA 28 262143) rfl rfl (any_of HT_.out (by kernel_rfl)) (fun _ _ _ h => h) (Or.inr ⟨by rfl,rfl⟩) ?_ ?_
          rotate_left
          ·simp only [Act.put,z1_,z2_,z3_,i64_w,i32_w]
           rfl
          refine pure_ (i := 18) (N := some 77) (v := undef) (a' := ?_) (bA 28 524287) rfl rfl (any_of HT_.out (by kernel_rfl)) (fun _ _ _ h => h) (Or.inr ⟨by rfl,rfl⟩) ?_ ?_
          rotate_left
          ·simp only [Act.put,z1_,z2_,z3_,i64_w,i32_w]
           rfl
          refine pure_ (i := 19) (N := some 78) (v := undef) (a' := ?_) (bA 28 1048575) rfl rfl (any_of HT_.out (by kernel_rfl)) (fun _ _ _ h => h) (Or.inr ⟨by rfl,rfl⟩) ?_ ?_
          rotate_left
          ·simp only [Act.put,z1_,z2_,z3_,i64_w,i32_w]
           rfl
          refine pure_ (i := 20) (N := some 79) (v := undef) (a' := ?_) (bA 28 2097151) rfl rfl (any_of HT_.out (by kernel_rfl)) (fun _ _ _ h => h) (Or.inr ⟨by rfl,rfl⟩) ?_ ?_
          rotate_left
          ·simp only [Act.put,z1_,z2_,z3_,i64_w,i32_w]
           rfl
          refine pure_ (i := 21) (N := some 80) (v := undef) (a' := ?_) (bA 28 4194303) rfl rfl (any_of HT_.out (by kernel_rfl)) (fun _ _ _ h => h) (Or.inr ⟨by rfl,rfl⟩) ?_ ?_
          rotate_left
          ·simp only [Act.put,z1_,z2_,z3_,i64_w,i32_w]
           rfl
          refine pure_ (i := 22) (N := some 81) (v := undef) (a' := ?_) (bA 28 8388607) rfl rfl (any_of HT_.out (by kernel_rfl)) (fun _ _ _ h => h) (Or.inr ⟨by rfl,rfl⟩) ?_ ?_
          rotate_left
          ·simp only [Act.put,z1_,z2_,z3_,i64_w,i32_w]
           rfl
          refine pure_ (i := 23) (N := some 82) (v := undef) (a' := ?_) (bA 28 16777215) rfl rfl (any_of HT_.out (by kernel_rfl)) (fun _ _ _ h => h) (Or.inr ⟨by rfl,rfl⟩) ?_ ?_
          rotate_left
          ·simp only [Act.put,z1_,z2_,z3_,i64_w,i32_w]
           rfl
          refine pure_ (i := 24) (N := some 83) (v := undef) (a' := ?_) (bA 28 33554431) rfl rfl (any_of HT_.out (by kernel_rfl)) (fun _ _ _ h => h) (Or.inr ⟨by rfl,rfl⟩) ?_ ?_
          rotate_left
          ·simp only [Act.put,z1_,z2_,z3_,i64_w,i32_w]
           rfl
          refine pure_ (i := 25) (N := some 84) (v := undef) (a' := ?_) (bA 28 67108863) rfl rfl (any_of HT_.out (by kernel_rfl)) (fun _ _ _ h => h) (Or.inr ⟨by rfl,rfl⟩) ?_ ?_
          rotate_left
          ·simp only [Act.put,z1_,z2_,z3_,i64_w,i32_w]
           rfl
          refine pure_ (i := 26) (N := some 85) (v := ?_) (a' := ?_) (bA 28 134217727) rfl rfl (any_of HT_.out (by kernel_rfl)) (fun _ _ _ h => h) (Or.inl ⟨by rfl,?_⟩) ?_ ?_
          rotate_left
          ·intro w'
           go_simp
           with_reducible rfl
          rotate_left
          ·simp only [Act.put,z1_,z2_,z3_,i64_w,i32_w]
           rfl
          refine pure_ (i := 27) (N := some 86) (v := ?_) (a' := ?_) (bA 28 268435455) rfl rfl (any_of HT_.out (by kernel_rfl)) (fun _ _ _ h => h) (Or.inl ⟨by rfl,?_⟩) ?_ ?_
          rotate_left
          ·intro w'
           go_simp
           with_reducible rfl
          rotate_left
          ·simp only [Act.put,z1_,z2_,z3_,i64_w,i32_w]
           rfl
          refine done_ (done_of HT_.out (by kernel_rfl)) ?_
          try go_wp2
          go_meet
          case rel => exact ⟨_,(true),(by first|rfl|(simp;done)|(simp [*];done)),H',⟨by have := bx.out;first|omega|exact Nat.le_refl _⟩,⟨bM HB.out⟩⟩
         ·rw [if_neg bk] at H
          have bD := decide_eq_false bk
          clear bk
          replace H := Option.bind_eq_some_iff.mp H
          obtain ⟨aJ,bE,H⟩ := H
          have da := aK bE
          clear bE
          obtain ⟨ca,H⟩ := iS H
          have cG := eq_true ca
          have cH := decide_eq_true ca
          clear ca
          obtain ⟨cb,H⟩ := iS H
          have cI := eq_true cb
          have cJ := decide_eq_true cb
          clear cb
          obtain ⟨cc,H⟩ := iS H
          have cK := eq_true cc
          have cL := decide_eq_true cc
          clear cc
          have H' := aK H
          clear H
          try go_wp2
          have ae := aK (below_drew1 HB.out)
          clear HB
          have HB := ae
          clear ae
          obtain ⟨db,aR,_,aS,_⟩ := info_parts info5
          obtain ⟨cd,ce,bF,bH⟩ := print_mid_of (P := Try.prog) (Value.int .u8) 0 22 5 .i64 .i64 Try.underlying22 aR aS A0 c0 l0 a1 ai (dA) (by first|omega|exact dA) (dA) aF.out
          have aw := aK (Kd.C_of_reads (h1 := fun _ => rfl) (bF _ (Kd.reads_of_C aE.out)))
          have cN := aK bH
          clear bF bH aR aS
          refine start_ (n := 28) (S := fun w' => Below w.heap.size w w') (ds := []) (bA 28 0) (by kernel_rfl) rfl rfl HB.out (fun hHeld => ?_);refine with_tabW l03_VarintOnce.tab7 l03_VarintOnce.bits7 (fun HT_ HW_ => ?_)
          generalize wc.drew = w41 at HB aw hHeld ⊢
          refine pure_ (i := 0) (N := some 59) (v := ?_) (a' := ?_) (bA 28 1) rfl rfl (any_of HT_.out (by kernel_rfl)) (fun _ _ _ h => h) (Or.inl ⟨by rfl,?_⟩) ?_ ?_
          rotate_left
          ·intro w'
           go_simp
           with_reducible rfl
          rotate_left
          ·simp only [Act.put,z1_,z2_,z3_,i64_w,i32_w]
           rfl
          refine pure_ (i := 1) (N := some 60) (v := ?_) (a' := ?_) (bA 28 3) rfl rfl (any_of HT_.out (by kernel_rfl)) (fun _ _ _ h => h) (Or.inl ⟨by rfl,?_⟩) ?_ ?_
          rotate_left
          ·intro w'
           go_simp
           with_reducible rfl
          rotate_left
          ·simp only [Act.put,z1_,z2_,z3_,i64_w,i32_w]
           rfl
          refine pure_ (i := 2) (N := some 61) (v := ?_) (a' := ?_) (bA 28 7) rfl rfl (any_of HT_.out (by kernel_rfl)) (fun _ _ _ h => h) (Or.inl ⟨by rfl,?_⟩) ?_ ?_
          rotate_left
          ·intro w'
           go_simp
           with_reducible rfl
          rotate_left
          ·simp only [Act.put,z1_,z2_,z3_,i64_w,i32_w]
           rfl
          refine pure_ (i := 3) (N := some 62) (v := ?_) (a' := ?_) (bA 28 15) rfl rfl (any_of HT_.out (by kernel_rfl)) (fun _ _ _ h => h) (Or.inl ⟨by rfl,?_⟩) ?_ ?_
          rotate_left
          ·intro w'
           go_simp
           with_reducible rfl
          rotate_left
          ·simp only [Act.put,z1_,z2_,z3_,i64_w,i32_w]
           rfl
          refine pure_ (i := 4) (N := some 63) (v := ?_) (a' := ?_) (bA 28 31) rfl rfl (any_of HT_.out (by kernel_rfl)) (fun _ _ _ h => h) (Or.inl ⟨by rfl,?_⟩) ?_ ?_
          rotate_left
          ·intro w'
           go_simp
           with_reducible rfl
          rotate_left
          ·simp only [Act.put,z1_,z2_,z3_,i64_w,i32_w]
           rfl
          refine pure_ (i := 5) (N := some 64) (v := ?_) (a' := ?_) (bA 28 63) rfl rfl (any_of HT_.out (by kernel_rfl)) (fun _ _ _ h => h) (Or.inl ⟨by rfl,?_⟩) ?_ ?_
          rotate_left
          ·intro w'
           go_simp
           with_reducible rfl
          rotate_left
          ·simp only [Act.put,z1_,z2_,z3_,i64_w,i32_w]
           rfl
          refine pure_ (i := 6) (N := some 65) (v := ?_) (a' := ?_) (bA 28 127) rfl rfl (any_of HT_.out (by kernel_rfl)) (fun _ _ _ h => h) (Or.inl ⟨by rfl,?_⟩) ?_ ?_
          rotate_left
          ·intro w'
           go_simp
           with_reducible rfl
          rotate_left
          ·simp only [Act.put,z1_,z2_,z3_,i64_w,i32_w]
           rfl
          refine pure_ (i := 7) (N := some 66) (v := ?_) (a' := ?_) (bA 28 255) rfl rfl (any_of HT_.out (by kernel_rfl)) (fun _ _ _ h => h) (Or.inl ⟨by rfl,?_⟩) ?_ ?_
          rotate_left
          ·intro w'
           go_simp
           with_reducible rfl
          rotate_left
          ·simp only [Act.put,z1_,z2_,z3_,i64_w,i32_w]
           rfl
          refine pure_ (i := 8) (N := some 67) (v := ?_) (a' := ?_) (bA 28 511) rfl rfl (any_of HT_.out (by kernel_rfl)) (fun _ _ _ h => h) (Or.inl ⟨by rfl,?_⟩) ?_ ?_
          rotate_left
          ·intro w'
           go_simp
           with_reducible rfl
          rotate_left
          ·simp only [Act.put,z1_,z2_,z3_,i64_w,i32_w]
           rfl
          refine pure_ (i := 9) (N := some 68) (v := ?_) (a' := ?_) (bA 28 1023) rfl rfl (any_of HT_.out (by kernel_rfl)) (fun _ _ _ h => h) (Or.inl ⟨by rfl,?_⟩) ?_ ?_
          rotate_left
          ·intro w'
           go_simp
           with_reducible rfl
          rotate_left
          ·simp only [Act.put,z1_,z2_,z3_,i64_w,i32_w]
           rfl
          refine pure_ (i := 10) (N := some 69) (v := ?_) (a' := ?_) (bA 28 2047) rfl rfl (any_of HT_.out (by kernel_rfl)) (fun _ _ _ h => h) (Or.inl ⟨by rfl,?_⟩) ?_ ?_
          rotate_left
          ·intro w'
           go_simp
           with_reducible rfl
          rotate_left
          ·simp only [Act.put,z1_,z2_,z3_,i64_w,i32_w]
           rfl
          refine pure_ (i := 11) (N := some 70) (v := ?_) (a' := ?_) (bA 28 4095) rfl rfl (any_of HT_.out (by kernel_rfl)) (fun _ _ _ h => h) (Or.inl ⟨by rfl,?_⟩) ?_ ?_
          rotate_left
          ·intro w'
           go_simp
           with_reducible rfl
          rotate_left
          ·simp only [Act.put,z1_,z2_,z3_,i64_w,i32_w]
           rfl
          refine pure_ (i := 12) (N := some 71) (v := ?_) (a' := ?_) (bA 28 8191) rfl rfl (any_of HT_.out (by kernel_rfl)) (fun _ _ _ h => h) (Or.inl ⟨by rfl,?_⟩) ?_ ?_
          rotate_left
          ·intro w'
           go_simp
           with_reducible rfl
          rotate_left
          ·simp only [Act.put,z1_,z2_,z3_,i64_w,i32_w]
           rfl
          refine pure_ (i := 13) (N := some 72) (v := ?_) (a' := ?_) (bA 28 16383) rfl rfl (any_of HT_.out (by kernel_rfl)) (fun _ _ _ h => h) (Or.inl ⟨by rfl,?_⟩) ?_ ?_
          rotate_left
          ·intro w'
           go_simp
           with_reducible rfl
          rotate_left
          ·simp only [Act.put,z1_,z2_,z3_,i64_w,i32_w]
           rfl
          refine pure_ (i := 14) (N := some 73) (v := ?_) (a' := ?_) (bA 28 32767) rfl rfl (any_of HT_.out (by kernel_rfl)) (fun _ _ _ h => h) (Or.inl ⟨by rfl,?_⟩) ?_ ?_
          rotate_left
          ·intro w'
           go_simp
           with_reducible rfl
          rotate_left
          ·simp only [Act.put,z1_,z2_,z3_,i64_w,i32_w]
           rfl
          refine pure_ (i := 15) (N := some 74) (v := ?_) (a' := ?_) (bA 28 65535) rfl rfl (any_of HT_.out (by kernel_rfl)) (fun _ _ _ h => h) (Or.inl ⟨by rfl,?_⟩) ?_ ?_
          rotate_left
          ·intro w'
           go_simp
           with_reducible rfl
          rotate_left
          ·simp only [Act.put,z1_,z2_,z3_,i64_w,i32_w]
           rfl
          refine pure_ (i := 16) (N := some 75) (v := ?_) (a' := ?_) (bA 28 131071) rfl rfl (any_of HT_.out (by kernel_rfl)) (fun _ _ _ h => h) (Or.inl ⟨by rfl,?_⟩) ?_ ?_
          rotate_left
          ·intro w'
           go_simp
           with_reducible rfl
          rotate_left
          ·simp only [Act.put,z1_,z2_,z3_,i64_w,i32_w]
           rfl
          refine pure_ (i := 17) (N := some 76) (v := ?_) (a' := ?_) (bA 28 262143) rfl rfl (any_of HT_.out (by kernel_rfl)) (fun _ _ _ h => h) (Or.inl ⟨by rfl,?_⟩) ?_ ?_
          rotate_left
          ·intro w'
           go_simp
           with_reducible rfl
          rotate_left
          ·simp only [Act.put,z1_,z2_,z3_,i64_w,i32_w]
           rfl
          refine pure_ (i := 20) (N := some 79) (v := ?_) (a' := ?_) (bA 28 1310719) rfl rfl (any_of HT_.out (by kernel_rfl)) (fun _ _ _ h => h) (Or.inl ⟨by rfl,?_⟩) ?_ ?_
          rotate_left
          ·intro w'
           go_simp
           with_reducible rfl
          rotate_left
          ·simp only [Act.put,z1_,z2_,z3_,i64_w,i32_w]
           rfl
          refine pure_ (i := 21) (N := some 80) (v := ?_) (a' := ?_) (bA 28 3407871) rfl rfl (any_of HT_.out (by kernel_rfl)) (fun _ _ _ h => h) (Or.inl ⟨by rfl,?_⟩) ?_ ?_
          rotate_left
          ·intro w'
           go_simp
           with_reducible rfl
          rotate_left
          ·simp only [Act.put,z1_,z2_,z3_,i64_w,i32_w]
           rfl
          refine pure_ (i := 22) (N := some 81) (v := ?_) (a' := ?_) (bA 28 7602175) rfl rfl (any_of HT_.out (by kernel_rfl)) (fun _ _ _ h => h) (Or.inl ⟨by rfl,?_⟩) ?_ ?_
          rotate_left
          ·intro w'
           go_simp
           with_reducible rfl
          rotate_left
          ·simp only [Act.put,z1_,z2_,z3_,i64_w,i32_w]
           rfl
          refine pure_ (i := 23) (N := some 82) (v := ?_) (a' := ?_) (bA 28 15990783) rfl rfl (any_of HT_.out (by kernel_rfl)) (fun _ _ _ h => h) (Or.inl ⟨by rfl,?_⟩) ?_ ?_
          rotate_left
          ·intro w'
           go_simp
           with_reducible rfl
          rotate_left
          ·simp only [Act.put,z1_,z2_,z3_,i64_w,i32_w]
           rfl
          refine take_ (i := 24) (N := some 83) (v := ?_) (a' := ?_) (bA 28 32767999) rfl rfl (take_ofW HT_.out HW_.out (by kernel_rfl)) (fun _ _ _ h => h) (Or.inl ⟨by rfl,?_⟩) hHeld ?_ ?_
          rotate_left
          ·intro w' s_
           have cv_ := Kd.C_string (P := Try.prog) (A := cd) (c := (c0 - a1.toNat)) Try.underlying22 Try.underlying5 Try.underlying9 (Kd.C_below aw.out s_)
           have aC : ((l0.take (ai : Int).toNat).drop (a1 : Int).toNat).length = (ai : Int).toNat - (a1 : Int).toNat := (by rw [z7_,z8_,Nat.min_eq_left (by simp only [decide_eq_true_eq,eq_iff_iff,iff_true] at *;omega)]);simp only [aC] at cv_;clear aC
           go_simp
           with_reducible rfl
          rotate_left
          ·simp only [Act.put,z1_,z2_,z3_,i64_w,i32_w]
           rfl
          refine one_ (i := 18) (N := some 77) (bA 28 33030143) rfl rfl (one_of HT_.out (by kernel_rfl)) (by decide) (fun K hK => ?_)
          refine goes_ Try.func19 (by kernel_rfl) rfl #[.slice none 0 0,.string aI] (by rfl) rfl rfl (by (try simp only [z4_,z5_,z6_]);first|done|rfl|(simp only [z7_,z8_];rfl)) ?_
          refine (varint_PutString.calls _ _ ([] : List Int) aI aJ _ ?ab ?ac da.out).mono ?_
          (case ab => exact Kd.C_nil _ _)
          (case ac => exact Nat.le_refl _)
          rintro e dk ⟨dc,rfl,ag,hb⟩
          refine ⟨_,rfl,?_⟩
          have ae := aK (Kd.R_lower ag (below_size (bM HB.out)))
          have an := aK (below_step (bM HB.out) hb)
          clear HB
          have bI := ae
          have HB := an
          clear ae an
          (try clear hb)
          (try clear ag)
          have aT := Kd.C_string (P := Try.prog) (A := cd) (c := (c0 - a1.toNat)) Try.underlying22 Try.underlying5 Try.underlying9 (Kd.C_below aw.out HB.out)
          have a8 := fun n_ : Nat => Kd.C_string (P := Try.prog) (A := cd) (c := (c0 - a1.toNat)) Try.underlying22 Try.underlying5 Try.underlying9 (Kd.C_drewN (Kd.C_below aw.out HB.out) n_)
          (try (have aC : ((l0.take (ai : Int).toNat).drop (a1 : Int).toNat).length = (ai : Int).toNat - (a1 : Int).toNat := (by rw [z7_,z8_,Nat.min_eq_left (by simp only [decide_eq_true_eq,eq_iff_iff,iff_true] at *;omega)]);have a9 := aT;have ba := a8;simp only [aC] at a9 ba;clear aC))
          refine hK.out _ _ HB.out (fun hHeld => ?_)
          clear hK K
          refine norm_ (a' := ?_) ?_ ?_
          rotate_left
          ·show Act.put _ (some 77) _ = _
           simp only [Act.put,z1_,z2_,z3_,i64_w,i32_w]
           rfl
          refine one_ (i := 19) (N := some 78) (bA 28 33554431) rfl rfl (one_of HT_.out (by kernel_rfl)) (by decide) (fun K hK => ?_)
          have aU := own_string (P := Try.prog) Try.underlying22 Try.underlying5 Try.underlying9 (Kd.own_of_R bI.out)
          refine value_ (w1 := ?_) (v := ?_) (by rfl) rfl ?_ ?_
          rotate_left 2
          ·go_simp
           constructor
           ·rfl
           ·rfl
          clear aU
          refine hK.out _ _ HB.out (fun hHeld => ?_)
          clear hK K
          refine norm_ (a' := ?_) ?_ ?_
          rotate_left
          ·show Act.put _ (some 78) _ = _
           simp only [Act.put,z1_,z2_,z3_,i64_w,i32_w]
           rfl
          refine pure_ (i := 25) (N := some 84) (v := ?_) (a' := ?_) (bA 28 67108863) rfl rfl (any_of HT_.out (by kernel_rfl)) (fun _ _ _ h => h) (Or.inl ⟨by rfl,?_⟩) ?_ ?_
          rotate_left
          ·intro w'
           go_simp
           with_reducible rfl
          rotate_left
          ·simp only [Act.put,z1_,z2_,z3_,i64_w,i32_w]
           rfl
          refine pure_ (i := 26) (N := some 85) (v := ?_) (a' := ?_) (bA 28 134217727) rfl rfl (any_of HT_.out (by kernel_rfl)) (fun _ _ _ h => h) (Or.inl ⟨by rfl,?_⟩) ?_ ?_
          rotate_left
          ·intro w'
           go_simp
           with_reducible rfl
          rotate_left
          ·simp only [Act.put,z1_,z2_,z3_,i64_w,i32_w]
           rfl
          refine pure_ (i := 27) (N := some 86) (v := ?_) (a' := ?_) (bA 28 268435455) rfl rfl (any_of HT_.out (by kernel_rfl)) (fun _ _ _ h => h) (Or.inl ⟨by rfl,?_⟩) ?_ ?_
          rotate_left
          ·intro w'
           go_simp
           with_reducible rfl
          rotate_left
          ·simp only [Act.put,z1_,z2_,z3_,i64_w,i32_w]
           rfl
          refine done_ (done_of HT_.out (by kernel_rfl)) ?_
          try go_wp2
          go_meet
          case rel => exact ⟨_,(((strOfNums aJ).toList != (strOfNums ((l0.take (ai : Int).toNat).drop (a1 : Int).toNat)).toList)),(by first|rfl|(simp;done)|(simp [*];done)),H',⟨by have := bx.out;first|omega|exact Nat.le_refl _⟩,⟨bM HB.out⟩⟩
      ·rw [if_neg a7] at H
       have ao := beq_eq_false_iff_ne.mpr a7
       have aB := bne_iff_ne.mpr a7
       (first|rw [ao]|(simp only [i64_w,i32_w];rw [ao])|rw [aB]|skip)
       have H' := aK H
       clear H
       try go_wp2
       have ae := aK (below_drew1 HB.out)
       clear HB
       have HB := ae
       clear ae
       refine start_ (n := 28) (S := fun w' => True) (ds := []) (bA 28 0) (by kernel_rfl) rfl rfl trivial (fun hHeld => ?_);refine with_tabW l03_VarintOnce.tab7 l03_VarintOnce.bits7 (fun HT_ HW_ => ?_)
       generalize wc.drew = w47 at HB hHeld ⊢
       refine pure_ (i := 0) (N := some 59) (v := ?_) (a' := ?_) (bA 28 1) rfl rfl (any_of HT_.out (by kernel_rfl)) (fun _ _ _ h => h) (Or.inl ⟨by rfl,?_⟩) ?_ ?_
       rotate_left
       ·intro w'
        go_simp
        with_reducible rfl
       rotate_left
       ·simp only [Act.put,z1_,z2_,z3_,i64_w,i32_w]
        rfl
       refine pure_ (i := 1) (N := some 60) (v := ?_) (a' := ?_) (bA 28 3) rfl rfl (any_of HT_.out (by kernel_rfl)) (fun _ _ _ h => h) (Or.inl ⟨by rfl,?_⟩) ?_ ?_
       rotate_left
       ·intro w'
        go_simp
        with_reducible rfl
       rotate_left
       ·simp only [Act.put,z1_,z2_,z3_,i64_w,i32_w]
        rfl
       refine pure_ (i := 2) (N := some 61) (v := ?_) (a' := ?_) (bA 28 7) rfl rfl (any_of HT_.out (by kernel_rfl)) (fun _ _ _ h => h) (Or.inl ⟨by rfl,?_⟩) ?_ ?_
       rotate_left
       ·intro w'
        go_simp
        with_reducible rfl
       rotate_left
       ·simp only [Act.put,z1_,z2_,z3_,i64_w,i32_w]
        rfl
       refine pure_ (i := 3) (N := some 62) (v := undef) (a' := ?_) (bA 28 15) rfl rfl (any_of HT_.out (by kernel_rfl)) (fun _ _ _ h => h) (Or.inr ⟨by rfl,rfl⟩) ?_ ?_
       rotate_left
       ·simp only [Act.put,z1_,z2_,z3_,i64_w,i32_w]
        rfl
       refine pure_ (i := 4) (N := some 63) (v := undef) (a' := ?_) (bA 28 31) rfl rfl (any_of HT_.out (by kernel_rfl)) (fun _ _ _ h => h) (Or.inr ⟨by rfl,rfl⟩) ?_ ?_
       rotate_left
       ·simp only [Act.put,z1_,z2_,z3_,i64_w,i32_w]
        rfl
       refine pure_ (i := 5) (N := some 64) (v := undef) (a' := ?_) (bA 28 63) rfl rfl (any_of HT_.out (by kernel_rfl)) (fun _ _ _ h => h) (Or.inr ⟨by rfl,rfl⟩) ?_ ?_
       rotate_left
       ·simp only [Act.put,z1_,z2_,z3_,i64_w,i32_w]
        rfl
       refine pure_ (i := 6) (N := some 65) (v := undef) (a' := ?_) (bA 28 127) rfl rfl (any_of HT_.out (by kernel_rfl)) (fun _ _ _ h => h) (Or.inr ⟨by rfl,rfl⟩) ?_ ?_
       rotate_left
       ·simp only [Act.put,z1_,z2_,z3_,i64_w,i32_w]
        rfl
       refine pure_ (i := 7) (N := some 66) (v := undef) (a' := ?_) (bA 28 255) rfl rfl (any_of HT_.out (by kernel_rfl)) (fun _ _ _ h => h) (Or.inr ⟨by rfl,rfl⟩) ?_ ?_
       rotate_left
       ·simp only [Act.put,z1_,z2_,z3_,i64_w,i32_w]
        rfl
       refine pure_ (i := 8) (N := some 67) (v := undef) (a' := ?_) (bA 28 511) rfl rfl (any_of HT_.out (by kernel_rfl)) (fun _ _ _ h => h) (Or.inr ⟨by rfl,rfl⟩) ?_ ?_
       rotate_left
       ·simp only [Act.put,z1_,z2_,z3_,i64_w,i32_w]
        rfl
       refine pure_ (i := 9) (N := some 68) (v := undef) (a' := ?_) (bA 28 1023) rfl rfl (any_of HT_.out (by kernel_rfl)) (fun _ _ _ h => h) (Or.inr ⟨by rfl,rfl⟩) ?_ ?_
       rotate_left
       ·simp only [Act.put,z1_,z2_,z3_,i64_w,i32_w]
        rfl
       refine pure_ (i := 10) (N := some 69) (v := undef) (a' := ?_) (bA 28 2047) rfl rfl (any_of HT_.out (by kernel_rfl)) (fun _ _ _ h => h) (Or.inr ⟨by rfl,rfl⟩) ?_ ?_
       rotate_left
       ·simp only [Act.put,z1_,z2_,z3_,i64_w,i32_w]
        rfl
       refine pure_ (i := 11) (N := some 70) (v := undef) (a' := ?_) (bA 28 4095) rfl rfl (any_of HT_.out (by kernel_rfl)) (fun _ _ _ h => h) (Or.inr ⟨by rfl,rfl⟩) ?_ ?_
       rotate_left
       ·simp only [Act.put,z1_,z2_,z3_,i64_w,i32_w]
        rfl
       refine pure_ (i := 12) (N := some 71) (v := undef) (a' := ?_) (bA 28 8191) rfl rfl (any_of HT_.out (by kernel_rfl)) (fun _ _ _ h => h) (Or.inr ⟨by rfl,rfl⟩) ?_ ?_
       rotate_left
       ·simp only [Act.put,z1_,z2_,z3_,i64_w,i32_w]
        rfl
       refine pure_ (i := 13) (N := some 72) (v := undef) (a' := ?_) (bA 28 16383) rfl rfl (any_of HT_.out (by kernel_rfl)) (fun _ _ _ h => h) (Or.inr ⟨by rfl,rfl⟩) ?_ ?_
       rotate_left
       ·simp only [Act.put,z1_,z2_,z3_,i64_w,i32_w]
        rfl
       refine pure_ (i := 14) (N := some 73) (v := undef) (a' := ?_) (bA 28 32767) rfl rfl (any_of HT_.out (by kernel_rfl)) (fun _ _ _ h => h) (Or.inr ⟨by rfl,rfl⟩) ?_ ?_
       rotate_left
       ·simp only [Act.put,z1_,z2_,z3_,i64_w,i32_w]
        rfl
       refine pure_ (i := 15) (N := some 74) (v := undef) (a' := ?_) (bA 28 65535) rfl rfl (any_of HT_.out (by kernel_rfl)) (fun _ _ _ h => h) (Or.inr ⟨by rfl,rfl⟩) ?_ ?_
       rotate_left
       ·simp only [Act.put,z1_,z2_,z3_,i64_w,i32_w]
        rfl
       refine pure_ (i := 16) (N := some 75) (v := undef) (a' := ?_) (bA 28 131071) rfl rfl (any_of HT_.out (by kernel_rfl)) (fun _ _ _ h => h) (Or.inr ⟨by rfl,rfl⟩) ?_ ?_
       rotate_left
       ·simp only [Act.put,z1_,z2_,z3_,i64_w,i32_w]
        rfl
       refine pure_ (i := 17) (N := some 76) (v := undef) (a' := ?_) (bA 28 262143) rfl rfl (any_of HT_.out (by kernel_rfl)) (fun _ _ _ h => h) (Or.inr ⟨by rfl,rfl⟩) ?_ ?_
       rotate_left
       ·simp only [Act.put,z1_,z2_,z3_,i64_w,i32_w]
        rfl
       refine pure_ (i := 18) (N := some 77) (v := undef) (a' := ?_) (bA 28 524287) rfl rfl (any_of HT_.out (by kernel_rfl)) (fun _ _ _ h => h) (Or.inr ⟨by rfl,rfl⟩) ?_ ?_
       rotate_left
       ·simp only [Act.put,z1_,z2_,z3_,i64_w,i32_w]
        rfl
       refine pure_ (i := 19) (N := some 78) (v := undef) (a' := ?_) (bA 28 1048575) rfl rfl (any_of HT_.out (by kernel_rfl)) (fun _ _ _ h => h) (Or.inr ⟨by rfl,rfl⟩) ?_ ?_
       rotate_left
       ·simp only [Act.put,z1_,z2_,z3_,i64_w,i32_w]
        rfl
       refine pure_ (i := 20) (N := some 79) (v := undef) (a' := ?_) (bA 28 2097151) rfl rfl (any_of HT_.out (by kernel_rfl)) (fun _ _ _ h => h) (Or.inr ⟨by rfl,rfl⟩) ?_ ?_
       rotate_left
       ·simp only [Act.put,z1_,z2_,z3_,i64_w,i32_w]
        rfl
       refine pure_ (i := 21) (N := some 80) (v := undef) (a' := ?_) (bA 28 4194303) rfl rfl (any_of HT_.out (by kernel_rfl)) (fun _ _ _ h => h) (Or.inr ⟨by rfl,rfl⟩) ?_ ?_
       rotate_left
       ·simp only [Act.put,z1_,z2_,z3_,i64_w,i32_w]
        rfl
       refine pure_ (i := 22) (N := some 81) (v := undef) (a' := ?_) (bA 28 8388607) rfl rfl (any_of HT_.out (by kernel_rfl)) (fun _ _ _ h => h) (Or.inr ⟨by rfl,rfl⟩) ?_ ?_
       rotate_left
       ·simp only [Act.put,z1_,z2_,z3_,i64_w,i32_w]
        rfl
       refine pure_ (i := 23) (N := some 82) (v := undef) (a' := ?_) (bA 28 16777215) rfl rfl (any_of HT_.out (by kernel_rfl)) (fun _ _ _ h => h) (Or.inr ⟨by rfl,rfl⟩) ?_ ?_
       rotate_left
       ·simp only [Act.put,z1_,z2_,z3_,i64_w,i32_w]
        rfl
       refine pure_ (i := 24) (N := some 83) (v := undef) (a' := ?_) (bA 28 33554431) rfl rfl (any_of HT_.out (by kernel_rfl)) (fun _ _ _ h => h) (Or.inr ⟨by rfl,rfl⟩) ?_ ?_
       rotate_left
       ·simp only [Act.put,z1_,z2_,z3_,i64_w,i32_w]
        rfl
       refine pure_ (i := 25) (N := some 84) (v := undef) (a' := ?_) (bA 28 67108863) rfl rfl (any_of HT_.out (by kernel_rfl)) (fun _ _ _ h => h) (Or.inr ⟨by rfl,rfl⟩) ?_ ?_
       rotate_left
       ·simp only [Act.put,z1_,z2_,z3_,i64_w,i32_w]
        rfl
       refine pure_ (i := 26) (N := some 85) (v := undef) (a' := ?_) (bA 28 134217727) rfl rfl (any_of HT_.out (by kernel_rfl)) (fun _ _ _ h => h) (Or.inr ⟨by rfl,rfl⟩) ?_ ?_
       rotate_left
       ·simp only [Act.put,z1_,z2_,z3_,i64_w,i32_w]
        rfl
       refine pure_ (i := 27) (N := some 86) (v := ?_) (a' := ?_) (bA 28 268435455) rfl rfl (any_of HT_.out (by kernel_rfl)) (fun _ _ _ h => h) (Or.inl ⟨by rfl,?_⟩) ?_ ?_
       rotate_left
       ·intro w'
        go_simp
        with_reducible rfl
       rotate_left
       ·simp only [Act.put,z1_,z2_,z3_,i64_w,i32_w]
        rfl
       refine done_ (done_of HT_.out (by kernel_rfl)) ?_
       try go_wp2
       go_meet
       case rel => exact ⟨_,(false),(by first|rfl|(simp;done)|(simp [*];done)),H',⟨by have := bx.out;first|omega|exact Nat.le_refl _⟩,⟨bM HB.out⟩⟩
     case rest =>
      clear a6
      try clear p2
      try clear hcv4
      try clear aU
      try clear aT
      obtain ⟨kq,am,rfl,HA,dd,HB⟩ := hcut
      cases kq with
     |zero => exact absurd HA.out (by simp [l03_VarintOnce.j1])
     |succ kj28 =>
       have H := HA.out
       clear HA
       simp only [l03_VarintOnce.j1] at H
       by_cases b0 : am = true
       ·subst b0
        rw [if_pos rfl] at H
        obtain rfl := Option.some.inj H
        go_wp2
        go_ret
        exact ⟨by first|rfl|(simp [errW_none,errW_some] <;> rfl)|(simp [*,errW_none,errW_some] <;> rfl),bM HB.out⟩
       ·replace b0 := Bool.eq_false_iff.mpr b0
        subst b0
        rw [if_neg (show ¬ (false = true) by decide)] at H
        replace H := Option.bind_eq_some_iff.mp H
        obtain ⟨⟨aj,af,ar⟩,bJ,H⟩ := H
        replace H : (if ar = 0 then ((varint_PutList.f kj28 ([] : List Int) aj).bind fun aV => (if a1 ≥ 0 then (if af > a1 then (if af ≤ (l0.length : Int) then (if aV.2 = 0 then (if 0 ≤ a1 then (if a1 ≤ af then (some ((strOfNums aV.1).toList == (strOfNums ((l0.take (af : Int).toNat).drop (a1 : Int).toNat)).toList)) else (none)) else (none)) else (some false)) else (some false)) else (some false)) else (some false))) else (some true)) = some r := H
        have bK := aK bJ
        clear bJ
        by_cases bb : ar = 0
        ·rw [if_pos bb] at H
         have bL := beq_iff_eq.mpr bb
         have bN := bne_eq_false_iff_eq.mpr bb
         clear bb
         replace H := Option.bind_eq_some_iff.mp H
         obtain ⟨⟨ax,ay⟩,bO,H⟩ := H
         replace H : (if a1 ≥ 0 then (if af > a1 then (if af ≤ (l0.length : Int) then (if ay = 0 then (if 0 ≤ a1 then (if a1 ≤ af then (some ((strOfNums ax).toList == (strOfNums ((l0.take (af : Int).toNat).drop (a1 : Int).toNat)).toList)) else (none)) else (none)) else (some false)) else (some false)) else (some false)) else (some false)) = some r := H
         have b1 := aK bO
         clear bO
         by_cases bl : a1 ≥ 0
         ·rw [if_pos bl] at H
          have bP := decide_eq_true bl
          clear bl
          by_cases bm : af > a1
          ·rw [if_pos bm] at H
           have bQ := decide_eq_true bm
           clear bm
           by_cases bn : af ≤ (l0.length : Int)
           ·rw [if_pos bn] at H
            have bR := decide_eq_true bn
            clear bn
            have bS := aK H;clear H
            try go_wp2_with (first|((with_reducible refine gate_callee (f := 27) rfl ?_);refine gL 91 Try.func27 #[.slice A0 l0.length c0,.int .i64 a1,.int .i64 a2] ?_;(with_reducible refine (varint_GetList.calls kj28 _ _ l0 a1 a2 aj af ar _ ?ab ?ac bK.out).mono ?_);(case ab => exact cM (Kd.C_below aE.out HB.out));(case ac => exact aF.out);rintro e dl ⟨aL,rfl,ag,hb⟩;refine ⟨_,rfl,?_⟩;have aa := aK (Kd.R_lower ag (below_size (bM HB.out)));replace HB := aK (below_step (bM HB.out) hb);(try clear hb);(try clear ag);obtain ⟨cf,cg,ch⟩ := Kd.R_slice aa.out;subst ch)|(go_at_call 23;refine calls_of_args (args' := #[.slice none ([] : List Int).length 0,.slice cf aj.length cg]) (by first|with_reducible rfl|(simp only [List.length_nil];done)|(simp only [List.length_nil];with_reducible rfl)) ?_;(with_reducible refine (varint_PutList.calls kj28 _ _ ([] : List Int) _ _ aj ax ay _ ?ab ?ac ?ak ?al b1.out).mono ?_);(case ab => exact Kd.C_nil _ _);(case ac => exact Nat.le_refl _);(case ak => exact cM (Kd.R_reads' aa.out).2.2);(case al => exact (Kd.R_reads' aa.out).2.1);rintro e cO ⟨aM,rfl,ag,hb⟩;replace aa := aK (Kd.R_below (rM aa.out) hb);have ad := aK (Kd.R_lower ag (below_size (bM HB.out)));replace HB := aK (below_step (bM HB.out) hb);(try clear hb);(try clear ag)))
            have ae := aK (Kd.R_drew aa.out)
            have an := aK (Kd.R_drew ad.out)
            have aD := aK (below_drew1 HB.out)
            clear aa
            clear ad
            clear HB
            have aa := ae
            have ad := an
            have HB := aD
            clear ae an aD
            have H := bS.out;clear bS
            by_cases bc : ay = 0
            ·rw [if_pos bc] at H
             have bT := beq_iff_eq.mpr bc
             have bU := bne_eq_false_iff_eq.mpr bc
             clear bc
             obtain ⟨ci,H⟩ := iS H
             have cP := eq_true ci
             have cQ := decide_eq_true ci
             clear ci
             obtain ⟨cj,H⟩ := iS H
             have cR := eq_true cj
             have cS := decide_eq_true cj
             clear cj
             have cT := eq_true (dA : af ≤ (l0.length : Int))
             obtain rfl := Option.some.inj H
             obtain ⟨de,aW,_,aX,_⟩ := info_parts info5
             obtain ⟨b2,ck,bV,bW⟩ := print_mid_of (P := Try.prog) (Value.int .u8) 0 22 5 .i64 .i64 Try.underlying22 aW aX A0 c0 l0 a1 af (dA) (by first|omega|exact dA) (dA) aF.out
             have ap := aK (Kd.C_of_reads (h1 := fun _ => rfl) (bV _ (Kd.reads_of_C aE.out)))
             have cU := aK bW
             clear bV bW aW aX
             have bX := own_string (P := Try.prog) Try.underlying22 Try.underlying5 Try.underlying9 (Kd.own_of_R ad.out)
             have bY := Kd.C_string (P := Try.prog) (A := b2) (c := (c0 - a1.toNat)) Try.underlying22 Try.underlying5 Try.underlying9 (Kd.C_below ap.out HB.out)
             have bd := fun n_ : Nat => Kd.C_string (P := Try.prog) (A := b2) (c := (c0 - a1.toNat)) Try.underlying22 Try.underlying5 Try.underlying9 (Kd.C_drewN (Kd.C_below ap.out HB.out) n_)
             (try (have aq : ((l0.take (af : Int).toNat).drop (a1 : Int).toNat).length = (af : Int).toNat - (a1 : Int).toNat := (by rw [z7_,z8_,Nat.min_eq_left (by simp only [decide_eq_true_eq,eq_iff_iff,iff_true] at *;omega)]);have be := bY;have bf := bd;simp only [aq] at be bf;clear aq))
             refine start_ (n := 28) (S := fun w' => Below w.heap.size w w' ∧ (convert 22 9 aM).run Try.prog w' = .ok (.string (strOfNums ax)) w') (ds := []) (bA 28 0) (by kernel_rfl) rfl rfl ⟨HB.out,bX⟩ (fun hHeld => ?_);refine with_tabW l03_VarintOnce.tab13 l03_VarintOnce.bits13 (fun HT_ HW_ => ?_)
             generalize cO.drew = w62 at aa ad HB ap hHeld ⊢
             refine pure_ (i := 0) (N := some 102) (v := ?_) (a' := ?_) (bA 28 1) rfl rfl (any_of HT_.out (by kernel_rfl)) (fun _ _ _ h => h) (Or.inl ⟨by rfl,?_⟩) ?_ ?_
             rotate_left
             ·intro w'
              go_simp
              with_reducible rfl
             rotate_left
             ·simp only [Act.put,z1_,z2_,z3_,i64_w,i32_w]
              rfl
             refine pure_ (i := 1) (N := some 103) (v := ?_) (a' := ?_) (bA 28 3) rfl rfl (any_of HT_.out (by kernel_rfl)) (fun _ _ _ h => h) (Or.inl ⟨by rfl,?_⟩) ?_ ?_
             rotate_left
             ·intro w'
              go_simp
              with_reducible rfl
             rotate_left
             ·simp only [Act.put,z1_,z2_,z3_,i64_w,i32_w]
              rfl
             refine pure_ (i := 2) (N := some 104) (v := ?_) (a' := ?_) (bA 28 7) rfl rfl (any_of HT_.out (by kernel_rfl)) (fun _ _ _ h => h) (Or.inl ⟨by rfl,?_⟩) ?_ ?_
             rotate_left
             ·intro w'
              go_simp
              with_reducible rfl
             rotate_left
             ·simp only [Act.put,z1_,z2_,z3_,i64_w,i32_w]
              rfl
             refine pure_ (i := 3) (N := some 105) (v := ?_) (a' := ?_) (bA 28 15) rfl rfl (any_of HT_.out (by kernel_rfl)) (fun _ _ _ h => h) (Or.inl ⟨by rfl,?_⟩) ?_ ?_
             rotate_left
             ·intro w'
              go_simp
              with_reducible rfl
             rotate_left
             ·simp only [Act.put,z1_,z2_,z3_,i64_w,i32_w]
              rfl
             refine pure_ (i := 4) (N := some 106) (v := ?_) (a' := ?_) (bA 28 31) rfl rfl (any_of HT_.out (by kernel_rfl)) (fun _ _ _ h => h) (Or.inl ⟨by rfl,?_⟩) ?_ ?_
             rotate_left
             ·intro w'
              go_simp
              with_reducible rfl
             rotate_left
             ·simp only [Act.put,z1_,z2_,z3_,i64_w,i32_w]
              rfl
             refine pure_ (i := 5) (N := some 107) (v := ?_) (a' := ?_) (bA 28 63) rfl rfl (any_of HT_.out (by kernel_rfl)) (fun _ _ _ h => h) (Or.inl ⟨by rfl,?_⟩) ?_ ?_
             rotate_left
             ·intro w'
              go_simp
              with_reducible rfl
             rotate_left
             ·simp only [Act.put,z1_,z2_,z3_,i64_w,i32_w]
              rfl
             refine pure_ (i := 6) (N := some 108) (v := ?_) (a' := ?_) (bA 28 127) rfl rfl (any_of HT_.out (by kernel_rfl)) (fun _ _ _ h => h) (Or.inl ⟨by rfl,?_⟩) ?_ ?_
             rotate_left
             ·intro w'
              go_simp
              with_reducible rfl
             rotate_left
             ·simp only [Act.put,z1_,z2_,z3_,i64_w,i32_w]
              rfl
             refine pure_ (i := 7) (N := some 109) (v := ?_) (a' := ?_) (bA 28 255) rfl rfl (any_of HT_.out (by kernel_rfl)) (fun _ _ _ h => h) (Or.inl ⟨by rfl,?_⟩) ?_ ?_
             rotate_left
             ·intro w'
              go_simp
              with_reducible rfl
             rotate_left
             ·simp only [Act.put,z1_,z2_,z3_,i64_w,i32_w]
              rfl
             refine pure_ (i := 8) (N := some 110) (v := ?_) (a' := ?_) (bA 28 511) rfl rfl (any_of HT_.out (by kernel_rfl)) (fun _ _ _ h => h) (Or.inl ⟨by rfl,?_⟩) ?_ ?_
             rotate_left
             ·intro w'
              go_simp
              with_reducible rfl
             rotate_left
             ·simp only [Act.put,z1_,z2_,z3_,i64_w,i32_w]
              rfl
             refine pure_ (i := 9) (N := some 111) (v := ?_) (a' := ?_) (bA 28 1023) rfl rfl (any_of HT_.out (by kernel_rfl)) (fun _ _ _ h => h) (Or.inl ⟨by rfl,?_⟩) ?_ ?_
             rotate_left
             ·intro w'
              go_simp
              with_reducible rfl
             rotate_left
             ·simp only [Act.put,z1_,z2_,z3_,i64_w,i32_w]
              rfl
             refine pure_ (i := 10) (N := some 112) (v := ?_) (a' := ?_) (bA 28 2047) rfl rfl (any_of HT_.out (by kernel_rfl)) (fun _ _ _ h => h) (Or.inl ⟨by rfl,?_⟩) ?_ ?_
             rotate_left
             ·intro w'
              go_simp
              with_reducible rfl
             rotate_left
             ·simp only [Act.put,z1_,z2_,z3_,i64_w,i32_w]
              rfl
             refine pure_ (i := 11) (N := some 113) (v := ?_) (a' := ?_) (bA 28 4095) rfl rfl (any_of HT_.out (by kernel_rfl)) (fun _ _ _ h => h) (Or.inl ⟨by rfl,?_⟩) ?_ ?_
             rotate_left
             ·intro w'
              go_simp
              with_reducible rfl
             rotate_left
             ·simp only [Act.put,z1_,z2_,z3_,i64_w,i32_w]
              rfl
             refine pure_ (i := 12) (N := some 114) (v := ?_) (a' := ?_) (bA 28 8191) rfl rfl (any_of HT_.out (by kernel_rfl)) (fun _ _ _ h => h) (Or.inl ⟨by rfl,?_⟩) ?_ ?_
             rotate_left
             ·intro w'
              go_simp
              with_reducible rfl
             rotate_left
             ·simp only [Act.put,z1_,z2_,z3_,i64_w,i32_w]
              rfl
             refine pure_ (i := 13) (N := some 115) (v := ?_) (a' := ?_) (bA 28 16383) rfl rfl (any_of HT_.out (by kernel_rfl)) (fun _ _ _ h => h) (Or.inl ⟨by rfl,?_⟩) ?_ ?_
             rotate_left
             ·intro w'
              go_simp
              with_reducible rfl
             rotate_left
             ·simp only [Act.put,z1_,z2_,z3_,i64_w,i32_w]
              rfl
             refine pure_ (i := 14) (N := some 116) (v := ?_) (a' := ?_) (bA 28 32767) rfl rfl (any_of HT_.out (by kernel_rfl)) (fun _ _ _ h => h) (Or.inl ⟨by rfl,?_⟩) ?_ ?_
             rotate_left
             ·intro w'
              go_simp
              with_reducible rfl
             rotate_left
             ·simp only [Act.put,z1_,z2_,z3_,i64_w,i32_w]
              rfl
             refine pure_ (i := 15) (N := some 117) (v := ?_) (a' := ?_) (bA 28 65535) rfl rfl (any_of HT_.out (by kernel_rfl)) (fun _ _ _ h => h) (Or.inl ⟨by rfl,?_⟩) ?_ ?_
             rotate_left
             ·intro w'
              go_simp
              with_reducible rfl
             rotate_left
             ·simp only [Act.put,z1_,z2_,z3_,i64_w,i32_w]
              rfl
             refine pure_ (i := 16) (N := some 118) (v := ?_) (a' := ?_) (bA 28 131071) rfl rfl (any_of HT_.out (by kernel_rfl)) (fun _ _ _ h => h) (Or.inl ⟨by rfl,?_⟩) ?_ ?_
             rotate_left
             ·intro w'
              go_simp
              with_reducible rfl
             rotate_left
             ·simp only [Act.put,z1_,z2_,z3_,i64_w,i32_w]
              rfl
             refine pure_ (i := 17) (N := some 119) (v := ?_) (a' := ?_) (bA 28 262143) rfl rfl (any_of HT_.out (by kernel_rfl)) (fun _ _ _ h => h) (Or.inl ⟨by rfl,?_⟩) ?_ ?_
             rotate_left
             ·intro w'
              go_simp
              with_reducible rfl
             rotate_left
             ·simp only [Act.put,z1_,z2_,z3_,i64_w,i32_w]
              rfl
             refine pure_ (i := 18) (N := some 120) (v := ?_) (a' := ?_) (bA 28 524287) rfl rfl (any_of HT_.out (by kernel_rfl)) (fun _ _ _ h => h) (Or.inl ⟨by rfl,?_⟩) ?_ ?_
             rotate_left
             ·intro w'
              go_simp
              with_reducible rfl
             rotate_left
             ·simp only [Act.put,z1_,z2_,z3_,i64_w,i32_w]
              rfl
             refine take_ (i := 19) (N := some 121) (v := ?_) (a' := ?_) (bA 28 1048575) rfl rfl (take_ofW HT_.out HW_.out (by kernel_rfl)) (fun _ _ _ h => h) (Or.inl ⟨by rfl,?_⟩) hHeld ?_ ?_
             rotate_left
             ·intro w' s_
              obtain ⟨cl,df⟩ := s_
              have cv_ := Kd.C_string (P := Try.prog) (A := b2) (c := (c0 - a1.toNat)) Try.underlying22 Try.underlying5 Try.underlying9 (Kd.C_below ap.out cl)
              have aq : ((l0.take (af : Int).toNat).drop (a1 : Int).toNat).length = (af : Int).toNat - (a1 : Int).toNat := (by rw [z7_,z8_,Nat.min_eq_left (by simp only [decide_eq_true_eq,eq_iff_iff,iff_true] at *;omega)]);simp only [aq] at cv_;clear aq
              go_simp
              with_reducible rfl
             rotate_left
             ·simp only [Act.put,z1_,z2_,z3_,i64_w,i32_w]
              rfl
             refine pure_ (i := 20) (N := some 122) (v := ?_) (a' := ?_) (bA 28 2097151) rfl rfl (any_of HT_.out (by kernel_rfl)) (fun _ _ _ h => h) (Or.inl ⟨by rfl,?_⟩) ?_ ?_
             rotate_left
             ·intro w'
              go_simp
              with_reducible rfl
             rotate_left
             ·simp only [Act.put,z1_,z2_,z3_,i64_w,i32_w]
              rfl
             refine pure_ (i := 21) (N := some 123) (v := ?_) (a' := ?_) (bA 28 4194303) rfl rfl (any_of HT_.out (by kernel_rfl)) (fun _ _ _ h => h) (Or.inl ⟨by rfl,?_⟩) ?_ ?_
             rotate_left
             ·intro w'
              go_simp
              with_reducible rfl
             rotate_left
             ·simp only [Act.put,z1_,z2_,z3_,i64_w,i32_w]
              rfl
             refine pure_ (i := 22) (N := some 124) (v := ?_) (a' := ?_) (bA 28 8388607) rfl rfl (any_of HT_.out (by kernel_rfl)) (fun _ _ _ h => h) (Or.inl ⟨by rfl,?_⟩) ?_ ?_
             rotate_left
             ·intro w'
              go_simp
              with_reducible rfl
             rotate_left
             ·simp only [Act.put,z1_,z2_,z3_,i64_w,i32_w]
              rfl
             refine pure_ (i := 23) (N := some 125) (v := ?_) (a' := ?_) (bA 28 16777215) rfl rfl (any_of HT_.out (by kernel_rfl)) (fun _ _ _ h => h) (Or.inl ⟨by rfl,?_⟩) ?_ ?_
             rotate_left
             ·intro w'
              go_simp
              with_reducible rfl
             rotate_left
             ·simp only [Act.put,z1_,z2_,z3_,i64_w,i32_w]
              rfl
             refine take_ (i := 24) (N := some 126) (v := ?_) (a' := ?_) (bA 28 33554431) rfl rfl (take_ofW HT_.out HW_.out (by kernel_rfl)) (fun _ _ _ h => h) (Or.inl ⟨by rfl,?_⟩) hHeld ?_ ?_
             rotate_left
             ·intro w' s_
              obtain ⟨cl,df⟩ := s_
              have cv_ := Kd.C_string (P := Try.prog) (A := b2) (c := (c0 - a1.toNat)) Try.underlying22 Try.underlying5 Try.underlying9 (Kd.C_below ap.out cl)
              have aq : ((l0.take (af : Int).toNat).drop (a1 : Int).toNat).length = (af : Int).toNat - (a1 : Int).toNat := (by rw [z7_,z8_,Nat.min_eq_left (by simp only [decide_eq_true_eq,eq_iff_iff,iff_true] at *;omega)]);simp only [aq] at cv_;clear aq
              go_simp
              with_reducible rfl
             rotate_left
             ·simp only [Act.put,z1_,z2_,z3_,i64_w,i32_w]
              rfl
             refine pure_ (i := 25) (N := some 127) (v := ?_) (a' := ?_) (bA 28 67108863) rfl rfl (any_of HT_.out (by kernel_rfl)) (fun _ _ _ h => h) (Or.inl ⟨by rfl,?_⟩) ?_ ?_
             rotate_left
             ·intro w'
              go_simp
              with_reducible rfl
             rotate_left
             ·simp only [Act.put,z1_,z2_,z3_,i64_w,i32_w]
              rfl
             refine pure_ (i := 26) (N := some 128) (v := ?_) (a' := ?_) (bA 28 134217727) rfl rfl (any_of HT_.out (by kernel_rfl)) (fun _ _ _ h => h) (Or.inl ⟨by rfl,?_⟩) ?_ ?_
             rotate_left
             ·intro w'
              go_simp
              with_reducible rfl
             rotate_left
             ·simp only [Act.put,z1_,z2_,z3_,i64_w,i32_w]
              rfl
             refine pure_ (i := 27) (N := some 6) (v := ?_) (a' := ?_) (bA 28 268435455) rfl rfl (any_of HT_.out (by kernel_rfl)) (fun _ _ _ h => h) (Or.inl ⟨by rfl,?_⟩) ?_ ?_
             rotate_left
             ·intro w'
              go_simp
              with_reducible rfl
             rotate_left
             ·simp only [Act.put,z1_,z2_,z3_,i64_w,i32_w]
              rfl
             refine done_ (done_of HT_.out (by kernel_rfl)) ?_
             try go_wp2
             go_ret
             exact ⟨by first|rfl|(simp [errW_none,errW_some] <;> rfl)|(simp [*,errW_none,errW_some] <;> rfl),bM HB.out⟩
            ·rw [if_neg bc] at H
             have bT := beq_eq_false_iff_ne.mpr bc
             have bU := bne_iff_ne.mpr bc
             obtain rfl := Option.some.inj H
             refine start_ (n := 28) (S := fun w' => True) (ds := []) (bA 28 0) (by kernel_rfl) rfl rfl trivial (fun hHeld => ?_);refine with_tabW l03_VarintOnce.tab13 l03_VarintOnce.bits13 (fun HT_ HW_ => ?_)
             generalize cO.drew = w70 at aa ad HB hHeld ⊢
             refine pure_ (i := 0) (N := some 102) (v := ?_) (a' := ?_) (bA 28 1) rfl rfl (any_of HT_.out (by kernel_rfl)) (fun _ _ _ h => h) (Or.inl ⟨by rfl,?_⟩) ?_ ?_
             rotate_left
             ·intro w'
              go_simp
              with_reducible rfl
             rotate_left
             ·simp only [Act.put,z1_,z2_,z3_,i64_w,i32_w]
              rfl
             refine pure_ (i := 1) (N := some 103) (v := ?_) (a' := ?_) (bA 28 3) rfl rfl (any_of HT_.out (by kernel_rfl)) (fun _ _ _ h => h) (Or.inl ⟨by rfl,?_⟩) ?_ ?_
             rotate_left
             ·intro w'
              go_simp
              with_reducible rfl
             rotate_left
             ·simp only [Act.put,z1_,z2_,z3_,i64_w,i32_w]
              rfl
             refine pure_ (i := 2) (N := some 104) (v := ?_) (a' := ?_) (bA 28 7) rfl rfl (any_of HT_.out (by kernel_rfl)) (fun _ _ _ h => h) (Or.inl ⟨by rfl,?_⟩) ?_ ?_
             rotate_left
             ·intro w'
              go_simp
              with_reducible rfl
             rotate_left
             ·simp only [Act.put,z1_,z2_,z3_,i64_w,i32_w]
              rfl
             refine pure_ (i := 3) (N := some 105) (v := ?_) (a' := ?_) (bA 28 15) rfl rfl (any_of HT_.out (by kernel_rfl)) (fun _ _ _ h => h) (Or.inl ⟨by rfl,?_⟩) ?_ ?_
             rotate_left
             ·intro w'
              go_simp
              with_reducible rfl
             rotate_left
             ·simp only [Act.put,z1_,z2_,z3_,i64_w,i32_w]
              rfl
             refine pure_ (i := 4) (N := some 106) (v := ?_) (a' := ?_) (bA 28 31) rfl rfl (any_of HT_.out (by kernel_rfl)) (fun _ _ _ h => h) (Or.inl ⟨by rfl,?_⟩) ?_ ?_
             rotate_left
             ·intro w'
              go_simp
              with_reducible rfl
             rotate_left
             ·simp only [Act.put,z1_,z2_,z3_,i64_w,i32_w]
              rfl
             refine pure_ (i := 5) (N := some 107) (v := ?_) (a' := ?_) (bA 28 63) rfl rfl (any_of HT_.out (by kernel_rfl)) (fun _ _ _ h => h) (Or.inl ⟨by rfl,?_⟩) ?_ ?_
             rotate_left
             ·intro w'
              go_simp
              with_reducible rfl
             rotate_left
             ·simp only [Act.put,z1_,z2_,z3_,i64_w,i32_w]
              rfl
             refine pure_ (i := 6) (N := some 108) (v := ?_) (a' := ?_) (bA 28 127) rfl rfl (any_of HT_.out (by kernel_rfl)) (fun _ _ _ h => h) (Or.inl ⟨by rfl,?_⟩) ?_ ?_
             rotate_left
             ·intro w'
              go_simp
              with_reducible rfl
             rotate_left
             ·simp only [Act.put,z1_,z2_,z3_,i64_w,i32_w]
              rfl
             refine pure_ (i := 7) (N := some 109) (v := ?_) (a' := ?_) (bA 28 255) rfl rfl (any_of HT_.out (by kernel_rfl)) (fun _ _ _ h => h) (Or.inl ⟨by rfl,?_⟩) ?_ ?_
             rotate_left
             ·intro w'
              go_simp
              with_reducible rfl
             rotate_left
             ·simp only [Act.put,z1_,z2_,z3_,i64_w,i32_w]
              rfl
             refine pure_ (i := 8) (N := some 110) (v := ?_) (a' := ?_) (bA 28 511) rfl rfl (any_of HT_.out (by kernel_rfl)) (fun _ _ _ h => h) (Or.inl ⟨by rfl,?_⟩) ?_ ?_
             rotate_left
             ·intro w'
              go_simp
              with_reducible rfl
             rotate_left
             ·simp only [Act.put,z1_,z2_,z3_,i64_w,i32_w]
              rfl
             refine pure_ (i := 9) (N := some 111) (v := ?_) (a' := ?_) (bA 28 1023) rfl rfl (any_of HT_.out (by kernel_rfl)) (fun _ _ _ h => h) (Or.inl ⟨by rfl,?_⟩) ?_ ?_
             rotate_left
             ·intro w'
              go_simp
              with_reducible rfl
             rotate_left
             ·simp only [Act.put,z1_,z2_,z3_,i64_w,i32_w]
              rfl
             refine pure_ (i := 10) (N := some 112) (v := ?_) (a' := ?_) (bA 28 2047) rfl rfl (any_of HT_.out (by kernel_rfl)) (fun _ _ _ h => h) (Or.inl ⟨by rfl,?_⟩) ?_ ?_
             rotate_left
             ·intro w'
              go_simp
              with_reducible rfl
             rotate_left
             ·simp only [Act.put,z1_,z2_,z3_,i64_w,i32_w]
              rfl
             refine pure_ (i := 11) (N := some 113) (v := ?_) (a' := ?_) (bA 28 4095) rfl rfl (any_of HT_.out (by kernel_rfl)) (fun _ _ _ h => h) (Or.inl ⟨by rfl,?_⟩) ?_ ?_
             rotate_left
             ·intro w'
              go_simp
              with_reducible rfl
             rotate_left
             ·simp only [Act.put,z1_,z2_,z3_,i64_w,i32_w]
              rfl
             refine pure_ (i := 12) (N := some 114) (v := ?_) (a' := ?_) (bA 28 8191) rfl rfl (any_of HT_.out (by kernel_rfl)) (fun _ _ _ h => h) (Or.inl ⟨by rfl,?_⟩) ?_ ?_
             rotate_left
             ·intro w'
              go_simp
              with_reducible rfl
             rotate_left
             ·simp only [Act.put,z1_,z2_,z3_,i64_w,i32_w]
              rfl
             refine pure_ (i := 13) (N := some 115) (v := ?_) (a' := ?_) (bA 28 16383) rfl rfl (any_of HT_.out (by kernel_rfl)) (fun _ _ _ h => h) (Or.inl ⟨by rfl,?_⟩) ?_ ?_
             rotate_left
             ·intro w'
              go_simp
              with_reducible rfl
             rotate_left
             ·simp only [Act.put,z1_,z2_,z3_,i64_w,i32_w]
              rfl
             refine pure_ (i := 14) (N := some 116) (v := ?_) (a' := ?_) (bA 28 32767) rfl rfl (any_of HT_.out (by kernel_rfl)) (fun _ _ _ h => h) (Or.inl ⟨by rfl,?_⟩) ?_ ?_
             rotate_left
             ·intro w'
              go_simp
              with_reducible rfl
             rotate_left
             ·simp only [Act.put,z1_,z2_,z3_,i64_w,i32_w]
              rfl
             refine pure_ (i := 15) (N := some 117) (v := ?_) (a' := ?_) (bA 28 65535) rfl rfl (any_of HT_.out (by kernel_rfl)) (fun _ _ _ h => h) (Or.inl ⟨by rfl,?_⟩) ?_ ?_
             rotate_left
             ·intro w'
              go_simp
              with_reducible rfl
             rotate_left
             ·simp only [Act.put,z1_,z2_,z3_,i64_w,i32_w]
              rfl
             refine pure_ (i := 16) (N := some 118) (v := ?_) (a' := ?_) (bA 28 131071) rfl rfl (any_of HT_.out (by kernel_rfl)) (fun _ _ _ h => h) (Or.inl ⟨by rfl,?_⟩) ?_ ?_
             rotate_left
             ·intro w'
              go_simp
              with_reducible rfl
             rotate_left
             ·simp only [Act.put,z1_,z2_,z3_,i64_w,i32_w]
              rfl
             refine pure_ (i := 17) (N := some 119) (v := ?_) (a' := ?_) (bA 28 262143) rfl rfl (any_of HT_.out (by kernel_rfl)) (fun _ _ _ h => h) (Or.inl ⟨by rfl,?_⟩) ?_ ?_
             rotate_left
             ·intro w'
              go_simp
              with_reducible rfl
             rotate_left
             ·simp only [Act.put,z1_,z2_,z3_,i64_w,i32_w]
              rfl
             refine pure_ (i := 18) (N := some 120) (v := undef) (a' := ?_) (bA 28 524287) rfl rfl (any_of HT_.out (by kernel_rfl)) (fun _ _ _ h => h) (Or.inr ⟨by rfl,rfl⟩) ?_ ?_
             rotate_left
             ·simp only [Act.put,z1_,z2_,z3_,i64_w,i32_w]
              rfl
             refine pure_ (i := 19) (N := some 121) (v := undef) (a' := ?_) (bA 28 1048575) rfl rfl (any_of HT_.out (by kernel_rfl)) (fun _ _ _ h => h) (Or.inr ⟨by rfl,rfl⟩) ?_ ?_
             rotate_left
             ·simp only [Act.put,z1_,z2_,z3_,i64_w,i32_w]
              rfl
             refine pure_ (i := 20) (N := some 122) (v := undef) (a' := ?_) (bA 28 2097151) rfl rfl (any_of HT_.out (by kernel_rfl)) (fun _ _ _ h => h) (Or.inr ⟨by rfl,rfl⟩) ?_ ?_
             rotate_left
             ·simp only [Act.put,z1_,z2_,z3_,i64_w,i32_w]
              rfl
             refine pure_ (i := 21) (N := some 123) (v := undef) (a' := ?_) (bA 28 4194303) rfl rfl (any_of HT_.out (by kernel_rfl)) (fun _ _ _ h => h) (Or.inr ⟨by rfl,rfl⟩) ?_ ?_
             rotate_left
             ·simp only [Act.put,z1_,z2_,z3_,i64_w,i32_w]
              rfl
             refine pure_ (i := 22) (N := some 124) (v := undef) (a' := ?_) (bA 28 8388607) rfl rfl (any_of HT_.out (by kernel_rfl)) (fun _ _ _ h => h) (Or.inr ⟨by rfl,rfl⟩) ?_ ?_
             rotate_left
             ·simp only [Act.put,z1_,z2_,z3_,i64_w,i32_w]
              rfl
             refine pure_ (i := 23) (N := some 125) (v := undef) (a' := ?_) (bA 28 16777215) rfl rfl (any_of HT_.out (by kernel_rfl)) (fun _ _ _ h => h) (Or.inr ⟨by rfl,rfl⟩) ?_ ?_
             rotate_left
             ·simp only [Act.put,z1_,z2_,z3_,i64_w,i32_w]
              rfl
             refine pure_ (i := 24) (N := some 126) (v := undef) (a' := ?_) (bA 28 33554431) rfl rfl (any_of HT_.out (by kernel_rfl)) (fun _ _ _ h => h) (Or.inr ⟨by rfl,rfl⟩) ?_ ?_
             rotate_left
             ·simp only [Act.put,z1_,z2_,z3_,i64_w,i32_w]
              rfl
             refine pure_ (i := 25) (N := some 127) (v := undef) (a' := ?_) (bA 28 67108863) rfl rfl (any_of HT_.out (by kernel_rfl)) (fun _ _ _ h => h) (Or.inr ⟨by rfl,rfl⟩) ?_ ?_
             rotate_left
             ·simp only [Act.put,z1_,z2_,z3_,i64_w,i32_w]
              rfl
             refine pure_ (i := 26) (N := some 128) (v := ?_) (a' := ?_) (bA 28 134217727) rfl rfl (any_of HT_.out (by kernel_rfl)) (fun _ _ _ h => h) (Or.inl ⟨by rfl,?_⟩) ?_ ?_
             rotate_left
             ·intro w'
              go_simp
              with_reducible rfl
             rotate_left
             ·simp only [Act.put,z1_,z2_,z3_,i64_w,i32_w]
              rfl
             refine pure_ (i := 27) (N := some 6) (v := ?_) (a' := ?_) (bA 28 268435455) rfl rfl (any_of HT_.out (by kernel_rfl)) (fun _ _ _ h => h) (Or.inl ⟨by rfl,?_⟩) ?_ ?_
             rotate_left
             ·intro w'
              go_simp
              with_reducible rfl
             rotate_left
             ·simp only [Act.put,z1_,z2_,z3_,i64_w,i32_w]
              rfl
             refine done_ (done_of HT_.out (by kernel_rfl)) ?_
             try go_wp2
             go_ret
             exact ⟨by first|rfl|(simp [errW_none,errW_some] <;> rfl)|(simp [*,errW_none,errW_some] <;> rfl),bM HB.out⟩
           ·rw [if_neg bn] at H
            have bR := decide_eq_false bn
            clear bn
            obtain rfl := Option.some.inj H
            try go_wp2_with (first|((with_reducible refine gate_callee (f := 27) rfl ?_);refine gL 91 Try.func27 #[.slice A0 l0.length c0,.int .i64 a1,.int .i64 a2] ?_;(with_reducible refine (varint_GetList.calls kj28 _ _ l0 a1 a2 aj af ar _ ?ab ?ac bK.out).mono ?_);(case ab => exact cM (Kd.C_below aE.out HB.out));(case ac => exact aF.out);rintro e dm ⟨aL,rfl,ag,hb⟩;refine ⟨_,rfl,?_⟩;have aa := aK (Kd.R_lower ag (below_size (bM HB.out)));replace HB := aK (below_step (bM HB.out) hb);(try clear hb);(try clear ag);obtain ⟨cm,cn,co⟩ := Kd.R_slice aa.out;subst co)|(go_at_call 23;refine calls_of_args (args' := #[.slice none ([] : List Int).length 0,.slice cm aj.length cn]) (by first|with_reducible rfl|(simp only [List.length_nil];done)|(simp only [List.length_nil];with_reducible rfl)) ?_;(with_reducible refine (varint_PutList.calls kj28 _ _ ([] : List Int) _ _ aj ax ay _ ?ab ?ac ?ak ?al b1.out).mono ?_);(case ab => exact Kd.C_nil _ _);(case ac => exact Nat.le_refl _);(case ak => exact cM (Kd.R_reads' aa.out).2.2);(case al => exact (Kd.R_reads' aa.out).2.1);rintro e dg ⟨aM,rfl,ag,hb⟩;replace aa := aK (Kd.R_below (rM aa.out) hb);have ad := aK (Kd.R_lower ag (below_size (bM HB.out)));replace HB := aK (below_step (bM HB.out) hb);(try clear hb);(try clear ag)))
            have ae := aK (Kd.R_drew aa.out)
            have an := aK (Kd.R_drew ad.out)
            have aD := aK (below_drew1 HB.out)
            clear aa
            clear ad
            clear HB
            have aa := ae
            have ad := an
            have HB := aD
            clear ae an aD
            refine start_ (n := 28) (S := fun w' => True) (ds := []) (bA 28 0) (by kernel_rfl) rfl rfl trivial (fun hHeld => ?_);refine with_tabW l03_VarintOnce.tab13 l03_VarintOnce.bits13 (fun HT_ HW_ => ?_)
            generalize dg.drew = w74 at aa ad HB hHeld ⊢
            refine pure_ (i := 0) (N := some 102) (v := ?_) (a' := ?_) (bA 28 1) rfl rfl (any_of HT_.out (by kernel_rfl)) (fun _ _ _ h => h) (Or.inl ⟨by rfl,?_⟩) ?_ ?_
            rotate_left
            ·intro w'
             go_simp
             with_reducible rfl
            rotate_left
            ·simp only [Act.put,z1_,z2_,z3_,i64_w,i32_w]
             rfl
            refine pure_ (i := 1) (N := some 103) (v := ?_) (a' := ?_) (bA 28 3) rfl rfl (any_of HT_.out (by kernel_rfl)) (fun _ _ _ h => h) (Or.inl ⟨by rfl,?_⟩) ?_ ?_
            rotate_left
            ·intro w'
             go_simp
             with_reducible rfl
            rotate_left
            ·simp only [Act.put,z1_,z2_,z3_,i64_w,i32_w]
             rfl
            refine pure_ (i := 2) (N := some 104) (v := ?_) (a' := ?_) (bA 28 7) rfl rfl (any_of HT_.out (by kernel_rfl)) (fun _ _ _ h => h) (Or.inl ⟨by rfl,?_⟩) ?_ ?_
            rotate_left
            ·intro w'
             go_simp
             with_reducible rfl
            rotate_left
            ·simp only [Act.put,z1_,z2_,z3_,i64_w,i32_w]
             rfl
            refine pure_ (i := 3) (N := some 105) (v := ?_) (a' := ?_) (bA 28 15) rfl rfl (any_of HT_.out (by kernel_rfl)) (fun _ _ _ h => h) (Or.inl ⟨by rfl,?_⟩) ?_ ?_
            rotate_left
            ·intro w'
             go_simp
             with_reducible rfl
            rotate_left
            ·simp only [Act.put,z1_,z2_,z3_,i64_w,i32_w]
             rfl
            refine pure_ (i := 4) (N := some 106) (v := ?_) (a' := ?_) (bA 28 31) rfl rfl (any_of HT_.out (by kernel_rfl)) (fun _ _ _ h => h) (Or.inl ⟨by rfl,?_⟩) ?_ ?_
            rotate_left
            ·intro w'
             go_simp
             with_reducible rfl
            rotate_left
            ·simp only [Act.put,z1_,z2_,z3_,i64_w,i32_w]
             rfl
            refine pure_ (i := 5) (N := some 107) (v := ?_) (a' := ?_) (bA 28 63) rfl rfl (any_of HT_.out (by kernel_rfl)) (fun _ _ _ h => h) (Or.inl ⟨by rfl,?_⟩) ?_ ?_
            rotate_left
            ·intro w'
             go_simp
             with_reducible rfl
            rotate_left
            ·simp only [Act.put,z1_,z2_,z3_,i64_w,i32_w]
             rfl
            refine pure_ (i := 6) (N := some 108) (v := ?_) (a' := ?_) (bA 28 127) rfl rfl (any_of HT_.out (by kernel_rfl)) (fun _ _ _ h => h) (Or.inl ⟨by rfl,?_⟩) ?_ ?_
            rotate_left
            ·intro w'
             go_simp
             with_reducible rfl
            rotate_left
            ·simp only [Act.put,z1_,z2_,z3_,i64_w,i32_w]
             rfl
            refine pure_ (i := 7) (N := some 109) (v := ?_) (a' := ?_) (bA 28 255) rfl rfl (any_of HT_.out (by kernel_rfl)) (fun _ _ _ h => h) (Or.inl ⟨by rfl,?_⟩) ?_ ?_
            rotate_left
            ·intro w'
             go_simp
             with_reducible rfl
            rotate_left
            ·simp only [Act.put,z1_,z2_,z3_,i64_w,i32_w]
             rfl
            refine pure_ (i := 8) (N := some 110) (v := ?_) (a' := ?_) (bA 28 511) rfl rfl (any_of HT_.out (by kernel_rfl)) (fun _ _ _ h => h) (Or.inl ⟨by rfl,?_⟩) ?_ ?_
            rotate_left
            ·intro w'
             go_simp
             with_reducible rfl
            rotate_left
            ·simp only [Act.put,z1_,z2_,z3_,i64_w,i32_w]
             rfl
            refine pure_ (i := 9) (N := some 111) (v := ?_) (a' := ?_) (bA 28 1023) rfl rfl (any_of HT_.out (by kernel_rfl)) (fun _ _ _ h => h) (Or.inl ⟨by rfl,?_⟩) ?_ ?_
            rotate_left
            ·intro w'
             go_simp
             with_reducible rfl
            rotate_left
            ·simp only [Act.put,z1_,z2_,z3_,i64_w,i32_w]
             rfl
            refine pure_ (i := 10) (N := some 112) (v := ?_) (a' := ?_) (bA 28 2047) rfl rfl (any_of HT_.out (by kernel_rfl)) (fun _ _ _ h => h) (Or.inl ⟨by rfl,?_⟩) ?_ ?_
            rotate_left
            ·intro w'
             go_simp
             with_reducible rfl
            rotate_left
            ·simp only [Act.put,z1_,z2_,z3_,i64_w,i32_w]
             rfl
            refine pure_ (i := 11) (N := some 113) (v := ?_) (a' := ?_) (bA 28 4095) rfl rfl (any_of HT_.out (by kernel_rfl)) (fun _ _ _ h => h) (Or.inl ⟨by rfl,?_⟩) ?_ ?_
            rotate_left
            ·intro w'
             go_simp
             with_reducible rfl
            rotate_left
            ·simp only [Act.put,z1_,z2_,z3_,i64_w,i32_w]
             rfl
            refine pure_ (i := 12) (N := some 114) (v := ?_) (a' := ?_) (bA 28 8191) rfl rfl (any_of HT_.out (by kernel_rfl)) (fun _ _ _ h => h) (Or.inl ⟨by rfl,?_⟩) ?_ ?_
            rotate_left
            ·intro w'
             go_simp
             with_reducible rfl
            rotate_left
            ·simp only [Act.put,z1_,z2_,z3_,i64_w,i32_w]
             rfl
            refine pure_ (i := 13) (N := some 115) (v := ?_) (a' := ?_) (bA 28 16383) rfl rfl (any_of HT_.out (by kernel_rfl)) (fun _ _ _ h => h) (Or.inl ⟨by rfl,?_⟩) ?_ ?_
            rotate_left
            ·intro w'
             go_simp
             with_reducible rfl
            rotate_left
            ·simp only [Act.put,z1_,z2_,z3_,i64_w,i32_w]
             rfl
            refine pure_ (i := 14) (N := some 116) (v := undef) (a' := ?_) (bA 28 32767) rfl rfl (any_of HT_.out (by kernel_rfl)) (fun _ _ _ h => h) (Or.inr ⟨by rfl,rfl⟩) ?_ ?_
            rotate_left
            ·simp only [Act.put,z1_,z2_,z3_,i64_w,i32_w]
             rfl
            refine pure_ (i := 15) (N := some 117) (v := undef) (a' := ?_) (bA 28 65535) rfl rfl (any_of HT_.out (by kernel_rfl)) (fun _ _ _ h => h) (Or.inr ⟨by rfl,rfl⟩) ?_ ?_
            rotate_left
            ·simp only [Act.put,z1_,z2_,z3_,i64_w,i32_w]
             rfl
            refine pure_ (i := 16) (N := some 118) (v := ?_) (a' := ?_) (bA 28 131071) rfl rfl (any_of HT_.out (by kernel_rfl)) (fun _ _ _ h => h) (Or.inl ⟨by rfl,?_⟩) ?_ ?_
            rotate_left
            ·intro w'
             go_simp
             with_reducible rfl
            rotate_left
            ·simp only [Act.put,z1_,z2_,z3_,i64_w,i32_w]
             rfl
            refine pure_ (i := 17) (N := some 119) (v := ?_) (a' := ?_) (bA 28 262143) rfl rfl (any_of HT_.out (by kernel_rfl)) (fun _ _ _ h => h) (Or.inl ⟨by rfl,?_⟩) ?_ ?_
            rotate_left
            ·intro w'
             go_simp
             with_reducible rfl
            rotate_left
            ·simp only [Act.put,z1_,z2_,z3_,i64_w,i32_w]
             rfl
            refine pure_ (i := 18) (N := some 120) (v := undef) (a' := ?_) (bA 28 524287) rfl rfl (any_of HT_.out (by kernel_rfl)) (fun _ _ _ h => h) (Or.inr ⟨by rfl,rfl⟩) ?_ ?_
            rotate_left
            ·simp only [Act.put,z1_,z2_,z3_,i64_w,i32_w]
             rfl
            refine pure_ (i := 19) (N := some 121) (v := undef) (a' := ?_) (bA 28 1048575) rfl rfl (any_of HT_.out (by kernel_rfl)) (fun _ _ _ h => h) (Or.inr ⟨by rfl,rfl⟩) ?_ ?_
            rotate_left
            ·simp only [Act.put,z1_,z2_,z3_,i64_w,i32_w]
             rfl
            refine pure_ (i := 20) (N := some 122) (v := undef) (a' := ?_) (bA 28 2097151) rfl rfl (any_of HT_.out (by kernel_rfl)) (fun _ _ _ h => h) (Or.inr ⟨by rfl,rfl⟩) ?_ ?_
            rotate_left
            ·simp only [Act.put,z1_,z2_,z3_,i64_w,i32_w]
             rfl
            refine pure_ (i := 21) (N := some 123) (v := undef) (a' := ?_) (bA 28 4194303) rfl rfl (any_of HT_.out (by kernel_rfl)) (fun _ _ _ h => h) (Or.inr ⟨by rfl,rfl⟩) ?_ ?_
            rotate_left
            ·simp only [Act.put,z1_,z2_,z3_,i64_w,i32_w]
             rfl
            refine pure_ (i := 22) (N := some 124) (v := undef) (a' := ?_) (bA 28 8388607) rfl rfl (any_of HT_.out (by kernel_rfl)) (fun _ _ _ h => h) (Or.inr ⟨by rfl,rfl⟩) ?_ ?_
            rotate_left
            ·simp only [Act.put,z1_,z2_,z3_,i64_w,i32_w]
             rfl
            refine pure_ (i := 23) (N := some 125) (v := undef) (a' := ?_) (bA 28 16777215) rfl rfl (any_of HT_.out (by kernel_rfl)) (fun _ _ _ h => h) (Or.inr ⟨by rfl,rfl⟩) ?_ ?_
            rotate_left
            ·simp only [Act.put,z1_,z2_,z3_,i64_w,i32_w]
             rfl
            refine pure_ (i := 24) (N := some 126) (v := undef) (a' := ?_) (bA 28 33554431) rfl rfl (any_of HT_.out (by kernel_rfl)) (fun _ _ _ h => h) (Or.inr ⟨by rfl,rfl⟩) ?_ ?_
            rotate_left
            ·simp only [Act.put,z1_,z2_,z3_,i64_w,i32_w]
             rfl
            refine pure_ (i := 25) (N := some 127) (v := undef) (a' := ?_) (bA 28 67108863) rfl rfl (any_of HT_.out (by kernel_rfl)) (fun _ _ _ h => h) (Or.inr ⟨by rfl,rfl⟩) ?_ ?_
            rotate_left
            ·simp only [Act.put,z1_,z2_,z3_,i64_w,i32_w]
             rfl
            refine pure_ (i := 26) (N := some 128) (v := ?_) (a' := ?_) (bA 28 134217727) rfl rfl (any_of HT_.out (by kernel_rfl)) (fun _ _ _ h => h) (Or.inl ⟨by rfl,?_⟩) ?_ ?_
            rotate_left
            ·intro w'
             go_simp
             with_reducible rfl
            rotate_left
            ·simp only [Act.put,z1_,z2_,z3_,i64_w,i32_w]
             rfl
            refine pure_ (i := 27) (N := some 6) (v := ?_) (a' := ?_) (bA 28 268435455) rfl rfl (any_of HT_.out (by kernel_rfl)) (fun _ _ _ h => h) (Or.inl ⟨by rfl,?_⟩) ?_ ?_
            rotate_left
            ·intro w'
             go_simp
             with_reducible rfl
            rotate_left
            ·simp only [Act.put,z1_,z2_,z3_,i64_w,i32_w]
             rfl
            refine done_ (done_of HT_.out (by kernel_rfl)) ?_
            try go_wp2
            go_ret
            exact ⟨by first|rfl|(simp [errW_none,errW_some] <;> rfl)|(simp [*,errW_none,errW_some] <;> rfl),bM HB.out⟩
          ·rw [if_neg bm] at H
           have bQ := decide_eq_false bm
           clear bm
           obtain rfl := Option.some.inj H
           try go_wp2_with (first|((with_reducible refine gate_callee (f := 27) rfl ?_);refine gL 91 Try.func27 #[.slice A0 l0.length c0,.int .i64 a1,.int .i64 a2] ?_;(with_reducible refine (varint_GetList.calls kj28 _ _ l0 a1 a2 aj af ar _ ?ab ?ac bK.out).mono ?_);(case ab => exact cM (Kd.C_below aE.out HB.out));(case ac => exact aF.out);rintro e dn ⟨aL,rfl,ag,hb⟩;refine ⟨_,rfl,?_⟩;have aa := aK (Kd.R_lower ag (below_size (bM HB.out)));replace HB := aK (below_step (bM HB.out) hb);(try clear hb);(try clear ag);obtain ⟨cp,cq,cr⟩ := Kd.R_slice aa.out;subst cr)|(go_at_call 23;refine calls_of_args (args' := #[.slice none ([] : List Int).length 0,.slice cp aj.length cq]) (by first|with_reducible rfl|(simp only [List.length_nil];done)|(simp only [List.length_nil];with_reducible rfl)) ?_;(with_reducible refine (varint_PutList.calls kj28 _ _ ([] : List Int) _ _ aj ax ay _ ?ab ?ac ?ak ?al b1.out).mono ?_);(case ab => exact Kd.C_nil _ _);(case ac => exact Nat.le_refl _);(case ak => exact cM (Kd.R_reads' aa.out).2.2);(case al => exact (Kd.R_reads' aa.out).2.1);rintro e dh ⟨aM,rfl,ag,hb⟩;replace aa := aK (Kd.R_below (rM aa.out) hb);have ad := aK (Kd.R_lower ag (below_size (bM HB.out)));replace HB := aK (below_step (bM HB.out) hb);(try clear hb);(try clear ag)))
           have ae := aK (Kd.R_drew aa.out)
           have an := aK (Kd.R_drew ad.out)
           have aD := aK (below_drew1 HB.out)
           clear aa
           clear ad
           clear HB
           have aa := ae
           have ad := an
           have HB := aD
           clear ae an aD
           refine start_ (n := 28) (S := fun w' => True) (ds := []) (bA 28 0) (by kernel_rfl) rfl rfl trivial (fun hHeld => ?_);refine with_tabW l03_VarintOnce.tab13 l03_VarintOnce.bits13 (fun HT_ HW_ => ?_)
           generalize dh.drew = w78 at aa ad HB hHeld ⊢
           refine pure_ (i := 0) (N := some 102) (v := ?_) (a' := ?_) (bA 28 1) rfl rfl (any_of HT_.out (by kernel_rfl)) (fun _ _ _ h => h) (Or.inl ⟨by rfl,?_⟩) ?_ ?_
           rotate_left
           ·intro w'
            go_simp
            with_reducible rfl
           rotate_left
           ·simp only [Act.put,z1_,z2_,z3_,i64_w,i32_w]
            rfl
           refine pure_ (i := 1) (N := some 103) (v := ?_) (a' := ?_) (bA 28 3) rfl rfl (any_of HT_.out (by kernel_rfl)) (fun _ _ _ h => h) (Or.inl ⟨by rfl,?_⟩) ?_ ?_
           rotate_left
           ·intro w'
            go_simp
            with_reducible rfl
           rotate_left
           ·simp only [Act.put,z1_,z2_,z3_,i64_w,i32_w]
            rfl
           refine pure_ (i := 2) (N := some 104) (v := ?_) (a' := ?_) (bA 28 7) rfl rfl (any_of HT_.out (by kernel_rfl)) (fun _ _ _ h => h) (Or.inl ⟨by rfl,?_⟩) ?_ ?_
           rotate_left
           ·intro w'
            go_simp
            with_reducible rfl
           rotate_left
           ·simp only [Act.put,z1_,z2_,z3_,i64_w,i32_w]
            rfl
           refine pure_ (i := 3) (N := some 105) (v := ?_) (a' := ?_) (bA 28 15) rfl rfl (any_of HT_.out (by kernel_rfl)) (fun _ _ _ h => h) (Or.inl ⟨by rfl,?_⟩) ?_ ?_
           rotate_left
           ·intro w'
            go_simp
            with_reducible rfl
           rotate_left
           ·simp only [Act.put,z1_,z2_,z3_,i64_w,i32_w]
            rfl
           refine pure_ (i := 4) (N := some 106) (v := ?_) (a' := ?_) (bA 28 31) rfl rfl (any_of HT_.out (by kernel_rfl)) (fun _ _ _ h => h) (Or.inl ⟨by rfl,?_⟩) ?_ ?_
           rotate_left
           ·intro w'
            go_simp
            with_reducible rfl
           rotate_left
           ·simp only [Act.put,z1_,z2_,z3_,i64_w,i32_w]
            rfl
           refine pure_ (i := 5) (N := some 107) (v := ?_) (a' := ?_) (bA 28 63) rfl rfl (any_of HT_.out (by kernel_rfl)) (fun _ _ _ h => h) (Or.inl ⟨by rfl,?_⟩) ?_ ?_
           rotate_left
           ·intro w'
            go_simp
            with_reducible rfl
           rotate_left
           ·simp only [Act.put,z1_,z2_,z3_,i64_w,i32_w]
            rfl
           refine pure_ (i := 6) (N := some 108) (v := ?_) (a' := ?_) (bA 28 127) rfl rfl (any_of HT_.out (by kernel_rfl)) (fun _ _ _ h => h) (Or.inl ⟨by rfl,?_⟩) ?_ ?_
           rotate_left
           ·intro w'
            go_simp
            with_reducible rfl
           rotate_left
           ·simp only [Act.put,z1_,z2_,z3_,i64_w,i32_w]
            rfl
           refine pure_ (i := 7) (N := some 109) (v := ?_) (a' := ?_) (bA 28 255) rfl rfl (any_of HT_.out (by kernel_rfl)) (fun _ _ _ h => h) (Or.inl ⟨by rfl,?_⟩) ?_ ?_
           rotate_left
           ·intro w'
            go_simp
            with_reducible rfl
           rotate_left
           ·simp only [Act.put,z1_,z2_,z3_,i64_w,i32_w]
            rfl
           refine pure_ (i := 8) (N := some 110) (v := undef) (a' := ?_) (bA 28 511) rfl rfl (any_of HT_.out (by kernel_rfl)) (fun _ _ _ h => h) (Or.inr ⟨by rfl,rfl⟩) ?_ ?_
           rotate_left
           ·simp only [Act.put,z1_,z2_,z3_,i64_w,i32_w]
            rfl
           refine pure_ (i := 9) (N := some 111) (v := undef) (a' := ?_) (bA 28 1023) rfl rfl (any_of HT_.out (by kernel_rfl)) (fun _ _ _ h => h) (Or.inr ⟨by rfl,rfl⟩) ?_ ?_
           rotate_left
           ·simp only [Act.put,z1_,z2_,z3_,i64_w,i32_w]
            rfl
           refine pure_ (i := 10) (N := some 112) (v := undef) (a' := ?_) (bA 28 2047) rfl rfl (any_of HT_.out (by kernel_rfl)) (fun _ _ _ h => h) (Or.inr ⟨by rfl,rfl⟩) ?_ ?_
           rotate_left
           ·simp only [Act.put,z1_,z2_,z3_,i64_w,i32_w]
            rfl
           refine pure_ (i := 11) (N := some 113) (v := undef) (a' := ?_) (bA 28 4095) rfl rfl (any_of HT_.out (by kernel_rfl)) (fun _ _ _ h => h) (Or.inr ⟨by rfl,rfl⟩) ?_ ?_
           rotate_left
           ·simp only [Act.put,z1_,z2_,z3_,i64_w,i32_w]
            rfl
           refine pure_ (i := 12) (N := some 114) (v := ?_) (a' := ?_) (bA 28 8191) rfl rfl (any_of HT_.out (by kernel_rfl)) (fun _ _ _ h => h) (Or.inl ⟨by rfl,?_⟩) ?_ ?_
           rotate_left
           ·intro w'
            go_simp
            with_reducible rfl
           rotate_left
           ·simp only [Act.put,z1_,z2_,z3_,i64_w,i32_w]
            rfl
           refine pure_ (i := 13) (N := some 115) (v := ?_) (a' := ?_) (bA 28 16383) rfl rfl (any_of HT_.out (by kernel_rfl)) (fun _ _ _ h => h) (Or.inl ⟨by rfl,?_⟩) ?_ ?_
           rotate_left
           ·intro w'
            go_simp
            with_reducible rfl
           rotate_left
           ·simp only [Act.put,z1_,z2_,z3_,i64_w,i32_w]
            rfl
           refine pure_ (i := 14) (N := some 116) (v := undef) (a' := ?_) (bA 28 32767) rfl rfl (any_of HT_.out (by kernel_rfl)) (fun _ _ _ h => h) (Or.inr ⟨by rfl,rfl⟩) ?_ ?_
           rotate_left
           ·simp only [Act.put,z1_,z2_,z3_,i64_w,i32_w]
            rfl
           refine pure_ (i := 15) (N := some 117) (v := undef) (a' := ?_) (bA 28 65535) rfl rfl (any_of HT_.out (by kernel_rfl)) (fun _ _ _ h => h) (Or.inr ⟨by rfl,rfl⟩) ?_ ?_
           rotate_left
           ·simp only [Act.put,z1_,z2_,z3_,i64_w,i32_w]
            rfl
           refine pure_ (i := 16) (N := some 118) (v := ?_) (a' := ?_) (bA 28 131071) rfl rfl (any_of HT_.out (by kernel_rfl)) (fun _ _ _ h => h) (Or.inl ⟨by rfl,?_⟩) ?_ ?_
           rotate_left
           ·intro w'
            go_simp
            with_reducible rfl
           rotate_left
           ·simp only [Act.put,z1_,z2_,z3_,i64_w,i32_w]
            rfl
           refine pure_ (i := 17) (N := some 119) (v := ?_) (a' := ?_) (bA 28 262143) rfl rfl (any_of HT_.out (by kernel_rfl)) (fun _ _ _ h => h) (Or.inl ⟨by rfl,?_⟩) ?_ ?_
           rotate_left
           ·intro w'
            go_simp
            with_reducible rfl
           rotate_left
           ·simp only [Act.put,z1_,z2_,z3_,i64_w,i32_w]
            rfl
           refine pure_ (i := 18) (N := some 120) (v := undef) (a' := ?_) (bA 28 524287) rfl rfl (any_of HT_.out (by kernel_rfl)) (fun _ _ _ h => h) (Or.inr ⟨by rfl,rfl⟩) ?_ ?_
           rotate_left
           ·simp only [Act.put,z1_,z2_,z3_,i64_w,i32_w]
            rfl
           refine pure_ (i := 19) (N := some 121) (v := undef) (a' := ?_) (bA 28 1048575) rfl rfl (any_of HT_.out (by kernel_rfl)) (fun _ _ _ h => h) (Or.inr ⟨by rfl,rfl⟩) ?_ ?_
           rotate_left
           ·simp only [Act.put,z1_,z2_,z3_,i64_w,i32_w]
            rfl
           refine pure_ (i := 20) (N := some 122) (v := undef) (a' := ?_) (bA 28 2097151) rfl rfl (any_of HT_.out (by kernel_rfl)) (fun _ _ _ h => h) (Or.inr ⟨by rfl,rfl⟩) ?_ ?_
           rotate_left
           ·simp only [Act.put,z1_,z2_,z3_,i64_w,i32_w]
            rfl
           refine pure_ (i := 21) (N := some 123) (v := undef) (a' := ?_) (bA 28 4194303) rfl rfl (any_of HT_.out (by kernel_rfl)) (fun _ _ _ h => h) (Or.inr ⟨by rfl,rfl⟩) ?_ ?_
           rotate_left
           ·simp only [Act.put,z1_,z2_,z3_,i64_w,i32_w]
            rfl
           refine pure_ (i := 22) (N := some 124) (v := undef) (a' := ?_) (bA 28 8388607) rfl rfl (any_of HT_.out (by kernel_rfl)) (fun _ _ _ h => h) (Or.inr ⟨by rfl,rfl⟩) ?_ ?_
           rotate_left
           ·simp only [Act.put,z1_,z2_,z3_,i64_w,i32_w]
            rfl
           refine pure_ (i := 23) (N := some 125) (v := undef) (a' := ?_) (bA 28 16777215) rfl rfl (any_of HT_.out (by kernel_rfl)) (fun _ _ _ h => h) (Or.inr ⟨by rfl,rfl⟩) ?_ ?_
           rotate_left
           ·simp only [Act.put,z1_,z2_,z3_,i64_w,i32_w]
            rfl
           refine pure_ (i := 24) (N := some 126) (v := undef) (a' := ?_) (bA 28 33554431) rfl rfl (any_of HT_.out (by kernel_rfl)) (fun _ _ _ h => h) (Or.inr ⟨by rfl,rfl⟩) ?_ ?_
           rotate_left
           ·simp only [Act.put,z1_,z2_,z3_,i64_w,i32_w]
            rfl
           refine pure_ (i := 25) (N := some 127) (v := undef) (a' := ?_) (bA 28 67108863) rfl rfl (any_of HT_.out (by kernel_rfl)) (fun _ _ _ h => h) (Or.inr ⟨by rfl,rfl⟩) ?_ ?_
           rotate_left
           ·simp only [Act.put,z1_,z2_,z3_,i64_w,i32_w]
            rfl
           refine pure_ (i := 26) (N := some 128) (v := ?_) (a' := ?_) (bA 28 134217727) rfl rfl (any_of HT_.out (by kernel_rfl)) (fun _ _ _ h => h) (Or.inl ⟨by rfl,?_⟩) ?_ ?_
           rotate_left
           ·intro w'
            go_simp
            with_reducible rfl
           rotate_left
           ·simp only [Act.put,z1_,z2_,z3_,i64_w,i32_w]
            rfl
           refine pure_ (i := 27) (N := some 6) (v := ?_) (a' := ?_) (bA 28 268435455) rfl rfl (any_of HT_.out (by kernel_rfl)) (fun _ _ _ h => h) (Or.inl ⟨by rfl,?_⟩) ?_ ?_
           rotate_left
           ·intro w'
            go_simp
            with_reducible rfl
           rotate_left
           ·simp only [Act.put,z1_,z2_,z3_,i64_w,i32_w]
            rfl
           refine done_ (done_of HT_.out (by kernel_rfl)) ?_
           try go_wp2
           go_ret
           exact ⟨by first|rfl|(simp [errW_none,errW_some] <;> rfl)|(simp [*,errW_none,errW_some] <;> rfl),bM HB.out⟩
         ·rw [if_neg bl] at H
          have bP := decide_eq_false bl
          clear bl
          obtain rfl := Option.some.inj H
          try go_wp2_with (first|((with_reducible refine gate_callee (f := 27) rfl ?_);refine gL 91 Try.func27 #[.slice A0 l0.length c0,.int .i64 a1,.int .i64 a2] ?_;(with_reducible refine (varint_GetList.calls kj28 _ _ l0 a1 a2 aj af ar _ ?ab ?ac bK.out).mono ?_);(case ab => exact cM (Kd.C_below aE.out HB.out));(case ac => exact aF.out);rintro e dp ⟨aL,rfl,ag,hb⟩;refine ⟨_,rfl,?_⟩;have aa := aK (Kd.R_lower ag (below_size (bM HB.out)));replace HB := aK (below_step (bM HB.out) hb);(try clear hb);(try clear ag);obtain ⟨cs,ct,cu⟩ := Kd.R_slice aa.out;subst cu)|(go_at_call 23;refine calls_of_args (args' := #[.slice none ([] : List Int).length 0,.slice cs aj.length ct]) (by first|with_reducible rfl|(simp only [List.length_nil];done)|(simp only [List.length_nil];with_reducible rfl)) ?_;(with_reducible refine (varint_PutList.calls kj28 _ _ ([] : List Int) _ _ aj ax ay _ ?ab ?ac ?ak ?al b1.out).mono ?_);(case ab => exact Kd.C_nil _ _);(case ac => exact Nat.le_refl _);(case ak => exact cM (Kd.R_reads' aa.out).2.2);(case al => exact (Kd.R_reads' aa.out).2.1);rintro e di ⟨aM,rfl,ag,hb⟩;replace aa := aK (Kd.R_below (rM aa.out) hb);have ad := aK (Kd.R_lower ag (below_size (bM HB.out)));replace HB := aK (below_step (bM HB.out) hb);(try clear hb);(try clear ag)))
          have ae := aK (Kd.R_drew aa.out)
          have an := aK (Kd.R_drew ad.out)
          have aD := aK (below_drew1 HB.out)
          clear aa
          clear ad
          clear HB
          have aa := ae
          have ad := an
          have HB := aD
          clear ae an aD
          refine start_ (n := 28) (S := fun w' => True) (ds := []) (bA 28 0) (by kernel_rfl) rfl rfl trivial (fun hHeld => ?_);refine with_tabW l03_VarintOnce.tab13 l03_VarintOnce.bits13 (fun HT_ HW_ => ?_)
          generalize di.drew = w82 at aa ad HB hHeld ⊢
          refine pure_ (i := 0) (N := some 102) (v := ?_) (a' := ?_) (bA 28 1) rfl rfl (any_of HT_.out (by kernel_rfl)) (fun _ _ _ h => h) (Or.inl ⟨by rfl,?_⟩) ?_ ?_
          rotate_left
          ·intro w'
           go_simp
           with_reducible rfl
          rotate_left
          ·simp only [Act.put,z1_,z2_,z3_,i64_w,i32_w]
           rfl
          refine pure_ (i := 1) (N := some 103) (v := ?_) (a' := ?_) (bA 28 3) rfl rfl (any_of HT_.out (by kernel_rfl)) (fun _ _ _ h => h) (Or.inl ⟨by rfl,?_⟩) ?_ ?_
          rotate_left
          ·intro w'
           go_simp
           with_reducible rfl
          rotate_left
          ·simp only [Act.put,z1_,z2_,z3_,i64_w,i32_w]
           rfl
          refine pure_ (i := 2) (N := some 104) (v := ?_) (a' := ?_) (bA 28 7) rfl rfl (any_of HT_.out (by kernel_rfl)) (fun _ _ _ h => h) (Or.inl ⟨by rfl,?_⟩) ?_ ?_
          rotate_left
          ·intro w'
           go_simp
           with_reducible rfl
          rotate_left
          ·simp only [Act.put,z1_,z2_,z3_,i64_w,i32_w]
           rfl
          refine pure_ (i := 3) (N := some 105) (v := undef) (a' := ?_) (bA 28 15) rfl rfl (any_of HT_.out (by kernel_rfl)) (fun _ _ _ h => h) (Or.inr ⟨by rfl,rfl⟩) ?_ ?_
          rotate_left
          ·simp only [Act.put,z1_,z2_,z3_,i64_w,i32_w]
           rfl
          refine pure_ (i := 4) (N := some 106) (v := undef) (a' := ?_) (bA 28 31) rfl rfl (any_of HT_.out (by kernel_rfl)) (fun _ _ _ h => h) (Or.inr ⟨by rfl,rfl⟩) ?_ ?_
          rotate_left
          ·simp only [Act.put,z1_,z2_,z3_,i64_w,i32_w]
           rfl
          refine pure_ (i := 5) (N := some 107) (v := undef) (a' := ?_) (bA 28 63) rfl rfl (any_of HT_.out (by kernel_rfl)) (fun _ _ _ h => h) (Or.inr ⟨by rfl,rfl⟩) ?_ ?_
          rotate_left
          ·simp only [Act.put,z1_,z2_,z3_,i64_w,i32_w]
           rfl
          refine pure_ (i := 6) (N := some 108) (v := ?_) (a' := ?_) (bA 28 127) rfl rfl (any_of HT_.out (by kernel_rfl)) (fun _ _ _ h => h) (Or.inl ⟨by rfl,?_⟩) ?_ ?_
          rotate_left
          ·intro w'
           go_simp
           with_reducible rfl
          rotate_left
          ·simp only [Act.put,z1_,z2_,z3_,i64_w,i32_w]
           rfl
          refine pure_ (i := 7) (N := some 109) (v := ?_) (a' := ?_) (bA 28 255) rfl rfl (any_of HT_.out (by kernel_rfl)) (fun _ _ _ h => h) (Or.inl ⟨by rfl,?_⟩) ?_ ?_
          rotate_left
          ·intro w'
           go_simp
           with_reducible rfl
          rotate_left
          ·simp only [Act.put,z1_,z2_,z3_,i64_w,i32_w]
           rfl
          refine pure_ (i := 8) (N := some 110) (v := undef) (a' := ?_) (bA 28 511) rfl rfl (any_of HT_.out (by kernel_rfl)) (fun _ _ _ h => h) (Or.inr ⟨by rfl,rfl⟩) ?_ ?_
          rotate_left
          ·simp only [Act.put,z1_,z2_,z3_,i64_w,i32_w]
           rfl
          refine pure_ (i := 9) (N := some 111) (v := undef) (a' := ?_) (bA 28 1023) rfl rfl (any_of HT_.out (by kernel_rfl)) (fun _ _ _ h => h) (Or.inr ⟨by rfl,rfl⟩) ?_ ?_
          rotate_left
          ·simp only [Act.put,z1_,z2_,z3_,i64_w,i32_w]
           rfl
          refine pure_ (i := 10) (N := some 112) (v := undef) (a' := ?_) (bA 28 2047) rfl rfl (any_of HT_.out (by kernel_rfl)) (fun _ _ _ h => h) (Or.inr ⟨by rfl,rfl⟩) ?_ ?_
          rotate_left
          ·simp only [Act.put,z1_,z2_,z3_,i64_w,i32_w]
           rfl
          refine pure_ (i := 11) (N := some 113) (v := undef) (a' := ?_) (bA 28 4095) rfl rfl (any_of HT_.out (by kernel_rfl)) (fun _ _ _ h => h) (Or.inr ⟨by rfl,rfl⟩) ?_ ?_
          rotate_left
          ·simp only [Act.put,z1_,z2_,z3_,i64_w,i32_w]
           rfl
          refine pure_ (i := 12) (N := some 114) (v := ?_) (a' := ?_) (bA 28 8191) rfl rfl (any_of HT_.out (by kernel_rfl)) (fun _ _ _ h => h) (Or.inl ⟨by rfl,?_⟩) ?_ ?_
          rotate_left
          ·intro w'
           go_simp
           with_reducible rfl
          rotate_left
          ·simp only [Act.put,z1_,z2_,z3_,i64_w,i32_w]
           rfl
          refine pure_ (i := 13) (N := some 115) (v := ?_) (a' := ?_) (bA 28 16383) rfl rfl (any_of HT_.out (by kernel_rfl)) (fun _ _ _ h => h) (Or.inl ⟨by rfl,?_⟩) ?_ ?_
          rotate_left
          ·intro w'
           go_simp
           with_reducible rfl
          rotate_left
          ·simp only [Act.put,z1_,z2_,z3_,i64_w,i32_w]
           rfl
          refine pure_ (i := 14) (N := some 116) (v := undef) (a' := ?_) (bA 28 32767) rfl rfl (any_of HT_.out (by kernel_rfl)) (fun _ _ _ h => h) (Or.inr ⟨by rfl,rfl⟩) ?_ ?_
          rotate_left
          ·simp only [Act.put,z1_,z2_,z3_,i64_w,i32_w]
           rfl
          refine pure_ (i := 15) (N := some 117) (v := undef) (a' := ?_) (bA 28 65535) rfl rfl (any_of HT_.out (by kernel_rfl)) (fun _ _ _ h => h) (Or.inr ⟨by rfl,rfl⟩) ?_ ?_
          rotate_left
          ·simp only [Act.put,z1_,z2_,z3_,i64_w,i32_w]
           rfl
          refine pure_ (i := 16) (N := some 118) (v := ?_) (a' := ?_) (bA 28 131071) rfl rfl (any_of HT_.out (by kernel_rfl)) (fun _ _ _ h => h) (Or.inl ⟨by rfl,?_⟩) ?_ ?_
          rotate_left
          ·intro w'
           go_simp
           with_reducible rfl
          rotate_left
          ·simp only [Act.put,z1_,z2_,z3_,i64_w,i32_w]
           rfl
          refine pure_ (i := 17) (N := some 119) (v := ?_) (a' := ?_) (bA 28 262143) rfl rfl (any_of HT_.out (by kernel_rfl)) (fun _ _ _ h => h) (Or.inl ⟨by rfl,?_⟩) ?_ ?_
          rotate_left
          ·intro w'
           go_simp
           with_reducible rfl
          rotate_left
          ·simp only [Act.put,z1_,z2_,z3_,i64_w,i32_w]
           rfl
          refine pure_ (i := 18) (N := some 120) (v := undef) (a' := ?_) (bA 28 524287) rfl rfl (any_of HT_.out (by kernel_rfl)) (fun _ _ _ h => h) (Or.inr ⟨by rfl,rfl⟩) ?_ ?_
          rotate_left
          ·simp only [Act.put,z1_,z2_,z3_,i64_w,i32_w]
           rfl
          refine pure_ (i := 19) (N := some 121) (v := undef) (a' := ?_) (bA 28 1048575) rfl rfl (any_of HT_.out (by kernel_rfl)) (fun _ _ _ h => h) (Or.inr ⟨by rfl,rfl⟩) ?_ ?_
          rotate_left
          ·simp only [Act.put,z1_,z2_,z3_,i64_w,i32_w]
           rfl
          refine pure_ (i := 20) (N := some 122) (v := undef) (a' := ?_) (bA 28 2097151) rfl rfl (any_of HT_.out (by kernel_rfl)) (fun _ _ _ h => h) (Or.inr ⟨by rfl,rfl⟩) ?_ ?_
          rotate_left
          ·simp only [Act.put,z1_,z2_,z3_,i64_w,i32_w]
           rfl
          refine pure_ (i := 21) (N := some 123) (v := undef) (a' := ?_) (bA 28 4194303) rfl rfl (any_of HT_.out (by kernel_rfl)) (fun _ _ _ h => h) (Or.inr ⟨by rfl,rfl⟩) ?_ ?_
          rotate_left
          ·simp only [Act.put,z1_,z2_,z3_,i64_w,i32_w]
           rfl
          refine pure_ (i := 22) (N := some 124) (v := undef) (a' := ?_) (bA 28 8388607) rfl rfl (any_of HT_.out (by kernel_rfl)) (fun _ _ _ h => h) (Or.inr ⟨by rfl,rfl⟩) ?_ ?_
          rotate_left
          ·simp only [Act.put,z1_,z2_,z3_,i64_w,i32_w]
           rfl
          refine pure_ (i := 23) (N := some 125) (v := undef) (a' := ?_) (bA 28 16777215) rfl rfl (any_of HT_.out (by kernel_rfl)) (fun _ _ _ h => h) (Or.inr ⟨by rfl,rfl⟩) ?_ ?_
          rotate_left
          ·simp only [Act.put,z1_,z2_,z3_,i64_w,i32_w]
           rfl
          refine pure_ (i := 24) (N := some 126) (v := undef) (a' := ?_) (bA 28 33554431) rfl rfl (any_of HT_.out (by kernel_rfl)) (fun _ _ _ h => h) (Or.inr ⟨by rfl,rfl⟩) ?_ ?_
          rotate_left
          ·simp only [Act.put,z1_,z2_,z3_,i64_w,i32_w]
           rfl
          refine pure_ (i := 25) (N := some 127) (v := undef) (a' := ?_) (bA 28 67108863) rfl rfl (any_of HT_.out (by kernel_rfl)) (fun _ _ _ h => h) (Or.inr ⟨by rfl,rfl⟩) ?_ ?_
          rotate_left
          ·simp only [Act.put,z1_,z2_,z3_,i64_w,i32_w]
           rfl
          refine pure_ (i := 26) (N := some 128) (v := ?_) (a' := ?_) (bA 28 134217727) rfl rfl (any_of HT_.out (by kernel_rfl)) (fun _ _ _ h => h) (Or.inl ⟨by rfl,?_⟩) ?_ ?_
          rotate_left
          ·intro w'
           go_simp
           with_reducible rfl
          rotate_left
          ·simp only [Act.put,z1_,z2_,z3_,i64_w,i32_w]
           rfl
          refine pure_ (i := 27) (N := some 6) (v := ?_) (a' := ?_) (bA 28 268435455) rfl rfl (any_of HT_.out (by kernel_rfl)) (fun _ _ _ h => h) (Or.inl ⟨by rfl,?_⟩) ?_ ?_
          rotate_left
          ·intro w'
           go_simp
           with_reducible rfl
          rotate_left
          ·simp only [Act.put,z1_,z2_,z3_,i64_w,i32_w]
           rfl
          refine done_ (done_of HT_.out (by kernel_rfl)) ?_
          try go_wp2
          go_ret
          exact ⟨by first|rfl|(simp [errW_none,errW_some] <;> rfl)|(simp [*,errW_none,errW_some] <;> rfl),bM HB.out⟩
        ·rw [if_neg bb] at H
         have bL := beq_eq_false_iff_ne.mpr bb
         have bN := bne_iff_ne.mpr bb
         obtain rfl := Option.some.inj H
         go_wp2_with (first|((with_reducible refine gate_callee (f := 27) rfl ?_);refine gL 91 Try.func27 #[.slice A0 l0.length c0,.int .i64 a1,.int .i64 a2] ?_;(with_reducible refine (varint_GetList.calls kj28 _ _ l0 a1 a2 aj af ar _ ?ab ?ac bK.out).mono ?_);(case ab => exact cM (Kd.C_below aE.out HB.out));(case ac => exact aF.out);rintro e dq ⟨aL,rfl,ag,hb⟩;refine ⟨_,rfl,?_⟩;replace HB := aK (below_step (bM HB.out) hb);(try clear hb);(try clear ag)))
         go_ret
         exact ⟨by first|rfl|(simp [errW_none,errW_some] <;> rfl)|(simp [*,errW_none,errW_some] <;> rfl),bM HB.out⟩
 ·replace c5 := Bool.eq_false_iff.mpr c5
  subst c5
  rw [if_neg (show ¬ (false = true) by decide)] at H
  obtain rfl := Option.some.inj H
  go_enter Try.func9,Try.ntmps9
  go_wp2_with (first|((with_reducible refine gate_callee (f := 15) rfl ?_);refine gL 14 Try.func15 #[] ?_;(with_reducible refine (l03_alive.calls k  false _ A4.out).mono ?_);rintro e dr ⟨rfl,hb⟩;refine ⟨_,rfl,?_⟩;replace HB := aK (below_step (bM HB.out) hb);(try clear hb)))
  go_ret
  exact ⟨by first|rfl|(simp [errW_none,errW_some] <;> rfl)|(simp [*,errW_none,errW_some] <;> rfl),bM HB.out⟩
end Go.Proofs.Ytihfpmociffpeaa.O
