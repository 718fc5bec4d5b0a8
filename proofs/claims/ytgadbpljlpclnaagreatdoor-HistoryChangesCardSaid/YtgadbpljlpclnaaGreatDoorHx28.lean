import Derived.Test.YtgadbpljlpclnaaGreatDoorHx0
import Derived.Test.YtgadbpljlpclnaaGreatDoorHx27
namespace Go.Proofs.YtgadbpljlpclnaaGreatDoor.H
open Go.RowKit Go.Proofs.YtgadbpljlpclnaaGreatDoorW.PrintWords Go.Proofs.YtgadbpljlpclnaaGreatDoorW.PrintLast Go.Proofs.YtgadbpljlpclnaaGreatDoorW.PrintMore
attribute [local go_sem] max2_int min2_int max_two min_two max_three min_three max_four min_four
set_option linter.unusedVariables false
set_option linter.unusedSimpArgs false

/-! ### r25_Diff: function 34 -/
def r25_Diff.l0 : Nat → List (S55) → List (S55) → List (S53) → List ByteArray → Int → Option ((List (S53)))
|0,_,_,_,_,_ => none
|k + 1,x0,x1,x5,x6,x7 => if x7 < (x6.length : Int) then (if 0 ≤ x7 then ((r25_blob.f k x0 (rdOf ByteArray.empty x6 x7)).bind fun aa => ((r25_blob.f k x1 (rdOf ByteArray.empty x6 x7)).bind fun ab => (if aa = ab then (r25_Diff.l0 k x0 x1 x5 x6 (wrap64 (x7 + 1))) else ((r25_blob.f k x1 (rdOf ByteArray.empty x6 x7)).bind fun ac => (if x5.length < 5864062014805 then (r25_Diff.l0 k x0 x1 (x5 ++ [(⟨rdOf ByteArray.empty x6 x7,ac⟩ : S53)]) x6 (wrap64 (x7 + 1))) else (none)))))) else (none)) else (some x5)
def r25_Diff.f (k : Nat) (l0 : List (S55)) (l1 : List (S55)) : Option ((List (S53))) := (r25_paths.f k ([] : List (S55)) l0 l1).bind fun aa => (r25_Diff.l0 k l0 l1 ([] : List (S53)) aa 0)
theorem r25_Diff.mono_l : ∀ k, (∀ y0 y1 y2 y3 y4, LeO (r25_Diff.l0 k y0 y1 y2 y3 y4) (r25_Diff.l0 (k + 1) y0 y1 y2 y3 y4))
|0 => fun _ _ _ _ _ r h => by simp [r25_Diff.l0] at h
|k + 1 => by
  have ih0 := r25_Diff.mono_l k
  ·intro y0 y1 y2 y3 y4
   unfold r25_Diff.l0
   repeat' (with_reducible first|exact ih0 _ _ _ _ _|exact r25_blob.mono _ _ _|exact LeO.refl _|exact LeO.none _|refine LeO.ite ?_ ?_|refine LeO.bind ?_ (fun _ => ?_))
theorem r25_Diff.mono : ∀ a0 a1 k, LeO (r25_Diff.f k a0 a1) (r25_Diff.f (k + 1) a0 a1) := by
 intro a0 a1 k
 have ih0 := r25_Diff.mono_l k
 unfold r25_Diff.f
 repeat' (with_reducible first|exact ih0 _ _ _ _ _|exact r25_blob.mono _ _ _|exact r25_paths.mono _ _ _ _|exact LeO.refl _|exact LeO.none _|refine LeO.ite ?_ ?_|refine LeO.bind ?_ (fun _ => ?_))
def r25_Diff.T6 : Bool × List (List Nat × List Nat) := (true, [([], []), ([], []), ([], []), ([1, 2], [1, 2]), ([3], [3]), ([0, 4], [0, 4]), ([], []), ([], []), ([], []), ([7, 8], [7, 8]), ([9], [9]), ([6, 10, 5], [6, 10]), ([5, 11], [5, 11])])
def r25_Diff.B6 : List Nat := [0, 0, 0, 6, 14, 31, 0, 0, 0, 384, 896, 2047, 4095]
theorem r25_Diff.tab6 : rtab .any (opsOf Tryz.f34 6) = r25_Diff.T6 := by kernel_rfl
theorem r25_Diff.bits6 : waitsOk r25_Diff.T6.2 r25_Diff.B6 = true := by kernel_rfl
def r25_Diff.T7 : Bool × List (List Nat × List Nat) := (true, [([], []), ([], []), ([], []), ([1, 2], [1, 2]), ([3], [3]), ([], []), ([], []), ([], []), ([6, 7], [6, 7]), ([8], [8]), ([5, 9], [5, 9]), ([4, 10], [4, 10]), ([11], [11]), ([0, 12, 10], [0, 12]), ([13, 13, 0, 1, 2, 3, 4, 5, 6, 7, 8, 9, 10, 11, 12, 13], [0, 13])])
def r25_Diff.B7 : List Nat := [0, 0, 0, 6, 14, 0, 0, 0, 192, 448, 992, 2046, 4094, 8191, 16383]
theorem r25_Diff.tab7 : rtab .any (opsOf Tryz.f34 7) = r25_Diff.T7 := by kernel_rfl
theorem r25_Diff.bits7 : waitsOk r25_Diff.T7.2 r25_Diff.B7 = true := by kernel_rfl
set_option maxHeartbeats 4000000 in
set_option maxRecDepth 100000 in
theorem r25_Diff.calls (k : Nat) (A0 : Option Addr) (c0 : Nat) (l0 : List (S55)) (A1 : Option Addr) (c1 : Nat) (l1 : List (S55)) (r : List (S53)) (w : World) (bc : Kd.C k55 w A0 l0.length l0) (bd : l0.length ≤ c0) (be : Kd.C k55 w A1 l1.length l1) (bf : l1.length ≤ c1) (h : r25_Diff.f k l0 l1 = some r) :
  Calls Tryz.prog 34 #[.slice A0 l0.length c0,.slice A1 l1.length c1] w fun e w' => ∃ bg : Value,e = .returned (bg) ∧ Kd.R k53 53 w' w.heap.size (fun _ => True) bg r ∧ Below w.heap.size w w' := by
 have bn := Tryz.underlying53
 have aZ := aK bc
 have a0 := aK bd
 clear bc bd
 have aW := aK be
 have aX := aK bf
 clear be bf
 have HB := aK (Below.refl w.heap.size w)
 have H : ((r25_paths.f k ([] : List (S55)) l0 l1).bind fun ab => (r25_Diff.l0 k l0 l1 ([] : List (S53)) ab 0)) = some r := h
 clear h
 replace H := Option.bind_eq_some_iff.mp H
 obtain ⟨ab,bh,H⟩ := H
 have A3 := aK bh
 clear bh
 have H' := aK H
 clear H
 go_enter Tryz.func34,Tryz.ntmps34
 go_wp2_with (first|(go_at_call 53;refine calls_of_args (args' := #[.slice none ([] : List (S55)).length 0,.slice A0 l0.length c0,.slice A1 l1.length c1]) (by first|with_reducible rfl|(simp only [List.length_nil];done)|(simp only [List.length_nil];with_reducible rfl)) ?_;(with_reducible refine (r25_paths.calls k (fun k_ => False) _ _ ([] : List (S55)) (fun k_ => k_ < w.heap.size) _ _ l0 (fun k_ => k_ < w.heap.size) _ _ l1 ab _ ?af ?ag ?aI A3.out).mono ?_);(case af => exact Kd.V_nil _ _ _ _ _);(case ag => exact Kd.V_mk a0.out (Kd.F_below (Kd.C_F k55_heap aZ.out) (bM HB.out)));(case aI => exact Kd.V_mk aX.out (Kd.F_below (Kd.C_F k55_heap aW.out) (bM HB.out)));rintro e w4 ⟨a1,rfl,bi,hb⟩;have aJ := aK (Kd.R_lower (Kd.R_mono (ok' := fun k_ => True) bi (fun _ hk_ => trivial)) (below_size (bM HB.out)));replace HB := aK (below_step (bM HB.out) hb);(try clear hb);(try clear hk);(try clear bi)))
 go_loopg [5,7] k (fun kq v5 v7 w' => ∃ (ak : List (S53)) (aa : Int),v7 = .int .i64 aa ∧ Aside0 (r25_Diff.l0 kq l0 l1 ak ab aa = some r) ∧ Aside0 (kq ≤ k) ∧ Aside0 (Kd.R k53 53 w' w.heap.size (fun _ => True) v5 ak) ∧ Aside0 (Kd.R Kd.string 9 w' w.heap.size (fun _ => True) a1 ab) ∧ Aside0 (Below w.heap.size w w'))
 case atStart => exact ⟨(([] : List (S53))),(0),(by first|rfl|(simp;done)|(simp [*];done)),H',⟨Nat.le_refl _⟩,⟨by first|exact Kd.R_nil _ _ _ _ _|exact Kd.N_nil _ _ _ _ _|exact Kd.V_nil _ _ _ _ _|exact Kd.Q_nil _ _ _ _ _|exact Kd.S_nil _ _ _ _ _⟩,⟨rM aJ.out⟩,⟨bM HB.out⟩⟩
 case round =>
  clear H'
  try clear p2
  obtain ⟨ak,aa,rfl,HA,aY,ad,ac,HB⟩ := hrel
  cases gk with
 |zero => exact absurd HA.out (by simp [r25_Diff.l0])
 |succ k1 =>
   have H := HA.out
   clear HA
   simp only [r25_Diff.l0] at H
   by_cases c5 : aa < (ab.length : Int)
   ·rw [if_pos c5] at H
    have a2 := decide_eq_true c5
    clear c5
    obtain ⟨c6,H⟩ := iS H
    have bo := decide_eq_true c6
    clear c6
    replace H := Option.bind_eq_some_iff.mp H
    obtain ⟨ay,bj,H⟩ := H
    have A7 := aK bj
    clear bj
    replace H := Option.bind_eq_some_iff.mp H
    obtain ⟨az,bk,H⟩ := H
    have A8 := aK bk
    clear bk
    by_cases c9 : ay = az
    ·rw [if_pos c9] at H
     have a3 := beq_iff_eq.mpr c9
     have a4 := bne_eq_false_iff_eq.mpr c9
     clear c9
     have H' := aK H
     clear H
     obtain ⟨bp,bq,a5⟩ := Kd.R_slice ac.out
     subst a5
     try go_wp2
     have ap := aK (Kd.R_drew ad.out)
     have aq := aK (Kd.R_drew ac.out)
     have ar := aK (below_drew1 HB.out)
     clear ad
     clear ac
     clear HB
     have ad := ap
     have ac := aq
     have HB := ar
     clear ap aq ar
     have al : 0 ≤ (aa : Int) := dA
     have am : aa < (ab.length : Int) := dA
     obtain ⟨ae,aA,ah⟩ := Kd.at_string (Kd.R_reads' ac.out).2.2 aa al am
     cases aA
     replace al := eq_true al
     replace am := eq_true am
     have an : 0 ≤ (aa : Int) := dA
     have ao : aa < (ab.length : Int) := dA
     obtain ⟨aw,aC,ai⟩ := Kd.at_string (Kd.R_reads' ac.out).2.2 aa an ao
     obtain rfl : ae = aw := (by injection aC)
     replace an := eq_true an
     replace ao := eq_true ao
     refine start_ (n := 13) (S := fun w' => w'.cell? (ae.add (aa).toNat) = some (.string (rdOf ByteArray.empty ab aa)) ∧ w'.cell? (ae.add (aa).toNat) = some (.string (rdOf ByteArray.empty ab aa))) (ds := []) (bA 13 0) (by kernel_rfl) rfl rfl ⟨ah,ai⟩ (fun hHeld => ?_);refine with_tabW r25_Diff.tab6 r25_Diff.bits6 (fun HT_ HW_ => ?_)
     generalize wr.drew = w11 at ad ac HB ah ai hHeld ⊢
     refine pure_ (i := 0) (N := some 17) (v := ?_) (a' := ?_) (bA 13 1) rfl rfl (any_of HT_.out (by kernel_rfl)) (fun _ _ _ h => h) (Or.inl ⟨by rfl,?_⟩) ?_ ?_
     rotate_left
     ·intro w'
      go_simp
      with_reducible rfl
     rotate_left
     ·simp only [Act.put,z1_,z2_,z3_,i64_w,i32_w]
      rfl
     refine pure_ (i := 1) (N := some 18) (v := ?_) (a' := ?_) (bA 13 3) rfl rfl (any_of HT_.out (by kernel_rfl)) (fun _ _ _ h => h) (Or.inl ⟨by rfl,?_⟩) ?_ ?_
     rotate_left
     ·intro w'
      go_simp
      with_reducible rfl
     rotate_left
     ·simp only [Act.put,z1_,z2_,z3_,i64_w,i32_w]
      rfl
     refine pure_ (i := 2) (N := some 19) (v := ?_) (a' := ?_) (bA 13 7) rfl rfl (any_of HT_.out (by kernel_rfl)) (fun _ _ _ h => h) (Or.inl ⟨by rfl,?_⟩) ?_ ?_
     rotate_left
     ·intro w'
      go_simp
      with_reducible rfl
     rotate_left
     ·simp only [Act.put,z1_,z2_,z3_,i64_w,i32_w]
      rfl
     refine pure_ (i := 3) (N := some 20) (v := ?_) (a' := ?_) (bA 13 15) rfl rfl (any_of HT_.out (by kernel_rfl)) (fun _ _ _ h => h) (Or.inl ⟨by rfl,?_⟩) ?_ ?_
     rotate_left
     ·intro w'
      go_simp
      with_reducible rfl
     rotate_left
     ·simp only [Act.put,z1_,z2_,z3_,i64_w,i32_w]
      rfl
     refine pure_ (i := 6) (N := some 23) (v := ?_) (a' := ?_) (bA 13 79) rfl rfl (any_of HT_.out (by kernel_rfl)) (fun _ _ _ h => h) (Or.inl ⟨by rfl,?_⟩) ?_ ?_
     rotate_left
     ·intro w'
      go_simp
      with_reducible rfl
     rotate_left
     ·simp only [Act.put,z1_,z2_,z3_,i64_w,i32_w]
      rfl
     refine pure_ (i := 7) (N := some 24) (v := ?_) (a' := ?_) (bA 13 207) rfl rfl (any_of HT_.out (by kernel_rfl)) (fun _ _ _ h => h) (Or.inl ⟨by rfl,?_⟩) ?_ ?_
     rotate_left
     ·intro w'
      go_simp
      with_reducible rfl
     rotate_left
     ·simp only [Act.put,z1_,z2_,z3_,i64_w,i32_w]
      rfl
     refine pure_ (i := 8) (N := some 25) (v := ?_) (a' := ?_) (bA 13 463) rfl rfl (any_of HT_.out (by kernel_rfl)) (fun _ _ _ h => h) (Or.inl ⟨by rfl,?_⟩) ?_ ?_
     rotate_left
     ·intro w'
      go_simp
      with_reducible rfl
     rotate_left
     ·simp only [Act.put,z1_,z2_,z3_,i64_w,i32_w]
      rfl
     refine pure_ (i := 9) (N := some 26) (v := ?_) (a' := ?_) (bA 13 975) rfl rfl (any_of HT_.out (by kernel_rfl)) (fun _ _ _ h => h) (Or.inl ⟨by rfl,?_⟩) ?_ ?_
     rotate_left
     ·intro w'
      go_simp
      with_reducible rfl
     rotate_left
     ·simp only [Act.put,z1_,z2_,z3_,i64_w,i32_w]
      rfl
     refine take_ (i := 4) (N := some 21) (v := ?_) (a' := ?_) (bA 13 991) rfl rfl (take_ofW HT_.out HW_.out (by kernel_rfl)) (fun _ _ _ h => h) (Or.inl ⟨by rfl,?_⟩) hHeld ?_ ?_
     rotate_left
     ·rintro w' ⟨s0,s1⟩
      go_simp
      with_reducible rfl
     rotate_left
     ·simp only [Act.put,z1_,z2_,z3_,i64_w,i32_w]
      rfl
     refine take_ (i := 10) (N := some 27) (v := ?_) (a' := ?_) (bA 13 2015) rfl rfl (take_ofW HT_.out HW_.out (by kernel_rfl)) (fun _ _ _ h => h) (Or.inl ⟨by rfl,?_⟩) hHeld ?_ ?_
     rotate_left
     ·rintro w' ⟨s0,s1⟩
      go_simp
      with_reducible rfl
     rotate_left
     ·simp only [Act.put,z1_,z2_,z3_,i64_w,i32_w]
      rfl
     refine one_ (i := 5) (N := some 22) (bA 13 2047) rfl rfl (one_of HT_.out (by kernel_rfl)) (by decide) (fun K hK => ?_)
     refine goes_ Tryz.func54 (by kernel_rfl) rfl #[.slice A0 l0.length c0,.string (rdOf ByteArray.empty ab aa)] (by rfl) rfl rfl (by (try simp only [z4_,z5_,z6_]);first|done|rfl|(simp only [z7_,z8_];rfl)) ?_
     with_reducible refine (r25_blob.calls k1 _ _ l0 (rdOf ByteArray.empty ab aa) ay _ ?af ?ag A7.out).mono ?_
     (case af => exact cM (Kd.C_below aZ.out HB.out))
     (case ag => exact a0.out)
     rintro e w' ⟨rfl,⟨nd,rfl⟩⟩
     refine ⟨_,rfl,?_⟩
     refine hK.out _ _ ⟨hHeld.1,hHeld.2⟩ (fun hHeld => ?_)
     clear hK K
     refine norm_ (a' := ?_) ?_ ?_
     rotate_left
     ·show Act.put _ (some 22) _ = _
      simp only [Act.put,z1_,z2_,z3_,i64_w,i32_w]
      rfl
     refine one_ (i := 11) (N := some 28) (bA 13 4095) rfl rfl (one_of HT_.out (by kernel_rfl)) (by decide) (fun K hK => ?_)
     refine goes_ Tryz.func54 (by kernel_rfl) rfl #[.slice A1 l1.length c1,.string (rdOf ByteArray.empty ab aa)] (by rfl) rfl rfl (by (try simp only [z4_,z5_,z6_]);first|done|rfl|(simp only [z7_,z8_];rfl)) ?_
     with_reducible refine (r25_blob.calls k1 _ _ l1 (rdOf ByteArray.empty ab aa) az _ ?af ?ag A8.out).mono ?_
     (case af => exact Kd.C_below aW.out (bM HB.out))
     (case ag => exact aX.out)
     rintro e w' ⟨rfl,⟨nd,rfl⟩⟩
     refine ⟨_,rfl,?_⟩
     refine hK.out _ _ ⟨hHeld.1,hHeld.2⟩ (fun hHeld => ?_)
     clear hK K
     refine norm_ (a' := ?_) ?_ ?_
     rotate_left
     ·show Act.put _ (some 28) _ = _
      simp only [Act.put,z1_,z2_,z3_,i64_w,i32_w]
      rfl
     refine pure_ (i := 12) (N := some 29) (v := ?_) (a' := ?_) (bA 13 8191) rfl rfl (any_of HT_.out (by kernel_rfl)) (fun _ _ _ h => h) (Or.inl ⟨by rfl,?_⟩) ?_ ?_
     rotate_left
     ·intro w'
      go_simp
      with_reducible rfl
     rotate_left
     ·simp only [Act.put,z1_,z2_,z3_,i64_w,i32_w]
      rfl
     refine done_ (done_of HT_.out (by kernel_rfl)) ?_
     try go_wp2
     go_roundg k1
     case measure => have := aY.out;omega
     case rel => exact ⟨(ak),(wrap64 (aa + 1)),(by first|rfl|(simp;done)|(simp [*];done)),H',⟨by have := aY.out;omega⟩,⟨rM ad.out⟩,⟨rM ac.out⟩,⟨bM HB.out⟩⟩
    ·rw [if_neg c9] at H
     have a3 := beq_eq_false_iff_ne.mpr c9
     have a4 := bne_iff_ne.mpr c9
     replace H := Option.bind_eq_some_iff.mp H
     obtain ⟨ax,aM,H⟩ := H
     have br := aK aM
     clear aM
     obtain ⟨bm,H⟩ := iS H
     have aN := aK bm
     clear bm
     obtain ⟨aQ,aj⟩ : ∃ y_ : List (S53),y_ = (ak ++ [(⟨rdOf ByteArray.empty ab aa,ax⟩ : S53)]) := ⟨_,rfl⟩
     replace H : (r25_Diff.l0 k1 l0 l1 aQ ab (wrap64 (aa + 1))) = some r := by first|(rw [aj];with_reducible exact H)|(have a6 := (Option.bind_some _ _).symm.trans H;rw [aj];with_reducible exact a6)|(have a6 := (Option.bind_some _ _).symm.trans H;with_reducible exact a6)|with_reducible exact H|(rw [aj];exact H)|exact H
     have aR := aK aj
     clear aj
     have H' := aK H
     clear H
     obtain ⟨bs,a7,a8⟩ := Kd.R_slice ac.out
     subst a8
     try go_wp2
     have ap := aK (Kd.R_drew ad.out)
     have aq := aK (Kd.R_drew ac.out)
     have ar := aK (below_drew1 HB.out)
     clear ad
     clear ac
     clear HB
     have ad := ap
     have ac := aq
     have HB := ar
     clear ap aq ar
     have al : 0 ≤ (aa : Int) := dA
     have am : aa < (ab.length : Int) := dA
     obtain ⟨ae,aA,ah⟩ := Kd.at_string (Kd.R_reads' ac.out).2.2 aa al am
     cases aA
     replace al := eq_true al
     replace am := eq_true am
     have an : 0 ≤ (aa : Int) := dA
     have ao : aa < (ab.length : Int) := dA
     obtain ⟨aw,aC,ai⟩ := Kd.at_string (Kd.R_reads' ac.out).2.2 aa an ao
     obtain rfl : ae = aw := (by injection aC)
     replace an := eq_true an
     replace ao := eq_true ao
     refine start_ (n := 13) (S := fun w' => w'.cell? (ae.add (aa).toNat) = some (.string (rdOf ByteArray.empty ab aa)) ∧ w'.cell? (ae.add (aa).toNat) = some (.string (rdOf ByteArray.empty ab aa))) (ds := []) (bA 13 0) (by kernel_rfl) rfl rfl ⟨ah,ai⟩ (fun hHeld => ?_);refine with_tabW r25_Diff.tab6 r25_Diff.bits6 (fun HT_ HW_ => ?_)
     generalize wr.drew = w15 at ad ac HB ah ai hHeld ⊢
     refine pure_ (i := 0) (N := some 17) (v := ?_) (a' := ?_) (bA 13 1) rfl rfl (any_of HT_.out (by kernel_rfl)) (fun _ _ _ h => h) (Or.inl ⟨by rfl,?_⟩) ?_ ?_
     rotate_left
     ·intro w'
      go_simp
      with_reducible rfl
     rotate_left
     ·simp only [Act.put,z1_,z2_,z3_,i64_w,i32_w]
      rfl
     refine pure_ (i := 1) (N := some 18) (v := ?_) (a' := ?_) (bA 13 3) rfl rfl (any_of HT_.out (by kernel_rfl)) (fun _ _ _ h => h) (Or.inl ⟨by rfl,?_⟩) ?_ ?_
     rotate_left
     ·intro w'
      go_simp
      with_reducible rfl
     rotate_left
     ·simp only [Act.put,z1_,z2_,z3_,i64_w,i32_w]
      rfl
     refine pure_ (i := 2) (N := some 19) (v := ?_) (a' := ?_) (bA 13 7) rfl rfl (any_of HT_.out (by kernel_rfl)) (fun _ _ _ h => h) (Or.inl ⟨by rfl,?_⟩) ?_ ?_
     rotate_left
     ·intro w'
      go_simp
      with_reducible rfl
     rotate_left
     ·simp only [Act.put,z1_,z2_,z3_,i64_w,i32_w]
      rfl
     refine pure_ (i := 3) (N := some 20) (v := ?_) (a' := ?_) (bA 13 15) rfl rfl (any_of HT_.out (by kernel_rfl)) (fun _ _ _ h => h) (Or.inl ⟨by rfl,?_⟩) ?_ ?_
     rotate_left
     ·intro w'
      go_simp
      with_reducible rfl
     rotate_left
     ·simp only [Act.put,z1_,z2_,z3_,i64_w,i32_w]
      rfl
     refine pure_ (i := 6) (N := some 23) (v := ?_) (a' := ?_) (bA 13 79) rfl rfl (any_of HT_.out (by kernel_rfl)) (fun _ _ _ h => h) (Or.inl ⟨by rfl,?_⟩) ?_ ?_
     rotate_left
     ·intro w'
      go_simp
      with_reducible rfl
     rotate_left
     ·simp only [Act.put,z1_,z2_,z3_,i64_w,i32_w]
      rfl
     refine pure_ (i := 7) (N := some 24) (v := ?_) (a' := ?_) (bA 13 207) rfl rfl (any_of HT_.out (by kernel_rfl)) (fun _ _ _ h => h) (Or.inl ⟨by rfl,?_⟩) ?_ ?_
     rotate_left
     ·intro w'
      go_simp
      with_reducible rfl
     rotate_left
     ·simp only [Act.put,z1_,z2_,z3_,i64_w,i32_w]
      rfl
     refine pure_ (i := 8) (N := some 25) (v := ?_) (a' := ?_) (bA 13 463) rfl rfl (any_of HT_.out (by kernel_rfl)) (fun _ _ _ h => h) (Or.inl ⟨by rfl,?_⟩) ?_ ?_
     rotate_left
     ·intro w'
      go_simp
      with_reducible rfl
     rotate_left
     ·simp only [Act.put,z1_,z2_,z3_,i64_w,i32_w]
      rfl
     refine pure_ (i := 9) (N := some 26) (v := ?_) (a' := ?_) (bA 13 975) rfl rfl (any_of HT_.out (by kernel_rfl)) (fun _ _ _ h => h) (Or.inl ⟨by rfl,?_⟩) ?_ ?_
     rotate_left
     ·intro w'
      go_simp
      with_reducible rfl
     rotate_left
     ·simp only [Act.put,z1_,z2_,z3_,i64_w,i32_w]
      rfl
     refine take_ (i := 4) (N := some 21) (v := ?_) (a' := ?_) (bA 13 991) rfl rfl (take_ofW HT_.out HW_.out (by kernel_rfl)) (fun _ _ _ h => h) (Or.inl ⟨by rfl,?_⟩) hHeld ?_ ?_
     rotate_left
     ·rintro w' ⟨s0,s1⟩
      go_simp
      with_reducible rfl
     rotate_left
     ·simp only [Act.put,z1_,z2_,z3_,i64_w,i32_w]
      rfl
     refine take_ (i := 10) (N := some 27) (v := ?_) (a' := ?_) (bA 13 2015) rfl rfl (take_ofW HT_.out HW_.out (by kernel_rfl)) (fun _ _ _ h => h) (Or.inl ⟨by rfl,?_⟩) hHeld ?_ ?_
     rotate_left
     ·rintro w' ⟨s0,s1⟩
      go_simp
      with_reducible rfl
     rotate_left
     ·simp only [Act.put,z1_,z2_,z3_,i64_w,i32_w]
      rfl
     refine one_ (i := 5) (N := some 22) (bA 13 2047) rfl rfl (one_of HT_.out (by kernel_rfl)) (by decide) (fun K hK => ?_)
     refine goes_ Tryz.func54 (by kernel_rfl) rfl #[.slice A0 l0.length c0,.string (rdOf ByteArray.empty ab aa)] (by rfl) rfl rfl (by (try simp only [z4_,z5_,z6_]);first|done|rfl|(simp only [z7_,z8_];rfl)) ?_
     with_reducible refine (r25_blob.calls k1 _ _ l0 (rdOf ByteArray.empty ab aa) ay _ ?af ?ag A7.out).mono ?_
     (case af => exact cM (Kd.C_below aZ.out HB.out))
     (case ag => exact a0.out)
     rintro e w' ⟨rfl,⟨nd,rfl⟩⟩
     refine ⟨_,rfl,?_⟩
     refine hK.out _ _ ⟨hHeld.1,hHeld.2⟩ (fun hHeld => ?_)
     clear hK K
     refine norm_ (a' := ?_) ?_ ?_
     rotate_left
     ·show Act.put _ (some 22) _ = _
      simp only [Act.put,z1_,z2_,z3_,i64_w,i32_w]
      rfl
     refine one_ (i := 11) (N := some 28) (bA 13 4095) rfl rfl (one_of HT_.out (by kernel_rfl)) (by decide) (fun K hK => ?_)
     refine goes_ Tryz.func54 (by kernel_rfl) rfl #[.slice A1 l1.length c1,.string (rdOf ByteArray.empty ab aa)] (by rfl) rfl rfl (by (try simp only [z4_,z5_,z6_]);first|done|rfl|(simp only [z7_,z8_];rfl)) ?_
     with_reducible refine (r25_blob.calls k1 _ _ l1 (rdOf ByteArray.empty ab aa) az _ ?af ?ag A8.out).mono ?_
     (case af => exact Kd.C_below aW.out (bM HB.out))
     (case ag => exact aX.out)
     rintro e w' ⟨rfl,⟨nd,rfl⟩⟩
     refine ⟨_,rfl,?_⟩
     refine hK.out _ _ ⟨hHeld.1,hHeld.2⟩ (fun hHeld => ?_)
     clear hK K
     refine norm_ (a' := ?_) ?_ ?_
     rotate_left
     ·show Act.put _ (some 28) _ = _
      simp only [Act.put,z1_,z2_,z3_,i64_w,i32_w]
      rfl
     refine pure_ (i := 12) (N := some 29) (v := ?_) (a' := ?_) (bA 13 8191) rfl rfl (any_of HT_.out (by kernel_rfl)) (fun _ _ _ h => h) (Or.inl ⟨by rfl,?_⟩) ?_ ?_
     rotate_left
     ·intro w'
      go_simp
      with_reducible rfl
     rotate_left
     ·simp only [Act.put,z1_,z2_,z3_,i64_w,i32_w]
      rfl
     refine done_ (done_of HT_.out (by kernel_rfl)) ?_
     try go_wp2
     (try (rw [drewN_self w15];generalize hq_ : World.drewN w15 _ = w15;have ap : Aside0 (Kd.R k53 53 w15 w.heap.size (fun _ => True) u5 ak) := ⟨by rw [← hq_];exact (rM ad.out)⟩;have aq : Aside0 (Kd.R Kd.string 9 w15 w.heap.size (fun _ => True) (.slice (some ae) ab.length a7) ab) := ⟨by rw [← hq_];exact (rM ac.out)⟩;have ar : Aside0 (Below w.heap.size w w15) := ⟨by rw [← hq_];exact (bM HB.out)⟩;clear ad ac HB hq_;have ad := ap;have ac := aq;have HB := ar;clear ap aq ar))
     have ap := aK (Kd.R_drew ad.out)
     have aq := aK (Kd.R_drew ac.out)
     have ar := aK (below_drew1 HB.out)
     clear ad
     clear ac
     clear HB
     have ad := ap
     have ac := aq
     have HB := ar
     clear ap aq ar
     have aD : 0 ≤ (aa : Int) := dA
     have aE : aa < (ab.length : Int) := dA
     obtain ⟨aT,a9,au⟩ := Kd.at_string (Kd.R_reads' ac.out).2.2 aa aD aE
     obtain rfl : ae = aT := (by injection a9)
     replace aD := eq_true aD
     replace aE := eq_true aE
     have aG : 0 ≤ (aa : Int) := dA
     have aH : aa < (ab.length : Int) := dA
     obtain ⟨aU,ba,av⟩ := Kd.at_string (Kd.R_reads' ac.out).2.2 aa aG aH
     obtain rfl : ae = aU := (by injection ba)
     replace aG := eq_true aG
     replace aH := eq_true aH
     refine start_ (n := 15) (S := fun w' => w'.cell? (ae.add (aa).toNat) = some (.string (rdOf ByteArray.empty ab aa)) ∧ w'.cell? (ae.add (aa).toNat) = some (.string (rdOf ByteArray.empty ab aa))) (ds := [12,13]) (bA 15 0) (by kernel_rfl) rfl rfl ⟨au,av⟩ (fun hHeld => ?_);refine with_tabW r25_Diff.tab7 r25_Diff.bits7 (fun HT_ HW_ => ?_)
     generalize w15.drew = w16 at ad ac HB au av hHeld ⊢
     refine pure_ (i := 0) (N := some 30) (v := ?_) (a' := ?_) (bA 15 1) rfl rfl (any_of HT_.out (by kernel_rfl)) (fun _ _ _ h => h) (Or.inl ⟨by rfl,?_⟩) ?_ ?_
     rotate_left
     ·intro w'
      go_simp
      with_reducible rfl
     rotate_left
     ·simp only [Act.put,z1_,z2_,z3_,i64_w,i32_w]
      rfl
     refine pure_ (i := 1) (N := some 31) (v := ?_) (a' := ?_) (bA 15 3) rfl rfl (any_of HT_.out (by kernel_rfl)) (fun _ _ _ h => h) (Or.inl ⟨by rfl,?_⟩) ?_ ?_
     rotate_left
     ·intro w'
      go_simp
      with_reducible rfl
     rotate_left
     ·simp only [Act.put,z1_,z2_,z3_,i64_w,i32_w]
      rfl
     refine pure_ (i := 2) (N := some 32) (v := ?_) (a' := ?_) (bA 15 7) rfl rfl (any_of HT_.out (by kernel_rfl)) (fun _ _ _ h => h) (Or.inl ⟨by rfl,?_⟩) ?_ ?_
     rotate_left
     ·intro w'
      go_simp
      with_reducible rfl
     rotate_left
     ·simp only [Act.put,z1_,z2_,z3_,i64_w,i32_w]
      rfl
     refine pure_ (i := 3) (N := some 33) (v := ?_) (a' := ?_) (bA 15 15) rfl rfl (any_of HT_.out (by kernel_rfl)) (fun _ _ _ h => h) (Or.inl ⟨by rfl,?_⟩) ?_ ?_
     rotate_left
     ·intro w'
      go_simp
      with_reducible rfl
     rotate_left
     ·simp only [Act.put,z1_,z2_,z3_,i64_w,i32_w]
      rfl
     refine pure_ (i := 5) (N := some 35) (v := ?_) (a' := ?_) (bA 15 47) rfl rfl (any_of HT_.out (by kernel_rfl)) (fun _ _ _ h => h) (Or.inl ⟨by rfl,?_⟩) ?_ ?_
     rotate_left
     ·intro w'
      go_simp
      with_reducible rfl
     rotate_left
     ·simp only [Act.put,z1_,z2_,z3_,i64_w,i32_w]
      rfl
     refine pure_ (i := 6) (N := some 36) (v := ?_) (a' := ?_) (bA 15 111) rfl rfl (any_of HT_.out (by kernel_rfl)) (fun _ _ _ h => h) (Or.inl ⟨by rfl,?_⟩) ?_ ?_
     rotate_left
     ·intro w'
      go_simp
      with_reducible rfl
     rotate_left
     ·simp only [Act.put,z1_,z2_,z3_,i64_w,i32_w]
      rfl
     refine pure_ (i := 7) (N := some 37) (v := ?_) (a' := ?_) (bA 15 239) rfl rfl (any_of HT_.out (by kernel_rfl)) (fun _ _ _ h => h) (Or.inl ⟨by rfl,?_⟩) ?_ ?_
     rotate_left
     ·intro w'
      go_simp
      with_reducible rfl
     rotate_left
     ·simp only [Act.put,z1_,z2_,z3_,i64_w,i32_w]
      rfl
     refine pure_ (i := 8) (N := some 38) (v := ?_) (a' := ?_) (bA 15 495) rfl rfl (any_of HT_.out (by kernel_rfl)) (fun _ _ _ h => h) (Or.inl ⟨by rfl,?_⟩) ?_ ?_
     rotate_left
     ·intro w'
      go_simp
      with_reducible rfl
     rotate_left
     ·simp only [Act.put,z1_,z2_,z3_,i64_w,i32_w]
      rfl
     refine take_ (i := 4) (N := some 34) (v := ?_) (a' := ?_) (bA 15 511) rfl rfl (take_ofW HT_.out HW_.out (by kernel_rfl)) (fun _ _ _ h => h) (Or.inl ⟨by rfl,?_⟩) hHeld ?_ ?_
     rotate_left
     ·rintro w' ⟨s0,s1⟩
      go_simp
      with_reducible rfl
     rotate_left
     ·simp only [Act.put,z1_,z2_,z3_,i64_w,i32_w]
      rfl
     refine take_ (i := 9) (N := some 39) (v := ?_) (a' := ?_) (bA 15 1023) rfl rfl (take_ofW HT_.out HW_.out (by kernel_rfl)) (fun _ _ _ h => h) (Or.inl ⟨by rfl,?_⟩) hHeld ?_ ?_
     rotate_left
     ·rintro w' ⟨s0,s1⟩
      go_simp
      with_reducible rfl
     rotate_left
     ·simp only [Act.put,z1_,z2_,z3_,i64_w,i32_w]
      rfl
     refine one_ (i := 10) (N := some 40) (bA 15 2047) rfl rfl (one_of HT_.out (by kernel_rfl)) (by decide) (fun K hK => ?_)
     refine goes_ Tryz.func54 (by kernel_rfl) rfl #[.slice A1 l1.length c1,.string (rdOf ByteArray.empty ab aa)] (by rfl) rfl rfl (by (try simp only [z4_,z5_,z6_]);first|done|rfl|(simp only [z7_,z8_];rfl)) ?_
     with_reducible refine (r25_blob.calls k1 _ _ l1 (rdOf ByteArray.empty ab aa) ax _ ?af ?ag br.out).mono ?_
     (case af => exact cM (Kd.C_below aW.out HB.out))
     (case ag => exact aX.out)
     rintro e w' ⟨rfl,⟨nd,rfl⟩⟩
     refine ⟨_,rfl,?_⟩
     refine hK.out _ _ ⟨hHeld.1,hHeld.2⟩ (fun hHeld => ?_)
     clear hK K
     refine norm_ (a' := ?_) ?_ ?_
     rotate_left
     ·show Act.put _ (some 40) _ = _
      simp only [Act.put,z1_,z2_,z3_,i64_w,i32_w]
      rfl
     refine pure_ (i := 11) (N := some 41) (v := ?_) (a' := ?_) (bA 15 4095) rfl rfl (any_of HT_.out (by kernel_rfl)) (fun _ _ _ h => h) (Or.inl ⟨by rfl,?_⟩) ?_ ?_
     rotate_left
     ·intro w'
      go_simp
      with_reducible rfl
     rotate_left
     ·simp only [Act.put,z1_,z2_,z3_,i64_w,i32_w]
      rfl
     refine last_ (i := 12) (N := some 42) (bA 15 8191) rfl rfl (one_of HT_.out (by kernel_rfl)) (by decide) (fun K hK => ?_)
     refine value_ (w1 := ?_) (v := ?_) (by rfl) rfl ?_ ?_
     rotate_left 2
     ·go_simp
      constructor
      ·rfl
      ·rfl
     refine hK.out _ _ ?_
     clear hK K
     refine norm_ (a' := ?_) ?_ ?_
     rotate_left
     ·show Act.put _ (some 42) _ = _
      simp only [Act.put,z1_,z2_,z3_,i64_w,i32_w]
      rfl
     refine last_ (i := 13) (N := some 43) (bA 15 16383) rfl rfl (one_of HT_.out (by kernel_rfl)) (by decide) (fun K hK => ?_)
     refine Kd.R_append_step k53 (w0 := w) w.heap.size (by rfl) (.tmp 30) (.tmp 42) 26 53 (.agg #[(.string ⟨#[]⟩),(.int .i64 0)]) 24 rfl Tryz.underlying26 info53 rfl (by decide) (by omega) u5 ak (⟨rdOf ByteArray.empty ab aa,ax⟩ : S53) [.string (rdOf ByteArray.empty ab aa),.int .i64 ax] (fun _ => True) (fun _ => False) rfl rfl ?aP (fun _ hk => hk.elim) ?aF ?aO ?aB ?aS ?aL ?_
     (case aP => exact k53_mkM _ _ _ (⟨rdOf ByteArray.empty ab aa,ax⟩ : S53))
     (case aB => exact (bM HB.out))
     (case aF => exact (fun _ _ => trivial))
     (case aO => exact (rM ad.out))
     (case aS => exact (below_size (bM HB.out)))
     (case aL => have := aN.out;omega)
     intro bu bz ho hb hg hat
     rw [← aR.out] at ho
     have ap := aK (Kd.R_over' (rM ac.out) (Kd.R_typed (rM ad.out)) (by decide) hg)
     have aq := aK (hb)
     have ar := aK (ho)
     clear ac
     clear HB
     clear ad
     have ac := ap
     have HB := aq
     have aV := ar
     clear ap aq ar
     clear ho hb hg hat
     refine hK.out _ _ ?_
     clear hK K
     refine norm_ (a' := ?_) ?_ ?_
     rotate_left
     ·show Act.put _ (some 43) _ = _
      simp only [Act.put,z1_,z2_,z3_,i64_w,i32_w]
      rfl
     refine pure_ (i := 14) (N := some 5) (v := ?_) (a' := ?_) (bA 15 32767) rfl rfl (any_of HT_.out (by kernel_rfl)) (fun _ _ _ h => h) (Or.inl ⟨by rfl,?_⟩) ?_ ?_
     rotate_left
     ·intro w'
      go_simp
      with_reducible rfl
     rotate_left
     ·simp only [Act.put,z1_,z2_,z3_,i64_w,i32_w]
      rfl
     refine done_ (done_of HT_.out (by kernel_rfl)) ?_
     try go_wp2
     go_roundg k1
     case measure => have := aY.out;omega
     case rel => exact ⟨(aQ),(wrap64 (aa + 1)),(by first|rfl|(simp;done)|(simp [*];done)),H',⟨by have := aY.out;omega⟩,⟨rM aV.out⟩,⟨rM ac.out⟩,⟨bM HB.out⟩⟩
   ·rw [if_neg c5] at H
    have a2 := decide_eq_false c5
    clear c5
    obtain rfl := Option.some.inj H
    obtain ⟨bv,bx,bb⟩ := Kd.R_slice ac.out
    subst bb
    go_wp2
    go_ret
    exact ⟨_,by first|rfl|(simp [errW_none,errW_some] <;> rfl)|(simp [*,errW_none,errW_some] <;> rfl),rM ad.out,bM HB.out⟩
end Go.Proofs.YtgadbpljlpclnaaGreatDoor.H
