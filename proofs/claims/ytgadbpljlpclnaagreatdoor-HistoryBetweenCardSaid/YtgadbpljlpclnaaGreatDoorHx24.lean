import Derived.Test.YtgadbpljlpclnaaGreatDoorHx0
import Derived.Test.YtgadbpljlpclnaaGreatDoorHx7
import Derived.Test.YtgadbpljlpclnaaGreatDoorHx15
import Derived.Test.YtgadbpljlpclnaaGreatDoorHx20
namespace Go.Proofs.YtgadbpljlpclnaaGreatDoor.H
open Go.RowKit Go.Proofs.YtgadbpljlpclnaaGreatDoorW.PrintWords Go.Proofs.YtgadbpljlpclnaaGreatDoorW.PrintLast Go.Proofs.YtgadbpljlpclnaaGreatDoorW.PrintMore
attribute [local go_sem] max2_int min2_int max_two min_two max_three min_three max_four min_four
set_option linter.unusedVariables false
set_option linter.unusedSimpArgs false

/-! ### l26_HistoryBetween: function 6 -/
def l26_HistoryBetween.f (k : Nat) (l0 : List (S28)) (aa : Int) (ab : Int) (a2 : Int) : Option (Bool) := (l26_alive.f k).bind fun ad => (if ad = true then ((l26_right.f k l0).bind fun ae => (if ae = true then ((history_Ancestors.f k l0 aa).bind fun af => ((r05_In.f k af a2).bind fun ag => ((history_Ancestors.f k l0 ab).bind fun ah => ((r05_In.f k ah a2).bind fun ai => ((history_Between.f k l0 aa ab).bind fun aj => ((r05_In.f k aj a2).bind fun ac => (if ai = true then (some (ac == (!ag))) else (some (ac == false))))))))) else (some true))) else (some false))
theorem l26_HistoryBetween.mono : ∀ a0 a1 a2 a3 k, LeO (l26_HistoryBetween.f k a0 a1 a2 a3) (l26_HistoryBetween.f (k + 1) a0 a1 a2 a3) := by
 intro a0 a1 a2 a3 k
 unfold l26_HistoryBetween.f
 repeat' (with_reducible first|exact l26_alive.mono _|exact l26_right.mono _ _|exact r05_In.mono _ _ _|exact history_Ancestors.mono _ _ _|exact history_Between.mono _ _ _ _|exact LeO.refl _|exact LeO.none _|refine LeO.ite ?_ ?_|refine LeO.bind ?_ (fun _ => ?_))
def l26_HistoryBetween.T5 : Bool × List (List Nat × List Nat) := (true, [([], []), ([], []), ([1], [1]), ([0, 2], [0, 2]), ([], []), ([3, 4, 3], [3, 4]), ([], []), ([], []), ([7], [7]), ([6, 8, 5], [6, 8]), ([], []), ([9, 10, 9], [9, 10]), ([5, 11, 0, 1, 2, 3, 4, 5], [5]), ([11, 12, 0, 1, 2, 3, 4, 5, 6, 7, 8, 9, 10, 11, 12], [11])])
def l26_HistoryBetween.B5 : List Nat := [0, 0, 2, 7, 0, 31, 0, 0, 128, 511, 0, 2047, 4095, 8191]
theorem l26_HistoryBetween.tab5 : rtab .any (opsOf Tryz.f6 5) = l26_HistoryBetween.T5 := by kernel_rfl
theorem l26_HistoryBetween.bits5 : waitsOk l26_HistoryBetween.T5.2 l26_HistoryBetween.B5 = true := by kernel_rfl
set_option maxHeartbeats 4000000 in
set_option maxRecDepth 100000 in
theorem l26_HistoryBetween.calls (k : Nat) (A0 : Option Addr) (c0 : Nat) (l0 : List (S28)) (ag : Int) (ah : Int) (a2 : Int) (r : Bool) (w : World) (a8 : Kd.C k28 w A0 l0.length l0) (a9 : l0.length ≤ c0) (h : l26_HistoryBetween.f k l0 ag ah a2 = some r) :
  Calls Tryz.prog 6 #[.slice A0 l0.length c0,.agg #[.int .i64 ag,.int .i64 ah],.int .i64 a2] w fun e w' => e = .returned (.bool r) ∧ Below w.heap.size w w' := by
 have bi := Tryz.underlying46
 have aw := aK a8
 have ax := aK a9
 clear a8 a9
 have HB := aK (Below.refl w.heap.size w)
 unfold l26_HistoryBetween.f at h
 have H := h
 clear h
 replace H := Option.bind_eq_some_iff.mp H
 obtain ⟨aN,ba,H⟩ := H
 have A4 := aK ba
 clear ba
 by_cases c5 : aN = true
 ·subst c5
  rw [if_pos rfl] at H
  replace H := Option.bind_eq_some_iff.mp H
  obtain ⟨aO,bb,H⟩ := H
  have A6 := aK bb
  clear bb
  by_cases c7 : aO = true
  ·subst c7
   rw [if_pos rfl] at H
   replace H := Option.bind_eq_some_iff.mp H
   obtain ⟨ao,bc,H⟩ := H
   have A8 := aK bc
   clear bc
   replace H := Option.bind_eq_some_iff.mp H
   obtain ⟨aA,bd,H⟩ := H
   have A9 := aK bd
   clear bd
   replace H := Option.bind_eq_some_iff.mp H
   obtain ⟨ap,aB,H⟩ := H
   have be := aK aB
   clear aB
   replace H := Option.bind_eq_some_iff.mp H
   obtain ⟨aP,aC,H⟩ := H
   have bf := aK aC
   clear aC
   replace H := Option.bind_eq_some_iff.mp H
   obtain ⟨aq,aD,H⟩ := H
   have bg := aK aD
   clear aD
   replace H := Option.bind_eq_some_iff.mp H
   obtain ⟨aE,aF,H⟩ := H
   have bh := aK aF
   clear aF
   by_cases aM : aP = true
   ·subst aM
    rw [if_pos rfl] at H
    obtain rfl := Option.some.inj H
    go_enter Tryz.func6,Tryz.ntmps6
    try go_wp2_with (first|((with_reducible refine gate_dst (N := 4) rfl ?_);refine box_event ?hg (N := 4) ?hd (cs := #[.int .i64 ag,.int .i64 ah]) (t := 46) ?hr ?_;(case hd => rfl);(case hg => rfl);(case hr => first|(go_simp;done)|(go_simp;rfl));intro ae hg bm hbox hb;have aa := aK (hbox);have ai := aK ((by rw [hg];exact (below_size (bM HB.out)) : w.heap.size ≤ ae));have ar := Ge.mk ai.out;have aj := aK ((by rw [hg];exact (below_size (bM HB.out)) : w.heap.size ≤ ae));have au := Ge.mk aj.out;replace HB := aK (below_step (bM HB.out) hb);clear hb hbox hg)|((with_reducible refine gate_callee (f := 10) rfl ?_);refine gL 9 Tryz.func10 #[] ?_;(with_reducible refine (l26_alive.calls k  true _ A4.out).mono ?_);rintro e bn ⟨rfl,hb⟩;refine ⟨_,rfl,?_⟩;replace aa := aK (blk_below (kM aa.out) hb);replace HB := aK (below_step (bG HB.out) hb);(try clear hb))|((with_reducible refine gate_callee (f := 17) rfl ?_);refine gL 12 Tryz.func17 #[.slice A0 l0.length c0] ?_;(with_reducible refine (l26_right.calls k _ _ l0 true _ ?ab ?ac A6.out).mono ?_);(case ab => exact cM (Kd.C_below aw.out HB.out));(case ac => exact ax.out);rintro e bj ⟨rfl,hb⟩;refine ⟨_,rfl,?_⟩;replace aa := aK (blk_below (kM aa.out) hb);replace HB := aK (below_step (bG HB.out) hb);(try clear hb)))
    have am := aK (blk_drew aa.out)
    have an := aK (below_drew1 HB.out)
    clear aa
    clear HB
    have aa := am
    have HB := an
    clear am an
    refine start_ (n := 14) (S := fun w' => w'.cell? ⟨ae,0,none⟩ = some (.int .i64 ag) ∧ w'.cell? ⟨ae,1,none⟩ = some (.int .i64 ah)) (ds := []) (bA 14 0) (by kernel_rfl) rfl rfl ⟨(blk_cell aa.out 0).trans rfl,(blk_cell aa.out 1).trans rfl⟩ (fun hHeld => ?_);refine with_tabW l26_HistoryBetween.tab5 l26_HistoryBetween.bits5 (fun HT_ HW_ => ?_)
    generalize bj.drew = w18 at aa HB hHeld ⊢
    refine pure_ (i := 0) (N := some 14) (v := ?_) (a' := ?_) (bA 14 1) rfl rfl (any_of HT_.out (by kernel_rfl)) (fun _ _ _ h => h) (Or.inl ⟨by rfl,?_⟩) ?_ ?_
    rotate_left
    ·intro w'
     go_simp
     with_reducible rfl
    rotate_left
    ·simp only [Act.put,z1_,z2_,z3_,i64_w,i32_w]
     rfl
    refine pure_ (i := 1) (N := some 15) (v := ?_) (a' := ?_) (bA 14 3) rfl rfl (any_of HT_.out (by kernel_rfl)) (fun _ _ _ h => h) (Or.inl ⟨by rfl,?_⟩) ?_ ?_
    rotate_left
    ·intro w'
     go_simp
     with_reducible rfl
    rotate_left
    ·simp only [Act.put,z1_,z2_,z3_,i64_w,i32_w]
     rfl
    refine pure_ (i := 4) (N := some 18) (v := ?_) (a' := ?_) (bA 14 19) rfl rfl (any_of HT_.out (by kernel_rfl)) (fun _ _ _ h => h) (Or.inl ⟨by rfl,?_⟩) ?_ ?_
    rotate_left
    ·intro w'
     go_simp
     with_reducible rfl
    rotate_left
    ·simp only [Act.put,z1_,z2_,z3_,i64_w,i32_w]
     rfl
    refine pure_ (i := 6) (N := some 20) (v := ?_) (a' := ?_) (bA 14 83) rfl rfl (any_of HT_.out (by kernel_rfl)) (fun _ _ _ h => h) (Or.inl ⟨by rfl,?_⟩) ?_ ?_
    rotate_left
    ·intro w'
     go_simp
     with_reducible rfl
    rotate_left
    ·simp only [Act.put,z1_,z2_,z3_,i64_w,i32_w]
     rfl
    refine pure_ (i := 7) (N := some 21) (v := ?_) (a' := ?_) (bA 14 211) rfl rfl (any_of HT_.out (by kernel_rfl)) (fun _ _ _ h => h) (Or.inl ⟨by rfl,?_⟩) ?_ ?_
    rotate_left
    ·intro w'
     go_simp
     with_reducible rfl
    rotate_left
    ·simp only [Act.put,z1_,z2_,z3_,i64_w,i32_w]
     rfl
    refine pure_ (i := 10) (N := some 24) (v := ?_) (a' := ?_) (bA 14 1235) rfl rfl (any_of HT_.out (by kernel_rfl)) (fun _ _ _ h => h) (Or.inl ⟨by rfl,?_⟩) ?_ ?_
    rotate_left
    ·intro w'
     go_simp
     with_reducible rfl
    rotate_left
    ·simp only [Act.put,z1_,z2_,z3_,i64_w,i32_w]
     rfl
    refine take_ (i := 2) (N := some 16) (v := ?_) (a' := ?_) (bA 14 1239) rfl rfl (take_ofW HT_.out HW_.out (by kernel_rfl)) (fun _ _ _ h => h) (Or.inl ⟨by rfl,?_⟩) hHeld ?_ ?_
    rotate_left
    ·rintro w' ⟨s0,s1⟩
     go_simp
     with_reducible rfl
    rotate_left
    ·simp only [Act.put,z1_,z2_,z3_,i64_w,i32_w]
     rfl
    refine take_ (i := 8) (N := some 22) (v := ?_) (a' := ?_) (bA 14 1495) rfl rfl (take_ofW HT_.out HW_.out (by kernel_rfl)) (fun _ _ _ h => h) (Or.inl ⟨by rfl,?_⟩) hHeld ?_ ?_
    rotate_left
    ·rintro w' ⟨s0,s1⟩
     go_simp
     with_reducible rfl
    rotate_left
    ·simp only [Act.put,z1_,z2_,z3_,i64_w,i32_w]
     rfl
    refine one_ (i := 3) (N := some 17) (bA 14 1503) rfl rfl (one_of HT_.out (by kernel_rfl)) (by decide) (fun K hK => ?_)
    refine goes_ Tryz.func22 (by kernel_rfl) rfl #[.slice A0 l0.length c0,.int .i64 ag] (by rfl) rfl rfl (by (try simp only [z4_,z5_,z6_]);first|done|rfl|(simp only [z7_,z8_];rfl)) ?_
    with_reducible refine (history_Ancestors.calls k _ _ l0 ag ao _ ?ab ?ac A8.out).mono ?_
    (case ab => exact cM (Kd.C_below aw.out HB.out))
    (case ac => exact ax.out)
    rintro e bo ⟨aQ,rfl,al,hb⟩
    refine ⟨_,rfl,?_⟩
    have am := aK (Kd.R_lower al (below_size (bG HB.out)))
    have an := aK (blk_below (kM aa.out) hb)
    have av := aK (below_step (bG HB.out) hb)
    clear aa
    clear HB
    have ad := am
    have aa := an
    have HB := av
    clear am an av
    (try clear hb)
    (try clear al)
    obtain ⟨aR,aS,aG⟩ := Kd.R_slice ad.out
    (first|subst aG|(injection aG with f1_ f2_ f3_;have ay := f1_.symm;have az := f3_.symm;clear f1_ f2_ f3_;subst ay;subst az))
    refine hK.out _ _ ⟨(blk_cell aa.out 0).trans rfl,(blk_cell aa.out 1).trans rfl⟩ (fun hHeld => ?_)
    clear hK K
    refine norm_ (a' := ?_) ?_ ?_
    rotate_left
    ·show Act.put _ (some 17) _ = _
     simp only [Act.put,z1_,z2_,z3_,i64_w,i32_w]
     rfl
    refine one_ (i := 5) (N := some 19) (bA 14 1535) rfl rfl (one_of HT_.out (by kernel_rfl)) (by decide) (fun K hK => ?_)
    refine goes_ Tryz.func33 (by kernel_rfl) rfl #[.slice aR ao.length aS,.int .i64 a2] (by rfl) rfl rfl (by (try simp only [z4_,z5_,z6_]);first|done|rfl|(simp only [z7_,z8_];rfl)) ?_
    with_reducible refine (r05_In.calls k _ _ ao a2 aA _ ?ab ?ac A9.out).mono ?_
    (case ab => exact cM (Kd.R_reads' ad.out).2.2)
    (case ac => exact (Kd.R_reads' ad.out).2.1)
    rintro e w' ⟨rfl,⟨nd,rfl⟩⟩
    refine ⟨_,rfl,?_⟩
    refine hK.out _ _ ⟨(blk_cell aa.out 0).trans rfl,(blk_cell aa.out 1).trans rfl⟩ (fun hHeld => ?_)
    clear hK K
    refine norm_ (a' := ?_) ?_ ?_
    rotate_left
    ·show Act.put _ (some 19) _ = _
     simp only [Act.put,z1_,z2_,z3_,i64_w,i32_w]
     rfl
    refine one_ (i := 9) (N := some 23) (bA 14 2047) rfl rfl (one_of HT_.out (by kernel_rfl)) (by decide) (fun K hK => ?_)
    refine goes_ Tryz.func22 (by kernel_rfl) rfl #[.slice A0 l0.length c0,.int .i64 ah] (by rfl) rfl rfl (by (try simp only [z4_,z5_,z6_]);first|done|rfl|(simp only [z7_,z8_];rfl)) ?_
    with_reducible refine (history_Ancestors.calls k _ _ l0 ah ap _ ?ab ?ac be.out).mono ?_
    (case ab => exact Kd.C_below aw.out (bG HB.out))
    (case ac => exact ax.out)
    rintro e bp ⟨aT,rfl,al,hb⟩
    refine ⟨_,rfl,?_⟩
    have am := aK (Kd.R_elder' (rM ad.out) (Kd.R_base al) hb)
    have an := aK (Kd.R_lower (Kd.R_new' al (Kd.R_lt (rM ad.out))) (below_size (bG HB.out)))
    have av := aK (blk_below (kM aa.out) hb)
    have aH := aK (below_step (bG HB.out) hb)
    clear ad
    clear aa
    clear HB
    have ad := am
    have af := an
    have aa := av
    have HB := aH
    clear am an av aH
    (try clear hb)
    (try clear al)
    obtain ⟨aU,aV,aI⟩ := Kd.R_slice af.out
    (first|subst aI|(injection aI with f1_ f2_ f3_;have ay := f1_.symm;have az := f3_.symm;clear f1_ f2_ f3_;subst ay;subst az))
    refine hK.out _ _ ⟨(blk_cell aa.out 0).trans rfl,(blk_cell aa.out 1).trans rfl⟩ (fun hHeld => ?_)
    clear hK K
    refine norm_ (a' := ?_) ?_ ?_
    rotate_left
    ·show Act.put _ (some 23) _ = _
     simp only [Act.put,z1_,z2_,z3_,i64_w,i32_w]
     rfl
    refine one_ (i := 11) (N := some 25) (bA 14 4095) rfl rfl (one_of HT_.out (by kernel_rfl)) (by decide) (fun K hK => ?_)
    refine goes_ Tryz.func33 (by kernel_rfl) rfl #[.slice aU ap.length aV,.int .i64 a2] (by rfl) rfl rfl (by (try simp only [z4_,z5_,z6_]);first|done|rfl|(simp only [z7_,z8_];rfl)) ?_
    with_reducible refine (r05_In.calls k _ _ ap a2 true _ ?ab ?ac bf.out).mono ?_
    (case ab => exact cM (Kd.R_reads' af.out).2.2)
    (case ac => exact (Kd.R_reads' af.out).2.1)
    rintro e w' ⟨rfl,⟨nd,rfl⟩⟩
    refine ⟨_,rfl,?_⟩
    refine hK.out _ _ ⟨(blk_cell aa.out 0).trans rfl,(blk_cell aa.out 1).trans rfl⟩ (fun hHeld => ?_)
    clear hK K
    refine norm_ (a' := ?_) ?_ ?_
    rotate_left
    ·show Act.put _ (some 25) _ = _
     simp only [Act.put,z1_,z2_,z3_,i64_w,i32_w]
     rfl
    refine pure_ (i := 12) (N := some 7) (v := ?_) (a' := ?_) (bA 14 8191) rfl rfl (any_of HT_.out (by kernel_rfl)) (fun _ _ _ h => h) (Or.inl ⟨by rfl,?_⟩) ?_ ?_
    rotate_left
    ·intro w'
     go_simp
     with_reducible rfl
    rotate_left
    ·simp only [Act.put,z1_,z2_,z3_,i64_w,i32_w]
     rfl
    refine pure_ (i := 13) (N := some 8) (v := ?_) (a' := ?_) (bA 14 16383) rfl rfl (any_of HT_.out (by kernel_rfl)) (fun _ _ _ h => h) (Or.inl ⟨by rfl,?_⟩) ?_ ?_
    rotate_left
    ·intro w'
     go_simp
     with_reducible rfl
    rotate_left
    ·simp only [Act.put,z1_,z2_,z3_,i64_w,i32_w]
     rfl
    refine done_ (done_of HT_.out (by kernel_rfl)) ?_
    obtain ⟨_,_,_,_⟩ := bk2_ aa.out
    try go_wp2_with (first|((with_reducible refine gate_callee (f := 26) rfl ?_);refine gL 31 Tryz.func26 #[.slice A0 l0.length c0,.int .i64 ag,.int .i64 ah] ?_;(with_reducible refine (history_Between.calls k _ _ l0 ag ah aq _ ?ab ?ac bg.out).mono ?_);(case ab => exact Kd.C_below aw.out (bG HB.out));(case ac => exact ax.out);rintro e bq ⟨aW,rfl,al,hb⟩;refine ⟨_,rfl,?_⟩;have ak := aK (Kd.R_lower (Kd.R_new' (Kd.R_new' al (Kd.R_lt (rM ad.out))) (Kd.R_lt (rM af.out))) (below_size (bG HB.out)));replace ad := aK (Kd.R_elder' (rM ad.out) (Kd.R_base al) hb);replace af := aK (Kd.R_elder' (rM af.out) (Kd.R_base al) hb);replace aa := aK (blk_below (kM aa.out) hb);replace HB := aK (below_step (bG HB.out) hb);(try clear hb);(try clear al);obtain ⟨aX,aY,aZ⟩ := Kd.R_slice ak.out;subst aZ)|((with_reducible refine gate_callee (f := 33) rfl ?_);refine gL 33 Tryz.func33 #[.slice aX aq.length aY,.int .i64 a2] ?_;(with_reducible refine (r05_In.calls k _ _ aq a2 aE _ ?ab ?ac bh.out).mono ?_);(case ab => exact cM (Kd.R_reads' ak.out).2.2);(case ac => exact (Kd.R_reads' ak.out).2.1);rintro e w' ⟨rfl,⟨nd,rfl⟩⟩;refine ⟨_,rfl,?_⟩))
    go_ret
    exact ⟨by first|rfl|(simp [errW_none,errW_some] <;> rfl)|(simp [*,errW_none,errW_some] <;> rfl),bG HB.out⟩
   ·replace aM := Bool.eq_false_iff.mpr aM
    subst aM
    rw [if_neg (show ¬ (false = true) by decide)] at H
    obtain rfl := Option.some.inj H
    go_enter Tryz.func6,Tryz.ntmps6
    try go_wp2_with (first|((with_reducible refine gate_dst (N := 4) rfl ?_);refine box_event ?hg (N := 4) ?hd (cs := #[.int .i64 ag,.int .i64 ah]) (t := 46) ?hr ?_;(case hd => rfl);(case hg => rfl);(case hr => first|(go_simp;done)|(go_simp;rfl));intro ae hg br hbox hb;have aa := aK (hbox);have ai := aK ((by rw [hg];exact (below_size (bM HB.out)) : w.heap.size ≤ ae));have ar := Ge.mk ai.out;have aj := aK ((by rw [hg];exact (below_size (bM HB.out)) : w.heap.size ≤ ae));have au := Ge.mk aj.out;replace HB := aK (below_step (bM HB.out) hb);clear hb hbox hg)|((with_reducible refine gate_callee (f := 10) rfl ?_);refine gL 9 Tryz.func10 #[] ?_;(with_reducible refine (l26_alive.calls k  true _ A4.out).mono ?_);rintro e bs ⟨rfl,hb⟩;refine ⟨_,rfl,?_⟩;replace aa := aK (blk_below (kM aa.out) hb);replace HB := aK (below_step (bG HB.out) hb);(try clear hb))|((with_reducible refine gate_callee (f := 17) rfl ?_);refine gL 12 Tryz.func17 #[.slice A0 l0.length c0] ?_;(with_reducible refine (l26_right.calls k _ _ l0 true _ ?ab ?ac A6.out).mono ?_);(case ab => exact cM (Kd.C_below aw.out HB.out));(case ac => exact ax.out);rintro e bk ⟨rfl,hb⟩;refine ⟨_,rfl,?_⟩;replace aa := aK (blk_below (kM aa.out) hb);replace HB := aK (below_step (bG HB.out) hb);(try clear hb)))
    have am := aK (blk_drew aa.out)
    have an := aK (below_drew1 HB.out)
    clear aa
    clear HB
    have aa := am
    have HB := an
    clear am an
    refine start_ (n := 14) (S := fun w' => w'.cell? ⟨ae,0,none⟩ = some (.int .i64 ag) ∧ w'.cell? ⟨ae,1,none⟩ = some (.int .i64 ah)) (ds := []) (bA 14 0) (by kernel_rfl) rfl rfl ⟨(blk_cell aa.out 0).trans rfl,(blk_cell aa.out 1).trans rfl⟩ (fun hHeld => ?_);refine with_tabW l26_HistoryBetween.tab5 l26_HistoryBetween.bits5 (fun HT_ HW_ => ?_)
    generalize bk.drew = w29 at aa HB hHeld ⊢
    refine pure_ (i := 0) (N := some 14) (v := ?_) (a' := ?_) (bA 14 1) rfl rfl (any_of HT_.out (by kernel_rfl)) (fun _ _ _ h => h) (Or.inl ⟨by rfl,?_⟩) ?_ ?_
    rotate_left
    ·intro w'
     go_simp
     with_reducible rfl
    rotate_left
    ·simp only [Act.put,z1_,z2_,z3_,i64_w,i32_w]
     rfl
    refine pure_ (i := 1) (N := some 15) (v := ?_) (a' := ?_) (bA 14 3) rfl rfl (any_of HT_.out (by kernel_rfl)) (fun _ _ _ h => h) (Or.inl ⟨by rfl,?_⟩) ?_ ?_
    rotate_left
    ·intro w'
     go_simp
     with_reducible rfl
    rotate_left
    ·simp only [Act.put,z1_,z2_,z3_,i64_w,i32_w]
     rfl
    refine pure_ (i := 4) (N := some 18) (v := ?_) (a' := ?_) (bA 14 19) rfl rfl (any_of HT_.out (by kernel_rfl)) (fun _ _ _ h => h) (Or.inl ⟨by rfl,?_⟩) ?_ ?_
    rotate_left
    ·intro w'
     go_simp
     with_reducible rfl
    rotate_left
    ·simp only [Act.put,z1_,z2_,z3_,i64_w,i32_w]
     rfl
    refine pure_ (i := 6) (N := some 20) (v := ?_) (a' := ?_) (bA 14 83) rfl rfl (any_of HT_.out (by kernel_rfl)) (fun _ _ _ h => h) (Or.inl ⟨by rfl,?_⟩) ?_ ?_
    rotate_left
    ·intro w'
     go_simp
     with_reducible rfl
    rotate_left
    ·simp only [Act.put,z1_,z2_,z3_,i64_w,i32_w]
     rfl
    refine pure_ (i := 7) (N := some 21) (v := ?_) (a' := ?_) (bA 14 211) rfl rfl (any_of HT_.out (by kernel_rfl)) (fun _ _ _ h => h) (Or.inl ⟨by rfl,?_⟩) ?_ ?_
    rotate_left
    ·intro w'
     go_simp
     with_reducible rfl
    rotate_left
    ·simp only [Act.put,z1_,z2_,z3_,i64_w,i32_w]
     rfl
    refine pure_ (i := 10) (N := some 24) (v := ?_) (a' := ?_) (bA 14 1235) rfl rfl (any_of HT_.out (by kernel_rfl)) (fun _ _ _ h => h) (Or.inl ⟨by rfl,?_⟩) ?_ ?_
    rotate_left
    ·intro w'
     go_simp
     with_reducible rfl
    rotate_left
    ·simp only [Act.put,z1_,z2_,z3_,i64_w,i32_w]
     rfl
    refine take_ (i := 2) (N := some 16) (v := ?_) (a' := ?_) (bA 14 1239) rfl rfl (take_ofW HT_.out HW_.out (by kernel_rfl)) (fun _ _ _ h => h) (Or.inl ⟨by rfl,?_⟩) hHeld ?_ ?_
    rotate_left
    ·rintro w' ⟨s0,s1⟩
     go_simp
     with_reducible rfl
    rotate_left
    ·simp only [Act.put,z1_,z2_,z3_,i64_w,i32_w]
     rfl
    refine take_ (i := 8) (N := some 22) (v := ?_) (a' := ?_) (bA 14 1495) rfl rfl (take_ofW HT_.out HW_.out (by kernel_rfl)) (fun _ _ _ h => h) (Or.inl ⟨by rfl,?_⟩) hHeld ?_ ?_
    rotate_left
    ·rintro w' ⟨s0,s1⟩
     go_simp
     with_reducible rfl
    rotate_left
    ·simp only [Act.put,z1_,z2_,z3_,i64_w,i32_w]
     rfl
    refine one_ (i := 3) (N := some 17) (bA 14 1503) rfl rfl (one_of HT_.out (by kernel_rfl)) (by decide) (fun K hK => ?_)
    refine goes_ Tryz.func22 (by kernel_rfl) rfl #[.slice A0 l0.length c0,.int .i64 ag] (by rfl) rfl rfl (by (try simp only [z4_,z5_,z6_]);first|done|rfl|(simp only [z7_,z8_];rfl)) ?_
    with_reducible refine (history_Ancestors.calls k _ _ l0 ag ao _ ?ab ?ac A8.out).mono ?_
    (case ab => exact cM (Kd.C_below aw.out HB.out))
    (case ac => exact ax.out)
    rintro e bu ⟨aQ,rfl,al,hb⟩
    refine ⟨_,rfl,?_⟩
    have am := aK (Kd.R_lower al (below_size (bG HB.out)))
    have an := aK (blk_below (kM aa.out) hb)
    have av := aK (below_step (bG HB.out) hb)
    clear aa
    clear HB
    have ad := am
    have aa := an
    have HB := av
    clear am an av
    (try clear hb)
    (try clear al)
    obtain ⟨a0,a1,aJ⟩ := Kd.R_slice ad.out
    (first|subst aJ|(injection aJ with f1_ f2_ f3_;have ay := f1_.symm;have az := f3_.symm;clear f1_ f2_ f3_;subst ay;subst az))
    refine hK.out _ _ ⟨(blk_cell aa.out 0).trans rfl,(blk_cell aa.out 1).trans rfl⟩ (fun hHeld => ?_)
    clear hK K
    refine norm_ (a' := ?_) ?_ ?_
    rotate_left
    ·show Act.put _ (some 17) _ = _
     simp only [Act.put,z1_,z2_,z3_,i64_w,i32_w]
     rfl
    refine one_ (i := 5) (N := some 19) (bA 14 1535) rfl rfl (one_of HT_.out (by kernel_rfl)) (by decide) (fun K hK => ?_)
    refine goes_ Tryz.func33 (by kernel_rfl) rfl #[.slice a0 ao.length a1,.int .i64 a2] (by rfl) rfl rfl (by (try simp only [z4_,z5_,z6_]);first|done|rfl|(simp only [z7_,z8_];rfl)) ?_
    with_reducible refine (r05_In.calls k _ _ ao a2 aA _ ?ab ?ac A9.out).mono ?_
    (case ab => exact cM (Kd.R_reads' ad.out).2.2)
    (case ac => exact (Kd.R_reads' ad.out).2.1)
    rintro e w' ⟨rfl,⟨nd,rfl⟩⟩
    refine ⟨_,rfl,?_⟩
    refine hK.out _ _ ⟨(blk_cell aa.out 0).trans rfl,(blk_cell aa.out 1).trans rfl⟩ (fun hHeld => ?_)
    clear hK K
    refine norm_ (a' := ?_) ?_ ?_
    rotate_left
    ·show Act.put _ (some 19) _ = _
     simp only [Act.put,z1_,z2_,z3_,i64_w,i32_w]
     rfl
    refine one_ (i := 9) (N := some 23) (bA 14 2047) rfl rfl (one_of HT_.out (by kernel_rfl)) (by decide) (fun K hK => ?_)
    refine goes_ Tryz.func22 (by kernel_rfl) rfl #[.slice A0 l0.length c0,.int .i64 ah] (by rfl) rfl rfl (by (try simp only [z4_,z5_,z6_]);first|done|rfl|(simp only [z7_,z8_];rfl)) ?_
    with_reducible refine (history_Ancestors.calls k _ _ l0 ah ap _ ?ab ?ac be.out).mono ?_
    (case ab => exact Kd.C_below aw.out (bG HB.out))
    (case ac => exact ax.out)
    rintro e bv ⟨aT,rfl,al,hb⟩
    refine ⟨_,rfl,?_⟩
    have am := aK (Kd.R_elder' (rM ad.out) (Kd.R_base al) hb)
    have an := aK (Kd.R_lower (Kd.R_new' al (Kd.R_lt (rM ad.out))) (below_size (bG HB.out)))
    have av := aK (blk_below (kM aa.out) hb)
    have aH := aK (below_step (bG HB.out) hb)
    clear ad
    clear aa
    clear HB
    have ad := am
    have af := an
    have aa := av
    have HB := aH
    clear am an av aH
    (try clear hb)
    (try clear al)
    obtain ⟨a3,a4,aL⟩ := Kd.R_slice af.out
    (first|subst aL|(injection aL with f1_ f2_ f3_;have ay := f1_.symm;have az := f3_.symm;clear f1_ f2_ f3_;subst ay;subst az))
    refine hK.out _ _ ⟨(blk_cell aa.out 0).trans rfl,(blk_cell aa.out 1).trans rfl⟩ (fun hHeld => ?_)
    clear hK K
    refine norm_ (a' := ?_) ?_ ?_
    rotate_left
    ·show Act.put _ (some 23) _ = _
     simp only [Act.put,z1_,z2_,z3_,i64_w,i32_w]
     rfl
    refine one_ (i := 11) (N := some 25) (bA 14 4095) rfl rfl (one_of HT_.out (by kernel_rfl)) (by decide) (fun K hK => ?_)
    refine goes_ Tryz.func33 (by kernel_rfl) rfl #[.slice a3 ap.length a4,.int .i64 a2] (by rfl) rfl rfl (by (try simp only [z4_,z5_,z6_]);first|done|rfl|(simp only [z7_,z8_];rfl)) ?_
    with_reducible refine (r05_In.calls k _ _ ap a2 false _ ?ab ?ac bf.out).mono ?_
    (case ab => exact cM (Kd.R_reads' af.out).2.2)
    (case ac => exact (Kd.R_reads' af.out).2.1)
    rintro e w' ⟨rfl,⟨nd,rfl⟩⟩
    refine ⟨_,rfl,?_⟩
    refine hK.out _ _ ⟨(blk_cell aa.out 0).trans rfl,(blk_cell aa.out 1).trans rfl⟩ (fun hHeld => ?_)
    clear hK K
    refine norm_ (a' := ?_) ?_ ?_
    rotate_left
    ·show Act.put _ (some 25) _ = _
     simp only [Act.put,z1_,z2_,z3_,i64_w,i32_w]
     rfl
    refine pure_ (i := 12) (N := some 7) (v := ?_) (a' := ?_) (bA 14 8191) rfl rfl (any_of HT_.out (by kernel_rfl)) (fun _ _ _ h => h) (Or.inl ⟨by rfl,?_⟩) ?_ ?_
    rotate_left
    ·intro w'
     go_simp
     with_reducible rfl
    rotate_left
    ·simp only [Act.put,z1_,z2_,z3_,i64_w,i32_w]
     rfl
    refine pure_ (i := 13) (N := some 8) (v := ?_) (a' := ?_) (bA 14 16383) rfl rfl (any_of HT_.out (by kernel_rfl)) (fun _ _ _ h => h) (Or.inl ⟨by rfl,?_⟩) ?_ ?_
    rotate_left
    ·intro w'
     go_simp
     with_reducible rfl
    rotate_left
    ·simp only [Act.put,z1_,z2_,z3_,i64_w,i32_w]
     rfl
    refine done_ (done_of HT_.out (by kernel_rfl)) ?_
    obtain ⟨_,_,_,_⟩ := bk2_ aa.out
    try go_wp2_with (first|((with_reducible refine gate_callee (f := 26) rfl ?_);refine gL 31 Tryz.func26 #[.slice A0 l0.length c0,.int .i64 ag,.int .i64 ah] ?_;(with_reducible refine (history_Between.calls k _ _ l0 ag ah aq _ ?ab ?ac bg.out).mono ?_);(case ab => exact Kd.C_below aw.out (bG HB.out));(case ac => exact ax.out);rintro e bx ⟨aW,rfl,al,hb⟩;refine ⟨_,rfl,?_⟩;have ak := aK (Kd.R_lower (Kd.R_new' (Kd.R_new' al (Kd.R_lt (rM ad.out))) (Kd.R_lt (rM af.out))) (below_size (bG HB.out)));replace HB := aK (below_step (bG HB.out) hb);(try clear hb);(try clear al);obtain ⟨a5,a6,a7⟩ := Kd.R_slice ak.out;subst a7)|((with_reducible refine gate_callee (f := 33) rfl ?_);refine gL 33 Tryz.func33 #[.slice a5 aq.length a6,.int .i64 a2] ?_;(with_reducible refine (r05_In.calls k _ _ aq a2 aE _ ?ab ?ac bh.out).mono ?_);(case ab => exact cM (Kd.R_reads' ak.out).2.2);(case ac => exact (Kd.R_reads' ak.out).2.1);rintro e w' ⟨rfl,⟨nd,rfl⟩⟩;refine ⟨_,rfl,?_⟩))
    go_ret
    exact ⟨by first|rfl|(simp [errW_none,errW_some] <;> rfl)|(simp [*,errW_none,errW_some] <;> rfl),bG HB.out⟩
  ·replace c7 := Bool.eq_false_iff.mpr c7
   subst c7
   rw [if_neg (show ¬ (false = true) by decide)] at H
   obtain rfl := Option.some.inj H
   go_enter Tryz.func6,Tryz.ntmps6
   go_wp2_with (first|((with_reducible refine gate_dst (N := 4) rfl ?_);refine box_event ?hg (N := 4) ?hd (cs := #[.int .i64 ag,.int .i64 ah]) (t := 46) ?hr ?_;(case hd => rfl);(case hg => rfl);(case hr => first|(go_simp;done)|(go_simp;rfl));intro ae hg bz hbox hb;have ai := aK ((by rw [hg];exact (below_size (bM HB.out)) : w.heap.size ≤ ae));have ar := Ge.mk ai.out;have aj := aK ((by rw [hg];exact (below_size (bM HB.out)) : w.heap.size ≤ ae));have au := Ge.mk aj.out;replace HB := aK (below_step (bM HB.out) hb);clear hb hbox hg)|((with_reducible refine gate_callee (f := 10) rfl ?_);refine gL 9 Tryz.func10 #[] ?_;(with_reducible refine (l26_alive.calls k  true _ A4.out).mono ?_);rintro e bB ⟨rfl,hb⟩;refine ⟨_,rfl,?_⟩;replace HB := aK (below_step (bG HB.out) hb);(try clear hb))|((with_reducible refine gate_callee (f := 17) rfl ?_);refine gL 12 Tryz.func17 #[.slice A0 l0.length c0] ?_;(with_reducible refine (l26_right.calls k _ _ l0 false _ ?ab ?ac A6.out).mono ?_);(case ab => exact cM (Kd.C_below aw.out HB.out));(case ac => exact ax.out);rintro e bC ⟨rfl,hb⟩;refine ⟨_,rfl,?_⟩;replace HB := aK (below_step (bG HB.out) hb);(try clear hb)))
   go_ret
   exact ⟨by first|rfl|(simp [errW_none,errW_some] <;> rfl)|(simp [*,errW_none,errW_some] <;> rfl),bG HB.out⟩
 ·replace c5 := Bool.eq_false_iff.mpr c5
  subst c5
  rw [if_neg (show ¬ (false = true) by decide)] at H
  obtain rfl := Option.some.inj H
  go_enter Tryz.func6,Tryz.ntmps6
  go_wp2_with (first|((with_reducible refine gate_dst (N := 4) rfl ?_);refine box_event ?hg (N := 4) ?hd (cs := #[.int .i64 ag,.int .i64 ah]) (t := 46) ?hr ?_;(case hd => rfl);(case hg => rfl);(case hr => first|(go_simp;done)|(go_simp;rfl));intro ae hg bD hbox hb;have ai := aK ((by rw [hg];exact (below_size (bM HB.out)) : w.heap.size ≤ ae));have ar := Ge.mk ai.out;have aj := aK ((by rw [hg];exact (below_size (bM HB.out)) : w.heap.size ≤ ae));have au := Ge.mk aj.out;replace HB := aK (below_step (bM HB.out) hb);clear hb hbox hg)|((with_reducible refine gate_callee (f := 10) rfl ?_);refine gL 9 Tryz.func10 #[] ?_;(with_reducible refine (l26_alive.calls k  false _ A4.out).mono ?_);rintro e bE ⟨rfl,hb⟩;refine ⟨_,rfl,?_⟩;replace HB := aK (below_step (bG HB.out) hb);(try clear hb)))
  go_ret
  exact ⟨by first|rfl|(simp [errW_none,errW_some] <;> rfl)|(simp [*,errW_none,errW_some] <;> rfl),bG HB.out⟩
end Go.Proofs.YtgadbpljlpclnaaGreatDoor.H
