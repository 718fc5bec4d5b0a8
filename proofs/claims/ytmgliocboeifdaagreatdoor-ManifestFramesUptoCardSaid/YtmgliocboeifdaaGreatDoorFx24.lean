import Derived.Test.YtmgliocboeifdaaGreatDoorFx0
import Derived.Test.YtmgliocboeifdaaGreatDoorFx12
import Derived.Test.YtmgliocboeifdaaGreatDoorFx14
import Derived.Test.YtmgliocboeifdaaGreatDoorFx15
import Derived.Test.YtmgliocboeifdaaGreatDoorFx21
import Derived.Test.YtmgliocboeifdaaGreatDoorFx22
import Derived.Test.YtmgliocboeifdaaGreatDoorFx23
namespace Go.Proofs.YtmgliocboeifdaaGreatDoor.F
open Go.RowKit Go.Proofs.YtmgliocboeifdaaGreatDoorW.PrintWords Go.Proofs.YtmgliocboeifdaaGreatDoorW.PrintLast Go.Proofs.YtmgliocboeifdaaGreatDoorW.PrintMore
attribute [local go_sem] max2_int min2_int max_two min_two max_three min_three max_four min_four
set_option linter.unusedVariables false
set_option linter.unusedSimpArgs false
def l33_ManifestFrames.f (k : Nat) (l0 : List (S30)) (l1 : List Int) : Option (Bool) := (l33_alive.f k).bind fun ac => (if ac = true then ((l33_small.f k l0).bind fun ad => (if ad = true then ((manifest_Recover.f k l1).bind fun aa => ((r33_Recover.f k l1).bind fun ab => ((manifest_Write.f k l0).bind fun ae => ((r33_Write.f k l0).bind fun af => (if (strOfNums ae).toList = (strOfNums af).toList then (if aa.2 = ab.2 then ((r33_SameAll.f k aa.1 ab.1).bind fun ag => (some ag)) else (some false)) else (some false)))))) else (some true))) else (some false))
theorem l33_ManifestFrames.mono : ∀ a0 a1 k, LeO (l33_ManifestFrames.f k a0 a1) (l33_ManifestFrames.f (k + 1) a0 a1) := by
 intro a0 a1 k
 unfold l33_ManifestFrames.f
 repeat' (with_reducible first|exact l33_alive.mono _|exact l33_small.mono _ _|exact r33_Recover.mono _ _|exact r33_SameAll.mono _ _ _|exact r33_Write.mono _ _|exact manifest_Recover.mono _ _|exact manifest_Write.mono _ _|exact LeO.refl _|exact LeO.none _|refine LeO.ite ?_ ?_|refine LeO.bind ?_ (fun _ => ?_))
def l33_ManifestFrames.T7 : Bool × List (List Nat × List Nat) := (true, [([], []), ([0], [0]), ([1], [1]), ([], []), ([3, 1], [3]), ([4], [4]), ([2, 5], [2, 5]), ([6, 4], [6]), ([7], [7]), ([7], [7]), ([8, 9, 7], [7, 8, 9]), ([7, 10], [7, 10]), ([11, 7], [11]), ([12], [12]), ([12], [12]), ([13, 14, 12, 12], [12, 13, 14]), ([12, 15], [12, 15]), ([16, 15, 0, 1, 2, 3, 4, 5, 6, 7, 8, 9, 10, 11, 12, 13, 14, 15, 16], [16])])
def l33_ManifestFrames.B7 : List Nat := [0, 1, 3, 0, 11, 27, 63, 127, 255, 255, 1023, 2047, 4095, 8191, 8191, 32767, 65535, 131071]
theorem l33_ManifestFrames.tab7 : rtab .any (opsOf Tryz.f5 7) = l33_ManifestFrames.T7 := by kernel_rfl
theorem l33_ManifestFrames.bits7 : waitsOk l33_ManifestFrames.T7.2 l33_ManifestFrames.B7 = true := by kernel_rfl
set_option maxHeartbeats 4000000 in
set_option maxRecDepth 100000 in
theorem l33_ManifestFrames.calls (k : Nat) (A0 : Option Addr) (c0 : Nat) (l0 : List (S30)) (A1 : Option Addr) (c1 : Nat) (l1 : List Int) (r : Bool) (w : World) (bf : Kd.C k30 w A0 l0.length l0) (bg : l0.length ≤ c0) (bh : Kd.C (Kd.int .u8) w A1 l1.length l1) (bi : l1.length ≤ c1) (h : l33_ManifestFrames.f k l0 l1 = some r) :
  Calls Tryz.prog 5 #[.slice A0 l0.length c0,.slice A1 l1.length c1] w fun e w' => e = .returned (.bool r) ∧ Below w.heap.size w w' := by
 have az := aK bf
 have aA := aK bg
 clear bf bg
 have aU := aK bh
 have aV := aK bi
 clear bh bi
 have HB := aK (Below.refl w.heap.size w)
 unfold l33_ManifestFrames.f at h
 have H := h
 clear h
 replace H := Option.bind_eq_some_iff.mp H
 obtain ⟨bb,bj,H⟩ := H
 have A3 := aK bj
 clear bj
 by_cases c4 : bb = true
 ·subst c4
  rw [if_pos rfl] at H
  replace H := Option.bind_eq_some_iff.mp H
  obtain ⟨bc,bk,H⟩ := H
  have A5 := aK bk
  clear bk
  by_cases c6 : bc = true
  ·subst c6
   rw [if_pos rfl] at H
   replace H := Option.bind_eq_some_iff.mp H
   obtain ⟨⟨an,aB⟩,bm,H⟩ := H
   replace H : ((r33_Recover.f k l1).bind fun aM => ((manifest_Write.f k l0).bind fun ao => ((r33_Write.f k l0).bind fun al => (if (strOfNums ao).toList = (strOfNums al).toList then (if aB = aM.2 then ((r33_SameAll.f k an aM.1).bind fun aC => (some aC)) else (some false)) else (some false))))) = some r := H
   have A7 := aK bm
   clear bm
   replace H := Option.bind_eq_some_iff.mp H
   obtain ⟨⟨ap,aD⟩,bn,H⟩ := H
   replace H : ((manifest_Write.f k l0).bind fun ao => ((r33_Write.f k l0).bind fun al => (if (strOfNums ao).toList = (strOfNums al).toList then (if aB = aD then ((r33_SameAll.f k an ap).bind fun aC => (some aC)) else (some false)) else (some false)))) = some r := H
   have A8 := aK bn
   clear bn
   replace H := Option.bind_eq_some_iff.mp H
   obtain ⟨ao,bo,H⟩ := H
   have A9 := aK bo
   clear bo
   replace H := Option.bind_eq_some_iff.mp H
   obtain ⟨al,aX,H⟩ := H
   have aW := aK aX
   clear aX
   by_cases aS : (strOfNums ao).toList = (strOfNums al).toList
   ·rw [if_pos aS] at H
    have aY := beq_iff_eq.mpr aS
    have aZ := bne_eq_false_iff_eq.mpr aS
    clear aS
    by_cases aT : aB = aD
    ·rw [if_pos aT] at H
     have a0 := beq_iff_eq.mpr aT
     have a1 := bne_eq_false_iff_eq.mpr aT
     clear aT
     replace H := Option.bind_eq_some_iff.mp H
     obtain ⟨aC,a2,H⟩ := H
     have bp := aK a2
     clear a2
     obtain rfl := Option.some.inj H
     go_enter Tryz.func5,Tryz.ntmps5
     try go_wp2_with (first|((with_reducible refine gate_callee (f := 6) rfl ?_);refine gL 9 Tryz.func6 #[] ?_;(with_reducible refine (l33_alive.calls k  true _ A3.out).mono ?_);rintro e bu ⟨rfl,hb⟩;refine ⟨_,rfl,?_⟩;replace HB := aK (below_step (bM HB.out) hb);(try clear hb);(try clear hk))|((with_reducible refine gate_callee (f := 7) rfl ?_);refine gL 12 Tryz.func7 #[.slice A0 l0.length c0] ?_;(with_reducible refine (l33_small.calls k _ _ l0 true _ ?ad ?ae A5.out).mono ?_);(case ad => exact cM (Kd.C_below az.out HB.out));(case ae => exact aA.out);rintro e w' ⟨rfl,⟨nd,rfl⟩⟩;refine ⟨_,rfl,?_⟩)|((with_reducible refine gate_callee (f := 15) rfl ?_);refine gL 16 Tryz.func15 #[.slice A1 l1.length c1] ?_;(with_reducible refine (manifest_Recover.calls k _ _ l1 an aB _ ?ad ?ae A7.out).mono ?_);(case ad => exact Kd.C_below aU.out (bM HB.out));(case ae => exact aV.out);rintro e bv ⟨au,rfl,ag,hb⟩;refine ⟨_,rfl,?_⟩;have aa := aK (Kd.S_lower ag (below_size (bM HB.out)));replace HB := aK (below_step (bM HB.out) hb);(try clear hb);(try clear hk);(try clear ag))|((with_reducible refine gate_callee (f := 16) rfl ?_);refine gL 21 Tryz.func16 #[.slice A1 l1.length c1] ?_;(with_reducible refine (r33_Recover.calls k _ _ l1 ap aD _ ?ad ?ae A8.out).mono ?_);(case ad => exact cM (Kd.C_below aU.out HB.out));(case ae => exact aV.out);rintro e bq ⟨av,rfl,ag,hb⟩;refine ⟨_,rfl,?_⟩;have ab := aK (Kd.S_lower (Kd.S_new' ag (Kd.S_lt (by (with_reducible repeat (first|apply Kd.S_alloc|apply Kd.S_drewN|apply Kd.S_drew));exact aa.out))) (below_size (bM HB.out)));replace aa := aK (Kd.S_elder' (by (with_reducible repeat (first|apply Kd.S_alloc|apply Kd.S_drewN|apply Kd.S_drew));exact aa.out) (Kd.S_base ag) hb);replace HB := aK (below_step (bM HB.out) hb);(try clear hb);(try clear hk);(try clear ag);obtain ⟨aE,aF,bd⟩ := Kd.S_slice aa.out;subst bd;obtain ⟨aG,aH,be⟩ := Kd.S_slice ab.out;subst be))
     have ah := aK (Kd.S_drew aa.out)
     have ai := aK (Kd.S_drew ab.out)
     have aj := aK (below_drew1 HB.out)
     clear aa
     clear ab
     clear HB
     have aa := ah
     have ab := ai
     have HB := aj
     clear ah ai aj
     refine start_ (n := 18) (S := fun w' => True) (ds := []) (bA 18 0) (by kernel_rfl) rfl rfl trivial (fun hHeld => ?_);refine with_tabW l33_ManifestFrames.tab7 l33_ManifestFrames.bits7 (fun HT_ HW_ => ?_)
     generalize bq.drew = w19 at aa ab HB hHeld ⊢
     refine pure_ (i := 0) (N := some 24) (v := ?_) (a' := ?_) (bA 18 1) rfl rfl (any_of HT_.out (by kernel_rfl)) (fun _ _ _ h => h) (Or.inl ⟨by rfl,?_⟩) ?_ ?_
     rotate_left
     ·intro w'
      go_simp
      with_reducible rfl
     rotate_left
     ·simp only [Act.put,z1_,z2_,z3_,i64_w,i32_w]
      rfl
     refine pure_ (i := 3) (N := some 27) (v := ?_) (a' := ?_) (bA 18 9) rfl rfl (any_of HT_.out (by kernel_rfl)) (fun _ _ _ h => h) (Or.inl ⟨by rfl,?_⟩) ?_ ?_
     rotate_left
     ·intro w'
      go_simp
      with_reducible rfl
     rotate_left
     ·simp only [Act.put,z1_,z2_,z3_,i64_w,i32_w]
      rfl
     refine one_ (i := 1) (N := some 25) (bA 18 11) rfl rfl (one_of HT_.out (by kernel_rfl)) (by decide) (fun K hK => ?_)
     refine goes_ Tryz.func17 (by kernel_rfl) rfl #[.slice A0 l0.length c0] (by rfl) rfl rfl (by (try simp only [z4_,z5_,z6_]);first|done|rfl|(simp only [z7_,z8_];rfl)) ?_
     with_reducible refine (manifest_Write.calls k _ _ l0 ao _ ?ad ?ae A9.out).mono ?_
     (case ad => exact cM (Kd.C_below az.out HB.out))
     (case ae => exact aA.out)
     rintro e bx ⟨aq,rfl,ag,hb⟩
     refine ⟨_,rfl,?_⟩
     have ah := aK (Kd.S_below (by (with_reducible repeat (first|apply Kd.S_alloc|apply Kd.S_drewN|apply Kd.S_drew));exact aa.out) hb)
     have ai := aK (Kd.S_below (by (with_reducible repeat (first|apply Kd.S_alloc|apply Kd.S_drewN|apply Kd.S_drew));exact ab.out) hb)
     have aj := aK (Kd.R_lower ag (below_size (bM HB.out)))
     have am := aK (below_step (bM HB.out) hb)
     clear aa
     clear ab
     clear HB
     have aa := ah
     have ab := ai
     have ac := aj
     have HB := am
     clear ah ai aj am
     (try clear hb)
     (try clear hk)
     (try clear ag)
     refine hK.out _ _ trivial (fun hHeld => ?_)
     clear hK K
     refine norm_ (a' := ?_) ?_ ?_
     rotate_left
     ·show Act.put _ (some 25) _ = _
      simp only [Act.put,z1_,z2_,z3_,i64_w,i32_w]
      rfl
     refine join_ (σ := Value) 12 (bA 18 63) (fun s_ => [(26,.string (strOfNums ao)),(28,s_),(29,.string (strOfNums al))]) (fun s_ w' => (Kd.S k30 30 w' w.heap.size (fun k_ => some k_ ≠ (.slice aG ap.length aH : Value).ownBlock) (.slice aE an.length aF) an) ∧ (Kd.S k30 30 w' w.heap.size (fun k_ => some k_ ≠ (.slice aE an.length aF : Value).ownBlock) (.slice aG ap.length aH) ap) ∧ (Kd.R (Kd.int .u8) 5 w' w.heap.size (fun k_ => some k_ ≠ (s_ : Value).ownBlock) aq ao) ∧ (Kd.R (Kd.int .u8) 5 w' w.heap.size (fun k_ => some k_ ≠ (aq : Value).ownBlock) s_ al) ∧ (Below w.heap.size w w')) ?_ ?_
     rotate_left
     ·intro hCont
      refine two_ (i := 2) (j := 4) (Ni := some 26) (Nj := some 28) (bA 18 15) (bA 18 27) rfl rfl rfl rfl (two_of HT_.out (by kernel_rfl)) (by decide) (by decide) (fun K hK => ?_) (fun K hK => ?_)
      ·skip
       have a3 := own_string (P := Tryz.prog) Tryz.underlying31 Tryz.underlying5 Tryz.underlying9 (Kd.own_of_R ac.out)
       refine value_ (w1 := ?_) (v := ?_) (by rfl) rfl ?_ ?_
       rotate_left 2
       ·go_simp
        constructor
        ·rfl
        ·rfl
       clear a3
       refine hK.out _ _ trivial (fun hHeld => ?_)
       clear hK K
       refine norm_ (a' := ?_) ?_ ?_
       rotate_left
       ·show Act.put _ (some 26) _ = _
        simp only [Act.put,z1_,z2_,z3_,i64_w,i32_w]
        rfl
       refine one_ (i := 4) (N := some 28) (bA 18 31) rfl rfl (one_of HT_.out (by kernel_rfl)) (by decide) (fun K hK => ?_)
       refine goes_ Tryz.func18 (by kernel_rfl) rfl #[.slice A0 l0.length c0] (by rfl) rfl rfl (by (try simp only [z4_,z5_,z6_]);first|done|rfl|(simp only [z7_,z8_];rfl)) ?_
       with_reducible refine (r33_Write.calls k _ _ l0 al _ ?ad ?ae aW.out).mono ?_
       (case ad => exact cM (Kd.C_below az.out HB.out))
       (case ae => exact aA.out)
       rintro e bz ⟨ak,rfl,ag,hb⟩
       refine ⟨_,rfl,?_⟩
       have ah := aK (Kd.S_below (by (with_reducible repeat (first|apply Kd.S_alloc|apply Kd.S_drewN|apply Kd.S_drew));exact aa.out) hb)
       have ai := aK (Kd.S_below (by (with_reducible repeat (first|apply Kd.S_alloc|apply Kd.S_drewN|apply Kd.S_drew));exact ab.out) hb)
       have aj := aK (Kd.R_elder' (rM ac.out) (Kd.R_base ag) hb)
       have am := aK (Kd.R_lower (Kd.R_new' ag (Kd.R_lt (rM ac.out))) (below_size (bM HB.out)))
       have ar := aK (below_step (bM HB.out) hb)
       clear aa
       clear ab
       clear ac
       clear HB
       have aa := ah
       have ab := ai
       have ac := aj
       have af := am
       have HB := ar
       clear ah ai aj am ar
       (try clear hb)
       (try clear hk)
       (try clear ag)
       refine hK.out _ _ trivial (fun hHeld => ?_)
       clear hK K
       refine norm_ (a' := ?_) ?_ ?_
       rotate_left
       ·show Act.put _ (some 28) _ = _
        simp only [Act.put,z1_,z2_,z3_,i64_w,i32_w]
        rfl
       refine one_ (i := 5) (N := some 29) (bA 18 63) rfl rfl (one_of HT_.out (by kernel_rfl)) (by decide) (fun K hK => ?_)
       have aw := own_string (P := Tryz.prog) Tryz.underlying31 Tryz.underlying5 Tryz.underlying9 (Kd.own_of_R af.out)
       refine value_ (w1 := ?_) (v := ?_) (by rfl) rfl ?_ ?_
       rotate_left 2
       ·go_simp
        constructor
        ·rfl
        ·rfl
       clear aw
       refine hK.out _ _ trivial (fun hHeld => ?_)
       clear hK K
       refine norm_ (a' := ?_) ?_ ?_
       rotate_left
       ·show Act.put _ (some 29) _ = _
        simp only [Act.put,z1_,z2_,z3_,i64_w,i32_w]
        rfl
       exact norm_ (by simp only [putAll,Act.put,z1_,z2_,z3_]) (hCont (ak) _ ⟨(by refine sO ?_;exact Kd.S_mono aa.out (fun _ hk => hk.2)),(by refine sO ?_;exact Kd.S_mono ab.out (fun _ hk => hk.2)),(by refine rO ?_;exact Kd.R_mono ac.out (fun _ hk => hk.2)),(by refine rO ?_;exact Kd.R_mono af.out (fun _ hk => hk.2)),(bM HB.out)⟩)
      ·skip
       refine goes_ Tryz.func18 (by kernel_rfl) rfl #[.slice A0 l0.length c0] (by rfl) rfl rfl (by (try simp only [z4_,z5_,z6_]);first|done|rfl|(simp only [z7_,z8_];rfl)) ?_
       with_reducible refine (r33_Write.calls k _ _ l0 al _ ?ad ?ae aW.out).mono ?_
       (case ad => exact cM (Kd.C_below az.out HB.out))
       (case ae => exact aA.out)
       rintro e bB ⟨ak,rfl,ag,hb⟩
       refine ⟨_,rfl,?_⟩
       have ah := aK (Kd.S_below (by (with_reducible repeat (first|apply Kd.S_alloc|apply Kd.S_drewN|apply Kd.S_drew));exact aa.out) hb)
       have ai := aK (Kd.S_below (by (with_reducible repeat (first|apply Kd.S_alloc|apply Kd.S_drewN|apply Kd.S_drew));exact ab.out) hb)
       have aj := aK (Kd.R_elder' (rM ac.out) (Kd.R_base ag) hb)
       have am := aK (Kd.R_lower (Kd.R_new' ag (Kd.R_lt (rM ac.out))) (below_size (bM HB.out)))
       have ar := aK (below_step (bM HB.out) hb)
       clear aa
       clear ab
       clear ac
       clear HB
       have aa := ah
       have ab := ai
       have ac := aj
       have af := am
       have HB := ar
       clear ah ai aj am ar
       (try clear hb)
       (try clear hk)
       (try clear ag)
       refine hK.out _ _ trivial (fun hHeld => ?_)
       clear hK K
       refine norm_ (a' := ?_) ?_ ?_
       rotate_left
       ·show Act.put _ (some 28) _ = _
        simp only [Act.put,z1_,z2_,z3_,i64_w,i32_w]
        rfl
       refine two_ (i := 2) (j := 5) (Ni := some 26) (Nj := some 29) (bA 18 31) (bA 18 59) rfl rfl rfl rfl (two_of HT_.out (by kernel_rfl)) (by decide) (by decide) (fun K hK => ?_) (fun K hK => ?_)
       ·skip
        have aI := own_string (P := Tryz.prog) Tryz.underlying31 Tryz.underlying5 Tryz.underlying9 (Kd.own_of_R ac.out)
        refine value_ (w1 := ?_) (v := ?_) (by rfl) rfl ?_ ?_
        rotate_left 2
        ·go_simp
         constructor
         ·rfl
         ·rfl
        clear aI
        refine hK.out _ _ trivial (fun hHeld => ?_)
        clear hK K
        refine norm_ (a' := ?_) ?_ ?_
        rotate_left
        ·show Act.put _ (some 26) _ = _
         simp only [Act.put,z1_,z2_,z3_,i64_w,i32_w]
         rfl
        refine one_ (i := 5) (N := some 29) (bA 18 63) rfl rfl (one_of HT_.out (by kernel_rfl)) (by decide) (fun K hK => ?_)
        have aw := own_string (P := Tryz.prog) Tryz.underlying31 Tryz.underlying5 Tryz.underlying9 (Kd.own_of_R af.out)
        refine value_ (w1 := ?_) (v := ?_) (by rfl) rfl ?_ ?_
        rotate_left 2
        ·go_simp
         constructor
         ·rfl
         ·rfl
        clear aw
        refine hK.out _ _ trivial (fun hHeld => ?_)
        clear hK K
        refine norm_ (a' := ?_) ?_ ?_
        rotate_left
        ·show Act.put _ (some 29) _ = _
         simp only [Act.put,z1_,z2_,z3_,i64_w,i32_w]
         rfl
        exact norm_ (by simp only [putAll,Act.put,z1_,z2_,z3_]) (hCont (ak) _ ⟨(by refine sO ?_;exact Kd.S_mono aa.out (fun _ hk => hk.2)),(by refine sO ?_;exact Kd.S_mono ab.out (fun _ hk => hk.2)),(by refine rO ?_;exact Kd.R_mono ac.out (fun _ hk => hk.2)),(by refine rO ?_;exact Kd.R_mono af.out (fun _ hk => hk.2)),(bM HB.out)⟩)
       ·skip
        have aI := own_string (P := Tryz.prog) Tryz.underlying31 Tryz.underlying5 Tryz.underlying9 (Kd.own_of_R af.out)
        refine value_ (w1 := ?_) (v := ?_) (by rfl) rfl ?_ ?_
        rotate_left 2
        ·go_simp
         constructor
         ·rfl
         ·rfl
        clear aI
        refine hK.out _ _ trivial (fun hHeld => ?_)
        clear hK K
        refine norm_ (a' := ?_) ?_ ?_
        rotate_left
        ·show Act.put _ (some 29) _ = _
         simp only [Act.put,z1_,z2_,z3_,i64_w,i32_w]
         rfl
        refine one_ (i := 2) (N := some 26) (bA 18 63) rfl rfl (one_of HT_.out (by kernel_rfl)) (by decide) (fun K hK => ?_)
        have aw := own_string (P := Tryz.prog) Tryz.underlying31 Tryz.underlying5 Tryz.underlying9 (Kd.own_of_R ac.out)
        refine value_ (w1 := ?_) (v := ?_) (by rfl) rfl ?_ ?_
        rotate_left 2
        ·go_simp
         constructor
         ·rfl
         ·rfl
        clear aw
        refine hK.out _ _ trivial (fun hHeld => ?_)
        clear hK K
        refine norm_ (a' := ?_) ?_ ?_
        rotate_left
        ·show Act.put _ (some 26) _ = _
         simp only [Act.put,z1_,z2_,z3_,i64_w,i32_w]
         rfl
        exact norm_ (by simp only [putAll,Act.put,z1_,z2_,z3_]) (hCont (ak) _ ⟨(by refine sO ?_;exact Kd.S_mono aa.out (fun _ hk => hk.2)),(by refine sO ?_;exact Kd.S_mono ab.out (fun _ hk => hk.2)),(by refine rO ?_;exact Kd.R_mono ac.out (fun _ hk => hk.2)),(by refine rO ?_;exact Kd.R_mono af.out (fun _ hk => hk.2)),(bM HB.out)⟩)
     rintro ak a4 ⟨aN,aO,aP,aQ,aR⟩
     have ah : Aside0 (Kd.S k30 30 a4 w.heap.size (fun k_ => some k_ ≠ (.slice aG ap.length aH : Value).ownBlock) (.slice aE an.length aF) an) := ⟨aN⟩
     have ai : Aside0 (Kd.S k30 30 a4 w.heap.size (fun k_ => some k_ ≠ (.slice aE an.length aF : Value).ownBlock) (.slice aG ap.length aH) ap) := ⟨aO⟩
     have aj : Aside0 (Kd.R (Kd.int .u8) 5 a4 w.heap.size (fun k_ => some k_ ≠ (ak : Value).ownBlock) aq ao) := ⟨aP⟩
     have am : Aside0 (Kd.R (Kd.int .u8) 5 a4 w.heap.size (fun k_ => some k_ ≠ (aq : Value).ownBlock) ak al) := ⟨aQ⟩
     have ar : Aside0 (Below w.heap.size w a4) := ⟨aR⟩
     clear aa
     clear ab
     clear HB
     clear aN aO aP aQ aR
     have aa := ah
     have ab := ai
     have ac := aj
     have af := am
     have HB := ar
     clear ah ai aj am ar
     have hHeld := trivial
     refine norm_ (a' := ?_) ?_ ?_
     rotate_left
     ·simp only [putAll,Act.put,z1_,z2_,z3_]
      rfl
     refine pure_ (i := 6) (N := some 30) (v := ?_) (a' := ?_) (bA 18 127) rfl rfl (any_of HT_.out (by kernel_rfl)) (fun _ _ _ h => h) (Or.inl ⟨by rfl,?_⟩) ?_ ?_
     rotate_left
     ·intro w'
      go_simp
      with_reducible rfl
     rotate_left
     ·simp only [Act.put,z1_,z2_,z3_,i64_w,i32_w]
      rfl
     refine pure_ (i := 7) (N := some 31) (v := ?_) (a' := ?_) (bA 18 255) rfl rfl (any_of HT_.out (by kernel_rfl)) (fun _ _ _ h => h) (Or.inl ⟨by rfl,?_⟩) ?_ ?_
     rotate_left
     ·intro w'
      go_simp
      with_reducible rfl
     rotate_left
     ·simp only [Act.put,z1_,z2_,z3_,i64_w,i32_w]
      rfl
     refine pure_ (i := 8) (N := some 32) (v := ?_) (a' := ?_) (bA 18 511) rfl rfl (any_of HT_.out (by kernel_rfl)) (fun _ _ _ h => h) (Or.inl ⟨by rfl,?_⟩) ?_ ?_
     rotate_left
     ·intro w'
      go_simp
      with_reducible rfl
     rotate_left
     ·simp only [Act.put,z1_,z2_,z3_,i64_w,i32_w]
      rfl
     refine pure_ (i := 9) (N := some 33) (v := ?_) (a' := ?_) (bA 18 1023) rfl rfl (any_of HT_.out (by kernel_rfl)) (fun _ _ _ h => h) (Or.inl ⟨by rfl,?_⟩) ?_ ?_
     rotate_left
     ·intro w'
      go_simp
      with_reducible rfl
     rotate_left
     ·simp only [Act.put,z1_,z2_,z3_,i64_w,i32_w]
      rfl
     refine pure_ (i := 10) (N := some 34) (v := ?_) (a' := ?_) (bA 18 2047) rfl rfl (any_of HT_.out (by kernel_rfl)) (fun _ _ _ h => h) (Or.inl ⟨by rfl,?_⟩) ?_ ?_
     rotate_left
     ·intro w'
      go_simp
      with_reducible rfl
     rotate_left
     ·simp only [Act.put,z1_,z2_,z3_,i64_w,i32_w]
      rfl
     refine pure_ (i := 11) (N := some 35) (v := ?_) (a' := ?_) (bA 18 4095) rfl rfl (any_of HT_.out (by kernel_rfl)) (fun _ _ _ h => h) (Or.inl ⟨by rfl,?_⟩) ?_ ?_
     rotate_left
     ·intro w'
      go_simp
      with_reducible rfl
     rotate_left
     ·simp only [Act.put,z1_,z2_,z3_,i64_w,i32_w]
      rfl
     refine pure_ (i := 12) (N := some 36) (v := ?_) (a' := ?_) (bA 18 8191) rfl rfl (any_of HT_.out (by kernel_rfl)) (fun _ _ _ h => h) (Or.inl ⟨by rfl,?_⟩) ?_ ?_
     rotate_left
     ·intro w'
      go_simp
      with_reducible rfl
     rotate_left
     ·simp only [Act.put,z1_,z2_,z3_,i64_w,i32_w]
      rfl
     refine pure_ (i := 13) (N := some 37) (v := ?_) (a' := ?_) (bA 18 16383) rfl rfl (any_of HT_.out (by kernel_rfl)) (fun _ _ _ h => h) (Or.inl ⟨by rfl,?_⟩) ?_ ?_
     rotate_left
     ·intro w'
      go_simp
      with_reducible rfl
     rotate_left
     ·simp only [Act.put,z1_,z2_,z3_,i64_w,i32_w]
      rfl
     refine pure_ (i := 14) (N := some 38) (v := ?_) (a' := ?_) (bA 18 32767) rfl rfl (any_of HT_.out (by kernel_rfl)) (fun _ _ _ h => h) (Or.inl ⟨by rfl,?_⟩) ?_ ?_
     rotate_left
     ·intro w'
      go_simp
      with_reducible rfl
     rotate_left
     ·simp only [Act.put,z1_,z2_,z3_,i64_w,i32_w]
      rfl
     refine one_ (i := 15) (N := some 39) (bA 18 65535) rfl rfl (one_of HT_.out (by kernel_rfl)) (by decide) (fun K hK => ?_)
     refine goes_ Tryz.func19 (by kernel_rfl) rfl #[.slice aE an.length aF,.slice aG ap.length aH] (by rfl) rfl rfl (by (try simp only [z4_,z5_,z6_]);first|done|rfl|(simp only [z7_,z8_];rfl)) ?_
     with_reducible refine (r33_SameAll.calls k _ _ an _ _ ap aC _ ?ad ?ae ?a5 ?a6 bp.out).mono ?_
     (case ad => exact cM (Kd.S_reads' aa.out).2.2)
     (case ae => exact (Kd.S_reads' aa.out).2.1)
     (case a5 => exact cM (Kd.S_reads' ab.out).2.2)
     (case a6 => exact (Kd.S_reads' ab.out).2.1)
     rintro e bC ⟨rfl,hb⟩
     refine ⟨_,rfl,?_⟩
     have ah := aK (Kd.S_below (by (with_reducible repeat (first|apply Kd.S_alloc|apply Kd.S_drewN|apply Kd.S_drew));exact aa.out) hb)
     have ai := aK (Kd.S_below (by (with_reducible repeat (first|apply Kd.S_alloc|apply Kd.S_drewN|apply Kd.S_drew));exact ab.out) hb)
     have aj := aK (Kd.R_below (rM ac.out) hb)
     have am := aK (Kd.R_below (rM af.out) hb)
     have ar := aK (below_step (bM HB.out) hb)
     clear aa
     clear ab
     clear ac
     clear af
     clear HB
     have aa := ah
     have ab := ai
     have ac := aj
     have af := am
     have HB := ar
     clear ah ai aj am ar
     (try clear hb)
     (try clear hk)
     refine hK.out _ _ trivial (fun hHeld => ?_)
     clear hK K
     refine norm_ (a' := ?_) ?_ ?_
     rotate_left
     ·show Act.put _ (some 39) _ = _
      simp only [Act.put,z1_,z2_,z3_,i64_w,i32_w]
      rfl
     refine pure_ (i := 16) (N := some 40) (v := ?_) (a' := ?_) (bA 18 131071) rfl rfl (any_of HT_.out (by kernel_rfl)) (fun _ _ _ h => h) (Or.inl ⟨by rfl,?_⟩) ?_ ?_
     rotate_left
     ·intro w'
      go_simp
      with_reducible rfl
     rotate_left
     ·simp only [Act.put,z1_,z2_,z3_,i64_w,i32_w]
      rfl
     refine pure_ (i := 17) (N := some 4) (v := ?_) (a' := ?_) (bA 18 262143) rfl rfl (any_of HT_.out (by kernel_rfl)) (fun _ _ _ h => h) (Or.inl ⟨by rfl,?_⟩) ?_ ?_
     rotate_left
     ·intro w'
      go_simp
      with_reducible rfl
     rotate_left
     ·simp only [Act.put,z1_,z2_,z3_,i64_w,i32_w]
      rfl
     refine done_ (done_of HT_.out (by kernel_rfl)) ?_
     try go_wp2
     go_ret
     exact ⟨by first|rfl|(simp [errW_none,errW_some] <;> rfl)|(simp [*,errW_none,errW_some] <;> rfl),bM HB.out⟩
    ·rw [if_neg aT] at H
     have a0 := beq_eq_false_iff_ne.mpr aT
     have a1 := bne_iff_ne.mpr aT
     obtain rfl := Option.some.inj H
     go_enter Tryz.func5,Tryz.ntmps5
     try go_wp2_with (first|((with_reducible refine gate_callee (f := 6) rfl ?_);refine gL 9 Tryz.func6 #[] ?_;(with_reducible refine (l33_alive.calls k  true _ A3.out).mono ?_);rintro e bD ⟨rfl,hb⟩;refine ⟨_,rfl,?_⟩;replace HB := aK (below_step (bM HB.out) hb);(try clear hb);(try clear hk))|((with_reducible refine gate_callee (f := 7) rfl ?_);refine gL 12 Tryz.func7 #[.slice A0 l0.length c0] ?_;(with_reducible refine (l33_small.calls k _ _ l0 true _ ?ad ?ae A5.out).mono ?_);(case ad => exact cM (Kd.C_below az.out HB.out));(case ae => exact aA.out);rintro e w' ⟨rfl,⟨nd,rfl⟩⟩;refine ⟨_,rfl,?_⟩)|((with_reducible refine gate_callee (f := 15) rfl ?_);refine gL 16 Tryz.func15 #[.slice A1 l1.length c1] ?_;(with_reducible refine (manifest_Recover.calls k _ _ l1 an aB _ ?ad ?ae A7.out).mono ?_);(case ad => exact Kd.C_below aU.out (bM HB.out));(case ae => exact aV.out);rintro e bE ⟨au,rfl,ag,hb⟩;refine ⟨_,rfl,?_⟩;have aa := aK (Kd.S_lower ag (below_size (bM HB.out)));replace HB := aK (below_step (bM HB.out) hb);(try clear hb);(try clear hk);(try clear ag))|((with_reducible refine gate_callee (f := 16) rfl ?_);refine gL 21 Tryz.func16 #[.slice A1 l1.length c1] ?_;(with_reducible refine (r33_Recover.calls k _ _ l1 ap aD _ ?ad ?ae A8.out).mono ?_);(case ad => exact cM (Kd.C_below aU.out HB.out));(case ae => exact aV.out);rintro e br ⟨av,rfl,ag,hb⟩;refine ⟨_,rfl,?_⟩;have ab := aK (Kd.S_lower (Kd.S_new' ag (Kd.S_lt (by (with_reducible repeat (first|apply Kd.S_alloc|apply Kd.S_drewN|apply Kd.S_drew));exact aa.out))) (below_size (bM HB.out)));replace aa := aK (Kd.S_elder' (by (with_reducible repeat (first|apply Kd.S_alloc|apply Kd.S_drewN|apply Kd.S_drew));exact aa.out) (Kd.S_base ag) hb);replace HB := aK (below_step (bM HB.out) hb);(try clear hb);(try clear hk);(try clear ag)))
     have ah := aK (Kd.S_drew aa.out)
     have ai := aK (Kd.S_drew ab.out)
     have aj := aK (below_drew1 HB.out)
     clear aa
     clear ab
     clear HB
     have aa := ah
     have ab := ai
     have HB := aj
     clear ah ai aj
     refine start_ (n := 18) (S := fun w' => True) (ds := []) (bA 18 0) (by kernel_rfl) rfl rfl trivial (fun hHeld => ?_);refine with_tabW l33_ManifestFrames.tab7 l33_ManifestFrames.bits7 (fun HT_ HW_ => ?_)
     generalize br.drew = w29 at aa ab HB hHeld ⊢
     refine pure_ (i := 0) (N := some 24) (v := ?_) (a' := ?_) (bA 18 1) rfl rfl (any_of HT_.out (by kernel_rfl)) (fun _ _ _ h => h) (Or.inl ⟨by rfl,?_⟩) ?_ ?_
     rotate_left
     ·intro w'
      go_simp
      with_reducible rfl
     rotate_left
     ·simp only [Act.put,z1_,z2_,z3_,i64_w,i32_w]
      rfl
     refine pure_ (i := 3) (N := some 27) (v := ?_) (a' := ?_) (bA 18 9) rfl rfl (any_of HT_.out (by kernel_rfl)) (fun _ _ _ h => h) (Or.inl ⟨by rfl,?_⟩) ?_ ?_
     rotate_left
     ·intro w'
      go_simp
      with_reducible rfl
     rotate_left
     ·simp only [Act.put,z1_,z2_,z3_,i64_w,i32_w]
      rfl
     refine one_ (i := 1) (N := some 25) (bA 18 11) rfl rfl (one_of HT_.out (by kernel_rfl)) (by decide) (fun K hK => ?_)
     refine goes_ Tryz.func17 (by kernel_rfl) rfl #[.slice A0 l0.length c0] (by rfl) rfl rfl (by (try simp only [z4_,z5_,z6_]);first|done|rfl|(simp only [z7_,z8_];rfl)) ?_
     with_reducible refine (manifest_Write.calls k _ _ l0 ao _ ?ad ?ae A9.out).mono ?_
     (case ad => exact cM (Kd.C_below az.out HB.out))
     (case ae => exact aA.out)
     rintro e bF ⟨aq,rfl,ag,hb⟩
     refine ⟨_,rfl,?_⟩
     have ah := aK (Kd.S_below (by (with_reducible repeat (first|apply Kd.S_alloc|apply Kd.S_drewN|apply Kd.S_drew));exact aa.out) hb)
     have ai := aK (Kd.S_below (by (with_reducible repeat (first|apply Kd.S_alloc|apply Kd.S_drewN|apply Kd.S_drew));exact ab.out) hb)
     have aj := aK (Kd.R_lower ag (below_size (bM HB.out)))
     have am := aK (below_step (bM HB.out) hb)
     clear aa
     clear ab
     clear HB
     have aa := ah
     have ab := ai
     have ac := aj
     have HB := am
     clear ah ai aj am
     (try clear hb)
     (try clear hk)
     (try clear ag)
     refine hK.out _ _ trivial (fun hHeld => ?_)
     clear hK K
     refine norm_ (a' := ?_) ?_ ?_
     rotate_left
     ·show Act.put _ (some 25) _ = _
      simp only [Act.put,z1_,z2_,z3_,i64_w,i32_w]
      rfl
     refine join_ (σ := Value) 12 (bA 18 63) (fun s_ => [(26,.string (strOfNums ao)),(28,s_),(29,.string (strOfNums al))]) (fun s_ w' => (Kd.S k30 30 w' w.heap.size (fun k_ => some k_ ≠ (av : Value).ownBlock) au an) ∧ (Kd.S k30 30 w' w.heap.size (fun k_ => some k_ ≠ (au : Value).ownBlock) av ap) ∧ (Kd.R (Kd.int .u8) 5 w' w.heap.size (fun k_ => some k_ ≠ (s_ : Value).ownBlock) aq ao) ∧ (Kd.R (Kd.int .u8) 5 w' w.heap.size (fun k_ => some k_ ≠ (aq : Value).ownBlock) s_ al) ∧ (Below w.heap.size w w')) ?_ ?_
     rotate_left
     ·intro hCont
      refine two_ (i := 2) (j := 4) (Ni := some 26) (Nj := some 28) (bA 18 15) (bA 18 27) rfl rfl rfl rfl (two_of HT_.out (by kernel_rfl)) (by decide) (by decide) (fun K hK => ?_) (fun K hK => ?_)
      ·skip
       have a7 := own_string (P := Tryz.prog) Tryz.underlying31 Tryz.underlying5 Tryz.underlying9 (Kd.own_of_R ac.out)
       refine value_ (w1 := ?_) (v := ?_) (by rfl) rfl ?_ ?_
       rotate_left 2
       ·go_simp
        constructor
        ·rfl
        ·rfl
       clear a7
       refine hK.out _ _ trivial (fun hHeld => ?_)
       clear hK K
       refine norm_ (a' := ?_) ?_ ?_
       rotate_left
       ·show Act.put _ (some 26) _ = _
        simp only [Act.put,z1_,z2_,z3_,i64_w,i32_w]
        rfl
       refine one_ (i := 4) (N := some 28) (bA 18 31) rfl rfl (one_of HT_.out (by kernel_rfl)) (by decide) (fun K hK => ?_)
       refine goes_ Tryz.func18 (by kernel_rfl) rfl #[.slice A0 l0.length c0] (by rfl) rfl rfl (by (try simp only [z4_,z5_,z6_]);first|done|rfl|(simp only [z7_,z8_];rfl)) ?_
       with_reducible refine (r33_Write.calls k _ _ l0 al _ ?ad ?ae aW.out).mono ?_
       (case ad => exact cM (Kd.C_below az.out HB.out))
       (case ae => exact aA.out)
       rintro e bH ⟨ak,rfl,ag,hb⟩
       refine ⟨_,rfl,?_⟩
       have ah := aK (Kd.S_below (by (with_reducible repeat (first|apply Kd.S_alloc|apply Kd.S_drewN|apply Kd.S_drew));exact aa.out) hb)
       have ai := aK (Kd.S_below (by (with_reducible repeat (first|apply Kd.S_alloc|apply Kd.S_drewN|apply Kd.S_drew));exact ab.out) hb)
       have aj := aK (Kd.R_elder' (rM ac.out) (Kd.R_base ag) hb)
       have am := aK (Kd.R_lower (Kd.R_new' ag (Kd.R_lt (rM ac.out))) (below_size (bM HB.out)))
       have ar := aK (below_step (bM HB.out) hb)
       clear aa
       clear ab
       clear ac
       clear HB
       have aa := ah
       have ab := ai
       have ac := aj
       have af := am
       have HB := ar
       clear ah ai aj am ar
       (try clear hb)
       (try clear hk)
       (try clear ag)
       refine hK.out _ _ trivial (fun hHeld => ?_)
       clear hK K
       refine norm_ (a' := ?_) ?_ ?_
       rotate_left
       ·show Act.put _ (some 28) _ = _
        simp only [Act.put,z1_,z2_,z3_,i64_w,i32_w]
        rfl
       refine one_ (i := 5) (N := some 29) (bA 18 63) rfl rfl (one_of HT_.out (by kernel_rfl)) (by decide) (fun K hK => ?_)
       have ax := own_string (P := Tryz.prog) Tryz.underlying31 Tryz.underlying5 Tryz.underlying9 (Kd.own_of_R af.out)
       refine value_ (w1 := ?_) (v := ?_) (by rfl) rfl ?_ ?_
       rotate_left 2
       ·go_simp
        constructor
        ·rfl
        ·rfl
       clear ax
       refine hK.out _ _ trivial (fun hHeld => ?_)
       clear hK K
       refine norm_ (a' := ?_) ?_ ?_
       rotate_left
       ·show Act.put _ (some 29) _ = _
        simp only [Act.put,z1_,z2_,z3_,i64_w,i32_w]
        rfl
       exact norm_ (by simp only [putAll,Act.put,z1_,z2_,z3_]) (hCont (ak) _ ⟨(by refine sO ?_;exact Kd.S_mono aa.out (fun _ hk => hk.2)),(by refine sO ?_;exact Kd.S_mono ab.out (fun _ hk => hk.2)),(by refine rO ?_;exact Kd.R_mono ac.out (fun _ hk => hk.2)),(by refine rO ?_;exact Kd.R_mono af.out (fun _ hk => hk.2)),(bM HB.out)⟩)
      ·skip
       refine goes_ Tryz.func18 (by kernel_rfl) rfl #[.slice A0 l0.length c0] (by rfl) rfl rfl (by (try simp only [z4_,z5_,z6_]);first|done|rfl|(simp only [z7_,z8_];rfl)) ?_
       with_reducible refine (r33_Write.calls k _ _ l0 al _ ?ad ?ae aW.out).mono ?_
       (case ad => exact cM (Kd.C_below az.out HB.out))
       (case ae => exact aA.out)
       rintro e bI ⟨ak,rfl,ag,hb⟩
       refine ⟨_,rfl,?_⟩
       have ah := aK (Kd.S_below (by (with_reducible repeat (first|apply Kd.S_alloc|apply Kd.S_drewN|apply Kd.S_drew));exact aa.out) hb)
       have ai := aK (Kd.S_below (by (with_reducible repeat (first|apply Kd.S_alloc|apply Kd.S_drewN|apply Kd.S_drew));exact ab.out) hb)
       have aj := aK (Kd.R_elder' (rM ac.out) (Kd.R_base ag) hb)
       have am := aK (Kd.R_lower (Kd.R_new' ag (Kd.R_lt (rM ac.out))) (below_size (bM HB.out)))
       have ar := aK (below_step (bM HB.out) hb)
       clear aa
       clear ab
       clear ac
       clear HB
       have aa := ah
       have ab := ai
       have ac := aj
       have af := am
       have HB := ar
       clear ah ai aj am ar
       (try clear hb)
       (try clear hk)
       (try clear ag)
       refine hK.out _ _ trivial (fun hHeld => ?_)
       clear hK K
       refine norm_ (a' := ?_) ?_ ?_
       rotate_left
       ·show Act.put _ (some 28) _ = _
        simp only [Act.put,z1_,z2_,z3_,i64_w,i32_w]
        rfl
       refine two_ (i := 2) (j := 5) (Ni := some 26) (Nj := some 29) (bA 18 31) (bA 18 59) rfl rfl rfl rfl (two_of HT_.out (by kernel_rfl)) (by decide) (by decide) (fun K hK => ?_) (fun K hK => ?_)
       ·skip
        have aJ := own_string (P := Tryz.prog) Tryz.underlying31 Tryz.underlying5 Tryz.underlying9 (Kd.own_of_R ac.out)
        refine value_ (w1 := ?_) (v := ?_) (by rfl) rfl ?_ ?_
        rotate_left 2
        ·go_simp
         constructor
         ·rfl
         ·rfl
        clear aJ
        refine hK.out _ _ trivial (fun hHeld => ?_)
        clear hK K
        refine norm_ (a' := ?_) ?_ ?_
        rotate_left
        ·show Act.put _ (some 26) _ = _
         simp only [Act.put,z1_,z2_,z3_,i64_w,i32_w]
         rfl
        refine one_ (i := 5) (N := some 29) (bA 18 63) rfl rfl (one_of HT_.out (by kernel_rfl)) (by decide) (fun K hK => ?_)
        have ax := own_string (P := Tryz.prog) Tryz.underlying31 Tryz.underlying5 Tryz.underlying9 (Kd.own_of_R af.out)
        refine value_ (w1 := ?_) (v := ?_) (by rfl) rfl ?_ ?_
        rotate_left 2
        ·go_simp
         constructor
         ·rfl
         ·rfl
        clear ax
        refine hK.out _ _ trivial (fun hHeld => ?_)
        clear hK K
        refine norm_ (a' := ?_) ?_ ?_
        rotate_left
        ·show Act.put _ (some 29) _ = _
         simp only [Act.put,z1_,z2_,z3_,i64_w,i32_w]
         rfl
        exact norm_ (by simp only [putAll,Act.put,z1_,z2_,z3_]) (hCont (ak) _ ⟨(by refine sO ?_;exact Kd.S_mono aa.out (fun _ hk => hk.2)),(by refine sO ?_;exact Kd.S_mono ab.out (fun _ hk => hk.2)),(by refine rO ?_;exact Kd.R_mono ac.out (fun _ hk => hk.2)),(by refine rO ?_;exact Kd.R_mono af.out (fun _ hk => hk.2)),(bM HB.out)⟩)
       ·skip
        have aJ := own_string (P := Tryz.prog) Tryz.underlying31 Tryz.underlying5 Tryz.underlying9 (Kd.own_of_R af.out)
        refine value_ (w1 := ?_) (v := ?_) (by rfl) rfl ?_ ?_
        rotate_left 2
        ·go_simp
         constructor
         ·rfl
         ·rfl
        clear aJ
        refine hK.out _ _ trivial (fun hHeld => ?_)
        clear hK K
        refine norm_ (a' := ?_) ?_ ?_
        rotate_left
        ·show Act.put _ (some 29) _ = _
         simp only [Act.put,z1_,z2_,z3_,i64_w,i32_w]
         rfl
        refine one_ (i := 2) (N := some 26) (bA 18 63) rfl rfl (one_of HT_.out (by kernel_rfl)) (by decide) (fun K hK => ?_)
        have ax := own_string (P := Tryz.prog) Tryz.underlying31 Tryz.underlying5 Tryz.underlying9 (Kd.own_of_R ac.out)
        refine value_ (w1 := ?_) (v := ?_) (by rfl) rfl ?_ ?_
        rotate_left 2
        ·go_simp
         constructor
         ·rfl
         ·rfl
        clear ax
        refine hK.out _ _ trivial (fun hHeld => ?_)
        clear hK K
        refine norm_ (a' := ?_) ?_ ?_
        rotate_left
        ·show Act.put _ (some 26) _ = _
         simp only [Act.put,z1_,z2_,z3_,i64_w,i32_w]
         rfl
        exact norm_ (by simp only [putAll,Act.put,z1_,z2_,z3_]) (hCont (ak) _ ⟨(by refine sO ?_;exact Kd.S_mono aa.out (fun _ hk => hk.2)),(by refine sO ?_;exact Kd.S_mono ab.out (fun _ hk => hk.2)),(by refine rO ?_;exact Kd.R_mono ac.out (fun _ hk => hk.2)),(by refine rO ?_;exact Kd.R_mono af.out (fun _ hk => hk.2)),(bM HB.out)⟩)
     rintro ak a8 ⟨aN,aO,aP,aQ,aR⟩
     have ah : Aside0 (Kd.S k30 30 a8 w.heap.size (fun k_ => some k_ ≠ (av : Value).ownBlock) au an) := ⟨aN⟩
     have ai : Aside0 (Kd.S k30 30 a8 w.heap.size (fun k_ => some k_ ≠ (au : Value).ownBlock) av ap) := ⟨aO⟩
     have aj : Aside0 (Kd.R (Kd.int .u8) 5 a8 w.heap.size (fun k_ => some k_ ≠ (ak : Value).ownBlock) aq ao) := ⟨aP⟩
     have am : Aside0 (Kd.R (Kd.int .u8) 5 a8 w.heap.size (fun k_ => some k_ ≠ (aq : Value).ownBlock) ak al) := ⟨aQ⟩
     have ar : Aside0 (Below w.heap.size w a8) := ⟨aR⟩
     clear aa
     clear ab
     clear HB
     clear aN aO aP aQ aR
     have aa := ah
     have ab := ai
     have ac := aj
     have af := am
     have HB := ar
     clear ah ai aj am ar
     have hHeld := trivial
     refine norm_ (a' := ?_) ?_ ?_
     rotate_left
     ·simp only [putAll,Act.put,z1_,z2_,z3_]
      rfl
     refine pure_ (i := 6) (N := some 30) (v := ?_) (a' := ?_) (bA 18 127) rfl rfl (any_of HT_.out (by kernel_rfl)) (fun _ _ _ h => h) (Or.inl ⟨by rfl,?_⟩) ?_ ?_
     rotate_left
     ·intro w'
      go_simp
      with_reducible rfl
     rotate_left
     ·simp only [Act.put,z1_,z2_,z3_,i64_w,i32_w]
      rfl
     refine pure_ (i := 7) (N := some 31) (v := ?_) (a' := ?_) (bA 18 255) rfl rfl (any_of HT_.out (by kernel_rfl)) (fun _ _ _ h => h) (Or.inl ⟨by rfl,?_⟩) ?_ ?_
     rotate_left
     ·intro w'
      go_simp
      with_reducible rfl
     rotate_left
     ·simp only [Act.put,z1_,z2_,z3_,i64_w,i32_w]
      rfl
     refine pure_ (i := 8) (N := some 32) (v := ?_) (a' := ?_) (bA 18 511) rfl rfl (any_of HT_.out (by kernel_rfl)) (fun _ _ _ h => h) (Or.inl ⟨by rfl,?_⟩) ?_ ?_
     rotate_left
     ·intro w'
      go_simp
      with_reducible rfl
     rotate_left
     ·simp only [Act.put,z1_,z2_,z3_,i64_w,i32_w]
      rfl
     refine pure_ (i := 9) (N := some 33) (v := ?_) (a' := ?_) (bA 18 1023) rfl rfl (any_of HT_.out (by kernel_rfl)) (fun _ _ _ h => h) (Or.inl ⟨by rfl,?_⟩) ?_ ?_
     rotate_left
     ·intro w'
      go_simp
      with_reducible rfl
     rotate_left
     ·simp only [Act.put,z1_,z2_,z3_,i64_w,i32_w]
      rfl
     refine pure_ (i := 10) (N := some 34) (v := ?_) (a' := ?_) (bA 18 2047) rfl rfl (any_of HT_.out (by kernel_rfl)) (fun _ _ _ h => h) (Or.inl ⟨by rfl,?_⟩) ?_ ?_
     rotate_left
     ·intro w'
      go_simp
      with_reducible rfl
     rotate_left
     ·simp only [Act.put,z1_,z2_,z3_,i64_w,i32_w]
      rfl
     refine pure_ (i := 11) (N := some 35) (v := ?_) (a' := ?_) (bA 18 4095) rfl rfl (any_of HT_.out (by kernel_rfl)) (fun _ _ _ h => h) (Or.inl ⟨by rfl,?_⟩) ?_ ?_
     rotate_left
     ·intro w'
      go_simp
      with_reducible rfl
     rotate_left
     ·simp only [Act.put,z1_,z2_,z3_,i64_w,i32_w]
      rfl
     refine pure_ (i := 12) (N := some 36) (v := ?_) (a' := ?_) (bA 18 8191) rfl rfl (any_of HT_.out (by kernel_rfl)) (fun _ _ _ h => h) (Or.inl ⟨by rfl,?_⟩) ?_ ?_
     rotate_left
     ·intro w'
      go_simp
      with_reducible rfl
     rotate_left
     ·simp only [Act.put,z1_,z2_,z3_,i64_w,i32_w]
      rfl
     refine pure_ (i := 13) (N := some 37) (v := undef) (a' := ?_) (bA 18 16383) rfl rfl (any_of HT_.out (by kernel_rfl)) (fun _ _ _ h => h) (Or.inr ⟨by rfl,rfl⟩) ?_ ?_
     rotate_left
     ·simp only [Act.put,z1_,z2_,z3_,i64_w,i32_w]
      rfl
     refine pure_ (i := 14) (N := some 38) (v := undef) (a' := ?_) (bA 18 32767) rfl rfl (any_of HT_.out (by kernel_rfl)) (fun _ _ _ h => h) (Or.inr ⟨by rfl,rfl⟩) ?_ ?_
     rotate_left
     ·simp only [Act.put,z1_,z2_,z3_,i64_w,i32_w]
      rfl
     refine pure_ (i := 15) (N := some 39) (v := undef) (a' := ?_) (bA 18 65535) rfl rfl (any_of HT_.out (by kernel_rfl)) (fun _ _ _ h => h) (Or.inr ⟨by rfl,rfl⟩) ?_ ?_
     rotate_left
     ·simp only [Act.put,z1_,z2_,z3_,i64_w,i32_w]
      rfl
     refine pure_ (i := 16) (N := some 40) (v := ?_) (a' := ?_) (bA 18 131071) rfl rfl (any_of HT_.out (by kernel_rfl)) (fun _ _ _ h => h) (Or.inl ⟨by rfl,?_⟩) ?_ ?_
     rotate_left
     ·intro w'
      go_simp
      with_reducible rfl
     rotate_left
     ·simp only [Act.put,z1_,z2_,z3_,i64_w,i32_w]
      rfl
     refine pure_ (i := 17) (N := some 4) (v := ?_) (a' := ?_) (bA 18 262143) rfl rfl (any_of HT_.out (by kernel_rfl)) (fun _ _ _ h => h) (Or.inl ⟨by rfl,?_⟩) ?_ ?_
     rotate_left
     ·intro w'
      go_simp
      with_reducible rfl
     rotate_left
     ·simp only [Act.put,z1_,z2_,z3_,i64_w,i32_w]
      rfl
     refine done_ (done_of HT_.out (by kernel_rfl)) ?_
     try go_wp2
     go_ret
     exact ⟨by first|rfl|(simp [errW_none,errW_some] <;> rfl)|(simp [*,errW_none,errW_some] <;> rfl),bM HB.out⟩
   ·rw [if_neg aS] at H
    have aY := beq_eq_false_iff_ne.mpr aS
    have aZ := bne_iff_ne.mpr aS
    obtain rfl := Option.some.inj H
    go_enter Tryz.func5,Tryz.ntmps5
    try go_wp2_with (first|((with_reducible refine gate_callee (f := 6) rfl ?_);refine gL 9 Tryz.func6 #[] ?_;(with_reducible refine (l33_alive.calls k  true _ A3.out).mono ?_);rintro e bJ ⟨rfl,hb⟩;refine ⟨_,rfl,?_⟩;replace HB := aK (below_step (bM HB.out) hb);(try clear hb);(try clear hk))|((with_reducible refine gate_callee (f := 7) rfl ?_);refine gL 12 Tryz.func7 #[.slice A0 l0.length c0] ?_;(with_reducible refine (l33_small.calls k _ _ l0 true _ ?ad ?ae A5.out).mono ?_);(case ad => exact cM (Kd.C_below az.out HB.out));(case ae => exact aA.out);rintro e w' ⟨rfl,⟨nd,rfl⟩⟩;refine ⟨_,rfl,?_⟩)|((with_reducible refine gate_callee (f := 15) rfl ?_);refine gL 16 Tryz.func15 #[.slice A1 l1.length c1] ?_;(with_reducible refine (manifest_Recover.calls k _ _ l1 an aB _ ?ad ?ae A7.out).mono ?_);(case ad => exact Kd.C_below aU.out (bM HB.out));(case ae => exact aV.out);rintro e bK ⟨au,rfl,ag,hb⟩;refine ⟨_,rfl,?_⟩;have aa := aK (Kd.S_lower ag (below_size (bM HB.out)));replace HB := aK (below_step (bM HB.out) hb);(try clear hb);(try clear hk);(try clear ag))|((with_reducible refine gate_callee (f := 16) rfl ?_);refine gL 21 Tryz.func16 #[.slice A1 l1.length c1] ?_;(with_reducible refine (r33_Recover.calls k _ _ l1 ap aD _ ?ad ?ae A8.out).mono ?_);(case ad => exact cM (Kd.C_below aU.out HB.out));(case ae => exact aV.out);rintro e bs ⟨av,rfl,ag,hb⟩;refine ⟨_,rfl,?_⟩;have ab := aK (Kd.S_lower (Kd.S_new' ag (Kd.S_lt (by (with_reducible repeat (first|apply Kd.S_alloc|apply Kd.S_drewN|apply Kd.S_drew));exact aa.out))) (below_size (bM HB.out)));replace aa := aK (Kd.S_elder' (by (with_reducible repeat (first|apply Kd.S_alloc|apply Kd.S_drewN|apply Kd.S_drew));exact aa.out) (Kd.S_base ag) hb);replace HB := aK (below_step (bM HB.out) hb);(try clear hb);(try clear hk);(try clear ag)))
    have ah := aK (Kd.S_drew aa.out)
    have ai := aK (Kd.S_drew ab.out)
    have aj := aK (below_drew1 HB.out)
    clear aa
    clear ab
    clear HB
    have aa := ah
    have ab := ai
    have HB := aj
    clear ah ai aj
    refine start_ (n := 18) (S := fun w' => True) (ds := []) (bA 18 0) (by kernel_rfl) rfl rfl trivial (fun hHeld => ?_);refine with_tabW l33_ManifestFrames.tab7 l33_ManifestFrames.bits7 (fun HT_ HW_ => ?_)
    generalize bs.drew = w38 at aa ab HB hHeld ⊢
    refine pure_ (i := 0) (N := some 24) (v := ?_) (a' := ?_) (bA 18 1) rfl rfl (any_of HT_.out (by kernel_rfl)) (fun _ _ _ h => h) (Or.inl ⟨by rfl,?_⟩) ?_ ?_
    rotate_left
    ·intro w'
     go_simp
     with_reducible rfl
    rotate_left
    ·simp only [Act.put,z1_,z2_,z3_,i64_w,i32_w]
     rfl
    refine pure_ (i := 3) (N := some 27) (v := ?_) (a' := ?_) (bA 18 9) rfl rfl (any_of HT_.out (by kernel_rfl)) (fun _ _ _ h => h) (Or.inl ⟨by rfl,?_⟩) ?_ ?_
    rotate_left
    ·intro w'
     go_simp
     with_reducible rfl
    rotate_left
    ·simp only [Act.put,z1_,z2_,z3_,i64_w,i32_w]
     rfl
    refine one_ (i := 1) (N := some 25) (bA 18 11) rfl rfl (one_of HT_.out (by kernel_rfl)) (by decide) (fun K hK => ?_)
    refine goes_ Tryz.func17 (by kernel_rfl) rfl #[.slice A0 l0.length c0] (by rfl) rfl rfl (by (try simp only [z4_,z5_,z6_]);first|done|rfl|(simp only [z7_,z8_];rfl)) ?_
    with_reducible refine (manifest_Write.calls k _ _ l0 ao _ ?ad ?ae A9.out).mono ?_
    (case ad => exact cM (Kd.C_below az.out HB.out))
    (case ae => exact aA.out)
    rintro e bL ⟨aq,rfl,ag,hb⟩
    refine ⟨_,rfl,?_⟩
    have ah := aK (Kd.S_below (by (with_reducible repeat (first|apply Kd.S_alloc|apply Kd.S_drewN|apply Kd.S_drew));exact aa.out) hb)
    have ai := aK (Kd.S_below (by (with_reducible repeat (first|apply Kd.S_alloc|apply Kd.S_drewN|apply Kd.S_drew));exact ab.out) hb)
    have aj := aK (Kd.R_lower ag (below_size (bM HB.out)))
    have am := aK (below_step (bM HB.out) hb)
    clear aa
    clear ab
    clear HB
    have aa := ah
    have ab := ai
    have ac := aj
    have HB := am
    clear ah ai aj am
    (try clear hb)
    (try clear hk)
    (try clear ag)
    refine hK.out _ _ trivial (fun hHeld => ?_)
    clear hK K
    refine norm_ (a' := ?_) ?_ ?_
    rotate_left
    ·show Act.put _ (some 25) _ = _
     simp only [Act.put,z1_,z2_,z3_,i64_w,i32_w]
     rfl
    refine join_ (σ := Value) 12 (bA 18 63) (fun s_ => [(26,.string (strOfNums ao)),(28,s_),(29,.string (strOfNums al))]) (fun s_ w' => (Kd.S k30 30 w' w.heap.size (fun k_ => some k_ ≠ (av : Value).ownBlock) au an) ∧ (Kd.S k30 30 w' w.heap.size (fun k_ => some k_ ≠ (au : Value).ownBlock) av ap) ∧ (Kd.R (Kd.int .u8) 5 w' w.heap.size (fun k_ => some k_ ≠ (s_ : Value).ownBlock) aq ao) ∧ (Kd.R (Kd.int .u8) 5 w' w.heap.size (fun k_ => some k_ ≠ (aq : Value).ownBlock) s_ al) ∧ (Below w.heap.size w w')) ?_ ?_
    rotate_left
    ·intro hCont
     refine two_ (i := 2) (j := 4) (Ni := some 26) (Nj := some 28) (bA 18 15) (bA 18 27) rfl rfl rfl rfl (two_of HT_.out (by kernel_rfl)) (by decide) (by decide) (fun K hK => ?_) (fun K hK => ?_)
     ·skip
      have a9 := own_string (P := Tryz.prog) Tryz.underlying31 Tryz.underlying5 Tryz.underlying9 (Kd.own_of_R ac.out)
      refine value_ (w1 := ?_) (v := ?_) (by rfl) rfl ?_ ?_
      rotate_left 2
      ·go_simp
       constructor
       ·rfl
       ·rfl
      clear a9
      refine hK.out _ _ trivial (fun hHeld => ?_)
      clear hK K
      refine norm_ (a' := ?_) ?_ ?_
      rotate_left
      ·show Act.put _ (some 26) _ = _
       simp only [Act.put,z1_,z2_,z3_,i64_w,i32_w]
       rfl
      refine one_ (i := 4) (N := some 28) (bA 18 31) rfl rfl (one_of HT_.out (by kernel_rfl)) (by decide) (fun K hK => ?_)
      refine goes_ Tryz.func18 (by kernel_rfl) rfl #[.slice A0 l0.length c0] (by rfl) rfl rfl (by (try simp only [z4_,z5_,z6_]);first|done|rfl|(simp only [z7_,z8_];rfl)) ?_
      with_reducible refine (r33_Write.calls k _ _ l0 al _ ?ad ?ae aW.out).mono ?_
      (case ad => exact cM (Kd.C_below az.out HB.out))
      (case ae => exact aA.out)
      rintro e bN ⟨ak,rfl,ag,hb⟩
      refine ⟨_,rfl,?_⟩
      have ah := aK (Kd.S_below (by (with_reducible repeat (first|apply Kd.S_alloc|apply Kd.S_drewN|apply Kd.S_drew));exact aa.out) hb)
      have ai := aK (Kd.S_below (by (with_reducible repeat (first|apply Kd.S_alloc|apply Kd.S_drewN|apply Kd.S_drew));exact ab.out) hb)
      have aj := aK (Kd.R_elder' (rM ac.out) (Kd.R_base ag) hb)
      have am := aK (Kd.R_lower (Kd.R_new' ag (Kd.R_lt (rM ac.out))) (below_size (bM HB.out)))
      have ar := aK (below_step (bM HB.out) hb)
      clear aa
      clear ab
      clear ac
      clear HB
      have aa := ah
      have ab := ai
      have ac := aj
      have af := am
      have HB := ar
      clear ah ai aj am ar
      (try clear hb)
      (try clear hk)
      (try clear ag)
      refine hK.out _ _ trivial (fun hHeld => ?_)
      clear hK K
      refine norm_ (a' := ?_) ?_ ?_
      rotate_left
      ·show Act.put _ (some 28) _ = _
       simp only [Act.put,z1_,z2_,z3_,i64_w,i32_w]
       rfl
      refine one_ (i := 5) (N := some 29) (bA 18 63) rfl rfl (one_of HT_.out (by kernel_rfl)) (by decide) (fun K hK => ?_)
      have ay := own_string (P := Tryz.prog) Tryz.underlying31 Tryz.underlying5 Tryz.underlying9 (Kd.own_of_R af.out)
      refine value_ (w1 := ?_) (v := ?_) (by rfl) rfl ?_ ?_
      rotate_left 2
      ·go_simp
       constructor
       ·rfl
       ·rfl
      clear ay
      refine hK.out _ _ trivial (fun hHeld => ?_)
      clear hK K
      refine norm_ (a' := ?_) ?_ ?_
      rotate_left
      ·show Act.put _ (some 29) _ = _
       simp only [Act.put,z1_,z2_,z3_,i64_w,i32_w]
       rfl
      exact norm_ (by simp only [putAll,Act.put,z1_,z2_,z3_]) (hCont (ak) _ ⟨(by refine sO ?_;exact Kd.S_mono aa.out (fun _ hk => hk.2)),(by refine sO ?_;exact Kd.S_mono ab.out (fun _ hk => hk.2)),(by refine rO ?_;exact Kd.R_mono ac.out (fun _ hk => hk.2)),(by refine rO ?_;exact Kd.R_mono af.out (fun _ hk => hk.2)),(bM HB.out)⟩)
     ·skip
      refine goes_ Tryz.func18 (by kernel_rfl) rfl #[.slice A0 l0.length c0] (by rfl) rfl rfl (by (try simp only [z4_,z5_,z6_]);first|done|rfl|(simp only [z7_,z8_];rfl)) ?_
      with_reducible refine (r33_Write.calls k _ _ l0 al _ ?ad ?ae aW.out).mono ?_
      (case ad => exact cM (Kd.C_below az.out HB.out))
      (case ae => exact aA.out)
      rintro e bO ⟨ak,rfl,ag,hb⟩
      refine ⟨_,rfl,?_⟩
      have ah := aK (Kd.S_below (by (with_reducible repeat (first|apply Kd.S_alloc|apply Kd.S_drewN|apply Kd.S_drew));exact aa.out) hb)
      have ai := aK (Kd.S_below (by (with_reducible repeat (first|apply Kd.S_alloc|apply Kd.S_drewN|apply Kd.S_drew));exact ab.out) hb)
      have aj := aK (Kd.R_elder' (rM ac.out) (Kd.R_base ag) hb)
      have am := aK (Kd.R_lower (Kd.R_new' ag (Kd.R_lt (rM ac.out))) (below_size (bM HB.out)))
      have ar := aK (below_step (bM HB.out) hb)
      clear aa
      clear ab
      clear ac
      clear HB
      have aa := ah
      have ab := ai
      have ac := aj
      have af := am
      have HB := ar
      clear ah ai aj am ar
      (try clear hb)
      (try clear hk)
      (try clear ag)
      refine hK.out _ _ trivial (fun hHeld => ?_)
      clear hK K
      refine norm_ (a' := ?_) ?_ ?_
      rotate_left
      ·show Act.put _ (some 28) _ = _
       simp only [Act.put,z1_,z2_,z3_,i64_w,i32_w]
       rfl
      refine two_ (i := 2) (j := 5) (Ni := some 26) (Nj := some 29) (bA 18 31) (bA 18 59) rfl rfl rfl rfl (two_of HT_.out (by kernel_rfl)) (by decide) (by decide) (fun K hK => ?_) (fun K hK => ?_)
      ·skip
       have aL := own_string (P := Tryz.prog) Tryz.underlying31 Tryz.underlying5 Tryz.underlying9 (Kd.own_of_R ac.out)
       refine value_ (w1 := ?_) (v := ?_) (by rfl) rfl ?_ ?_
       rotate_left 2
       ·go_simp
        constructor
        ·rfl
        ·rfl
       clear aL
       refine hK.out _ _ trivial (fun hHeld => ?_)
       clear hK K
       refine norm_ (a' := ?_) ?_ ?_
       rotate_left
       ·show Act.put _ (some 26) _ = _
        simp only [Act.put,z1_,z2_,z3_,i64_w,i32_w]
        rfl
       refine one_ (i := 5) (N := some 29) (bA 18 63) rfl rfl (one_of HT_.out (by kernel_rfl)) (by decide) (fun K hK => ?_)
       have ay := own_string (P := Tryz.prog) Tryz.underlying31 Tryz.underlying5 Tryz.underlying9 (Kd.own_of_R af.out)
       refine value_ (w1 := ?_) (v := ?_) (by rfl) rfl ?_ ?_
       rotate_left 2
       ·go_simp
        constructor
        ·rfl
        ·rfl
       clear ay
       refine hK.out _ _ trivial (fun hHeld => ?_)
       clear hK K
       refine norm_ (a' := ?_) ?_ ?_
       rotate_left
       ·show Act.put _ (some 29) _ = _
        simp only [Act.put,z1_,z2_,z3_,i64_w,i32_w]
        rfl
       exact norm_ (by simp only [putAll,Act.put,z1_,z2_,z3_]) (hCont (ak) _ ⟨(by refine sO ?_;exact Kd.S_mono aa.out (fun _ hk => hk.2)),(by refine sO ?_;exact Kd.S_mono ab.out (fun _ hk => hk.2)),(by refine rO ?_;exact Kd.R_mono ac.out (fun _ hk => hk.2)),(by refine rO ?_;exact Kd.R_mono af.out (fun _ hk => hk.2)),(bM HB.out)⟩)
      ·skip
       have aL := own_string (P := Tryz.prog) Tryz.underlying31 Tryz.underlying5 Tryz.underlying9 (Kd.own_of_R af.out)
       refine value_ (w1 := ?_) (v := ?_) (by rfl) rfl ?_ ?_
       rotate_left 2
       ·go_simp
        constructor
        ·rfl
        ·rfl
       clear aL
       refine hK.out _ _ trivial (fun hHeld => ?_)
       clear hK K
       refine norm_ (a' := ?_) ?_ ?_
       rotate_left
       ·show Act.put _ (some 29) _ = _
        simp only [Act.put,z1_,z2_,z3_,i64_w,i32_w]
        rfl
       refine one_ (i := 2) (N := some 26) (bA 18 63) rfl rfl (one_of HT_.out (by kernel_rfl)) (by decide) (fun K hK => ?_)
       have ay := own_string (P := Tryz.prog) Tryz.underlying31 Tryz.underlying5 Tryz.underlying9 (Kd.own_of_R ac.out)
       refine value_ (w1 := ?_) (v := ?_) (by rfl) rfl ?_ ?_
       rotate_left 2
       ·go_simp
        constructor
        ·rfl
        ·rfl
       clear ay
       refine hK.out _ _ trivial (fun hHeld => ?_)
       clear hK K
       refine norm_ (a' := ?_) ?_ ?_
       rotate_left
       ·show Act.put _ (some 26) _ = _
        simp only [Act.put,z1_,z2_,z3_,i64_w,i32_w]
        rfl
       exact norm_ (by simp only [putAll,Act.put,z1_,z2_,z3_]) (hCont (ak) _ ⟨(by refine sO ?_;exact Kd.S_mono aa.out (fun _ hk => hk.2)),(by refine sO ?_;exact Kd.S_mono ab.out (fun _ hk => hk.2)),(by refine rO ?_;exact Kd.R_mono ac.out (fun _ hk => hk.2)),(by refine rO ?_;exact Kd.R_mono af.out (fun _ hk => hk.2)),(bM HB.out)⟩)
    rintro ak ba ⟨aN,aO,aP,aQ,aR⟩
    have ah : Aside0 (Kd.S k30 30 ba w.heap.size (fun k_ => some k_ ≠ (av : Value).ownBlock) au an) := ⟨aN⟩
    have ai : Aside0 (Kd.S k30 30 ba w.heap.size (fun k_ => some k_ ≠ (au : Value).ownBlock) av ap) := ⟨aO⟩
    have aj : Aside0 (Kd.R (Kd.int .u8) 5 ba w.heap.size (fun k_ => some k_ ≠ (ak : Value).ownBlock) aq ao) := ⟨aP⟩
    have am : Aside0 (Kd.R (Kd.int .u8) 5 ba w.heap.size (fun k_ => some k_ ≠ (aq : Value).ownBlock) ak al) := ⟨aQ⟩
    have ar : Aside0 (Below w.heap.size w ba) := ⟨aR⟩
    clear aa
    clear ab
    clear HB
    clear aN aO aP aQ aR
    have aa := ah
    have ab := ai
    have ac := aj
    have af := am
    have HB := ar
    clear ah ai aj am ar
    have hHeld := trivial
    refine norm_ (a' := ?_) ?_ ?_
    rotate_left
    ·simp only [putAll,Act.put,z1_,z2_,z3_]
     rfl
    refine pure_ (i := 6) (N := some 30) (v := ?_) (a' := ?_) (bA 18 127) rfl rfl (any_of HT_.out (by kernel_rfl)) (fun _ _ _ h => h) (Or.inl ⟨by rfl,?_⟩) ?_ ?_
    rotate_left
    ·intro w'
     go_simp
     with_reducible rfl
    rotate_left
    ·simp only [Act.put,z1_,z2_,z3_,i64_w,i32_w]
     rfl
    refine pure_ (i := 7) (N := some 31) (v := ?_) (a' := ?_) (bA 18 255) rfl rfl (any_of HT_.out (by kernel_rfl)) (fun _ _ _ h => h) (Or.inl ⟨by rfl,?_⟩) ?_ ?_
    rotate_left
    ·intro w'
     go_simp
     with_reducible rfl
    rotate_left
    ·simp only [Act.put,z1_,z2_,z3_,i64_w,i32_w]
     rfl
    refine pure_ (i := 8) (N := some 32) (v := undef) (a' := ?_) (bA 18 511) rfl rfl (any_of HT_.out (by kernel_rfl)) (fun _ _ _ h => h) (Or.inr ⟨by rfl,rfl⟩) ?_ ?_
    rotate_left
    ·simp only [Act.put,z1_,z2_,z3_,i64_w,i32_w]
     rfl
    refine pure_ (i := 9) (N := some 33) (v := undef) (a' := ?_) (bA 18 1023) rfl rfl (any_of HT_.out (by kernel_rfl)) (fun _ _ _ h => h) (Or.inr ⟨by rfl,rfl⟩) ?_ ?_
    rotate_left
    ·simp only [Act.put,z1_,z2_,z3_,i64_w,i32_w]
     rfl
    refine pure_ (i := 10) (N := some 34) (v := undef) (a' := ?_) (bA 18 2047) rfl rfl (any_of HT_.out (by kernel_rfl)) (fun _ _ _ h => h) (Or.inr ⟨by rfl,rfl⟩) ?_ ?_
    rotate_left
    ·simp only [Act.put,z1_,z2_,z3_,i64_w,i32_w]
     rfl
    refine pure_ (i := 11) (N := some 35) (v := ?_) (a' := ?_) (bA 18 4095) rfl rfl (any_of HT_.out (by kernel_rfl)) (fun _ _ _ h => h) (Or.inl ⟨by rfl,?_⟩) ?_ ?_
    rotate_left
    ·intro w'
     go_simp
     with_reducible rfl
    rotate_left
    ·simp only [Act.put,z1_,z2_,z3_,i64_w,i32_w]
     rfl
    refine pure_ (i := 12) (N := some 36) (v := ?_) (a' := ?_) (bA 18 8191) rfl rfl (any_of HT_.out (by kernel_rfl)) (fun _ _ _ h => h) (Or.inl ⟨by rfl,?_⟩) ?_ ?_
    rotate_left
    ·intro w'
     go_simp
     with_reducible rfl
    rotate_left
    ·simp only [Act.put,z1_,z2_,z3_,i64_w,i32_w]
     rfl
    refine pure_ (i := 13) (N := some 37) (v := undef) (a' := ?_) (bA 18 16383) rfl rfl (any_of HT_.out (by kernel_rfl)) (fun _ _ _ h => h) (Or.inr ⟨by rfl,rfl⟩) ?_ ?_
    rotate_left
    ·simp only [Act.put,z1_,z2_,z3_,i64_w,i32_w]
     rfl
    refine pure_ (i := 14) (N := some 38) (v := undef) (a' := ?_) (bA 18 32767) rfl rfl (any_of HT_.out (by kernel_rfl)) (fun _ _ _ h => h) (Or.inr ⟨by rfl,rfl⟩) ?_ ?_
    rotate_left
    ·simp only [Act.put,z1_,z2_,z3_,i64_w,i32_w]
     rfl
    refine pure_ (i := 15) (N := some 39) (v := undef) (a' := ?_) (bA 18 65535) rfl rfl (any_of HT_.out (by kernel_rfl)) (fun _ _ _ h => h) (Or.inr ⟨by rfl,rfl⟩) ?_ ?_
    rotate_left
    ·simp only [Act.put,z1_,z2_,z3_,i64_w,i32_w]
     rfl
    refine pure_ (i := 16) (N := some 40) (v := ?_) (a' := ?_) (bA 18 131071) rfl rfl (any_of HT_.out (by kernel_rfl)) (fun _ _ _ h => h) (Or.inl ⟨by rfl,?_⟩) ?_ ?_
    rotate_left
    ·intro w'
     go_simp
     with_reducible rfl
    rotate_left
    ·simp only [Act.put,z1_,z2_,z3_,i64_w,i32_w]
     rfl
    refine pure_ (i := 17) (N := some 4) (v := ?_) (a' := ?_) (bA 18 262143) rfl rfl (any_of HT_.out (by kernel_rfl)) (fun _ _ _ h => h) (Or.inl ⟨by rfl,?_⟩) ?_ ?_
    rotate_left
    ·intro w'
     go_simp
     with_reducible rfl
    rotate_left
    ·simp only [Act.put,z1_,z2_,z3_,i64_w,i32_w]
     rfl
    refine done_ (done_of HT_.out (by kernel_rfl)) ?_
    try go_wp2
    go_ret
    exact ⟨by first|rfl|(simp [errW_none,errW_some] <;> rfl)|(simp [*,errW_none,errW_some] <;> rfl),bM HB.out⟩
  ·replace c6 := Bool.eq_false_iff.mpr c6
   subst c6
   rw [if_neg (show ¬ (false = true) by decide)] at H
   obtain rfl := Option.some.inj H
   go_enter Tryz.func5,Tryz.ntmps5
   go_wp2_with (first|((with_reducible refine gate_callee (f := 6) rfl ?_);refine gL 9 Tryz.func6 #[] ?_;(with_reducible refine (l33_alive.calls k  true _ A3.out).mono ?_);rintro e bP ⟨rfl,hb⟩;refine ⟨_,rfl,?_⟩;replace HB := aK (below_step (bM HB.out) hb);(try clear hb);(try clear hk))|((with_reducible refine gate_callee (f := 7) rfl ?_);refine gL 12 Tryz.func7 #[.slice A0 l0.length c0] ?_;(with_reducible refine (l33_small.calls k _ _ l0 false _ ?ad ?ae A5.out).mono ?_);(case ad => exact cM (Kd.C_below az.out HB.out));(case ae => exact aA.out);rintro e w' ⟨rfl,⟨nd,rfl⟩⟩;refine ⟨_,rfl,?_⟩))
   go_ret
   exact ⟨by first|rfl|(simp [errW_none,errW_some] <;> rfl)|(simp [*,errW_none,errW_some] <;> rfl),bM HB.out⟩
 ·replace c4 := Bool.eq_false_iff.mpr c4
  subst c4
  rw [if_neg (show ¬ (false = true) by decide)] at H
  obtain rfl := Option.some.inj H
  go_enter Tryz.func5,Tryz.ntmps5
  go_wp2_with (first|((with_reducible refine gate_callee (f := 6) rfl ?_);refine gL 9 Tryz.func6 #[] ?_;(with_reducible refine (l33_alive.calls k  false _ A3.out).mono ?_);rintro e bQ ⟨rfl,hb⟩;refine ⟨_,rfl,?_⟩;replace HB := aK (below_step (bM HB.out) hb);(try clear hb);(try clear hk)))
  go_ret
  exact ⟨by first|rfl|(simp [errW_none,errW_some] <;> rfl)|(simp [*,errW_none,errW_some] <;> rfl),bM HB.out⟩
end Go.Proofs.YtmgliocboeifdaaGreatDoor.F
