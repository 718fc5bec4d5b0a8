import Derived.Test.YtgadbpljlpclnaaGreatDoorHx0
import Derived.Test.YtgadbpljlpclnaaGreatDoorHx20
import Derived.Test.YtgadbpljlpclnaaGreatDoorHx21
namespace Go.Proofs.YtgadbpljlpclnaaGreatDoor.H
open Go.RowKit Go.Proofs.YtgadbpljlpclnaaGreatDoorW.PrintWords Go.Proofs.YtgadbpljlpclnaaGreatDoorW.PrintLast Go.Proofs.YtgadbpljlpclnaaGreatDoorW.PrintMore
attribute [local go_sem] max2_int min2_int max_two min_two max_three min_three max_four min_four
set_option linter.unusedVariables false
set_option linter.unusedSimpArgs false

/-! ### r26_Bases: function 29 -/
mutual
def r26_Bases.l0 : Nat → List (S28) → List Int → List Int → Int → Option (List Int)
|0,_,_,_,_ => none
|k + 1,x0,x7,x8,x9 => if x9 < (x7.length : Int) then (r26_Bases.l1 k x0 x7 x8 x9 true 0) else (some x8)
def r26_Bases.l1 : Nat → List (S28) → List Int → List Int → Int → Bool → Int → Option (List Int)
|0,_,_,_,_,_,_ => none
|k + 1,x0,x7,x8,x9,ab,aa => if aa < (x7.length : Int) then (if aa = x9 then (r26_Bases.l1 k x0 x7 x8 x9 ab (wrap64 (aa + 1))) else (if 0 ≤ aa then ((r26_Ancestors.f k x0 (rd x7 aa)).bind fun ac => (if 0 ≤ x9 then (if x9 < (x7.length : Int) then ((r05_In.f k ac (rd x7 x9)).bind fun ad => (if ad = true then (r26_Bases.l1 k x0 x7 x8 x9 false (wrap64 (aa + 1))) else (r26_Bases.l1 k x0 x7 x8 x9 ab (wrap64 (aa + 1))))) else (none)) else (none))) else (none))) else (if ab = true then (if 0 ≤ x9 then (if x9 < (x7.length : Int) then (if x8.length < 17592186044416 then (r26_Bases.l0 k x0 x7 (x8 ++ [rd x7 x9]) (wrap64 (x9 + 1))) else (none)) else (none)) else (none)) else (r26_Bases.l0 k x0 x7 x8 (wrap64 (x9 + 1))))
end
def r26_Bases.f (k : Nat) (l0 : List (S28)) (a1 : Int) (a2 : Int) : Option (List Int) := (r26_Ancestors.f k l0 a1).bind fun aa => ((r26_Ancestors.f k l0 a2).bind fun ab => ((r05_And.f k aa ab).bind fun ac => (r26_Bases.l0 k l0 ac (([] : List Int)) 0)))
theorem r26_Bases.mono_l : ∀ k, (∀ y0 y1 y2 y3, LeO (r26_Bases.l0 k y0 y1 y2 y3) (r26_Bases.l0 (k + 1) y0 y1 y2 y3)) ∧ (∀ y0 y1 y2 y3 y4 y5, LeO (r26_Bases.l1 k y0 y1 y2 y3 y4 y5) (r26_Bases.l1 (k + 1) y0 y1 y2 y3 y4 y5))
|0 => ⟨fun _ _ _ _ r h => by simp [r26_Bases.l0] at h,fun _ _ _ _ _ _ r h => by simp [r26_Bases.l1] at h⟩
|k + 1 => by
  obtain ⟨ih0,ih1⟩ := r26_Bases.mono_l k
  refine ⟨?_,?_⟩
  ·intro y0 y1 y2 y3
   unfold r26_Bases.l0
   repeat' (with_reducible first|exact ih1 _ _ _ _ _ _|exact LeO.refl _|exact LeO.none _|refine LeO.ite ?_ ?_|refine LeO.bind ?_ (fun _ => ?_))
  ·intro y0 y1 y2 y3 y4 y5
   unfold r26_Bases.l1
   repeat' (with_reducible first|exact ih0 _ _ _ _|exact ih1 _ _ _ _ _ _|exact r05_In.mono _ _ _|exact r26_Ancestors.mono _ _ _|exact LeO.refl _|exact LeO.none _|refine LeO.ite ?_ ?_|refine LeO.bind ?_ (fun _ => ?_))
theorem r26_Bases.mono : ∀ a0 a1 a2 k, LeO (r26_Bases.f k a0 a1 a2) (r26_Bases.f (k + 1) a0 a1 a2) := by
 intro a0 a1 a2 k
 obtain ⟨ih0,ih1⟩ := r26_Bases.mono_l k
 unfold r26_Bases.f
 repeat' (with_reducible first|exact ih0 _ _ _ _|exact ih1 _ _ _ _ _ _|exact r05_And.mono _ _ _|exact r05_In.mono _ _ _|exact r26_Ancestors.mono _ _ _|exact LeO.refl _|exact LeO.none _|refine LeO.ite ?_ ?_|refine LeO.bind ?_ (fun _ => ?_))
def r26_Bases.T10 : Bool × List (List Nat × List Nat) := (true, [([], []), ([], []), ([0, 1], [0, 1]), ([2], [2]), ([3], [3]), ([3], [3]), ([3], [3]), ([5, 6, 3], [3, 5, 6]), ([7, 3], [3, 7]), ([4, 8, 3, 3], [3, 4, 8]), ([3], [3]), ([3], [3]), ([10, 11, 3], [3, 10, 11]), ([12, 3], [3, 12]), ([9, 13, 9, 3], [3, 9, 13]), ([3, 14], [3, 14])])
def r26_Bases.B10 : List Nat := [0, 0, 3, 7, 15, 15, 15, 111, 239, 511, 15, 15, 3087, 7183, 16383, 32767]
theorem r26_Bases.tab10 : rtab .any (opsOf Tryz.f29 10) = r26_Bases.T10 := by kernel_rfl
theorem r26_Bases.bits10 : waitsOk r26_Bases.T10.2 r26_Bases.B10 = true := by kernel_rfl
set_option maxHeartbeats 4000000 in
set_option maxRecDepth 100000 in
theorem r26_Bases.calls (k : Nat) (A0 : Option Addr) (c0 : Nat) (l0 : List (S28)) (a1 : Int) (a2 : Int) (r : List Int) (w : World) (bO : Kd.C k28 w A0 l0.length l0) (bP : l0.length ≤ c0) (h : r26_Bases.f k l0 a1 a2 = some r) :
  Calls Tryz.prog 29 #[.slice A0 l0.length c0,.int .i64 a1,.int .i64 a2] w fun e w' => ∃ bQ : Value,e = .returned (bQ) ∧ Kd.R (Kd.int .i64) 3 w' w.heap.size (fun _ => True) bQ r ∧ Below w.heap.size w w' := by
 have bp := aK bO
 have bq := aK bP
 clear bO bP
 have HB := aK (Below.refl w.heap.size w)
 unfold r26_Bases.f at h
 have H := h
 clear h
 replace H := Option.bind_eq_some_iff.mp H
 obtain ⟨aN,bR,H⟩ := H
 have A4 := aK bR
 clear bR
 replace H := Option.bind_eq_some_iff.mp H
 obtain ⟨aQ,bS,H⟩ := H
 have A5 := aK bS
 clear bS
 replace H := Option.bind_eq_some_iff.mp H
 obtain ⟨ac,bT,H⟩ := H
 have A6 := aK bT
 clear bT
 obtain ⟨a5,ap⟩ : ∃ y_ : List Int,y_ = (([] : List Int)) := ⟨_,rfl⟩
 replace H : (r26_Bases.l0 k l0 ac a5 0) = some r := by first|(rw [ap];with_reducible exact H)|(have aR := (Option.bind_some _ _).symm.trans H;rw [ap];with_reducible exact aR)|(have aR := (Option.bind_some _ _).symm.trans H;with_reducible exact aR)|with_reducible exact H|(rw [ap];exact H)|exact H
 have aJ := aK ap
 clear ap
 have H' := aK H
 clear H
 go_enter Tryz.func29,Tryz.ntmps29
 go_wp2_with (first|((with_reducible refine gate_callee (f := 23) rfl ?_);refine gL 14 Tryz.func23 #[.slice A0 l0.length c0,.int .i64 a1] ?_;(with_reducible refine (r26_Ancestors.calls k _ _ l0 a1 aN _ ?af ?ag A4.out).mono ?_);(case af => exact cM bp.out);(case ag => exact bq.out);rintro e w7 ⟨b8,rfl,an,hb⟩;refine ⟨_,rfl,?_⟩;have ah := aK (Kd.R_lower an (below_size (bM HB.out)));replace HB := aK (below_step (bM HB.out) hb);(try clear hb);(try clear hk);(try clear an))|((with_reducible refine gate_callee (f := 23) rfl ?_);refine gL 17 Tryz.func23 #[.slice A0 l0.length c0,.int .i64 a2] ?_;(with_reducible refine (r26_Ancestors.calls k _ _ l0 a2 aQ _ ?af ?ag A5.out).mono ?_);(case af => exact cM (Kd.C_below bp.out HB.out));(case ag => exact bq.out);rintro e w8 ⟨b9,rfl,an,hb⟩;refine ⟨_,rfl,?_⟩;have ak := aK (Kd.R_lower (Kd.R_new' an (Kd.R_lt (rM ah.out))) (below_size (bM HB.out)));replace ah := aK (Kd.R_elder' (rM ah.out) (Kd.R_base an) hb);replace HB := aK (below_step (bM HB.out) hb);(try clear hb);(try clear hk);(try clear an);obtain ⟨ca,cb,cc⟩ := Kd.R_slice ah.out;subst cc;obtain ⟨bv,bx,bz⟩ := Kd.R_slice ak.out;subst bz)|((with_reducible refine gate_callee (f := 49) rfl ?_);refine gL 18 Tryz.func49 #[.slice ca aN.length cb,.slice bv aQ.length bx] ?_;(with_reducible refine (r05_And.calls k _ _ aN _ _ aQ ac _ ?af ?ag ?a6 ?a7 A6.out).mono ?_);(case af => exact cM (Kd.R_reads' ah.out).2.2);(case ag => exact (Kd.R_reads' ah.out).2.1);(case a6 => exact cM (Kd.R_reads' ak.out).2.2);(case a7 => exact (Kd.R_reads' ak.out).2.1);rintro e cj ⟨a8,rfl,an,hb⟩;refine ⟨_,rfl,?_⟩;have ay := aK (Kd.R_lower (Kd.R_new' (Kd.R_new' an (Kd.R_lt (rM ah.out))) (Kd.R_lt (rM ak.out))) (below_size (bM HB.out)));replace ah := aK (Kd.R_elder' (rM ah.out) (Kd.R_base an) hb);replace ak := aK (Kd.R_elder' (rM ak.out) (Kd.R_base an) hb);replace HB := aK (below_step (bM HB.out) hb);(try clear hb);(try clear hk);(try clear an))|((with_reducible refine gate_dst (N := 19) rfl ?_);refine Kd.R_lit (Kd.int .i64) _ 3 ?hg (N := 19) ?hd (xs := ([] : List Int)) (inner := []) (ok := fun _ => True) (okp := fun _ => True) ?hr ?hp (fun _ hk => hk) trivial (Below.refl _ _) (Nat.le_refl _) (by simp) ?_;(case hd => rfl);(case hg => rfl);(case hr => first|(go_simp;done)|(go_simp;rfl));(case hp => exact (Reps.none _ _));intro cd ck aD hb hg_ hnew_;clear hg_ hnew_;(first|rw [← aJ.out] at aD|(simp only [Int.reduceToNat] at aD;rw [← aJ.out] at aD));have a9 := aK (Kd.R_lower (Kd.R_new' (Kd.R_new' (Kd.R_new' aD (Kd.R_lt (rM ah.out))) (Kd.R_lt (rM ak.out))) (Kd.R_lt (rM ay.out))) (below_size (bM HB.out)));replace ay := aK (Kd.R_elder' (rM ay.out) (Kd.R_base aD) hb);replace HB := aK (below_step (bM HB.out) hb);clear hb aD))
 go_loopg [8,9] k (fun kq v8 v9 w' => ∃ (aq : List Int) (ad : Int),v9 = .int .i64 ad ∧ Aside0 (r26_Bases.l0 kq l0 ac aq ad = some r) ∧ Aside0 (kq ≤ k) ∧ Aside0 (Kd.R (Kd.int .i64) 3 w' w.heap.size (fun k_ => some k_ ≠ (v8 : Value).ownBlock) a8 ac) ∧ Aside0 (Kd.R (Kd.int .i64) 3 w' w.heap.size (fun k_ => some k_ ≠ (a8 : Value).ownBlock) v8 aq) ∧ Aside0 (Below w.heap.size w w'))
 case atStart => exact ⟨(a5),(0),(by first|rfl|(simp;done)|(simp [*];done)),H',⟨Nat.le_refl _⟩,⟨by refine rO ?_;exact Kd.R_mono ay.out (fun _ hk => hk.2)⟩,⟨by refine rO ?_;exact Kd.R_mono a9.out (fun _ hk => hk.2)⟩,⟨bM HB.out⟩⟩
 case round =>
  clear H'
  try clear p2
  obtain ⟨aq,ad,rfl,HA,aH,aa,ae,HB⟩ := hrel
  cases gk with
 |zero => exact absurd HA.out (by simp [r26_Bases.l0])
 |succ k1 =>
   have H := HA.out
   clear HA
   simp only [r26_Bases.l0] at H
   by_cases aT : ad < (ac.length : Int)
   ·rw [if_pos aT] at H
    have aM := decide_eq_true aT
    clear aT
    have H' := aK H
    clear H
    obtain ⟨ba,aU,bB⟩ := Kd.R_slice aa.out
    subst bB
    go_wp2
    go_loopg [10,11] k1 (fun kq ce cf w' => ∃ (ao : Bool) (ab : Int),ce = .bool ao ∧ cf = .int .i64 ab ∧ Aside0 (r26_Bases.l1 kq l0 ac aq ad ao ab = some r) ∧ Aside0 (kq ≤ k1) ∧ Aside0 (Kd.R (Kd.int .i64) 3 w' w.heap.size (fun k_ => some k_ ≠ (u8 : Value).ownBlock) (.slice ba ac.length aU) ac) ∧ Aside0 (Kd.R (Kd.int .i64) 3 w' w.heap.size (fun k_ => some k_ ≠ ((.slice ba ac.length aU) : Value).ownBlock) u8 aq) ∧ Aside0 (Below w.heap.size w w'))
    case atStart => exact ⟨(true),(0),(by first|rfl|(simp;done)|(simp [*];done)),(by first|rfl|(simp;done)|(simp [*];done)),H',⟨Nat.le_refl _⟩,⟨rM aa.out⟩,⟨rM ae.out⟩,⟨bM HB.out⟩⟩
    case round =>
     clear H'
     try clear p2
     try clear aT
     try clear aM
     try clear p2
     obtain ⟨ao,ab,rfl,rfl,HA,aI,aa,ae,HB⟩ := hrel
     cases gk with
    |zero => exact absurd HA.out (by simp [r26_Bases.l1])
    |succ k2 =>
      have H := HA.out
      clear HA
      simp only [r26_Bases.l1] at H
      by_cases a4 : ab < (ac.length : Int)
      ·rw [if_pos a4] at H
       have bb := decide_eq_true a4
       clear a4
       by_cases aV : ab = ad
       ·rw [if_pos aV] at H
        have bc := beq_iff_eq.mpr aV
        have bd := bne_eq_false_iff_eq.mpr aV
        clear aV
        have H' := aK H
        clear H
        try go_wp2
        have az := aK (Kd.R_drew aa.out)
        have aA := aK (Kd.R_drew ae.out)
        have aC := aK (below_drew1 HB.out)
        clear aa
        clear ae
        clear HB
        have aa := az
        have ae := aA
        have HB := aC
        clear az aA aC
        refine start_ (n := 16) (S := fun w' => True) (ds := []) (bA 16 0) (by kernel_rfl) rfl rfl trivial (fun hHeld => ?_);refine with_tabW r26_Bases.tab10 r26_Bases.bits10 (fun HT_ HW_ => ?_)
        generalize wr.drew = w18 at aa ae HB hHeld ⊢
        refine pure_ (i := 0) (N := some 32) (v := ?_) (a' := ?_) (bA 16 1) rfl rfl (any_of HT_.out (by kernel_rfl)) (fun _ _ _ h => h) (Or.inl ⟨by rfl,?_⟩) ?_ ?_
        rotate_left
        ·intro w'
         go_simp
         with_reducible rfl
        rotate_left
        ·simp only [Act.put,z1_,z2_,z3_,i64_w,i32_w]
         rfl
        refine pure_ (i := 1) (N := some 33) (v := ?_) (a' := ?_) (bA 16 3) rfl rfl (any_of HT_.out (by kernel_rfl)) (fun _ _ _ h => h) (Or.inl ⟨by rfl,?_⟩) ?_ ?_
        rotate_left
        ·intro w'
         go_simp
         with_reducible rfl
        rotate_left
        ·simp only [Act.put,z1_,z2_,z3_,i64_w,i32_w]
         rfl
        refine pure_ (i := 2) (N := some 34) (v := ?_) (a' := ?_) (bA 16 7) rfl rfl (any_of HT_.out (by kernel_rfl)) (fun _ _ _ h => h) (Or.inl ⟨by rfl,?_⟩) ?_ ?_
        rotate_left
        ·intro w'
         go_simp
         with_reducible rfl
        rotate_left
        ·simp only [Act.put,z1_,z2_,z3_,i64_w,i32_w]
         rfl
        refine pure_ (i := 3) (N := some 35) (v := ?_) (a' := ?_) (bA 16 15) rfl rfl (any_of HT_.out (by kernel_rfl)) (fun _ _ _ h => h) (Or.inl ⟨by rfl,?_⟩) ?_ ?_
        rotate_left
        ·intro w'
         go_simp
         with_reducible rfl
        rotate_left
        ·simp only [Act.put,z1_,z2_,z3_,i64_w,i32_w]
         rfl
        refine pure_ (i := 4) (N := some 36) (v := undef) (a' := ?_) (bA 16 31) rfl rfl (any_of HT_.out (by kernel_rfl)) (fun _ _ _ h => h) (Or.inr ⟨by rfl,rfl⟩) ?_ ?_
        rotate_left
        ·simp only [Act.put,z1_,z2_,z3_,i64_w,i32_w]
         rfl
        refine pure_ (i := 5) (N := some 37) (v := undef) (a' := ?_) (bA 16 63) rfl rfl (any_of HT_.out (by kernel_rfl)) (fun _ _ _ h => h) (Or.inr ⟨by rfl,rfl⟩) ?_ ?_
        rotate_left
        ·simp only [Act.put,z1_,z2_,z3_,i64_w,i32_w]
         rfl
        refine pure_ (i := 6) (N := some 38) (v := undef) (a' := ?_) (bA 16 127) rfl rfl (any_of HT_.out (by kernel_rfl)) (fun _ _ _ h => h) (Or.inr ⟨by rfl,rfl⟩) ?_ ?_
        rotate_left
        ·simp only [Act.put,z1_,z2_,z3_,i64_w,i32_w]
         rfl
        refine pure_ (i := 7) (N := some 39) (v := undef) (a' := ?_) (bA 16 255) rfl rfl (any_of HT_.out (by kernel_rfl)) (fun _ _ _ h => h) (Or.inr ⟨by rfl,rfl⟩) ?_ ?_
        rotate_left
        ·simp only [Act.put,z1_,z2_,z3_,i64_w,i32_w]
         rfl
        refine pure_ (i := 8) (N := some 40) (v := undef) (a' := ?_) (bA 16 511) rfl rfl (any_of HT_.out (by kernel_rfl)) (fun _ _ _ h => h) (Or.inr ⟨by rfl,rfl⟩) ?_ ?_
        rotate_left
        ·simp only [Act.put,z1_,z2_,z3_,i64_w,i32_w]
         rfl
        refine pure_ (i := 9) (N := some 41) (v := undef) (a' := ?_) (bA 16 1023) rfl rfl (any_of HT_.out (by kernel_rfl)) (fun _ _ _ h => h) (Or.inr ⟨by rfl,rfl⟩) ?_ ?_
        rotate_left
        ·simp only [Act.put,z1_,z2_,z3_,i64_w,i32_w]
         rfl
        refine pure_ (i := 10) (N := some 42) (v := undef) (a' := ?_) (bA 16 2047) rfl rfl (any_of HT_.out (by kernel_rfl)) (fun _ _ _ h => h) (Or.inr ⟨by rfl,rfl⟩) ?_ ?_
        rotate_left
        ·simp only [Act.put,z1_,z2_,z3_,i64_w,i32_w]
         rfl
        refine pure_ (i := 11) (N := some 43) (v := undef) (a' := ?_) (bA 16 4095) rfl rfl (any_of HT_.out (by kernel_rfl)) (fun _ _ _ h => h) (Or.inr ⟨by rfl,rfl⟩) ?_ ?_
        rotate_left
        ·simp only [Act.put,z1_,z2_,z3_,i64_w,i32_w]
         rfl
        refine pure_ (i := 12) (N := some 44) (v := undef) (a' := ?_) (bA 16 8191) rfl rfl (any_of HT_.out (by kernel_rfl)) (fun _ _ _ h => h) (Or.inr ⟨by rfl,rfl⟩) ?_ ?_
        rotate_left
        ·simp only [Act.put,z1_,z2_,z3_,i64_w,i32_w]
         rfl
        refine pure_ (i := 13) (N := some 45) (v := undef) (a' := ?_) (bA 16 16383) rfl rfl (any_of HT_.out (by kernel_rfl)) (fun _ _ _ h => h) (Or.inr ⟨by rfl,rfl⟩) ?_ ?_
        rotate_left
        ·simp only [Act.put,z1_,z2_,z3_,i64_w,i32_w]
         rfl
        refine pure_ (i := 14) (N := some 46) (v := undef) (a' := ?_) (bA 16 32767) rfl rfl (any_of HT_.out (by kernel_rfl)) (fun _ _ _ h => h) (Or.inr ⟨by rfl,rfl⟩) ?_ ?_
        rotate_left
        ·simp only [Act.put,z1_,z2_,z3_,i64_w,i32_w]
         rfl
        refine pure_ (i := 15) (N := some 47) (v := ?_) (a' := ?_) (bA 16 65535) rfl rfl (any_of HT_.out (by kernel_rfl)) (fun _ _ _ h => h) (Or.inl ⟨by rfl,?_⟩) ?_ ?_
        rotate_left
        ·intro w'
         go_simp
         with_reducible rfl
        rotate_left
        ·simp only [Act.put,z1_,z2_,z3_,i64_w,i32_w]
         rfl
        refine done_ (done_of HT_.out (by kernel_rfl)) ?_
        try go_wp2
        go_roundg k2
        case measure => have := aH.out;have := aI.out;omega
        case rel => exact ⟨(ao),(wrap64 (ab + 1)),(by first|rfl|(simp;done)|(simp [*];done)),(by first|rfl|(simp;done)|(simp [*];done)),H',⟨by have := aH.out;have := aI.out;omega⟩,⟨rM aa.out⟩,⟨rM ae.out⟩,⟨bM HB.out⟩⟩
       ·rw [if_neg aV] at H
        have bc := beq_eq_false_iff_ne.mpr aV
        have bd := bne_iff_ne.mpr aV
        obtain ⟨bU,H⟩ := iS H
        have bV := decide_eq_true bU
        clear bU
        replace H := Option.bind_eq_some_iff.mp H
        obtain ⟨aE,be,H⟩ := H
        have bW := aK be
        clear be
        obtain ⟨bX,H⟩ := iS H
        have bY := decide_eq_true bX
        clear bX
        obtain ⟨bZ,H⟩ := iS H
        have b1 := decide_eq_true bZ
        clear bZ
        replace H := Option.bind_eq_some_iff.mp H
        obtain ⟨bC,bf,H⟩ := H
        have b2 := aK bf
        clear bf
        by_cases br : bC = true
        ·subst br
         rw [if_pos rfl] at H
         have H' := aK H
         clear H
         try go_wp2
         have az := aK (Kd.R_drew aa.out)
         have aA := aK (Kd.R_drew ae.out)
         have aC := aK (below_drew1 HB.out)
         clear aa
         clear ae
         clear HB
         have aa := az
         have ae := aA
         have HB := aC
         clear az aA aC
         have au : 0 ≤ (ab : Int) := dA
         have av : ab < (ac.length : Int) := dA
         obtain ⟨al,aW,ai⟩ := Kd.at_int (Kd.R_reads' aa.out).2.2 ab au av
         cases aW
         replace au := eq_true au
         replace av := eq_true av
         have aw : 0 ≤ (ad : Int) := dA
         have ax : ad < (ac.length : Int) := dA
         obtain ⟨aG,aX,aj⟩ := Kd.at_int (Kd.R_reads' aa.out).2.2 ad aw ax
         obtain rfl : al = aG := (by injection aX)
         replace aw := eq_true aw
         replace ax := eq_true ax
         refine start_ (n := 16) (S := fun w' => w'.cell? (al.add (ab).toNat) = some (.int .i64 (rd ac ab)) ∧ w'.cell? (al.add (ad).toNat) = some (.int .i64 (rd ac ad))) (ds := []) (bA 16 0) (by kernel_rfl) rfl rfl ⟨ai,aj⟩ (fun hHeld => ?_);refine with_tabW r26_Bases.tab10 r26_Bases.bits10 (fun HT_ HW_ => ?_)
         generalize wr.drew = w25 at aa ae HB ai aj hHeld ⊢
         refine pure_ (i := 0) (N := some 32) (v := ?_) (a' := ?_) (bA 16 1) rfl rfl (any_of HT_.out (by kernel_rfl)) (fun _ _ _ h => h) (Or.inl ⟨by rfl,?_⟩) ?_ ?_
         rotate_left
         ·intro w'
          go_simp
          with_reducible rfl
         rotate_left
         ·simp only [Act.put,z1_,z2_,z3_,i64_w,i32_w]
          rfl
         refine pure_ (i := 1) (N := some 33) (v := ?_) (a' := ?_) (bA 16 3) rfl rfl (any_of HT_.out (by kernel_rfl)) (fun _ _ _ h => h) (Or.inl ⟨by rfl,?_⟩) ?_ ?_
         rotate_left
         ·intro w'
          go_simp
          with_reducible rfl
         rotate_left
         ·simp only [Act.put,z1_,z2_,z3_,i64_w,i32_w]
          rfl
         refine pure_ (i := 2) (N := some 34) (v := ?_) (a' := ?_) (bA 16 7) rfl rfl (any_of HT_.out (by kernel_rfl)) (fun _ _ _ h => h) (Or.inl ⟨by rfl,?_⟩) ?_ ?_
         rotate_left
         ·intro w'
          go_simp
          with_reducible rfl
         rotate_left
         ·simp only [Act.put,z1_,z2_,z3_,i64_w,i32_w]
          rfl
         refine pure_ (i := 3) (N := some 35) (v := ?_) (a' := ?_) (bA 16 15) rfl rfl (any_of HT_.out (by kernel_rfl)) (fun _ _ _ h => h) (Or.inl ⟨by rfl,?_⟩) ?_ ?_
         rotate_left
         ·intro w'
          go_simp
          with_reducible rfl
         rotate_left
         ·simp only [Act.put,z1_,z2_,z3_,i64_w,i32_w]
          rfl
         refine pure_ (i := 4) (N := some 36) (v := ?_) (a' := ?_) (bA 16 31) rfl rfl (any_of HT_.out (by kernel_rfl)) (fun _ _ _ h => h) (Or.inl ⟨by rfl,?_⟩) ?_ ?_
         rotate_left
         ·intro w'
          go_simp
          with_reducible rfl
         rotate_left
         ·simp only [Act.put,z1_,z2_,z3_,i64_w,i32_w]
          rfl
         refine pure_ (i := 5) (N := some 37) (v := ?_) (a' := ?_) (bA 16 63) rfl rfl (any_of HT_.out (by kernel_rfl)) (fun _ _ _ h => h) (Or.inl ⟨by rfl,?_⟩) ?_ ?_
         rotate_left
         ·intro w'
          go_simp
          with_reducible rfl
         rotate_left
         ·simp only [Act.put,z1_,z2_,z3_,i64_w,i32_w]
          rfl
         refine pure_ (i := 6) (N := some 38) (v := ?_) (a' := ?_) (bA 16 127) rfl rfl (any_of HT_.out (by kernel_rfl)) (fun _ _ _ h => h) (Or.inl ⟨by rfl,?_⟩) ?_ ?_
         rotate_left
         ·intro w'
          go_simp
          with_reducible rfl
         rotate_left
         ·simp only [Act.put,z1_,z2_,z3_,i64_w,i32_w]
          rfl
         refine pure_ (i := 7) (N := some 39) (v := ?_) (a' := ?_) (bA 16 255) rfl rfl (any_of HT_.out (by kernel_rfl)) (fun _ _ _ h => h) (Or.inl ⟨by rfl,?_⟩) ?_ ?_
         rotate_left
         ·intro w'
          go_simp
          with_reducible rfl
         rotate_left
         ·simp only [Act.put,z1_,z2_,z3_,i64_w,i32_w]
          rfl
         refine pure_ (i := 10) (N := some 42) (v := ?_) (a' := ?_) (bA 16 1279) rfl rfl (any_of HT_.out (by kernel_rfl)) (fun _ _ _ h => h) (Or.inl ⟨by rfl,?_⟩) ?_ ?_
         rotate_left
         ·intro w'
          go_simp
          with_reducible rfl
         rotate_left
         ·simp only [Act.put,z1_,z2_,z3_,i64_w,i32_w]
          rfl
         refine pure_ (i := 11) (N := some 43) (v := ?_) (a' := ?_) (bA 16 3327) rfl rfl (any_of HT_.out (by kernel_rfl)) (fun _ _ _ h => h) (Or.inl ⟨by rfl,?_⟩) ?_ ?_
         rotate_left
         ·intro w'
          go_simp
          with_reducible rfl
         rotate_left
         ·simp only [Act.put,z1_,z2_,z3_,i64_w,i32_w]
          rfl
         refine pure_ (i := 12) (N := some 44) (v := ?_) (a' := ?_) (bA 16 7423) rfl rfl (any_of HT_.out (by kernel_rfl)) (fun _ _ _ h => h) (Or.inl ⟨by rfl,?_⟩) ?_ ?_
         rotate_left
         ·intro w'
          go_simp
          with_reducible rfl
         rotate_left
         ·simp only [Act.put,z1_,z2_,z3_,i64_w,i32_w]
          rfl
         refine take_ (i := 8) (N := some 40) (v := ?_) (a' := ?_) (bA 16 7679) rfl rfl (take_ofW HT_.out HW_.out (by kernel_rfl)) (fun _ _ _ h => h) (Or.inl ⟨by rfl,?_⟩) hHeld ?_ ?_
         rotate_left
         ·rintro w' ⟨s0,s1⟩
          go_simp
          with_reducible rfl
         rotate_left
         ·simp only [Act.put,z1_,z2_,z3_,i64_w,i32_w]
          rfl
         refine take_ (i := 13) (N := some 45) (v := ?_) (a' := ?_) (bA 16 15871) rfl rfl (take_ofW HT_.out HW_.out (by kernel_rfl)) (fun _ _ _ h => h) (Or.inl ⟨by rfl,?_⟩) hHeld ?_ ?_
         rotate_left
         ·rintro w' ⟨s0,s1⟩
          go_simp
          with_reducible rfl
         rotate_left
         ·simp only [Act.put,z1_,z2_,z3_,i64_w,i32_w]
          rfl
         refine one_ (i := 9) (N := some 41) (bA 16 16383) rfl rfl (one_of HT_.out (by kernel_rfl)) (by decide) (fun K hK => ?_)
         refine goes_ Tryz.func23 (by kernel_rfl) rfl #[.slice A0 l0.length c0,.int .i64 (rd ac ab)] (by rfl) rfl rfl (by (try simp only [z4_,z5_,z6_]);first|done|rfl|(simp only [z7_,z8_];rfl)) ?_
         with_reducible refine (r26_Ancestors.calls k2 _ _ l0 (rd ac ab) aE _ ?af ?ag bW.out).mono ?_
         (case af => exact cM (Kd.C_below bp.out HB.out))
         (case ag => exact bq.out)
         rintro e cl ⟨bD,rfl,an,hb⟩
         have aY := (hb.cell (World.block_lt_of_cell? _ _ (hHeld.1))).trans (hHeld.1)
         have aZ := (hb.cell (World.block_lt_of_cell? _ _ (hHeld.2))).trans (hHeld.2)
         refine ⟨_,rfl,?_⟩
         have az := aK (Kd.R_elder' (rM aa.out) (Kd.R_base an) hb)
         have aA := aK (Kd.R_elder' (rM ae.out) (Kd.R_base an) hb)
         have aC := aK (Kd.R_lower (Kd.R_new' (Kd.R_new' an (Kd.R_lt (rM aa.out))) (Kd.R_lt (rM ae.out))) (below_size (bM HB.out)))
         have bg := aK (below_step (bM HB.out) hb)
         clear aa
         clear ae
         clear HB
         have aa := az
         have ae := aA
         have am := aC
         have HB := bg
         clear az aA aC bg
         (try clear hb)
         (try clear hk)
         (try clear an)
         obtain ⟨bE,bF,bh⟩ := Kd.R_slice am.out
         (first|subst bh|(injection bh with f1_ f2_ f3_;have bH := f1_.symm;have bI := f3_.symm;clear f1_ f2_ f3_;subst bH;subst bI))
         refine hK.out _ _ ⟨aY,aZ⟩ (fun hHeld => ?_)
         clear hK K
         refine norm_ (a' := ?_) ?_ ?_
         rotate_left
         ·show Act.put _ (some 41) _ = _
          simp only [Act.put,z1_,z2_,z3_,i64_w,i32_w]
          rfl
         refine one_ (i := 14) (N := some 46) (bA 16 32767) rfl rfl (one_of HT_.out (by kernel_rfl)) (by decide) (fun K hK => ?_)
         refine goes_ Tryz.func33 (by kernel_rfl) rfl #[.slice bE aE.length bF,.int .i64 (rd ac ad)] (by rfl) rfl rfl (by (try simp only [z4_,z5_,z6_]);first|done|rfl|(simp only [z7_,z8_];rfl)) ?_
         with_reducible refine (r05_In.calls k2 _ _ aE (rd ac ad) true _ ?af ?ag b2.out).mono ?_
         (case af => exact cM (Kd.R_reads' am.out).2.2)
         (case ag => exact (Kd.R_reads' am.out).2.1)
         rintro e w' ⟨rfl,⟨nd,rfl⟩⟩
         refine ⟨_,rfl,?_⟩
         refine hK.out _ _ ⟨hHeld.1,hHeld.2⟩ (fun hHeld => ?_)
         clear hK K
         refine norm_ (a' := ?_) ?_ ?_
         rotate_left
         ·show Act.put _ (some 46) _ = _
          simp only [Act.put,z1_,z2_,z3_,i64_w,i32_w]
          rfl
         refine pure_ (i := 15) (N := some 47) (v := ?_) (a' := ?_) (bA 16 65535) rfl rfl (any_of HT_.out (by kernel_rfl)) (fun _ _ _ h => h) (Or.inl ⟨by rfl,?_⟩) ?_ ?_
         rotate_left
         ·intro w'
          go_simp
          with_reducible rfl
         rotate_left
         ·simp only [Act.put,z1_,z2_,z3_,i64_w,i32_w]
          rfl
         refine done_ (done_of HT_.out (by kernel_rfl)) ?_
         try go_wp2
         go_roundg k2
         case measure => have := aH.out;have := aI.out;omega
         case rel => exact ⟨(false),(wrap64 (ab + 1)),(by first|rfl|(simp;done)|(simp [*];done)),(by first|rfl|(simp;done)|(simp [*];done)),H',⟨by have := aH.out;have := aI.out;omega⟩,⟨by refine rO ?_;exact Kd.R_mono aa.out (fun _ hk => hk.1)⟩,⟨by refine rO ?_;exact Kd.R_mono ae.out (fun _ hk => hk.1)⟩,⟨bM HB.out⟩⟩
        ·replace br := Bool.eq_false_iff.mpr br
         subst br
         rw [if_neg (show ¬ (false = true) by decide)] at H
         have H' := aK H
         clear H
         try go_wp2
         have az := aK (Kd.R_drew aa.out)
         have aA := aK (Kd.R_drew ae.out)
         have aC := aK (below_drew1 HB.out)
         clear aa
         clear ae
         clear HB
         have aa := az
         have ae := aA
         have HB := aC
         clear az aA aC
         have au : 0 ≤ (ab : Int) := dA
         have av : ab < (ac.length : Int) := dA
         obtain ⟨al,aW,ai⟩ := Kd.at_int (Kd.R_reads' aa.out).2.2 ab au av
         cases aW
         replace au := eq_true au
         replace av := eq_true av
         have aw : 0 ≤ (ad : Int) := dA
         have ax : ad < (ac.length : Int) := dA
         obtain ⟨aG,aX,aj⟩ := Kd.at_int (Kd.R_reads' aa.out).2.2 ad aw ax
         obtain rfl : al = aG := (by injection aX)
         replace aw := eq_true aw
         replace ax := eq_true ax
         refine start_ (n := 16) (S := fun w' => w'.cell? (al.add (ab).toNat) = some (.int .i64 (rd ac ab)) ∧ w'.cell? (al.add (ad).toNat) = some (.int .i64 (rd ac ad))) (ds := []) (bA 16 0) (by kernel_rfl) rfl rfl ⟨ai,aj⟩ (fun hHeld => ?_);refine with_tabW r26_Bases.tab10 r26_Bases.bits10 (fun HT_ HW_ => ?_)
         generalize wr.drew = w28 at aa ae HB ai aj hHeld ⊢
         refine pure_ (i := 0) (N := some 32) (v := ?_) (a' := ?_) (bA 16 1) rfl rfl (any_of HT_.out (by kernel_rfl)) (fun _ _ _ h => h) (Or.inl ⟨by rfl,?_⟩) ?_ ?_
         rotate_left
         ·intro w'
          go_simp
          with_reducible rfl
         rotate_left
         ·simp only [Act.put,z1_,z2_,z3_,i64_w,i32_w]
          rfl
         refine pure_ (i := 1) (N := some 33) (v := ?_) (a' := ?_) (bA 16 3) rfl rfl (any_of HT_.out (by kernel_rfl)) (fun _ _ _ h => h) (Or.inl ⟨by rfl,?_⟩) ?_ ?_
         rotate_left
         ·intro w'
          go_simp
          with_reducible rfl
         rotate_left
         ·simp only [Act.put,z1_,z2_,z3_,i64_w,i32_w]
          rfl
         refine pure_ (i := 2) (N := some 34) (v := ?_) (a' := ?_) (bA 16 7) rfl rfl (any_of HT_.out (by kernel_rfl)) (fun _ _ _ h => h) (Or.inl ⟨by rfl,?_⟩) ?_ ?_
         rotate_left
         ·intro w'
          go_simp
          with_reducible rfl
         rotate_left
         ·simp only [Act.put,z1_,z2_,z3_,i64_w,i32_w]
          rfl
         refine pure_ (i := 3) (N := some 35) (v := ?_) (a' := ?_) (bA 16 15) rfl rfl (any_of HT_.out (by kernel_rfl)) (fun _ _ _ h => h) (Or.inl ⟨by rfl,?_⟩) ?_ ?_
         rotate_left
         ·intro w'
          go_simp
          with_reducible rfl
         rotate_left
         ·simp only [Act.put,z1_,z2_,z3_,i64_w,i32_w]
          rfl
         refine pure_ (i := 4) (N := some 36) (v := ?_) (a' := ?_) (bA 16 31) rfl rfl (any_of HT_.out (by kernel_rfl)) (fun _ _ _ h => h) (Or.inl ⟨by rfl,?_⟩) ?_ ?_
         rotate_left
         ·intro w'
          go_simp
          with_reducible rfl
         rotate_left
         ·simp only [Act.put,z1_,z2_,z3_,i64_w,i32_w]
          rfl
         refine pure_ (i := 5) (N := some 37) (v := ?_) (a' := ?_) (bA 16 63) rfl rfl (any_of HT_.out (by kernel_rfl)) (fun _ _ _ h => h) (Or.inl ⟨by rfl,?_⟩) ?_ ?_
         rotate_left
         ·intro w'
          go_simp
          with_reducible rfl
         rotate_left
         ·simp only [Act.put,z1_,z2_,z3_,i64_w,i32_w]
          rfl
         refine pure_ (i := 6) (N := some 38) (v := ?_) (a' := ?_) (bA 16 127) rfl rfl (any_of HT_.out (by kernel_rfl)) (fun _ _ _ h => h) (Or.inl ⟨by rfl,?_⟩) ?_ ?_
         rotate_left
         ·intro w'
          go_simp
          with_reducible rfl
         rotate_left
         ·simp only [Act.put,z1_,z2_,z3_,i64_w,i32_w]
          rfl
         refine pure_ (i := 7) (N := some 39) (v := ?_) (a' := ?_) (bA 16 255) rfl rfl (any_of HT_.out (by kernel_rfl)) (fun _ _ _ h => h) (Or.inl ⟨by rfl,?_⟩) ?_ ?_
         rotate_left
         ·intro w'
          go_simp
          with_reducible rfl
         rotate_left
         ·simp only [Act.put,z1_,z2_,z3_,i64_w,i32_w]
          rfl
         refine pure_ (i := 10) (N := some 42) (v := ?_) (a' := ?_) (bA 16 1279) rfl rfl (any_of HT_.out (by kernel_rfl)) (fun _ _ _ h => h) (Or.inl ⟨by rfl,?_⟩) ?_ ?_
         rotate_left
         ·intro w'
          go_simp
          with_reducible rfl
         rotate_left
         ·simp only [Act.put,z1_,z2_,z3_,i64_w,i32_w]
          rfl
         refine pure_ (i := 11) (N := some 43) (v := ?_) (a' := ?_) (bA 16 3327) rfl rfl (any_of HT_.out (by kernel_rfl)) (fun _ _ _ h => h) (Or.inl ⟨by rfl,?_⟩) ?_ ?_
         rotate_left
         ·intro w'
          go_simp
          with_reducible rfl
         rotate_left
         ·simp only [Act.put,z1_,z2_,z3_,i64_w,i32_w]
          rfl
         refine pure_ (i := 12) (N := some 44) (v := ?_) (a' := ?_) (bA 16 7423) rfl rfl (any_of HT_.out (by kernel_rfl)) (fun _ _ _ h => h) (Or.inl ⟨by rfl,?_⟩) ?_ ?_
         rotate_left
         ·intro w'
          go_simp
          with_reducible rfl
         rotate_left
         ·simp only [Act.put,z1_,z2_,z3_,i64_w,i32_w]
          rfl
         refine take_ (i := 8) (N := some 40) (v := ?_) (a' := ?_) (bA 16 7679) rfl rfl (take_ofW HT_.out HW_.out (by kernel_rfl)) (fun _ _ _ h => h) (Or.inl ⟨by rfl,?_⟩) hHeld ?_ ?_
         rotate_left
         ·rintro w' ⟨s0,s1⟩
          go_simp
          with_reducible rfl
         rotate_left
         ·simp only [Act.put,z1_,z2_,z3_,i64_w,i32_w]
          rfl
         refine take_ (i := 13) (N := some 45) (v := ?_) (a' := ?_) (bA 16 15871) rfl rfl (take_ofW HT_.out HW_.out (by kernel_rfl)) (fun _ _ _ h => h) (Or.inl ⟨by rfl,?_⟩) hHeld ?_ ?_
         rotate_left
         ·rintro w' ⟨s0,s1⟩
          go_simp
          with_reducible rfl
         rotate_left
         ·simp only [Act.put,z1_,z2_,z3_,i64_w,i32_w]
          rfl
         refine one_ (i := 9) (N := some 41) (bA 16 16383) rfl rfl (one_of HT_.out (by kernel_rfl)) (by decide) (fun K hK => ?_)
         refine goes_ Tryz.func23 (by kernel_rfl) rfl #[.slice A0 l0.length c0,.int .i64 (rd ac ab)] (by rfl) rfl rfl (by (try simp only [z4_,z5_,z6_]);first|done|rfl|(simp only [z7_,z8_];rfl)) ?_
         with_reducible refine (r26_Ancestors.calls k2 _ _ l0 (rd ac ab) aE _ ?af ?ag bW.out).mono ?_
         (case af => exact cM (Kd.C_below bp.out HB.out))
         (case ag => exact bq.out)
         rintro e cm ⟨bD,rfl,an,hb⟩
         have aY := (hb.cell (World.block_lt_of_cell? _ _ (hHeld.1))).trans (hHeld.1)
         have aZ := (hb.cell (World.block_lt_of_cell? _ _ (hHeld.2))).trans (hHeld.2)
         refine ⟨_,rfl,?_⟩
         have az := aK (Kd.R_elder' (rM aa.out) (Kd.R_base an) hb)
         have aA := aK (Kd.R_elder' (rM ae.out) (Kd.R_base an) hb)
         have aC := aK (Kd.R_lower (Kd.R_new' (Kd.R_new' an (Kd.R_lt (rM aa.out))) (Kd.R_lt (rM ae.out))) (below_size (bM HB.out)))
         have bg := aK (below_step (bM HB.out) hb)
         clear aa
         clear ae
         clear HB
         have aa := az
         have ae := aA
         have am := aC
         have HB := bg
         clear az aA aC bg
         (try clear hb)
         (try clear hk)
         (try clear an)
         obtain ⟨bJ,bK,bi⟩ := Kd.R_slice am.out
         (first|subst bi|(injection bi with f1_ f2_ f3_;have bH := f1_.symm;have bI := f3_.symm;clear f1_ f2_ f3_;subst bH;subst bI))
         refine hK.out _ _ ⟨aY,aZ⟩ (fun hHeld => ?_)
         clear hK K
         refine norm_ (a' := ?_) ?_ ?_
         rotate_left
         ·show Act.put _ (some 41) _ = _
          simp only [Act.put,z1_,z2_,z3_,i64_w,i32_w]
          rfl
         refine one_ (i := 14) (N := some 46) (bA 16 32767) rfl rfl (one_of HT_.out (by kernel_rfl)) (by decide) (fun K hK => ?_)
         refine goes_ Tryz.func33 (by kernel_rfl) rfl #[.slice bJ aE.length bK,.int .i64 (rd ac ad)] (by rfl) rfl rfl (by (try simp only [z4_,z5_,z6_]);first|done|rfl|(simp only [z7_,z8_];rfl)) ?_
         with_reducible refine (r05_In.calls k2 _ _ aE (rd ac ad) false _ ?af ?ag b2.out).mono ?_
         (case af => exact cM (Kd.R_reads' am.out).2.2)
         (case ag => exact (Kd.R_reads' am.out).2.1)
         rintro e w' ⟨rfl,⟨nd,rfl⟩⟩
         refine ⟨_,rfl,?_⟩
         refine hK.out _ _ ⟨hHeld.1,hHeld.2⟩ (fun hHeld => ?_)
         clear hK K
         refine norm_ (a' := ?_) ?_ ?_
         rotate_left
         ·show Act.put _ (some 46) _ = _
          simp only [Act.put,z1_,z2_,z3_,i64_w,i32_w]
          rfl
         refine pure_ (i := 15) (N := some 47) (v := ?_) (a' := ?_) (bA 16 65535) rfl rfl (any_of HT_.out (by kernel_rfl)) (fun _ _ _ h => h) (Or.inl ⟨by rfl,?_⟩) ?_ ?_
         rotate_left
         ·intro w'
          go_simp
          with_reducible rfl
         rotate_left
         ·simp only [Act.put,z1_,z2_,z3_,i64_w,i32_w]
          rfl
         refine done_ (done_of HT_.out (by kernel_rfl)) ?_
         try go_wp2
         go_roundg k2
         case measure => have := aH.out;have := aI.out;omega
         case rel => exact ⟨(ao),(wrap64 (ab + 1)),(by first|rfl|(simp;done)|(simp [*];done)),(by first|rfl|(simp;done)|(simp [*];done)),H',⟨by have := aH.out;have := aI.out;omega⟩,⟨by refine rO ?_;exact Kd.R_mono aa.out (fun _ hk => hk.1)⟩,⟨by refine rO ?_;exact Kd.R_mono ae.out (fun _ hk => hk.1)⟩,⟨bM HB.out⟩⟩
      ·rw [if_neg a4] at H
       have bb := decide_eq_false a4
       clear a4
       by_cases bs : ao = true
       ·subst bs
        rw [if_pos rfl] at H
        obtain ⟨b3,H⟩ := iS H
        have b4 := decide_eq_true b3
        clear b3
        obtain ⟨b5,H⟩ := iS H
        have b6 := decide_eq_true b5
        clear b5
        obtain ⟨b7,H⟩ := iS H
        have bj := aK b7
        clear b7
        obtain ⟨bk,ar⟩ : ∃ y_ : List Int,y_ = (aq ++ [rd ac ad]) := ⟨_,rfl⟩
        replace H : (r26_Bases.l0 k2 l0 ac bk (wrap64 (ad + 1))) = some r := by first|(rw [ar];with_reducible exact H)|(have aR := (Option.bind_some _ _).symm.trans H;rw [ar];with_reducible exact aR)|(have aR := (Option.bind_some _ _).symm.trans H;with_reducible exact aR)|with_reducible exact H|(rw [ar];exact H)|exact H
        have bm := aK ar
        clear ar
        have H' := aK H
        clear H
        have a0 : 0 ≤ (ad : Int) := dA
        have a3 : ad < (ac.length : Int) := dA
        obtain ⟨bn,bL,bu⟩ := Kd.at_int (Kd.R_reads' aa.out).2.2 ad a0 a3
        cases bL
        replace a0 := eq_true a0
        replace a3 := eq_true a3
        go_wp2_with (first|((with_reducible refine gate_builtin (b := .append) (xs := #[.tmp 49,.tmp 54]) rfl ?_);at_builtin;refine Kd.R_append (Kd.int .i64) (w0 := w) w.heap.size rfl (.tmp 49) (.tmp 54) 25 3 (.int .i64 0) 8 rfl Tryz.underlying25 info3 rfl (by decide) (by omega) u8 aq (rd ac ad) [.int .i64 (rd ac ad)] (fun k_ => some k_ ≠ (.slice (some bn) ac.length aU : Value).ownBlock) (fun _ => False) rfl rfl ?aP (fun _ hk => hk.elim) ?aF ?aO ?aB ?aS ?aL ?_;(case aP => exact rfl);(case aB => exact (bM HB.out));(case aF => exact (fun k_ hk => Kd.fresh' (Kd.R_lt (rM aa.out)) k_ hk));(case aO => exact (rM ae.out));(case aS => exact (below_size (bM HB.out)));(case aL => have := bj.out;omega);intro cg cn ho hb hg hat;rw [← bm.out] at ho;replace aa := aK (Kd.R_after (ok := (fun _ => True)) (by (with_reducible repeat (first|apply Kd.R_alloc|apply Kd.R_drewN|apply Kd.R_drew));exact Kd.R_mono aa.out (fun _ hk => ⟨trivial,hk⟩)) hg hat);replace HB := aK (hb);have bo := aK (ho);clear ho hb hg hat))
        go_roundg k2
        case measure => have := aH.out;have := aI.out;omega
        case rel => exact ⟨(bk),(wrap64 (ad + 1)),(by first|rfl|(simp;done)|(simp [*];done)),H',⟨by have := aH.out;have := aI.out;omega⟩,⟨by refine rO ?_;exact Kd.R_mono aa.out (fun _ hk => hk.2)⟩,⟨rM bo.out⟩,⟨bM HB.out⟩⟩
       ·replace bs := Bool.eq_false_iff.mpr bs
        subst bs
        rw [if_neg (show ¬ (false = true) by decide)] at H
        have H' := aK H
        clear H
        go_wp2
        go_roundg k2
        case measure => have := aH.out;have := aI.out;omega
        case rel => exact ⟨(aq),(wrap64 (ad + 1)),(by first|rfl|(simp;done)|(simp [*];done)),H',⟨by have := aH.out;have := aI.out;omega⟩,⟨rM aa.out⟩,⟨rM ae.out⟩,⟨bM HB.out⟩⟩
   ·rw [if_neg aT] at H
    have aM := decide_eq_false aT
    clear aT
    obtain rfl := Option.some.inj H
    obtain ⟨ch,ci,bN⟩ := Kd.R_slice aa.out
    subst bN
    go_wp2
    go_ret
    exact ⟨_,by first|rfl|(simp [errW_none,errW_some] <;> rfl)|(simp [*,errW_none,errW_some] <;> rfl),rM (Kd.R_mono ae.out (fun _ hk => trivial)),bM HB.out⟩
end Go.Proofs.YtgadbpljlpclnaaGreatDoor.H
