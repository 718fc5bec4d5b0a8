import Derived.Test.YtgadbpljlpclnaaGreatDoorHx0
import Derived.Test.YtgadbpljlpclnaaGreatDoorHx7
import Derived.Test.YtgadbpljlpclnaaGreatDoorHx8
import Derived.Test.YtgadbpljlpclnaaGreatDoorHx15
import Derived.Test.YtgadbpljlpclnaaGreatDoorHx20
namespace Go.Proofs.YtgadbpljlpclnaaGreatDoor.H
open Go.RowKit Go.Proofs.YtgadbpljlpclnaaGreatDoorW.PrintWords Go.Proofs.YtgadbpljlpclnaaGreatDoorW.PrintLast Go.Proofs.YtgadbpljlpclnaaGreatDoorW.PrintMore
attribute [local go_sem] max2_int min2_int max_two min_two max_three min_three max_four min_four
set_option linter.unusedVariables false
set_option linter.unusedSimpArgs false

/-! ### l26_HistoryBases: function 8 -/
mutual
def l26_HistoryBases.l0 : Nat → List (S28) → Int → Int → Int → List Int → Bool → Int → Option (Bool)
|0,_,_,_,_,_,_,_ => none
|k + 1,x0,x2,x7,x8,x9,ab,aa => if aa < (x9.length : Int) then (if 0 ≤ aa then ((history_Is.f k x0 (rd x9 aa) x7).bind fun ac => (if ac = true then ((history_Is.f k x0 (rd x9 aa) x8).bind fun ad => (l26_HistoryBases.j1 k x0 x2 x7 x8 x9 ab aa (!ad))) else (l26_HistoryBases.j1 k x0 x2 x7 x8 x9 ab aa true))) else (none)) else ((history_Ancestors.f k x0 x7).bind fun ae => ((r05_In.f k ae x2).bind fun af => (if af = true then ((history_Ancestors.f k x0 x8).bind fun ag => ((r05_In.f k ag x2).bind fun ah => (if ah = true then (some ab) else (some true)))) else (some true))))
def l26_HistoryBases.j1 : Nat → List (S28) → Int → Int → Int → List Int → Bool → Int → Bool → Option (Bool)
|0,_,_,_,_,_,_,_,_ => none
|k + 1,x0,x2,x7,x8,x9,aa,ab,ac => if ac = true then (some false) else (l26_HistoryBases.l1 k x0 x2 x7 x8 x9 aa ab 0)
def l26_HistoryBases.l1 : Nat → List (S28) → Int → Int → Int → List Int → Bool → Int → Int → Option (Bool)
|0,_,_,_,_,_,_,_,_ => none
|k + 1,x0,x2,x7,x8,x9,ac,aa,ab => if ab < (x9.length : Int) then (if ab = aa then (l26_HistoryBases.l1 k x0 x2 x7 x8 x9 ac aa (wrap64 (ab + 1))) else (if 0 ≤ aa then (if aa < (x9.length : Int) then (if 0 ≤ ab then ((history_Is.f k x0 (rd x9 aa) (rd x9 ab)).bind fun ad => (if ad = true then (some false) else (l26_HistoryBases.l1 k x0 x2 x7 x8 x9 ac aa (wrap64 (ab + 1))))) else (none)) else (none)) else (none))) else (if ac = true then (l26_HistoryBases.l0 k x0 x2 x7 x8 x9 true (wrap64 (aa + 1))) else (if 0 ≤ aa then (if aa < (x9.length : Int) then ((history_Is.f k x0 x2 (rd x9 aa)).bind fun ae => (l26_HistoryBases.l0 k x0 x2 x7 x8 x9 ae (wrap64 (aa + 1)))) else (none)) else (none)))
end
def l26_HistoryBases.f (k : Nat) (l0 : List (S28)) (aa : Int) (ab : Int) (a2 : Int) : Option (Bool) := (l26_alive.f k).bind fun ac => (if ac = true then ((l26_right.f k l0).bind fun ad => (if ad = true then ((history_Bases.f k l0 aa ab).bind fun ae => (l26_HistoryBases.l0 k l0 a2 aa ab ae false 0)) else (some true))) else (some false))
theorem l26_HistoryBases.mono_l : ∀ k, (∀ y0 y1 y2 y3 y4 y5 y6, LeO (l26_HistoryBases.l0 k y0 y1 y2 y3 y4 y5 y6) (l26_HistoryBases.l0 (k + 1) y0 y1 y2 y3 y4 y5 y6)) ∧ (∀ y0 y1 y2 y3 y4 y5 y6 y7, LeO (l26_HistoryBases.j1 k y0 y1 y2 y3 y4 y5 y6 y7) (l26_HistoryBases.j1 (k + 1) y0 y1 y2 y3 y4 y5 y6 y7)) ∧ (∀ y0 y1 y2 y3 y4 y5 y6 y7, LeO (l26_HistoryBases.l1 k y0 y1 y2 y3 y4 y5 y6 y7) (l26_HistoryBases.l1 (k + 1) y0 y1 y2 y3 y4 y5 y6 y7))
|0 => ⟨fun _ _ _ _ _ _ _ r h => by simp [l26_HistoryBases.l0] at h,fun _ _ _ _ _ _ _ _ r h => by simp [l26_HistoryBases.j1] at h,fun _ _ _ _ _ _ _ _ r h => by simp [l26_HistoryBases.l1] at h⟩
|k + 1 => by
  obtain ⟨ih0,ih1,ih2⟩ := l26_HistoryBases.mono_l k
  refine ⟨?_,?_,?_⟩
  ·intro y0 y1 y2 y3 y4 y5 y6
   unfold l26_HistoryBases.l0
   repeat' (with_reducible first|exact ih1 _ _ _ _ _ _ _ _|exact r05_In.mono _ _ _|exact history_Ancestors.mono _ _ _|exact history_Is.mono _ _ _ _|exact LeO.refl _|exact LeO.none _|refine LeO.ite ?_ ?_|refine LeO.bind ?_ (fun _ => ?_))
  ·intro y0 y1 y2 y3 y4 y5 y6 y7
   unfold l26_HistoryBases.j1
   repeat' (with_reducible first|exact ih2 _ _ _ _ _ _ _ _|exact LeO.refl _|exact LeO.none _|refine LeO.ite ?_ ?_|refine LeO.bind ?_ (fun _ => ?_))
  ·intro y0 y1 y2 y3 y4 y5 y6 y7
   unfold l26_HistoryBases.l1
   repeat' (with_reducible first|exact ih0 _ _ _ _ _ _ _|exact ih2 _ _ _ _ _ _ _ _|exact history_Is.mono _ _ _ _|exact LeO.refl _|exact LeO.none _|refine LeO.ite ?_ ?_|refine LeO.bind ?_ (fun _ => ?_))
theorem l26_HistoryBases.mono : ∀ a0 a1 a2 a3 k, LeO (l26_HistoryBases.f k a0 a1 a2 a3) (l26_HistoryBases.f (k + 1) a0 a1 a2 a3) := by
 intro a0 a1 a2 a3 k
 obtain ⟨ih0,ih1,ih2⟩ := l26_HistoryBases.mono_l k
 unfold l26_HistoryBases.f
 repeat' (with_reducible first|exact ih0 _ _ _ _ _ _ _|exact ih1 _ _ _ _ _ _ _ _|exact ih2 _ _ _ _ _ _ _ _|exact l26_alive.mono _|exact l26_right.mono _ _|exact r05_In.mono _ _ _|exact history_Ancestors.mono _ _ _|exact history_Bases.mono _ _ _ _|exact history_Is.mono _ _ _ _|exact LeO.refl _|exact LeO.none _|refine LeO.ite ?_ ?_|refine LeO.bind ?_ (fun _ => ?_))
def l26_HistoryBases.T16 : Bool × List (List Nat × List Nat) := (true, [([], []), ([], []), ([0, 1], [0, 1]), ([2], [2]), ([3], [3]), ([3], [3]), ([3], [3]), ([5, 6, 3], [3, 5, 6]), ([7, 3], [3, 7]), ([3], [3]), ([3], [3]), ([9, 10, 3], [3, 9, 10]), ([11, 3], [3, 11]), ([4, 8, 12, 3, 3], [3, 4, 8, 12]), ([3, 13], [3, 13])])
def l26_HistoryBases.B16 : List Nat := [0, 0, 3, 7, 15, 15, 15, 111, 239, 15, 15, 1551, 3599, 8191, 16383]
theorem l26_HistoryBases.tab16 : rtab .any (opsOf Tryz.f8 16) = l26_HistoryBases.T16 := by kernel_rfl
theorem l26_HistoryBases.bits16 : waitsOk l26_HistoryBases.T16.2 l26_HistoryBases.B16 = true := by kernel_rfl
set_option maxHeartbeats 4000000 in
set_option maxRecDepth 100000 in
theorem l26_HistoryBases.calls (k : Nat) (A0 : Option Addr) (c0 : Nat) (l0 : List (S28)) (ai : Int) (ak : Int) (a2 : Int) (r : Bool) (w : World) (b8 : Kd.C k28 w A0 l0.length l0) (b9 : l0.length ≤ c0) (h : l26_HistoryBases.f k l0 ai ak a2 = some r) :
  Calls Tryz.prog 8 #[.slice A0 l0.length c0,.agg #[.int .i64 ai,.int .i64 ak],.int .i64 a2] w fun e w' => e = .returned (.bool r) ∧ Below w.heap.size w w' := by
 have ct := Tryz.underlying46
 have aH := aK b8
 have aI := aK b9
 clear b8 b9
 have HB := aK (Below.refl w.heap.size w)
 unfold l26_HistoryBases.f at h
 have H := h
 clear h
 replace H := Option.bind_eq_some_iff.mp H
 obtain ⟨bE,bu,H⟩ := H
 have A4 := aK bu
 clear bu
 by_cases c5 : bE = true
 ·subst c5
  rw [if_pos rfl] at H
  replace H := Option.bind_eq_some_iff.mp H
  obtain ⟨bF,ca,H⟩ := H
  have A6 := aK ca
  clear ca
  by_cases c7 : bF = true
  ·subst c7
   rw [if_pos rfl] at H
   replace H := Option.bind_eq_some_iff.mp H
   obtain ⟨af,cb,H⟩ := H
   have A8 := aK cb
   clear cb
   have H' := aK H
   clear H
   go_enter Tryz.func8,Tryz.ntmps8
   try go_wp2_with (first|((with_reducible refine gate_dst (N := 4) rfl ?_);refine box_event ?hg (N := 4) ?hd (cs := #[.int .i64 ai,.int .i64 ak]) (t := 46) ?hr ?_;(case hd => rfl);(case hg => rfl);(case hr => first|(go_simp;done)|(go_simp;rfl));intro aj hg w9 hbox hb;have aa := aK (hbox);have ay := aK ((by rw [hg];exact (below_size (bM HB.out)) : w.heap.size ≤ aj));have aR := Ge.mk ay.out;have az := aK ((by rw [hg];exact (below_size (bM HB.out)) : w.heap.size ≤ aj));have aS := Ge.mk az.out;replace HB := aK (below_step (bM HB.out) hb);clear hb hbox hg)|((with_reducible refine gate_callee (f := 10) rfl ?_);refine gL 14 Tryz.func10 #[] ?_;(with_reducible refine (l26_alive.calls k  true _ A4.out).mono ?_);rintro e cK ⟨rfl,hb⟩;refine ⟨_,rfl,?_⟩;replace aa := aK (blk_below (kM aa.out) hb);replace HB := aK (below_step (bG HB.out) hb);(try clear hb))|((with_reducible refine gate_callee (f := 17) rfl ?_);refine gL 17 Tryz.func17 #[.slice A0 l0.length c0] ?_;(with_reducible refine (l26_right.calls k _ _ l0 true _ ?ad ?ae A6.out).mono ?_);(case ad => exact cM (Kd.C_below aH.out HB.out));(case ae => exact aI.out);rintro e cu ⟨rfl,hb⟩;refine ⟨_,rfl,?_⟩;replace aa := aK (blk_below (kM aa.out) hb);replace HB := aK (below_step (bG HB.out) hb);(try clear hb)))
   have aA := aK (blk_drew aa.out)
   have aB := aK (below_drew1 HB.out)
   clear aa
   clear HB
   have aa := aA
   have HB := aB
   clear aA aB
   refine start_ (n := 6) (S := fun w' => w'.cell? ⟨aj,0,none⟩ = some (.int .i64 ai) ∧ w'.cell? ⟨aj,1,none⟩ = some (.int .i64 ak)) (ds := []) (bA 6 0) (by kernel_rfl) rfl rfl ⟨(blk_cell aa.out 0).trans rfl,(blk_cell aa.out 1).trans rfl⟩ (fun hHeld => ?_)
   generalize cu.drew = w12 at aa HB hHeld ⊢
   refine pure_ (i := 0) (N := some 19) (v := ?_) (a' := ?_) (bA 6 1) rfl rfl (by kernel_rfl) (fun _ _ _ h => h) (Or.inl ⟨by rfl,?_⟩) ?_ ?_
   rotate_left
   ·intro w'
    go_simp
    with_reducible rfl
   rotate_left
   ·simp only [Act.put,z1_,z2_,z3_,i64_w,i32_w]
    rfl
   refine pure_ (i := 2) (N := some 21) (v := ?_) (a' := ?_) (bA 6 5) rfl rfl (by kernel_rfl) (fun _ _ _ h => h) (Or.inl ⟨by rfl,?_⟩) ?_ ?_
   rotate_left
   ·intro w'
    go_simp
    with_reducible rfl
   rotate_left
   ·simp only [Act.put,z1_,z2_,z3_,i64_w,i32_w]
    rfl
   refine take_ (i := 1) (N := some 20) (v := ?_) (a' := ?_) (bA 6 7) rfl rfl (by kernel_rfl) (fun _ _ _ h => h) (Or.inl ⟨by rfl,?_⟩) hHeld ?_ ?_
   rotate_left
   ·rintro w' ⟨s0,s1⟩
    go_simp
    with_reducible rfl
   rotate_left
   ·simp only [Act.put,z1_,z2_,z3_,i64_w,i32_w]
    rfl
   refine pure_ (i := 4) (N := some 7) (v := ?_) (a' := ?_) (bA 6 23) rfl rfl (by kernel_rfl) (fun _ _ _ h => h) (Or.inl ⟨by rfl,?_⟩) ?_ ?_
   rotate_left
   ·intro w'
    go_simp
    with_reducible rfl
   rotate_left
   ·simp only [Act.put,z1_,z2_,z3_,i64_w,i32_w]
    rfl
   refine take_ (i := 3) (N := some 22) (v := ?_) (a' := ?_) (bA 6 31) rfl rfl (by kernel_rfl) (fun _ _ _ h => h) (Or.inl ⟨by rfl,?_⟩) hHeld ?_ ?_
   rotate_left
   ·rintro w' ⟨s0,s1⟩
    go_simp
    with_reducible rfl
   rotate_left
   ·simp only [Act.put,z1_,z2_,z3_,i64_w,i32_w]
    rfl
   refine pure_ (i := 5) (N := some 8) (v := ?_) (a' := ?_) (bA 6 63) rfl rfl (by kernel_rfl) (fun _ _ _ h => h) (Or.inl ⟨by rfl,?_⟩) ?_ ?_
   rotate_left
   ·intro w'
    go_simp
    with_reducible rfl
   rotate_left
   ·simp only [Act.put,z1_,z2_,z3_,i64_w,i32_w]
    rfl
   refine done_ (by kernel_rfl) ?_
   try go_wp2_with (first|((with_reducible refine gate_callee (f := 28) rfl ?_);refine gL 26 Tryz.func28 #[.slice A0 l0.length c0,.int .i64 ai,.int .i64 ak] ?_;(with_reducible refine (history_Bases.calls k _ _ l0 ai ak af _ ?ad ?ae A8.out).mono ?_);(case ad => exact cM (Kd.C_below aH.out HB.out));(case ae => exact aI.out);rintro e cL ⟨bH,rfl,an,hb⟩;refine ⟨_,rfl,?_⟩;have a9 := aK (Kd.R_lower an (below_size (bG HB.out)));replace aa := aK (blk_below (kM aa.out) hb);replace HB := aK (below_step (bG HB.out) hb);(try clear hb);(try clear an)))
   go_loopg [10,11] k (fun kq cv cw w' => ∃ (aq : Bool) (ab : Int),cv = .bool aq ∧ cw = .int .i64 ab ∧ Aside0 (l26_HistoryBases.l0 kq l0 a2 ai ak af aq ab = some r) ∧ Aside0 (kq ≤ k) ∧ Aside0 (Kd.R (Kd.int .i64) 3 w' w.heap.size (fun _ => True) bH af) ∧ Aside0 (w'.heap[aj]? = some (.cells #[.int .i64 ai,.int .i64 ak] 46 (0,0))) ∧ Aside0 (Below w.heap.size w w'))
   case atStart => exact ⟨(false),(0),(by first|rfl|(simp;done)|(simp [*];done)),(by first|rfl|(simp;done)|(simp [*];done)),H',⟨Nat.le_refl _⟩,⟨rM a9.out⟩,⟨kM aa.out⟩,⟨bG HB.out⟩⟩
   case round =>
    clear H'
    try clear p2
    try clear c5
    try clear c7
    obtain ⟨aq,ab,rfl,rfl,HA,aP,ac,aa,HB⟩ := hrel
    cases gk with
   |zero => exact absurd HA.out (by simp [l26_HistoryBases.l0])
   |succ k1 =>
     have H := HA.out
     clear HA
     simp only [l26_HistoryBases.l0] at H
     by_cases aX : ab < (af.length : Int)
     ·rw [if_pos aX] at H
      have aT := decide_eq_true aX
      clear aX
      have aY := aK H
      clear H
      obtain ⟨ba,bb,bI⟩ := Kd.R_slice ac.out
      subst bI
      go_upto_region 11 with (fail)
      go_cut [50] (fun cx wc => ∃ (kq : Nat) (ar : Bool),cx = .bool ar ∧ Aside0 (l26_HistoryBases.j1 kq l0 a2 ai ak af aq ab ar = some r) ∧ Aside0 (kq ≤ k1) ∧ Aside0 (Kd.R (Kd.int .i64) 3 wc w.heap.size (fun _ => True) (.slice ba af.length bb) af) ∧ Aside0 (wc.heap[aj]? = some (.cells #[.int .i64 ai,.int .i64 ak] 46 (0,0))) ∧ Aside0 (Below w.heap.size w wc))
      case first =>
       have H := aY.out
       clear aY
       obtain ⟨cc,H⟩ := iS H
       have aU := decide_eq_true cc
       clear cc
       (first|rw [aU]|(simp only [i64_w,i32_w];rw [aU])|rw [c17b1]|skip)
       replace H := Option.bind_eq_some_iff.mp H
       obtain ⟨bJ,bc,H⟩ := H
       have cd := aK bc
       clear bc
       by_cases bv : bJ = true
       ·subst bv
        rw [if_pos rfl] at H
        replace H := Option.bind_eq_some_iff.mp H
        obtain ⟨bd,be,H⟩ := H
        have cy := aK be
        clear be
        have H' := aK H
        clear H
        have au : 0 ≤ (ab : Int) := dA
        have av : ab < (af.length : Int) := dA
        obtain ⟨aV,aZ,aw⟩ := Kd.at_int (Kd.R_reads' ac.out).2.2 ab au av
        cases aZ
        replace au := eq_true au
        replace av := eq_true av
        go_wp2_with (first|((with_reducible refine gate_callee (f := 24) rfl ?_);refine gL 39 Tryz.func24 #[.slice A0 l0.length c0,.int .i64 (rd af ab),.int .i64 ai] ?_;(with_reducible refine (history_Is.calls k1 _ _ l0 (rd af ab) ai true _ ?ad ?ae cd.out).mono ?_);(case ad => exact cM (Kd.C_below aH.out HB.out));(case ae => exact aI.out);rintro e cN ⟨rfl,hb⟩;refine ⟨_,rfl,?_⟩;replace ac := aK (Kd.R_below (rM ac.out) hb);replace aa := aK (blk_below (kM aa.out) hb);replace HB := aK (below_step (bG HB.out) hb);(try clear hb);have aM : 0 ≤ (ab : Int) := dA;have aN : ab < (af.length : Int) := dA;obtain ⟨bf,bK,aJ⟩ := Kd.at_int (Kd.R_reads' ac.out).2.2 ab aM aN;obtain rfl : aV = bf := (by injection bK);replace aM := eq_true aM;replace aN := eq_true aN)|(go_at_call 24;(with_reducible refine (history_Is.calls k1 _ _ l0 (rd af ab) ak bd _ ?ad ?ae cy.out).mono ?_);(case ad => exact cM (Kd.C_below aH.out HB.out));(case ae => exact aI.out);rintro e cO ⟨rfl,hb⟩;replace ac := aK (Kd.R_below (rM ac.out) hb);replace aa := aK (blk_below (kM aa.out) hb);replace HB := aK (below_step (bG HB.out) hb);(try clear hb)))
        go_meet
        case rel => exact ⟨_,(!bd),(by first|rfl|(simp;done)|(simp [*];done)),H',⟨by have := aP.out;first|omega|exact Nat.le_refl _⟩,⟨rM ac.out⟩,⟨kM aa.out⟩,⟨bG HB.out⟩⟩
       ·replace bv := Bool.eq_false_iff.mpr bv
        subst bv
        rw [if_neg (show ¬ (false = true) by decide)] at H
        have H' := aK H
        clear H
        have au : 0 ≤ (ab : Int) := dA
        have av : ab < (af.length : Int) := dA
        obtain ⟨aV,aZ,aw⟩ := Kd.at_int (Kd.R_reads' ac.out).2.2 ab au av
        cases aZ
        replace au := eq_true au
        replace av := eq_true av
        go_wp2_with (first|((with_reducible refine gate_callee (f := 24) rfl ?_);refine gL 39 Tryz.func24 #[.slice A0 l0.length c0,.int .i64 (rd af ab),.int .i64 ai] ?_;(with_reducible refine (history_Is.calls k1 _ _ l0 (rd af ab) ai false _ ?ad ?ae cd.out).mono ?_);(case ad => exact cM (Kd.C_below aH.out HB.out));(case ae => exact aI.out);rintro e cP ⟨rfl,hb⟩;refine ⟨_,rfl,?_⟩;replace ac := aK (Kd.R_below (rM ac.out) hb);replace aa := aK (blk_below (kM aa.out) hb);replace HB := aK (below_step (bG HB.out) hb);(try clear hb)))
        go_meet
        case rel => exact ⟨_,(true),(by first|rfl|(simp;done)|(simp [*];done)),H',⟨by have := aP.out;first|omega|exact Nat.le_refl _⟩,⟨rM ac.out⟩,⟨kM aa.out⟩,⟨bG HB.out⟩⟩
      case rest =>
       clear aY
       try clear p2
       try clear p6
       try clear q6
       try clear hx6
       try clear aX
       try clear aT
       try clear aw
       try clear aJ
       try clear p2
       try clear au
       try clear aM
       try clear av
       try clear aN
       obtain ⟨kq,ar,rfl,HA,aC,ac,aa,HB⟩ := hcut
       cases kq with
      |zero => exact absurd HA.out (by simp [l26_HistoryBases.j1])
      |succ kj14 =>
        have H := HA.out
        clear HA
        simp only [l26_HistoryBases.j1] at H
        by_cases bg : ar = true
        ·subst bg
         rw [if_pos rfl] at H
         obtain rfl := Option.some.inj H
         go_wp2
         go_ret
         exact ⟨by first|rfl|(simp [errW_none,errW_some] <;> rfl)|(simp [*,errW_none,errW_some] <;> rfl),bG HB.out⟩
        ·replace bg := Bool.eq_false_iff.mpr bg
         subst bg
         rw [if_neg (show ¬ (false = true) by decide)] at H
         have H' := aK H
         clear H
         go_wp2
         go_loopg [12] kj14 (fun kq cz w' => ∃ (ag : Int),cz = .int .i64 ag ∧ Aside0 (l26_HistoryBases.l1 kq l0 a2 ai ak af aq ab ag = some r) ∧ Aside0 (kq ≤ kj14) ∧ Aside0 (Kd.R (Kd.int .i64) 3 w' w.heap.size (fun _ => True) (.slice ba af.length bb) af) ∧ Aside0 (w'.heap[aj]? = some (.cells #[.int .i64 ai,.int .i64 ak] 46 (0,0))) ∧ Aside0 (Below w.heap.size w w'))
         case atStart => exact ⟨(0),(by first|rfl|(simp;done)|(simp [*];done)),H',⟨Nat.le_refl _⟩,⟨rM ac.out⟩,⟨kM aa.out⟩,⟨bG HB.out⟩⟩
         case round =>
          clear H'
          try clear p2
          try clear p6
          try clear q6
          try clear hx6
          try clear bg
          try clear aw
          try clear aJ
          try clear p2
          try clear p6
          try clear au
          try clear aM
          try clear q6
          try clear av
          try clear aN
          obtain ⟨ag,rfl,HA,aW,ac,aa,HB⟩ := hrel
          cases gk with
         |zero => exact absurd HA.out (by simp [l26_HistoryBases.l1])
         |succ k3 =>
           have H := HA.out
           clear HA
           simp only [l26_HistoryBases.l1] at H
           by_cases a8 : ag < (af.length : Int)
           ·rw [if_pos a8] at H
            have bh := decide_eq_true a8
            clear a8
            by_cases a0 : ag = ab
            ·rw [if_pos a0] at H
             have bi := beq_iff_eq.mpr a0
             have bj := bne_eq_false_iff_eq.mpr a0
             clear a0
             have H' := aK H
             clear H
             try go_wp2
             have aA := aK (Kd.R_drew ac.out)
             have aB := aK (blk_drew aa.out)
             have aL := aK (below_drew1 HB.out)
             clear ac
             clear aa
             clear HB
             have ac := aA
             have aa := aB
             have HB := aL
             clear aA aB aL
             refine start_ (n := 15) (S := fun w' => True) (ds := []) (bA 15 0) (by kernel_rfl) rfl rfl trivial (fun hHeld => ?_);refine with_tabW l26_HistoryBases.tab16 l26_HistoryBases.bits16 (fun HT_ HW_ => ?_)
             generalize wr.drew = w27 at ac aa HB hHeld ⊢
             refine pure_ (i := 0) (N := some 57) (v := ?_) (a' := ?_) (bA 15 1) rfl rfl (any_of HT_.out (by kernel_rfl)) (fun _ _ _ h => h) (Or.inl ⟨by rfl,?_⟩) ?_ ?_
             rotate_left
             ·intro w'
              go_simp
              with_reducible rfl
             rotate_left
             ·simp only [Act.put,z1_,z2_,z3_,i64_w,i32_w]
              rfl
             refine pure_ (i := 1) (N := some 58) (v := ?_) (a' := ?_) (bA 15 3) rfl rfl (any_of HT_.out (by kernel_rfl)) (fun _ _ _ h => h) (Or.inl ⟨by rfl,?_⟩) ?_ ?_
             rotate_left
             ·intro w'
              go_simp
              with_reducible rfl
             rotate_left
             ·simp only [Act.put,z1_,z2_,z3_,i64_w,i32_w]
              rfl
             refine pure_ (i := 2) (N := some 59) (v := ?_) (a' := ?_) (bA 15 7) rfl rfl (any_of HT_.out (by kernel_rfl)) (fun _ _ _ h => h) (Or.inl ⟨by rfl,?_⟩) ?_ ?_
             rotate_left
             ·intro w'
              go_simp
              with_reducible rfl
             rotate_left
             ·simp only [Act.put,z1_,z2_,z3_,i64_w,i32_w]
              rfl
             refine pure_ (i := 3) (N := some 60) (v := ?_) (a' := ?_) (bA 15 15) rfl rfl (any_of HT_.out (by kernel_rfl)) (fun _ _ _ h => h) (Or.inl ⟨by rfl,?_⟩) ?_ ?_
             rotate_left
             ·intro w'
              go_simp
              with_reducible rfl
             rotate_left
             ·simp only [Act.put,z1_,z2_,z3_,i64_w,i32_w]
              rfl
             refine pure_ (i := 4) (N := some 61) (v := undef) (a' := ?_) (bA 15 31) rfl rfl (any_of HT_.out (by kernel_rfl)) (fun _ _ _ h => h) (Or.inr ⟨by rfl,rfl⟩) ?_ ?_
             rotate_left
             ·simp only [Act.put,z1_,z2_,z3_,i64_w,i32_w]
              rfl
             refine pure_ (i := 5) (N := some 62) (v := undef) (a' := ?_) (bA 15 63) rfl rfl (any_of HT_.out (by kernel_rfl)) (fun _ _ _ h => h) (Or.inr ⟨by rfl,rfl⟩) ?_ ?_
             rotate_left
             ·simp only [Act.put,z1_,z2_,z3_,i64_w,i32_w]
              rfl
             refine pure_ (i := 6) (N := some 63) (v := undef) (a' := ?_) (bA 15 127) rfl rfl (any_of HT_.out (by kernel_rfl)) (fun _ _ _ h => h) (Or.inr ⟨by rfl,rfl⟩) ?_ ?_
             rotate_left
             ·simp only [Act.put,z1_,z2_,z3_,i64_w,i32_w]
              rfl
             refine pure_ (i := 7) (N := some 64) (v := undef) (a' := ?_) (bA 15 255) rfl rfl (any_of HT_.out (by kernel_rfl)) (fun _ _ _ h => h) (Or.inr ⟨by rfl,rfl⟩) ?_ ?_
             rotate_left
             ·simp only [Act.put,z1_,z2_,z3_,i64_w,i32_w]
              rfl
             refine pure_ (i := 8) (N := some 65) (v := undef) (a' := ?_) (bA 15 511) rfl rfl (any_of HT_.out (by kernel_rfl)) (fun _ _ _ h => h) (Or.inr ⟨by rfl,rfl⟩) ?_ ?_
             rotate_left
             ·simp only [Act.put,z1_,z2_,z3_,i64_w,i32_w]
              rfl
             refine pure_ (i := 9) (N := some 66) (v := undef) (a' := ?_) (bA 15 1023) rfl rfl (any_of HT_.out (by kernel_rfl)) (fun _ _ _ h => h) (Or.inr ⟨by rfl,rfl⟩) ?_ ?_
             rotate_left
             ·simp only [Act.put,z1_,z2_,z3_,i64_w,i32_w]
              rfl
             refine pure_ (i := 10) (N := some 67) (v := undef) (a' := ?_) (bA 15 2047) rfl rfl (any_of HT_.out (by kernel_rfl)) (fun _ _ _ h => h) (Or.inr ⟨by rfl,rfl⟩) ?_ ?_
             rotate_left
             ·simp only [Act.put,z1_,z2_,z3_,i64_w,i32_w]
              rfl
             refine pure_ (i := 11) (N := some 68) (v := undef) (a' := ?_) (bA 15 4095) rfl rfl (any_of HT_.out (by kernel_rfl)) (fun _ _ _ h => h) (Or.inr ⟨by rfl,rfl⟩) ?_ ?_
             rotate_left
             ·simp only [Act.put,z1_,z2_,z3_,i64_w,i32_w]
              rfl
             refine pure_ (i := 12) (N := some 69) (v := undef) (a' := ?_) (bA 15 8191) rfl rfl (any_of HT_.out (by kernel_rfl)) (fun _ _ _ h => h) (Or.inr ⟨by rfl,rfl⟩) ?_ ?_
             rotate_left
             ·simp only [Act.put,z1_,z2_,z3_,i64_w,i32_w]
              rfl
             refine pure_ (i := 13) (N := some 70) (v := undef) (a' := ?_) (bA 15 16383) rfl rfl (any_of HT_.out (by kernel_rfl)) (fun _ _ _ h => h) (Or.inr ⟨by rfl,rfl⟩) ?_ ?_
             rotate_left
             ·simp only [Act.put,z1_,z2_,z3_,i64_w,i32_w]
              rfl
             refine pure_ (i := 14) (N := some 71) (v := ?_) (a' := ?_) (bA 15 32767) rfl rfl (any_of HT_.out (by kernel_rfl)) (fun _ _ _ h => h) (Or.inl ⟨by rfl,?_⟩) ?_ ?_
             rotate_left
             ·intro w'
              go_simp
              with_reducible rfl
             rotate_left
             ·simp only [Act.put,z1_,z2_,z3_,i64_w,i32_w]
              rfl
             refine done_ (done_of HT_.out (by kernel_rfl)) ?_
             try go_wp2
             go_roundg k3
             case measure => have := aP.out;have := aC.out;have := aW.out;omega
             case rel => exact ⟨(wrap64 (ag + 1)),(by first|rfl|(simp;done)|(simp [*];done)),H',⟨by have := aP.out;have := aC.out;have := aW.out;omega⟩,⟨rM ac.out⟩,⟨kM aa.out⟩,⟨bG HB.out⟩⟩
            ·rw [if_neg a0] at H
             have bi := beq_eq_false_iff_ne.mpr a0
             have bj := bne_iff_ne.mpr a0
             obtain ⟨ce,H⟩ := iS H
             have cf := decide_eq_true ce
             clear ce
             obtain ⟨cg,H⟩ := iS H
             have ch := decide_eq_true cg
             clear cg
             obtain ⟨ci,H⟩ := iS H
             have cj := decide_eq_true ci
             clear ci
             replace H := Option.bind_eq_some_iff.mp H
             obtain ⟨bL,bk,H⟩ := H
             have ck := aK bk
             clear bk
             by_cases bx : bL = true
             ·subst bx
              rw [if_pos rfl] at H
              obtain rfl := Option.some.inj H
              try go_wp2
              have aA := aK (Kd.R_drew ac.out)
              have aB := aK (blk_drew aa.out)
              have aL := aK (below_drew1 HB.out)
              clear ac
              clear aa
              clear HB
              have ac := aA
              have aa := aB
              have HB := aL
              clear aA aB aL
              have aD : 0 ≤ (ab : Int) := dA
              have aE : ab < (af.length : Int) := dA
              obtain ⟨ao,a1,al⟩ := Kd.at_int (Kd.R_reads' ac.out).2.2 ab aD aE
              cases a1
              replace aD := eq_true aD
              replace aE := eq_true aE
              have aF : 0 ≤ (ag : Int) := dA
              have aG : ag < (af.length : Int) := dA
              obtain ⟨aO,a3,am⟩ := Kd.at_int (Kd.R_reads' ac.out).2.2 ag aF aG
              obtain rfl : ao = aO := (by injection a3)
              replace aF := eq_true aF
              replace aG := eq_true aG
              refine start_ (n := 15) (S := fun w' => w'.cell? (ao.add (ab).toNat) = some (.int .i64 (rd af ab)) ∧ w'.cell? (ao.add (ag).toNat) = some (.int .i64 (rd af ag))) (ds := []) (bA 15 0) (by kernel_rfl) rfl rfl ⟨al,am⟩ (fun hHeld => ?_);refine with_tabW l26_HistoryBases.tab16 l26_HistoryBases.bits16 (fun HT_ HW_ => ?_)
              generalize wr.drew = w33 at ac aa HB al am hHeld ⊢
              refine pure_ (i := 0) (N := some 57) (v := ?_) (a' := ?_) (bA 15 1) rfl rfl (any_of HT_.out (by kernel_rfl)) (fun _ _ _ h => h) (Or.inl ⟨by rfl,?_⟩) ?_ ?_
              rotate_left
              ·intro w'
               go_simp
               with_reducible rfl
              rotate_left
              ·simp only [Act.put,z1_,z2_,z3_,i64_w,i32_w]
               rfl
              refine pure_ (i := 1) (N := some 58) (v := ?_) (a' := ?_) (bA 15 3) rfl rfl (any_of HT_.out (by kernel_rfl)) (fun _ _ _ h => h) (Or.inl ⟨by rfl,?_⟩) ?_ ?_
              rotate_left
              ·intro w'
               go_simp
               with_reducible rfl
              rotate_left
              ·simp only [Act.put,z1_,z2_,z3_,i64_w,i32_w]
               rfl
              refine pure_ (i := 2) (N := some 59) (v := ?_) (a' := ?_) (bA 15 7) rfl rfl (any_of HT_.out (by kernel_rfl)) (fun _ _ _ h => h) (Or.inl ⟨by rfl,?_⟩) ?_ ?_
              rotate_left
              ·intro w'
               go_simp
               with_reducible rfl
              rotate_left
              ·simp only [Act.put,z1_,z2_,z3_,i64_w,i32_w]
               rfl
              refine pure_ (i := 3) (N := some 60) (v := ?_) (a' := ?_) (bA 15 15) rfl rfl (any_of HT_.out (by kernel_rfl)) (fun _ _ _ h => h) (Or.inl ⟨by rfl,?_⟩) ?_ ?_
              rotate_left
              ·intro w'
               go_simp
               with_reducible rfl
              rotate_left
              ·simp only [Act.put,z1_,z2_,z3_,i64_w,i32_w]
               rfl
              refine pure_ (i := 4) (N := some 61) (v := ?_) (a' := ?_) (bA 15 31) rfl rfl (any_of HT_.out (by kernel_rfl)) (fun _ _ _ h => h) (Or.inl ⟨by rfl,?_⟩) ?_ ?_
              rotate_left
              ·intro w'
               go_simp
               with_reducible rfl
              rotate_left
              ·simp only [Act.put,z1_,z2_,z3_,i64_w,i32_w]
               rfl
              refine pure_ (i := 5) (N := some 62) (v := ?_) (a' := ?_) (bA 15 63) rfl rfl (any_of HT_.out (by kernel_rfl)) (fun _ _ _ h => h) (Or.inl ⟨by rfl,?_⟩) ?_ ?_
              rotate_left
              ·intro w'
               go_simp
               with_reducible rfl
              rotate_left
              ·simp only [Act.put,z1_,z2_,z3_,i64_w,i32_w]
               rfl
              refine pure_ (i := 6) (N := some 63) (v := ?_) (a' := ?_) (bA 15 127) rfl rfl (any_of HT_.out (by kernel_rfl)) (fun _ _ _ h => h) (Or.inl ⟨by rfl,?_⟩) ?_ ?_
              rotate_left
              ·intro w'
               go_simp
               with_reducible rfl
              rotate_left
              ·simp only [Act.put,z1_,z2_,z3_,i64_w,i32_w]
               rfl
              refine pure_ (i := 7) (N := some 64) (v := ?_) (a' := ?_) (bA 15 255) rfl rfl (any_of HT_.out (by kernel_rfl)) (fun _ _ _ h => h) (Or.inl ⟨by rfl,?_⟩) ?_ ?_
              rotate_left
              ·intro w'
               go_simp
               with_reducible rfl
              rotate_left
              ·simp only [Act.put,z1_,z2_,z3_,i64_w,i32_w]
               rfl
              refine pure_ (i := 9) (N := some 66) (v := ?_) (a' := ?_) (bA 15 767) rfl rfl (any_of HT_.out (by kernel_rfl)) (fun _ _ _ h => h) (Or.inl ⟨by rfl,?_⟩) ?_ ?_
              rotate_left
              ·intro w'
               go_simp
               with_reducible rfl
              rotate_left
              ·simp only [Act.put,z1_,z2_,z3_,i64_w,i32_w]
               rfl
              refine pure_ (i := 10) (N := some 67) (v := ?_) (a' := ?_) (bA 15 1791) rfl rfl (any_of HT_.out (by kernel_rfl)) (fun _ _ _ h => h) (Or.inl ⟨by rfl,?_⟩) ?_ ?_
              rotate_left
              ·intro w'
               go_simp
               with_reducible rfl
              rotate_left
              ·simp only [Act.put,z1_,z2_,z3_,i64_w,i32_w]
               rfl
              refine pure_ (i := 11) (N := some 68) (v := ?_) (a' := ?_) (bA 15 3839) rfl rfl (any_of HT_.out (by kernel_rfl)) (fun _ _ _ h => h) (Or.inl ⟨by rfl,?_⟩) ?_ ?_
              rotate_left
              ·intro w'
               go_simp
               with_reducible rfl
              rotate_left
              ·simp only [Act.put,z1_,z2_,z3_,i64_w,i32_w]
               rfl
              refine take_ (i := 8) (N := some 65) (v := ?_) (a' := ?_) (bA 15 4095) rfl rfl (take_ofW HT_.out HW_.out (by kernel_rfl)) (fun _ _ _ h => h) (Or.inl ⟨by rfl,?_⟩) hHeld ?_ ?_
              rotate_left
              ·rintro w' ⟨s0,s1⟩
               go_simp
               with_reducible rfl
              rotate_left
              ·simp only [Act.put,z1_,z2_,z3_,i64_w,i32_w]
               rfl
              refine take_ (i := 12) (N := some 69) (v := ?_) (a' := ?_) (bA 15 8191) rfl rfl (take_ofW HT_.out HW_.out (by kernel_rfl)) (fun _ _ _ h => h) (Or.inl ⟨by rfl,?_⟩) hHeld ?_ ?_
              rotate_left
              ·rintro w' ⟨s0,s1⟩
               go_simp
               with_reducible rfl
              rotate_left
              ·simp only [Act.put,z1_,z2_,z3_,i64_w,i32_w]
               rfl
              refine one_ (i := 13) (N := some 70) (bA 15 16383) rfl rfl (one_of HT_.out (by kernel_rfl)) (by decide) (fun K hK => ?_)
              refine goes_ Tryz.func24 (by kernel_rfl) rfl #[.slice A0 l0.length c0,.int .i64 (rd af ab),.int .i64 (rd af ag)] (by rfl) rfl rfl (by (try simp only [z4_,z5_,z6_]);first|done|rfl|(simp only [z7_,z8_];rfl)) ?_
              with_reducible refine (history_Is.calls k3 _ _ l0 (rd af ab) (rd af ag) true _ ?ad ?ae ck.out).mono ?_
              (case ad => exact cM (Kd.C_below aH.out HB.out))
              (case ae => exact aI.out)
              rintro e cQ ⟨rfl,hb⟩
              have a4 := (hb.cell (World.block_lt_of_cell? _ _ (hHeld.1))).trans (hHeld.1)
              have a5 := (hb.cell (World.block_lt_of_cell? _ _ (hHeld.2))).trans (hHeld.2)
              refine ⟨_,rfl,?_⟩
              have aA := aK (Kd.R_below (rM ac.out) hb)
              have aB := aK (blk_below (kM aa.out) hb)
              have aL := aK (below_step (bG HB.out) hb)
              clear ac
              clear aa
              clear HB
              have ac := aA
              have aa := aB
              have HB := aL
              clear aA aB aL
              (try clear hb)
              refine hK.out _ _ ⟨a4,a5⟩ (fun hHeld => ?_)
              clear hK K
              refine norm_ (a' := ?_) ?_ ?_
              rotate_left
              ·show Act.put _ (some 70) _ = _
               simp only [Act.put,z1_,z2_,z3_,i64_w,i32_w]
               rfl
              refine pure_ (i := 14) (N := some 71) (v := ?_) (a' := ?_) (bA 15 32767) rfl rfl (any_of HT_.out (by kernel_rfl)) (fun _ _ _ h => h) (Or.inl ⟨by rfl,?_⟩) ?_ ?_
              rotate_left
              ·intro w'
               go_simp
               with_reducible rfl
              rotate_left
              ·simp only [Act.put,z1_,z2_,z3_,i64_w,i32_w]
               rfl
              refine done_ (done_of HT_.out (by kernel_rfl)) ?_
              try go_wp2
              go_ret
              exact ⟨by first|rfl|(simp [errW_none,errW_some] <;> rfl)|(simp [*,errW_none,errW_some] <;> rfl),bG HB.out⟩
             ·replace bx := Bool.eq_false_iff.mpr bx
              subst bx
              rw [if_neg (show ¬ (false = true) by decide)] at H
              have H' := aK H
              clear H
              try go_wp2
              have aA := aK (Kd.R_drew ac.out)
              have aB := aK (blk_drew aa.out)
              have aL := aK (below_drew1 HB.out)
              clear ac
              clear aa
              clear HB
              have ac := aA
              have aa := aB
              have HB := aL
              clear aA aB aL
              have aD : 0 ≤ (ab : Int) := dA
              have aE : ab < (af.length : Int) := dA
              obtain ⟨ao,a1,al⟩ := Kd.at_int (Kd.R_reads' ac.out).2.2 ab aD aE
              cases a1
              replace aD := eq_true aD
              replace aE := eq_true aE
              have aF : 0 ≤ (ag : Int) := dA
              have aG : ag < (af.length : Int) := dA
              obtain ⟨aO,a3,am⟩ := Kd.at_int (Kd.R_reads' ac.out).2.2 ag aF aG
              obtain rfl : ao = aO := (by injection a3)
              replace aF := eq_true aF
              replace aG := eq_true aG
              refine start_ (n := 15) (S := fun w' => w'.cell? (ao.add (ab).toNat) = some (.int .i64 (rd af ab)) ∧ w'.cell? (ao.add (ag).toNat) = some (.int .i64 (rd af ag))) (ds := []) (bA 15 0) (by kernel_rfl) rfl rfl ⟨al,am⟩ (fun hHeld => ?_);refine with_tabW l26_HistoryBases.tab16 l26_HistoryBases.bits16 (fun HT_ HW_ => ?_)
              generalize wr.drew = w35 at ac aa HB al am hHeld ⊢
              refine pure_ (i := 0) (N := some 57) (v := ?_) (a' := ?_) (bA 15 1) rfl rfl (any_of HT_.out (by kernel_rfl)) (fun _ _ _ h => h) (Or.inl ⟨by rfl,?_⟩) ?_ ?_
              rotate_left
              ·intro w'
               go_simp
               with_reducible rfl
              rotate_left
              ·simp only [Act.put,z1_,z2_,z3_,i64_w,i32_w]
               rfl
              refine pure_ (i := 1) (N := some 58) (v := ?_) (a' := ?_) (bA 15 3) rfl rfl (any_of HT_.out (by kernel_rfl)) (fun _ _ _ h => h) (Or.inl ⟨by rfl,?_⟩) ?_ ?_
              rotate_left
              ·intro w'
               go_simp
               with_reducible rfl
              rotate_left
              ·simp only [Act.put,z1_,z2_,z3_,i64_w,i32_w]
               rfl
              refine pure_ (i := 2) (N := some 59) (v := ?_) (a' := ?_) (bA 15 7) rfl rfl (any_of HT_.out (by kernel_rfl)) (fun _ _ _ h => h) (Or.inl ⟨by rfl,?_⟩) ?_ ?_
              rotate_left
              ·intro w'
               go_simp
               with_reducible rfl
              rotate_left
              ·simp only [Act.put,z1_,z2_,z3_,i64_w,i32_w]
               rfl
              refine pure_ (i := 3) (N := some 60) (v := ?_) (a' := ?_) (bA 15 15) rfl rfl (any_of HT_.out (by kernel_rfl)) (fun _ _ _ h => h) (Or.inl ⟨by rfl,?_⟩) ?_ ?_
              rotate_left
              ·intro w'
               go_simp
               with_reducible rfl
              rotate_left
              ·simp only [Act.put,z1_,z2_,z3_,i64_w,i32_w]
               rfl
              refine pure_ (i := 4) (N := some 61) (v := ?_) (a' := ?_) (bA 15 31) rfl rfl (any_of HT_.out (by kernel_rfl)) (fun _ _ _ h => h) (Or.inl ⟨by rfl,?_⟩) ?_ ?_
              rotate_left
              ·intro w'
               go_simp
               with_reducible rfl
              rotate_left
              ·simp only [Act.put,z1_,z2_,z3_,i64_w,i32_w]
               rfl
              refine pure_ (i := 5) (N := some 62) (v := ?_) (a' := ?_) (bA 15 63) rfl rfl (any_of HT_.out (by kernel_rfl)) (fun _ _ _ h => h) (Or.inl ⟨by rfl,?_⟩) ?_ ?_
              rotate_left
              ·intro w'
               go_simp
               with_reducible rfl
              rotate_left
              ·simp only [Act.put,z1_,z2_,z3_,i64_w,i32_w]
               rfl
              refine pure_ (i := 6) (N := some 63) (v := ?_) (a' := ?_) (bA 15 127) rfl rfl (any_of HT_.out (by kernel_rfl)) (fun _ _ _ h => h) (Or.inl ⟨by rfl,?_⟩) ?_ ?_
              rotate_left
              ·intro w'
               go_simp
               with_reducible rfl
              rotate_left
              ·simp only [Act.put,z1_,z2_,z3_,i64_w,i32_w]
               rfl
              refine pure_ (i := 7) (N := some 64) (v := ?_) (a' := ?_) (bA 15 255) rfl rfl (any_of HT_.out (by kernel_rfl)) (fun _ _ _ h => h) (Or.inl ⟨by rfl,?_⟩) ?_ ?_
              rotate_left
              ·intro w'
               go_simp
               with_reducible rfl
              rotate_left
              ·simp only [Act.put,z1_,z2_,z3_,i64_w,i32_w]
               rfl
              refine pure_ (i := 9) (N := some 66) (v := ?_) (a' := ?_) (bA 15 767) rfl rfl (any_of HT_.out (by kernel_rfl)) (fun _ _ _ h => h) (Or.inl ⟨by rfl,?_⟩) ?_ ?_
              rotate_left
              ·intro w'
               go_simp
               with_reducible rfl
              rotate_left
              ·simp only [Act.put,z1_,z2_,z3_,i64_w,i32_w]
               rfl
              refine pure_ (i := 10) (N := some 67) (v := ?_) (a' := ?_) (bA 15 1791) rfl rfl (any_of HT_.out (by kernel_rfl)) (fun _ _ _ h => h) (Or.inl ⟨by rfl,?_⟩) ?_ ?_
              rotate_left
              ·intro w'
               go_simp
               with_reducible rfl
              rotate_left
              ·simp only [Act.put,z1_,z2_,z3_,i64_w,i32_w]
               rfl
              refine pure_ (i := 11) (N := some 68) (v := ?_) (a' := ?_) (bA 15 3839) rfl rfl (any_of HT_.out (by kernel_rfl)) (fun _ _ _ h => h) (Or.inl ⟨by rfl,?_⟩) ?_ ?_
              rotate_left
              ·intro w'
               go_simp
               with_reducible rfl
              rotate_left
              ·simp only [Act.put,z1_,z2_,z3_,i64_w,i32_w]
               rfl
              refine take_ (i := 8) (N := some 65) (v := ?_) (a' := ?_) (bA 15 4095) rfl rfl (take_ofW HT_.out HW_.out (by kernel_rfl)) (fun _ _ _ h => h) (Or.inl ⟨by rfl,?_⟩) hHeld ?_ ?_
              rotate_left
              ·rintro w' ⟨s0,s1⟩
               go_simp
               with_reducible rfl
              rotate_left
              ·simp only [Act.put,z1_,z2_,z3_,i64_w,i32_w]
               rfl
              refine take_ (i := 12) (N := some 69) (v := ?_) (a' := ?_) (bA 15 8191) rfl rfl (take_ofW HT_.out HW_.out (by kernel_rfl)) (fun _ _ _ h => h) (Or.inl ⟨by rfl,?_⟩) hHeld ?_ ?_
              rotate_left
              ·rintro w' ⟨s0,s1⟩
               go_simp
               with_reducible rfl
              rotate_left
              ·simp only [Act.put,z1_,z2_,z3_,i64_w,i32_w]
               rfl
              refine one_ (i := 13) (N := some 70) (bA 15 16383) rfl rfl (one_of HT_.out (by kernel_rfl)) (by decide) (fun K hK => ?_)
              refine goes_ Tryz.func24 (by kernel_rfl) rfl #[.slice A0 l0.length c0,.int .i64 (rd af ab),.int .i64 (rd af ag)] (by rfl) rfl rfl (by (try simp only [z4_,z5_,z6_]);first|done|rfl|(simp only [z7_,z8_];rfl)) ?_
              with_reducible refine (history_Is.calls k3 _ _ l0 (rd af ab) (rd af ag) false _ ?ad ?ae ck.out).mono ?_
              (case ad => exact cM (Kd.C_below aH.out HB.out))
              (case ae => exact aI.out)
              rintro e cR ⟨rfl,hb⟩
              have a4 := (hb.cell (World.block_lt_of_cell? _ _ (hHeld.1))).trans (hHeld.1)
              have a5 := (hb.cell (World.block_lt_of_cell? _ _ (hHeld.2))).trans (hHeld.2)
              refine ⟨_,rfl,?_⟩
              have aA := aK (Kd.R_below (rM ac.out) hb)
              have aB := aK (blk_below (kM aa.out) hb)
              have aL := aK (below_step (bG HB.out) hb)
              clear ac
              clear aa
              clear HB
              have ac := aA
              have aa := aB
              have HB := aL
              clear aA aB aL
              (try clear hb)
              refine hK.out _ _ ⟨a4,a5⟩ (fun hHeld => ?_)
              clear hK K
              refine norm_ (a' := ?_) ?_ ?_
              rotate_left
              ·show Act.put _ (some 70) _ = _
               simp only [Act.put,z1_,z2_,z3_,i64_w,i32_w]
               rfl
              refine pure_ (i := 14) (N := some 71) (v := ?_) (a' := ?_) (bA 15 32767) rfl rfl (any_of HT_.out (by kernel_rfl)) (fun _ _ _ h => h) (Or.inl ⟨by rfl,?_⟩) ?_ ?_
              rotate_left
              ·intro w'
               go_simp
               with_reducible rfl
              rotate_left
              ·simp only [Act.put,z1_,z2_,z3_,i64_w,i32_w]
               rfl
              refine done_ (done_of HT_.out (by kernel_rfl)) ?_
              try go_wp2
              go_roundg k3
              case measure => have := aP.out;have := aC.out;have := aW.out;omega
              case rel => exact ⟨(wrap64 (ag + 1)),(by first|rfl|(simp;done)|(simp [*];done)),H',⟨by have := aP.out;have := aC.out;have := aW.out;omega⟩,⟨rM ac.out⟩,⟨kM aa.out⟩,⟨bG HB.out⟩⟩
           ·rw [if_neg a8] at H
            have bh := decide_eq_false a8
            clear a8
            by_cases bz : aq = true
            ·subst bz
             rw [if_pos rfl] at H
             have H' := aK H
             clear H
             go_wp2
             go_roundg k3
             case measure => have := aP.out;have := aC.out;have := aW.out;omega
             case rel => exact ⟨(true),(wrap64 (ab + 1)),(by first|rfl|(simp;done)|(simp [*];done)),(by first|rfl|(simp;done)|(simp [*];done)),H',⟨by have := aP.out;have := aC.out;have := aW.out;omega⟩,⟨rM ac.out⟩,⟨kM aa.out⟩,⟨bG HB.out⟩⟩
            ·replace bz := Bool.eq_false_iff.mpr bz
             subst bz
             rw [if_neg (show ¬ (false = true) by decide)] at H
             obtain ⟨cl,H⟩ := iS H
             have cm := decide_eq_true cl
             clear cl
             obtain ⟨cn,H⟩ := iS H
             have co := decide_eq_true cn
             clear cn
             replace H := Option.bind_eq_some_iff.mp H
             obtain ⟨bm,bn,H⟩ := H
             have bu := aK bn
             clear bn
             have H' := aK H
             clear H
             have a6 : 0 ≤ (ab : Int) := dA
             have a7 : ab < (af.length : Int) := dA
             obtain ⟨cp,bN,bB⟩ := Kd.at_int (Kd.R_reads' ac.out).2.2 ab a6 a7
             cases bN
             replace a6 := eq_true a6
             replace a7 := eq_true a7
             go_wp2_with (first|(go_at_call 24;(with_reducible refine (history_Is.calls k3 _ _ l0 a2 (rd af ab) bm _ ?ad ?ae bu.out).mono ?_);(case ad => exact cM (Kd.C_below aH.out HB.out));(case ae => exact aI.out);rintro e cS ⟨rfl,hb⟩;replace ac := aK (Kd.R_below (rM ac.out) hb);replace aa := aK (blk_below (kM aa.out) hb);replace HB := aK (below_step (bG HB.out) hb);(try clear hb)))
             go_roundg k3
             case measure => have := aP.out;have := aC.out;have := aW.out;omega
             case rel => exact ⟨(bm),(wrap64 (ab + 1)),(by first|rfl|(simp;done)|(simp [*];done)),(by first|rfl|(simp;done)|(simp [*];done)),H',⟨by have := aP.out;have := aC.out;have := aW.out;omega⟩,⟨rM ac.out⟩,⟨kM aa.out⟩,⟨bG HB.out⟩⟩
     ·rw [if_neg aX] at H
      have aT := decide_eq_false aX
      clear aX
      replace H := Option.bind_eq_some_iff.mp H
      obtain ⟨ax,bo,H⟩ := H
      have bO := aK bo
      clear bo
      replace H := Option.bind_eq_some_iff.mp H
      obtain ⟨bP,bp,H⟩ := H
      have bQ := aK bp
      clear bp
      by_cases bC : bP = true
      ·subst bC
       rw [if_pos rfl] at H
       replace H := Option.bind_eq_some_iff.mp H
       obtain ⟨aQ,bq,H⟩ := H
       have cq := aK bq
       clear bq
       replace H := Option.bind_eq_some_iff.mp H
       obtain ⟨bR,br,H⟩ := H
       have cr := aK br
       clear br
       by_cases bD : bR = true
       ·subst bD
        rw [if_pos rfl] at H
        obtain rfl := Option.some.inj H
        obtain ⟨cA,cB,bS⟩ := Kd.R_slice ac.out
        subst bS
        go_wp2_with (first|((with_reducible refine gate_callee (f := 22) rfl ?_);refine gL 84 Tryz.func22 #[.slice A0 l0.length c0,.int .i64 ai] ?_;(with_reducible refine (history_Ancestors.calls k1 _ _ l0 ai ax _ ?ad ?ae bO.out).mono ?_);(case ad => exact cM (Kd.C_below aH.out HB.out));(case ae => exact aI.out);rintro e cT ⟨bs,rfl,an,hb⟩;refine ⟨_,rfl,?_⟩;have ah := aK (Kd.R_lower (Kd.R_new' an (Kd.R_lt (rM ac.out))) (below_size (bG HB.out)));replace ac := aK (Kd.R_elder' (rM ac.out) (Kd.R_base an) hb);replace HB := aK (below_step (bG HB.out) hb);(try clear hb);(try clear an);obtain ⟨bT,bU,bV⟩ := Kd.R_slice ah.out;subst bV)|((with_reducible refine gate_callee (f := 33) rfl ?_);refine gL 86 Tryz.func33 #[.slice bT ax.length bU,.int .i64 a2] ?_;(with_reducible refine (r05_In.calls k1 _ _ ax a2 true _ ?ad ?ae bQ.out).mono ?_);(case ad => exact cM (Kd.R_reads' ah.out).2.2);(case ae => exact (Kd.R_reads' ah.out).2.1);rintro e w' ⟨rfl,⟨nd,rfl⟩⟩;refine ⟨_,rfl,?_⟩)|(go_at_call 22;(with_reducible refine (history_Ancestors.calls k1 _ _ l0 ak aQ _ ?ad ?ae cq.out).mono ?_);(case ad => exact Kd.C_below aH.out (bG HB.out));(case ae => exact aI.out);rintro e cU ⟨bW,rfl,an,hb⟩;have ap := aK (Kd.R_lower (Kd.R_new' (Kd.R_new' an (Kd.R_lt (rM ac.out))) (Kd.R_lt (rM ah.out))) (below_size (bG HB.out)));replace ac := aK (Kd.R_elder' (rM ac.out) (Kd.R_base an) hb);replace ah := aK (Kd.R_elder' (rM ah.out) (Kd.R_base an) hb);replace HB := aK (below_step (bG HB.out) hb);(try clear hb);(try clear an);obtain ⟨cC,cD,bX⟩ := Kd.R_slice ap.out;subst bX)|(go_at_call 33;(with_reducible refine (r05_In.calls k1 _ _ aQ a2 true _ ?ad ?ae cr.out).mono ?_);(case ad => exact cM (Kd.R_reads' ap.out).2.2);(case ae => exact (Kd.R_reads' ap.out).2.1);rintro e w' ⟨rfl,⟨nd,rfl⟩⟩))
        go_ret
        exact ⟨by first|rfl|(simp [errW_none,errW_some] <;> rfl)|(simp [*,errW_none,errW_some] <;> rfl),bG HB.out⟩
       ·replace bD := Bool.eq_false_iff.mpr bD
        subst bD
        rw [if_neg (show ¬ (false = true) by decide)] at H
        obtain rfl := Option.some.inj H
        obtain ⟨cE,cF,bY⟩ := Kd.R_slice ac.out
        subst bY
        go_wp2_with (first|((with_reducible refine gate_callee (f := 22) rfl ?_);refine gL 84 Tryz.func22 #[.slice A0 l0.length c0,.int .i64 ai] ?_;(with_reducible refine (history_Ancestors.calls k1 _ _ l0 ai ax _ ?ad ?ae bO.out).mono ?_);(case ad => exact cM (Kd.C_below aH.out HB.out));(case ae => exact aI.out);rintro e cV ⟨bs,rfl,an,hb⟩;refine ⟨_,rfl,?_⟩;have ah := aK (Kd.R_lower (Kd.R_new' an (Kd.R_lt (rM ac.out))) (below_size (bG HB.out)));replace ac := aK (Kd.R_elder' (rM ac.out) (Kd.R_base an) hb);replace HB := aK (below_step (bG HB.out) hb);(try clear hb);(try clear an);obtain ⟨bZ,b1,b2⟩ := Kd.R_slice ah.out;subst b2)|((with_reducible refine gate_callee (f := 33) rfl ?_);refine gL 86 Tryz.func33 #[.slice bZ ax.length b1,.int .i64 a2] ?_;(with_reducible refine (r05_In.calls k1 _ _ ax a2 true _ ?ad ?ae bQ.out).mono ?_);(case ad => exact cM (Kd.R_reads' ah.out).2.2);(case ae => exact (Kd.R_reads' ah.out).2.1);rintro e w' ⟨rfl,⟨nd,rfl⟩⟩;refine ⟨_,rfl,?_⟩)|(go_at_call 22;(with_reducible refine (history_Ancestors.calls k1 _ _ l0 ak aQ _ ?ad ?ae cq.out).mono ?_);(case ad => exact Kd.C_below aH.out (bG HB.out));(case ae => exact aI.out);rintro e cW ⟨bW,rfl,an,hb⟩;have ap := aK (Kd.R_lower (Kd.R_new' (Kd.R_new' an (Kd.R_lt (rM ac.out))) (Kd.R_lt (rM ah.out))) (below_size (bG HB.out)));replace ac := aK (Kd.R_elder' (rM ac.out) (Kd.R_base an) hb);replace ah := aK (Kd.R_elder' (rM ah.out) (Kd.R_base an) hb);replace HB := aK (below_step (bG HB.out) hb);(try clear hb);(try clear an);obtain ⟨cG,cH,b3⟩ := Kd.R_slice ap.out;subst b3)|(go_at_call 33;(with_reducible refine (r05_In.calls k1 _ _ aQ a2 false _ ?ad ?ae cr.out).mono ?_);(case ad => exact cM (Kd.R_reads' ap.out).2.2);(case ae => exact (Kd.R_reads' ap.out).2.1);rintro e w' ⟨rfl,⟨nd,rfl⟩⟩))
        go_ret
        exact ⟨by first|rfl|(simp [errW_none,errW_some] <;> rfl)|(simp [*,errW_none,errW_some] <;> rfl),bG HB.out⟩
      ·replace bC := Bool.eq_false_iff.mpr bC
       subst bC
       rw [if_neg (show ¬ (false = true) by decide)] at H
       obtain rfl := Option.some.inj H
       obtain ⟨cI,cJ,b4⟩ := Kd.R_slice ac.out
       subst b4
       go_wp2_with (first|((with_reducible refine gate_callee (f := 22) rfl ?_);refine gL 84 Tryz.func22 #[.slice A0 l0.length c0,.int .i64 ai] ?_;(with_reducible refine (history_Ancestors.calls k1 _ _ l0 ai ax _ ?ad ?ae bO.out).mono ?_);(case ad => exact cM (Kd.C_below aH.out HB.out));(case ae => exact aI.out);rintro e cX ⟨bs,rfl,an,hb⟩;refine ⟨_,rfl,?_⟩;have ah := aK (Kd.R_lower (Kd.R_new' an (Kd.R_lt (rM ac.out))) (below_size (bG HB.out)));replace HB := aK (below_step (bG HB.out) hb);(try clear hb);(try clear an);obtain ⟨b5,b6,b7⟩ := Kd.R_slice ah.out;subst b7)|((with_reducible refine gate_callee (f := 33) rfl ?_);refine gL 86 Tryz.func33 #[.slice b5 ax.length b6,.int .i64 a2] ?_;(with_reducible refine (r05_In.calls k1 _ _ ax a2 false _ ?ad ?ae bQ.out).mono ?_);(case ad => exact cM (Kd.R_reads' ah.out).2.2);(case ae => exact (Kd.R_reads' ah.out).2.1);rintro e w' ⟨rfl,⟨nd,rfl⟩⟩;refine ⟨_,rfl,?_⟩))
       go_ret
       exact ⟨by first|rfl|(simp [errW_none,errW_some] <;> rfl)|(simp [*,errW_none,errW_some] <;> rfl),bG HB.out⟩
  ·replace c7 := Bool.eq_false_iff.mpr c7
   subst c7
   rw [if_neg (show ¬ (false = true) by decide)] at H
   obtain rfl := Option.some.inj H
   go_enter Tryz.func8,Tryz.ntmps8
   go_wp2_with (first|((with_reducible refine gate_dst (N := 4) rfl ?_);refine box_event ?hg (N := 4) ?hd (cs := #[.int .i64 ai,.int .i64 ak]) (t := 46) ?hr ?_;(case hd => rfl);(case hg => rfl);(case hr => first|(go_simp;done)|(go_simp;rfl));intro aj hg cY hbox hb;have ay := aK ((by rw [hg];exact (below_size (bM HB.out)) : w.heap.size ≤ aj));have aR := Ge.mk ay.out;have az := aK ((by rw [hg];exact (below_size (bM HB.out)) : w.heap.size ≤ aj));have aS := Ge.mk az.out;replace HB := aK (below_step (bM HB.out) hb);clear hb hbox hg)|((with_reducible refine gate_callee (f := 10) rfl ?_);refine gL 14 Tryz.func10 #[] ?_;(with_reducible refine (l26_alive.calls k  true _ A4.out).mono ?_);rintro e cZ ⟨rfl,hb⟩;refine ⟨_,rfl,?_⟩;replace HB := aK (below_step (bG HB.out) hb);(try clear hb))|((with_reducible refine gate_callee (f := 17) rfl ?_);refine gL 17 Tryz.func17 #[.slice A0 l0.length c0] ?_;(with_reducible refine (l26_right.calls k _ _ l0 false _ ?ad ?ae A6.out).mono ?_);(case ad => exact cM (Kd.C_below aH.out HB.out));(case ae => exact aI.out);rintro e c1 ⟨rfl,hb⟩;refine ⟨_,rfl,?_⟩;replace HB := aK (below_step (bG HB.out) hb);(try clear hb)))
   go_ret
   exact ⟨by first|rfl|(simp [errW_none,errW_some] <;> rfl)|(simp [*,errW_none,errW_some] <;> rfl),bG HB.out⟩
 ·replace c5 := Bool.eq_false_iff.mpr c5
  subst c5
  rw [if_neg (show ¬ (false = true) by decide)] at H
  obtain rfl := Option.some.inj H
  go_enter Tryz.func8,Tryz.ntmps8
  go_wp2_with (first|((with_reducible refine gate_dst (N := 4) rfl ?_);refine box_event ?hg (N := 4) ?hd (cs := #[.int .i64 ai,.int .i64 ak]) (t := 46) ?hr ?_;(case hd => rfl);(case hg => rfl);(case hr => first|(go_simp;done)|(go_simp;rfl));intro aj hg da hbox hb;have ay := aK ((by rw [hg];exact (below_size (bM HB.out)) : w.heap.size ≤ aj));have aR := Ge.mk ay.out;have az := aK ((by rw [hg];exact (below_size (bM HB.out)) : w.heap.size ≤ aj));have aS := Ge.mk az.out;replace HB := aK (below_step (bM HB.out) hb);clear hb hbox hg)|((with_reducible refine gate_callee (f := 10) rfl ?_);refine gL 14 Tryz.func10 #[] ?_;(with_reducible refine (l26_alive.calls k  false _ A4.out).mono ?_);rintro e db ⟨rfl,hb⟩;refine ⟨_,rfl,?_⟩;replace HB := aK (below_step (bG HB.out) hb);(try clear hb)))
  go_ret
  exact ⟨by first|rfl|(simp [errW_none,errW_some] <;> rfl)|(simp [*,errW_none,errW_some] <;> rfl),bG HB.out⟩
end Go.Proofs.YtgadbpljlpclnaaGreatDoor.H
