import Derived.Test.YtobdkgoapcbipaaGreatDoorJx0
import Derived.Test.YtobdkgoapcbipaaGreatDoorJx1
import Derived.Test.YtobdkgoapcbipaaGreatDoorJx2
import Derived.Test.YtobdkgoapcbipaaGreatDoorJx4
namespace Go.Proofs.YtobdkgoapcbipaaGreatDoor.J
open Go.RowKit Go.Proofs.YtobdkgoapcbipaaGreatDoorW.PrintWords Go.Proofs.YtobdkgoapcbipaaGreatDoorW.PrintLast Go.Proofs.YtobdkgoapcbipaaGreatDoorW.PrintMore
attribute [local go_sem] max2_int min2_int max_two min_two max_three min_three max_four min_four
set_option linter.unusedVariables false
set_option linter.unusedSimpArgs false

/-! ### group_one: function 33 -/
mutual
def group_one.j0 : Nat → List (S36) → Int → Bool → ByteArray → List Int → List ByteArray → Option (Int)
|0,_,_,_,_,_,_ => none
|k + 1,x0,x1,ae,ab,aa,ac => if ae = true then (some 3) else (if 0 ≤ x1 then (if x1 ≤ (x0.length : Int) then ((group_find.f k (x0.take (x1 : Int).toNat) ab).bind fun ad => (if ad.2.2.2 = true then (some 7) else (if (wrap64 ((aa.length : Int) + (ac.length : Int))) > 16 then (some 4) else (group_one.l0 k x0 aa (aa.length : Int) 0 ab aa ac)))) else (none)) else (none))
def group_one.l0 : Nat → List (S36) → List Int → Int → Int → ByteArray → List Int → List ByteArray → Option (Int)
|0,_,_,_,_,_,_,_ => none
|k + 1,x0,ae,af,ad,ab,aa,ac => if ad < af then (if 0 ≤ ad then (if ad < (ae.length : Int) then (if (rd ae ad) < 1 then (some 2) else (if (rd ae ad) > 9999 then (some 2) else (group_one.l0 k x0 ae af (wrap64 (ad + 1)) ab aa ac))) else (none)) else (none)) else (group_one.l1 k x0 aa (aa.length : Int) 0 ab aa ac)
def group_one.l1 : Nat → List (S36) → List Int → Int → Int → ByteArray → List Int → List ByteArray → Option (Int)
|0,_,_,_,_,_,_,_ => none
|k + 1,x0,ae,ag,ad,ac,aa,ab => if ad < ag then (if 0 ≤ ad then (if ad < (ae.length : Int) then (if ad ≤ (aa.length : Int) then ((slices_Contains_int_int.f k (aa.take (ad : Int).toNat) (rd ae ad)).bind fun af => (if af = true then (some 7) else (group_one.l1 k x0 ae ag (wrap64 (ad + 1)) ac aa ab))) else (none)) else (none)) else (none)) else (group_one.l2 k x0 ab (ab.length : Int) 0 ac aa ab)
def group_one.l2 : Nat → List (S36) → List ByteArray → Int → Int → ByteArray → List Int → List ByteArray → Option (Int)
|0,_,_,_,_,_,_,_ => none
|k + 1,x0,ae,ag,ad,ab,ac,aa => if ad < ag then (if 0 ≤ ad then (if ad < (ae.length : Int) then (if ad ≤ (aa.length : Int) then ((slices_Contains_string_string.f k (aa.take (ad : Int).toNat) (rdOf ByteArray.empty ae ad)).bind fun af => (if af = true then (some 7) else (group_one.l2 k x0 ae ag (wrap64 (ad + 1)) ab ac aa))) else (none)) else (none)) else (none)) else (group_one.l3 k x0 aa (aa.length : Int) 0)
def group_one.l3 : Nat → List (S36) → List ByteArray → Int → Int → Option (Int)
|0,_,_,_,_ => none
|k + 1,x0,ac,ad,aa => if aa < ad then (if 0 ≤ aa then (if aa < (ac.length : Int) then ((group_find.f k x0 (rdOf ByteArray.empty ac aa)).bind fun ab => (if ab.2.2.2 = true then (group_one.l3 k x0 ac ad (wrap64 (aa + 1))) else (some 8))) else (none)) else (none)) else (some 0)
end
def group_one.f (k : Nat) (l0 : List (S36)) (a1 : Int) : Option (Int) := if 0 ≤ a1 then (if a1 < (l0.length : Int) then ((glob_ValidPath.f k ((rd_T36 l0 a1).f0)).bind fun aa => (if aa = true then ((strings_Contains.f ((rd_T36 l0 a1).f0) (⟨#[47]⟩ : ByteArray)).bind fun ab => (group_one.j0 k l0 a1 ab ((rd_T36 l0 a1).f0) ((rd_T36 l0 a1).f1) ((rd_T36 l0 a1).f2))) else (group_one.j0 k l0 a1 true ((rd_T36 l0 a1).f0) ((rd_T36 l0 a1).f1) ((rd_T36 l0 a1).f2)))) else (none)) else (none)
theorem group_one.mono_l : ∀ k, (∀ y0 y1 y2 y3 y4 y5, LeO (group_one.j0 k y0 y1 y2 y3 y4 y5) (group_one.j0 (k + 1) y0 y1 y2 y3 y4 y5)) ∧ (∀ y0 y1 y2 y3 y4 y5 y6, LeO (group_one.l0 k y0 y1 y2 y3 y4 y5 y6) (group_one.l0 (k + 1) y0 y1 y2 y3 y4 y5 y6)) ∧ (∀ y0 y1 y2 y3 y4 y5 y6, LeO (group_one.l1 k y0 y1 y2 y3 y4 y5 y6) (group_one.l1 (k + 1) y0 y1 y2 y3 y4 y5 y6)) ∧ (∀ y0 y1 y2 y3 y4 y5 y6, LeO (group_one.l2 k y0 y1 y2 y3 y4 y5 y6) (group_one.l2 (k + 1) y0 y1 y2 y3 y4 y5 y6)) ∧ (∀ y0 y1 y2 y3, LeO (group_one.l3 k y0 y1 y2 y3) (group_one.l3 (k + 1) y0 y1 y2 y3))
|0 => ⟨fun _ _ _ _ _ _ r h => by simp [group_one.j0] at h,fun _ _ _ _ _ _ _ r h => by simp [group_one.l0] at h,fun _ _ _ _ _ _ _ r h => by simp [group_one.l1] at h,fun _ _ _ _ _ _ _ r h => by simp [group_one.l2] at h,fun _ _ _ _ r h => by simp [group_one.l3] at h⟩
|k + 1 => by
  obtain ⟨ih0,ih1,ih2,ih3,ih4⟩ := group_one.mono_l k
  refine ⟨?_,?_,?_,?_,?_⟩
  ·intro y0 y1 y2 y3 y4 y5
   unfold group_one.j0
   repeat' (with_reducible first|exact ih1 _ _ _ _ _ _ _|exact group_find.mono _ _ _|exact LeO.refl _|exact LeO.none _|refine LeO.ite ?_ ?_|refine LeO.bind ?_ (fun _ => ?_))
  ·intro y0 y1 y2 y3 y4 y5 y6
   unfold group_one.l0
   repeat' (with_reducible first|exact ih1 _ _ _ _ _ _ _|exact ih2 _ _ _ _ _ _ _|exact LeO.refl _|exact LeO.none _|refine LeO.ite ?_ ?_|refine LeO.bind ?_ (fun _ => ?_))
  ·intro y0 y1 y2 y3 y4 y5 y6
   unfold group_one.l1
   repeat' (with_reducible first|exact ih2 _ _ _ _ _ _ _|exact ih3 _ _ _ _ _ _ _|exact slices_Contains_int_int.mono _ _ _|exact LeO.refl _|exact LeO.none _|refine LeO.ite ?_ ?_|refine LeO.bind ?_ (fun _ => ?_))
  ·intro y0 y1 y2 y3 y4 y5 y6
   unfold group_one.l2
   repeat' (with_reducible first|exact ih3 _ _ _ _ _ _ _|exact ih4 _ _ _ _|exact slices_Contains_string_string.mono _ _ _|exact LeO.refl _|exact LeO.none _|refine LeO.ite ?_ ?_|refine LeO.bind ?_ (fun _ => ?_))
  ·intro y0 y1 y2 y3
   unfold group_one.l3
   repeat' (with_reducible first|exact ih4 _ _ _ _|exact group_find.mono _ _ _|exact LeO.refl _|exact LeO.none _|refine LeO.ite ?_ ?_|refine LeO.bind ?_ (fun _ => ?_))
theorem group_one.mono : ∀ a0 a1 k, LeO (group_one.f k a0 a1) (group_one.f (k + 1) a0 a1) := by
 intro a0 a1 k
 obtain ⟨ih0,ih1,ih2,ih3,ih4⟩ := group_one.mono_l k
 unfold group_one.f
 repeat' (with_reducible first|exact ih0 _ _ _ _ _ _|exact ih1 _ _ _ _ _ _ _|exact ih2 _ _ _ _ _ _ _|exact ih3 _ _ _ _ _ _ _|exact ih4 _ _ _ _|exact glob_ValidPath.mono _ _|exact group_find.mono _ _ _|exact slices_Contains_int_int.mono _ _ _|exact slices_Contains_string_string.mono _ _ _|exact LeO.refl _|exact LeO.none _|refine LeO.ite ?_ ?_|refine LeO.bind ?_ (fun _ => ?_))
def group_one.T4 : Bool × List (List Nat × List Nat) := (true, [([], []), ([], []), ([0, 1], [0, 1]), ([], []), ([3], [3]), ([2, 4], [2, 4]), ([5], [5]), ([6], [6]), ([6], [6]), ([], []), ([9, 7, 5, 0, 1, 2, 3, 4, 5, 6, 7, 9], [7, 9]), ([8, 10, 0, 1, 2, 3, 4, 5, 6, 7, 8, 9, 10], [8])])
def group_one.B4 : List Nat := [0, 0, 3, 0, 8, 31, 63, 127, 127, 0, 767, 2047]
theorem group_one.tab4 : rtab .any (opsOf Tryz.f33 4) = group_one.T4 := by kernel_rfl
theorem group_one.bits4 : waitsOk group_one.T4.2 group_one.B4 = true := by kernel_rfl
set_option maxHeartbeats 4000000 in
set_option maxRecDepth 100000 in
theorem group_one.calls (k : Nat) (A0 : Option Addr) (c0 : Nat) (l0 : List (S36)) (a1 : Int) (r : Int) (w : World) (fa : Kd.C k36 w A0 l0.length l0) (fb : l0.length ≤ c0) (h : group_one.f k l0 a1 = some r) :
  Calls Tryz.prog 33 #[.slice A0 l0.length c0,.int .i64 a1] w fun e w' => e = .returned (.int .i64 r) ∧ Below w.heap.size w w' := by
 have gj := Tryz.underlying36
 have dx := aK fa
 have dE := aK fb
 clear fa fb
 have HB := aK (Below.refl w.heap.size w)
 unfold group_one.f at h
 have H := h
 clear h
 by_cases c3 : 0 ≤ a1
 ·rw [if_pos c3] at H
  have eI := decide_eq_true c3
  clear c3
  obtain ⟨c4,H⟩ := iS H
  have eJ := decide_eq_true c4
  clear c4
  have eK := aK H
  clear H
  have bW : 0 ≤ (a1 : Int) := dA
  have bX : a1 < (l0.length : Int) := dA
  obtain ⟨aH,ai,ag,aj,ah,eL,bY,bZ,b1,bs,bu,bv,bx⟩ := at_T36 dx.out a1 bW bX
  cases eL
  have aL := aK bu
  have bz := aK bs
  clear bu bs
  have aS := aK bx
  have bB := aK bv
  clear bx bv
  replace bW := eq_true bW
  replace bX := eq_true bX
  go_enter Tryz.func33,Tryz.ntmps33
  go_upto_region 2 with (first|((with_reducible refine gate_dst (N := 5) rfl ?_);refine box_event ?hg (N := 5) ?hd (cs := #[.string (⟨#[]⟩ : ByteArray),.slice none 0 0,.slice none 0 0]) (t := 36) ?hr ?_;(case hd => rfl);(case hg => rfl);(case hr => first|(go_simp;done)|(go_simp;rfl));intro ad hg w6 hbox hb;have aa := aK (hbox);have aA := aK ((by rw [hg];exact (below_size (bM HB.out)) : w.heap.size ≤ ad));have fc := Ge.mk aA.out;have dF := aK ((by rw [hg];exact (below_size (bM HB.out)) : w.heap.size ≤ ad));have fd := Ge.mk dF.out;replace HB := aK (below_step (bM HB.out) hb);clear hb hbox hg;obtain ⟨c1,da,db,dc,dd,de⟩ := bk3_ aa.out))
  (try simp only [Act.put,z1_,z2_,z3_])
  go_cut [30] (fun gl wc => ∃ (kq : Nat) (bC : Bool),gl = .bool bC ∧ Aside0 (group_one.j0 kq l0 a1 bC ((rd_T36 l0 a1).f0) ((rd_T36 l0 a1).f1) ((rd_T36 l0 a1).f2) = some r) ∧ Aside0 (kq ≤ k) ∧ Aside0 (wc.heap[ad]? = some (.cells #[.string ((rd_T36 l0 a1).f0),(.slice ai ((rd_T36 l0 a1).f1).length ag),(.slice aj ((rd_T36 l0 a1).f2).length ah)] 36 (0,0))) ∧ Aside0 (Below w.heap.size w wc))
  case first =>
   have H := eK.out
   clear eK
   replace H := Option.bind_eq_some_iff.mp H
   obtain ⟨eM,fe,H⟩ := H
   have A8 := aK fe
   clear fe
   by_cases c9 : eM = true
   ·subst c9
    rw [if_pos rfl] at H
    replace H := Option.bind_eq_some_iff.mp H
    obtain ⟨dG,dH,H⟩ := H
    have gm := aK dH
    clear dH
    have H' := aK H
    clear H
    obtain ⟨_,_,_,_,_,_⟩ := bk3_ aa.out
    go_wp2_with (first|((with_reducible refine gate_callee (f := 56) rfl ?_);refine gL 24 Tryz.func56 #[.string ((rd_T36 l0 a1).f0)] ?_;(with_reducible refine (glob_ValidPath.calls k ((rd_T36 l0 a1).f0) true _ A8.out).mono ?_);rintro e g3 ⟨rfl,hb⟩;refine ⟨_,rfl,?_⟩;replace aa := aK (blk_below (g := ad) (o := .cells #[.string ((rd_T36 l0 a1).f0),.slice ai ((rd_T36 l0 a1).f1).length ag,.slice aj ((rd_T36 l0 a1).f2).length ah] 36 (0,0)) (by refine kO ?_;refine blk_put (cs := #[.string ((rd_T36 l0 a1).f0),.slice ai ((rd_T36 l0 a1).f1).length ag,.slice none 0 0]) ?_ 2 _ rfl;refine kO ?_;refine blk_put (cs := #[.string ((rd_T36 l0 a1).f0),.slice none 0 0,.slice none 0 0]) ?_ 1 _ rfl;refine kO ?_;refine blk_put (cs := #[.string (⟨#[]⟩ : ByteArray),.slice none 0 0,.slice none 0 0]) ?_ 0 _ rfl;refine kO ?_;exact aa.out) hb);replace HB := aK (below_step (bG HB.out) hb);(try clear hb);(try clear hk);obtain ⟨_,_,_,_,_,_⟩ := bk3_ aa.out)|(go_at_call 57;(with_reducible refine (strings_Contains.calls ((rd_T36 l0 a1).f0) (⟨#[47]⟩ : ByteArray) dG _ gm.out).mono ?_);rintro e w' ⟨rfl,⟨nd,rfl⟩⟩))
    go_meet
    case rel => exact ⟨_,(dG),(by first|rfl|(simp;done)|(simp [*];done)),H',⟨by first|omega|exact Nat.le_refl _⟩,⟨kM aa.out⟩,⟨bG HB.out⟩⟩
   ·replace c9 := Bool.eq_false_iff.mpr c9
    subst c9
    rw [if_neg (show ¬ (false = true) by decide)] at H
    have H' := aK H
    clear H
    obtain ⟨_,_,_,_,_,_⟩ := bk3_ aa.out
    go_wp2_with (first|((with_reducible refine gate_callee (f := 56) rfl ?_);refine gL 24 Tryz.func56 #[.string ((rd_T36 l0 a1).f0)] ?_;(with_reducible refine (glob_ValidPath.calls k ((rd_T36 l0 a1).f0) false _ A8.out).mono ?_);rintro e g4 ⟨rfl,hb⟩;refine ⟨_,rfl,?_⟩;replace aa := aK (blk_below (g := ad) (o := .cells #[.string ((rd_T36 l0 a1).f0),.slice ai ((rd_T36 l0 a1).f1).length ag,.slice aj ((rd_T36 l0 a1).f2).length ah] 36 (0,0)) (by refine kO ?_;refine blk_put (cs := #[.string ((rd_T36 l0 a1).f0),.slice ai ((rd_T36 l0 a1).f1).length ag,.slice none 0 0]) ?_ 2 _ rfl;refine kO ?_;refine blk_put (cs := #[.string ((rd_T36 l0 a1).f0),.slice none 0 0,.slice none 0 0]) ?_ 1 _ rfl;refine kO ?_;refine blk_put (cs := #[.string (⟨#[]⟩ : ByteArray),.slice none 0 0,.slice none 0 0]) ?_ 0 _ rfl;refine kO ?_;exact aa.out) hb);replace HB := aK (below_step (bG HB.out) hb);(try clear hb);(try clear hk)))
    go_meet
    case rel => exact ⟨_,(true),(by first|rfl|(simp;done)|(simp [*];done)),H',⟨by first|omega|exact Nat.le_refl _⟩,⟨kM aa.out⟩,⟨bG HB.out⟩⟩
  case rest =>
   clear eK
   try clear p1
   try clear q1
   try clear hx1
   try clear p2
   try clear c3
   try clear eI
   try clear c4
   try clear eJ
   try clear p15
   try clear q15
   try clear hx15
   try clear c1
   try clear da
   try clear db
   try clear dc
   try clear dd
   try clear de
   try clear bY
   try clear bZ
   try clear b1
   try clear bW
   try clear bX
   obtain ⟨kq,bC,rfl,HA,cu,aa,HB⟩ := hcut
   cases kq with
  |zero => exact absurd HA.out (by simp [group_one.j0])
  |succ kj4 =>
    have H := HA.out
    clear HA
    simp only [group_one.j0] at H
    by_cases ei : bC = true
    ·subst ei
     rw [if_pos rfl] at H
     obtain rfl := Option.some.inj H
     go_wp2
     go_ret
     exact ⟨by first|rfl|(simp [errW_none,errW_some] <;> rfl)|(simp [*,errW_none,errW_some] <;> rfl),bG HB.out⟩
    ·replace ei := Bool.eq_false_iff.mpr ei
     subst ei
     rw [if_neg (show ¬ (false = true) by decide)] at H
     obtain ⟨eN,H⟩ := iS H
     have ff := eq_true eN
     have fg := decide_eq_true eN
     clear eN
     obtain ⟨eO,H⟩ := iS H
     have fh := eq_true eO
     have fi := decide_eq_true eO
     clear eO
     obtain ⟨aM,bh⟩ : ∃ y_ : List (S36),y_ = (l0.take (a1 : Int).toNat) := ⟨_,rfl⟩
     replace H : ((group_find.f kj4 aM ((rd_T36 l0 a1).f0)).bind fun dI => (if dI.2.2.2 = true then (some 7) else (if (wrap64 ((((rd_T36 l0 a1).f1).length : Int) + (((rd_T36 l0 a1).f2).length : Int))) > 16 then (some 4) else (group_one.l0 kj4 l0 ((rd_T36 l0 a1).f1) (((rd_T36 l0 a1).f1).length : Int) 0 ((rd_T36 l0 a1).f0) ((rd_T36 l0 a1).f1) ((rd_T36 l0 a1).f2))))) = some r := by first|(rw [bh];with_reducible exact H)|(have eP := (Option.bind_some _ _).symm.trans H;rw [bh];with_reducible exact eP)|(have eP := (Option.bind_some _ _).symm.trans H;with_reducible exact eP)|with_reducible exact H|(rw [bh];exact H)|exact H
     have be := aK bh
     clear bh
     replace H := Option.bind_eq_some_iff.mp H
     obtain ⟨⟨az,av,aw,dJ⟩,dK,H⟩ := H
     replace H : (if dJ = true then (some 7) else (if (wrap64 ((((rd_T36 l0 a1).f1).length : Int) + (((rd_T36 l0 a1).f2).length : Int))) > 16 then (some 4) else (group_one.l0 kj4 l0 ((rd_T36 l0 a1).f1) (((rd_T36 l0 a1).f1).length : Int) 0 ((rd_T36 l0 a1).f0) ((rd_T36 l0 a1).f1) ((rd_T36 l0 a1).f2)))) = some r := H
     have dy := aK dK
     clear dK
     by_cases ej : dJ = true
     ·subst ej
      rw [if_pos rfl] at H
      obtain rfl := Option.some.inj H
      try go_wp2
      have aB := aK (blk_drew aa.out)
      have aC := aK (below_drew1 HB.out)
      clear aa
      clear HB
      have aa := aB
      have HB := aC
      clear aB aC
      have eQ : (a1 : Int) ≤ ((l0.length : Int) : Int) := dA
      obtain ⟨gn,cv,_,dL,_⟩ := info_parts info36
      have bD : l0.length ≤ c0 := dE.out
      have dM : Kd.C k36 _ (some aH) l0.length l0 := dx.out
      have df := cut_to (P := Tryz.prog) 22 36 .i64 Tryz.underlying22 cv (some aH) l0.length c0 a1 (dA) eQ bD
      have dg := Kd.C_take (m := (a1 : Int).toNat) dM (by omega)
      have dh : aM.length = (a1 : Int).toNat := (by rw [be.out,List.length_take];omega)
      rw [← be.out] at dg
      rw [← dh] at df
      have aO := aK dg
      have a4 := aK (show aM.length ≤ c0 from by omega)
      clear dg dM bD cv dL
      have gp := aK dh
      clear dh
      replace eQ := eq_true eQ
      refine start_ (n := 12) (S := fun w' => w'.cell? ⟨ad,0,none⟩ = some (.string ((rd_T36 l0 a1).f0)) ∧ w'.cell? ⟨ad,1,none⟩ = some (.slice ai ((rd_T36 l0 a1).f1).length ag) ∧ w'.cell? ⟨ad,2,none⟩ = some (.slice aj ((rd_T36 l0 a1).f2).length ah)) (ds := []) (bA 12 0) (by kernel_rfl) rfl rfl ⟨(blk_cell aa.out 0).trans rfl,(blk_cell aa.out 1).trans rfl,(blk_cell aa.out 2).trans rfl⟩ (fun hHeld => ?_);refine with_tabW group_one.tab4 group_one.bits4 (fun HT_ HW_ => ?_)
      generalize wc.drew = w21 at aa HB aO hHeld ⊢
      refine pure_ (i := 0) (N := some 32) (v := ?_) (a' := ?_) (bA 12 1) rfl rfl (any_of HT_.out (by kernel_rfl)) (fun _ _ _ h => h) (Or.inl ⟨by rfl,?_⟩) ?_ ?_
      rotate_left
      ·intro w'
       go_simp
       with_reducible rfl
      rotate_left
      ·simp only [Act.put,z1_,z2_,z3_,i64_w,i32_w]
       rfl
      refine pure_ (i := 1) (N := some 33) (v := ?_) (a' := ?_) (bA 12 3) rfl rfl (any_of HT_.out (by kernel_rfl)) (fun _ _ _ h => h) (Or.inl ⟨by rfl,?_⟩) ?_ ?_
      rotate_left
      ·intro w'
       go_simp
       with_reducible rfl
      rotate_left
      ·simp only [Act.put,z1_,z2_,z3_,i64_w,i32_w]
       rfl
      refine pure_ (i := 2) (N := some 34) (v := ?_) (a' := ?_) (bA 12 7) rfl rfl (any_of HT_.out (by kernel_rfl)) (fun _ _ _ h => h) (Or.inl ⟨by rfl,?_⟩) ?_ ?_
      rotate_left
      ·intro w'
       go_simp
       with_reducible rfl
      rotate_left
      ·simp only [Act.put,z1_,z2_,z3_,i64_w,i32_w]
       rfl
      refine pure_ (i := 3) (N := some 35) (v := ?_) (a' := ?_) (bA 12 15) rfl rfl (any_of HT_.out (by kernel_rfl)) (fun _ _ _ h => h) (Or.inl ⟨by rfl,?_⟩) ?_ ?_
      rotate_left
      ·intro w'
       go_simp
       with_reducible rfl
      rotate_left
      ·simp only [Act.put,z1_,z2_,z3_,i64_w,i32_w]
       rfl
      refine take_ (i := 4) (N := some 36) (v := ?_) (a' := ?_) (bA 12 31) rfl rfl (take_ofW HT_.out HW_.out (by kernel_rfl)) (fun _ _ _ h => h) (Or.inl ⟨by rfl,?_⟩) hHeld ?_ ?_
      rotate_left
      ·rintro w' ⟨s0,s1,s2⟩
       go_simp
       with_reducible rfl
      rotate_left
      ·simp only [Act.put,z1_,z2_,z3_,i64_w,i32_w]
       rfl
      refine join_ (σ := Value × Value × Nat) 2 (bA 12 1023) (fun s_ => [(37,.tuple #[.agg #[.string az,s_.1,s_.2.1],.bool true]),(6,.pointer (some ⟨s_.2.2,0,none⟩)),(31,.tuple #[.agg #[.string az,s_.1,s_.2.1],.bool true]),(38,.agg #[.string az,s_.1,s_.2.1]),(39,.bool true)]) (fun s_ w' => (w'.cell? ⟨ad,0,none⟩ = some (.string ((rd_T36 l0 a1).f0)) ∧ w'.cell? ⟨ad,1,none⟩ = some (.slice ai ((rd_T36 l0 a1).f1).length ag) ∧ w'.cell? ⟨ad,2,none⟩ = some (.slice aj ((rd_T36 l0 a1).f2).length ah)) ∧ (Kd.V (Kd.int .i64) 3 w' w.heap.size (fun k_ => k_ ≠ ad ∧ k_ ≠ s_.2.2) s_.1 av) ∧ (Kd.V Kd.string 9 w' w.heap.size (fun k_ => k_ ≠ ad ∧ k_ ≠ s_.2.2) s_.2.1 aw) ∧ (w'.heap[ad]? = some (.cells #[.string ((rd_T36 l0 a1).f0),.slice ai ((rd_T36 l0 a1).f1).length ag,.slice aj ((rd_T36 l0 a1).f2).length ah] 36 (0,0))) ∧ (w'.heap[s_.2.2]? = some (.cells #[.string (⟨#[]⟩ : ByteArray),.slice none 0 0,.slice none 0 0] 36 (0,0))) ∧ (w.heap.size ≤ s_.2.2) ∧ (w.heap.size ≤ s_.2.2) ∧ (ad ≠ s_.2.2) ∧ (s_.2.2 ≠ ad) ∧ (Below w.heap.size w w')) ?_ ?_
      rotate_left
      ·intro hCont
       refine two_ (i := 5) (j := 9) (Ni := some 37) (Nj := some 6) (bA 12 63) (bA 12 543) rfl rfl rfl rfl (two_of HT_.out (by kernel_rfl)) (by decide) (by decide) (fun K hK => ?_) (fun K hK => ?_)
       ·skip
        refine goes_ Tryz.func41 (by kernel_rfl) rfl #[.slice (some aH) aM.length c0,.string ((rd_T36 l0 a1).f0)] (by rfl) rfl rfl (by (try simp only [z4_,z5_,z6_]);first|done|rfl|(simp only [z7_,z8_];rfl)) ?_
        with_reducible refine (group_find.calls kj4 (fun k_ => k_ < w.heap.size) _ _ aM ((rd_T36 l0 a1).f0) az av aw true _ ?ar dy.out).mono ?_
        (case ar => exact Kd.V_mk a4.out (Kd.F_below (Kd.C_F k36_heap aO.out) (bG HB.out)))
        rintro e gq ⟨aP,aQ,rfl,a9,ba,hb⟩
        refine ⟨_,rfl,?_⟩
        have aB := aK (Kd.V_lower (Kd.V_mono (ok' := fun k_ => k_ ≠ ad) a9 (fun k_ hk_ => Or.elim hk_ (fun hs_ => fun e_ => Nat.not_le.2 hs_ (by rw [e_];exact aA.out)) (fun hn_ => (Kd.freshB (g := ad) (o := .cells #[.string ((rd_T36 l0 a1).f0),.slice ai ((rd_T36 l0 a1).f1).length ag,.slice aj ((rd_T36 l0 a1).f2).length ah] 36 (0,0)) (kM aa.out) k_ hn_)))) (below_size (bG HB.out)))
        have aC := aK (Kd.V_lower (Kd.V_mono (ok' := fun k_ => k_ ≠ ad) ba (fun k_ hk_ => Or.elim hk_ (fun hs_ => fun e_ => Nat.not_le.2 hs_ (by rw [e_];exact aA.out)) (fun hn_ => (Kd.freshB (g := ad) (o := .cells #[.string ((rd_T36 l0 a1).f0),.slice ai ((rd_T36 l0 a1).f1).length ag,.slice aj ((rd_T36 l0 a1).f2).length ah] 36 (0,0)) (kM aa.out) k_ hn_)))) (below_size (bG HB.out)))
        have aI := aK (blk_below (kM aa.out) hb)
        have aJ := aK (below_step (bG HB.out) hb)
        clear aa
        clear HB
        have ap := aB
        have aq := aC
        have aa := aI
        have HB := aJ
        clear aB aC aI aJ
        (try clear hb)
        (try clear hk)
        (try clear a9)
        (try clear ba)
        refine hK.out _ _ ⟨(blk_cell aa.out 0).trans rfl,(blk_cell aa.out 1).trans rfl,(blk_cell aa.out 2).trans rfl⟩ (fun hHeld => ?_)
        clear hK K
        refine norm_ (a' := ?_) ?_ ?_
        rotate_left
        ·show Act.put _ (some 37) _ = _
         simp only [Act.put,z1_,z2_,z3_,i64_w,i32_w]
         rfl
        refine pure_ (i := 6) (N := some 31) (v := ?_) (a' := ?_) (bA 12 127) rfl rfl (any_of HT_.out (by kernel_rfl)) (fun _ _ _ h => h) (Or.inl ⟨by rfl,?_⟩) ?_ ?_
        rotate_left
        ·intro w'
         go_simp
         with_reducible rfl
        rotate_left
        ·simp only [Act.put,z1_,z2_,z3_,i64_w,i32_w]
         rfl
        refine pure_ (i := 7) (N := some 38) (v := ?_) (a' := ?_) (bA 12 255) rfl rfl (any_of HT_.out (by kernel_rfl)) (fun _ _ _ h => h) (Or.inl ⟨by rfl,?_⟩) ?_ ?_
        rotate_left
        ·intro w'
         go_simp
         with_reducible rfl
        rotate_left
        ·simp only [Act.put,z1_,z2_,z3_,i64_w,i32_w]
         rfl
        refine pure_ (i := 8) (N := some 39) (v := ?_) (a' := ?_) (bA 12 511) rfl rfl (any_of HT_.out (by kernel_rfl)) (fun _ _ _ h => h) (Or.inl ⟨by rfl,?_⟩) ?_ ?_
        rotate_left
        ·intro w'
         go_simp
         with_reducible rfl
        rotate_left
        ·simp only [Act.put,z1_,z2_,z3_,i64_w,i32_w]
         rfl
        refine one_ (i := 9) (N := some 6) (bA 12 1023) rfl rfl (one_of HT_.out (by kernel_rfl)) (by decide) (fun K hK => ?_)
        refine box_step ?hg (N := 6) ?hd (cs := #[.string (⟨#[]⟩ : ByteArray),.slice none 0 0,.slice none 0 0]) (t := 36) ?hr ?_;(case hd => rfl);(case hg => rfl);(case hr => first|(go_simp;done)|(go_simp;rfl))
        intro ac hg gr hbox hb
        have aB := aK (Kd.V_below (Kd.V_elderB (vM ap.out) ac (Nat.le_of_eq hg.symm)) hb)
        have aC := aK (Kd.V_below (Kd.V_elderB (vM aq.out) ac (Nat.le_of_eq hg.symm)) hb)
        have aI := aK (blk_below (kM aa.out) hb)
        have aJ := aK (below_step (bG HB.out) hb)
        have aR := aK (hbox)
        have a5 := aK ((by rw [hg];exact (below_size (bG HB.out)) : w.heap.size ≤ ac))
        have a6 := aK ((by rw [hg];exact (below_size (bG HB.out)) : w.heap.size ≤ ac))
        have bi := aK (nbL aa.out hg)
        have bj := aK (nbR aa.out hg)
        clear ap
        clear aq
        clear aa
        clear HB
        have ap := aB
        have aq := aC
        have aa := aI
        have HB := aJ
        have af := aR
        have am := a5
        have a7 := Ge.mk am.out
        have au := a6
        have a8 := Ge.mk au.out
        have ab := bi
        have ae := bj
        clear aB aC aI aJ aR a5 a6 bi bj
        clear hb hbox hg
        refine hK.out _ _ ⟨(blk_cell aa.out 0).trans rfl,(blk_cell aa.out 1).trans rfl,(blk_cell aa.out 2).trans rfl⟩ (fun hHeld => ?_)
        clear hK K
        refine norm_ (a' := ?_) ?_ ?_
        rotate_left
        ·show Act.put _ (some 6) _ = _
         simp only [Act.put,z1_,z2_,z3_,i64_w,i32_w]
         rfl
        exact norm_ (by simp only [putAll,Act.put,z1_,z2_,z3_]) (hCont (aP,aQ,ac) _ ⟨hHeld,(vM ap.out),(vM aq.out),(kM aa.out),(kM af.out),am.out,au.out,ab.out,ae.out,(bG HB.out)⟩)
       ·skip
        refine box_step ?hg (N := 6) ?hd (cs := #[.string (⟨#[]⟩ : ByteArray),.slice none 0 0,.slice none 0 0]) (t := 36) ?hr ?_;(case hd => rfl);(case hg => rfl);(case hr => first|(go_simp;done)|(go_simp;rfl))
        intro ac hg gq hbox hb
        have aB := aK (blk_below (kM aa.out) hb)
        have aC := aK (below_step (bG HB.out) hb)
        have aI := aK (hbox)
        have aJ := aK ((by rw [hg];exact (below_size (bG HB.out)) : w.heap.size ≤ ac))
        have aR := aK ((by rw [hg];exact (below_size (bG HB.out)) : w.heap.size ≤ ac))
        have a5 := aK (nbL aa.out hg)
        have a6 := aK (nbR aa.out hg)
        clear aa
        clear HB
        have aa := aB
        have HB := aC
        have af := aI
        have am := aJ
        have a7 := Ge.mk am.out
        have au := aR
        have a8 := Ge.mk au.out
        have ab := a5
        have ae := a6
        clear aB aC aI aJ aR a5 a6
        clear hb hbox hg
        refine hK.out _ _ ⟨(blk_cell aa.out 0).trans rfl,(blk_cell aa.out 1).trans rfl,(blk_cell aa.out 2).trans rfl⟩ (fun hHeld => ?_)
        clear hK K
        refine norm_ (a' := ?_) ?_ ?_
        rotate_left
        ·show Act.put _ (some 6) _ = _
         simp only [Act.put,z1_,z2_,z3_,i64_w,i32_w]
         rfl
        refine one_ (i := 5) (N := some 37) (bA 12 575) rfl rfl (one_of HT_.out (by kernel_rfl)) (by decide) (fun K hK => ?_)
        refine goes_ Tryz.func41 (by kernel_rfl) rfl #[.slice (some aH) aM.length c0,.string ((rd_T36 l0 a1).f0)] (by rfl) rfl rfl (by (try simp only [z4_,z5_,z6_]);first|done|rfl|(simp only [z7_,z8_];rfl)) ?_
        with_reducible refine (group_find.calls kj4 (fun k_ => k_ < w.heap.size) _ _ aM ((rd_T36 l0 a1).f0) az av aw true _ ?ar dy.out).mono ?_
        (case ar => exact Kd.V_mk a4.out (Kd.F_below (Kd.C_F k36_heap aO.out) (bG HB.out)))
        rintro e gr ⟨aP,aQ,rfl,a9,ba,hb⟩
        refine ⟨_,rfl,?_⟩
        have aB := aK (Kd.V_lower (Kd.V_mono (ok' := fun k_ => k_ ≠ ad ∧ k_ ≠ ac) a9 (fun k_ hk_ => ⟨Or.elim hk_ (fun hs_ => fun e_ => Nat.not_le.2 hs_ (by rw [e_];exact aA.out)) (fun hn_ => (Kd.freshB (g := ad) (o := .cells #[.string ((rd_T36 l0 a1).f0),.slice ai ((rd_T36 l0 a1).f1).length ag,.slice aj ((rd_T36 l0 a1).f2).length ah] 36 (0,0)) (kM aa.out) k_ hn_)),Or.elim hk_ (fun hs_ => fun e_ => Nat.not_le.2 hs_ (by rw [e_];exact am.out)) (fun hn_ => (Kd.freshB (g := ac) (o := .cells #[.string (⟨#[]⟩ : ByteArray),.slice none 0 0,.slice none 0 0] 36 (0,0)) (kM af.out) k_ hn_))⟩)) (below_size (bG HB.out)))
        have aC := aK (Kd.V_lower (Kd.V_mono (ok' := fun k_ => k_ ≠ ad ∧ k_ ≠ ac) ba (fun k_ hk_ => ⟨Or.elim hk_ (fun hs_ => fun e_ => Nat.not_le.2 hs_ (by rw [e_];exact aA.out)) (fun hn_ => (Kd.freshB (g := ad) (o := .cells #[.string ((rd_T36 l0 a1).f0),.slice ai ((rd_T36 l0 a1).f1).length ag,.slice aj ((rd_T36 l0 a1).f2).length ah] 36 (0,0)) (kM aa.out) k_ hn_)),Or.elim hk_ (fun hs_ => fun e_ => Nat.not_le.2 hs_ (by rw [e_];exact am.out)) (fun hn_ => (Kd.freshB (g := ac) (o := .cells #[.string (⟨#[]⟩ : ByteArray),.slice none 0 0,.slice none 0 0] 36 (0,0)) (kM af.out) k_ hn_))⟩)) (below_size (bG HB.out)))
        have aI := aK (blk_below (kM aa.out) hb)
        have aJ := aK (blk_below (kM af.out) hb)
        have aR := aK (below_step (bG HB.out) hb)
        clear aa
        clear af
        clear HB
        have ap := aB
        have aq := aC
        have aa := aI
        have af := aJ
        have HB := aR
        clear aB aC aI aJ aR
        (try clear hb)
        (try clear hk)
        (try clear a9)
        (try clear ba)
        refine hK.out _ _ ⟨(blk_cell aa.out 0).trans rfl,(blk_cell aa.out 1).trans rfl,(blk_cell aa.out 2).trans rfl⟩ (fun hHeld => ?_)
        clear hK K
        refine norm_ (a' := ?_) ?_ ?_
        rotate_left
        ·show Act.put _ (some 37) _ = _
         simp only [Act.put,z1_,z2_,z3_,i64_w,i32_w]
         rfl
        refine pure_ (i := 6) (N := some 31) (v := ?_) (a' := ?_) (bA 12 639) rfl rfl (any_of HT_.out (by kernel_rfl)) (fun _ _ _ h => h) (Or.inl ⟨by rfl,?_⟩) ?_ ?_
        rotate_left
        ·intro w'
         go_simp
         with_reducible rfl
        rotate_left
        ·simp only [Act.put,z1_,z2_,z3_,i64_w,i32_w]
         rfl
        refine pure_ (i := 7) (N := some 38) (v := ?_) (a' := ?_) (bA 12 767) rfl rfl (any_of HT_.out (by kernel_rfl)) (fun _ _ _ h => h) (Or.inl ⟨by rfl,?_⟩) ?_ ?_
        rotate_left
        ·intro w'
         go_simp
         with_reducible rfl
        rotate_left
        ·simp only [Act.put,z1_,z2_,z3_,i64_w,i32_w]
         rfl
        refine pure_ (i := 8) (N := some 39) (v := ?_) (a' := ?_) (bA 12 1023) rfl rfl (any_of HT_.out (by kernel_rfl)) (fun _ _ _ h => h) (Or.inl ⟨by rfl,?_⟩) ?_ ?_
        rotate_left
        ·intro w'
         go_simp
         with_reducible rfl
        rotate_left
        ·simp only [Act.put,z1_,z2_,z3_,i64_w,i32_w]
         rfl
        exact norm_ (by simp only [putAll,Act.put,z1_,z2_,z3_]) (hCont (aP,aQ,ac) _ ⟨hHeld,(vM ap.out),(vM aq.out),(kM aa.out),(kM af.out),am.out,au.out,ab.out,ae.out,(bG HB.out)⟩)
      rintro ⟨aP,aQ,ac⟩ bH ⟨hS_,cw,cx,cy,cz,cA,cB,cC,cD,cE⟩
      have aB : Aside0 (Kd.V (Kd.int .i64) 3 bH w.heap.size (fun k_ => k_ ≠ ad ∧ k_ ≠ ac) aP av) := ⟨cw⟩
      have aC : Aside0 (Kd.V Kd.string 9 bH w.heap.size (fun k_ => k_ ≠ ad ∧ k_ ≠ ac) aQ aw) := ⟨cx⟩
      have aI : Aside0 (bH.heap[ad]? = some (.cells #[.string ((rd_T36 l0 a1).f0),.slice ai ((rd_T36 l0 a1).f1).length ag,.slice aj ((rd_T36 l0 a1).f2).length ah] 36 (0,0))) := ⟨cy⟩
      have aJ : Aside0 (bH.heap[ac]? = some (.cells #[.string (⟨#[]⟩ : ByteArray),.slice none 0 0,.slice none 0 0] 36 (0,0))) := ⟨cz⟩
      have aR : Aside0 (w.heap.size ≤ ac) := ⟨cA⟩
      have a5 : Aside0 (w.heap.size ≤ ac) := ⟨cB⟩
      have a6 : Aside0 (ad ≠ ac) := ⟨cC⟩
      have bi : Aside0 (ac ≠ ad) := ⟨cD⟩
      have bj : Aside0 (Below w.heap.size w bH) := ⟨cE⟩
      clear aa
      clear HB
      clear cw cx cy cz cA cB cC cD cE
      have ap := aB
      have aq := aC
      have aa := aI
      have af := aJ
      have am := aR
      have a7 := Ge.mk am.out
      have au := a5
      have a8 := Ge.mk au.out
      have ab := a6
      have ae := bi
      have HB := bj
      clear aB aC aI aJ aR a5 a6 bi bj
      have hHeld : bH.cell? ⟨ad,0,none⟩ = some (.string ((rd_T36 l0 a1).f0)) ∧ bH.cell? ⟨ad,1,none⟩ = some (.slice ai ((rd_T36 l0 a1).f1).length ag) ∧ bH.cell? ⟨ad,2,none⟩ = some (.slice aj ((rd_T36 l0 a1).f2).length ah) := hS_
      obtain ⟨gs,gu,dN⟩ := Kd.V_slice ap.out
      (first|subst dN|(injection dN with f1_ f2_ f3_;have bI := f1_.symm;have bJ := f3_.symm;clear f1_ f2_ f3_;subst bI;subst bJ))
      obtain ⟨gv,gw,dO⟩ := Kd.V_slice aq.out
      (first|subst dO|(injection dO with f1_ f2_ f3_;have bI := f1_.symm;have bJ := f3_.symm;clear f1_ f2_ f3_;subst bI;subst bJ))
      refine norm_ (a' := ?_) ?_ ?_
      rotate_left
      ·simp only [putAll,Act.put,z1_,z2_,z3_]
       rfl
      refine one_ (i := 10) (N := none) (bA 12 2047) rfl rfl (one_of HT_.out (by kernel_rfl)) (by decide) (fun K hK => ?_)
      have gx : bH.cell? ⟨ac,0,none⟩ = some (.string (⟨#[]⟩ : ByteArray)) := (blk_cell af.out 0).trans rfl
      have fj := blk_frozen af.out 0
      have ek := ab.out
      have el := ae.out
      have gy : bH.cell? ⟨ac,1,none⟩ = some (.slice none 0 0) := (blk_cell af.out 1).trans rfl
      have fk := blk_frozen af.out 1
      have em := ab.out
      have en := ae.out
      have gz : bH.cell? ⟨ac,2,none⟩ = some (.slice none 0 0) := (blk_cell af.out 2).trans rfl
      have fl := blk_frozen af.out 2
      have ep := ab.out
      have er := ae.out
      refine skip_ (w1 := ?_) (by rfl) rfl ?_ ?_
      rotate_left
      ·go_simp
       rfl
      refine hK.out _ _ ⟨((cell_far (p := ⟨ac,_,none⟩) ab.out _).trans (((cell_far (p := ⟨ac,_,none⟩) ab.out _).trans (((cell_far (p := ⟨ac,_,none⟩) ab.out _).trans (hHeld.1)))))),((cell_far (p := ⟨ac,_,none⟩) ab.out _).trans (((cell_far (p := ⟨ac,_,none⟩) ab.out _).trans (((cell_far (p := ⟨ac,_,none⟩) ab.out _).trans (hHeld.2.1)))))),((cell_far (p := ⟨ac,_,none⟩) ab.out _).trans (((cell_far (p := ⟨ac,_,none⟩) ab.out _).trans (((cell_far (p := ⟨ac,_,none⟩) ab.out _).trans (hHeld.2.2))))))⟩ (fun hHeld => ?_)
      clear hK K
      refine pure_ (i := 11) (N := some 7) (v := ?_) (a' := ?_) (bA 12 4095) rfl rfl (any_of HT_.out (by kernel_rfl)) (fun _ _ _ h => h) (Or.inl ⟨by rfl,?_⟩) ?_ ?_
      rotate_left
      ·intro w'
       go_simp
       with_reducible rfl
      rotate_left
      ·simp only [Act.put,z1_,z2_,z3_,i64_w,i32_w]
       rfl
      refine done_ (done_of HT_.out (by kernel_rfl)) ?_
      try go_wp2
      go_ret
      exact ⟨by first|rfl|(simp [errW_none,errW_some] <;> rfl)|(simp [*,errW_none,errW_some] <;> rfl),bG HB.out⟩
     ·replace ej := Bool.eq_false_iff.mpr ej
      subst ej
      rw [if_neg (show ¬ (false = true) by decide)] at H
      by_cases di : (wrap64 ((((rd_T36 l0 a1).f1).length : Int) + (((rd_T36 l0 a1).f2).length : Int))) > 16
      ·rw [if_pos di] at H
       have cF := decide_eq_true di
       clear di
       obtain rfl := Option.some.inj H
       try go_wp2
       have aB := aK (blk_drew aa.out)
       have aC := aK (below_drew1 HB.out)
       clear aa
       clear HB
       have aa := aB
       have HB := aC
       clear aB aC
       have eR : (a1 : Int) ≤ ((l0.length : Int) : Int) := dA
       obtain ⟨gA,cG,_,dP,_⟩ := info_parts info36
       have bE : l0.length ≤ c0 := dE.out
       have dQ : Kd.C k36 _ (some aH) l0.length l0 := dx.out
       have dj := cut_to (P := Tryz.prog) 22 36 .i64 Tryz.underlying22 cG (some aH) l0.length c0 a1 (dA) eR bE
       have dk := Kd.C_take (m := (a1 : Int).toNat) dQ (by omega)
       have dl : aM.length = (a1 : Int).toNat := (by rw [be.out,List.length_take];omega)
       rw [← be.out] at dk
       rw [← dl] at dj
       have aO := aK dk
       have a4 := aK (show aM.length ≤ c0 from by omega)
       clear dk dQ bE cG dP
       have gB := aK dl
       clear dl
       replace eR := eq_true eR
       refine start_ (n := 12) (S := fun w' => w'.cell? ⟨ad,0,none⟩ = some (.string ((rd_T36 l0 a1).f0)) ∧ w'.cell? ⟨ad,1,none⟩ = some (.slice ai ((rd_T36 l0 a1).f1).length ag) ∧ w'.cell? ⟨ad,2,none⟩ = some (.slice aj ((rd_T36 l0 a1).f2).length ah)) (ds := []) (bA 12 0) (by kernel_rfl) rfl rfl ⟨(blk_cell aa.out 0).trans rfl,(blk_cell aa.out 1).trans rfl,(blk_cell aa.out 2).trans rfl⟩ (fun hHeld => ?_);refine with_tabW group_one.tab4 group_one.bits4 (fun HT_ HW_ => ?_)
       generalize wc.drew = w32 at aa HB aO hHeld ⊢
       refine pure_ (i := 0) (N := some 32) (v := ?_) (a' := ?_) (bA 12 1) rfl rfl (any_of HT_.out (by kernel_rfl)) (fun _ _ _ h => h) (Or.inl ⟨by rfl,?_⟩) ?_ ?_
       rotate_left
       ·intro w'
        go_simp
        with_reducible rfl
       rotate_left
       ·simp only [Act.put,z1_,z2_,z3_,i64_w,i32_w]
        rfl
       refine pure_ (i := 1) (N := some 33) (v := ?_) (a' := ?_) (bA 12 3) rfl rfl (any_of HT_.out (by kernel_rfl)) (fun _ _ _ h => h) (Or.inl ⟨by rfl,?_⟩) ?_ ?_
       rotate_left
       ·intro w'
        go_simp
        with_reducible rfl
       rotate_left
       ·simp only [Act.put,z1_,z2_,z3_,i64_w,i32_w]
        rfl
       refine pure_ (i := 2) (N := some 34) (v := ?_) (a' := ?_) (bA 12 7) rfl rfl (any_of HT_.out (by kernel_rfl)) (fun _ _ _ h => h) (Or.inl ⟨by rfl,?_⟩) ?_ ?_
       rotate_left
       ·intro w'
        go_simp
        with_reducible rfl
       rotate_left
       ·simp only [Act.put,z1_,z2_,z3_,i64_w,i32_w]
        rfl
       refine pure_ (i := 3) (N := some 35) (v := ?_) (a' := ?_) (bA 12 15) rfl rfl (any_of HT_.out (by kernel_rfl)) (fun _ _ _ h => h) (Or.inl ⟨by rfl,?_⟩) ?_ ?_
       rotate_left
       ·intro w'
        go_simp
        with_reducible rfl
       rotate_left
       ·simp only [Act.put,z1_,z2_,z3_,i64_w,i32_w]
        rfl
       refine take_ (i := 4) (N := some 36) (v := ?_) (a' := ?_) (bA 12 31) rfl rfl (take_ofW HT_.out HW_.out (by kernel_rfl)) (fun _ _ _ h => h) (Or.inl ⟨by rfl,?_⟩) hHeld ?_ ?_
       rotate_left
       ·rintro w' ⟨s0,s1,s2⟩
        go_simp
        with_reducible rfl
       rotate_left
       ·simp only [Act.put,z1_,z2_,z3_,i64_w,i32_w]
        rfl
       refine join_ (σ := Value × Value × Nat) 2 (bA 12 1023) (fun s_ => [(37,.tuple #[.agg #[.string az,s_.1,s_.2.1],.bool false]),(6,.pointer (some ⟨s_.2.2,0,none⟩)),(31,.tuple #[.agg #[.string az,s_.1,s_.2.1],.bool false]),(38,.agg #[.string az,s_.1,s_.2.1]),(39,.bool false)]) (fun s_ w' => (w'.cell? ⟨ad,0,none⟩ = some (.string ((rd_T36 l0 a1).f0)) ∧ w'.cell? ⟨ad,1,none⟩ = some (.slice ai ((rd_T36 l0 a1).f1).length ag) ∧ w'.cell? ⟨ad,2,none⟩ = some (.slice aj ((rd_T36 l0 a1).f2).length ah)) ∧ (Kd.V (Kd.int .i64) 3 w' w.heap.size (fun k_ => k_ ≠ ad ∧ k_ ≠ s_.2.2) s_.1 av) ∧ (Kd.V Kd.string 9 w' w.heap.size (fun k_ => k_ ≠ ad ∧ k_ ≠ s_.2.2) s_.2.1 aw) ∧ (w'.heap[ad]? = some (.cells #[.string ((rd_T36 l0 a1).f0),.slice ai ((rd_T36 l0 a1).f1).length ag,.slice aj ((rd_T36 l0 a1).f2).length ah] 36 (0,0))) ∧ (w'.heap[s_.2.2]? = some (.cells #[.string (⟨#[]⟩ : ByteArray),.slice none 0 0,.slice none 0 0] 36 (0,0))) ∧ (w.heap.size ≤ s_.2.2) ∧ (w.heap.size ≤ s_.2.2) ∧ (ad ≠ s_.2.2) ∧ (s_.2.2 ≠ ad) ∧ (Below w.heap.size w w')) ?_ ?_
       rotate_left
       ·intro hCont
        refine two_ (i := 5) (j := 9) (Ni := some 37) (Nj := some 6) (bA 12 63) (bA 12 543) rfl rfl rfl rfl (two_of HT_.out (by kernel_rfl)) (by decide) (by decide) (fun K hK => ?_) (fun K hK => ?_)
        ·skip
         refine goes_ Tryz.func41 (by kernel_rfl) rfl #[.slice (some aH) aM.length c0,.string ((rd_T36 l0 a1).f0)] (by rfl) rfl rfl (by (try simp only [z4_,z5_,z6_]);first|done|rfl|(simp only [z7_,z8_];rfl)) ?_
         with_reducible refine (group_find.calls kj4 (fun k_ => k_ < w.heap.size) _ _ aM ((rd_T36 l0 a1).f0) az av aw false _ ?ar dy.out).mono ?_
         (case ar => exact Kd.V_mk a4.out (Kd.F_below (Kd.C_F k36_heap aO.out) (bG HB.out)))
         rintro e gC ⟨aP,aQ,rfl,a9,ba,hb⟩
         refine ⟨_,rfl,?_⟩
         have aB := aK (Kd.V_lower (Kd.V_mono (ok' := fun k_ => k_ ≠ ad) a9 (fun k_ hk_ => Or.elim hk_ (fun hs_ => fun e_ => Nat.not_le.2 hs_ (by rw [e_];exact aA.out)) (fun hn_ => (Kd.freshB (g := ad) (o := .cells #[.string ((rd_T36 l0 a1).f0),.slice ai ((rd_T36 l0 a1).f1).length ag,.slice aj ((rd_T36 l0 a1).f2).length ah] 36 (0,0)) (kM aa.out) k_ hn_)))) (below_size (bG HB.out)))
         have aC := aK (Kd.V_lower (Kd.V_mono (ok' := fun k_ => k_ ≠ ad) ba (fun k_ hk_ => Or.elim hk_ (fun hs_ => fun e_ => Nat.not_le.2 hs_ (by rw [e_];exact aA.out)) (fun hn_ => (Kd.freshB (g := ad) (o := .cells #[.string ((rd_T36 l0 a1).f0),.slice ai ((rd_T36 l0 a1).f1).length ag,.slice aj ((rd_T36 l0 a1).f2).length ah] 36 (0,0)) (kM aa.out) k_ hn_)))) (below_size (bG HB.out)))
         have aI := aK (blk_below (kM aa.out) hb)
         have aJ := aK (below_step (bG HB.out) hb)
         clear aa
         clear HB
         have ap := aB
         have aq := aC
         have aa := aI
         have HB := aJ
         clear aB aC aI aJ
         (try clear hb)
         (try clear hk)
         (try clear a9)
         (try clear ba)
         refine hK.out _ _ ⟨(blk_cell aa.out 0).trans rfl,(blk_cell aa.out 1).trans rfl,(blk_cell aa.out 2).trans rfl⟩ (fun hHeld => ?_)
         clear hK K
         refine norm_ (a' := ?_) ?_ ?_
         rotate_left
         ·show Act.put _ (some 37) _ = _
          simp only [Act.put,z1_,z2_,z3_,i64_w,i32_w]
          rfl
         refine pure_ (i := 6) (N := some 31) (v := ?_) (a' := ?_) (bA 12 127) rfl rfl (any_of HT_.out (by kernel_rfl)) (fun _ _ _ h => h) (Or.inl ⟨by rfl,?_⟩) ?_ ?_
         rotate_left
         ·intro w'
          go_simp
          with_reducible rfl
         rotate_left
         ·simp only [Act.put,z1_,z2_,z3_,i64_w,i32_w]
          rfl
         refine pure_ (i := 7) (N := some 38) (v := ?_) (a' := ?_) (bA 12 255) rfl rfl (any_of HT_.out (by kernel_rfl)) (fun _ _ _ h => h) (Or.inl ⟨by rfl,?_⟩) ?_ ?_
         rotate_left
         ·intro w'
          go_simp
          with_reducible rfl
         rotate_left
         ·simp only [Act.put,z1_,z2_,z3_,i64_w,i32_w]
          rfl
         refine pure_ (i := 8) (N := some 39) (v := ?_) (a' := ?_) (bA 12 511) rfl rfl (any_of HT_.out (by kernel_rfl)) (fun _ _ _ h => h) (Or.inl ⟨by rfl,?_⟩) ?_ ?_
         rotate_left
         ·intro w'
          go_simp
          with_reducible rfl
         rotate_left
         ·simp only [Act.put,z1_,z2_,z3_,i64_w,i32_w]
          rfl
         refine one_ (i := 9) (N := some 6) (bA 12 1023) rfl rfl (one_of HT_.out (by kernel_rfl)) (by decide) (fun K hK => ?_)
         refine box_step ?hg (N := 6) ?hd (cs := #[.string (⟨#[]⟩ : ByteArray),.slice none 0 0,.slice none 0 0]) (t := 36) ?hr ?_;(case hd => rfl);(case hg => rfl);(case hr => first|(go_simp;done)|(go_simp;rfl))
         intro ac hg gD hbox hb
         have aB := aK (Kd.V_below (Kd.V_elderB (vM ap.out) ac (Nat.le_of_eq hg.symm)) hb)
         have aC := aK (Kd.V_below (Kd.V_elderB (vM aq.out) ac (Nat.le_of_eq hg.symm)) hb)
         have aI := aK (blk_below (kM aa.out) hb)
         have aJ := aK (below_step (bG HB.out) hb)
         have aR := aK (hbox)
         have a5 := aK ((by rw [hg];exact (below_size (bG HB.out)) : w.heap.size ≤ ac))
         have a6 := aK ((by rw [hg];exact (below_size (bG HB.out)) : w.heap.size ≤ ac))
         have bi := aK (nbL aa.out hg)
         have bj := aK (nbR aa.out hg)
         clear ap
         clear aq
         clear aa
         clear HB
         have ap := aB
         have aq := aC
         have aa := aI
         have HB := aJ
         have af := aR
         have am := a5
         have a7 := Ge.mk am.out
         have au := a6
         have a8 := Ge.mk au.out
         have ab := bi
         have ae := bj
         clear aB aC aI aJ aR a5 a6 bi bj
         clear hb hbox hg
         refine hK.out _ _ ⟨(blk_cell aa.out 0).trans rfl,(blk_cell aa.out 1).trans rfl,(blk_cell aa.out 2).trans rfl⟩ (fun hHeld => ?_)
         clear hK K
         refine norm_ (a' := ?_) ?_ ?_
         rotate_left
         ·show Act.put _ (some 6) _ = _
          simp only [Act.put,z1_,z2_,z3_,i64_w,i32_w]
          rfl
         exact norm_ (by simp only [putAll,Act.put,z1_,z2_,z3_]) (hCont (aP,aQ,ac) _ ⟨hHeld,(vM ap.out),(vM aq.out),(kM aa.out),(kM af.out),am.out,au.out,ab.out,ae.out,(bG HB.out)⟩)
        ·skip
         refine box_step ?hg (N := 6) ?hd (cs := #[.string (⟨#[]⟩ : ByteArray),.slice none 0 0,.slice none 0 0]) (t := 36) ?hr ?_;(case hd => rfl);(case hg => rfl);(case hr => first|(go_simp;done)|(go_simp;rfl))
         intro ac hg gC hbox hb
         have aB := aK (blk_below (kM aa.out) hb)
         have aC := aK (below_step (bG HB.out) hb)
         have aI := aK (hbox)
         have aJ := aK ((by rw [hg];exact (below_size (bG HB.out)) : w.heap.size ≤ ac))
         have aR := aK ((by rw [hg];exact (below_size (bG HB.out)) : w.heap.size ≤ ac))
         have a5 := aK (nbL aa.out hg)
         have a6 := aK (nbR aa.out hg)
         clear aa
         clear HB
         have aa := aB
         have HB := aC
         have af := aI
         have am := aJ
         have a7 := Ge.mk am.out
         have au := aR
         have a8 := Ge.mk au.out
         have ab := a5
         have ae := a6
         clear aB aC aI aJ aR a5 a6
         clear hb hbox hg
         refine hK.out _ _ ⟨(blk_cell aa.out 0).trans rfl,(blk_cell aa.out 1).trans rfl,(blk_cell aa.out 2).trans rfl⟩ (fun hHeld => ?_)
         clear hK K
         refine norm_ (a' := ?_) ?_ ?_
         rotate_left
         ·show Act.put _ (some 6) _ = _
          simp only [Act.put,z1_,z2_,z3_,i64_w,i32_w]
          rfl
         refine one_ (i := 5) (N := some 37) (bA 12 575) rfl rfl (one_of HT_.out (by kernel_rfl)) (by decide) (fun K hK => ?_)
         refine goes_ Tryz.func41 (by kernel_rfl) rfl #[.slice (some aH) aM.length c0,.string ((rd_T36 l0 a1).f0)] (by rfl) rfl rfl (by (try simp only [z4_,z5_,z6_]);first|done|rfl|(simp only [z7_,z8_];rfl)) ?_
         with_reducible refine (group_find.calls kj4 (fun k_ => k_ < w.heap.size) _ _ aM ((rd_T36 l0 a1).f0) az av aw false _ ?ar dy.out).mono ?_
         (case ar => exact Kd.V_mk a4.out (Kd.F_below (Kd.C_F k36_heap aO.out) (bG HB.out)))
         rintro e gD ⟨aP,aQ,rfl,a9,ba,hb⟩
         refine ⟨_,rfl,?_⟩
         have aB := aK (Kd.V_lower (Kd.V_mono (ok' := fun k_ => k_ ≠ ad ∧ k_ ≠ ac) a9 (fun k_ hk_ => ⟨Or.elim hk_ (fun hs_ => fun e_ => Nat.not_le.2 hs_ (by rw [e_];exact aA.out)) (fun hn_ => (Kd.freshB (g := ad) (o := .cells #[.string ((rd_T36 l0 a1).f0),.slice ai ((rd_T36 l0 a1).f1).length ag,.slice aj ((rd_T36 l0 a1).f2).length ah] 36 (0,0)) (kM aa.out) k_ hn_)),Or.elim hk_ (fun hs_ => fun e_ => Nat.not_le.2 hs_ (by rw [e_];exact am.out)) (fun hn_ => (Kd.freshB (g := ac) (o := .cells #[.string (⟨#[]⟩ : ByteArray),.slice none 0 0,.slice none 0 0] 36 (0,0)) (kM af.out) k_ hn_))⟩)) (below_size (bG HB.out)))
         have aC := aK (Kd.V_lower (Kd.V_mono (ok' := fun k_ => k_ ≠ ad ∧ k_ ≠ ac) ba (fun k_ hk_ => ⟨Or.elim hk_ (fun hs_ => fun e_ => Nat.not_le.2 hs_ (by rw [e_];exact aA.out)) (fun hn_ => (Kd.freshB (g := ad) (o := .cells #[.string ((rd_T36 l0 a1).f0),.slice ai ((rd_T36 l0 a1).f1).length ag,.slice aj ((rd_T36 l0 a1).f2).length ah] 36 (0,0)) (kM aa.out) k_ hn_)),Or.elim hk_ (fun hs_ => fun e_ => Nat.not_le.2 hs_ (by rw [e_];exact am.out)) (fun hn_ => (Kd.freshB (g := ac) (o := .cells #[.string (⟨#[]⟩ : ByteArray),.slice none 0 0,.slice none 0 0] 36 (0,0)) (kM af.out) k_ hn_))⟩)) (below_size (bG HB.out)))
         have aI := aK (blk_below (kM aa.out) hb)
         have aJ := aK (blk_below (kM af.out) hb)
         have aR := aK (below_step (bG HB.out) hb)
         clear aa
         clear af
         clear HB
         have ap := aB
         have aq := aC
         have aa := aI
         have af := aJ
         have HB := aR
         clear aB aC aI aJ aR
         (try clear hb)
         (try clear hk)
         (try clear a9)
         (try clear ba)
         refine hK.out _ _ ⟨(blk_cell aa.out 0).trans rfl,(blk_cell aa.out 1).trans rfl,(blk_cell aa.out 2).trans rfl⟩ (fun hHeld => ?_)
         clear hK K
         refine norm_ (a' := ?_) ?_ ?_
         rotate_left
         ·show Act.put _ (some 37) _ = _
          simp only [Act.put,z1_,z2_,z3_,i64_w,i32_w]
          rfl
         refine pure_ (i := 6) (N := some 31) (v := ?_) (a' := ?_) (bA 12 639) rfl rfl (any_of HT_.out (by kernel_rfl)) (fun _ _ _ h => h) (Or.inl ⟨by rfl,?_⟩) ?_ ?_
         rotate_left
         ·intro w'
          go_simp
          with_reducible rfl
         rotate_left
         ·simp only [Act.put,z1_,z2_,z3_,i64_w,i32_w]
          rfl
         refine pure_ (i := 7) (N := some 38) (v := ?_) (a' := ?_) (bA 12 767) rfl rfl (any_of HT_.out (by kernel_rfl)) (fun _ _ _ h => h) (Or.inl ⟨by rfl,?_⟩) ?_ ?_
         rotate_left
         ·intro w'
          go_simp
          with_reducible rfl
         rotate_left
         ·simp only [Act.put,z1_,z2_,z3_,i64_w,i32_w]
          rfl
         refine pure_ (i := 8) (N := some 39) (v := ?_) (a' := ?_) (bA 12 1023) rfl rfl (any_of HT_.out (by kernel_rfl)) (fun _ _ _ h => h) (Or.inl ⟨by rfl,?_⟩) ?_ ?_
         rotate_left
         ·intro w'
          go_simp
          with_reducible rfl
         rotate_left
         ·simp only [Act.put,z1_,z2_,z3_,i64_w,i32_w]
          rfl
         exact norm_ (by simp only [putAll,Act.put,z1_,z2_,z3_]) (hCont (aP,aQ,ac) _ ⟨hHeld,(vM ap.out),(vM aq.out),(kM aa.out),(kM af.out),am.out,au.out,ab.out,ae.out,(bG HB.out)⟩)
       rintro ⟨aP,aQ,ac⟩ bK ⟨hS_,cw,cx,cy,cz,cA,cB,cC,cD,cE⟩
       have aB : Aside0 (Kd.V (Kd.int .i64) 3 bK w.heap.size (fun k_ => k_ ≠ ad ∧ k_ ≠ ac) aP av) := ⟨cw⟩
       have aC : Aside0 (Kd.V Kd.string 9 bK w.heap.size (fun k_ => k_ ≠ ad ∧ k_ ≠ ac) aQ aw) := ⟨cx⟩
       have aI : Aside0 (bK.heap[ad]? = some (.cells #[.string ((rd_T36 l0 a1).f0),.slice ai ((rd_T36 l0 a1).f1).length ag,.slice aj ((rd_T36 l0 a1).f2).length ah] 36 (0,0))) := ⟨cy⟩
       have aJ : Aside0 (bK.heap[ac]? = some (.cells #[.string (⟨#[]⟩ : ByteArray),.slice none 0 0,.slice none 0 0] 36 (0,0))) := ⟨cz⟩
       have aR : Aside0 (w.heap.size ≤ ac) := ⟨cA⟩
       have a5 : Aside0 (w.heap.size ≤ ac) := ⟨cB⟩
       have a6 : Aside0 (ad ≠ ac) := ⟨cC⟩
       have bi : Aside0 (ac ≠ ad) := ⟨cD⟩
       have bj : Aside0 (Below w.heap.size w bK) := ⟨cE⟩
       clear aa
       clear HB
       clear cw cx cy cz cA cB cC cD cE
       have ap := aB
       have aq := aC
       have aa := aI
       have af := aJ
       have am := aR
       have a7 := Ge.mk am.out
       have au := a5
       have a8 := Ge.mk au.out
       have ab := a6
       have ae := bi
       have HB := bj
       clear aB aC aI aJ aR a5 a6 bi bj
       have hHeld : bK.cell? ⟨ad,0,none⟩ = some (.string ((rd_T36 l0 a1).f0)) ∧ bK.cell? ⟨ad,1,none⟩ = some (.slice ai ((rd_T36 l0 a1).f1).length ag) ∧ bK.cell? ⟨ad,2,none⟩ = some (.slice aj ((rd_T36 l0 a1).f2).length ah) := hS_
       obtain ⟨gE,gF,dR⟩ := Kd.V_slice ap.out
       (first|subst dR|(injection dR with f1_ f2_ f3_;have bI := f1_.symm;have bJ := f3_.symm;clear f1_ f2_ f3_;subst bI;subst bJ))
       obtain ⟨gG,gH,dS⟩ := Kd.V_slice aq.out
       (first|subst dS|(injection dS with f1_ f2_ f3_;have bI := f1_.symm;have bJ := f3_.symm;clear f1_ f2_ f3_;subst bI;subst bJ))
       refine norm_ (a' := ?_) ?_ ?_
       rotate_left
       ·simp only [putAll,Act.put,z1_,z2_,z3_]
        rfl
       refine one_ (i := 10) (N := none) (bA 12 2047) rfl rfl (one_of HT_.out (by kernel_rfl)) (by decide) (fun K hK => ?_)
       have gI : bK.cell? ⟨ac,0,none⟩ = some (.string (⟨#[]⟩ : ByteArray)) := (blk_cell af.out 0).trans rfl
       have fm := blk_frozen af.out 0
       have es := ab.out
       have et := ae.out
       have gJ : bK.cell? ⟨ac,1,none⟩ = some (.slice none 0 0) := (blk_cell af.out 1).trans rfl
       have fn := blk_frozen af.out 1
       have eu := ab.out
       have ev := ae.out
       have gK : bK.cell? ⟨ac,2,none⟩ = some (.slice none 0 0) := (blk_cell af.out 2).trans rfl
       have fo := blk_frozen af.out 2
       have ew := ab.out
       have ex := ae.out
       refine skip_ (w1 := ?_) (by rfl) rfl ?_ ?_
       rotate_left
       ·go_simp
        rfl
       refine hK.out _ _ ⟨((cell_far (p := ⟨ac,_,none⟩) ab.out _).trans (((cell_far (p := ⟨ac,_,none⟩) ab.out _).trans (((cell_far (p := ⟨ac,_,none⟩) ab.out _).trans (hHeld.1)))))),((cell_far (p := ⟨ac,_,none⟩) ab.out _).trans (((cell_far (p := ⟨ac,_,none⟩) ab.out _).trans (((cell_far (p := ⟨ac,_,none⟩) ab.out _).trans (hHeld.2.1)))))),((cell_far (p := ⟨ac,_,none⟩) ab.out _).trans (((cell_far (p := ⟨ac,_,none⟩) ab.out _).trans (((cell_far (p := ⟨ac,_,none⟩) ab.out _).trans (hHeld.2.2))))))⟩ (fun hHeld => ?_)
       clear hK K
       refine pure_ (i := 11) (N := some 7) (v := ?_) (a' := ?_) (bA 12 4095) rfl rfl (any_of HT_.out (by kernel_rfl)) (fun _ _ _ h => h) (Or.inl ⟨by rfl,?_⟩) ?_ ?_
       rotate_left
       ·intro w'
        go_simp
        with_reducible rfl
       rotate_left
       ·simp only [Act.put,z1_,z2_,z3_,i64_w,i32_w]
        rfl
       refine done_ (done_of HT_.out (by kernel_rfl)) ?_
       have fp := ab.out
       have fq := ae.out
       obtain ⟨_,_,_,_,_,_⟩ := bk3_ aa.out
       try go_wp2
       go_ret
       exact ⟨by first|rfl|(simp [errW_none,errW_some] <;> rfl)|(simp [*,errW_none,errW_some] <;> rfl),bG HB.out⟩
      ·rw [if_neg di] at H
       have cF := decide_eq_false di
       clear di
       have H' := aK H
       clear H
       try go_wp2
       have aB := aK (blk_drew aa.out)
       have aC := aK (below_drew1 HB.out)
       clear aa
       clear HB
       have aa := aB
       have HB := aC
       clear aB aC
       have bL : (a1 : Int) ≤ ((l0.length : Int) : Int) := dA
       obtain ⟨gM,cH,_,dT,_⟩ := info_parts info36
       have bF : l0.length ≤ c0 := dE.out
       have dU : Kd.C k36 _ (some aH) l0.length l0 := dx.out
       have dm := cut_to (P := Tryz.prog) 22 36 .i64 Tryz.underlying22 cH (some aH) l0.length c0 a1 (dA) bL bF
       have dn := Kd.C_take (m := (a1 : Int).toNat) dU (by omega)
       have dp : aM.length = (a1 : Int).toNat := (by rw [be.out,List.length_take];omega)
       rw [← be.out] at dn
       rw [← dp] at dm
       have aO := aK dn
       have a4 := aK (show aM.length ≤ c0 from by omega)
       clear dn dU bF cH dT
       have gN := aK dp
       clear dp
       replace bL := eq_true bL
       refine start_ (n := 12) (S := fun w' => w'.cell? ⟨ad,0,none⟩ = some (.string ((rd_T36 l0 a1).f0)) ∧ w'.cell? ⟨ad,1,none⟩ = some (.slice ai ((rd_T36 l0 a1).f1).length ag) ∧ w'.cell? ⟨ad,2,none⟩ = some (.slice aj ((rd_T36 l0 a1).f2).length ah)) (ds := []) (bA 12 0) (by kernel_rfl) rfl rfl ⟨(blk_cell aa.out 0).trans rfl,(blk_cell aa.out 1).trans rfl,(blk_cell aa.out 2).trans rfl⟩ (fun hHeld => ?_);refine with_tabW group_one.tab4 group_one.bits4 (fun HT_ HW_ => ?_)
       generalize wc.drew = w44 at aa HB aO hHeld ⊢
       refine pure_ (i := 0) (N := some 32) (v := ?_) (a' := ?_) (bA 12 1) rfl rfl (any_of HT_.out (by kernel_rfl)) (fun _ _ _ h => h) (Or.inl ⟨by rfl,?_⟩) ?_ ?_
       rotate_left
       ·intro w'
        go_simp
        with_reducible rfl
       rotate_left
       ·simp only [Act.put,z1_,z2_,z3_,i64_w,i32_w]
        rfl
       refine pure_ (i := 1) (N := some 33) (v := ?_) (a' := ?_) (bA 12 3) rfl rfl (any_of HT_.out (by kernel_rfl)) (fun _ _ _ h => h) (Or.inl ⟨by rfl,?_⟩) ?_ ?_
       rotate_left
       ·intro w'
        go_simp
        with_reducible rfl
       rotate_left
       ·simp only [Act.put,z1_,z2_,z3_,i64_w,i32_w]
        rfl
       refine pure_ (i := 2) (N := some 34) (v := ?_) (a' := ?_) (bA 12 7) rfl rfl (any_of HT_.out (by kernel_rfl)) (fun _ _ _ h => h) (Or.inl ⟨by rfl,?_⟩) ?_ ?_
       rotate_left
       ·intro w'
        go_simp
        with_reducible rfl
       rotate_left
       ·simp only [Act.put,z1_,z2_,z3_,i64_w,i32_w]
        rfl
       refine pure_ (i := 3) (N := some 35) (v := ?_) (a' := ?_) (bA 12 15) rfl rfl (any_of HT_.out (by kernel_rfl)) (fun _ _ _ h => h) (Or.inl ⟨by rfl,?_⟩) ?_ ?_
       rotate_left
       ·intro w'
        go_simp
        with_reducible rfl
       rotate_left
       ·simp only [Act.put,z1_,z2_,z3_,i64_w,i32_w]
        rfl
       refine take_ (i := 4) (N := some 36) (v := ?_) (a' := ?_) (bA 12 31) rfl rfl (take_ofW HT_.out HW_.out (by kernel_rfl)) (fun _ _ _ h => h) (Or.inl ⟨by rfl,?_⟩) hHeld ?_ ?_
       rotate_left
       ·rintro w' ⟨s0,s1,s2⟩
        go_simp
        with_reducible rfl
       rotate_left
       ·simp only [Act.put,z1_,z2_,z3_,i64_w,i32_w]
        rfl
       refine join_ (σ := Value × Value × Nat) 2 (bA 12 1023) (fun s_ => [(37,.tuple #[.agg #[.string az,s_.1,s_.2.1],.bool false]),(6,.pointer (some ⟨s_.2.2,0,none⟩)),(31,.tuple #[.agg #[.string az,s_.1,s_.2.1],.bool false]),(38,.agg #[.string az,s_.1,s_.2.1]),(39,.bool false)]) (fun s_ w' => (w'.cell? ⟨ad,0,none⟩ = some (.string ((rd_T36 l0 a1).f0)) ∧ w'.cell? ⟨ad,1,none⟩ = some (.slice ai ((rd_T36 l0 a1).f1).length ag) ∧ w'.cell? ⟨ad,2,none⟩ = some (.slice aj ((rd_T36 l0 a1).f2).length ah)) ∧ (Kd.V (Kd.int .i64) 3 w' w.heap.size (fun k_ => k_ ≠ ad ∧ k_ ≠ s_.2.2) s_.1 av) ∧ (Kd.V Kd.string 9 w' w.heap.size (fun k_ => k_ ≠ ad ∧ k_ ≠ s_.2.2) s_.2.1 aw) ∧ (w'.heap[ad]? = some (.cells #[.string ((rd_T36 l0 a1).f0),.slice ai ((rd_T36 l0 a1).f1).length ag,.slice aj ((rd_T36 l0 a1).f2).length ah] 36 (0,0))) ∧ (w'.heap[s_.2.2]? = some (.cells #[.string (⟨#[]⟩ : ByteArray),.slice none 0 0,.slice none 0 0] 36 (0,0))) ∧ (w.heap.size ≤ s_.2.2) ∧ (w.heap.size ≤ s_.2.2) ∧ (ad ≠ s_.2.2) ∧ (s_.2.2 ≠ ad) ∧ (Below w.heap.size w w')) ?_ ?_
       rotate_left
       ·intro hCont
        refine two_ (i := 5) (j := 9) (Ni := some 37) (Nj := some 6) (bA 12 63) (bA 12 543) rfl rfl rfl rfl (two_of HT_.out (by kernel_rfl)) (by decide) (by decide) (fun K hK => ?_) (fun K hK => ?_)
        ·skip
         refine goes_ Tryz.func41 (by kernel_rfl) rfl #[.slice (some aH) aM.length c0,.string ((rd_T36 l0 a1).f0)] (by rfl) rfl rfl (by (try simp only [z4_,z5_,z6_]);first|done|rfl|(simp only [z7_,z8_];rfl)) ?_
         with_reducible refine (group_find.calls kj4 (fun k_ => k_ < w.heap.size) _ _ aM ((rd_T36 l0 a1).f0) az av aw false _ ?ar dy.out).mono ?_
         (case ar => exact Kd.V_mk a4.out (Kd.F_below (Kd.C_F k36_heap aO.out) (bG HB.out)))
         rintro e gO ⟨aP,aQ,rfl,a9,ba,hb⟩
         refine ⟨_,rfl,?_⟩
         have aB := aK (Kd.V_lower (Kd.V_mono (ok' := fun k_ => k_ ≠ ad) a9 (fun k_ hk_ => Or.elim hk_ (fun hs_ => fun e_ => Nat.not_le.2 hs_ (by rw [e_];exact aA.out)) (fun hn_ => (Kd.freshB (g := ad) (o := .cells #[.string ((rd_T36 l0 a1).f0),.slice ai ((rd_T36 l0 a1).f1).length ag,.slice aj ((rd_T36 l0 a1).f2).length ah] 36 (0,0)) (kM aa.out) k_ hn_)))) (below_size (bG HB.out)))
         have aC := aK (Kd.V_lower (Kd.V_mono (ok' := fun k_ => k_ ≠ ad) ba (fun k_ hk_ => Or.elim hk_ (fun hs_ => fun e_ => Nat.not_le.2 hs_ (by rw [e_];exact aA.out)) (fun hn_ => (Kd.freshB (g := ad) (o := .cells #[.string ((rd_T36 l0 a1).f0),.slice ai ((rd_T36 l0 a1).f1).length ag,.slice aj ((rd_T36 l0 a1).f2).length ah] 36 (0,0)) (kM aa.out) k_ hn_)))) (below_size (bG HB.out)))
         have aI := aK (blk_below (kM aa.out) hb)
         have aJ := aK (below_step (bG HB.out) hb)
         clear aa
         clear HB
         have ap := aB
         have aq := aC
         have aa := aI
         have HB := aJ
         clear aB aC aI aJ
         (try clear hb)
         (try clear hk)
         (try clear a9)
         (try clear ba)
         refine hK.out _ _ ⟨(blk_cell aa.out 0).trans rfl,(blk_cell aa.out 1).trans rfl,(blk_cell aa.out 2).trans rfl⟩ (fun hHeld => ?_)
         clear hK K
         refine norm_ (a' := ?_) ?_ ?_
         rotate_left
         ·show Act.put _ (some 37) _ = _
          simp only [Act.put,z1_,z2_,z3_,i64_w,i32_w]
          rfl
         refine pure_ (i := 6) (N := some 31) (v := ?_) (a' := ?_) (bA 12 127) rfl rfl (any_of HT_.out (by kernel_rfl)) (fun _ _ _ h => h) (Or.inl ⟨by rfl,?_⟩) ?_ ?_
         rotate_left
         ·intro w'
          go_simp
          with_reducible rfl
         rotate_left
         ·simp only [Act.put,z1_,z2_,z3_,i64_w,i32_w]
          rfl
         refine pure_ (i := 7) (N := some 38) (v := ?_) (a' := ?_) (bA 12 255) rfl rfl (any_of HT_.out (by kernel_rfl)) (fun _ _ _ h => h) (Or.inl ⟨by rfl,?_⟩) ?_ ?_
         rotate_left
         ·intro w'
          go_simp
          with_reducible rfl
         rotate_left
         ·simp only [Act.put,z1_,z2_,z3_,i64_w,i32_w]
          rfl
         refine pure_ (i := 8) (N := some 39) (v := ?_) (a' := ?_) (bA 12 511) rfl rfl (any_of HT_.out (by kernel_rfl)) (fun _ _ _ h => h) (Or.inl ⟨by rfl,?_⟩) ?_ ?_
         rotate_left
         ·intro w'
          go_simp
          with_reducible rfl
         rotate_left
         ·simp only [Act.put,z1_,z2_,z3_,i64_w,i32_w]
          rfl
         refine one_ (i := 9) (N := some 6) (bA 12 1023) rfl rfl (one_of HT_.out (by kernel_rfl)) (by decide) (fun K hK => ?_)
         refine box_step ?hg (N := 6) ?hd (cs := #[.string (⟨#[]⟩ : ByteArray),.slice none 0 0,.slice none 0 0]) (t := 36) ?hr ?_;(case hd => rfl);(case hg => rfl);(case hr => first|(go_simp;done)|(go_simp;rfl))
         intro ac hg gP hbox hb
         have aB := aK (Kd.V_below (Kd.V_elderB (vM ap.out) ac (Nat.le_of_eq hg.symm)) hb)
         have aC := aK (Kd.V_below (Kd.V_elderB (vM aq.out) ac (Nat.le_of_eq hg.symm)) hb)
         have aI := aK (blk_below (kM aa.out) hb)
         have aJ := aK (below_step (bG HB.out) hb)
         have aR := aK (hbox)
         have a5 := aK ((by rw [hg];exact (below_size (bG HB.out)) : w.heap.size ≤ ac))
         have a6 := aK ((by rw [hg];exact (below_size (bG HB.out)) : w.heap.size ≤ ac))
         have bi := aK (nbL aa.out hg)
         have bj := aK (nbR aa.out hg)
         clear ap
         clear aq
         clear aa
         clear HB
         have ap := aB
         have aq := aC
         have aa := aI
         have HB := aJ
         have af := aR
         have am := a5
         have a7 := Ge.mk am.out
         have au := a6
         have a8 := Ge.mk au.out
         have ab := bi
         have ae := bj
         clear aB aC aI aJ aR a5 a6 bi bj
         clear hb hbox hg
         refine hK.out _ _ ⟨(blk_cell aa.out 0).trans rfl,(blk_cell aa.out 1).trans rfl,(blk_cell aa.out 2).trans rfl⟩ (fun hHeld => ?_)
         clear hK K
         refine norm_ (a' := ?_) ?_ ?_
         rotate_left
         ·show Act.put _ (some 6) _ = _
          simp only [Act.put,z1_,z2_,z3_,i64_w,i32_w]
          rfl
         exact norm_ (by simp only [putAll,Act.put,z1_,z2_,z3_]) (hCont (aP,aQ,ac) _ ⟨hHeld,(vM ap.out),(vM aq.out),(kM aa.out),(kM af.out),am.out,au.out,ab.out,ae.out,(bG HB.out)⟩)
        ·skip
         refine box_step ?hg (N := 6) ?hd (cs := #[.string (⟨#[]⟩ : ByteArray),.slice none 0 0,.slice none 0 0]) (t := 36) ?hr ?_;(case hd => rfl);(case hg => rfl);(case hr => first|(go_simp;done)|(go_simp;rfl))
         intro ac hg gO hbox hb
         have aB := aK (blk_below (kM aa.out) hb)
         have aC := aK (below_step (bG HB.out) hb)
         have aI := aK (hbox)
         have aJ := aK ((by rw [hg];exact (below_size (bG HB.out)) : w.heap.size ≤ ac))
         have aR := aK ((by rw [hg];exact (below_size (bG HB.out)) : w.heap.size ≤ ac))
         have a5 := aK (nbL aa.out hg)
         have a6 := aK (nbR aa.out hg)
         clear aa
         clear HB
         have aa := aB
         have HB := aC
         have af := aI
         have am := aJ
         have a7 := Ge.mk am.out
         have au := aR
         have a8 := Ge.mk au.out
         have ab := a5
         have ae := a6
         clear aB aC aI aJ aR a5 a6
         clear hb hbox hg
         refine hK.out _ _ ⟨(blk_cell aa.out 0).trans rfl,(blk_cell aa.out 1).trans rfl,(blk_cell aa.out 2).trans rfl⟩ (fun hHeld => ?_)
         clear hK K
         refine norm_ (a' := ?_) ?_ ?_
         rotate_left
         ·show Act.put _ (some 6) _ = _
          simp only [Act.put,z1_,z2_,z3_,i64_w,i32_w]
          rfl
         refine one_ (i := 5) (N := some 37) (bA 12 575) rfl rfl (one_of HT_.out (by kernel_rfl)) (by decide) (fun K hK => ?_)
         refine goes_ Tryz.func41 (by kernel_rfl) rfl #[.slice (some aH) aM.length c0,.string ((rd_T36 l0 a1).f0)] (by rfl) rfl rfl (by (try simp only [z4_,z5_,z6_]);first|done|rfl|(simp only [z7_,z8_];rfl)) ?_
         with_reducible refine (group_find.calls kj4 (fun k_ => k_ < w.heap.size) _ _ aM ((rd_T36 l0 a1).f0) az av aw false _ ?ar dy.out).mono ?_
         (case ar => exact Kd.V_mk a4.out (Kd.F_below (Kd.C_F k36_heap aO.out) (bG HB.out)))
         rintro e gP ⟨aP,aQ,rfl,a9,ba,hb⟩
         refine ⟨_,rfl,?_⟩
         have aB := aK (Kd.V_lower (Kd.V_mono (ok' := fun k_ => k_ ≠ ad ∧ k_ ≠ ac) a9 (fun k_ hk_ => ⟨Or.elim hk_ (fun hs_ => fun e_ => Nat.not_le.2 hs_ (by rw [e_];exact aA.out)) (fun hn_ => (Kd.freshB (g := ad) (o := .cells #[.string ((rd_T36 l0 a1).f0),.slice ai ((rd_T36 l0 a1).f1).length ag,.slice aj ((rd_T36 l0 a1).f2).length ah] 36 (0,0)) (kM aa.out) k_ hn_)),Or.elim hk_ (fun hs_ => fun e_ => Nat.not_le.2 hs_ (by rw [e_];exact am.out)) (fun hn_ => (Kd.freshB (g := ac) (o := .cells #[.string (⟨#[]⟩ : ByteArray),.slice none 0 0,.slice none 0 0] 36 (0,0)) (kM af.out) k_ hn_))⟩)) (below_size (bG HB.out)))
         have aC := aK (Kd.V_lower (Kd.V_mono (ok' := fun k_ => k_ ≠ ad ∧ k_ ≠ ac) ba (fun k_ hk_ => ⟨Or.elim hk_ (fun hs_ => fun e_ => Nat.not_le.2 hs_ (by rw [e_];exact aA.out)) (fun hn_ => (Kd.freshB (g := ad) (o := .cells #[.string ((rd_T36 l0 a1).f0),.slice ai ((rd_T36 l0 a1).f1).length ag,.slice aj ((rd_T36 l0 a1).f2).length ah] 36 (0,0)) (kM aa.out) k_ hn_)),Or.elim hk_ (fun hs_ => fun e_ => Nat.not_le.2 hs_ (by rw [e_];exact am.out)) (fun hn_ => (Kd.freshB (g := ac) (o := .cells #[.string (⟨#[]⟩ : ByteArray),.slice none 0 0,.slice none 0 0] 36 (0,0)) (kM af.out) k_ hn_))⟩)) (below_size (bG HB.out)))
         have aI := aK (blk_below (kM aa.out) hb)
         have aJ := aK (blk_below (kM af.out) hb)
         have aR := aK (below_step (bG HB.out) hb)
         clear aa
         clear af
         clear HB
         have ap := aB
         have aq := aC
         have aa := aI
         have af := aJ
         have HB := aR
         clear aB aC aI aJ aR
         (try clear hb)
         (try clear hk)
         (try clear a9)
         (try clear ba)
         refine hK.out _ _ ⟨(blk_cell aa.out 0).trans rfl,(blk_cell aa.out 1).trans rfl,(blk_cell aa.out 2).trans rfl⟩ (fun hHeld => ?_)
         clear hK K
         refine norm_ (a' := ?_) ?_ ?_
         rotate_left
         ·show Act.put _ (some 37) _ = _
          simp only [Act.put,z1_,z2_,z3_,i64_w,i32_w]
          rfl
         refine pure_ (i := 6) (N := some 31) (v := ?_) (a' := ?_) (bA 12 639) rfl rfl (any_of HT_.out (by kernel_rfl)) (fun _ _ _ h => h) (Or.inl ⟨by rfl,?_⟩) ?_ ?_
         rotate_left
         ·intro w'
          go_simp
          with_reducible rfl
         rotate_left
         ·simp only [Act.put,z1_,z2_,z3_,i64_w,i32_w]
          rfl
         refine pure_ (i := 7) (N := some 38) (v := ?_) (a' := ?_) (bA 12 767) rfl rfl (any_of HT_.out (by kernel_rfl)) (fun _ _ _ h => h) (Or.inl ⟨by rfl,?_⟩) ?_ ?_
         rotate_left
         ·intro w'
          go_simp
          with_reducible rfl
         rotate_left
         ·simp only [Act.put,z1_,z2_,z3_,i64_w,i32_w]
          rfl
         refine pure_ (i := 8) (N := some 39) (v := ?_) (a' := ?_) (bA 12 1023) rfl rfl (any_of HT_.out (by kernel_rfl)) (fun _ _ _ h => h) (Or.inl ⟨by rfl,?_⟩) ?_ ?_
         rotate_left
         ·intro w'
          go_simp
          with_reducible rfl
         rotate_left
         ·simp only [Act.put,z1_,z2_,z3_,i64_w,i32_w]
          rfl
         exact norm_ (by simp only [putAll,Act.put,z1_,z2_,z3_]) (hCont (aP,aQ,ac) _ ⟨hHeld,(vM ap.out),(vM aq.out),(kM aa.out),(kM af.out),am.out,au.out,ab.out,ae.out,(bG HB.out)⟩)
       rintro ⟨aP,aQ,ac⟩ bN ⟨hS_,cw,cx,cy,cz,cA,cB,cC,cD,cE⟩
       have aB : Aside0 (Kd.V (Kd.int .i64) 3 bN w.heap.size (fun k_ => k_ ≠ ad ∧ k_ ≠ ac) aP av) := ⟨cw⟩
       have aC : Aside0 (Kd.V Kd.string 9 bN w.heap.size (fun k_ => k_ ≠ ad ∧ k_ ≠ ac) aQ aw) := ⟨cx⟩
       have aI : Aside0 (bN.heap[ad]? = some (.cells #[.string ((rd_T36 l0 a1).f0),.slice ai ((rd_T36 l0 a1).f1).length ag,.slice aj ((rd_T36 l0 a1).f2).length ah] 36 (0,0))) := ⟨cy⟩
       have aJ : Aside0 (bN.heap[ac]? = some (.cells #[.string (⟨#[]⟩ : ByteArray),.slice none 0 0,.slice none 0 0] 36 (0,0))) := ⟨cz⟩
       have aR : Aside0 (w.heap.size ≤ ac) := ⟨cA⟩
       have a5 : Aside0 (w.heap.size ≤ ac) := ⟨cB⟩
       have a6 : Aside0 (ad ≠ ac) := ⟨cC⟩
       have bi : Aside0 (ac ≠ ad) := ⟨cD⟩
       have bj : Aside0 (Below w.heap.size w bN) := ⟨cE⟩
       clear aa
       clear HB
       clear cw cx cy cz cA cB cC cD cE
       have ap := aB
       have aq := aC
       have aa := aI
       have af := aJ
       have am := aR
       have a7 := Ge.mk am.out
       have au := a5
       have a8 := Ge.mk au.out
       have ab := a6
       have ae := bi
       have HB := bj
       clear aB aC aI aJ aR a5 a6 bi bj
       have hHeld : bN.cell? ⟨ad,0,none⟩ = some (.string ((rd_T36 l0 a1).f0)) ∧ bN.cell? ⟨ad,1,none⟩ = some (.slice ai ((rd_T36 l0 a1).f1).length ag) ∧ bN.cell? ⟨ad,2,none⟩ = some (.slice aj ((rd_T36 l0 a1).f2).length ah) := hS_
       obtain ⟨aU,aV,dV⟩ := Kd.V_slice ap.out
       (first|subst dV|(injection dV with f1_ f2_ f3_;have bI := f1_.symm;have bJ := f3_.symm;clear f1_ f2_ f3_;subst bI;subst bJ))
       obtain ⟨aW,aX,dW⟩ := Kd.V_slice aq.out
       (first|subst dW|(injection dW with f1_ f2_ f3_;have bI := f1_.symm;have bJ := f3_.symm;clear f1_ f2_ f3_;subst bI;subst bJ))
       refine norm_ (a' := ?_) ?_ ?_
       rotate_left
       ·simp only [putAll,Act.put,z1_,z2_,z3_]
        rfl
       refine one_ (i := 10) (N := none) (bA 12 2047) rfl rfl (one_of HT_.out (by kernel_rfl)) (by decide) (fun K hK => ?_)
       have gQ : bN.cell? ⟨ac,0,none⟩ = some (.string (⟨#[]⟩ : ByteArray)) := (blk_cell af.out 0).trans rfl
       have fr := blk_frozen af.out 0
       have ey := ab.out
       have ez := ae.out
       have gR : bN.cell? ⟨ac,1,none⟩ = some (.slice none 0 0) := (blk_cell af.out 1).trans rfl
       have fs := blk_frozen af.out 1
       have eA := ab.out
       have eB := ae.out
       have gS : bN.cell? ⟨ac,2,none⟩ = some (.slice none 0 0) := (blk_cell af.out 2).trans rfl
       have ft := blk_frozen af.out 2
       have eC := ab.out
       have eD := ae.out
       refine skip_ (w1 := ?_) (by rfl) rfl ?_ ?_
       rotate_left
       ·go_simp
        rfl
       refine hK.out _ _ ⟨((cell_far (p := ⟨ac,_,none⟩) ab.out _).trans (((cell_far (p := ⟨ac,_,none⟩) ab.out _).trans (((cell_far (p := ⟨ac,_,none⟩) ab.out _).trans (hHeld.1)))))),((cell_far (p := ⟨ac,_,none⟩) ab.out _).trans (((cell_far (p := ⟨ac,_,none⟩) ab.out _).trans (((cell_far (p := ⟨ac,_,none⟩) ab.out _).trans (hHeld.2.1)))))),((cell_far (p := ⟨ac,_,none⟩) ab.out _).trans (((cell_far (p := ⟨ac,_,none⟩) ab.out _).trans (((cell_far (p := ⟨ac,_,none⟩) ab.out _).trans (hHeld.2.2))))))⟩ (fun hHeld => ?_)
       clear hK K
       refine pure_ (i := 11) (N := some 7) (v := ?_) (a' := ?_) (bA 12 4095) rfl rfl (any_of HT_.out (by kernel_rfl)) (fun _ _ _ h => h) (Or.inl ⟨by rfl,?_⟩) ?_ ?_
       rotate_left
       ·intro w'
        go_simp
        with_reducible rfl
       rotate_left
       ·simp only [Act.put,z1_,z2_,z3_,i64_w,i32_w]
        rfl
       refine done_ (done_of HT_.out (by kernel_rfl)) ?_
       have fu := ab.out
       have fv := ae.out
       obtain ⟨b2,b3,b4,b5,b6,b7⟩ := bk3_ aa.out
       try go_wp2
       go_loopg [52] kj4 (fun kq gT w' => ∃ (aD : Int),gT = .int .i64 aD ∧ Aside0 (group_one.l0 kq l0 ((rd_T36 l0 a1).f1) (((rd_T36 l0 a1).f1).length : Int) aD ((rd_T36 l0 a1).f0) ((rd_T36 l0 a1).f1) ((rd_T36 l0 a1).f2) = some r) ∧ Aside0 (kq ≤ kj4) ∧ Aside0 (Kd.V (Kd.int .i64) 3 w' w.heap.size (fun k_ => k_ ≠ ad ∧ k_ ≠ ac) (.slice aU av.length aV) av) ∧ Aside0 (Kd.V Kd.string 9 w' w.heap.size (fun k_ => k_ ≠ ad ∧ k_ ≠ ac) (.slice aW aw.length aX) aw) ∧ Aside0 (w'.heap[ad]? = some (.cells #[.string ((rd_T36 l0 a1).f0),(.slice ai ((rd_T36 l0 a1).f1).length ag),(.slice aj ((rd_T36 l0 a1).f2).length ah)] 36 (0,0))) ∧ Aside0 (w'.heap[ac]? = some (.cells #[.string az,(.slice aU av.length aV),(.slice aW aw.length aX)] 36 (0,0))) ∧ Aside0 (Below w.heap.size w w'))
       case atStart => exact ⟨(0),(by first|rfl|(simp;done)|(simp [*];done)),H',⟨Nat.le_refl _⟩,⟨by (with_reducible repeat (first|apply Kd.V_alloc|apply Kd.V_drewN|apply Kd.V_drew));exact Kd.V_mono (Kd.V_far (p := ⟨ac,2,none⟩) (Kd.V_far (p := ⟨ac,1,none⟩) (Kd.V_far (p := ⟨ac,0,none⟩) (Kd.V_mono ap.out (fun k_ hk => (⟨hk,hk.2⟩ : _ ∧ k_ ≠ ac))) (fun _ hk => hk.2) (.string az)) (fun _ hk => hk.2) (.slice aU av.length aV)) (fun _ hk => hk.2) (.slice aW aw.length aX)) (fun _ hk => ⟨hk.1.1,hk.1.2⟩)⟩,⟨by (with_reducible repeat (first|apply Kd.V_alloc|apply Kd.V_drewN|apply Kd.V_drew));exact Kd.V_mono (Kd.V_far (p := ⟨ac,2,none⟩) (Kd.V_far (p := ⟨ac,1,none⟩) (Kd.V_far (p := ⟨ac,0,none⟩) (Kd.V_mono aq.out (fun k_ hk => (⟨hk,hk.2⟩ : _ ∧ k_ ≠ ac))) (fun _ hk => hk.2) (.string az)) (fun _ hk => hk.2) (.slice aU av.length aV)) (fun _ hk => hk.2) (.slice aW aw.length aX)) (fun _ hk => ⟨hk.1.1,hk.1.2⟩)⟩,⟨by refine kO ?_;refine blk_far ?_ ab.out _;refine kO ?_;refine blk_far ?_ ab.out _;refine kO ?_;refine blk_far ?_ ab.out _;refine kO ?_;exact aa.out⟩,⟨by refine kO ?_;refine blk_put (cs := #[.string az,.slice aU av.length aV,.slice none 0 0]) ?_ 2 _ rfl;refine kO ?_;refine blk_put (cs := #[.string az,.slice none 0 0,.slice none 0 0]) ?_ 1 _ rfl;refine kO ?_;refine blk_put (cs := #[.string (⟨#[]⟩ : ByteArray),.slice none 0 0,.slice none 0 0]) ?_ 0 _ rfl;refine kO ?_;exact af.out⟩,⟨bG HB.out⟩⟩
       case round =>
        clear H'
        try clear p2
        try clear q4
        try clear p6
        try clear di
        try clear cF
        try clear bL
        try clear b2
        try clear b3
        try clear b4
        try clear b5
        try clear b6
        try clear b7
        try clear bL
        obtain ⟨aD,rfl,HA,cI,ak,al,aa,af,HB⟩ := hrel
        cases gk with
       |zero => exact absurd HA.out (by simp [group_one.l0])
       |succ k2 =>
         have H := HA.out
         clear HA
         simp only [group_one.l0] at H
         by_cases dq : aD < (((rd_T36 l0 a1).f1).length : Int)
         ·rw [if_pos dq] at H
          have cJ := decide_eq_true dq
          clear dq
          obtain ⟨fw,H⟩ := iS H
          have fx := decide_eq_true fw
          clear fw
          obtain ⟨fy,H⟩ := iS H
          have fz := decide_eq_true fy
          clear fy
          by_cases dz : (rd ((rd_T36 l0 a1).f1) aD) < 1
          ·rw [if_pos dz] at H
           have dX := decide_eq_true dz
           clear dz
           obtain rfl := Option.some.inj H
           have aY : 0 ≤ (aD : Int) := dA
           have aZ : aD < (((rd_T36 l0 a1).f1).length : Int) := dA
           obtain ⟨cK,bO,ax⟩ := Kd.at_int aL.out aD aY aZ
           cases bO
           replace ax := xM HB ax
           replace aY := eq_true aY
           replace aZ := eq_true aZ
           go_wp2
           go_ret
           exact ⟨by first|rfl|(simp [errW_none,errW_some] <;> rfl)|(simp [*,errW_none,errW_some] <;> rfl),bG HB.out⟩
          ·rw [if_neg dz] at H
           have dX := decide_eq_false dz
           clear dz
           by_cases dB : (rd ((rd_T36 l0 a1).f1) aD) > 9999
           ·rw [if_pos dB] at H
            have dY := decide_eq_true dB
            clear dB
            obtain rfl := Option.some.inj H
            have aY : 0 ≤ (aD : Int) := dA
            have aZ : aD < (((rd_T36 l0 a1).f1).length : Int) := dA
            obtain ⟨cK,bO,ax⟩ := Kd.at_int aL.out aD aY aZ
            cases bO
            replace ax := xM HB ax
            replace aY := eq_true aY
            replace aZ := eq_true aZ
            go_wp2
            go_ret
            exact ⟨by first|rfl|(simp [errW_none,errW_some] <;> rfl)|(simp [*,errW_none,errW_some] <;> rfl),bG HB.out⟩
           ·rw [if_neg dB] at H
            have dY := decide_eq_false dB
            clear dB
            have H' := aK H
            clear H
            have aY : 0 ≤ (aD : Int) := dA
            have aZ : aD < (((rd_T36 l0 a1).f1).length : Int) := dA
            obtain ⟨cK,bO,ax⟩ := Kd.at_int aL.out aD aY aZ
            cases bO
            replace ax := xM HB ax
            replace aY := eq_true aY
            replace aZ := eq_true aZ
            go_wp2
            go_roundg k2
            case measure => have := cu.out;have := cI.out;omega
            case rel => exact ⟨(wrap64 (aD + 1)),(by first|rfl|(simp;done)|(simp [*];done)),H',⟨by have := cu.out;have := cI.out;omega⟩,⟨vM ak.out⟩,⟨vM al.out⟩,⟨kM aa.out⟩,⟨kM af.out⟩,⟨bG HB.out⟩⟩
         ·rw [if_neg dq] at H
          have cJ := decide_eq_false dq
          clear dq
          have H' := aK H
          clear H
          have fA := ab.out
          have fB := ae.out
          obtain ⟨b8,b9,ca,cb,cc,cd⟩ := bk3_ aa.out
          go_wp2
          go_loopg [66] k2 (fun kq gU w' => ∃ (an : Int),gU = .int .i64 an ∧ Aside0 (group_one.l1 kq l0 ((rd_T36 l0 a1).f1) (((rd_T36 l0 a1).f1).length : Int) an ((rd_T36 l0 a1).f0) ((rd_T36 l0 a1).f1) ((rd_T36 l0 a1).f2) = some r) ∧ Aside0 (kq ≤ k2) ∧ Aside0 (Kd.V (Kd.int .i64) 3 w' w.heap.size (fun k_ => k_ ≠ ad ∧ k_ ≠ ac) (.slice aU av.length aV) av) ∧ Aside0 (Kd.V Kd.string 9 w' w.heap.size (fun k_ => k_ ≠ ad ∧ k_ ≠ ac) (.slice aW aw.length aX) aw) ∧ Aside0 (w'.heap[ad]? = some (.cells #[.string ((rd_T36 l0 a1).f0),(.slice ai ((rd_T36 l0 a1).f1).length ag),(.slice aj ((rd_T36 l0 a1).f2).length ah)] 36 (0,0))) ∧ Aside0 (w'.heap[ac]? = some (.cells #[.string az,(.slice aU av.length aV),(.slice aW aw.length aX)] 36 (0,0))) ∧ Aside0 (Below w.heap.size w w'))
          case atStart => exact ⟨(0),(by first|rfl|(simp;done)|(simp [*];done)),H',⟨Nat.le_refl _⟩,⟨vM ak.out⟩,⟨vM al.out⟩,⟨kM aa.out⟩,⟨kM af.out⟩,⟨bG HB.out⟩⟩
          case round =>
           clear H'
           try clear p1
           try clear q1
           try clear hx1
           try clear p2
           try clear q4
           try clear p6
           try clear p17
           try clear q17
           try clear hx17
           try clear bL
           try clear dq
           try clear cJ
           try clear b8
           try clear b9
           try clear ca
           try clear cb
           try clear cc
           try clear cd
           try clear ax
           try clear aY
           try clear p2
           try clear p6
           try clear aZ
           try clear q4
           try clear bL
           obtain ⟨an,rfl,HA,dC,ak,al,aa,af,HB⟩ := hrel
           cases gk with
          |zero => exact absurd HA.out (by simp [group_one.l1])
          |succ k3 =>
            have H := HA.out
            clear HA
            simp only [group_one.l1] at H
            by_cases dr : an < (((rd_T36 l0 a1).f1).length : Int)
            ·rw [if_pos dr] at H
             have cL := decide_eq_true dr
             clear dr
             obtain ⟨fC,H⟩ := iS H
             have fD := decide_eq_true fC
             clear fC
             obtain ⟨fE,H⟩ := iS H
             have fF := decide_eq_true fE
             clear fE
             have fG := eq_true (dA : 0 ≤ an)
             obtain ⟨eS,H⟩ := iS H
             have fH := eq_true eS
             have fI := decide_eq_true eS
             clear eS
             replace H := Option.bind_eq_some_iff.mp H
             obtain ⟨eT,dZ,H⟩ := H
             have fJ := aK dZ
             clear dZ
             by_cases eE : eT = true
             ·subst eE
              rw [if_pos rfl] at H
              obtain rfl := Option.some.inj H
              have bf : 0 ≤ (an : Int) := dA
              have bg : an < (((rd_T36 l0 a1).f1).length : Int) := dA
              obtain ⟨bk,dt,aN⟩ := Kd.at_int aL.out an bf bg
              cases dt
              replace aN := xM HB aN
              replace bf := eq_true bf
              replace bg := eq_true bg
              have fK := ab.out
              have fL := ae.out
              obtain ⟨_,_,_,_,_,_⟩ := bk3_ aa.out
              obtain ⟨gV,cN,_,cO,_⟩ := info_parts info3
              obtain ⟨eU,d0,d1⟩ := print_take_of (P := Tryz.prog) (Value.int .i64) 0 28 3 .i64 Tryz.underlying28 cN cO (some bk) ag ((rd_T36 l0 a1).f1) an (dA) (dA) bz.out
              have bP := aK (Kd.C_of_reads (h1 := fun _ => rfl) (d0 _ (Kd.reads_of_C aL.out)))
              have bQ := aK d1
              clear d0 d1 cN cO
              go_wp2_with (first|((with_reducible refine gate_callee (f := 47) rfl ?_);refine goesL_ (some 76) rfl rfl Tryz.func47 (by kernel_rfl) rfl #[.slice (some bk) (((rd_T36 l0 a1).f1).take (an : Int).toNat).length ag,.int .i64 (rd ((rd_T36 l0 a1).f1) an)] rfl (by (try simp only [z4_,z5_,z6_]);first|done|(rw [show (((rd_T36 l0 a1).f1).take (an : Int).toNat).length = an.toNat from (by rw [List.length_take];have h_ : (an : Int) ≤ (((rd_T36 l0 a1).f1).length : Int) := dA;omega)] <;> rfl)|rfl|(simp only [z7_,z8_];rfl)) ?_;(with_reducible refine (slices_Contains_int_int.calls k3 _ _ (((rd_T36 l0 a1).f1).take (an : Int).toNat) (rd ((rd_T36 l0 a1).f1) an) true _ ?ar ?bb fJ.out).mono ?_);(case ar => exact cM (Kd.C_below bP.out HB.out));(case bb => exact bQ.out);rintro e w' ⟨rfl,⟨nd,rfl⟩⟩;refine ⟨_,rfl,?_⟩))
              go_ret
              exact ⟨by first|rfl|(simp [errW_none,errW_some] <;> rfl)|(simp [*,errW_none,errW_some] <;> rfl),bG HB.out⟩
             ·replace eE := Bool.eq_false_iff.mpr eE
              subst eE
              rw [if_neg (show ¬ (false = true) by decide)] at H
              have H' := aK H
              clear H
              have bf : 0 ≤ (an : Int) := dA
              have bg : an < (((rd_T36 l0 a1).f1).length : Int) := dA
              obtain ⟨bk,dt,aN⟩ := Kd.at_int aL.out an bf bg
              cases dt
              replace aN := xM HB aN
              replace bf := eq_true bf
              replace bg := eq_true bg
              have fM := ab.out
              have fN := ae.out
              obtain ⟨_,_,_,_,_,_⟩ := bk3_ aa.out
              obtain ⟨gW,cP,_,cQ,_⟩ := info_parts info3
              obtain ⟨eV,d2,d3⟩ := print_take_of (P := Tryz.prog) (Value.int .i64) 0 28 3 .i64 Tryz.underlying28 cP cQ (some bk) ag ((rd_T36 l0 a1).f1) an (dA) (dA) bz.out
              have bP := aK (Kd.C_of_reads (h1 := fun _ => rfl) (d2 _ (Kd.reads_of_C aL.out)))
              have bQ := aK d3
              clear d2 d3 cP cQ
              go_wp2_with (first|((with_reducible refine gate_callee (f := 47) rfl ?_);refine goesL_ (some 76) rfl rfl Tryz.func47 (by kernel_rfl) rfl #[.slice (some bk) (((rd_T36 l0 a1).f1).take (an : Int).toNat).length ag,.int .i64 (rd ((rd_T36 l0 a1).f1) an)] rfl (by (try simp only [z4_,z5_,z6_]);first|done|(rw [show (((rd_T36 l0 a1).f1).take (an : Int).toNat).length = an.toNat from (by rw [List.length_take];have h_ : (an : Int) ≤ (((rd_T36 l0 a1).f1).length : Int) := dA;omega)] <;> rfl)|rfl|(simp only [z7_,z8_];rfl)) ?_;(with_reducible refine (slices_Contains_int_int.calls k3 _ _ (((rd_T36 l0 a1).f1).take (an : Int).toNat) (rd ((rd_T36 l0 a1).f1) an) false _ ?ar ?bb fJ.out).mono ?_);(case ar => exact cM (Kd.C_below bP.out HB.out));(case bb => exact bQ.out);rintro e w' ⟨rfl,⟨nd,rfl⟩⟩;refine ⟨_,rfl,?_⟩))
              go_roundg k3
              case measure => have := cu.out;have := cI.out;have := dC.out;omega
              case rel => exact ⟨(wrap64 (an + 1)),(by first|rfl|(simp;done)|(simp [*];done)),H',⟨by have := cu.out;have := cI.out;have := dC.out;omega⟩,⟨vM ak.out⟩,⟨vM al.out⟩,⟨kM aa.out⟩,⟨kM af.out⟩,⟨bG HB.out⟩⟩
            ·rw [if_neg dr] at H
             have cL := decide_eq_false dr
             clear dr
             have H' := aK H
             clear H
             have fO := ab.out
             have fP := ae.out
             obtain ⟨ce,cf,cg,ch,ci,cj⟩ := bk3_ aa.out
             go_wp2
             go_loopg [81] k3 (fun kq gX w' => ∃ (ao : Int),gX = .int .i64 ao ∧ Aside0 (group_one.l2 kq l0 ((rd_T36 l0 a1).f2) (((rd_T36 l0 a1).f2).length : Int) ao ((rd_T36 l0 a1).f0) ((rd_T36 l0 a1).f1) ((rd_T36 l0 a1).f2) = some r) ∧ Aside0 (kq ≤ k3) ∧ Aside0 (Kd.V (Kd.int .i64) 3 w' w.heap.size (fun k_ => k_ ≠ ad ∧ k_ ≠ ac) (.slice aU av.length aV) av) ∧ Aside0 (Kd.V Kd.string 9 w' w.heap.size (fun k_ => k_ ≠ ad ∧ k_ ≠ ac) (.slice aW aw.length aX) aw) ∧ Aside0 (w'.heap[ad]? = some (.cells #[.string ((rd_T36 l0 a1).f0),(.slice ai ((rd_T36 l0 a1).f1).length ag),(.slice aj ((rd_T36 l0 a1).f2).length ah)] 36 (0,0))) ∧ Aside0 (w'.heap[ac]? = some (.cells #[.string az,(.slice aU av.length aV),(.slice aW aw.length aX)] 36 (0,0))) ∧ Aside0 (Below w.heap.size w w'))
             case atStart => exact ⟨(0),(by first|rfl|(simp;done)|(simp [*];done)),H',⟨Nat.le_refl _⟩,⟨vM ak.out⟩,⟨vM al.out⟩,⟨kM aa.out⟩,⟨kM af.out⟩,⟨bG HB.out⟩⟩
             case round =>
              clear H'
              try clear p1
              try clear q1
              try clear hx1
              try clear p2
              try clear q4
              try clear p6
              try clear p17
              try clear q17
              try clear hx17
              try clear bL
              try clear dr
              try clear cL
              try clear p64
              try clear ce
              try clear cf
              try clear cg
              try clear ch
              try clear ci
              try clear cj
              try clear ax
              try clear aN
              try clear p1
              try clear p17
              try clear aY
              try clear bf
              try clear p2
              try clear p6
              try clear q1
              try clear q17
              try clear aZ
              try clear bg
              try clear q4
              try clear bL
              obtain ⟨ao,rfl,HA,eF,ak,al,aa,af,HB⟩ := hrel
              cases gk with
             |zero => exact absurd HA.out (by simp [group_one.l2])
             |succ k4 =>
               have H := HA.out
               clear HA
               simp only [group_one.l2] at H
               by_cases du : ao < (((rd_T36 l0 a1).f2).length : Int)
               ·rw [if_pos du] at H
                have cR := decide_eq_true du
                clear du
                obtain ⟨fQ,H⟩ := iS H
                have fR := decide_eq_true fQ
                clear fQ
                obtain ⟨fS,H⟩ := iS H
                have fT := decide_eq_true fS
                clear fS
                have fU := eq_true (dA : 0 ≤ ao)
                obtain ⟨eW,H⟩ := iS H
                have fV := eq_true eW
                have fW := decide_eq_true eW
                clear eW
                replace H := Option.bind_eq_some_iff.mp H
                obtain ⟨eX,d4,H⟩ := H
                have fX := aK d4
                clear d4
                by_cases eG : eX = true
                ·subst eG
                 rw [if_pos rfl] at H
                 obtain rfl := Option.some.inj H
                 have bm : 0 ≤ (ao : Int) := dA
                 have bn : ao < (((rd_T36 l0 a1).f2).length : Int) := dA
                 obtain ⟨bo,dv,aT⟩ := Kd.at_string aS.out ao bm bn
                 cases dv
                 replace aT := xM HB aT
                 replace bm := eq_true bm
                 replace bn := eq_true bn
                 have fY := ab.out
                 have fZ := ae.out
                 obtain ⟨_,_,_,_,_,_⟩ := bk3_ aa.out
                 obtain ⟨gY,cS,_,cT,_⟩ := info_parts info9
                 obtain ⟨eY,d5,d6⟩ := print_take_of (P := Tryz.prog) Value.string (⟨#[]⟩ : ByteArray) 31 9 .i64 Tryz.underlying31 cS cT (some bo) ah ((rd_T36 l0 a1).f2) ao (dA) (dA) bB.out
                 have bR := aK (Kd.C_of_reads (h1 := fun _ => rfl) (d5 _ (Kd.reads_of_C aS.out)))
                 have bS := aK d6
                 clear d5 d6 cS cT
                 go_wp2_with (first|((with_reducible refine gate_callee (f := 52) rfl ?_);refine goesL_ (some 91) rfl rfl Tryz.func52 (by kernel_rfl) rfl #[.slice (some bo) (((rd_T36 l0 a1).f2).take (ao : Int).toNat).length ah,.string (rdOf ByteArray.empty ((rd_T36 l0 a1).f2) ao)] rfl (by (try simp only [z4_,z5_,z6_]);first|done|(rw [show (((rd_T36 l0 a1).f2).take (ao : Int).toNat).length = ao.toNat from (by rw [List.length_take];have h_ : (ao : Int) ≤ (((rd_T36 l0 a1).f2).length : Int) := dA;omega)] <;> rfl)|rfl|(simp only [z7_,z8_];rfl)) ?_;(with_reducible refine (slices_Contains_string_string.calls k4 _ _ (((rd_T36 l0 a1).f2).take (ao : Int).toNat) (rdOf ByteArray.empty ((rd_T36 l0 a1).f2) ao) true _ ?ar ?bb fX.out).mono ?_);(case ar => exact cM (Kd.C_below bR.out HB.out));(case bb => exact bS.out);rintro e w' ⟨rfl,⟨nd,rfl⟩⟩;refine ⟨_,rfl,?_⟩))
                 go_ret
                 exact ⟨by first|rfl|(simp [errW_none,errW_some] <;> rfl)|(simp [*,errW_none,errW_some] <;> rfl),bG HB.out⟩
                ·replace eG := Bool.eq_false_iff.mpr eG
                 subst eG
                 rw [if_neg (show ¬ (false = true) by decide)] at H
                 have H' := aK H
                 clear H
                 have bm : 0 ≤ (ao : Int) := dA
                 have bn : ao < (((rd_T36 l0 a1).f2).length : Int) := dA
                 obtain ⟨bo,dv,aT⟩ := Kd.at_string aS.out ao bm bn
                 cases dv
                 replace aT := xM HB aT
                 replace bm := eq_true bm
                 replace bn := eq_true bn
                 have f3 := ab.out
                 have f4 := ae.out
                 obtain ⟨_,_,_,_,_,_⟩ := bk3_ aa.out
                 obtain ⟨gZ,cU,_,cV,_⟩ := info_parts info9
                 obtain ⟨eZ,d7,d8⟩ := print_take_of (P := Tryz.prog) Value.string (⟨#[]⟩ : ByteArray) 31 9 .i64 Tryz.underlying31 cU cV (some bo) ah ((rd_T36 l0 a1).f2) ao (dA) (dA) bB.out
                 have bR := aK (Kd.C_of_reads (h1 := fun _ => rfl) (d7 _ (Kd.reads_of_C aS.out)))
                 have bS := aK d8
                 clear d7 d8 cU cV
                 go_wp2_with (first|((with_reducible refine gate_callee (f := 52) rfl ?_);refine goesL_ (some 91) rfl rfl Tryz.func52 (by kernel_rfl) rfl #[.slice (some bo) (((rd_T36 l0 a1).f2).take (ao : Int).toNat).length ah,.string (rdOf ByteArray.empty ((rd_T36 l0 a1).f2) ao)] rfl (by (try simp only [z4_,z5_,z6_]);first|done|(rw [show (((rd_T36 l0 a1).f2).take (ao : Int).toNat).length = ao.toNat from (by rw [List.length_take];have h_ : (ao : Int) ≤ (((rd_T36 l0 a1).f2).length : Int) := dA;omega)] <;> rfl)|rfl|(simp only [z7_,z8_];rfl)) ?_;(with_reducible refine (slices_Contains_string_string.calls k4 _ _ (((rd_T36 l0 a1).f2).take (ao : Int).toNat) (rdOf ByteArray.empty ((rd_T36 l0 a1).f2) ao) false _ ?ar ?bb fX.out).mono ?_);(case ar => exact cM (Kd.C_below bR.out HB.out));(case bb => exact bS.out);rintro e w' ⟨rfl,⟨nd,rfl⟩⟩;refine ⟨_,rfl,?_⟩))
                 go_roundg k4
                 case measure => have := cu.out;have := cI.out;have := dC.out;have := eF.out;omega
                 case rel => exact ⟨(wrap64 (ao + 1)),(by first|rfl|(simp;done)|(simp [*];done)),H',⟨by have := cu.out;have := cI.out;have := dC.out;have := eF.out;omega⟩,⟨vM ak.out⟩,⟨vM al.out⟩,⟨kM aa.out⟩,⟨kM af.out⟩,⟨bG HB.out⟩⟩
               ·rw [if_neg du] at H
                have cR := decide_eq_false du
                clear du
                have H' := aK H
                clear H
                have f5 := ab.out
                have f6 := ae.out
                obtain ⟨ck,cl,cm,cn,co,cp⟩ := bk3_ aa.out
                go_wp2
                go_loopg [96] k4 (fun kq g0 w' => ∃ (aE : Int),g0 = .int .i64 aE ∧ Aside0 (group_one.l3 kq l0 ((rd_T36 l0 a1).f2) (((rd_T36 l0 a1).f2).length : Int) aE = some r) ∧ Aside0 (kq ≤ k4) ∧ Aside0 (Kd.V (Kd.int .i64) 3 w' w.heap.size (fun k_ => k_ ≠ ad ∧ k_ ≠ ac) (.slice aU av.length aV) av) ∧ Aside0 (Kd.V Kd.string 9 w' w.heap.size (fun k_ => k_ ≠ ad ∧ k_ ≠ ac) (.slice aW aw.length aX) aw) ∧ Aside0 (w'.heap[ad]? = some (.cells #[.string ((rd_T36 l0 a1).f0),(.slice ai ((rd_T36 l0 a1).f1).length ag),(.slice aj ((rd_T36 l0 a1).f2).length ah)] 36 (0,0))) ∧ Aside0 (w'.heap[ac]? = some (.cells #[.string az,(.slice aU av.length aV),(.slice aW aw.length aX)] 36 (0,0))) ∧ Aside0 (Below w.heap.size w w'))
                case atStart => exact ⟨(0),(by first|rfl|(simp;done)|(simp [*];done)),H',⟨Nat.le_refl _⟩,⟨vM ak.out⟩,⟨vM al.out⟩,⟨kM aa.out⟩,⟨kM af.out⟩,⟨bG HB.out⟩⟩
                case round =>
                 clear H'
                 try clear p1
                 try clear q1
                 try clear hx1
                 try clear p2
                 try clear q4
                 try clear p6
                 try clear p17
                 try clear q17
                 try clear hx17
                 try clear bL
                 try clear p64
                 try clear du
                 try clear cR
                 try clear ck
                 try clear cl
                 try clear cm
                 try clear cn
                 try clear co
                 try clear cp
                 try clear ax
                 try clear aN
                 try clear aT
                 try clear p1
                 try clear p17
                 try clear aY
                 try clear bf
                 try clear bm
                 try clear p2
                 try clear p6
                 try clear p64
                 try clear q1
                 try clear q17
                 try clear aZ
                 try clear bg
                 try clear bn
                 try clear q4
                 try clear bL
                 obtain ⟨aE,rfl,HA,f7,ak,al,aa,af,HB⟩ := hrel
                 cases gk with
                |zero => exact absurd HA.out (by simp [group_one.l3])
                |succ k5 =>
                  have H := HA.out
                  clear HA
                  simp only [group_one.l3] at H
                  by_cases dD : aE < (((rd_T36 l0 a1).f2).length : Int)
                  ·rw [if_pos dD] at H
                   have d9 := decide_eq_true dD
                   clear dD
                   obtain ⟨f8,H⟩ := iS H
                   have f9 := decide_eq_true f8
                   clear f8
                   obtain ⟨ga,H⟩ := iS H
                   have gb := decide_eq_true ga
                   clear ga
                   replace H := Option.bind_eq_some_iff.mp H
                   obtain ⟨⟨cq,cr,ct,ea⟩,eb,H⟩ := H
                   replace H : (if ea = true then (group_one.l3 k5 l0 ((rd_T36 l0 a1).f2) (((rd_T36 l0 a1).f2).length : Int) (wrap64 (aE + 1))) else (some 8)) = some r := H
                   have gc := aK eb
                   clear eb
                   by_cases eH : ea = true
                   ·subst eH
                    rw [if_pos rfl] at H
                    have H' := aK H
                    clear H
                    have bq : 0 ≤ (aE : Int) := dA
                    have br : aE < (((rd_T36 l0 a1).f2).length : Int) := dA
                    obtain ⟨bp,dw,a0⟩ := Kd.at_string aS.out aE bq br
                    cases dw
                    replace a0 := xM HB a0
                    replace bq := eq_true bq
                    replace br := eq_true br
                    go_wp2_with (first|((with_reducible refine gate_callee (f := 41) rfl ?_);refine gL 103 Tryz.func41 #[.slice (some aH) l0.length c0,.string (rdOf ByteArray.empty ((rd_T36 l0 a1).f2) aE)] ?_;(with_reducible refine (group_find.calls k5 (fun k_ => k_ < w.heap.size) _ _ l0 (rdOf ByteArray.empty ((rd_T36 l0 a1).f2) aE) cq cr ct true _ ?ar gc.out).mono ?_);(case ar => exact Kd.V_mk dE.out (Kd.F_below (Kd.C_F k36_heap dx.out) (bG HB.out)));rintro e g5 ⟨e0,e1,rfl,a9,ba,hb⟩;refine ⟨_,rfl,?_⟩;replace ak := aK (Kd.V_below (vM ak.out) hb);replace al := aK (Kd.V_below (vM al.out) hb);have bc := aK (Kd.V_lower (Kd.V_mono (ok' := fun k_ => k_ ≠ ad ∧ k_ ≠ ac) a9 (fun k_ hk_ => ⟨Or.elim hk_ (fun hs_ => fun e_ => Nat.not_le.2 hs_ (by rw [e_];exact aA.out)) (fun hn_ => (Kd.freshB (g := ad) (o := .cells #[.string ((rd_T36 l0 a1).f0),.slice ai ((rd_T36 l0 a1).f1).length ag,.slice (some bp) ((rd_T36 l0 a1).f2).length ah] 36 (0,0)) (kM aa.out) k_ hn_)),Or.elim hk_ (fun hs_ => fun e_ => Nat.not_le.2 hs_ (by rw [e_];exact am.out)) (fun hn_ => (Kd.freshB (g := ac) (o := .cells #[.string az,.slice aU av.length aV,.slice aW aw.length aX] 36 (0,0)) (kM af.out) k_ hn_))⟩)) (below_size (bG HB.out)));have bd := aK (Kd.V_lower (Kd.V_mono (ok' := fun k_ => k_ ≠ ad ∧ k_ ≠ ac) ba (fun k_ hk_ => ⟨Or.elim hk_ (fun hs_ => fun e_ => Nat.not_le.2 hs_ (by rw [e_];exact aA.out)) (fun hn_ => (Kd.freshB (g := ad) (o := .cells #[.string ((rd_T36 l0 a1).f0),.slice ai ((rd_T36 l0 a1).f1).length ag,.slice (some bp) ((rd_T36 l0 a1).f2).length ah] 36 (0,0)) (kM aa.out) k_ hn_)),Or.elim hk_ (fun hs_ => fun e_ => Nat.not_le.2 hs_ (by rw [e_];exact am.out)) (fun hn_ => (Kd.freshB (g := ac) (o := .cells #[.string az,.slice aU av.length aV,.slice aW aw.length aX] 36 (0,0)) (kM af.out) k_ hn_))⟩)) (below_size (bG HB.out)));replace aa := aK (blk_below (kM aa.out) hb);replace af := aK (blk_below (kM af.out) hb);replace HB := aK (below_step (bG HB.out) hb);(try clear hb);(try clear hk);(try clear a9);(try clear ba))|((with_reducible refine gate_dst (N := 16) rfl ?_);refine box_event ?hg (N := 16) ?hd (cs := #[.string (⟨#[]⟩ : ByteArray),.slice none 0 0,.slice none 0 0]) (t := 36) ?hr ?_;(case hd => rfl);(case hg => rfl);(case hr => first|(go_simp;done)|(go_simp;rfl));intro ay hg g6 hbox hb;replace ak := aK (Kd.V_below (Kd.V_elderB (vM ak.out) ay (Nat.le_of_eq hg.symm)) hb);replace al := aK (Kd.V_below (Kd.V_elderB (vM al.out) ay (Nat.le_of_eq hg.symm)) hb);replace bc := aK (Kd.V_below (Kd.V_elderB (vM bc.out) ay (Nat.le_of_eq hg.symm)) hb);replace bd := aK (Kd.V_below (Kd.V_elderB (vM bd.out) ay (Nat.le_of_eq hg.symm)) hb);have bT := aK (hbox);have bU := aK ((by rw [hg];exact (below_size (bG HB.out)) : w.heap.size ≤ ay));have ec := Ge.mk bU.out;have bV := aK ((by rw [hg];exact (below_size (bG HB.out)) : w.heap.size ≤ ay));have ed := Ge.mk bV.out;replace HB := aK (below_step (bG HB.out) hb);have aF := aK (nbL aa.out hg);have a2 := aK (nbR aa.out hg);replace aa := aK (blk_below (kM aa.out) hb);have aG := aK (nbL af.out hg);have a3 := aK (nbR af.out hg);replace af := aK (blk_below (kM af.out) hb);clear hb hbox hg;have e2 := a2.out;have e3 := aF.out;have e4 := a3.out;have e5 := aG.out;obtain ⟨_,_,_,_,_,_⟩ := bk3_ bT.out;obtain ⟨cW,cX,ee⟩ := Kd.V_slice bc.out;subst ee;obtain ⟨cY,cZ,ef⟩ := Kd.V_slice bd.out;subst ef))
                    go_roundg k5
                    case measure => have := cu.out;have := cI.out;have := dC.out;have := eF.out;have := f7.out;omega
                    case rel => exact ⟨(wrap64 (aE + 1)),(by first|rfl|(simp;done)|(simp [*];done)),H',⟨by have := cu.out;have := cI.out;have := dC.out;have := eF.out;have := f7.out;omega⟩,⟨by (with_reducible repeat (first|apply Kd.V_alloc|apply Kd.V_drewN|apply Kd.V_drew));exact Kd.V_mono (Kd.V_far (p := ⟨ay,2,none⟩) (Kd.V_far (p := ⟨ay,1,none⟩) (Kd.V_far (p := ⟨ay,0,none⟩) (Kd.V_mono ak.out (fun k_ hk => (⟨hk,hk.2⟩ : _ ∧ k_ ≠ ay))) (fun _ hk => hk.2) (.string cq)) (fun _ hk => hk.2) (.slice cW cr.length cX)) (fun _ hk => hk.2) (.slice cY ct.length cZ)) (fun _ hk => ⟨hk.1.1.1,hk.1.1.2⟩)⟩,⟨by (with_reducible repeat (first|apply Kd.V_alloc|apply Kd.V_drewN|apply Kd.V_drew));exact Kd.V_mono (Kd.V_far (p := ⟨ay,2,none⟩) (Kd.V_far (p := ⟨ay,1,none⟩) (Kd.V_far (p := ⟨ay,0,none⟩) (Kd.V_mono al.out (fun k_ hk => (⟨hk,hk.2⟩ : _ ∧ k_ ≠ ay))) (fun _ hk => hk.2) (.string cq)) (fun _ hk => hk.2) (.slice cW cr.length cX)) (fun _ hk => hk.2) (.slice cY ct.length cZ)) (fun _ hk => ⟨hk.1.1.1,hk.1.1.2⟩)⟩,⟨by refine kO ?_;refine blk_far ?_ aF.out _;refine kO ?_;refine blk_far ?_ aF.out _;refine kO ?_;refine blk_far ?_ aF.out _;refine kO ?_;exact aa.out⟩,⟨by refine kO ?_;refine blk_far ?_ aG.out _;refine kO ?_;refine blk_far ?_ aG.out _;refine kO ?_;refine blk_far ?_ aG.out _;refine kO ?_;exact af.out⟩,⟨bG HB.out⟩⟩
                   ·replace eH := Bool.eq_false_iff.mpr eH
                    subst eH
                    rw [if_neg (show ¬ (false = true) by decide)] at H
                    obtain rfl := Option.some.inj H
                    have bq : 0 ≤ (aE : Int) := dA
                    have br : aE < (((rd_T36 l0 a1).f2).length : Int) := dA
                    obtain ⟨bp,dw,a0⟩ := Kd.at_string aS.out aE bq br
                    cases dw
                    replace a0 := xM HB a0
                    replace bq := eq_true bq
                    replace br := eq_true br
                    go_wp2_with (first|((with_reducible refine gate_callee (f := 41) rfl ?_);refine gL 103 Tryz.func41 #[.slice (some aH) l0.length c0,.string (rdOf ByteArray.empty ((rd_T36 l0 a1).f2) aE)] ?_;(with_reducible refine (group_find.calls k5 (fun k_ => k_ < w.heap.size) _ _ l0 (rdOf ByteArray.empty ((rd_T36 l0 a1).f2) aE) cq cr ct false _ ?ar gc.out).mono ?_);(case ar => exact Kd.V_mk dE.out (Kd.F_below (Kd.C_F k36_heap dx.out) (bG HB.out)));rintro e g1 ⟨e0,e1,rfl,a9,ba,hb⟩;refine ⟨_,rfl,?_⟩;have bc := aK (Kd.V_lower (Kd.V_mono (ok' := fun k_ => k_ ≠ ad ∧ k_ ≠ ac) a9 (fun k_ hk_ => ⟨Or.elim hk_ (fun hs_ => fun e_ => Nat.not_le.2 hs_ (by rw [e_];exact aA.out)) (fun hn_ => (Kd.freshB (g := ad) (o := .cells #[.string ((rd_T36 l0 a1).f0),.slice ai ((rd_T36 l0 a1).f1).length ag,.slice (some bp) ((rd_T36 l0 a1).f2).length ah] 36 (0,0)) (kM aa.out) k_ hn_)),Or.elim hk_ (fun hs_ => fun e_ => Nat.not_le.2 hs_ (by rw [e_];exact am.out)) (fun hn_ => (Kd.freshB (g := ac) (o := .cells #[.string az,.slice aU av.length aV,.slice aW aw.length aX] 36 (0,0)) (kM af.out) k_ hn_))⟩)) (below_size (bG HB.out)));have bd := aK (Kd.V_lower (Kd.V_mono (ok' := fun k_ => k_ ≠ ad ∧ k_ ≠ ac) ba (fun k_ hk_ => ⟨Or.elim hk_ (fun hs_ => fun e_ => Nat.not_le.2 hs_ (by rw [e_];exact aA.out)) (fun hn_ => (Kd.freshB (g := ad) (o := .cells #[.string ((rd_T36 l0 a1).f0),.slice ai ((rd_T36 l0 a1).f1).length ag,.slice (some bp) ((rd_T36 l0 a1).f2).length ah] 36 (0,0)) (kM aa.out) k_ hn_)),Or.elim hk_ (fun hs_ => fun e_ => Nat.not_le.2 hs_ (by rw [e_];exact am.out)) (fun hn_ => (Kd.freshB (g := ac) (o := .cells #[.string az,.slice aU av.length aV,.slice aW aw.length aX] 36 (0,0)) (kM af.out) k_ hn_))⟩)) (below_size (bG HB.out)));replace aa := aK (blk_below (kM aa.out) hb);replace af := aK (blk_below (kM af.out) hb);replace HB := aK (below_step (bG HB.out) hb);(try clear hb);(try clear hk);(try clear a9);(try clear ba))|((with_reducible refine gate_dst (N := 16) rfl ?_);refine box_event ?hg (N := 16) ?hd (cs := #[.string (⟨#[]⟩ : ByteArray),.slice none 0 0,.slice none 0 0]) (t := 36) ?hr ?_;(case hd => rfl);(case hg => rfl);(case hr => first|(go_simp;done)|(go_simp;rfl));intro ay hg g2 hbox hb;replace bc := aK (Kd.V_below (Kd.V_elderB (vM bc.out) ay (Nat.le_of_eq hg.symm)) hb);replace bd := aK (Kd.V_below (Kd.V_elderB (vM bd.out) ay (Nat.le_of_eq hg.symm)) hb);have bT := aK (hbox);have bU := aK ((by rw [hg];exact (below_size (bG HB.out)) : w.heap.size ≤ ay));have ec := Ge.mk bU.out;have bV := aK ((by rw [hg];exact (below_size (bG HB.out)) : w.heap.size ≤ ay));have ed := Ge.mk bV.out;replace HB := aK (below_step (bG HB.out) hb);have aF := aK (nbL aa.out hg);have a2 := aK (nbR aa.out hg);have aG := aK (nbL af.out hg);have a3 := aK (nbR af.out hg);clear hb hbox hg;have e6 := a2.out;have e7 := aF.out;have e8 := a3.out;have e9 := aG.out;obtain ⟨_,_,_,_,_,_⟩ := bk3_ bT.out;obtain ⟨gf,gg,eg⟩ := Kd.V_slice bc.out;subst eg;obtain ⟨gh,gi,eh⟩ := Kd.V_slice bd.out;subst eh))
                    go_ret
                    exact ⟨by first|rfl|(simp [errW_none,errW_some] <;> rfl)|(simp [*,errW_none,errW_some] <;> rfl),bG HB.out⟩
                  ·rw [if_neg dD] at H
                   have d9 := decide_eq_false dD
                   clear dD
                   obtain rfl := Option.some.inj H
                   go_wp2
                   go_ret
                   exact ⟨by first|rfl|(simp [errW_none,errW_some] <;> rfl)|(simp [*,errW_none,errW_some] <;> rfl),bG HB.out⟩
 ·rw [if_neg c3] at H
  exact absurd H (by simp)
end Go.Proofs.YtobdkgoapcbipaaGreatDoor.J
