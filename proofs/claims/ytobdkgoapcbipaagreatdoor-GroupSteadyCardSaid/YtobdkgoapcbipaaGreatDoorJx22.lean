import Derived.Test.YtobdkgoapcbipaaGreatDoorJx0
import Derived.Test.YtobdkgoapcbipaaGreatDoorJx6
import Derived.Test.YtobdkgoapcbipaaGreatDoorJx7
import Derived.Test.YtobdkgoapcbipaaGreatDoorJx8
import Derived.Test.YtobdkgoapcbipaaGreatDoorJx9
import Derived.Test.YtobdkgoapcbipaaGreatDoorJx10
import Derived.Test.YtobdkgoapcbipaaGreatDoorJx11
import Derived.Test.YtobdkgoapcbipaaGreatDoorJx16
import Derived.Test.YtobdkgoapcbipaaGreatDoorJx21
namespace Go.Proofs.YtobdkgoapcbipaaGreatDoor.J
open Go.RowKit Go.Proofs.YtobdkgoapcbipaaGreatDoorW.PrintWords Go.Proofs.YtobdkgoapcbipaaGreatDoorW.PrintLast Go.Proofs.YtobdkgoapcbipaaGreatDoorW.PrintMore
attribute [local go_sem] max2_int min2_int max_two min_two max_three min_three max_four min_four
set_option linter.unusedVariables false
set_option linter.unusedSimpArgs false

/-! ### l43_GroupSteady: function 7 -/
mutual
def l43_GroupSteady.j0 : Nat → List (S36) → Bool → ByteArray → List Int → List ByteArray → Option (Bool)
|0,_,_,_,_,_ => none
|k + 1,x0,ae,aa,ab,ac => if ae = true then (some true) else ((group_Set.f k x0 aa ab ac).bind fun ad => (if ad.2 = 0 then (l43_GroupSteady.l0 k x0 ad.1 0 0 aa ab ac) else (some ((ad.1.length : Int) == 0))))
def l43_GroupSteady.l0 : Nat → List (S36) → List (S36) → Int → Int → ByteArray → List Int → List ByteArray → Option (Bool)
|0,_,_,_,_,_,_,_ => none
|k + 1,x0,x5,x7,x8,aa,ab,ac => if x8 < (x5.length : Int) then (if 0 ≤ x8 then (if ((rd_T36 x5 x8).f0).toList = aa.toList then ((r43_SameGroup.f k ((rd_T36 x5 x8).f0) ((rd_T36 x5 x8).f1) ((rd_T36 x5 x8).f2) aa ab ac).bind fun ad => (if ad = true then (l43_GroupSteady.l0 k x0 x5 (wrap64 (x7 + 1)) (wrap64 (x8 + 1)) aa ab ac) else (some false))) else ((l43_contains.f k x5 ((rd_T36 x5 x8).f0) aa 7).bind fun ae => (if ae = true then (l43_GroupSteady.l0 k x0 x5 x7 (wrap64 (x8 + 1)) aa ab ac) else ((group_Users.f k x5 ((rd_T36 x5 x8).f0)).bind fun af => ((group_Users.f k x0 ((rd_T36 x5 x8).f0)).bind fun ag => ((r05_Same.f k af ag).bind fun ah => (if ah = true then (l43_GroupSteady.l0 k x0 x5 x7 (wrap64 (x8 + 1)) aa ab ac) else (some false)))))))) else (none)) else (if x7 = 1 then ((group_Right.f k x5).bind fun ai => (l43_GroupSteady.j2 k x0 x5 (ai != 0) aa ab ac)) else (l43_GroupSteady.j2 k x0 x5 true aa ab ac))
def l43_GroupSteady.j2 : Nat → List (S36) → List (S36) → Bool → ByteArray → List Int → List ByteArray → Option (Bool)
|0,_,_,_,_,_,_ => none
|k + 1,x0,x5,ae,aa,ac,ad => if ae = true then (some false) else (if (x5.length : Int) = (x0.length : Int) then (some true) else ((group_Drop.f k x5 aa).bind fun ab => (if ab.2 = 0 then ((r43_Same.f k ab.1 x0).bind fun af => (some af)) else (some false))))
end
def l43_GroupSteady.f (k : Nat) (l0 : List (S36)) (aa : ByteArray) (ab : List Int) (ac : List ByteArray) : Option (Bool) := (l43_alive.f k).bind fun ad => (if ad = true then ((l43_few.f k l0).bind fun ae => (if ae = true then (if (l0.length : Int) > 6 then (l43_GroupSteady.j0 k l0 true aa ab ac) else ((l43_few.f k (([(⟨aa, ab, ac⟩ : S36)] : List (S36)))).bind fun af => (if af = true then ((r43_Right.f k l0).bind fun ag => (l43_GroupSteady.j0 k l0 (ag != 0) aa ab ac)) else (l43_GroupSteady.j0 k l0 true aa ab ac)))) else (l43_GroupSteady.j0 k l0 true aa ab ac))) else (some false))
theorem l43_GroupSteady.mono_l : ∀ k, (∀ y0 y1 y2 y3 y4, LeO (l43_GroupSteady.j0 k y0 y1 y2 y3 y4) (l43_GroupSteady.j0 (k + 1) y0 y1 y2 y3 y4)) ∧ (∀ y0 y1 y2 y3 y4 y5 y6, LeO (l43_GroupSteady.l0 k y0 y1 y2 y3 y4 y5 y6) (l43_GroupSteady.l0 (k + 1) y0 y1 y2 y3 y4 y5 y6)) ∧ (∀ y0 y1 y2 y3 y4 y5, LeO (l43_GroupSteady.j2 k y0 y1 y2 y3 y4 y5) (l43_GroupSteady.j2 (k + 1) y0 y1 y2 y3 y4 y5))
|0 => ⟨fun _ _ _ _ _ r h => by simp [l43_GroupSteady.j0] at h,fun _ _ _ _ _ _ _ r h => by simp [l43_GroupSteady.l0] at h,fun _ _ _ _ _ _ r h => by simp [l43_GroupSteady.j2] at h⟩
|k + 1 => by
  obtain ⟨ih0,ih1,ih2⟩ := l43_GroupSteady.mono_l k
  refine ⟨?_,?_,?_⟩
  ·intro y0 y1 y2 y3 y4
   unfold l43_GroupSteady.j0
   repeat' (with_reducible first|exact ih1 _ _ _ _ _ _ _|exact group_Set.mono _ _ _ _ _|exact LeO.refl _|exact LeO.none _|refine LeO.ite ?_ ?_|refine LeO.bind ?_ (fun _ => ?_))
  ·intro y0 y1 y2 y3 y4 y5 y6
   unfold l43_GroupSteady.l0
   repeat' (with_reducible first|exact ih1 _ _ _ _ _ _ _|exact ih2 _ _ _ _ _ _|exact l43_contains.mono _ _ _ _ _|exact r05_Same.mono _ _ _|exact r43_SameGroup.mono _ _ _ _ _ _ _|exact group_Right.mono _ _|exact group_Users.mono _ _ _|exact LeO.refl _|exact LeO.none _|refine LeO.ite ?_ ?_|refine LeO.bind ?_ (fun _ => ?_))
  ·intro y0 y1 y2 y3 y4 y5
   unfold l43_GroupSteady.j2
   repeat' (with_reducible first|exact r43_Same.mono _ _ _|exact group_Drop.mono _ _ _|exact LeO.refl _|exact LeO.none _|refine LeO.ite ?_ ?_|refine LeO.bind ?_ (fun _ => ?_))
theorem l43_GroupSteady.mono : ∀ a0 a1 a2 a3 k, LeO (l43_GroupSteady.f k a0 a1 a2 a3) (l43_GroupSteady.f (k + 1) a0 a1 a2 a3) := by
 intro a0 a1 a2 a3 k
 obtain ⟨ih0,ih1,ih2⟩ := l43_GroupSteady.mono_l k
 unfold l43_GroupSteady.f
 repeat' (with_reducible first|exact ih0 _ _ _ _ _|exact ih1 _ _ _ _ _ _ _|exact ih2 _ _ _ _ _ _|exact l43_alive.mono _|exact l43_contains.mono _ _ _ _ _|exact l43_few.mono _ _|exact r05_Same.mono _ _ _|exact r43_Right.mono _ _|exact r43_Same.mono _ _ _|exact r43_SameGroup.mono _ _ _ _ _ _ _|exact group_Drop.mono _ _ _|exact group_Right.mono _ _|exact group_Set.mono _ _ _ _ _|exact group_Users.mono _ _ _|exact LeO.refl _|exact LeO.none _|refine LeO.ite ?_ ?_|refine LeO.bind ?_ (fun _ => ?_))
def l43_GroupSteady.T12 : Bool × List (List Nat × List Nat) := (true, [([], []), ([], []), ([0, 1], [0, 1]), ([2], [2]), ([3], [3]), ([], []), ([5], [5]), ([4, 6], [4, 6])])
def l43_GroupSteady.B12 : List Nat := [0, 0, 3, 7, 15, 0, 32, 127]
theorem l43_GroupSteady.tab12 : rtab .any (opsOf Tryz.f7 12) = l43_GroupSteady.T12 := by kernel_rfl
theorem l43_GroupSteady.bits12 : waitsOk l43_GroupSteady.T12.2 l43_GroupSteady.B12 = true := by kernel_rfl
def l43_GroupSteady.T16 : Bool × List (List Nat × List Nat) := (true, [([], []), ([], []), ([], []), ([1, 2], [1, 2]), ([3], [3]), ([4], [4]), ([], []), ([6], [6]), ([0, 5, 7], [0, 5, 7]), ([8], [8]), ([9, 8], [9]), ([10], [10]), ([10], [10]), ([10], [10]), ([12, 13, 10], [10, 12, 13]), ([14, 10], [10, 14]), ([15, 10], [10, 15]), ([11, 16, 10, 10], [10, 11, 16]), ([10], [10]), ([10], [10]), ([10], [10]), ([19, 20, 10], [10, 19, 20]), ([21, 10], [10, 21]), ([22, 10], [10, 22]), ([18, 23, 17, 10], [10, 18, 23]), ([17, 24, 24, 10], [10, 17, 24]), ([25, 10], [10, 25]), ([10, 26], [10, 26])])
def l43_GroupSteady.B16 : List Nat := [0, 0, 0, 6, 14, 30, 0, 64, 255, 511, 1023, 2047, 2047, 2047, 14335, 30719, 63487, 131071, 2047, 2047, 2047, 1574911, 3672063, 7866367, 16777215, 33554431, 67108863, 134217727]
theorem l43_GroupSteady.tab16 : rtab .any (opsOf Tryz.f7 16) = l43_GroupSteady.T16 := by kernel_rfl
theorem l43_GroupSteady.bits16 : waitsOk l43_GroupSteady.T16.2 l43_GroupSteady.B16 = true := by kernel_rfl
set_option maxHeartbeats 4000000 in
set_option maxRecDepth 100000 in
theorem l43_GroupSteady.calls (k : Nat) (bN : Nat → Prop) (A0 : Option Addr) (c0 : Nat) (l0 : List (S36)) (av : ByteArray) (ar : Nat → Prop) (aY : Option Addr) (aZ : Nat) (aw : List Int) (au : Nat → Prop) (a0 : Option Addr) (a1 : Nat) (ax : List ByteArray) (r : Bool) (w : World) (gF : Kd.V k36 36 w w.heap.size (fun k_ => bN k_) (.slice A0 l0.length c0) l0) (fe : Kd.V (Kd.int .i64) 3 w w.heap.size (fun k_ => ar k_) (.slice aY aw.length aZ) aw) (ff : Kd.V Kd.string 9 w w.heap.size (fun k_ => au k_) (.slice a0 ax.length a1) ax) (h : l43_GroupSteady.f k l0 av aw ax = some r) :
  Calls Tryz.prog 7 #[.slice A0 l0.length c0,.agg #[.string av,.slice aY aw.length aZ,.slice a0 ax.length a1]] w fun e w' => e = .returned (.bool r) ∧ Below w.heap.size w w' := by
 have gG := Tryz.underlying36
 have cI := aK (show Kd.V k36 36 w w.heap.size (fun k_ => ((bN k_ ∨ ar k_ ∨ au k_) ∨ w.heap.size ≤ k_)) (.slice A0 l0.length c0) l0 from Kd.V_mono gF (fun k_ hk => .inl (.inl hk)))
 have a8 := aK (show Kd.V (Kd.int .i64) 3 w w.heap.size (fun k_ => ((bN k_ ∨ ar k_ ∨ au k_) ∨ w.heap.size ≤ k_)) (.slice aY aw.length aZ) aw from Kd.V_mono fe (fun k_ hk => .inl (.inr (.inl hk))))
 have a9 := aK (show Kd.V Kd.string 9 w w.heap.size (fun k_ => ((bN k_ ∨ ar k_ ∨ au k_) ∨ w.heap.size ≤ k_)) (.slice a0 ax.length a1) ax from Kd.V_mono ff (fun k_ hk => .inl (.inr (.inr hk))))
 have HB := aK (Below.refl w.heap.size w)
 unfold l43_GroupSteady.f at h
 have H := h
 clear h
 replace H := Option.bind_eq_some_iff.mp H
 obtain ⟨fQ,gu,H⟩ := H
 have A3 := aK gu
 clear gu
 by_cases c4 : fQ = true
 ·subst c4
  rw [if_pos rfl] at H
  have fR := aK H
  clear H
  go_enter Tryz.func7,Tryz.ntmps7
  go_upto_region 3 with (first|((with_reducible refine gate_dst (N := 3) rfl ?_);(try (refine gate_guard (by rfl) ?_;dsimp only));refine box_event ?hg (N := 3) ?hd (cs := #[.string av,.slice aY aw.length aZ,.slice a0 ax.length a1]) (t := 36) ?hr ?_;(case hd => rfl);(case hg => rfl);(case hr => first|(go_simp;done)|(go_simp;rfl));intro ah hg w6 hbox hb;replace cI := aK (Kd.V_below (Kd.V_elderB (vM cI.out) ah (Nat.le_of_eq hg.symm)) hb);replace a8 := aK (Kd.V_below (Kd.V_elderB (vM a8.out) ah (Nat.le_of_eq hg.symm)) hb);replace a9 := aK (Kd.V_below (Kd.V_elderB (vM a9.out) ah (Nat.le_of_eq hg.symm)) hb);have ac := aK (hbox);have d1 := aK ((by rw [hg];exact (below_size (bM HB.out)) : w.heap.size ≤ ah));have fg := Ge.mk d1.out;have d2 := aK ((by rw [hg];exact (below_size (bM HB.out)) : w.heap.size ≤ ah));have fh := Ge.mk d2.out;replace HB := aK (below_step (bM HB.out) hb);clear hb hbox hg)|((with_reducible refine gate_callee (f := 9) rfl ?_);refine gL 11 Tryz.func9 #[] ?_;(with_reducible refine (l43_alive.calls k  true _ A3.out).mono ?_);rintro e w7 ⟨rfl,hb⟩;refine ⟨_,rfl,?_⟩;replace cI := aK (Kd.V_below (vM cI.out) hb);replace a8 := aK (Kd.V_below (vM a8.out) hb);replace a9 := aK (Kd.V_below (vM a9.out) hb);replace ac := aK (blk_below (kM ac.out) hb);replace HB := aK (below_step (bG HB.out) hb);(try clear hb);(try clear hk)))
  (try simp only [Act.put,z1_,z2_,z3_])
  go_cut [31] (fun gH wc => ∃ (kq : Nat) (dO : Bool),gH = .bool dO ∧ Aside0 (l43_GroupSteady.j0 kq l0 dO av aw ax = some r) ∧ Aside0 (kq ≤ k) ∧ Aside0 (Kd.V k36 36 wc w.heap.size (fun k_ => ((bN k_ ∨ ar k_ ∨ au k_) ∨ w.heap.size ≤ k_) ∧ k_ ≠ ah) (.slice A0 l0.length c0) l0) ∧ Aside0 (Kd.V (Kd.int .i64) 3 wc w.heap.size (fun k_ => ((bN k_ ∨ ar k_ ∨ au k_) ∨ w.heap.size ≤ k_) ∧ k_ ≠ ah) (.slice aY aw.length aZ) aw) ∧ Aside0 (Kd.V Kd.string 9 wc w.heap.size (fun k_ => ((bN k_ ∨ ar k_ ∨ au k_) ∨ w.heap.size ≤ k_) ∧ k_ ≠ ah) (.slice a0 ax.length a1) ax) ∧ Aside0 (wc.heap[ah]? = some (.cells #[.string av,(.slice aY aw.length aZ),(.slice a0 ax.length a1)] 36 (0,0))) ∧ Aside0 (Below w.heap.size w wc))
  case first =>
   have H := fR.out
   clear fR
   replace H := Option.bind_eq_some_iff.mp H
   obtain ⟨fS,gv,H⟩ := H
   have A8 := aK gv
   clear gv
   by_cases c9 : fS = true
   ·subst c9
    rw [if_pos rfl] at H
    by_cases c10 : (l0.length : Int) > 6
    ·rw [if_pos c10] at H
     have dr := decide_eq_true c10
     have d3 : decide (6 < l0.length) = true := decide_eq_true (by omega)
     clear c10
     (first|rw [dr]|(simp only [i64_w,i32_w];rw [dr])|rw [d3]|skip)
     have H' := aK H
     clear H
     go_wp2_with (first|((with_reducible refine gate_callee (f := 10) rfl ?_);refine gL 14 Tryz.func10 #[.slice A0 l0.length c0] ?_;(with_reducible refine (l43_few.calls k _ _ l0 true _ ?an ?ao A8.out).mono ?_);(case an => exact cM (Kd.V_reads' cI.out).2.2);(case ao => exact (Kd.V_reads' cI.out).2.1);rintro e w' ⟨rfl,⟨nd,rfl⟩⟩;refine ⟨_,rfl,?_⟩))
     go_meet
     case rel => exact ⟨_,(true),(by first|rfl|(simp;done)|(simp [*];done)),H',⟨by first|omega|exact Nat.le_refl _⟩,⟨vM cI.out⟩,⟨vM a8.out⟩,⟨vM a9.out⟩,⟨kM ac.out⟩,⟨bG HB.out⟩⟩
    ·rw [if_neg c10] at H
     have dr := decide_eq_false c10
     have d3 : decide (6 < l0.length) = false := decide_eq_false (by omega)
     clear c10
     (first|rw [dr]|(simp only [i64_w,i32_w];rw [dr])|rw [d3]|skip)
     obtain ⟨eV,dt⟩ : ∃ y_ : List (S36),y_ = (([(⟨av,aw,ax⟩ : S36)] : List (S36))) := ⟨_,rfl⟩
     replace H : ((l43_few.f k eV).bind fun eW => (if eW = true then ((r43_Right.f k l0).bind fun em => (l43_GroupSteady.j0 k l0 (em != 0) av aw ax)) else (l43_GroupSteady.j0 k l0 true av aw ax))) = some r := by first|(rw [dt];with_reducible exact H)|(have fT := (Option.bind_some _ _).symm.trans H;rw [dt];with_reducible exact fT)|(have fT := (Option.bind_some _ _).symm.trans H;with_reducible exact fT)|with_reducible exact H|(rw [dt];exact H)|exact H
     have dP := aK dt
     clear dt
     replace H := Option.bind_eq_some_iff.mp H
     obtain ⟨eW,fi,H⟩ := H
     have gw := aK fi
     clear fi
     by_cases fL : eW = true
     ·subst fL
      rw [if_pos rfl] at H
      replace H := Option.bind_eq_some_iff.mp H
      obtain ⟨em,fj,H⟩ := H
      have gI := aK fj
      clear fj
      have H' := aK H
      clear H
      go_wp2_with (first|((with_reducible refine gate_callee (f := 10) rfl ?_);refine gL 14 Tryz.func10 #[.slice A0 l0.length c0] ?_;(with_reducible refine (l43_few.calls k _ _ l0 true _ ?an ?ao A8.out).mono ?_);(case an => exact cM (Kd.V_reads' cI.out).2.2);(case ao => exact (Kd.V_reads' cI.out).2.1);rintro e w' ⟨rfl,⟨nd,rfl⟩⟩;refine ⟨_,rfl,?_⟩;obtain ⟨_,_,_,_,_,_⟩ := bk3_ ac.out)|((with_reducible refine gate_dst (N := 23) rfl ?_);(try (refine gate_guard (by rfl) ?_;dsimp only));refine Kd.N_lit k36 _ 36 ?hg (N' := 23) ?hd (xs := ([(⟨av,aw,ax⟩ : S36)] : List (S36))) (inner := [.string av,.slice aY aw.length aZ,.slice a0 ax.length a1]) (ok := (fun k_ => ((bN k_ ∨ ar k_ ∨ au k_) ∨ w.heap.size ≤ k_) ∧ k_ ≠ ah)) (okp := (fun k_ => ((bN k_ ∨ ar k_ ∨ au k_) ∨ w.heap.size ≤ k_) ∧ k_ ≠ ah)) ?hr ?hp (fun _ hk => hk) ((show ∀ k_,w7.heap.size ≤ k_ → (fun k_ => ((bN k_ ∨ ar k_ ∨ au k_) ∨ w.heap.size ≤ k_) ∧ k_ ≠ ah) k_ from fun k_ hk => ⟨(.inr (Nat.le_trans (below_size (bG HB.out)) hk)),Kd.freshB (g := ah) (o := .cells #[.string av,.slice aY aw.length aZ,.slice a0 ax.length a1] 36 (0,0)) (kM ac.out) k_ hk⟩) _ (Nat.le_refl _)) (Below.refl _ _) (Nat.le_refl _) (by simp) ?_;(case hd => rfl);(case hg => rfl);(case hr => first|(go_simp;done)|(go_simp;rfl));(case hp => exact (Reps.c3 (show Kd.FK k36 _ _ (⟨av,aw,ax⟩ : S36) [.string av,.slice aY aw.length aZ,.slice a0 ax.length a1] from (k36_mkF _ _ (⟨av,aw,ax⟩ : S36) (Kd.V_reads' (Kd.V_mono (ok' := (fun k_ => ((bN k_ ∨ ar k_ ∨ au k_) ∨ w.heap.size ≤ k_) ∧ k_ ≠ ah)) (a8.out) (fun k_ hk => ⟨hk.1,hk.2⟩))).2.1 (Kd.V_F (Kd.V_mono (ok' := (fun k_ => ((bN k_ ∨ ar k_ ∨ au k_) ∨ w.heap.size ≤ k_) ∧ k_ ≠ ah)) (a8.out) (fun k_ hk => ⟨hk.1,hk.2⟩))) (Kd.V_reads' (Kd.V_mono (ok' := (fun k_ => ((bN k_ ∨ ar k_ ∨ au k_) ∨ w.heap.size ≤ k_) ∧ k_ ≠ ah)) (a9.out) (fun k_ hk => ⟨hk.1,hk.2⟩))).2.1 (Kd.V_F (Kd.V_mono (ok' := (fun k_ => ((bN k_ ∨ ar k_ ∨ au k_) ∨ w.heap.size ≤ k_) ∧ k_ ≠ ah)) (a9.out) (fun k_ hk => ⟨hk.1,hk.2⟩))))) (Reps.none _ _)));intro fU g2 du hb hg_ hnew_;clear hg_ hnew_;(first|rw [← dP.out] at du|(simp only [Int.reduceToNat] at du;rw [← dP.out] at du));replace cI := aK (Kd.V_elder' (vM cI.out) (Kd.N_base du) hb);replace a8 := aK (Kd.V_elder' (vM a8.out) (Kd.N_base du) hb);replace a9 := aK (Kd.V_elder' (vM a9.out) (Kd.N_base du) hb);have ct := aK (Kd.N_lower du (below_size (bG HB.out)));replace ac := aK (blk_below (kM ac.out) hb);replace HB := aK (below_step (bG HB.out) hb);clear hb du;obtain ⟨gJ,gK,fV⟩ := Kd.N_slice ct.out;subst fV)|(go_at_call 10;(with_reducible refine (l43_few.calls k _ _ eV true _ ?an ?ao gw.out).mono ?_);(case an => exact cM (Kd.N_reads' ct.out).2.2);(case ao => exact (Kd.N_reads' ct.out).2.1);rintro e w' ⟨rfl,⟨nd,rfl⟩⟩)|(go_at_call 12;(with_reducible refine (r43_Right.calls k _ _ l0 em _ ?an ?ao gI.out).mono ?_);(case an => exact cM (Kd.V_reads' cI.out).2.2);(case ao => exact (Kd.V_reads' cI.out).2.1);rintro e g3 ⟨rfl,hb⟩;replace cI := aK (Kd.V_below (vM cI.out) hb);replace a8 := aK (Kd.V_below (vM a8.out) hb);replace a9 := aK (Kd.V_below (vM a9.out) hb);replace ct := aK (Kd.N_below (nM ct.out) hb);replace ac := aK (blk_below (kM ac.out) hb);replace HB := aK (below_step (bG HB.out) hb);(try clear hb);(try clear hk)))
      go_meet
      case rel => exact ⟨_,((em != 0)),(by first|rfl|(simp;done)|(simp [*];done)),H',⟨by first|omega|exact Nat.le_refl _⟩,⟨by (with_reducible repeat (first|apply Kd.V_alloc|apply Kd.V_drewN|apply Kd.V_drew));exact Kd.V_mono cI.out (fun _ hk => ⟨hk.1.1,hk.1.2⟩)⟩,⟨by (with_reducible repeat (first|apply Kd.V_alloc|apply Kd.V_drewN|apply Kd.V_drew));exact Kd.V_mono a8.out (fun _ hk => ⟨hk.1.1,hk.1.2⟩)⟩,⟨by (with_reducible repeat (first|apply Kd.V_alloc|apply Kd.V_drewN|apply Kd.V_drew));exact Kd.V_mono a9.out (fun _ hk => ⟨hk.1.1,hk.1.2⟩)⟩,⟨kM ac.out⟩,⟨bG HB.out⟩⟩
     ·replace fL := Bool.eq_false_iff.mpr fL
      subst fL
      rw [if_neg (show ¬ (false = true) by decide)] at H
      have H' := aK H
      clear H
      go_wp2_with (first|((with_reducible refine gate_callee (f := 10) rfl ?_);refine gL 14 Tryz.func10 #[.slice A0 l0.length c0] ?_;(with_reducible refine (l43_few.calls k _ _ l0 true _ ?an ?ao A8.out).mono ?_);(case an => exact cM (Kd.V_reads' cI.out).2.2);(case ao => exact (Kd.V_reads' cI.out).2.1);rintro e w' ⟨rfl,⟨nd,rfl⟩⟩;refine ⟨_,rfl,?_⟩;obtain ⟨_,_,_,_,_,_⟩ := bk3_ ac.out)|((with_reducible refine gate_dst (N := 23) rfl ?_);(try (refine gate_guard (by rfl) ?_;dsimp only));refine Kd.N_lit k36 _ 36 ?hg (N' := 23) ?hd (xs := ([(⟨av,aw,ax⟩ : S36)] : List (S36))) (inner := [.string av,.slice aY aw.length aZ,.slice a0 ax.length a1]) (ok := (fun k_ => ((bN k_ ∨ ar k_ ∨ au k_) ∨ w.heap.size ≤ k_) ∧ k_ ≠ ah)) (okp := (fun k_ => ((bN k_ ∨ ar k_ ∨ au k_) ∨ w.heap.size ≤ k_) ∧ k_ ≠ ah)) ?hr ?hp (fun _ hk => hk) ((show ∀ k_,w7.heap.size ≤ k_ → (fun k_ => ((bN k_ ∨ ar k_ ∨ au k_) ∨ w.heap.size ≤ k_) ∧ k_ ≠ ah) k_ from fun k_ hk => ⟨(.inr (Nat.le_trans (below_size (bG HB.out)) hk)),Kd.freshB (g := ah) (o := .cells #[.string av,.slice aY aw.length aZ,.slice a0 ax.length a1] 36 (0,0)) (kM ac.out) k_ hk⟩) _ (Nat.le_refl _)) (Below.refl _ _) (Nat.le_refl _) (by simp) ?_;(case hd => rfl);(case hg => rfl);(case hr => first|(go_simp;done)|(go_simp;rfl));(case hp => exact (Reps.c3 (show Kd.FK k36 _ _ (⟨av,aw,ax⟩ : S36) [.string av,.slice aY aw.length aZ,.slice a0 ax.length a1] from (k36_mkF _ _ (⟨av,aw,ax⟩ : S36) (Kd.V_reads' (Kd.V_mono (ok' := (fun k_ => ((bN k_ ∨ ar k_ ∨ au k_) ∨ w.heap.size ≤ k_) ∧ k_ ≠ ah)) (a8.out) (fun k_ hk => ⟨hk.1,hk.2⟩))).2.1 (Kd.V_F (Kd.V_mono (ok' := (fun k_ => ((bN k_ ∨ ar k_ ∨ au k_) ∨ w.heap.size ≤ k_) ∧ k_ ≠ ah)) (a8.out) (fun k_ hk => ⟨hk.1,hk.2⟩))) (Kd.V_reads' (Kd.V_mono (ok' := (fun k_ => ((bN k_ ∨ ar k_ ∨ au k_) ∨ w.heap.size ≤ k_) ∧ k_ ≠ ah)) (a9.out) (fun k_ hk => ⟨hk.1,hk.2⟩))).2.1 (Kd.V_F (Kd.V_mono (ok' := (fun k_ => ((bN k_ ∨ ar k_ ∨ au k_) ∨ w.heap.size ≤ k_) ∧ k_ ≠ ah)) (a9.out) (fun k_ hk => ⟨hk.1,hk.2⟩))))) (Reps.none _ _)));intro fU g4 dv hb hg_ hnew_;clear hg_ hnew_;(first|rw [← dP.out] at dv|(simp only [Int.reduceToNat] at dv;rw [← dP.out] at dv));replace cI := aK (Kd.V_elder' (vM cI.out) (Kd.N_base dv) hb);replace a8 := aK (Kd.V_elder' (vM a8.out) (Kd.N_base dv) hb);replace a9 := aK (Kd.V_elder' (vM a9.out) (Kd.N_base dv) hb);have ct := aK (Kd.N_lower dv (below_size (bG HB.out)));replace ac := aK (blk_below (kM ac.out) hb);replace HB := aK (below_step (bG HB.out) hb);clear hb dv;obtain ⟨gM,gN,fW⟩ := Kd.N_slice ct.out;subst fW)|(go_at_call 10;(with_reducible refine (l43_few.calls k _ _ eV false _ ?an ?ao gw.out).mono ?_);(case an => exact cM (Kd.N_reads' ct.out).2.2);(case ao => exact (Kd.N_reads' ct.out).2.1);rintro e w' ⟨rfl,⟨nd,rfl⟩⟩))
      go_meet
      case rel => exact ⟨_,(true),(by first|rfl|(simp;done)|(simp [*];done)),H',⟨by first|omega|exact Nat.le_refl _⟩,⟨by (with_reducible repeat (first|apply Kd.V_alloc|apply Kd.V_drewN|apply Kd.V_drew));exact Kd.V_mono cI.out (fun _ hk => ⟨hk.1.1,hk.1.2⟩)⟩,⟨by (with_reducible repeat (first|apply Kd.V_alloc|apply Kd.V_drewN|apply Kd.V_drew));exact Kd.V_mono a8.out (fun _ hk => ⟨hk.1.1,hk.1.2⟩)⟩,⟨by (with_reducible repeat (first|apply Kd.V_alloc|apply Kd.V_drewN|apply Kd.V_drew));exact Kd.V_mono a9.out (fun _ hk => ⟨hk.1.1,hk.1.2⟩)⟩,⟨kM ac.out⟩,⟨bG HB.out⟩⟩
   ·replace c9 := Bool.eq_false_iff.mpr c9
    subst c9
    rw [if_neg (show ¬ (false = true) by decide)] at H
    have H' := aK H
    clear H
    go_wp2_with (first|((with_reducible refine gate_callee (f := 10) rfl ?_);refine gL 14 Tryz.func10 #[.slice A0 l0.length c0] ?_;(with_reducible refine (l43_few.calls k _ _ l0 false _ ?an ?ao A8.out).mono ?_);(case an => exact cM (Kd.V_reads' cI.out).2.2);(case ao => exact (Kd.V_reads' cI.out).2.1);rintro e w' ⟨rfl,⟨nd,rfl⟩⟩;refine ⟨_,rfl,?_⟩))
    go_meet
    case rel => exact ⟨_,(true),(by first|rfl|(simp;done)|(simp [*];done)),H',⟨by first|omega|exact Nat.le_refl _⟩,⟨vM cI.out⟩,⟨vM a8.out⟩,⟨vM a9.out⟩,⟨kM ac.out⟩,⟨bG HB.out⟩⟩
  case rest =>
   clear fR
   try clear p2
   try clear c4
   obtain ⟨kq,dO,rfl,HA,eO,am,aa,ab,ac,HB⟩ := hcut
   cases kq with
  |zero => exact absurd HA.out (by simp [l43_GroupSteady.j0])
  |succ kj4 =>
    have H := HA.out
    clear HA
    simp only [l43_GroupSteady.j0] at H
    by_cases fk : dO = true
    ·subst fk
     rw [if_pos rfl] at H
     obtain rfl := Option.some.inj H
     go_wp2
     go_ret
     exact ⟨by first|rfl|(simp [errW_none,errW_some] <;> rfl)|(simp [*,errW_none,errW_some] <;> rfl),bG HB.out⟩
    ·replace fk := Bool.eq_false_iff.mpr fk
     subst fk
     rw [if_neg (show ¬ (false = true) by decide)] at H
     replace H := Option.bind_eq_some_iff.mp H
     obtain ⟨⟨ae,en⟩,fl,H⟩ := H
     replace H : (if en = 0 then (l43_GroupSteady.l0 kj4 l0 ae 0 0 av aw ax) else (some ((ae.length : Int) == 0))) = some r := H
     have gx := aK fl
     clear fl
     by_cases eP : en = 0
     ·rw [if_pos eP] at H
      have eQ := beq_iff_eq.mpr eP
      have eR := bne_eq_false_iff_eq.mpr eP
      clear eP
      have H' := aK H
      clear H
      obtain ⟨ep,er,es,et,eu,ev⟩ := bk3_ ac.out
      go_wp2_with (first|((with_reducible refine gate_callee (f := 23) rfl ?_);refine gL 35 Tryz.func23 #[.slice A0 l0.length c0,.agg #[.string av,.slice aY aw.length aZ,.slice a0 ax.length a1]] ?_;(with_reducible refine (group_Set.calls kj4 (fun k_ => (((bN k_ ∨ ar k_ ∨ au k_) ∨ w.heap.size ≤ k_) ∧ k_ ≠ ah)) _ _ l0 av (fun k_ => (((bN k_ ∨ ar k_ ∨ au k_) ∨ w.heap.size ≤ k_) ∧ k_ ≠ ah)) _ _ aw (fun k_ => (((bN k_ ∨ ar k_ ∨ au k_) ∨ w.heap.size ≤ k_) ∧ k_ ≠ ah)) _ _ ax ae en _ ?an ?ao ?bL gx.out).mono ?_);(case an => exact am.out);(case ao => exact aa.out);(case bL => exact ab.out);rintro e g5 ⟨d4,rfl,aO,hb⟩;refine ⟨_,rfl,?_⟩;replace am := aK (Kd.V_elder' (vM am.out) (Kd.N_base aO) hb);replace aa := aK (Kd.V_elder' (vM aa.out) (Kd.N_base aO) hb);replace ab := aK (Kd.V_elder' (vM ab.out) (Kd.N_base aO) hb);have d5 := aK (Kd.N_lower (Kd.N_mono (ok' := fun k_ => ((bN k_ ∨ ar k_ ∨ au k_) ∨ w.heap.size ≤ k_) ∧ k_ ≠ ah) aO (fun k_ hk_ => ⟨Or.elim hk_ (fun hs_ => Or.elim hs_ (fun hs_ => hs_.1) (fun hs_ => Or.elim hs_ (fun hs_ => hs_.1) (fun hs_ => hs_.1))) (fun hn_ => (.inr (Nat.le_trans (below_size (bG HB.out)) hn_))),Or.elim hk_ (fun hs_ => Or.elim hs_ (fun hs_ => hs_.2) (fun hs_ => Or.elim hs_ (fun hs_ => hs_.2) (fun hs_ => hs_.2))) (fun hn_ => (Kd.freshB (g := ah) (o := .cells #[.string av,.slice aY aw.length aZ,.slice a0 ax.length a1] 36 (0,0)) (kM ac.out) k_ hn_))⟩)) (below_size (bG HB.out)));replace ac := aK (blk_below (kM ac.out) hb);replace HB := aK (below_step (bG HB.out) hb);(try clear hb);(try clear hk);(try clear aO)))
      go_loopg [7,8] kj4 (fun kq v7 v8 w' => ∃ (dy : Int) (ad : Int),v7 = .int .i64 dy ∧ v8 = .int .i64 ad ∧ Aside0 (l43_GroupSteady.l0 kq l0 ae dy ad av aw ax = some r) ∧ Aside0 (kq ≤ kj4) ∧ Aside0 (Kd.V k36 36 w' w.heap.size (fun k_ => ((bN k_ ∨ ar k_ ∨ au k_) ∨ w.heap.size ≤ k_) ∧ some k_ ≠ (d4 : Value).ownBlock ∧ k_ ≠ ah) (.slice A0 l0.length c0) l0) ∧ Aside0 (Kd.N k36 36 w' w.heap.size (fun k_ => ((bN k_ ∨ ar k_ ∨ au k_) ∨ w.heap.size ≤ k_) ∧ k_ ≠ ah) d4 ae) ∧ Aside0 (Kd.V (Kd.int .i64) 3 w' w.heap.size (fun k_ => ((bN k_ ∨ ar k_ ∨ au k_) ∨ w.heap.size ≤ k_) ∧ some k_ ≠ (d4 : Value).ownBlock ∧ k_ ≠ ah) (.slice aY aw.length aZ) aw) ∧ Aside0 (Kd.V Kd.string 9 w' w.heap.size (fun k_ => ((bN k_ ∨ ar k_ ∨ au k_) ∨ w.heap.size ≤ k_) ∧ some k_ ≠ (d4 : Value).ownBlock ∧ k_ ≠ ah) (.slice a0 ax.length a1) ax) ∧ Aside0 (w'.heap[ah]? = some (.cells #[.string av,(.slice aY aw.length aZ),(.slice a0 ax.length a1)] 36 (0,0))) ∧ Aside0 (Below w.heap.size w w'))
      case atStart => exact ⟨(0),(0),(by first|rfl|(simp;done)|(simp [*];done)),(by first|rfl|(simp;done)|(simp [*];done)),H',⟨Nat.le_refl _⟩,⟨by (with_reducible repeat (first|apply Kd.V_alloc|apply Kd.V_drewN|apply Kd.V_drew));exact Kd.V_mono am.out (fun _ hk => ⟨hk.1.1,⟨hk.2,hk.1.2⟩⟩)⟩,⟨nM d5.out⟩,⟨by (with_reducible repeat (first|apply Kd.V_alloc|apply Kd.V_drewN|apply Kd.V_drew));exact Kd.V_mono aa.out (fun _ hk => ⟨hk.1.1,⟨hk.2,hk.1.2⟩⟩)⟩,⟨by (with_reducible repeat (first|apply Kd.V_alloc|apply Kd.V_drewN|apply Kd.V_drew));exact Kd.V_mono ab.out (fun _ hk => ⟨hk.1.1,⟨hk.2,hk.1.2⟩⟩)⟩,⟨kM ac.out⟩,⟨bG HB.out⟩⟩
      case round =>
       clear H'
       try clear p2
       try clear fk
       try clear eP
       try clear eQ
       try clear eR
       try clear ep
       try clear er
       try clear es
       try clear et
       try clear eu
       try clear ev
       try clear p2
       obtain ⟨dy,ad,rfl,rfl,HA,eS,am,ag,aa,ab,ac,HB⟩ := hrel
       cases gk with
      |zero => exact absurd HA.out (by simp [l43_GroupSteady.l0])
      |succ k2 =>
        have H := HA.out
        clear HA
        simp only [l43_GroupSteady.l0] at H
        by_cases eX : ad < (ae.length : Int)
        ·rw [if_pos eX] at H
         have eT := decide_eq_true eX
         clear eX
         obtain ⟨gy,H⟩ := iS H
         have gz := decide_eq_true gy
         clear gy
         by_cases eY : ((rd_T36 ae ad).f0).toList = av.toList
         ·rw [if_pos eY] at H
          have fm := beq_iff_eq.mpr eY
          have fn := bne_eq_false_iff_eq.mpr eY
          clear eY
          replace H := Option.bind_eq_some_iff.mp H
          obtain ⟨fX,fo,H⟩ := H
          have gA := aK fo
          clear fo
          by_cases fM : fX = true
          ·subst fM
           rw [if_pos rfl] at H
           have H' := aK H
           clear H
           obtain ⟨gO,gP,fY⟩ := Kd.N_slice ag.out
           subst fY
           try go_wp2
           have bs := aK (Kd.V_drew am.out)
           have bu := aK (Kd.N_drew ag.out)
           have bv := aK (Kd.V_drew aa.out)
           have bx := aK (Kd.V_drew ab.out)
           have bz := aK (blk_drew ac.out)
           have bB := aK (below_drew1 HB.out)
           clear am
           clear ag
           clear aa
           clear ab
           clear ac
           clear HB
           have am := bs
           have ag := bu
           have aa := bv
           have ab := bx
           have ac := bz
           have HB := bB
           clear bs bu bv bx bz bB
           have bc : 0 ≤ (ad : Int) := dA
           have bd : ad < (ae.length : Int) := dA
           obtain ⟨af,bO,bP,bQ,bR,dl,aP,ay,az,aQ,aR,aS,aT⟩ := at_T36 (Kd.N_reads' ag.out).2.2 ad bc bd
           cases dl
           obtain ⟨dQ,bS,bT,aI⟩ := Kd.N_get ag.out z36 ad bc (by first|exact bd|exact dA|(have e_ := (Kd.N_reads' ag.out).1;omega))
           obtain ⟨cJ,cK,cL,cN,rfl,aA,aB,aC,aD⟩ := k36_openF bT
           have ap := aI 1 _ rfl
           rw [add_field _ _ 1 (by omega)] at ap
           replace ap := Option.some.inj (ap.symm.trans ay)
           injection ap with hva_ hvn_ hvc_
           rw [hva_] at aB
           rw [hvc_] at aA
           have ai := aK (show Kd.V (Kd.int .i64) 3 _ w.heap.size _ _ ((rd_T36 ae ad).f1) from Kd.V_mk aA aB)
           clear hva_ hvn_ hvc_ aB aA
           have aq := aI 2 _ rfl
           rw [add_field _ _ 2 (by omega)] at aq
           replace aq := Option.some.inj (aq.symm.trans az)
           injection aq with hva_ hvn_ hvc_
           rw [hva_] at aD
           rw [hvc_] at aC
           have aj := aK (show Kd.V Kd.string 9 _ w.heap.size _ _ ((rd_T36 ae ad).f2) from Kd.V_mk aC aD)
           clear hva_ hvn_ hvc_ aD aC
           clear aI bS
           have ak := aK aR
           have cO := aK aQ
           clear aR aQ
           have al := aK aT
           have cP := aK aS
           clear aT aS
           replace bc := eq_true bc
           replace bd := eq_true bd
           refine start_ (n := 8) (S := fun w' => w'.cell? ⟨ah,0,none⟩ = some (.string av) ∧ w'.cell? ⟨ah,1,none⟩ = some (.slice aY aw.length aZ) ∧ w'.cell? ⟨ah,2,none⟩ = some (.slice a0 ax.length a1) ∧ w'.cell? (af.add ((ad).toNat * 3)) = some (.string ((rd_T36 ae ad).f0)) ∧ w'.cell? ⟨(af.add ((ad).toNat * 3)).block,(af.add ((ad).toNat * 3)).off + 1,none⟩ = some (.slice bO ((rd_T36 ae ad).f1).length bP) ∧ w'.cell? ⟨(af.add ((ad).toNat * 3)).block,(af.add ((ad).toNat * 3)).off + 2,none⟩ = some (.slice bQ ((rd_T36 ae ad).f2).length bR)) (ds := []) (bA 8 0) (by kernel_rfl) rfl rfl ⟨(blk_cell ac.out 0).trans rfl,(blk_cell ac.out 1).trans rfl,(blk_cell ac.out 2).trans rfl,aP,ay,az⟩ (fun hHeld => ?_);refine with_tabW l43_GroupSteady.tab12 l43_GroupSteady.bits12 (fun HT_ HW_ => ?_)
           generalize wr.drew = w34 at am ag aa ab ac HB ai aj ak al aP ay az hHeld ⊢
           refine pure_ (i := 0) (N := some 49) (v := ?_) (a' := ?_) (bA 8 1) rfl rfl (any_of HT_.out (by kernel_rfl)) (fun _ _ _ h => h) (Or.inl ⟨by rfl,?_⟩) ?_ ?_
           rotate_left
           ·intro w'
            go_simp
            with_reducible rfl
           rotate_left
           ·simp only [Act.put,z1_,z2_,z3_,i64_w,i32_w]
            rfl
           refine pure_ (i := 1) (N := some 50) (v := ?_) (a' := ?_) (bA 8 3) rfl rfl (any_of HT_.out (by kernel_rfl)) (fun _ _ _ h => h) (Or.inl ⟨by rfl,?_⟩) ?_ ?_
           rotate_left
           ·intro w'
            go_simp
            with_reducible rfl
           rotate_left
           ·simp only [Act.put,z1_,z2_,z3_,i64_w,i32_w]
            rfl
           refine pure_ (i := 2) (N := some 51) (v := ?_) (a' := ?_) (bA 8 7) rfl rfl (any_of HT_.out (by kernel_rfl)) (fun _ _ _ h => h) (Or.inl ⟨by rfl,?_⟩) ?_ ?_
           rotate_left
           ·intro w'
            go_simp
            with_reducible rfl
           rotate_left
           ·simp only [Act.put,z1_,z2_,z3_,i64_w,i32_w]
            rfl
           refine pure_ (i := 3) (N := some 52) (v := ?_) (a' := ?_) (bA 8 15) rfl rfl (any_of HT_.out (by kernel_rfl)) (fun _ _ _ h => h) (Or.inl ⟨by rfl,?_⟩) ?_ ?_
           rotate_left
           ·intro w'
            go_simp
            with_reducible rfl
           rotate_left
           ·simp only [Act.put,z1_,z2_,z3_,i64_w,i32_w]
            rfl
           refine pure_ (i := 5) (N := some 54) (v := ?_) (a' := ?_) (bA 8 47) rfl rfl (any_of HT_.out (by kernel_rfl)) (fun _ _ _ h => h) (Or.inl ⟨by rfl,?_⟩) ?_ ?_
           rotate_left
           ·intro w'
            go_simp
            with_reducible rfl
           rotate_left
           ·simp only [Act.put,z1_,z2_,z3_,i64_w,i32_w]
            rfl
           refine take_ (i := 4) (N := some 53) (v := ?_) (a' := ?_) (bA 8 63) rfl rfl (take_ofW HT_.out HW_.out (by kernel_rfl)) (fun _ _ _ h => h) (Or.inl ⟨by rfl,?_⟩) hHeld ?_ ?_
           rotate_left
           ·rintro w' ⟨s0,s1,s2,s3,s4,s5⟩
            go_simp
            with_reducible rfl
           rotate_left
           ·simp only [Act.put,z1_,z2_,z3_,i64_w,i32_w]
            rfl
           refine take_ (i := 6) (N := some 55) (v := ?_) (a' := ?_) (bA 8 127) rfl rfl (take_ofW HT_.out HW_.out (by kernel_rfl)) (fun _ _ _ h => h) (Or.inl ⟨by rfl,?_⟩) hHeld ?_ ?_
           rotate_left
           ·rintro w' ⟨s0,s1,s2,s3,s4,s5⟩
            go_simp
            with_reducible rfl
           rotate_left
           ·simp only [Act.put,z1_,z2_,z3_,i64_w,i32_w]
            rfl
           refine pure_ (i := 7) (N := some 56) (v := ?_) (a' := ?_) (bA 8 255) rfl rfl (any_of HT_.out (by kernel_rfl)) (fun _ _ _ h => h) (Or.inl ⟨by rfl,?_⟩) ?_ ?_
           rotate_left
           ·intro w'
            go_simp
            with_reducible rfl
           rotate_left
           ·simp only [Act.put,z1_,z2_,z3_,i64_w,i32_w]
            rfl
           refine done_ (done_of HT_.out (by kernel_rfl)) ?_
           try go_wp2
           have bs := aK (Kd.V_drew am.out)
           have bu := aK (Kd.N_drew ag.out)
           have bv := aK (Kd.V_drew aa.out)
           have bx := aK (Kd.V_drew ab.out)
           have bz := aK (Kd.V_drew ai.out)
           have bB := aK (Kd.V_drew aj.out)
           have cf := aK (blk_drew ac.out)
           have cg := aK (Kd.C_drew ak.out)
           have ch := aK (Kd.C_drew al.out)
           have ci := aK (below_drew1 HB.out)
           clear am
           clear ag
           clear aa
           clear ab
           clear ai
           clear aj
           clear ac
           clear ak
           clear al
           clear HB
           have am := bs
           have ag := bu
           have aa := bv
           have ab := bx
           have ai := bz
           have aj := bB
           have ac := cf
           have ak := cg
           have al := ch
           have HB := ci
           clear bs bu bv bx bz bB cf cg ch ci
           have dm : 0 ≤ (ad : Int) := dA
           have dn : ad < (ae.length : Int) := dA
           obtain ⟨d6,cR,cS,cT,cU,eZ,cu,bU,bV,cv,cw,cx,cy⟩ := at_T36 (Kd.N_reads' ag.out).2.2 ad dm dn
           obtain rfl : af = d6 := (by injection eZ)
           obtain ⟨fp,dz,dB,cj⟩ := Kd.N_get ag.out z36 ad dm (by first|exact dn|exact dA|(have e_ := (Kd.N_reads' ag.out).1;omega))
           obtain ⟨ew,ex,ey,ez,rfl,bW,bX,bY,bZ⟩ := k36_openF dB
           have be := cj 1 _ rfl
           rw [add_field _ _ 1 (by omega)] at be
           replace be := Option.some.inj (be.symm.trans bU)
           injection be with hva_ hvn_ hvc_
           rw [hva_] at bX
           rw [hvc_] at bW
           have bf := aK (show Kd.V (Kd.int .i64) 3 _ w.heap.size _ _ ((rd_T36 ae ad).f1) from Kd.V_mk bW bX)
           clear hva_ hvn_ hvc_ bX bW
           have bg := cj 2 _ rfl
           rw [add_field _ _ 2 (by omega)] at bg
           replace bg := Option.some.inj (bg.symm.trans bV)
           injection bg with hva_ hvn_ hvc_
           rw [hva_] at bZ
           rw [hvc_] at bY
           have bh := aK (show Kd.V Kd.string 9 _ w.heap.size _ _ ((rd_T36 ae ad).f2) from Kd.V_mk bY bZ)
           clear hva_ hvn_ hvc_ bZ bY
           clear cj dz
           have a2 := aK cw
           have dp := aK cv
           clear cw cv
           have a3 := aK cy
           have dq := aK cx
           clear cy cx
           replace dm := eq_true dm
           replace dn := eq_true dn
           refine start_ (n := 7) (S := fun w' => w'.cell? ⟨ah,0,none⟩ = some (.string av) ∧ w'.cell? ⟨ah,1,none⟩ = some (.slice aY aw.length aZ) ∧ w'.cell? ⟨ah,2,none⟩ = some (.slice a0 ax.length a1) ∧ w'.cell? (af.add ((ad).toNat * 3)) = some (.string ((rd_T36 ae ad).f0)) ∧ w'.cell? ⟨(af.add ((ad).toNat * 3)).block,(af.add ((ad).toNat * 3)).off + 1,none⟩ = some (.slice cR ((rd_T36 ae ad).f1).length cS) ∧ w'.cell? ⟨(af.add ((ad).toNat * 3)).block,(af.add ((ad).toNat * 3)).off + 2,none⟩ = some (.slice cT ((rd_T36 ae ad).f2).length cU)) (ds := []) (bA 7 0) (by kernel_rfl) rfl rfl ⟨(blk_cell ac.out 0).trans rfl,(blk_cell ac.out 1).trans rfl,(blk_cell ac.out 2).trans rfl,cu,bU,bV⟩ (fun hHeld => ?_)
           generalize w34.drew = w35 at am ag aa ab ai aj ac ak al HB bf bh a2 a3 cu bU bV hHeld ⊢
           refine pure_ (i := 0) (N := some 59) (v := ?_) (a' := ?_) (bA 7 1) rfl rfl (by kernel_rfl) (fun _ _ _ h => h) (Or.inl ⟨by rfl,?_⟩) ?_ ?_
           rotate_left
           ·intro w'
            go_simp
            with_reducible rfl
           rotate_left
           ·simp only [Act.put,z1_,z2_,z3_,i64_w,i32_w]
            rfl
           refine pure_ (i := 1) (N := some 60) (v := ?_) (a' := ?_) (bA 7 3) rfl rfl (by kernel_rfl) (fun _ _ _ h => h) (Or.inl ⟨by rfl,?_⟩) ?_ ?_
           rotate_left
           ·intro w'
            go_simp
            with_reducible rfl
           rotate_left
           ·simp only [Act.put,z1_,z2_,z3_,i64_w,i32_w]
            rfl
           refine pure_ (i := 2) (N := some 61) (v := ?_) (a' := ?_) (bA 7 7) rfl rfl (by kernel_rfl) (fun _ _ _ h => h) (Or.inl ⟨by rfl,?_⟩) ?_ ?_
           rotate_left
           ·intro w'
            go_simp
            with_reducible rfl
           rotate_left
           ·simp only [Act.put,z1_,z2_,z3_,i64_w,i32_w]
            rfl
           refine take_ (i := 3) (N := some 62) (v := ?_) (a' := ?_) (bA 7 15) rfl rfl (by kernel_rfl) (fun _ _ _ h => h) (Or.inl ⟨by rfl,?_⟩) hHeld ?_ ?_
           rotate_left
           ·rintro w' ⟨s0,s1,s2,s3,s4,s5⟩
            go_simp
            with_reducible rfl
           rotate_left
           ·simp only [Act.put,z1_,z2_,z3_,i64_w,i32_w]
            rfl
           refine take_ (i := 4) (N := some 63) (v := ?_) (a' := ?_) (bA 7 31) rfl rfl (by kernel_rfl) (fun _ _ _ h => h) (Or.inl ⟨by rfl,?_⟩) hHeld ?_ ?_
           rotate_left
           ·rintro w' ⟨s0,s1,s2,s3,s4,s5⟩
            go_simp
            with_reducible rfl
           rotate_left
           ·simp only [Act.put,z1_,z2_,z3_,i64_w,i32_w]
            rfl
           refine one_ (i := 5) (N := some 64) (bA 7 63) rfl rfl (by kernel_rfl) (by decide) (fun K hK => ?_)
           refine goes_ Tryz.func30 (by kernel_rfl) rfl #[.agg #[.string ((rd_T36 ae ad).f0),.slice cR ((rd_T36 ae ad).f1).length cS,.slice cT ((rd_T36 ae ad).f2).length cU],.agg #[.string av,.slice aY aw.length aZ,.slice a0 ax.length a1]] (by rfl) rfl rfl (by (try simp only [z4_,z5_,z6_]);first|done|rfl|(simp only [z7_,z8_];rfl)) ?_
           with_reducible refine (r43_SameGroup.calls k2 ((rd_T36 ae ad).f0) _ _ ((rd_T36 ae ad).f1) _ _ ((rd_T36 ae ad).f2) av _ _ aw _ _ ax true _ ?an ?ao ?bL ?cz ?d7 ?d8 ?d9 ?ea gA.out).mono ?_
           (case an => repeat (first|exact (cM a2.out)|(with_reducible refine Kd.C_alloc ?_ _)|(with_reducible refine Kd.C_drewN ?_ _)|(with_reducible refine Kd.C_drew ?_)))
           (case ao => exact dp.out)
           (case bL => repeat (first|exact (cM a3.out)|(with_reducible refine Kd.C_alloc ?_ _)|(with_reducible refine Kd.C_drewN ?_ _)|(with_reducible refine Kd.C_drew ?_)))
           (case cz => exact dq.out)
           (case d7 => exact cM (Kd.V_reads' aa.out).2.2)
           (case d8 => exact (Kd.V_reads' aa.out).2.1)
           (case d9 => exact cM (Kd.V_reads' ab.out).2.2)
           (case ea => exact (Kd.V_reads' ab.out).2.1)
           rintro e g6 ⟨rfl,hb⟩
           have cV := (hb.cell (World.block_lt_of_cell? _ _ (hHeld.2.2.2.1))).trans (hHeld.2.2.2.1)
           have cW := (hb.cell (World.block_lt_of_cell? _ _ (hHeld.2.2.2.2.1))).trans (hHeld.2.2.2.2.1)
           have cX := (hb.cell (World.block_lt_of_cell? _ _ (hHeld.2.2.2.2.2))).trans (hHeld.2.2.2.2.2)
           refine ⟨_,rfl,?_⟩
           have bs := aK (Kd.V_below (vM am.out) hb)
           have bu := aK (Kd.N_below (nM ag.out) hb)
           have bv := aK (Kd.V_below (vM aa.out) hb)
           have bx := aK (Kd.V_below (vM ab.out) hb)
           have bz := aK (Kd.V_below (vM ai.out) hb)
           have bB := aK (Kd.V_below (vM aj.out) hb)
           have cf := aK (Kd.V_below (vM bf.out) hb)
           have cg := aK (Kd.V_below (vM bh.out) hb)
           have ch := aK (blk_below (kM ac.out) hb)
           have ci := aK (Kd.C_below (cM ak.out) hb)
           have b9 := aK (Kd.C_below (cM al.out) hb)
           have ca := aK (Kd.C_below (cM a2.out) hb)
           have cb := aK (Kd.C_below (cM a3.out) hb)
           have cc := aK (below_step (bG HB.out) hb)
           clear am
           clear ag
           clear aa
           clear ab
           clear ai
           clear aj
           clear bf
           clear bh
           clear ac
           clear ak
           clear al
           clear a2
           clear a3
           clear HB
           have am := bs
           have ag := bu
           have aa := bv
           have ab := bx
           have ai := bz
           have aj := bB
           have bf := cf
           have bh := cg
           have ac := ch
           have ak := ci
           have al := b9
           have a2 := ca
           have a3 := cb
           have HB := cc
           clear bs bu bv bx bz bB cf cg ch ci b9 ca cb cc
           (try clear hb)
           (try clear hk)
           refine hK.out _ _ ⟨(blk_cell ac.out 0).trans rfl,(blk_cell ac.out 1).trans rfl,(blk_cell ac.out 2).trans rfl,cV,cW,cX⟩ (fun hHeld => ?_)
           clear hK K
           refine norm_ (a' := ?_) ?_ ?_
           rotate_left
           ·show Act.put _ (some 64) _ = _
            simp only [Act.put,z1_,z2_,z3_,i64_w,i32_w]
            rfl
           refine pure_ (i := 6) (N := some 65) (v := ?_) (a' := ?_) (bA 7 127) rfl rfl (by kernel_rfl) (fun _ _ _ h => h) (Or.inl ⟨by rfl,?_⟩) ?_ ?_
           rotate_left
           ·intro w'
            go_simp
            with_reducible rfl
           rotate_left
           ·simp only [Act.put,z1_,z2_,z3_,i64_w,i32_w]
            rfl
           refine done_ (by kernel_rfl) ?_
           try go_wp2
           go_roundg k2
           case measure => have := eO.out;have := eS.out;omega
           case rel => exact ⟨(wrap64 (dy + 1)),(wrap64 (ad + 1)),(by first|rfl|(simp;done)|(simp [*];done)),(by first|rfl|(simp;done)|(simp [*];done)),H',⟨by have := eO.out;have := eS.out;omega⟩,⟨vM am.out⟩,⟨nM ag.out⟩,⟨vM aa.out⟩,⟨vM ab.out⟩,⟨kM ac.out⟩,⟨bG HB.out⟩⟩
          ·replace fM := Bool.eq_false_iff.mpr fM
           subst fM
           rw [if_neg (show ¬ (false = true) by decide)] at H
           obtain rfl := Option.some.inj H
           obtain ⟨gQ,gR,fZ⟩ := Kd.N_slice ag.out
           subst fZ
           try go_wp2
           have bs := aK (Kd.V_drew am.out)
           have bu := aK (Kd.N_drew ag.out)
           have bv := aK (Kd.V_drew aa.out)
           have bx := aK (Kd.V_drew ab.out)
           have bz := aK (blk_drew ac.out)
           have bB := aK (below_drew1 HB.out)
           clear am
           clear ag
           clear aa
           clear ab
           clear ac
           clear HB
           have am := bs
           have ag := bu
           have aa := bv
           have ab := bx
           have ac := bz
           have HB := bB
           clear bs bu bv bx bz bB
           have bc : 0 ≤ (ad : Int) := dA
           have bd : ad < (ae.length : Int) := dA
           obtain ⟨af,bO,bP,bQ,bR,dl,aP,ay,az,aQ,aR,aS,aT⟩ := at_T36 (Kd.N_reads' ag.out).2.2 ad bc bd
           cases dl
           obtain ⟨dQ,bS,bT,aI⟩ := Kd.N_get ag.out z36 ad bc (by first|exact bd|exact dA|(have e_ := (Kd.N_reads' ag.out).1;omega))
           obtain ⟨cJ,cK,cL,cN,rfl,aA,aB,aC,aD⟩ := k36_openF bT
           have ap := aI 1 _ rfl
           rw [add_field _ _ 1 (by omega)] at ap
           replace ap := Option.some.inj (ap.symm.trans ay)
           injection ap with hva_ hvn_ hvc_
           rw [hva_] at aB
           rw [hvc_] at aA
           have ai := aK (show Kd.V (Kd.int .i64) 3 _ w.heap.size _ _ ((rd_T36 ae ad).f1) from Kd.V_mk aA aB)
           clear hva_ hvn_ hvc_ aB aA
           have aq := aI 2 _ rfl
           rw [add_field _ _ 2 (by omega)] at aq
           replace aq := Option.some.inj (aq.symm.trans az)
           injection aq with hva_ hvn_ hvc_
           rw [hva_] at aD
           rw [hvc_] at aC
           have aj := aK (show Kd.V Kd.string 9 _ w.heap.size _ _ ((rd_T36 ae ad).f2) from Kd.V_mk aC aD)
           clear hva_ hvn_ hvc_ aD aC
           clear aI bS
           have ak := aK aR
           have cO := aK aQ
           clear aR aQ
           have al := aK aT
           have cP := aK aS
           clear aT aS
           replace bc := eq_true bc
           replace bd := eq_true bd
           refine start_ (n := 8) (S := fun w' => w'.cell? ⟨ah,0,none⟩ = some (.string av) ∧ w'.cell? ⟨ah,1,none⟩ = some (.slice aY aw.length aZ) ∧ w'.cell? ⟨ah,2,none⟩ = some (.slice a0 ax.length a1) ∧ w'.cell? (af.add ((ad).toNat * 3)) = some (.string ((rd_T36 ae ad).f0)) ∧ w'.cell? ⟨(af.add ((ad).toNat * 3)).block,(af.add ((ad).toNat * 3)).off + 1,none⟩ = some (.slice bO ((rd_T36 ae ad).f1).length bP) ∧ w'.cell? ⟨(af.add ((ad).toNat * 3)).block,(af.add ((ad).toNat * 3)).off + 2,none⟩ = some (.slice bQ ((rd_T36 ae ad).f2).length bR)) (ds := []) (bA 8 0) (by kernel_rfl) rfl rfl ⟨(blk_cell ac.out 0).trans rfl,(blk_cell ac.out 1).trans rfl,(blk_cell ac.out 2).trans rfl,aP,ay,az⟩ (fun hHeld => ?_);refine with_tabW l43_GroupSteady.tab12 l43_GroupSteady.bits12 (fun HT_ HW_ => ?_)
           generalize wr.drew = w38 at am ag aa ab ac HB ai aj ak al aP ay az hHeld ⊢
           refine pure_ (i := 0) (N := some 49) (v := ?_) (a' := ?_) (bA 8 1) rfl rfl (any_of HT_.out (by kernel_rfl)) (fun _ _ _ h => h) (Or.inl ⟨by rfl,?_⟩) ?_ ?_
           rotate_left
           ·intro w'
            go_simp
            with_reducible rfl
           rotate_left
           ·simp only [Act.put,z1_,z2_,z3_,i64_w,i32_w]
            rfl
           refine pure_ (i := 1) (N := some 50) (v := ?_) (a' := ?_) (bA 8 3) rfl rfl (any_of HT_.out (by kernel_rfl)) (fun _ _ _ h => h) (Or.inl ⟨by rfl,?_⟩) ?_ ?_
           rotate_left
           ·intro w'
            go_simp
            with_reducible rfl
           rotate_left
           ·simp only [Act.put,z1_,z2_,z3_,i64_w,i32_w]
            rfl
           refine pure_ (i := 2) (N := some 51) (v := ?_) (a' := ?_) (bA 8 7) rfl rfl (any_of HT_.out (by kernel_rfl)) (fun _ _ _ h => h) (Or.inl ⟨by rfl,?_⟩) ?_ ?_
           rotate_left
           ·intro w'
            go_simp
            with_reducible rfl
           rotate_left
           ·simp only [Act.put,z1_,z2_,z3_,i64_w,i32_w]
            rfl
           refine pure_ (i := 3) (N := some 52) (v := ?_) (a' := ?_) (bA 8 15) rfl rfl (any_of HT_.out (by kernel_rfl)) (fun _ _ _ h => h) (Or.inl ⟨by rfl,?_⟩) ?_ ?_
           rotate_left
           ·intro w'
            go_simp
            with_reducible rfl
           rotate_left
           ·simp only [Act.put,z1_,z2_,z3_,i64_w,i32_w]
            rfl
           refine pure_ (i := 5) (N := some 54) (v := ?_) (a' := ?_) (bA 8 47) rfl rfl (any_of HT_.out (by kernel_rfl)) (fun _ _ _ h => h) (Or.inl ⟨by rfl,?_⟩) ?_ ?_
           rotate_left
           ·intro w'
            go_simp
            with_reducible rfl
           rotate_left
           ·simp only [Act.put,z1_,z2_,z3_,i64_w,i32_w]
            rfl
           refine take_ (i := 4) (N := some 53) (v := ?_) (a' := ?_) (bA 8 63) rfl rfl (take_ofW HT_.out HW_.out (by kernel_rfl)) (fun _ _ _ h => h) (Or.inl ⟨by rfl,?_⟩) hHeld ?_ ?_
           rotate_left
           ·rintro w' ⟨s0,s1,s2,s3,s4,s5⟩
            go_simp
            with_reducible rfl
           rotate_left
           ·simp only [Act.put,z1_,z2_,z3_,i64_w,i32_w]
            rfl
           refine take_ (i := 6) (N := some 55) (v := ?_) (a' := ?_) (bA 8 127) rfl rfl (take_ofW HT_.out HW_.out (by kernel_rfl)) (fun _ _ _ h => h) (Or.inl ⟨by rfl,?_⟩) hHeld ?_ ?_
           rotate_left
           ·rintro w' ⟨s0,s1,s2,s3,s4,s5⟩
            go_simp
            with_reducible rfl
           rotate_left
           ·simp only [Act.put,z1_,z2_,z3_,i64_w,i32_w]
            rfl
           refine pure_ (i := 7) (N := some 56) (v := ?_) (a' := ?_) (bA 8 255) rfl rfl (any_of HT_.out (by kernel_rfl)) (fun _ _ _ h => h) (Or.inl ⟨by rfl,?_⟩) ?_ ?_
           rotate_left
           ·intro w'
            go_simp
            with_reducible rfl
           rotate_left
           ·simp only [Act.put,z1_,z2_,z3_,i64_w,i32_w]
            rfl
           refine done_ (done_of HT_.out (by kernel_rfl)) ?_
           try go_wp2
           have bs := aK (Kd.V_drew am.out)
           have bu := aK (Kd.N_drew ag.out)
           have bv := aK (Kd.V_drew aa.out)
           have bx := aK (Kd.V_drew ab.out)
           have bz := aK (Kd.V_drew ai.out)
           have bB := aK (Kd.V_drew aj.out)
           have cf := aK (blk_drew ac.out)
           have cg := aK (Kd.C_drew ak.out)
           have ch := aK (Kd.C_drew al.out)
           have ci := aK (below_drew1 HB.out)
           clear am
           clear ag
           clear aa
           clear ab
           clear ai
           clear aj
           clear ac
           clear ak
           clear al
           clear HB
           have am := bs
           have ag := bu
           have aa := bv
           have ab := bx
           have ai := bz
           have aj := bB
           have ac := cf
           have ak := cg
           have al := ch
           have HB := ci
           clear bs bu bv bx bz bB cf cg ch ci
           have dm : 0 ≤ (ad : Int) := dA
           have dn : ad < (ae.length : Int) := dA
           obtain ⟨d6,cR,cS,cT,cU,eZ,cu,bU,bV,cv,cw,cx,cy⟩ := at_T36 (Kd.N_reads' ag.out).2.2 ad dm dn
           obtain rfl : af = d6 := (by injection eZ)
           obtain ⟨fp,dz,dB,cj⟩ := Kd.N_get ag.out z36 ad dm (by first|exact dn|exact dA|(have e_ := (Kd.N_reads' ag.out).1;omega))
           obtain ⟨ew,ex,ey,ez,rfl,bW,bX,bY,bZ⟩ := k36_openF dB
           have be := cj 1 _ rfl
           rw [add_field _ _ 1 (by omega)] at be
           replace be := Option.some.inj (be.symm.trans bU)
           injection be with hva_ hvn_ hvc_
           rw [hva_] at bX
           rw [hvc_] at bW
           have bf := aK (show Kd.V (Kd.int .i64) 3 _ w.heap.size _ _ ((rd_T36 ae ad).f1) from Kd.V_mk bW bX)
           clear hva_ hvn_ hvc_ bX bW
           have bg := cj 2 _ rfl
           rw [add_field _ _ 2 (by omega)] at bg
           replace bg := Option.some.inj (bg.symm.trans bV)
           injection bg with hva_ hvn_ hvc_
           rw [hva_] at bZ
           rw [hvc_] at bY
           have bh := aK (show Kd.V Kd.string 9 _ w.heap.size _ _ ((rd_T36 ae ad).f2) from Kd.V_mk bY bZ)
           clear hva_ hvn_ hvc_ bZ bY
           clear cj dz
           have a2 := aK cw
           have dp := aK cv
           clear cw cv
           have a3 := aK cy
           have dq := aK cx
           clear cy cx
           replace dm := eq_true dm
           replace dn := eq_true dn
           refine start_ (n := 7) (S := fun w' => w'.cell? ⟨ah,0,none⟩ = some (.string av) ∧ w'.cell? ⟨ah,1,none⟩ = some (.slice aY aw.length aZ) ∧ w'.cell? ⟨ah,2,none⟩ = some (.slice a0 ax.length a1) ∧ w'.cell? (af.add ((ad).toNat * 3)) = some (.string ((rd_T36 ae ad).f0)) ∧ w'.cell? ⟨(af.add ((ad).toNat * 3)).block,(af.add ((ad).toNat * 3)).off + 1,none⟩ = some (.slice cR ((rd_T36 ae ad).f1).length cS) ∧ w'.cell? ⟨(af.add ((ad).toNat * 3)).block,(af.add ((ad).toNat * 3)).off + 2,none⟩ = some (.slice cT ((rd_T36 ae ad).f2).length cU)) (ds := []) (bA 7 0) (by kernel_rfl) rfl rfl ⟨(blk_cell ac.out 0).trans rfl,(blk_cell ac.out 1).trans rfl,(blk_cell ac.out 2).trans rfl,cu,bU,bV⟩ (fun hHeld => ?_)
           generalize w38.drew = w39 at am ag aa ab ai aj ac ak al HB bf bh a2 a3 cu bU bV hHeld ⊢
           refine pure_ (i := 0) (N := some 59) (v := ?_) (a' := ?_) (bA 7 1) rfl rfl (by kernel_rfl) (fun _ _ _ h => h) (Or.inl ⟨by rfl,?_⟩) ?_ ?_
           rotate_left
           ·intro w'
            go_simp
            with_reducible rfl
           rotate_left
           ·simp only [Act.put,z1_,z2_,z3_,i64_w,i32_w]
            rfl
           refine pure_ (i := 1) (N := some 60) (v := ?_) (a' := ?_) (bA 7 3) rfl rfl (by kernel_rfl) (fun _ _ _ h => h) (Or.inl ⟨by rfl,?_⟩) ?_ ?_
           rotate_left
           ·intro w'
            go_simp
            with_reducible rfl
           rotate_left
           ·simp only [Act.put,z1_,z2_,z3_,i64_w,i32_w]
            rfl
           refine pure_ (i := 2) (N := some 61) (v := ?_) (a' := ?_) (bA 7 7) rfl rfl (by kernel_rfl) (fun _ _ _ h => h) (Or.inl ⟨by rfl,?_⟩) ?_ ?_
           rotate_left
           ·intro w'
            go_simp
            with_reducible rfl
           rotate_left
           ·simp only [Act.put,z1_,z2_,z3_,i64_w,i32_w]
            rfl
           refine take_ (i := 3) (N := some 62) (v := ?_) (a' := ?_) (bA 7 15) rfl rfl (by kernel_rfl) (fun _ _ _ h => h) (Or.inl ⟨by rfl,?_⟩) hHeld ?_ ?_
           rotate_left
           ·rintro w' ⟨s0,s1,s2,s3,s4,s5⟩
            go_simp
            with_reducible rfl
           rotate_left
           ·simp only [Act.put,z1_,z2_,z3_,i64_w,i32_w]
            rfl
           refine take_ (i := 4) (N := some 63) (v := ?_) (a' := ?_) (bA 7 31) rfl rfl (by kernel_rfl) (fun _ _ _ h => h) (Or.inl ⟨by rfl,?_⟩) hHeld ?_ ?_
           rotate_left
           ·rintro w' ⟨s0,s1,s2,s3,s4,s5⟩
            go_simp
            with_reducible rfl
           rotate_left
           ·simp only [Act.put,z1_,z2_,z3_,i64_w,i32_w]
            rfl
           refine one_ (i := 5) (N := some 64) (bA 7 63) rfl rfl (by kernel_rfl) (by decide) (fun K hK => ?_)
           refine goes_ Tryz.func30 (by kernel_rfl) rfl #[.agg #[.string ((rd_T36 ae ad).f0),.slice cR ((rd_T36 ae ad).f1).length cS,.slice cT ((rd_T36 ae ad).f2).length cU],.agg #[.string av,.slice aY aw.length aZ,.slice a0 ax.length a1]] (by rfl) rfl rfl (by (try simp only [z4_,z5_,z6_]);first|done|rfl|(simp only [z7_,z8_];rfl)) ?_
           with_reducible refine (r43_SameGroup.calls k2 ((rd_T36 ae ad).f0) _ _ ((rd_T36 ae ad).f1) _ _ ((rd_T36 ae ad).f2) av _ _ aw _ _ ax false _ ?an ?ao ?bL ?cz ?d7 ?d8 ?d9 ?ea gA.out).mono ?_
           (case an => repeat (first|exact (cM a2.out)|(with_reducible refine Kd.C_alloc ?_ _)|(with_reducible refine Kd.C_drewN ?_ _)|(with_reducible refine Kd.C_drew ?_)))
           (case ao => exact dp.out)
           (case bL => repeat (first|exact (cM a3.out)|(with_reducible refine Kd.C_alloc ?_ _)|(with_reducible refine Kd.C_drewN ?_ _)|(with_reducible refine Kd.C_drew ?_)))
           (case cz => exact dq.out)
           (case d7 => exact cM (Kd.V_reads' aa.out).2.2)
           (case d8 => exact (Kd.V_reads' aa.out).2.1)
           (case d9 => exact cM (Kd.V_reads' ab.out).2.2)
           (case ea => exact (Kd.V_reads' ab.out).2.1)
           rintro e g7 ⟨rfl,hb⟩
           have cV := (hb.cell (World.block_lt_of_cell? _ _ (hHeld.2.2.2.1))).trans (hHeld.2.2.2.1)
           have cW := (hb.cell (World.block_lt_of_cell? _ _ (hHeld.2.2.2.2.1))).trans (hHeld.2.2.2.2.1)
           have cX := (hb.cell (World.block_lt_of_cell? _ _ (hHeld.2.2.2.2.2))).trans (hHeld.2.2.2.2.2)
           refine ⟨_,rfl,?_⟩
           have bs := aK (Kd.V_below (vM am.out) hb)
           have bu := aK (Kd.N_below (nM ag.out) hb)
           have bv := aK (Kd.V_below (vM aa.out) hb)
           have bx := aK (Kd.V_below (vM ab.out) hb)
           have bz := aK (Kd.V_below (vM ai.out) hb)
           have bB := aK (Kd.V_below (vM aj.out) hb)
           have cf := aK (Kd.V_below (vM bf.out) hb)
           have cg := aK (Kd.V_below (vM bh.out) hb)
           have ch := aK (blk_below (kM ac.out) hb)
           have ci := aK (Kd.C_below (cM ak.out) hb)
           have b9 := aK (Kd.C_below (cM al.out) hb)
           have ca := aK (Kd.C_below (cM a2.out) hb)
           have cb := aK (Kd.C_below (cM a3.out) hb)
           have cc := aK (below_step (bG HB.out) hb)
           clear am
           clear ag
           clear aa
           clear ab
           clear ai
           clear aj
           clear bf
           clear bh
           clear ac
           clear ak
           clear al
           clear a2
           clear a3
           clear HB
           have am := bs
           have ag := bu
           have aa := bv
           have ab := bx
           have ai := bz
           have aj := bB
           have bf := cf
           have bh := cg
           have ac := ch
           have ak := ci
           have al := b9
           have a2 := ca
           have a3 := cb
           have HB := cc
           clear bs bu bv bx bz bB cf cg ch ci b9 ca cb cc
           (try clear hb)
           (try clear hk)
           refine hK.out _ _ ⟨(blk_cell ac.out 0).trans rfl,(blk_cell ac.out 1).trans rfl,(blk_cell ac.out 2).trans rfl,cV,cW,cX⟩ (fun hHeld => ?_)
           clear hK K
           refine norm_ (a' := ?_) ?_ ?_
           rotate_left
           ·show Act.put _ (some 64) _ = _
            simp only [Act.put,z1_,z2_,z3_,i64_w,i32_w]
            rfl
           refine pure_ (i := 6) (N := some 65) (v := ?_) (a' := ?_) (bA 7 127) rfl rfl (by kernel_rfl) (fun _ _ _ h => h) (Or.inl ⟨by rfl,?_⟩) ?_ ?_
           rotate_left
           ·intro w'
            go_simp
            with_reducible rfl
           rotate_left
           ·simp only [Act.put,z1_,z2_,z3_,i64_w,i32_w]
            rfl
           refine done_ (by kernel_rfl) ?_
           try go_wp2
           go_ret
           exact ⟨by first|rfl|(simp [errW_none,errW_some] <;> rfl)|(simp [*,errW_none,errW_some] <;> rfl),bG HB.out⟩
         ·rw [if_neg eY] at H
          have fm := beq_eq_false_iff_ne.mpr eY
          have fn := bne_iff_ne.mpr eY
          replace H := Option.bind_eq_some_iff.mp H
          obtain ⟨f3,fq,H⟩ := H
          have f4 := aK fq
          clear fq
          by_cases fN : f3 = true
          ·subst fN
           rw [if_pos rfl] at H
           have H' := aK H
           clear H
           obtain ⟨gS,f5,f6⟩ := Kd.N_slice ag.out
           subst f6
           try go_wp2
           have bs := aK (Kd.V_drew am.out)
           have bu := aK (Kd.N_drew ag.out)
           have bv := aK (Kd.V_drew aa.out)
           have bx := aK (Kd.V_drew ab.out)
           have bz := aK (blk_drew ac.out)
           have bB := aK (below_drew1 HB.out)
           clear am
           clear ag
           clear aa
           clear ab
           clear ac
           clear HB
           have am := bs
           have ag := bu
           have aa := bv
           have ab := bx
           have ac := bz
           have HB := bB
           clear bs bu bv bx bz bB
           have bc : 0 ≤ (ad : Int) := dA
           have bd : ad < (ae.length : Int) := dA
           obtain ⟨af,bO,bP,bQ,bR,dl,aP,ay,az,aQ,aR,aS,aT⟩ := at_T36 (Kd.N_reads' ag.out).2.2 ad bc bd
           cases dl
           obtain ⟨dQ,bS,bT,aI⟩ := Kd.N_get ag.out z36 ad bc (by first|exact bd|exact dA|(have e_ := (Kd.N_reads' ag.out).1;omega))
           obtain ⟨cJ,cK,cL,cN,rfl,aA,aB,aC,aD⟩ := k36_openF bT
           have ap := aI 1 _ rfl
           rw [add_field _ _ 1 (by omega)] at ap
           replace ap := Option.some.inj (ap.symm.trans ay)
           injection ap with hva_ hvn_ hvc_
           rw [hva_] at aB
           rw [hvc_] at aA
           have ai := aK (show Kd.V (Kd.int .i64) 3 _ w.heap.size _ _ ((rd_T36 ae ad).f1) from Kd.V_mk aA aB)
           clear hva_ hvn_ hvc_ aB aA
           have aq := aI 2 _ rfl
           rw [add_field _ _ 2 (by omega)] at aq
           replace aq := Option.some.inj (aq.symm.trans az)
           injection aq with hva_ hvn_ hvc_
           rw [hva_] at aD
           rw [hvc_] at aC
           have aj := aK (show Kd.V Kd.string 9 _ w.heap.size _ _ ((rd_T36 ae ad).f2) from Kd.V_mk aC aD)
           clear hva_ hvn_ hvc_ aD aC
           clear aI bS
           have ak := aK aR
           have cO := aK aQ
           clear aR aQ
           have al := aK aT
           have cP := aK aS
           clear aT aS
           replace bc := eq_true bc
           replace bd := eq_true bd
           refine start_ (n := 8) (S := fun w' => w'.cell? ⟨ah,0,none⟩ = some (.string av) ∧ w'.cell? ⟨ah,1,none⟩ = some (.slice aY aw.length aZ) ∧ w'.cell? ⟨ah,2,none⟩ = some (.slice a0 ax.length a1) ∧ w'.cell? (af.add ((ad).toNat * 3)) = some (.string ((rd_T36 ae ad).f0)) ∧ w'.cell? ⟨(af.add ((ad).toNat * 3)).block,(af.add ((ad).toNat * 3)).off + 1,none⟩ = some (.slice bO ((rd_T36 ae ad).f1).length bP) ∧ w'.cell? ⟨(af.add ((ad).toNat * 3)).block,(af.add ((ad).toNat * 3)).off + 2,none⟩ = some (.slice bQ ((rd_T36 ae ad).f2).length bR)) (ds := []) (bA 8 0) (by kernel_rfl) rfl rfl ⟨(blk_cell ac.out 0).trans rfl,(blk_cell ac.out 1).trans rfl,(blk_cell ac.out 2).trans rfl,aP,ay,az⟩ (fun hHeld => ?_);refine with_tabW l43_GroupSteady.tab12 l43_GroupSteady.bits12 (fun HT_ HW_ => ?_)
           generalize wr.drew = w44 at am ag aa ab ac HB ai aj ak al aP ay az hHeld ⊢
           refine pure_ (i := 0) (N := some 49) (v := ?_) (a' := ?_) (bA 8 1) rfl rfl (any_of HT_.out (by kernel_rfl)) (fun _ _ _ h => h) (Or.inl ⟨by rfl,?_⟩) ?_ ?_
           rotate_left
           ·intro w'
            go_simp
            with_reducible rfl
           rotate_left
           ·simp only [Act.put,z1_,z2_,z3_,i64_w,i32_w]
            rfl
           refine pure_ (i := 1) (N := some 50) (v := ?_) (a' := ?_) (bA 8 3) rfl rfl (any_of HT_.out (by kernel_rfl)) (fun _ _ _ h => h) (Or.inl ⟨by rfl,?_⟩) ?_ ?_
           rotate_left
           ·intro w'
            go_simp
            with_reducible rfl
           rotate_left
           ·simp only [Act.put,z1_,z2_,z3_,i64_w,i32_w]
            rfl
           refine pure_ (i := 2) (N := some 51) (v := ?_) (a' := ?_) (bA 8 7) rfl rfl (any_of HT_.out (by kernel_rfl)) (fun _ _ _ h => h) (Or.inl ⟨by rfl,?_⟩) ?_ ?_
           rotate_left
           ·intro w'
            go_simp
            with_reducible rfl
           rotate_left
           ·simp only [Act.put,z1_,z2_,z3_,i64_w,i32_w]
            rfl
           refine pure_ (i := 3) (N := some 52) (v := ?_) (a' := ?_) (bA 8 15) rfl rfl (any_of HT_.out (by kernel_rfl)) (fun _ _ _ h => h) (Or.inl ⟨by rfl,?_⟩) ?_ ?_
           rotate_left
           ·intro w'
            go_simp
            with_reducible rfl
           rotate_left
           ·simp only [Act.put,z1_,z2_,z3_,i64_w,i32_w]
            rfl
           refine pure_ (i := 5) (N := some 54) (v := ?_) (a' := ?_) (bA 8 47) rfl rfl (any_of HT_.out (by kernel_rfl)) (fun _ _ _ h => h) (Or.inl ⟨by rfl,?_⟩) ?_ ?_
           rotate_left
           ·intro w'
            go_simp
            with_reducible rfl
           rotate_left
           ·simp only [Act.put,z1_,z2_,z3_,i64_w,i32_w]
            rfl
           refine take_ (i := 4) (N := some 53) (v := ?_) (a' := ?_) (bA 8 63) rfl rfl (take_ofW HT_.out HW_.out (by kernel_rfl)) (fun _ _ _ h => h) (Or.inl ⟨by rfl,?_⟩) hHeld ?_ ?_
           rotate_left
           ·rintro w' ⟨s0,s1,s2,s3,s4,s5⟩
            go_simp
            with_reducible rfl
           rotate_left
           ·simp only [Act.put,z1_,z2_,z3_,i64_w,i32_w]
            rfl
           refine take_ (i := 6) (N := some 55) (v := ?_) (a' := ?_) (bA 8 127) rfl rfl (take_ofW HT_.out HW_.out (by kernel_rfl)) (fun _ _ _ h => h) (Or.inl ⟨by rfl,?_⟩) hHeld ?_ ?_
           rotate_left
           ·rintro w' ⟨s0,s1,s2,s3,s4,s5⟩
            go_simp
            with_reducible rfl
           rotate_left
           ·simp only [Act.put,z1_,z2_,z3_,i64_w,i32_w]
            rfl
           refine pure_ (i := 7) (N := some 56) (v := ?_) (a' := ?_) (bA 8 255) rfl rfl (any_of HT_.out (by kernel_rfl)) (fun _ _ _ h => h) (Or.inl ⟨by rfl,?_⟩) ?_ ?_
           rotate_left
           ·intro w'
            go_simp
            with_reducible rfl
           rotate_left
           ·simp only [Act.put,z1_,z2_,z3_,i64_w,i32_w]
            rfl
           refine done_ (done_of HT_.out (by kernel_rfl)) ?_
           try go_wp2
           have bs := aK (Kd.V_drew am.out)
           have bu := aK (Kd.N_drew ag.out)
           have bv := aK (Kd.V_drew aa.out)
           have bx := aK (Kd.V_drew ab.out)
           have bz := aK (Kd.V_drew ai.out)
           have bB := aK (Kd.V_drew aj.out)
           have cf := aK (blk_drew ac.out)
           have cg := aK (Kd.C_drew ak.out)
           have ch := aK (Kd.C_drew al.out)
           have ci := aK (below_drew1 HB.out)
           clear am
           clear ag
           clear aa
           clear ab
           clear ai
           clear aj
           clear ac
           clear ak
           clear al
           clear HB
           have am := bs
           have ag := bu
           have aa := bv
           have ab := bx
           have ai := bz
           have aj := bB
           have ac := cf
           have ak := cg
           have al := ch
           have HB := ci
           clear bs bu bv bx bz bB cf cg ch ci
           have ck : 0 ≤ (ad : Int) := dA
           have cl : ad < (ae.length : Int) := dA
           obtain ⟨dw,cm,cn,co,cp,eb,bi,aU,aV,bE,bF,bH,bI⟩ := at_T36 (Kd.N_reads' ag.out).2.2 ad ck cl
           obtain rfl : af = dw := (by injection eb)
           obtain ⟨eU,cY,cZ,bC⟩ := Kd.N_get ag.out z36 ad ck (by first|exact cl|exact dA|(have e_ := (Kd.N_reads' ag.out).1;omega))
           obtain ⟨dR,dS,dT,dU,rfl,a4,a5,a6,a7⟩ := k36_openF cZ
           have aW := bC 1 _ rfl
           rw [add_field _ _ 1 (by omega)] at aW
           replace aW := Option.some.inj (aW.symm.trans aU)
           injection aW with hva_ hvn_ hvc_
           rw [hva_] at a5
           rw [hvc_] at a4
           have aE := aK (show Kd.V (Kd.int .i64) 3 _ w.heap.size _ _ ((rd_T36 ae ad).f1) from Kd.V_mk a4 a5)
           clear hva_ hvn_ hvc_ a5 a4
           have aX := bC 2 _ rfl
           rw [add_field _ _ 2 (by omega)] at aX
           replace aX := Option.some.inj (aX.symm.trans aV)
           injection aX with hva_ hvn_ hvc_
           rw [hva_] at a7
           rw [hvc_] at a6
           have aF := aK (show Kd.V Kd.string 9 _ w.heap.size _ _ ((rd_T36 ae ad).f2) from Kd.V_mk a6 a7)
           clear hva_ hvn_ hvc_ a7 a6
           clear bC cY
           have aG := aK bF
           have dV := aK bE
           clear bF bE
           have aH := aK bI
           have dW := aK bH
           clear bI bH
           replace ck := eq_true ck
           replace cl := eq_true cl
           refine start_ (n := 28) (S := fun w' => w'.cell? ⟨ah,0,none⟩ = some (.string av) ∧ w'.cell? ⟨ah,1,none⟩ = some (.slice aY aw.length aZ) ∧ w'.cell? ⟨ah,2,none⟩ = some (.slice a0 ax.length a1) ∧ w'.cell? (af.add ((ad).toNat * 3)) = some (.string ((rd_T36 ae ad).f0)) ∧ w'.cell? ⟨(af.add ((ad).toNat * 3)).block,(af.add ((ad).toNat * 3)).off + 1,none⟩ = some (.slice cm ((rd_T36 ae ad).f1).length cn) ∧ w'.cell? ⟨(af.add ((ad).toNat * 3)).block,(af.add ((ad).toNat * 3)).off + 2,none⟩ = some (.slice co ((rd_T36 ae ad).f2).length cp)) (ds := []) (bA 28 0) (by kernel_rfl) rfl rfl ⟨(blk_cell ac.out 0).trans rfl,(blk_cell ac.out 1).trans rfl,(blk_cell ac.out 2).trans rfl,bi,aU,aV⟩ (fun hHeld => ?_);refine with_tabW l43_GroupSteady.tab16 l43_GroupSteady.bits16 (fun HT_ HW_ => ?_)
           generalize w44.drew = w45 at am ag aa ab ai aj ac ak al HB aE aF aG aH bi aU aV hHeld ⊢
           refine pure_ (i := 0) (N := some 66) (v := ?_) (a' := ?_) (bA 28 1) rfl rfl (any_of HT_.out (by kernel_rfl)) (fun _ _ _ h => h) (Or.inl ⟨by rfl,?_⟩) ?_ ?_
           rotate_left
           ·intro w'
            go_simp
            with_reducible rfl
           rotate_left
           ·simp only [Act.put,z1_,z2_,z3_,i64_w,i32_w]
            rfl
           refine pure_ (i := 1) (N := some 67) (v := ?_) (a' := ?_) (bA 28 3) rfl rfl (any_of HT_.out (by kernel_rfl)) (fun _ _ _ h => h) (Or.inl ⟨by rfl,?_⟩) ?_ ?_
           rotate_left
           ·intro w'
            go_simp
            with_reducible rfl
           rotate_left
           ·simp only [Act.put,z1_,z2_,z3_,i64_w,i32_w]
            rfl
           refine pure_ (i := 2) (N := some 68) (v := ?_) (a' := ?_) (bA 28 7) rfl rfl (any_of HT_.out (by kernel_rfl)) (fun _ _ _ h => h) (Or.inl ⟨by rfl,?_⟩) ?_ ?_
           rotate_left
           ·intro w'
            go_simp
            with_reducible rfl
           rotate_left
           ·simp only [Act.put,z1_,z2_,z3_,i64_w,i32_w]
            rfl
           refine pure_ (i := 3) (N := some 69) (v := ?_) (a' := ?_) (bA 28 15) rfl rfl (any_of HT_.out (by kernel_rfl)) (fun _ _ _ h => h) (Or.inl ⟨by rfl,?_⟩) ?_ ?_
           rotate_left
           ·intro w'
            go_simp
            with_reducible rfl
           rotate_left
           ·simp only [Act.put,z1_,z2_,z3_,i64_w,i32_w]
            rfl
           refine pure_ (i := 4) (N := some 70) (v := ?_) (a' := ?_) (bA 28 31) rfl rfl (any_of HT_.out (by kernel_rfl)) (fun _ _ _ h => h) (Or.inl ⟨by rfl,?_⟩) ?_ ?_
           rotate_left
           ·intro w'
            go_simp
            with_reducible rfl
           rotate_left
           ·simp only [Act.put,z1_,z2_,z3_,i64_w,i32_w]
            rfl
           refine pure_ (i := 6) (N := some 72) (v := ?_) (a' := ?_) (bA 28 95) rfl rfl (any_of HT_.out (by kernel_rfl)) (fun _ _ _ h => h) (Or.inl ⟨by rfl,?_⟩) ?_ ?_
           rotate_left
           ·intro w'
            go_simp
            with_reducible rfl
           rotate_left
           ·simp only [Act.put,z1_,z2_,z3_,i64_w,i32_w]
            rfl
           refine take_ (i := 5) (N := some 71) (v := ?_) (a' := ?_) (bA 28 127) rfl rfl (take_ofW HT_.out HW_.out (by kernel_rfl)) (fun _ _ _ h => h) (Or.inl ⟨by rfl,?_⟩) hHeld ?_ ?_
           rotate_left
           ·rintro w' ⟨s0,s1,s2,s3,s4,s5⟩
            go_simp
            with_reducible rfl
           rotate_left
           ·simp only [Act.put,z1_,z2_,z3_,i64_w,i32_w]
            rfl
           refine take_ (i := 7) (N := some 73) (v := ?_) (a' := ?_) (bA 28 255) rfl rfl (take_ofW HT_.out HW_.out (by kernel_rfl)) (fun _ _ _ h => h) (Or.inl ⟨by rfl,?_⟩) hHeld ?_ ?_
           rotate_left
           ·rintro w' ⟨s0,s1,s2,s3,s4,s5⟩
            go_simp
            with_reducible rfl
           rotate_left
           ·simp only [Act.put,z1_,z2_,z3_,i64_w,i32_w]
            rfl
           refine one_ (i := 8) (N := some 74) (bA 28 511) rfl rfl (one_of HT_.out (by kernel_rfl)) (by decide) (fun K hK => ?_)
           refine goes_ Tryz.func31 (by kernel_rfl) rfl #[.slice (some af) ae.length f5,.string ((rd_T36 ae ad).f0),.string av,.int .i64 7] (by rfl) rfl rfl (by (try simp only [z4_,z5_,z6_]);first|done|rfl|(simp only [z7_,z8_];rfl)) ?_
           with_reducible refine (l43_contains.calls k2 _ _ ae ((rd_T36 ae ad).f0) av 7 true _ ?an ?ao f4.out).mono ?_
           (case an => exact cM (Kd.N_reads' ag.out).2.2)
           (case ao => exact (Kd.N_reads' ag.out).2.1)
           rintro e w' ⟨rfl,⟨nd,rfl⟩⟩
           refine ⟨_,rfl,?_⟩
           refine hK.out _ _ ⟨(blk_cell ac.out 0).trans rfl,(blk_cell ac.out 1).trans rfl,(blk_cell ac.out 2).trans rfl,hHeld.2.2.2.1,hHeld.2.2.2.2.1,hHeld.2.2.2.2.2⟩ (fun hHeld => ?_)
           clear hK K
           refine norm_ (a' := ?_) ?_ ?_
           rotate_left
           ·show Act.put _ (some 74) _ = _
            simp only [Act.put,z1_,z2_,z3_,i64_w,i32_w]
            rfl
           refine pure_ (i := 9) (N := some 75) (v := ?_) (a' := ?_) (bA 28 1023) rfl rfl (any_of HT_.out (by kernel_rfl)) (fun _ _ _ h => h) (Or.inl ⟨by rfl,?_⟩) ?_ ?_
           rotate_left
           ·intro w'
            go_simp
            with_reducible rfl
           rotate_left
           ·simp only [Act.put,z1_,z2_,z3_,i64_w,i32_w]
            rfl
           refine pure_ (i := 10) (N := some 76) (v := ?_) (a' := ?_) (bA 28 2047) rfl rfl (any_of HT_.out (by kernel_rfl)) (fun _ _ _ h => h) (Or.inl ⟨by rfl,?_⟩) ?_ ?_
           rotate_left
           ·intro w'
            go_simp
            with_reducible rfl
           rotate_left
           ·simp only [Act.put,z1_,z2_,z3_,i64_w,i32_w]
            rfl
           refine pure_ (i := 11) (N := some 77) (v := undef) (a' := ?_) (bA 28 4095) rfl rfl (any_of HT_.out (by kernel_rfl)) (fun _ _ _ h => h) (Or.inr ⟨by rfl,rfl⟩) ?_ ?_
           rotate_left
           ·simp only [Act.put,z1_,z2_,z3_,i64_w,i32_w]
            rfl
           refine pure_ (i := 12) (N := some 78) (v := undef) (a' := ?_) (bA 28 8191) rfl rfl (any_of HT_.out (by kernel_rfl)) (fun _ _ _ h => h) (Or.inr ⟨by rfl,rfl⟩) ?_ ?_
           rotate_left
           ·simp only [Act.put,z1_,z2_,z3_,i64_w,i32_w]
            rfl
           refine pure_ (i := 13) (N := some 79) (v := undef) (a' := ?_) (bA 28 16383) rfl rfl (any_of HT_.out (by kernel_rfl)) (fun _ _ _ h => h) (Or.inr ⟨by rfl,rfl⟩) ?_ ?_
           rotate_left
           ·simp only [Act.put,z1_,z2_,z3_,i64_w,i32_w]
            rfl
           refine pure_ (i := 14) (N := some 80) (v := undef) (a' := ?_) (bA 28 32767) rfl rfl (any_of HT_.out (by kernel_rfl)) (fun _ _ _ h => h) (Or.inr ⟨by rfl,rfl⟩) ?_ ?_
           rotate_left
           ·simp only [Act.put,z1_,z2_,z3_,i64_w,i32_w]
            rfl
           refine pure_ (i := 15) (N := some 81) (v := undef) (a' := ?_) (bA 28 65535) rfl rfl (any_of HT_.out (by kernel_rfl)) (fun _ _ _ h => h) (Or.inr ⟨by rfl,rfl⟩) ?_ ?_
           rotate_left
           ·simp only [Act.put,z1_,z2_,z3_,i64_w,i32_w]
            rfl
           refine pure_ (i := 16) (N := some 82) (v := undef) (a' := ?_) (bA 28 131071) rfl rfl (any_of HT_.out (by kernel_rfl)) (fun _ _ _ h => h) (Or.inr ⟨by rfl,rfl⟩) ?_ ?_
           rotate_left
           ·simp only [Act.put,z1_,z2_,z3_,i64_w,i32_w]
            rfl
           refine pure_ (i := 17) (N := some 83) (v := undef) (a' := ?_) (bA 28 262143) rfl rfl (any_of HT_.out (by kernel_rfl)) (fun _ _ _ h => h) (Or.inr ⟨by rfl,rfl⟩) ?_ ?_
           rotate_left
           ·simp only [Act.put,z1_,z2_,z3_,i64_w,i32_w]
            rfl
           refine pure_ (i := 18) (N := some 84) (v := undef) (a' := ?_) (bA 28 524287) rfl rfl (any_of HT_.out (by kernel_rfl)) (fun _ _ _ h => h) (Or.inr ⟨by rfl,rfl⟩) ?_ ?_
           rotate_left
           ·simp only [Act.put,z1_,z2_,z3_,i64_w,i32_w]
            rfl
           refine pure_ (i := 19) (N := some 85) (v := undef) (a' := ?_) (bA 28 1048575) rfl rfl (any_of HT_.out (by kernel_rfl)) (fun _ _ _ h => h) (Or.inr ⟨by rfl,rfl⟩) ?_ ?_
           rotate_left
           ·simp only [Act.put,z1_,z2_,z3_,i64_w,i32_w]
            rfl
           refine pure_ (i := 20) (N := some 86) (v := undef) (a' := ?_) (bA 28 2097151) rfl rfl (any_of HT_.out (by kernel_rfl)) (fun _ _ _ h => h) (Or.inr ⟨by rfl,rfl⟩) ?_ ?_
           rotate_left
           ·simp only [Act.put,z1_,z2_,z3_,i64_w,i32_w]
            rfl
           refine pure_ (i := 21) (N := some 87) (v := undef) (a' := ?_) (bA 28 4194303) rfl rfl (any_of HT_.out (by kernel_rfl)) (fun _ _ _ h => h) (Or.inr ⟨by rfl,rfl⟩) ?_ ?_
           rotate_left
           ·simp only [Act.put,z1_,z2_,z3_,i64_w,i32_w]
            rfl
           refine pure_ (i := 22) (N := some 88) (v := undef) (a' := ?_) (bA 28 8388607) rfl rfl (any_of HT_.out (by kernel_rfl)) (fun _ _ _ h => h) (Or.inr ⟨by rfl,rfl⟩) ?_ ?_
           rotate_left
           ·simp only [Act.put,z1_,z2_,z3_,i64_w,i32_w]
            rfl
           refine pure_ (i := 23) (N := some 89) (v := undef) (a' := ?_) (bA 28 16777215) rfl rfl (any_of HT_.out (by kernel_rfl)) (fun _ _ _ h => h) (Or.inr ⟨by rfl,rfl⟩) ?_ ?_
           rotate_left
           ·simp only [Act.put,z1_,z2_,z3_,i64_w,i32_w]
            rfl
           refine pure_ (i := 24) (N := some 90) (v := undef) (a' := ?_) (bA 28 33554431) rfl rfl (any_of HT_.out (by kernel_rfl)) (fun _ _ _ h => h) (Or.inr ⟨by rfl,rfl⟩) ?_ ?_
           rotate_left
           ·simp only [Act.put,z1_,z2_,z3_,i64_w,i32_w]
            rfl
           refine pure_ (i := 25) (N := some 91) (v := undef) (a' := ?_) (bA 28 67108863) rfl rfl (any_of HT_.out (by kernel_rfl)) (fun _ _ _ h => h) (Or.inr ⟨by rfl,rfl⟩) ?_ ?_
           rotate_left
           ·simp only [Act.put,z1_,z2_,z3_,i64_w,i32_w]
            rfl
           refine pure_ (i := 26) (N := some 92) (v := undef) (a' := ?_) (bA 28 134217727) rfl rfl (any_of HT_.out (by kernel_rfl)) (fun _ _ _ h => h) (Or.inr ⟨by rfl,rfl⟩) ?_ ?_
           rotate_left
           ·simp only [Act.put,z1_,z2_,z3_,i64_w,i32_w]
            rfl
           refine pure_ (i := 27) (N := some 93) (v := ?_) (a' := ?_) (bA 28 268435455) rfl rfl (any_of HT_.out (by kernel_rfl)) (fun _ _ _ h => h) (Or.inl ⟨by rfl,?_⟩) ?_ ?_
           rotate_left
           ·intro w'
            go_simp
            with_reducible rfl
           rotate_left
           ·simp only [Act.put,z1_,z2_,z3_,i64_w,i32_w]
            rfl
           refine done_ (done_of HT_.out (by kernel_rfl)) ?_
           try go_wp2
           go_roundg k2
           case measure => have := eO.out;have := eS.out;omega
           case rel => exact ⟨(dy),(wrap64 (ad + 1)),(by first|rfl|(simp;done)|(simp [*];done)),(by first|rfl|(simp;done)|(simp [*];done)),H',⟨by have := eO.out;have := eS.out;omega⟩,⟨vM am.out⟩,⟨nM ag.out⟩,⟨vM aa.out⟩,⟨vM ab.out⟩,⟨kM ac.out⟩,⟨bG HB.out⟩⟩
          ·replace fN := Bool.eq_false_iff.mpr fN
           subst fN
           rw [if_neg (show ¬ (false = true) by decide)] at H
           replace H := Option.bind_eq_some_iff.mp H
           obtain ⟨dX,fr,H⟩ := H
           have gB := aK fr
           clear fr
           replace H := Option.bind_eq_some_iff.mp H
           obtain ⟨dY,fs,H⟩ := H
           have gC := aK fs
           clear fs
           replace H := Option.bind_eq_some_iff.mp H
           obtain ⟨f7,ft,H⟩ := H
           have gD := aK ft
           clear ft
           by_cases fO : f7 = true
           ·subst fO
            rw [if_pos rfl] at H
            have H' := aK H
            clear H
            obtain ⟨gT,fu,f8⟩ := Kd.N_slice ag.out
            subst f8
            try go_wp2
            have bs := aK (Kd.V_drew am.out)
            have bu := aK (Kd.N_drew ag.out)
            have bv := aK (Kd.V_drew aa.out)
            have bx := aK (Kd.V_drew ab.out)
            have bz := aK (blk_drew ac.out)
            have bB := aK (below_drew1 HB.out)
            clear am
            clear ag
            clear aa
            clear ab
            clear ac
            clear HB
            have am := bs
            have ag := bu
            have aa := bv
            have ab := bx
            have ac := bz
            have HB := bB
            clear bs bu bv bx bz bB
            have bc : 0 ≤ (ad : Int) := dA
            have bd : ad < (ae.length : Int) := dA
            obtain ⟨af,bO,bP,bQ,bR,dl,aP,ay,az,aQ,aR,aS,aT⟩ := at_T36 (Kd.N_reads' ag.out).2.2 ad bc bd
            cases dl
            obtain ⟨dQ,bS,bT,aI⟩ := Kd.N_get ag.out z36 ad bc (by first|exact bd|exact dA|(have e_ := (Kd.N_reads' ag.out).1;omega))
            obtain ⟨cJ,cK,cL,cN,rfl,aA,aB,aC,aD⟩ := k36_openF bT
            have ap := aI 1 _ rfl
            rw [add_field _ _ 1 (by omega)] at ap
            replace ap := Option.some.inj (ap.symm.trans ay)
            injection ap with hva_ hvn_ hvc_
            rw [hva_] at aB
            rw [hvc_] at aA
            have ai := aK (show Kd.V (Kd.int .i64) 3 _ w.heap.size _ _ ((rd_T36 ae ad).f1) from Kd.V_mk aA aB)
            clear hva_ hvn_ hvc_ aB aA
            have aq := aI 2 _ rfl
            rw [add_field _ _ 2 (by omega)] at aq
            replace aq := Option.some.inj (aq.symm.trans az)
            injection aq with hva_ hvn_ hvc_
            rw [hva_] at aD
            rw [hvc_] at aC
            have aj := aK (show Kd.V Kd.string 9 _ w.heap.size _ _ ((rd_T36 ae ad).f2) from Kd.V_mk aC aD)
            clear hva_ hvn_ hvc_ aD aC
            clear aI bS
            have ak := aK aR
            have cO := aK aQ
            clear aR aQ
            have al := aK aT
            have cP := aK aS
            clear aT aS
            replace bc := eq_true bc
            replace bd := eq_true bd
            refine start_ (n := 8) (S := fun w' => w'.cell? ⟨ah,0,none⟩ = some (.string av) ∧ w'.cell? ⟨ah,1,none⟩ = some (.slice aY aw.length aZ) ∧ w'.cell? ⟨ah,2,none⟩ = some (.slice a0 ax.length a1) ∧ w'.cell? (af.add ((ad).toNat * 3)) = some (.string ((rd_T36 ae ad).f0)) ∧ w'.cell? ⟨(af.add ((ad).toNat * 3)).block,(af.add ((ad).toNat * 3)).off + 1,none⟩ = some (.slice bO ((rd_T36 ae ad).f1).length bP) ∧ w'.cell? ⟨(af.add ((ad).toNat * 3)).block,(af.add ((ad).toNat * 3)).off + 2,none⟩ = some (.slice bQ ((rd_T36 ae ad).f2).length bR)) (ds := []) (bA 8 0) (by kernel_rfl) rfl rfl ⟨(blk_cell ac.out 0).trans rfl,(blk_cell ac.out 1).trans rfl,(blk_cell ac.out 2).trans rfl,aP,ay,az⟩ (fun hHeld => ?_);refine with_tabW l43_GroupSteady.tab12 l43_GroupSteady.bits12 (fun HT_ HW_ => ?_)
            generalize wr.drew = w51 at am ag aa ab ac HB ai aj ak al aP ay az hHeld ⊢
            refine pure_ (i := 0) (N := some 49) (v := ?_) (a' := ?_) (bA 8 1) rfl rfl (any_of HT_.out (by kernel_rfl)) (fun _ _ _ h => h) (Or.inl ⟨by rfl,?_⟩) ?_ ?_
            rotate_left
            ·intro w'
             go_simp
             with_reducible rfl
            rotate_left
            ·simp only [Act.put,z1_,z2_,z3_,i64_w,i32_w]
             rfl
            refine pure_ (i := 1) (N := some 50) (v := ?_) (a' := ?_) (bA 8 3) rfl rfl (any_of HT_.out (by kernel_rfl)) (fun _ _ _ h => h) (Or.inl ⟨by rfl,?_⟩) ?_ ?_
            rotate_left
            ·intro w'
             go_simp
             with_reducible rfl
            rotate_left
            ·simp only [Act.put,z1_,z2_,z3_,i64_w,i32_w]
             rfl
            refine pure_ (i := 2) (N := some 51) (v := ?_) (a' := ?_) (bA 8 7) rfl rfl (any_of HT_.out (by kernel_rfl)) (fun _ _ _ h => h) (Or.inl ⟨by rfl,?_⟩) ?_ ?_
            rotate_left
            ·intro w'
             go_simp
             with_reducible rfl
            rotate_left
            ·simp only [Act.put,z1_,z2_,z3_,i64_w,i32_w]
             rfl
            refine pure_ (i := 3) (N := some 52) (v := ?_) (a' := ?_) (bA 8 15) rfl rfl (any_of HT_.out (by kernel_rfl)) (fun _ _ _ h => h) (Or.inl ⟨by rfl,?_⟩) ?_ ?_
            rotate_left
            ·intro w'
             go_simp
             with_reducible rfl
            rotate_left
            ·simp only [Act.put,z1_,z2_,z3_,i64_w,i32_w]
             rfl
            refine pure_ (i := 5) (N := some 54) (v := ?_) (a' := ?_) (bA 8 47) rfl rfl (any_of HT_.out (by kernel_rfl)) (fun _ _ _ h => h) (Or.inl ⟨by rfl,?_⟩) ?_ ?_
            rotate_left
            ·intro w'
             go_simp
             with_reducible rfl
            rotate_left
            ·simp only [Act.put,z1_,z2_,z3_,i64_w,i32_w]
             rfl
            refine take_ (i := 4) (N := some 53) (v := ?_) (a' := ?_) (bA 8 63) rfl rfl (take_ofW HT_.out HW_.out (by kernel_rfl)) (fun _ _ _ h => h) (Or.inl ⟨by rfl,?_⟩) hHeld ?_ ?_
            rotate_left
            ·rintro w' ⟨s0,s1,s2,s3,s4,s5⟩
             go_simp
             with_reducible rfl
            rotate_left
            ·simp only [Act.put,z1_,z2_,z3_,i64_w,i32_w]
             rfl
            refine take_ (i := 6) (N := some 55) (v := ?_) (a' := ?_) (bA 8 127) rfl rfl (take_ofW HT_.out HW_.out (by kernel_rfl)) (fun _ _ _ h => h) (Or.inl ⟨by rfl,?_⟩) hHeld ?_ ?_
            rotate_left
            ·rintro w' ⟨s0,s1,s2,s3,s4,s5⟩
             go_simp
             with_reducible rfl
            rotate_left
            ·simp only [Act.put,z1_,z2_,z3_,i64_w,i32_w]
             rfl
            refine pure_ (i := 7) (N := some 56) (v := ?_) (a' := ?_) (bA 8 255) rfl rfl (any_of HT_.out (by kernel_rfl)) (fun _ _ _ h => h) (Or.inl ⟨by rfl,?_⟩) ?_ ?_
            rotate_left
            ·intro w'
             go_simp
             with_reducible rfl
            rotate_left
            ·simp only [Act.put,z1_,z2_,z3_,i64_w,i32_w]
             rfl
            refine done_ (done_of HT_.out (by kernel_rfl)) ?_
            try go_wp2
            have bs := aK (Kd.V_drew am.out)
            have bu := aK (Kd.N_drew ag.out)
            have bv := aK (Kd.V_drew aa.out)
            have bx := aK (Kd.V_drew ab.out)
            have bz := aK (Kd.V_drew ai.out)
            have bB := aK (Kd.V_drew aj.out)
            have cf := aK (blk_drew ac.out)
            have cg := aK (Kd.C_drew ak.out)
            have ch := aK (Kd.C_drew al.out)
            have ci := aK (below_drew1 HB.out)
            clear am
            clear ag
            clear aa
            clear ab
            clear ai
            clear aj
            clear ac
            clear ak
            clear al
            clear HB
            have am := bs
            have ag := bu
            have aa := bv
            have ab := bx
            have ai := bz
            have aj := bB
            have ac := cf
            have ak := cg
            have al := ch
            have HB := ci
            clear bs bu bv bx bz bB cf cg ch ci
            have ck : 0 ≤ (ad : Int) := dA
            have cl : ad < (ae.length : Int) := dA
            obtain ⟨dw,cm,cn,co,cp,eb,bi,aU,aV,bE,bF,bH,bI⟩ := at_T36 (Kd.N_reads' ag.out).2.2 ad ck cl
            obtain rfl : af = dw := (by injection eb)
            obtain ⟨eU,cY,cZ,bC⟩ := Kd.N_get ag.out z36 ad ck (by first|exact cl|exact dA|(have e_ := (Kd.N_reads' ag.out).1;omega))
            obtain ⟨dR,dS,dT,dU,rfl,a4,a5,a6,a7⟩ := k36_openF cZ
            have aW := bC 1 _ rfl
            rw [add_field _ _ 1 (by omega)] at aW
            replace aW := Option.some.inj (aW.symm.trans aU)
            injection aW with hva_ hvn_ hvc_
            rw [hva_] at a5
            rw [hvc_] at a4
            have aE := aK (show Kd.V (Kd.int .i64) 3 _ w.heap.size _ _ ((rd_T36 ae ad).f1) from Kd.V_mk a4 a5)
            clear hva_ hvn_ hvc_ a5 a4
            have aX := bC 2 _ rfl
            rw [add_field _ _ 2 (by omega)] at aX
            replace aX := Option.some.inj (aX.symm.trans aV)
            injection aX with hva_ hvn_ hvc_
            rw [hva_] at a7
            rw [hvc_] at a6
            have aF := aK (show Kd.V Kd.string 9 _ w.heap.size _ _ ((rd_T36 ae ad).f2) from Kd.V_mk a6 a7)
            clear hva_ hvn_ hvc_ a7 a6
            clear bC cY
            have aG := aK bF
            have dV := aK bE
            clear bF bE
            have aH := aK bI
            have dW := aK bH
            clear bI bH
            replace ck := eq_true ck
            replace cl := eq_true cl
            have dh : 0 ≤ (ad : Int) := dA
            have di : ad < (ae.length : Int) := dA
            obtain ⟨ec,e0,e1,e2,e3,e4,cd,ba,bb,cA,cB,cC,cD⟩ := at_T36 (Kd.N_reads' ag.out).2.2 ad dh di
            obtain rfl : af = ec := (by injection e4)
            obtain ⟨fv,dC,dD,cq⟩ := Kd.N_get ag.out z36 ad dh (by first|exact di|exact dA|(have e_ := (Kd.N_reads' ag.out).1;omega))
            obtain ⟨eA,eB,eC,eD,rfl,b1,b2,b3,b4⟩ := k36_openF dD
            have bj := cq 1 _ rfl
            rw [add_field _ _ 1 (by omega)] at bj
            replace bj := Option.some.inj (bj.symm.trans ba)
            injection bj with hva_ hvn_ hvc_
            rw [hva_] at b2
            rw [hvc_] at b1
            have aJ := aK (show Kd.V (Kd.int .i64) 3 _ w.heap.size _ _ ((rd_T36 ae ad).f1) from Kd.V_mk b1 b2)
            clear hva_ hvn_ hvc_ b2 b1
            have bk := cq 2 _ rfl
            rw [add_field _ _ 2 (by omega)] at bk
            replace bk := Option.some.inj (bk.symm.trans bb)
            injection bk with hva_ hvn_ hvc_
            rw [hva_] at b4
            rw [hvc_] at b3
            have aL := aK (show Kd.V Kd.string 9 _ w.heap.size _ _ ((rd_T36 ae ad).f2) from Kd.V_mk b3 b4)
            clear hva_ hvn_ hvc_ b4 b3
            clear cq dC
            have aM := aK cB
            have eE := aK cA
            clear cB cA
            have aN := aK cD
            have eF := aK cC
            clear cD cC
            replace dh := eq_true dh
            replace di := eq_true di
            have ea_ := Option.some.inj (aU.symm.trans ba)
            injection ea_ with ea_ en_ ec_
            subst ea_
            subst ec_
            clear en_
            have ea_ := Option.some.inj (aV.symm.trans bb)
            injection ea_ with ea_ en_ ec_
            subst ea_
            subst ec_
            clear en_
            have dj : 0 ≤ (ad : Int) := dA
            have dk : ad < (ae.length : Int) := dA
            obtain ⟨ed,dE,dF,dG,dH,e5,ce,bJ,bK,cE,cF,cG,cH⟩ := at_T36 (Kd.N_reads' ag.out).2.2 ad dj dk
            obtain rfl : af = ed := (by injection e5)
            obtain ⟨fw,dI,dJ,cr⟩ := Kd.N_get ag.out z36 ad dj (by first|exact dk|exact dA|(have e_ := (Kd.N_reads' ag.out).1;omega))
            obtain ⟨eG,eH,eI,eJ,rfl,b5,b6,b7,b8⟩ := k36_openF dJ
            have bm := cr 1 _ rfl
            rw [add_field _ _ 1 (by omega)] at bm
            replace bm := Option.some.inj (bm.symm.trans bJ)
            injection bm with hva_ hvn_ hvc_
            rw [hva_] at b6
            rw [hvc_] at b5
            have bn := aK (show Kd.V (Kd.int .i64) 3 _ w.heap.size _ _ ((rd_T36 ae ad).f1) from Kd.V_mk b5 b6)
            clear hva_ hvn_ hvc_ b6 b5
            have bo := cr 2 _ rfl
            rw [add_field _ _ 2 (by omega)] at bo
            replace bo := Option.some.inj (bo.symm.trans bK)
            injection bo with hva_ hvn_ hvc_
            rw [hva_] at b8
            rw [hvc_] at b7
            have bp := aK (show Kd.V Kd.string 9 _ w.heap.size _ _ ((rd_T36 ae ad).f2) from Kd.V_mk b7 b8)
            clear hva_ hvn_ hvc_ b8 b7
            clear cr dI
            have bq := aK cF
            have eK := aK cE
            clear cF cE
            have br := aK cH
            have eL := aK cG
            clear cH cG
            replace dj := eq_true dj
            replace dk := eq_true dk
            refine start_ (n := 28) (S := fun w' => w'.cell? ⟨ah,0,none⟩ = some (.string av) ∧ w'.cell? ⟨ah,1,none⟩ = some (.slice aY aw.length aZ) ∧ w'.cell? ⟨ah,2,none⟩ = some (.slice a0 ax.length a1) ∧ w'.cell? (af.add ((ad).toNat * 3)) = some (.string ((rd_T36 ae ad).f0)) ∧ w'.cell? ⟨(af.add ((ad).toNat * 3)).block,(af.add ((ad).toNat * 3)).off + 1,none⟩ = some (.slice cm ((rd_T36 ae ad).f1).length cn) ∧ w'.cell? ⟨(af.add ((ad).toNat * 3)).block,(af.add ((ad).toNat * 3)).off + 2,none⟩ = some (.slice co ((rd_T36 ae ad).f2).length cp) ∧ w'.cell? (af.add ((ad).toNat * 3)) = some (.string ((rd_T36 ae ad).f0)) ∧ w'.cell? ⟨(af.add ((ad).toNat * 3)).block,(af.add ((ad).toNat * 3)).off + 1,none⟩ = some (.slice cm ((rd_T36 ae ad).f1).length cn) ∧ w'.cell? ⟨(af.add ((ad).toNat * 3)).block,(af.add ((ad).toNat * 3)).off + 2,none⟩ = some (.slice co ((rd_T36 ae ad).f2).length cp) ∧ w'.cell? (af.add ((ad).toNat * 3)) = some (.string ((rd_T36 ae ad).f0)) ∧ w'.cell? ⟨(af.add ((ad).toNat * 3)).block,(af.add ((ad).toNat * 3)).off + 1,none⟩ = some (.slice dE ((rd_T36 ae ad).f1).length dF) ∧ w'.cell? ⟨(af.add ((ad).toNat * 3)).block,(af.add ((ad).toNat * 3)).off + 2,none⟩ = some (.slice dG ((rd_T36 ae ad).f2).length dH)) (ds := []) (bA 28 0) (by kernel_rfl) rfl rfl ⟨(blk_cell ac.out 0).trans rfl,(blk_cell ac.out 1).trans rfl,(blk_cell ac.out 2).trans rfl,bi,aU,aV,cd,ba,bb,ce,bJ,bK⟩ (fun hHeld => ?_);refine with_tabW l43_GroupSteady.tab16 l43_GroupSteady.bits16 (fun HT_ HW_ => ?_)
            generalize w51.drew = w52 at am ag aa ab ai aj ac ak al HB aE aF aJ aL bn bp aG aH aM aN bq br bi aU aV cd ba bb ce bJ bK hHeld ⊢
            refine pure_ (i := 0) (N := some 66) (v := ?_) (a' := ?_) (bA 28 1) rfl rfl (any_of HT_.out (by kernel_rfl)) (fun _ _ _ h => h) (Or.inl ⟨by rfl,?_⟩) ?_ ?_
            rotate_left
            ·intro w'
             go_simp
             with_reducible rfl
            rotate_left
            ·simp only [Act.put,z1_,z2_,z3_,i64_w,i32_w]
             rfl
            refine pure_ (i := 1) (N := some 67) (v := ?_) (a' := ?_) (bA 28 3) rfl rfl (any_of HT_.out (by kernel_rfl)) (fun _ _ _ h => h) (Or.inl ⟨by rfl,?_⟩) ?_ ?_
            rotate_left
            ·intro w'
             go_simp
             with_reducible rfl
            rotate_left
            ·simp only [Act.put,z1_,z2_,z3_,i64_w,i32_w]
             rfl
            refine pure_ (i := 2) (N := some 68) (v := ?_) (a' := ?_) (bA 28 7) rfl rfl (any_of HT_.out (by kernel_rfl)) (fun _ _ _ h => h) (Or.inl ⟨by rfl,?_⟩) ?_ ?_
            rotate_left
            ·intro w'
             go_simp
             with_reducible rfl
            rotate_left
            ·simp only [Act.put,z1_,z2_,z3_,i64_w,i32_w]
             rfl
            refine pure_ (i := 3) (N := some 69) (v := ?_) (a' := ?_) (bA 28 15) rfl rfl (any_of HT_.out (by kernel_rfl)) (fun _ _ _ h => h) (Or.inl ⟨by rfl,?_⟩) ?_ ?_
            rotate_left
            ·intro w'
             go_simp
             with_reducible rfl
            rotate_left
            ·simp only [Act.put,z1_,z2_,z3_,i64_w,i32_w]
             rfl
            refine pure_ (i := 4) (N := some 70) (v := ?_) (a' := ?_) (bA 28 31) rfl rfl (any_of HT_.out (by kernel_rfl)) (fun _ _ _ h => h) (Or.inl ⟨by rfl,?_⟩) ?_ ?_
            rotate_left
            ·intro w'
             go_simp
             with_reducible rfl
            rotate_left
            ·simp only [Act.put,z1_,z2_,z3_,i64_w,i32_w]
             rfl
            refine pure_ (i := 6) (N := some 72) (v := ?_) (a' := ?_) (bA 28 95) rfl rfl (any_of HT_.out (by kernel_rfl)) (fun _ _ _ h => h) (Or.inl ⟨by rfl,?_⟩) ?_ ?_
            rotate_left
            ·intro w'
             go_simp
             with_reducible rfl
            rotate_left
            ·simp only [Act.put,z1_,z2_,z3_,i64_w,i32_w]
             rfl
            refine take_ (i := 5) (N := some 71) (v := ?_) (a' := ?_) (bA 28 127) rfl rfl (take_ofW HT_.out HW_.out (by kernel_rfl)) (fun _ _ _ h => h) (Or.inl ⟨by rfl,?_⟩) hHeld ?_ ?_
            rotate_left
            ·rintro w' ⟨s0,s1,s2,s3,s4,s5,s6,s7,s8,s9,e6,e7⟩
             go_simp
             with_reducible rfl
            rotate_left
            ·simp only [Act.put,z1_,z2_,z3_,i64_w,i32_w]
             rfl
            refine take_ (i := 7) (N := some 73) (v := ?_) (a' := ?_) (bA 28 255) rfl rfl (take_ofW HT_.out HW_.out (by kernel_rfl)) (fun _ _ _ h => h) (Or.inl ⟨by rfl,?_⟩) hHeld ?_ ?_
            rotate_left
            ·rintro w' ⟨s0,s1,s2,s3,s4,s5,s6,s7,s8,s9,e6,e7⟩
             go_simp
             with_reducible rfl
            rotate_left
            ·simp only [Act.put,z1_,z2_,z3_,i64_w,i32_w]
             rfl
            refine one_ (i := 8) (N := some 74) (bA 28 511) rfl rfl (one_of HT_.out (by kernel_rfl)) (by decide) (fun K hK => ?_)
            refine goes_ Tryz.func31 (by kernel_rfl) rfl #[.slice (some af) ae.length fu,.string ((rd_T36 ae ad).f0),.string av,.int .i64 7] (by rfl) rfl rfl (by (try simp only [z4_,z5_,z6_]);first|done|rfl|(simp only [z7_,z8_];rfl)) ?_
            with_reducible refine (l43_contains.calls k2 _ _ ae ((rd_T36 ae ad).f0) av 7 false _ ?an ?ao f4.out).mono ?_
            (case an => exact cM (Kd.N_reads' ag.out).2.2)
            (case ao => exact (Kd.N_reads' ag.out).2.1)
            rintro e w' ⟨rfl,⟨nd,rfl⟩⟩
            refine ⟨_,rfl,?_⟩
            refine hK.out _ _ ⟨(blk_cell ac.out 0).trans rfl,(blk_cell ac.out 1).trans rfl,(blk_cell ac.out 2).trans rfl,hHeld.2.2.2.1,hHeld.2.2.2.2.1,hHeld.2.2.2.2.2.1,hHeld.2.2.2.2.2.2.1,hHeld.2.2.2.2.2.2.2.1,hHeld.2.2.2.2.2.2.2.2.1,hHeld.2.2.2.2.2.2.2.2.2.1,hHeld.2.2.2.2.2.2.2.2.2.2.1,hHeld.2.2.2.2.2.2.2.2.2.2.2⟩ (fun hHeld => ?_)
            clear hK K
            refine norm_ (a' := ?_) ?_ ?_
            rotate_left
            ·show Act.put _ (some 74) _ = _
             simp only [Act.put,z1_,z2_,z3_,i64_w,i32_w]
             rfl
            refine pure_ (i := 9) (N := some 75) (v := ?_) (a' := ?_) (bA 28 1023) rfl rfl (any_of HT_.out (by kernel_rfl)) (fun _ _ _ h => h) (Or.inl ⟨by rfl,?_⟩) ?_ ?_
            rotate_left
            ·intro w'
             go_simp
             with_reducible rfl
            rotate_left
            ·simp only [Act.put,z1_,z2_,z3_,i64_w,i32_w]
             rfl
            refine pure_ (i := 10) (N := some 76) (v := ?_) (a' := ?_) (bA 28 2047) rfl rfl (any_of HT_.out (by kernel_rfl)) (fun _ _ _ h => h) (Or.inl ⟨by rfl,?_⟩) ?_ ?_
            rotate_left
            ·intro w'
             go_simp
             with_reducible rfl
            rotate_left
            ·simp only [Act.put,z1_,z2_,z3_,i64_w,i32_w]
             rfl
            refine pure_ (i := 11) (N := some 77) (v := ?_) (a' := ?_) (bA 28 4095) rfl rfl (any_of HT_.out (by kernel_rfl)) (fun _ _ _ h => h) (Or.inl ⟨by rfl,?_⟩) ?_ ?_
            rotate_left
            ·intro w'
             go_simp
             with_reducible rfl
            rotate_left
            ·simp only [Act.put,z1_,z2_,z3_,i64_w,i32_w]
             rfl
            refine pure_ (i := 12) (N := some 78) (v := ?_) (a' := ?_) (bA 28 8191) rfl rfl (any_of HT_.out (by kernel_rfl)) (fun _ _ _ h => h) (Or.inl ⟨by rfl,?_⟩) ?_ ?_
            rotate_left
            ·intro w'
             go_simp
             with_reducible rfl
            rotate_left
            ·simp only [Act.put,z1_,z2_,z3_,i64_w,i32_w]
             rfl
            refine pure_ (i := 13) (N := some 79) (v := ?_) (a' := ?_) (bA 28 16383) rfl rfl (any_of HT_.out (by kernel_rfl)) (fun _ _ _ h => h) (Or.inl ⟨by rfl,?_⟩) ?_ ?_
            rotate_left
            ·intro w'
             go_simp
             with_reducible rfl
            rotate_left
            ·simp only [Act.put,z1_,z2_,z3_,i64_w,i32_w]
             rfl
            refine pure_ (i := 14) (N := some 80) (v := ?_) (a' := ?_) (bA 28 32767) rfl rfl (any_of HT_.out (by kernel_rfl)) (fun _ _ _ h => h) (Or.inl ⟨by rfl,?_⟩) ?_ ?_
            rotate_left
            ·intro w'
             go_simp
             with_reducible rfl
            rotate_left
            ·simp only [Act.put,z1_,z2_,z3_,i64_w,i32_w]
             rfl
            refine pure_ (i := 15) (N := some 81) (v := ?_) (a' := ?_) (bA 28 65535) rfl rfl (any_of HT_.out (by kernel_rfl)) (fun _ _ _ h => h) (Or.inl ⟨by rfl,?_⟩) ?_ ?_
            rotate_left
            ·intro w'
             go_simp
             with_reducible rfl
            rotate_left
            ·simp only [Act.put,z1_,z2_,z3_,i64_w,i32_w]
             rfl
            refine pure_ (i := 18) (N := some 84) (v := ?_) (a' := ?_) (bA 28 327679) rfl rfl (any_of HT_.out (by kernel_rfl)) (fun _ _ _ h => h) (Or.inl ⟨by rfl,?_⟩) ?_ ?_
            rotate_left
            ·intro w'
             go_simp
             with_reducible rfl
            rotate_left
            ·simp only [Act.put,z1_,z2_,z3_,i64_w,i32_w]
             rfl
            refine pure_ (i := 19) (N := some 85) (v := ?_) (a' := ?_) (bA 28 851967) rfl rfl (any_of HT_.out (by kernel_rfl)) (fun _ _ _ h => h) (Or.inl ⟨by rfl,?_⟩) ?_ ?_
            rotate_left
            ·intro w'
             go_simp
             with_reducible rfl
            rotate_left
            ·simp only [Act.put,z1_,z2_,z3_,i64_w,i32_w]
             rfl
            refine pure_ (i := 20) (N := some 86) (v := ?_) (a' := ?_) (bA 28 1900543) rfl rfl (any_of HT_.out (by kernel_rfl)) (fun _ _ _ h => h) (Or.inl ⟨by rfl,?_⟩) ?_ ?_
            rotate_left
            ·intro w'
             go_simp
             with_reducible rfl
            rotate_left
            ·simp only [Act.put,z1_,z2_,z3_,i64_w,i32_w]
             rfl
            refine pure_ (i := 21) (N := some 87) (v := ?_) (a' := ?_) (bA 28 3997695) rfl rfl (any_of HT_.out (by kernel_rfl)) (fun _ _ _ h => h) (Or.inl ⟨by rfl,?_⟩) ?_ ?_
            rotate_left
            ·intro w'
             go_simp
             with_reducible rfl
            rotate_left
            ·simp only [Act.put,z1_,z2_,z3_,i64_w,i32_w]
             rfl
            refine pure_ (i := 22) (N := some 88) (v := ?_) (a' := ?_) (bA 28 8191999) rfl rfl (any_of HT_.out (by kernel_rfl)) (fun _ _ _ h => h) (Or.inl ⟨by rfl,?_⟩) ?_ ?_
            rotate_left
            ·intro w'
             go_simp
             with_reducible rfl
            rotate_left
            ·simp only [Act.put,z1_,z2_,z3_,i64_w,i32_w]
             rfl
            refine take_ (i := 16) (N := some 82) (v := ?_) (a' := ?_) (bA 28 8257535) rfl rfl (take_ofW HT_.out HW_.out (by kernel_rfl)) (fun _ _ _ h => h) (Or.inl ⟨by rfl,?_⟩) hHeld ?_ ?_
            rotate_left
            ·rintro w' ⟨s0,s1,s2,s3,s4,s5,s6,s7,s8,s9,e6,e7⟩
             go_simp
             with_reducible rfl
            rotate_left
            ·simp only [Act.put,z1_,z2_,z3_,i64_w,i32_w]
             rfl
            refine take_ (i := 23) (N := some 89) (v := ?_) (a' := ?_) (bA 28 16646143) rfl rfl (take_ofW HT_.out HW_.out (by kernel_rfl)) (fun _ _ _ h => h) (Or.inl ⟨by rfl,?_⟩) hHeld ?_ ?_
            rotate_left
            ·rintro w' ⟨s0,s1,s2,s3,s4,s5,s6,s7,s8,s9,e6,e7⟩
             go_simp
             with_reducible rfl
            rotate_left
            ·simp only [Act.put,z1_,z2_,z3_,i64_w,i32_w]
             rfl
            refine one_ (i := 17) (N := some 83) (bA 28 16777215) rfl rfl (one_of HT_.out (by kernel_rfl)) (by decide) (fun K hK => ?_)
            refine goes_ Tryz.func14 (by kernel_rfl) rfl #[.slice (some af) ae.length fu,.string ((rd_T36 ae ad).f0)] (by rfl) rfl rfl (by (try simp only [z4_,z5_,z6_]);first|done|rfl|(simp only [z7_,z8_];rfl)) ?_
            with_reducible refine (group_Users.calls k2 _ _ ae ((rd_T36 ae ad).f0) dX _ ?an ?ao gB.out).mono ?_
            (case an => exact cM (Kd.N_reads' ag.out).2.2)
            (case ao => exact (Kd.N_reads' ag.out).2.1)
            rintro e g8 ⟨f9,rfl,aO,hb⟩
            have cV := (hb.cell (World.block_lt_of_cell? _ _ (hHeld.2.2.2.1))).trans (hHeld.2.2.2.1)
            have cW := (hb.cell (World.block_lt_of_cell? _ _ (hHeld.2.2.2.2.1))).trans (hHeld.2.2.2.2.1)
            have cX := (hb.cell (World.block_lt_of_cell? _ _ (hHeld.2.2.2.2.2.1))).trans (hHeld.2.2.2.2.2.1)
            have dK := (hb.cell (World.block_lt_of_cell? _ _ (hHeld.2.2.2.2.2.2.1))).trans (hHeld.2.2.2.2.2.2.1)
            have dL := (hb.cell (World.block_lt_of_cell? _ _ (hHeld.2.2.2.2.2.2.2.1))).trans (hHeld.2.2.2.2.2.2.2.1)
            have dM := (hb.cell (World.block_lt_of_cell? _ _ (hHeld.2.2.2.2.2.2.2.2.1))).trans (hHeld.2.2.2.2.2.2.2.2.1)
            have dN := (hb.cell (World.block_lt_of_cell? _ _ (hHeld.2.2.2.2.2.2.2.2.2.1))).trans (hHeld.2.2.2.2.2.2.2.2.2.1)
            have c1 := (hb.cell (World.block_lt_of_cell? _ _ (hHeld.2.2.2.2.2.2.2.2.2.2.1))).trans (hHeld.2.2.2.2.2.2.2.2.2.2.1)
            have da := (hb.cell (World.block_lt_of_cell? _ _ (hHeld.2.2.2.2.2.2.2.2.2.2.2))).trans (hHeld.2.2.2.2.2.2.2.2.2.2.2)
            refine ⟨_,rfl,?_⟩
            have bs := aK (Kd.V_elder' (vM am.out) (Kd.R_base aO) hb)
            have bu := aK (Kd.N_elder' (nM ag.out) (Kd.R_base aO) hb)
            have bv := aK (Kd.V_elder' (vM aa.out) (Kd.R_base aO) hb)
            have bx := aK (Kd.V_elder' (vM ab.out) (Kd.R_base aO) hb)
            have bz := aK (Kd.V_elder' (vM ai.out) (Kd.R_base aO) hb)
            have bB := aK (Kd.V_elder' (vM aj.out) (Kd.R_base aO) hb)
            have cf := aK (Kd.V_elder' (vM aE.out) (Kd.R_base aO) hb)
            have cg := aK (Kd.V_elder' (vM aF.out) (Kd.R_base aO) hb)
            have ch := aK (Kd.V_elder' (vM aJ.out) (Kd.R_base aO) hb)
            have ci := aK (Kd.V_elder' (vM aL.out) (Kd.R_base aO) hb)
            have b9 := aK (Kd.R_lower (Kd.R_newM (M := fun k_ => (w.heap.size ≤ k_)) aO (below_size (bG HB.out)) (fun k_ h_ => h_)) (below_size (bG HB.out)))
            have ca := aK (blk_below (kM ac.out) hb)
            have cb := aK (Kd.C_below (cM ak.out) hb)
            have cc := aK (Kd.C_below (cM al.out) hb)
            have db := aK (Kd.C_below (cM aG.out) hb)
            have dc := aK (Kd.C_below (cM aH.out) hb)
            have dd := aK (Kd.C_below (cM aM.out) hb)
            have de := aK (Kd.C_below (cM aN.out) hb)
            have df := aK (below_step (bG HB.out) hb)
            clear am
            clear ag
            clear aa
            clear ab
            clear ai
            clear aj
            clear aE
            clear aF
            clear aJ
            clear aL
            clear ac
            clear ak
            clear al
            clear aG
            clear aH
            clear aM
            clear aN
            clear HB
            have am := bs
            have ag := bu
            have aa := bv
            have ab := bx
            have ai := bz
            have aj := bB
            have aE := cf
            have aF := cg
            have aJ := ch
            have aL := ci
            have bD := b9
            have ac := ca
            have ak := cb
            have al := cc
            have aG := db
            have aH := dc
            have aM := dd
            have aN := de
            have HB := df
            clear bs bu bv bx bz bB cf cg ch ci b9 ca cb cc db dc dd de df
            (try clear hb)
            (try clear hk)
            (try clear aO)
            refine hK.out _ _ ⟨(blk_cell ac.out 0).trans rfl,(blk_cell ac.out 1).trans rfl,(blk_cell ac.out 2).trans rfl,cV,cW,cX,dK,dL,dM,dN,c1,da⟩ (fun hHeld => ?_)
            clear hK K
            refine norm_ (a' := ?_) ?_ ?_
            rotate_left
            ·show Act.put _ (some 83) _ = _
             simp only [Act.put,z1_,z2_,z3_,i64_w,i32_w]
             rfl
            refine one_ (i := 24) (N := some 90) (bA 28 33554431) rfl rfl (one_of HT_.out (by kernel_rfl)) (by decide) (fun K hK => ?_)
            refine goes_ Tryz.func14 (by kernel_rfl) rfl #[.slice A0 l0.length c0,.string ((rd_T36 ae ad).f0)] (by rfl) rfl rfl (by (try simp only [z4_,z5_,z6_]);first|done|rfl|(simp only [z7_,z8_];rfl)) ?_
            with_reducible refine (group_Users.calls k2 _ _ l0 ((rd_T36 ae ad).f0) dY _ ?an ?ao gC.out).mono ?_
            (case an => exact cM (Kd.V_reads' am.out).2.2)
            (case ao => exact (Kd.V_reads' am.out).2.1)
            rintro e g9 ⟨ga,rfl,aO,hb⟩
            have cV := (hb.cell (World.block_lt_of_cell? _ _ (hHeld.2.2.2.1))).trans (hHeld.2.2.2.1)
            have cW := (hb.cell (World.block_lt_of_cell? _ _ (hHeld.2.2.2.2.1))).trans (hHeld.2.2.2.2.1)
            have cX := (hb.cell (World.block_lt_of_cell? _ _ (hHeld.2.2.2.2.2.1))).trans (hHeld.2.2.2.2.2.1)
            have dK := (hb.cell (World.block_lt_of_cell? _ _ (hHeld.2.2.2.2.2.2.1))).trans (hHeld.2.2.2.2.2.2.1)
            have dL := (hb.cell (World.block_lt_of_cell? _ _ (hHeld.2.2.2.2.2.2.2.1))).trans (hHeld.2.2.2.2.2.2.2.1)
            have dM := (hb.cell (World.block_lt_of_cell? _ _ (hHeld.2.2.2.2.2.2.2.2.1))).trans (hHeld.2.2.2.2.2.2.2.2.1)
            have dN := (hb.cell (World.block_lt_of_cell? _ _ (hHeld.2.2.2.2.2.2.2.2.2.1))).trans (hHeld.2.2.2.2.2.2.2.2.2.1)
            have c1 := (hb.cell (World.block_lt_of_cell? _ _ (hHeld.2.2.2.2.2.2.2.2.2.2.1))).trans (hHeld.2.2.2.2.2.2.2.2.2.2.1)
            have da := (hb.cell (World.block_lt_of_cell? _ _ (hHeld.2.2.2.2.2.2.2.2.2.2.2))).trans (hHeld.2.2.2.2.2.2.2.2.2.2.2)
            refine ⟨_,rfl,?_⟩
            have bs := aK (Kd.V_elder' (vM am.out) (Kd.R_base aO) hb)
            have bu := aK (Kd.N_elder' (nM ag.out) (Kd.R_base aO) hb)
            have bv := aK (Kd.V_elder' (vM aa.out) (Kd.R_base aO) hb)
            have bx := aK (Kd.V_elder' (vM ab.out) (Kd.R_base aO) hb)
            have bz := aK (Kd.V_elder' (vM ai.out) (Kd.R_base aO) hb)
            have bB := aK (Kd.V_elder' (vM aj.out) (Kd.R_base aO) hb)
            have cf := aK (Kd.V_elder' (vM aE.out) (Kd.R_base aO) hb)
            have cg := aK (Kd.V_elder' (vM aF.out) (Kd.R_base aO) hb)
            have ch := aK (Kd.V_elder' (vM aJ.out) (Kd.R_base aO) hb)
            have ci := aK (Kd.V_elder' (vM aL.out) (Kd.R_base aO) hb)
            have b9 := aK (Kd.R_elder' (rM bD.out) (Kd.R_base aO) hb)
            have cc := aK (Kd.R_lower (Kd.R_new' (Kd.R_newM (M := fun k_ => (w.heap.size ≤ k_)) aO (below_size (bG HB.out)) (fun k_ h_ => h_)) (Kd.R_lt (rM bD.out))) (below_size (bG HB.out)))
            have db := aK (blk_below (kM ac.out) hb)
            have dc := aK (Kd.C_below (cM ak.out) hb)
            have dd := aK (Kd.C_below (cM al.out) hb)
            have de := aK (Kd.C_below (cM aG.out) hb)
            have df := aK (Kd.C_below (cM aH.out) hb)
            have ee := aK (Kd.C_below (cM aM.out) hb)
            have ef := aK (Kd.C_below (cM aN.out) hb)
            have ei := aK (below_step (bG HB.out) hb)
            clear am
            clear ag
            clear aa
            clear ab
            clear ai
            clear aj
            clear aE
            clear aF
            clear aJ
            clear aL
            clear bD
            clear ac
            clear ak
            clear al
            clear aG
            clear aH
            clear aM
            clear aN
            clear HB
            have am := bs
            have ag := bu
            have aa := bv
            have ab := bx
            have ai := bz
            have aj := bB
            have aE := cf
            have aF := cg
            have aJ := ch
            have aL := ci
            have bD := b9
            have dg := cc
            have ac := db
            have ak := dc
            have al := dd
            have aG := de
            have aH := df
            have aM := ee
            have aN := ef
            have HB := ei
            clear bs bu bv bx bz bB cf cg ch ci b9 cc db dc dd de df ee ef ei
            (try clear hb)
            (try clear hk)
            (try clear aO)
            obtain ⟨gb,gc,fx⟩ := Kd.R_slice bD.out
            (first|subst fx|(injection fx with f1_ f2_ f3_;have e8 := f1_.symm;have e9 := f3_.symm;clear f1_ f2_ f3_;subst e8;subst e9))
            obtain ⟨gf,gg,fy⟩ := Kd.R_slice dg.out
            (first|subst fy|(injection fy with f1_ f2_ f3_;have e8 := f1_.symm;have e9 := f3_.symm;clear f1_ f2_ f3_;subst e8;subst e9))
            refine hK.out _ _ ⟨(blk_cell ac.out 0).trans rfl,(blk_cell ac.out 1).trans rfl,(blk_cell ac.out 2).trans rfl,cV,cW,cX,dK,dL,dM,dN,c1,da⟩ (fun hHeld => ?_)
            clear hK K
            refine norm_ (a' := ?_) ?_ ?_
            rotate_left
            ·show Act.put _ (some 90) _ = _
             simp only [Act.put,z1_,z2_,z3_,i64_w,i32_w]
             rfl
            refine one_ (i := 25) (N := some 91) (bA 28 67108863) rfl rfl (one_of HT_.out (by kernel_rfl)) (by decide) (fun K hK => ?_)
            refine goes_ Tryz.func13 (by kernel_rfl) rfl #[.slice gb dX.length gc,.slice gf dY.length gg] (by rfl) rfl rfl (by (try simp only [z4_,z5_,z6_]);first|done|rfl|(simp only [z7_,z8_];rfl)) ?_
            with_reducible refine (r05_Same.calls k2 _ _ dX _ _ dY true _ ?an ?ao ?bL ?cz gD.out).mono ?_
            (case an => exact cM (Kd.R_reads' bD.out).2.2)
            (case ao => exact (Kd.R_reads' bD.out).2.1)
            (case bL => exact cM (Kd.R_reads' dg.out).2.2)
            (case cz => exact (Kd.R_reads' dg.out).2.1)
            rintro e w' ⟨rfl,⟨nd,rfl⟩⟩
            refine ⟨_,rfl,?_⟩
            refine hK.out _ _ ⟨(blk_cell ac.out 0).trans rfl,(blk_cell ac.out 1).trans rfl,(blk_cell ac.out 2).trans rfl,hHeld.2.2.2.1,hHeld.2.2.2.2.1,hHeld.2.2.2.2.2.1,hHeld.2.2.2.2.2.2.1,hHeld.2.2.2.2.2.2.2.1,hHeld.2.2.2.2.2.2.2.2.1,hHeld.2.2.2.2.2.2.2.2.2.1,hHeld.2.2.2.2.2.2.2.2.2.2.1,hHeld.2.2.2.2.2.2.2.2.2.2.2⟩ (fun hHeld => ?_)
            clear hK K
            refine norm_ (a' := ?_) ?_ ?_
            rotate_left
            ·show Act.put _ (some 91) _ = _
             simp only [Act.put,z1_,z2_,z3_,i64_w,i32_w]
             rfl
            refine pure_ (i := 26) (N := some 92) (v := ?_) (a' := ?_) (bA 28 134217727) rfl rfl (any_of HT_.out (by kernel_rfl)) (fun _ _ _ h => h) (Or.inl ⟨by rfl,?_⟩) ?_ ?_
            rotate_left
            ·intro w'
             go_simp
             with_reducible rfl
            rotate_left
            ·simp only [Act.put,z1_,z2_,z3_,i64_w,i32_w]
             rfl
            refine pure_ (i := 27) (N := some 93) (v := ?_) (a' := ?_) (bA 28 268435455) rfl rfl (any_of HT_.out (by kernel_rfl)) (fun _ _ _ h => h) (Or.inl ⟨by rfl,?_⟩) ?_ ?_
            rotate_left
            ·intro w'
             go_simp
             with_reducible rfl
            rotate_left
            ·simp only [Act.put,z1_,z2_,z3_,i64_w,i32_w]
             rfl
            refine done_ (done_of HT_.out (by kernel_rfl)) ?_
            try go_wp2
            go_roundg k2
            case measure => have := eO.out;have := eS.out;omega
            case rel => exact ⟨(dy),(wrap64 (ad + 1)),(by first|rfl|(simp;done)|(simp [*];done)),(by first|rfl|(simp;done)|(simp [*];done)),H',⟨by have := eO.out;have := eS.out;omega⟩,⟨by (with_reducible repeat (first|apply Kd.V_alloc|apply Kd.V_drewN|apply Kd.V_drew));exact Kd.V_mono am.out (fun _ hk => ⟨hk.1.1.1,⟨hk.1.1.2.1,hk.1.1.2.2⟩⟩)⟩,⟨by (with_reducible repeat (first|apply Kd.N_alloc|apply Kd.N_drewN|apply Kd.N_drew));exact Kd.N_mono ag.out (fun _ hk => ⟨hk.1.1.1,hk.1.1.2⟩)⟩,⟨by (with_reducible repeat (first|apply Kd.V_alloc|apply Kd.V_drewN|apply Kd.V_drew));exact Kd.V_mono aa.out (fun _ hk => ⟨hk.1.1.1,⟨hk.1.1.2.1,hk.1.1.2.2⟩⟩)⟩,⟨by (with_reducible repeat (first|apply Kd.V_alloc|apply Kd.V_drewN|apply Kd.V_drew));exact Kd.V_mono ab.out (fun _ hk => ⟨hk.1.1.1,⟨hk.1.1.2.1,hk.1.1.2.2⟩⟩)⟩,⟨kM ac.out⟩,⟨bG HB.out⟩⟩
           ·replace fO := Bool.eq_false_iff.mpr fO
            subst fO
            rw [if_neg (show ¬ (false = true) by decide)] at H
            obtain rfl := Option.some.inj H
            obtain ⟨gU,fz,gh⟩ := Kd.N_slice ag.out
            subst gh
            try go_wp2
            have bs := aK (Kd.V_drew am.out)
            have bu := aK (Kd.N_drew ag.out)
            have bv := aK (Kd.V_drew aa.out)
            have bx := aK (Kd.V_drew ab.out)
            have bz := aK (blk_drew ac.out)
            have bB := aK (below_drew1 HB.out)
            clear am
            clear ag
            clear aa
            clear ab
            clear ac
            clear HB
            have am := bs
            have ag := bu
            have aa := bv
            have ab := bx
            have ac := bz
            have HB := bB
            clear bs bu bv bx bz bB
            have bc : 0 ≤ (ad : Int) := dA
            have bd : ad < (ae.length : Int) := dA
            obtain ⟨af,bO,bP,bQ,bR,dl,aP,ay,az,aQ,aR,aS,aT⟩ := at_T36 (Kd.N_reads' ag.out).2.2 ad bc bd
            cases dl
            obtain ⟨dQ,bS,bT,aI⟩ := Kd.N_get ag.out z36 ad bc (by first|exact bd|exact dA|(have e_ := (Kd.N_reads' ag.out).1;omega))
            obtain ⟨cJ,cK,cL,cN,rfl,aA,aB,aC,aD⟩ := k36_openF bT
            have ap := aI 1 _ rfl
            rw [add_field _ _ 1 (by omega)] at ap
            replace ap := Option.some.inj (ap.symm.trans ay)
            injection ap with hva_ hvn_ hvc_
            rw [hva_] at aB
            rw [hvc_] at aA
            have ai := aK (show Kd.V (Kd.int .i64) 3 _ w.heap.size _ _ ((rd_T36 ae ad).f1) from Kd.V_mk aA aB)
            clear hva_ hvn_ hvc_ aB aA
            have aq := aI 2 _ rfl
            rw [add_field _ _ 2 (by omega)] at aq
            replace aq := Option.some.inj (aq.symm.trans az)
            injection aq with hva_ hvn_ hvc_
            rw [hva_] at aD
            rw [hvc_] at aC
            have aj := aK (show Kd.V Kd.string 9 _ w.heap.size _ _ ((rd_T36 ae ad).f2) from Kd.V_mk aC aD)
            clear hva_ hvn_ hvc_ aD aC
            clear aI bS
            have ak := aK aR
            have cO := aK aQ
            clear aR aQ
            have al := aK aT
            have cP := aK aS
            clear aT aS
            replace bc := eq_true bc
            replace bd := eq_true bd
            refine start_ (n := 8) (S := fun w' => w'.cell? ⟨ah,0,none⟩ = some (.string av) ∧ w'.cell? ⟨ah,1,none⟩ = some (.slice aY aw.length aZ) ∧ w'.cell? ⟨ah,2,none⟩ = some (.slice a0 ax.length a1) ∧ w'.cell? (af.add ((ad).toNat * 3)) = some (.string ((rd_T36 ae ad).f0)) ∧ w'.cell? ⟨(af.add ((ad).toNat * 3)).block,(af.add ((ad).toNat * 3)).off + 1,none⟩ = some (.slice bO ((rd_T36 ae ad).f1).length bP) ∧ w'.cell? ⟨(af.add ((ad).toNat * 3)).block,(af.add ((ad).toNat * 3)).off + 2,none⟩ = some (.slice bQ ((rd_T36 ae ad).f2).length bR)) (ds := []) (bA 8 0) (by kernel_rfl) rfl rfl ⟨(blk_cell ac.out 0).trans rfl,(blk_cell ac.out 1).trans rfl,(blk_cell ac.out 2).trans rfl,aP,ay,az⟩ (fun hHeld => ?_);refine with_tabW l43_GroupSteady.tab12 l43_GroupSteady.bits12 (fun HT_ HW_ => ?_)
            generalize wr.drew = w58 at am ag aa ab ac HB ai aj ak al aP ay az hHeld ⊢
            refine pure_ (i := 0) (N := some 49) (v := ?_) (a' := ?_) (bA 8 1) rfl rfl (any_of HT_.out (by kernel_rfl)) (fun _ _ _ h => h) (Or.inl ⟨by rfl,?_⟩) ?_ ?_
            rotate_left
            ·intro w'
             go_simp
             with_reducible rfl
            rotate_left
            ·simp only [Act.put,z1_,z2_,z3_,i64_w,i32_w]
             rfl
            refine pure_ (i := 1) (N := some 50) (v := ?_) (a' := ?_) (bA 8 3) rfl rfl (any_of HT_.out (by kernel_rfl)) (fun _ _ _ h => h) (Or.inl ⟨by rfl,?_⟩) ?_ ?_
            rotate_left
            ·intro w'
             go_simp
             with_reducible rfl
            rotate_left
            ·simp only [Act.put,z1_,z2_,z3_,i64_w,i32_w]
             rfl
            refine pure_ (i := 2) (N := some 51) (v := ?_) (a' := ?_) (bA 8 7) rfl rfl (any_of HT_.out (by kernel_rfl)) (fun _ _ _ h => h) (Or.inl ⟨by rfl,?_⟩) ?_ ?_
            rotate_left
            ·intro w'
             go_simp
             with_reducible rfl
            rotate_left
            ·simp only [Act.put,z1_,z2_,z3_,i64_w,i32_w]
             rfl
            refine pure_ (i := 3) (N := some 52) (v := ?_) (a' := ?_) (bA 8 15) rfl rfl (any_of HT_.out (by kernel_rfl)) (fun _ _ _ h => h) (Or.inl ⟨by rfl,?_⟩) ?_ ?_
            rotate_left
            ·intro w'
             go_simp
             with_reducible rfl
            rotate_left
            ·simp only [Act.put,z1_,z2_,z3_,i64_w,i32_w]
             rfl
            refine pure_ (i := 5) (N := some 54) (v := ?_) (a' := ?_) (bA 8 47) rfl rfl (any_of HT_.out (by kernel_rfl)) (fun _ _ _ h => h) (Or.inl ⟨by rfl,?_⟩) ?_ ?_
            rotate_left
            ·intro w'
             go_simp
             with_reducible rfl
            rotate_left
            ·simp only [Act.put,z1_,z2_,z3_,i64_w,i32_w]
             rfl
            refine take_ (i := 4) (N := some 53) (v := ?_) (a' := ?_) (bA 8 63) rfl rfl (take_ofW HT_.out HW_.out (by kernel_rfl)) (fun _ _ _ h => h) (Or.inl ⟨by rfl,?_⟩) hHeld ?_ ?_
            rotate_left
            ·rintro w' ⟨s0,s1,s2,s3,s4,s5⟩
             go_simp
             with_reducible rfl
            rotate_left
            ·simp only [Act.put,z1_,z2_,z3_,i64_w,i32_w]
             rfl
            refine take_ (i := 6) (N := some 55) (v := ?_) (a' := ?_) (bA 8 127) rfl rfl (take_ofW HT_.out HW_.out (by kernel_rfl)) (fun _ _ _ h => h) (Or.inl ⟨by rfl,?_⟩) hHeld ?_ ?_
            rotate_left
            ·rintro w' ⟨s0,s1,s2,s3,s4,s5⟩
             go_simp
             with_reducible rfl
            rotate_left
            ·simp only [Act.put,z1_,z2_,z3_,i64_w,i32_w]
             rfl
            refine pure_ (i := 7) (N := some 56) (v := ?_) (a' := ?_) (bA 8 255) rfl rfl (any_of HT_.out (by kernel_rfl)) (fun _ _ _ h => h) (Or.inl ⟨by rfl,?_⟩) ?_ ?_
            rotate_left
            ·intro w'
             go_simp
             with_reducible rfl
            rotate_left
            ·simp only [Act.put,z1_,z2_,z3_,i64_w,i32_w]
             rfl
            refine done_ (done_of HT_.out (by kernel_rfl)) ?_
            try go_wp2
            have bs := aK (Kd.V_drew am.out)
            have bu := aK (Kd.N_drew ag.out)
            have bv := aK (Kd.V_drew aa.out)
            have bx := aK (Kd.V_drew ab.out)
            have bz := aK (Kd.V_drew ai.out)
            have bB := aK (Kd.V_drew aj.out)
            have cf := aK (blk_drew ac.out)
            have cg := aK (Kd.C_drew ak.out)
            have ch := aK (Kd.C_drew al.out)
            have ci := aK (below_drew1 HB.out)
            clear am
            clear ag
            clear aa
            clear ab
            clear ai
            clear aj
            clear ac
            clear ak
            clear al
            clear HB
            have am := bs
            have ag := bu
            have aa := bv
            have ab := bx
            have ai := bz
            have aj := bB
            have ac := cf
            have ak := cg
            have al := ch
            have HB := ci
            clear bs bu bv bx bz bB cf cg ch ci
            have ck : 0 ≤ (ad : Int) := dA
            have cl : ad < (ae.length : Int) := dA
            obtain ⟨dw,cm,cn,co,cp,eb,bi,aU,aV,bE,bF,bH,bI⟩ := at_T36 (Kd.N_reads' ag.out).2.2 ad ck cl
            obtain rfl : af = dw := (by injection eb)
            obtain ⟨eU,cY,cZ,bC⟩ := Kd.N_get ag.out z36 ad ck (by first|exact cl|exact dA|(have e_ := (Kd.N_reads' ag.out).1;omega))
            obtain ⟨dR,dS,dT,dU,rfl,a4,a5,a6,a7⟩ := k36_openF cZ
            have aW := bC 1 _ rfl
            rw [add_field _ _ 1 (by omega)] at aW
            replace aW := Option.some.inj (aW.symm.trans aU)
            injection aW with hva_ hvn_ hvc_
            rw [hva_] at a5
            rw [hvc_] at a4
            have aE := aK (show Kd.V (Kd.int .i64) 3 _ w.heap.size _ _ ((rd_T36 ae ad).f1) from Kd.V_mk a4 a5)
            clear hva_ hvn_ hvc_ a5 a4
            have aX := bC 2 _ rfl
            rw [add_field _ _ 2 (by omega)] at aX
            replace aX := Option.some.inj (aX.symm.trans aV)
            injection aX with hva_ hvn_ hvc_
            rw [hva_] at a7
            rw [hvc_] at a6
            have aF := aK (show Kd.V Kd.string 9 _ w.heap.size _ _ ((rd_T36 ae ad).f2) from Kd.V_mk a6 a7)
            clear hva_ hvn_ hvc_ a7 a6
            clear bC cY
            have aG := aK bF
            have dV := aK bE
            clear bF bE
            have aH := aK bI
            have dW := aK bH
            clear bI bH
            replace ck := eq_true ck
            replace cl := eq_true cl
            have dh : 0 ≤ (ad : Int) := dA
            have di : ad < (ae.length : Int) := dA
            obtain ⟨ec,e0,e1,e2,e3,e4,cd,ba,bb,cA,cB,cC,cD⟩ := at_T36 (Kd.N_reads' ag.out).2.2 ad dh di
            obtain rfl : af = ec := (by injection e4)
            obtain ⟨fv,dC,dD,cq⟩ := Kd.N_get ag.out z36 ad dh (by first|exact di|exact dA|(have e_ := (Kd.N_reads' ag.out).1;omega))
            obtain ⟨eA,eB,eC,eD,rfl,b1,b2,b3,b4⟩ := k36_openF dD
            have bj := cq 1 _ rfl
            rw [add_field _ _ 1 (by omega)] at bj
            replace bj := Option.some.inj (bj.symm.trans ba)
            injection bj with hva_ hvn_ hvc_
            rw [hva_] at b2
            rw [hvc_] at b1
            have aJ := aK (show Kd.V (Kd.int .i64) 3 _ w.heap.size _ _ ((rd_T36 ae ad).f1) from Kd.V_mk b1 b2)
            clear hva_ hvn_ hvc_ b2 b1
            have bk := cq 2 _ rfl
            rw [add_field _ _ 2 (by omega)] at bk
            replace bk := Option.some.inj (bk.symm.trans bb)
            injection bk with hva_ hvn_ hvc_
            rw [hva_] at b4
            rw [hvc_] at b3
            have aL := aK (show Kd.V Kd.string 9 _ w.heap.size _ _ ((rd_T36 ae ad).f2) from Kd.V_mk b3 b4)
            clear hva_ hvn_ hvc_ b4 b3
            clear cq dC
            have aM := aK cB
            have eE := aK cA
            clear cB cA
            have aN := aK cD
            have eF := aK cC
            clear cD cC
            replace dh := eq_true dh
            replace di := eq_true di
            have ea_ := Option.some.inj (aU.symm.trans ba)
            injection ea_ with ea_ en_ ec_
            subst ea_
            subst ec_
            clear en_
            have ea_ := Option.some.inj (aV.symm.trans bb)
            injection ea_ with ea_ en_ ec_
            subst ea_
            subst ec_
            clear en_
            have dj : 0 ≤ (ad : Int) := dA
            have dk : ad < (ae.length : Int) := dA
            obtain ⟨ed,dE,dF,dG,dH,e5,ce,bJ,bK,cE,cF,cG,cH⟩ := at_T36 (Kd.N_reads' ag.out).2.2 ad dj dk
            obtain rfl : af = ed := (by injection e5)
            obtain ⟨fw,dI,dJ,cr⟩ := Kd.N_get ag.out z36 ad dj (by first|exact dk|exact dA|(have e_ := (Kd.N_reads' ag.out).1;omega))
            obtain ⟨eG,eH,eI,eJ,rfl,b5,b6,b7,b8⟩ := k36_openF dJ
            have bm := cr 1 _ rfl
            rw [add_field _ _ 1 (by omega)] at bm
            replace bm := Option.some.inj (bm.symm.trans bJ)
            injection bm with hva_ hvn_ hvc_
            rw [hva_] at b6
            rw [hvc_] at b5
            have bn := aK (show Kd.V (Kd.int .i64) 3 _ w.heap.size _ _ ((rd_T36 ae ad).f1) from Kd.V_mk b5 b6)
            clear hva_ hvn_ hvc_ b6 b5
            have bo := cr 2 _ rfl
            rw [add_field _ _ 2 (by omega)] at bo
            replace bo := Option.some.inj (bo.symm.trans bK)
            injection bo with hva_ hvn_ hvc_
            rw [hva_] at b8
            rw [hvc_] at b7
            have bp := aK (show Kd.V Kd.string 9 _ w.heap.size _ _ ((rd_T36 ae ad).f2) from Kd.V_mk b7 b8)
            clear hva_ hvn_ hvc_ b8 b7
            clear cr dI
            have bq := aK cF
            have eK := aK cE
            clear cF cE
            have br := aK cH
            have eL := aK cG
            clear cH cG
            replace dj := eq_true dj
            replace dk := eq_true dk
            refine start_ (n := 28) (S := fun w' => w'.cell? ⟨ah,0,none⟩ = some (.string av) ∧ w'.cell? ⟨ah,1,none⟩ = some (.slice aY aw.length aZ) ∧ w'.cell? ⟨ah,2,none⟩ = some (.slice a0 ax.length a1) ∧ w'.cell? (af.add ((ad).toNat * 3)) = some (.string ((rd_T36 ae ad).f0)) ∧ w'.cell? ⟨(af.add ((ad).toNat * 3)).block,(af.add ((ad).toNat * 3)).off + 1,none⟩ = some (.slice cm ((rd_T36 ae ad).f1).length cn) ∧ w'.cell? ⟨(af.add ((ad).toNat * 3)).block,(af.add ((ad).toNat * 3)).off + 2,none⟩ = some (.slice co ((rd_T36 ae ad).f2).length cp) ∧ w'.cell? (af.add ((ad).toNat * 3)) = some (.string ((rd_T36 ae ad).f0)) ∧ w'.cell? ⟨(af.add ((ad).toNat * 3)).block,(af.add ((ad).toNat * 3)).off + 1,none⟩ = some (.slice cm ((rd_T36 ae ad).f1).length cn) ∧ w'.cell? ⟨(af.add ((ad).toNat * 3)).block,(af.add ((ad).toNat * 3)).off + 2,none⟩ = some (.slice co ((rd_T36 ae ad).f2).length cp) ∧ w'.cell? (af.add ((ad).toNat * 3)) = some (.string ((rd_T36 ae ad).f0)) ∧ w'.cell? ⟨(af.add ((ad).toNat * 3)).block,(af.add ((ad).toNat * 3)).off + 1,none⟩ = some (.slice dE ((rd_T36 ae ad).f1).length dF) ∧ w'.cell? ⟨(af.add ((ad).toNat * 3)).block,(af.add ((ad).toNat * 3)).off + 2,none⟩ = some (.slice dG ((rd_T36 ae ad).f2).length dH)) (ds := []) (bA 28 0) (by kernel_rfl) rfl rfl ⟨(blk_cell ac.out 0).trans rfl,(blk_cell ac.out 1).trans rfl,(blk_cell ac.out 2).trans rfl,bi,aU,aV,cd,ba,bb,ce,bJ,bK⟩ (fun hHeld => ?_);refine with_tabW l43_GroupSteady.tab16 l43_GroupSteady.bits16 (fun HT_ HW_ => ?_)
            generalize w58.drew = w59 at am ag aa ab ai aj ac ak al HB aE aF aJ aL bn bp aG aH aM aN bq br bi aU aV cd ba bb ce bJ bK hHeld ⊢
            refine pure_ (i := 0) (N := some 66) (v := ?_) (a' := ?_) (bA 28 1) rfl rfl (any_of HT_.out (by kernel_rfl)) (fun _ _ _ h => h) (Or.inl ⟨by rfl,?_⟩) ?_ ?_
            rotate_left
            ·intro w'
             go_simp
             with_reducible rfl
            rotate_left
            ·simp only [Act.put,z1_,z2_,z3_,i64_w,i32_w]
             rfl
            refine pure_ (i := 1) (N := some 67) (v := ?_) (a' := ?_) (bA 28 3) rfl rfl (any_of HT_.out (by kernel_rfl)) (fun _ _ _ h => h) (Or.inl ⟨by rfl,?_⟩) ?_ ?_
            rotate_left
            ·intro w'
             go_simp
             with_reducible rfl
            rotate_left
            ·simp only [Act.put,z1_,z2_,z3_,i64_w,i32_w]
             rfl
            refine pure_ (i := 2) (N := some 68) (v := ?_) (a' := ?_) (bA 28 7) rfl rfl (any_of HT_.out (by kernel_rfl)) (fun _ _ _ h => h) (Or.inl ⟨by rfl,?_⟩) ?_ ?_
            rotate_left
            ·intro w'
             go_simp
             with_reducible rfl
            rotate_left
            ·simp only [Act.put,z1_,z2_,z3_,i64_w,i32_w]
             rfl
            refine pure_ (i := 3) (N := some 69) (v := ?_) (a' := ?_) (bA 28 15) rfl rfl (any_of HT_.out (by kernel_rfl)) (fun _ _ _ h => h) (Or.inl ⟨by rfl,?_⟩) ?_ ?_
            rotate_left
            ·intro w'
             go_simp
             with_reducible rfl
            rotate_left
            ·simp only [Act.put,z1_,z2_,z3_,i64_w,i32_w]
             rfl
            refine pure_ (i := 4) (N := some 70) (v := ?_) (a' := ?_) (bA 28 31) rfl rfl (any_of HT_.out (by kernel_rfl)) (fun _ _ _ h => h) (Or.inl ⟨by rfl,?_⟩) ?_ ?_
            rotate_left
            ·intro w'
             go_simp
             with_reducible rfl
            rotate_left
            ·simp only [Act.put,z1_,z2_,z3_,i64_w,i32_w]
             rfl
            refine pure_ (i := 6) (N := some 72) (v := ?_) (a' := ?_) (bA 28 95) rfl rfl (any_of HT_.out (by kernel_rfl)) (fun _ _ _ h => h) (Or.inl ⟨by rfl,?_⟩) ?_ ?_
            rotate_left
            ·intro w'
             go_simp
             with_reducible rfl
            rotate_left
            ·simp only [Act.put,z1_,z2_,z3_,i64_w,i32_w]
             rfl
            refine take_ (i := 5) (N := some 71) (v := ?_) (a' := ?_) (bA 28 127) rfl rfl (take_ofW HT_.out HW_.out (by kernel_rfl)) (fun _ _ _ h => h) (Or.inl ⟨by rfl,?_⟩) hHeld ?_ ?_
            rotate_left
            ·rintro w' ⟨s0,s1,s2,s3,s4,s5,s6,s7,s8,s9,e6,e7⟩
             go_simp
             with_reducible rfl
            rotate_left
            ·simp only [Act.put,z1_,z2_,z3_,i64_w,i32_w]
             rfl
            refine take_ (i := 7) (N := some 73) (v := ?_) (a' := ?_) (bA 28 255) rfl rfl (take_ofW HT_.out HW_.out (by kernel_rfl)) (fun _ _ _ h => h) (Or.inl ⟨by rfl,?_⟩) hHeld ?_ ?_
            rotate_left
            ·rintro w' ⟨s0,s1,s2,s3,s4,s5,s6,s7,s8,s9,e6,e7⟩
             go_simp
             with_reducible rfl
            rotate_left
            ·simp only [Act.put,z1_,z2_,z3_,i64_w,i32_w]
             rfl
            refine one_ (i := 8) (N := some 74) (bA 28 511) rfl rfl (one_of HT_.out (by kernel_rfl)) (by decide) (fun K hK => ?_)
            refine goes_ Tryz.func31 (by kernel_rfl) rfl #[.slice (some af) ae.length fz,.string ((rd_T36 ae ad).f0),.string av,.int .i64 7] (by rfl) rfl rfl (by (try simp only [z4_,z5_,z6_]);first|done|rfl|(simp only [z7_,z8_];rfl)) ?_
            with_reducible refine (l43_contains.calls k2 _ _ ae ((rd_T36 ae ad).f0) av 7 false _ ?an ?ao f4.out).mono ?_
            (case an => exact cM (Kd.N_reads' ag.out).2.2)
            (case ao => exact (Kd.N_reads' ag.out).2.1)
            rintro e w' ⟨rfl,⟨nd,rfl⟩⟩
            refine ⟨_,rfl,?_⟩
            refine hK.out _ _ ⟨(blk_cell ac.out 0).trans rfl,(blk_cell ac.out 1).trans rfl,(blk_cell ac.out 2).trans rfl,hHeld.2.2.2.1,hHeld.2.2.2.2.1,hHeld.2.2.2.2.2.1,hHeld.2.2.2.2.2.2.1,hHeld.2.2.2.2.2.2.2.1,hHeld.2.2.2.2.2.2.2.2.1,hHeld.2.2.2.2.2.2.2.2.2.1,hHeld.2.2.2.2.2.2.2.2.2.2.1,hHeld.2.2.2.2.2.2.2.2.2.2.2⟩ (fun hHeld => ?_)
            clear hK K
            refine norm_ (a' := ?_) ?_ ?_
            rotate_left
            ·show Act.put _ (some 74) _ = _
             simp only [Act.put,z1_,z2_,z3_,i64_w,i32_w]
             rfl
            refine pure_ (i := 9) (N := some 75) (v := ?_) (a' := ?_) (bA 28 1023) rfl rfl (any_of HT_.out (by kernel_rfl)) (fun _ _ _ h => h) (Or.inl ⟨by rfl,?_⟩) ?_ ?_
            rotate_left
            ·intro w'
             go_simp
             with_reducible rfl
            rotate_left
            ·simp only [Act.put,z1_,z2_,z3_,i64_w,i32_w]
             rfl
            refine pure_ (i := 10) (N := some 76) (v := ?_) (a' := ?_) (bA 28 2047) rfl rfl (any_of HT_.out (by kernel_rfl)) (fun _ _ _ h => h) (Or.inl ⟨by rfl,?_⟩) ?_ ?_
            rotate_left
            ·intro w'
             go_simp
             with_reducible rfl
            rotate_left
            ·simp only [Act.put,z1_,z2_,z3_,i64_w,i32_w]
             rfl
            refine pure_ (i := 11) (N := some 77) (v := ?_) (a' := ?_) (bA 28 4095) rfl rfl (any_of HT_.out (by kernel_rfl)) (fun _ _ _ h => h) (Or.inl ⟨by rfl,?_⟩) ?_ ?_
            rotate_left
            ·intro w'
             go_simp
             with_reducible rfl
            rotate_left
            ·simp only [Act.put,z1_,z2_,z3_,i64_w,i32_w]
             rfl
            refine pure_ (i := 12) (N := some 78) (v := ?_) (a' := ?_) (bA 28 8191) rfl rfl (any_of HT_.out (by kernel_rfl)) (fun _ _ _ h => h) (Or.inl ⟨by rfl,?_⟩) ?_ ?_
            rotate_left
            ·intro w'
             go_simp
             with_reducible rfl
            rotate_left
            ·simp only [Act.put,z1_,z2_,z3_,i64_w,i32_w]
             rfl
            refine pure_ (i := 13) (N := some 79) (v := ?_) (a' := ?_) (bA 28 16383) rfl rfl (any_of HT_.out (by kernel_rfl)) (fun _ _ _ h => h) (Or.inl ⟨by rfl,?_⟩) ?_ ?_
            rotate_left
            ·intro w'
             go_simp
             with_reducible rfl
            rotate_left
            ·simp only [Act.put,z1_,z2_,z3_,i64_w,i32_w]
             rfl
            refine pure_ (i := 14) (N := some 80) (v := ?_) (a' := ?_) (bA 28 32767) rfl rfl (any_of HT_.out (by kernel_rfl)) (fun _ _ _ h => h) (Or.inl ⟨by rfl,?_⟩) ?_ ?_
            rotate_left
            ·intro w'
             go_simp
             with_reducible rfl
            rotate_left
            ·simp only [Act.put,z1_,z2_,z3_,i64_w,i32_w]
             rfl
            refine pure_ (i := 15) (N := some 81) (v := ?_) (a' := ?_) (bA 28 65535) rfl rfl (any_of HT_.out (by kernel_rfl)) (fun _ _ _ h => h) (Or.inl ⟨by rfl,?_⟩) ?_ ?_
            rotate_left
            ·intro w'
             go_simp
             with_reducible rfl
            rotate_left
            ·simp only [Act.put,z1_,z2_,z3_,i64_w,i32_w]
             rfl
            refine pure_ (i := 18) (N := some 84) (v := ?_) (a' := ?_) (bA 28 327679) rfl rfl (any_of HT_.out (by kernel_rfl)) (fun _ _ _ h => h) (Or.inl ⟨by rfl,?_⟩) ?_ ?_
            rotate_left
            ·intro w'
             go_simp
             with_reducible rfl
            rotate_left
            ·simp only [Act.put,z1_,z2_,z3_,i64_w,i32_w]
             rfl
            refine pure_ (i := 19) (N := some 85) (v := ?_) (a' := ?_) (bA 28 851967) rfl rfl (any_of HT_.out (by kernel_rfl)) (fun _ _ _ h => h) (Or.inl ⟨by rfl,?_⟩) ?_ ?_
            rotate_left
            ·intro w'
             go_simp
             with_reducible rfl
            rotate_left
            ·simp only [Act.put,z1_,z2_,z3_,i64_w,i32_w]
             rfl
            refine pure_ (i := 20) (N := some 86) (v := ?_) (a' := ?_) (bA 28 1900543) rfl rfl (any_of HT_.out (by kernel_rfl)) (fun _ _ _ h => h) (Or.inl ⟨by rfl,?_⟩) ?_ ?_
            rotate_left
            ·intro w'
             go_simp
             with_reducible rfl
            rotate_left
            ·simp only [Act.put,z1_,z2_,z3_,i64_w,i32_w]
             rfl
            refine pure_ (i := 21) (N := some 87) (v := ?_) (a' := ?_) (bA 28 3997695) rfl rfl (any_of HT_.out (by kernel_rfl)) (fun _ _ _ h => h) (Or.inl ⟨by rfl,?_⟩) ?_ ?_
            rotate_left
            ·intro w'
             go_simp
             with_reducible rfl
            rotate_left
            ·simp only [Act.put,z1_,z2_,z3_,i64_w,i32_w]
             rfl
            refine pure_ (i := 22) (N := some 88) (v := ?_) (a' := ?_) (bA 28 8191999) rfl rfl (any_of HT_.out (by kernel_rfl)) (fun _ _ _ h => h) (Or.inl ⟨by rfl,?_⟩) ?_ ?_
            rotate_left
            ·intro w'
             go_simp
             with_reducible rfl
            rotate_left
            ·simp only [Act.put,z1_,z2_,z3_,i64_w,i32_w]
             rfl
            refine take_ (i := 16) (N := some 82) (v := ?_) (a' := ?_) (bA 28 8257535) rfl rfl (take_ofW HT_.out HW_.out (by kernel_rfl)) (fun _ _ _ h => h) (Or.inl ⟨by rfl,?_⟩) hHeld ?_ ?_
            rotate_left
            ·rintro w' ⟨s0,s1,s2,s3,s4,s5,s6,s7,s8,s9,e6,e7⟩
             go_simp
             with_reducible rfl
            rotate_left
            ·simp only [Act.put,z1_,z2_,z3_,i64_w,i32_w]
             rfl
            refine take_ (i := 23) (N := some 89) (v := ?_) (a' := ?_) (bA 28 16646143) rfl rfl (take_ofW HT_.out HW_.out (by kernel_rfl)) (fun _ _ _ h => h) (Or.inl ⟨by rfl,?_⟩) hHeld ?_ ?_
            rotate_left
            ·rintro w' ⟨s0,s1,s2,s3,s4,s5,s6,s7,s8,s9,e6,e7⟩
             go_simp
             with_reducible rfl
            rotate_left
            ·simp only [Act.put,z1_,z2_,z3_,i64_w,i32_w]
             rfl
            refine one_ (i := 17) (N := some 83) (bA 28 16777215) rfl rfl (one_of HT_.out (by kernel_rfl)) (by decide) (fun K hK => ?_)
            refine goes_ Tryz.func14 (by kernel_rfl) rfl #[.slice (some af) ae.length fz,.string ((rd_T36 ae ad).f0)] (by rfl) rfl rfl (by (try simp only [z4_,z5_,z6_]);first|done|rfl|(simp only [z7_,z8_];rfl)) ?_
            with_reducible refine (group_Users.calls k2 _ _ ae ((rd_T36 ae ad).f0) dX _ ?an ?ao gB.out).mono ?_
            (case an => exact cM (Kd.N_reads' ag.out).2.2)
            (case ao => exact (Kd.N_reads' ag.out).2.1)
            rintro e ha ⟨f9,rfl,aO,hb⟩
            have cV := (hb.cell (World.block_lt_of_cell? _ _ (hHeld.2.2.2.1))).trans (hHeld.2.2.2.1)
            have cW := (hb.cell (World.block_lt_of_cell? _ _ (hHeld.2.2.2.2.1))).trans (hHeld.2.2.2.2.1)
            have cX := (hb.cell (World.block_lt_of_cell? _ _ (hHeld.2.2.2.2.2.1))).trans (hHeld.2.2.2.2.2.1)
            have dK := (hb.cell (World.block_lt_of_cell? _ _ (hHeld.2.2.2.2.2.2.1))).trans (hHeld.2.2.2.2.2.2.1)
            have dL := (hb.cell (World.block_lt_of_cell? _ _ (hHeld.2.2.2.2.2.2.2.1))).trans (hHeld.2.2.2.2.2.2.2.1)
            have dM := (hb.cell (World.block_lt_of_cell? _ _ (hHeld.2.2.2.2.2.2.2.2.1))).trans (hHeld.2.2.2.2.2.2.2.2.1)
            have dN := (hb.cell (World.block_lt_of_cell? _ _ (hHeld.2.2.2.2.2.2.2.2.2.1))).trans (hHeld.2.2.2.2.2.2.2.2.2.1)
            have c1 := (hb.cell (World.block_lt_of_cell? _ _ (hHeld.2.2.2.2.2.2.2.2.2.2.1))).trans (hHeld.2.2.2.2.2.2.2.2.2.2.1)
            have da := (hb.cell (World.block_lt_of_cell? _ _ (hHeld.2.2.2.2.2.2.2.2.2.2.2))).trans (hHeld.2.2.2.2.2.2.2.2.2.2.2)
            refine ⟨_,rfl,?_⟩
            have bs := aK (Kd.V_elder' (vM am.out) (Kd.R_base aO) hb)
            have bu := aK (Kd.N_elder' (nM ag.out) (Kd.R_base aO) hb)
            have bv := aK (Kd.V_elder' (vM aa.out) (Kd.R_base aO) hb)
            have bx := aK (Kd.V_elder' (vM ab.out) (Kd.R_base aO) hb)
            have bz := aK (Kd.V_elder' (vM ai.out) (Kd.R_base aO) hb)
            have bB := aK (Kd.V_elder' (vM aj.out) (Kd.R_base aO) hb)
            have cf := aK (Kd.V_elder' (vM aE.out) (Kd.R_base aO) hb)
            have cg := aK (Kd.V_elder' (vM aF.out) (Kd.R_base aO) hb)
            have ch := aK (Kd.V_elder' (vM aJ.out) (Kd.R_base aO) hb)
            have ci := aK (Kd.V_elder' (vM aL.out) (Kd.R_base aO) hb)
            have b9 := aK (Kd.R_lower (Kd.R_newM (M := fun k_ => (w.heap.size ≤ k_)) aO (below_size (bG HB.out)) (fun k_ h_ => h_)) (below_size (bG HB.out)))
            have ca := aK (blk_below (kM ac.out) hb)
            have cb := aK (Kd.C_below (cM ak.out) hb)
            have cc := aK (Kd.C_below (cM al.out) hb)
            have db := aK (Kd.C_below (cM aG.out) hb)
            have dc := aK (Kd.C_below (cM aH.out) hb)
            have dd := aK (Kd.C_below (cM aM.out) hb)
            have de := aK (Kd.C_below (cM aN.out) hb)
            have df := aK (below_step (bG HB.out) hb)
            clear am
            clear ag
            clear aa
            clear ab
            clear ai
            clear aj
            clear aE
            clear aF
            clear aJ
            clear aL
            clear ac
            clear ak
            clear al
            clear aG
            clear aH
            clear aM
            clear aN
            clear HB
            have am := bs
            have ag := bu
            have aa := bv
            have ab := bx
            have ai := bz
            have aj := bB
            have aE := cf
            have aF := cg
            have aJ := ch
            have aL := ci
            have bD := b9
            have ac := ca
            have ak := cb
            have al := cc
            have aG := db
            have aH := dc
            have aM := dd
            have aN := de
            have HB := df
            clear bs bu bv bx bz bB cf cg ch ci b9 ca cb cc db dc dd de df
            (try clear hb)
            (try clear hk)
            (try clear aO)
            refine hK.out _ _ ⟨(blk_cell ac.out 0).trans rfl,(blk_cell ac.out 1).trans rfl,(blk_cell ac.out 2).trans rfl,cV,cW,cX,dK,dL,dM,dN,c1,da⟩ (fun hHeld => ?_)
            clear hK K
            refine norm_ (a' := ?_) ?_ ?_
            rotate_left
            ·show Act.put _ (some 83) _ = _
             simp only [Act.put,z1_,z2_,z3_,i64_w,i32_w]
             rfl
            refine one_ (i := 24) (N := some 90) (bA 28 33554431) rfl rfl (one_of HT_.out (by kernel_rfl)) (by decide) (fun K hK => ?_)
            refine goes_ Tryz.func14 (by kernel_rfl) rfl #[.slice A0 l0.length c0,.string ((rd_T36 ae ad).f0)] (by rfl) rfl rfl (by (try simp only [z4_,z5_,z6_]);first|done|rfl|(simp only [z7_,z8_];rfl)) ?_
            with_reducible refine (group_Users.calls k2 _ _ l0 ((rd_T36 ae ad).f0) dY _ ?an ?ao gC.out).mono ?_
            (case an => exact cM (Kd.V_reads' am.out).2.2)
            (case ao => exact (Kd.V_reads' am.out).2.1)
            rintro e hc ⟨ga,rfl,aO,hb⟩
            have cV := (hb.cell (World.block_lt_of_cell? _ _ (hHeld.2.2.2.1))).trans (hHeld.2.2.2.1)
            have cW := (hb.cell (World.block_lt_of_cell? _ _ (hHeld.2.2.2.2.1))).trans (hHeld.2.2.2.2.1)
            have cX := (hb.cell (World.block_lt_of_cell? _ _ (hHeld.2.2.2.2.2.1))).trans (hHeld.2.2.2.2.2.1)
            have dK := (hb.cell (World.block_lt_of_cell? _ _ (hHeld.2.2.2.2.2.2.1))).trans (hHeld.2.2.2.2.2.2.1)
            have dL := (hb.cell (World.block_lt_of_cell? _ _ (hHeld.2.2.2.2.2.2.2.1))).trans (hHeld.2.2.2.2.2.2.2.1)
            have dM := (hb.cell (World.block_lt_of_cell? _ _ (hHeld.2.2.2.2.2.2.2.2.1))).trans (hHeld.2.2.2.2.2.2.2.2.1)
            have dN := (hb.cell (World.block_lt_of_cell? _ _ (hHeld.2.2.2.2.2.2.2.2.2.1))).trans (hHeld.2.2.2.2.2.2.2.2.2.1)
            have c1 := (hb.cell (World.block_lt_of_cell? _ _ (hHeld.2.2.2.2.2.2.2.2.2.2.1))).trans (hHeld.2.2.2.2.2.2.2.2.2.2.1)
            have da := (hb.cell (World.block_lt_of_cell? _ _ (hHeld.2.2.2.2.2.2.2.2.2.2.2))).trans (hHeld.2.2.2.2.2.2.2.2.2.2.2)
            refine ⟨_,rfl,?_⟩
            have bs := aK (Kd.V_elder' (vM am.out) (Kd.R_base aO) hb)
            have bu := aK (Kd.N_elder' (nM ag.out) (Kd.R_base aO) hb)
            have bv := aK (Kd.V_elder' (vM aa.out) (Kd.R_base aO) hb)
            have bx := aK (Kd.V_elder' (vM ab.out) (Kd.R_base aO) hb)
            have bz := aK (Kd.V_elder' (vM ai.out) (Kd.R_base aO) hb)
            have bB := aK (Kd.V_elder' (vM aj.out) (Kd.R_base aO) hb)
            have cf := aK (Kd.V_elder' (vM aE.out) (Kd.R_base aO) hb)
            have cg := aK (Kd.V_elder' (vM aF.out) (Kd.R_base aO) hb)
            have ch := aK (Kd.V_elder' (vM aJ.out) (Kd.R_base aO) hb)
            have ci := aK (Kd.V_elder' (vM aL.out) (Kd.R_base aO) hb)
            have b9 := aK (Kd.R_elder' (rM bD.out) (Kd.R_base aO) hb)
            have cc := aK (Kd.R_lower (Kd.R_new' (Kd.R_newM (M := fun k_ => (w.heap.size ≤ k_)) aO (below_size (bG HB.out)) (fun k_ h_ => h_)) (Kd.R_lt (rM bD.out))) (below_size (bG HB.out)))
            have db := aK (blk_below (kM ac.out) hb)
            have dc := aK (Kd.C_below (cM ak.out) hb)
            have dd := aK (Kd.C_below (cM al.out) hb)
            have de := aK (Kd.C_below (cM aG.out) hb)
            have df := aK (Kd.C_below (cM aH.out) hb)
            have ee := aK (Kd.C_below (cM aM.out) hb)
            have ef := aK (Kd.C_below (cM aN.out) hb)
            have ei := aK (below_step (bG HB.out) hb)
            clear am
            clear ag
            clear aa
            clear ab
            clear ai
            clear aj
            clear aE
            clear aF
            clear aJ
            clear aL
            clear bD
            clear ac
            clear ak
            clear al
            clear aG
            clear aH
            clear aM
            clear aN
            clear HB
            have am := bs
            have ag := bu
            have aa := bv
            have ab := bx
            have ai := bz
            have aj := bB
            have aE := cf
            have aF := cg
            have aJ := ch
            have aL := ci
            have bD := b9
            have dg := cc
            have ac := db
            have ak := dc
            have al := dd
            have aG := de
            have aH := df
            have aM := ee
            have aN := ef
            have HB := ei
            clear bs bu bv bx bz bB cf cg ch ci b9 cc db dc dd de df ee ef ei
            (try clear hb)
            (try clear hk)
            (try clear aO)
            obtain ⟨gi,gj,fA⟩ := Kd.R_slice bD.out
            (first|subst fA|(injection fA with f1_ f2_ f3_;have e8 := f1_.symm;have e9 := f3_.symm;clear f1_ f2_ f3_;subst e8;subst e9))
            obtain ⟨gl,gm,fB⟩ := Kd.R_slice dg.out
            (first|subst fB|(injection fB with f1_ f2_ f3_;have e8 := f1_.symm;have e9 := f3_.symm;clear f1_ f2_ f3_;subst e8;subst e9))
            refine hK.out _ _ ⟨(blk_cell ac.out 0).trans rfl,(blk_cell ac.out 1).trans rfl,(blk_cell ac.out 2).trans rfl,cV,cW,cX,dK,dL,dM,dN,c1,da⟩ (fun hHeld => ?_)
            clear hK K
            refine norm_ (a' := ?_) ?_ ?_
            rotate_left
            ·show Act.put _ (some 90) _ = _
             simp only [Act.put,z1_,z2_,z3_,i64_w,i32_w]
             rfl
            refine one_ (i := 25) (N := some 91) (bA 28 67108863) rfl rfl (one_of HT_.out (by kernel_rfl)) (by decide) (fun K hK => ?_)
            refine goes_ Tryz.func13 (by kernel_rfl) rfl #[.slice gi dX.length gj,.slice gl dY.length gm] (by rfl) rfl rfl (by (try simp only [z4_,z5_,z6_]);first|done|rfl|(simp only [z7_,z8_];rfl)) ?_
            with_reducible refine (r05_Same.calls k2 _ _ dX _ _ dY false _ ?an ?ao ?bL ?cz gD.out).mono ?_
            (case an => exact cM (Kd.R_reads' bD.out).2.2)
            (case ao => exact (Kd.R_reads' bD.out).2.1)
            (case bL => exact cM (Kd.R_reads' dg.out).2.2)
            (case cz => exact (Kd.R_reads' dg.out).2.1)
            rintro e w' ⟨rfl,⟨nd,rfl⟩⟩
            refine ⟨_,rfl,?_⟩
            refine hK.out _ _ ⟨(blk_cell ac.out 0).trans rfl,(blk_cell ac.out 1).trans rfl,(blk_cell ac.out 2).trans rfl,hHeld.2.2.2.1,hHeld.2.2.2.2.1,hHeld.2.2.2.2.2.1,hHeld.2.2.2.2.2.2.1,hHeld.2.2.2.2.2.2.2.1,hHeld.2.2.2.2.2.2.2.2.1,hHeld.2.2.2.2.2.2.2.2.2.1,hHeld.2.2.2.2.2.2.2.2.2.2.1,hHeld.2.2.2.2.2.2.2.2.2.2.2⟩ (fun hHeld => ?_)
            clear hK K
            refine norm_ (a' := ?_) ?_ ?_
            rotate_left
            ·show Act.put _ (some 91) _ = _
             simp only [Act.put,z1_,z2_,z3_,i64_w,i32_w]
             rfl
            refine pure_ (i := 26) (N := some 92) (v := ?_) (a' := ?_) (bA 28 134217727) rfl rfl (any_of HT_.out (by kernel_rfl)) (fun _ _ _ h => h) (Or.inl ⟨by rfl,?_⟩) ?_ ?_
            rotate_left
            ·intro w'
             go_simp
             with_reducible rfl
            rotate_left
            ·simp only [Act.put,z1_,z2_,z3_,i64_w,i32_w]
             rfl
            refine pure_ (i := 27) (N := some 93) (v := ?_) (a' := ?_) (bA 28 268435455) rfl rfl (any_of HT_.out (by kernel_rfl)) (fun _ _ _ h => h) (Or.inl ⟨by rfl,?_⟩) ?_ ?_
            rotate_left
            ·intro w'
             go_simp
             with_reducible rfl
            rotate_left
            ·simp only [Act.put,z1_,z2_,z3_,i64_w,i32_w]
             rfl
            refine done_ (done_of HT_.out (by kernel_rfl)) ?_
            try go_wp2
            go_ret
            exact ⟨by first|rfl|(simp [errW_none,errW_some] <;> rfl)|(simp [*,errW_none,errW_some] <;> rfl),bG HB.out⟩
        ·rw [if_neg eX] at H
         have eT := decide_eq_false eX
         clear eX
         have fa := aK H
         clear H
         obtain ⟨dZ,d0,gn⟩ := Kd.N_slice ag.out
         subst gn
         go_upto_region 18 with (fail)
         go_cut [100] (fun gp wc => ∃ (kq : Nat) (cQ : Bool),gp = .bool cQ ∧ Aside0 (l43_GroupSteady.j2 kq l0 ae cQ av aw ax = some r) ∧ Aside0 (kq ≤ k2) ∧ Aside0 (Kd.V k36 36 wc w.heap.size (fun k_ => ((bN k_ ∨ ar k_ ∨ au k_) ∨ w.heap.size ≤ k_) ∧ some k_ ≠ ((.slice dZ ae.length d0) : Value).ownBlock ∧ k_ ≠ ah) (.slice A0 l0.length c0) l0) ∧ Aside0 (Kd.N k36 36 wc w.heap.size (fun k_ => ((bN k_ ∨ ar k_ ∨ au k_) ∨ w.heap.size ≤ k_) ∧ k_ ≠ ah) (.slice dZ ae.length d0) ae) ∧ Aside0 (Kd.V (Kd.int .i64) 3 wc w.heap.size (fun k_ => ((bN k_ ∨ ar k_ ∨ au k_) ∨ w.heap.size ≤ k_) ∧ some k_ ≠ ((.slice dZ ae.length d0) : Value).ownBlock ∧ k_ ≠ ah) (.slice aY aw.length aZ) aw) ∧ Aside0 (Kd.V Kd.string 9 wc w.heap.size (fun k_ => ((bN k_ ∨ ar k_ ∨ au k_) ∨ w.heap.size ≤ k_) ∧ some k_ ≠ ((.slice dZ ae.length d0) : Value).ownBlock ∧ k_ ≠ ah) (.slice a0 ax.length a1) ax) ∧ Aside0 (wc.heap[ah]? = some (.cells #[.string av,(.slice aY aw.length aZ),(.slice a0 ax.length a1)] 36 (0,0))) ∧ Aside0 (Below w.heap.size w wc))
         case first =>
          have H := fa.out
          clear fa
          by_cases fb : dy = 1
          ·rw [if_pos fb] at H
           have dx := beq_iff_eq.mpr fb
           have ej := bne_eq_false_iff_eq.mpr fb
           clear fb
           (first|rw [dx]|(simp only [i64_w,i32_w];rw [dx])|rw [ej]|skip)
           replace H := Option.bind_eq_some_iff.mp H
           obtain ⟨fC,fD,H⟩ := H
           have gV := aK fD
           clear fD
           have H' := aK H
           clear H
           go_wp2_with (first|(go_at_call 11;(with_reducible refine (group_Right.calls k2 _ _ ae fC _ ?an ?ao gV.out).mono ?_);(case an => exact cM (Kd.N_reads' ag.out).2.2);(case ao => exact (Kd.N_reads' ag.out).2.1);rintro e he ⟨rfl,hb⟩;replace am := aK (Kd.V_below (vM am.out) hb);replace ag := aK (Kd.N_below (nM ag.out) hb);replace aa := aK (Kd.V_below (vM aa.out) hb);replace ab := aK (Kd.V_below (vM ab.out) hb);replace ac := aK (blk_below (kM ac.out) hb);replace HB := aK (below_step (bG HB.out) hb);(try clear hb);(try clear hk)))
           go_meet
           case rel => exact ⟨_,((fC != 0)),(by first|rfl|(simp;done)|(simp [*];done)),H',⟨by have := eO.out;have := eS.out;first|omega|exact Nat.le_refl _⟩,⟨vM am.out⟩,⟨nM ag.out⟩,⟨vM aa.out⟩,⟨vM ab.out⟩,⟨kM ac.out⟩,⟨bG HB.out⟩⟩
          ·rw [if_neg fb] at H
           have dx := beq_eq_false_iff_ne.mpr fb
           have ej := bne_iff_ne.mpr fb
           (first|rw [dx]|(simp only [i64_w,i32_w];rw [dx])|rw [ej]|skip)
           have H' := aK H
           clear H
           go_wp2
           go_meet
           case rel => exact ⟨_,(true),(by first|rfl|(simp;done)|(simp [*];done)),H',⟨by have := eO.out;have := eS.out;first|omega|exact Nat.le_refl _⟩,⟨vM am.out⟩,⟨nM ag.out⟩,⟨vM aa.out⟩,⟨vM ab.out⟩,⟨kM ac.out⟩,⟨bG HB.out⟩⟩
         case rest =>
          clear fa
          try clear p2
          try clear p5
          try clear q5
          try clear hx5
          try clear eX
          try clear eT
          try clear p59
          try clear q59
          try clear hx59
          try clear bi
          try clear aU
          try clear aV
          try clear cd
          try clear ba
          try clear bb
          try clear ce
          try clear bJ
          try clear bK
          try clear ck
          try clear dh
          try clear dj
          try clear cl
          try clear di
          try clear dk
          obtain ⟨kq,cQ,rfl,HA,gW,am,ag,aa,ab,ac,HB⟩ := hcut
          cases kq with
         |zero => exact absurd HA.out (by simp [l43_GroupSteady.j2])
         |succ kj63 =>
           have H := HA.out
           clear HA
           simp only [l43_GroupSteady.j2] at H
           by_cases fP : cQ = true
           ·subst fP
            rw [if_pos rfl] at H
            obtain rfl := Option.some.inj H
            go_wp2
            go_ret
            exact ⟨by first|rfl|(simp [errW_none,errW_some] <;> rfl)|(simp [*,errW_none,errW_some] <;> rfl),bG HB.out⟩
           ·replace fP := Bool.eq_false_iff.mpr fP
            subst fP
            rw [if_neg (show ¬ (false = true) by decide)] at H
            by_cases ek : (ae.length : Int) = (l0.length : Int)
            ·rw [if_pos ek] at H
             have fE := beq_iff_eq.mpr ek
             have fF := bne_eq_false_iff_eq.mpr ek
             have fG : (ae.length == l0.length) = true := by first|simpa using ek|(simp at ek ⊢;omega)
             clear ek
             obtain rfl := Option.some.inj H
             go_wp2
             go_ret
             exact ⟨by first|rfl|(simp [errW_none,errW_some] <;> rfl)|(simp [*,errW_none,errW_some] <;> rfl),bG HB.out⟩
            ·rw [if_neg ek] at H
             have fE := beq_eq_false_iff_ne.mpr ek
             have fF := bne_iff_ne.mpr ek
             have fG : (ae.length == l0.length) = false := by first|simpa using ek|(simp at ek ⊢;omega)
             replace H := Option.bind_eq_some_iff.mp H
             obtain ⟨⟨eM,eN⟩,fH,H⟩ := H
             replace H : (if eN = 0 then ((r43_Same.f kj63 eM l0).bind fun fc => (some fc)) else (some false)) = some r := H
             have gE := aK fH
             clear fH
             by_cases fd : eN = 0
             ·rw [if_pos fd] at H
              have fI := beq_iff_eq.mpr fd
              have fJ := bne_eq_false_iff_eq.mpr fd
              clear fd
              replace H := Option.bind_eq_some_iff.mp H
              obtain ⟨fc,fK,H⟩ := H
              have gX := aK fK
              clear fK
              obtain rfl := Option.some.inj H
              obtain ⟨_,_,_,_,_,_⟩ := bk3_ ac.out
              go_wp2_with (first|((with_reducible refine gate_callee (f := 26) rfl ?_);refine gL 110 Tryz.func26 #[.slice dZ ae.length d0,.string av] ?_;(with_reducible refine (group_Drop.calls kj63 (fun k_ => (((bN k_ ∨ ar k_ ∨ au k_) ∨ w.heap.size ≤ k_) ∧ k_ ≠ ah)) _ _ ae av eM eN _ ?an gE.out).mono ?_);(case an => exact Kd.N_V (ag.out));rintro e hf ⟨gq,rfl,aO,hb⟩;refine ⟨_,rfl,?_⟩;replace am := aK (Kd.V_elder' (vM am.out) (Kd.N_base aO) hb);replace ag := aK (Kd.N_elder' (nM ag.out) (Kd.N_base aO) hb);replace aa := aK (Kd.V_elder' (vM aa.out) (Kd.N_base aO) hb);replace ab := aK (Kd.V_elder' (vM ab.out) (Kd.N_base aO) hb);have el := aK (Kd.N_lower (Kd.N_mono (ok' := fun k_ => ((bN k_ ∨ ar k_ ∨ au k_) ∨ w.heap.size ≤ k_) ∧ k_ ≠ ah) aO (fun k_ hk_ => ⟨Or.elim hk_ (fun hs_ => hs_.1) (fun hn_ => (.inr (Nat.le_trans (below_size (bG HB.out)) hn_))),Or.elim hk_ (fun hs_ => hs_.2) (fun hn_ => (Kd.freshB (g := ah) (o := .cells #[.string av,.slice aY aw.length aZ,.slice a0 ax.length a1] 36 (0,0)) (kM ac.out) k_ hn_))⟩)) (below_size (bG HB.out)));replace ac := aK (blk_below (kM ac.out) hb);replace HB := aK (below_step (bG HB.out) hb);(try clear hb);(try clear hk);(try clear aO);obtain ⟨gY,gZ,gr⟩ := Kd.N_slice el.out;subst gr)|(go_at_call 25;(with_reducible refine (r43_Same.calls kj63 _ _ eM _ _ l0 fc _ ?an ?ao ?bL ?cz gX.out).mono ?_);(case an => exact cM (Kd.N_reads' el.out).2.2);(case ao => exact (Kd.N_reads' el.out).2.1);(case bL => exact cM (Kd.V_reads' am.out).2.2);(case cz => exact (Kd.V_reads' am.out).2.1);rintro e hh ⟨rfl,hb⟩;replace am := aK (Kd.V_below (vM am.out) hb);replace ag := aK (Kd.N_below (nM ag.out) hb);replace aa := aK (Kd.V_below (vM aa.out) hb);replace ab := aK (Kd.V_below (vM ab.out) hb);replace ac := aK (blk_below (kM ac.out) hb);replace HB := aK (below_step (bG HB.out) hb);(try clear hb);(try clear hk)))
              go_ret
              exact ⟨by first|rfl|(simp [errW_none,errW_some] <;> rfl)|(simp [*,errW_none,errW_some] <;> rfl),bG HB.out⟩
             ·rw [if_neg fd] at H
              have fI := beq_eq_false_iff_ne.mpr fd
              have fJ := bne_iff_ne.mpr fd
              obtain rfl := Option.some.inj H
              obtain ⟨_,_,_,_,_,_⟩ := bk3_ ac.out
              go_wp2_with (first|((with_reducible refine gate_callee (f := 26) rfl ?_);refine gL 110 Tryz.func26 #[.slice dZ ae.length d0,.string av] ?_;(with_reducible refine (group_Drop.calls kj63 (fun k_ => (((bN k_ ∨ ar k_ ∨ au k_) ∨ w.heap.size ≤ k_) ∧ k_ ≠ ah)) _ _ ae av eM eN _ ?an gE.out).mono ?_);(case an => exact Kd.N_V (ag.out));rintro e hj ⟨gq,rfl,aO,hb⟩;refine ⟨_,rfl,?_⟩;replace am := aK (Kd.V_elder' (vM am.out) (Kd.N_base aO) hb);replace aa := aK (Kd.V_elder' (vM aa.out) (Kd.N_base aO) hb);replace ab := aK (Kd.V_elder' (vM ab.out) (Kd.N_base aO) hb);replace ac := aK (blk_below (kM ac.out) hb);replace HB := aK (below_step (bG HB.out) hb);(try clear hb);(try clear hk);(try clear aO)))
              go_ret
              exact ⟨by first|rfl|(simp [errW_none,errW_some] <;> rfl)|(simp [*,errW_none,errW_some] <;> rfl),bG HB.out⟩
     ·rw [if_neg eP] at H
      have eQ := beq_eq_false_iff_ne.mpr eP
      have eR := bne_iff_ne.mpr eP
      obtain rfl := Option.some.inj H
      obtain ⟨_,_,_,_,_,_⟩ := bk3_ ac.out
      go_wp2_with (first|((with_reducible refine gate_callee (f := 23) rfl ?_);refine gL 35 Tryz.func23 #[.slice A0 l0.length c0,.agg #[.string av,.slice aY aw.length aZ,.slice a0 ax.length a1]] ?_;(with_reducible refine (group_Set.calls kj4 (fun k_ => (((bN k_ ∨ ar k_ ∨ au k_) ∨ w.heap.size ≤ k_) ∧ k_ ≠ ah)) _ _ l0 av (fun k_ => (((bN k_ ∨ ar k_ ∨ au k_) ∨ w.heap.size ≤ k_) ∧ k_ ≠ ah)) _ _ aw (fun k_ => (((bN k_ ∨ ar k_ ∨ au k_) ∨ w.heap.size ≤ k_) ∧ k_ ≠ ah)) _ _ ax ae en _ ?an ?ao ?bL gx.out).mono ?_);(case an => exact am.out);(case ao => exact aa.out);(case bL => exact ab.out);rintro e hl ⟨d4,rfl,aO,hb⟩;refine ⟨_,rfl,?_⟩;have d5 := aK (Kd.N_lower (Kd.N_mono (ok' := fun k_ => ((bN k_ ∨ ar k_ ∨ au k_) ∨ w.heap.size ≤ k_) ∧ k_ ≠ ah) aO (fun k_ hk_ => ⟨Or.elim hk_ (fun hs_ => Or.elim hs_ (fun hs_ => hs_.1) (fun hs_ => Or.elim hs_ (fun hs_ => hs_.1) (fun hs_ => hs_.1))) (fun hn_ => (.inr (Nat.le_trans (below_size (bG HB.out)) hn_))),Or.elim hk_ (fun hs_ => Or.elim hs_ (fun hs_ => hs_.2) (fun hs_ => Or.elim hs_ (fun hs_ => hs_.2) (fun hs_ => hs_.2))) (fun hn_ => (Kd.freshB (g := ah) (o := .cells #[.string av,.slice aY aw.length aZ,.slice a0 ax.length a1] 36 (0,0)) (kM ac.out) k_ hn_))⟩)) (below_size (bG HB.out)));replace HB := aK (below_step (bG HB.out) hb);(try clear hb);(try clear hk);(try clear aO);obtain ⟨g0,g1,gs⟩ := Kd.N_slice d5.out;subst gs))
      go_ret
      exact ⟨by first|rfl|(simp [errW_none,errW_some] <;> rfl)|(simp [*,errW_none,errW_some] <;> rfl),bG HB.out⟩
 ·replace c4 := Bool.eq_false_iff.mpr c4
  subst c4
  rw [if_neg (show ¬ (false = true) by decide)] at H
  obtain rfl := Option.some.inj H
  go_enter Tryz.func7,Tryz.ntmps7
  go_wp2_with (first|((with_reducible refine gate_dst (N := 3) rfl ?_);(try (refine gate_guard (by rfl) ?_;dsimp only));refine box_event ?hg (N := 3) ?hd (cs := #[.string av,.slice aY aw.length aZ,.slice a0 ax.length a1]) (t := 36) ?hr ?_;(case hd => rfl);(case hg => rfl);(case hr => first|(go_simp;done)|(go_simp;rfl));intro ah hg hm hbox hb;have d1 := aK ((by rw [hg];exact (below_size (bM HB.out)) : w.heap.size ≤ ah));have fg := Ge.mk d1.out;have d2 := aK ((by rw [hg];exact (below_size (bM HB.out)) : w.heap.size ≤ ah));have fh := Ge.mk d2.out;replace HB := aK (below_step (bM HB.out) hb);clear hb hbox hg)|((with_reducible refine gate_callee (f := 9) rfl ?_);refine gL 11 Tryz.func9 #[] ?_;(with_reducible refine (l43_alive.calls k  false _ A3.out).mono ?_);rintro e hn ⟨rfl,hb⟩;refine ⟨_,rfl,?_⟩;replace HB := aK (below_step (bG HB.out) hb);(try clear hb);(try clear hk)))
  go_ret
  exact ⟨by first|rfl|(simp [errW_none,errW_some] <;> rfl)|(simp [*,errW_none,errW_some] <;> rfl),bG HB.out⟩
end Go.Proofs.YtobdkgoapcbipaaGreatDoor.J
