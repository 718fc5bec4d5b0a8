import Derived.Test.YtgadbpljlpclnaaGreatDoorHx0
import Derived.Test.YtgadbpljlpclnaaGreatDoorHx16
import Derived.Test.YtgadbpljlpclnaaGreatDoorHx20
namespace Go.Proofs.YtgadbpljlpclnaaGreatDoor.H
open Go.RowKit Go.Proofs.YtgadbpljlpclnaaGreatDoorW.PrintWords Go.Proofs.YtgadbpljlpclnaaGreatDoorW.PrintLast Go.Proofs.YtgadbpljlpclnaaGreatDoorW.PrintMore
set_option maxHeartbeats 4000000
set_option maxRecDepth 100000
attribute [local go_sem] max2_int min2_int max_two min_two max_three min_three max_four min_four
set_option linter.unusedVariables false
set_option linter.unusedSimpArgs false

/-! ### r26_Ancestors: function 23 -/
mutual
def r26_Ancestors.j0 : Nat → List (S28) → List Int → Option (List Int)
|0,_,_ => none
|k + 1,x0,x5 => r26_Ancestors.l0 k x0 x5 (wrap64 ((x0.length : Int) - 1))
def r26_Ancestors.l0 : Nat → List (S28) → List Int → Int → Option (List Int)
|0,_,_,_ => none
|k + 1,x0,x5,x8 => if x8 ≥ 0 then (if 0 ≤ x8 then (if x8 < (x0.length : Int) then ((r05_In.f k x5 ((rd_T28 x0 x8).f0)).bind fun aa => (if aa = true then (r26_Ancestors.l1 k x0 x5 x8 0) else (r26_Ancestors.l0 k x0 x5 (wrap64 (x8 - 1))))) else (none)) else (none)) else (some x5)
def r26_Ancestors.l1 : Nat → List (S28) → List Int → Int → Int → Option (List Int)
|0,_,_,_,_ => none
|k + 1,x0,x5,x8,x9 => if 0 ≤ x8 then (if x8 < (x0.length : Int) then (if x9 < (((rd_T28 x0 x8).f1).length : Int) then (if 0 ≤ x9 then ((r05_Put.f k x5 (rd ((rd_T28 x0 x8).f1) x9)).bind fun aa => (r26_Ancestors.l1 k x0 aa x8 (wrap64 (x9 + 1)))) else (none)) else (r26_Ancestors.l0 k x0 x5 (wrap64 (x8 - 1)))) else (none)) else (none)
end
def r26_Ancestors.f (k : Nat) (l0 : List (S28)) (a1 : Int) : Option (List Int) := (some (([] : List Int) : List Int)).bind fun aa => ((r26_Get.f k l0 a1).bind fun ab => (if ab.2.2.2.2.2 = true then (if aa.length < 17592186044416 then (r26_Ancestors.j0 k l0 (aa ++ [a1])) else (none)) else (r26_Ancestors.j0 k l0 aa)))
theorem r26_Ancestors.mono_l : ∀ k, (∀ y0 y1, LeO (r26_Ancestors.j0 k y0 y1) (r26_Ancestors.j0 (k + 1) y0 y1)) ∧ (∀ y0 y1 y2, LeO (r26_Ancestors.l0 k y0 y1 y2) (r26_Ancestors.l0 (k + 1) y0 y1 y2)) ∧ (∀ y0 y1 y2 y3, LeO (r26_Ancestors.l1 k y0 y1 y2 y3) (r26_Ancestors.l1 (k + 1) y0 y1 y2 y3))
|0 => ⟨fun _ _ r h => by simp [r26_Ancestors.j0] at h,fun _ _ _ r h => by simp [r26_Ancestors.l0] at h,fun _ _ _ _ r h => by simp [r26_Ancestors.l1] at h⟩
|k + 1 => by
  obtain ⟨ih0,ih1,ih2⟩ := r26_Ancestors.mono_l k
  refine ⟨?_,?_,?_⟩
  ·intro y0 y1
   unfold r26_Ancestors.j0
   repeat' (with_reducible first|exact ih1 _ _ _|exact LeO.refl _|exact LeO.none _|refine LeO.ite ?_ ?_|refine LeO.bind ?_ (fun _ => ?_))
  ·intro y0 y1 y2
   unfold r26_Ancestors.l0
   repeat' (with_reducible first|exact ih1 _ _ _|exact ih2 _ _ _ _|exact r05_In.mono _ _ _|exact LeO.refl _|exact LeO.none _|refine LeO.ite ?_ ?_|refine LeO.bind ?_ (fun _ => ?_))
  ·intro y0 y1 y2 y3
   unfold r26_Ancestors.l1
   repeat' (with_reducible first|exact ih1 _ _ _|exact ih2 _ _ _ _|exact r05_Put.mono _ _ _|exact LeO.refl _|exact LeO.none _|refine LeO.ite ?_ ?_|refine LeO.bind ?_ (fun _ => ?_))
theorem r26_Ancestors.mono : ∀ a0 a1 k, LeO (r26_Ancestors.f k a0 a1) (r26_Ancestors.f (k + 1) a0 a1) := by
 intro a0 a1 k
 obtain ⟨ih0,ih1,ih2⟩ := r26_Ancestors.mono_l k
 unfold r26_Ancestors.f
 repeat' (with_reducible first|exact ih0 _ _|exact ih1 _ _ _|exact ih2 _ _ _ _|exact r05_In.mono _ _ _|exact r05_Put.mono _ _ _|exact r26_Get.mono _ _ _|exact LeO.refl _|exact LeO.none _|refine LeO.ite ?_ ?_|refine LeO.bind ?_ (fun _ => ?_))
theorem r26_Ancestors.calls (k : Nat) (A0 : Option Addr) (c0 : Nat) (l0 : List (S28)) (a1 : Int) (r : List Int) (w : World) (cR : Kd.C k28 w A0 l0.length l0) (cS : l0.length ≤ c0) (h : r26_Ancestors.f k l0 a1 = some r) :
  Calls Tryz.prog 23 #[.slice A0 l0.length c0,.int .i64 a1] w fun e w' => ∃ cT : Value,e = .returned (cT) ∧ Kd.R (Kd.int .i64) 3 w' w.heap.size (fun _ => True) cT r ∧ Below w.heap.size w w' := by
 have dg := Tryz.underlying28
 have b4 := aK cR
 have dh := aK cS
 clear cR cS
 have HB := aK (Below.refl w.heap.size w)
 unfold r26_Ancestors.f at h
 have H := h
 clear h
 obtain ⟨aW,a0⟩ : ∃ y_ : List Int,y_ = (([] : List Int)) := ⟨_,rfl⟩
 replace H : ((r26_Get.f k l0 a1).bind fun b8 => (if b8.2.2.2.2.2 = true then (if aW.length < 17592186044416 then (r26_Ancestors.j0 k l0 (aW ++ [a1])) else (none)) else (r26_Ancestors.j0 k l0 aW))) = some r := by first|(rw [a0];with_reducible exact H)|(have bx := (Option.bind_some _ _).symm.trans H;rw [a0];with_reducible exact bx)|(have bx := (Option.bind_some _ _).symm.trans H;with_reducible exact bx)|with_reducible exact H|(rw [a0];exact H)|exact H
 have bs := aK a0
 clear a0
 replace H := Option.bind_eq_some_iff.mp H
 obtain ⟨⟨ah,af,ag,aM,aN,bz⟩,cU,H⟩ := H
 replace H : (if bz = true then (if aW.length < 17592186044416 then (r26_Ancestors.j0 k l0 (aW ++ [a1])) else (none)) else (r26_Ancestors.j0 k l0 aW)) = some r := H
 have A3 := aK cU
 clear cU
 have cv := aK H
 clear H
 go_enter Tryz.func23,Tryz.ntmps23
 go_upto_if 17 with (first|((with_reducible refine gate_dst (N := 10) rfl ?_);refine Kd.R_lit (Kd.int .i64) _ 3 ?hg (N := 10) ?hd (xs := ([] : List Int)) (inner := []) (ok := fun _ => True) (okp := fun _ => True) ?hr ?hp (fun _ hk => hk) trivial (Below.refl _ _) (Nat.le_refl _) (by simp) ?_;(case hd => rfl);(case hg => rfl);(case hr => first|(go_simp;done)|(go_simp;rfl));(case hp => exact (Reps.none _ _));intro bB w5 b9 hb hg_ hnew_;clear hg_ hnew_;(first|rw [← bs.out] at b9|(simp only [Int.reduceToNat] at b9;rw [← bs.out] at b9));have al := aK (Kd.R_lower b9 (below_size (bM HB.out)));replace HB := aK (below_step (bM HB.out) hb);clear hb b9)|((with_reducible refine gate_callee (f := 13) rfl ?_);refine gL 14 Tryz.func13 #[.slice A0 l0.length c0,.int .i64 a1] ?_;(with_reducible refine (r26_Get.calls k (fun k_ => k_ < w.heap.size) _ _ l0 a1 ah af ag aM aN bz _ ?aQ A3.out).mono ?_);(case aQ => exact Kd.V_mk dh.out (Kd.F_below (Kd.C_F k28_heap b4.out) (bM HB.out)));rintro e w7 ⟨di,dj,rfl,bu,cV,hb⟩;refine ⟨_,rfl,?_⟩;have aR := aK (Kd.V_lower (Kd.V_mono (ok' := fun k_ => some k_ ≠ (bB : Value).ownBlock) bu (fun k_ hk_ => Or.elim hk_ (fun hs_ => fun e_ => Nat.not_le.2 hs_ (Kd.R_base al.out k_ e_.symm)) (fun hn_ => (Kd.fresh' (Kd.R_lt (rM al.out)) k_ hn_)))) (below_size (bM HB.out)));have aT := aK (Kd.V_lower (Kd.V_mono (ok' := fun k_ => some k_ ≠ (bB : Value).ownBlock) cV (fun k_ hk_ => Or.elim hk_ (fun hs_ => fun e_ => Nat.not_le.2 hs_ (Kd.R_base al.out k_ e_.symm)) (fun hn_ => (Kd.fresh' (Kd.R_lt (rM al.out)) k_ hn_)))) (below_size (bM HB.out)));replace al := aK (Kd.R_below (rM al.out) hb);replace HB := aK (below_step (bM HB.out) hb);(try clear hb);(try clear hk);(try clear bu);(try clear cV))|((with_reducible refine gate_dst (N := 6) rfl ?_);refine box_event ?hg (N := 6) ?hd (cs := #[.int .i64 0,.slice none 0 0,.slice none 0 0,.int .i64 0,.int .i64 0]) (t := 28) ?hr ?_;(case hd => rfl);(case hg => rfl);(case hr => first|(go_simp;done)|(go_simp;rfl));intro aa hg w8 hbox hb;replace al := aK (Kd.R_below (rM al.out) hb);replace aR := aK (Kd.V_below (Kd.V_elderB (vM aR.out) aa (Nat.le_of_eq hg.symm)) hb);replace aT := aK (Kd.V_below (Kd.V_elderB (vM aT.out) aa (Nat.le_of_eq hg.symm)) hb);have ae := aK (hbox);have ca := aK ((by rw [hg];exact (below_size (bM HB.out)) : w.heap.size ≤ aa));have cW := Ge.mk ca.out;have cb := aK ((by rw [hg];exact (below_size (bM HB.out)) : w.heap.size ≤ aa));have cX := Ge.mk cb.out;replace HB := aK (below_step (bM HB.out) hb);clear hb hbox hg;obtain ⟨bC,bD,bE,bF,bH,bI,bJ,bK,bL,bN⟩ := bk5_ ae.out;obtain ⟨ai,aj,cw⟩ := Kd.V_slice aR.out;subst cw;obtain ⟨am,an,cx⟩ := Kd.V_slice aT.out;subst cx))
 (try simp only [Act.put,z1_,z2_,z3_])
 go_cut [5] (fun v5 wc => ∃ (kq : Nat) (aU : List Int),Aside0 (r26_Ancestors.j0 kq l0 aU = some r) ∧ Aside0 (kq ≤ k) ∧ Aside0 (Kd.R (Kd.int .i64) 3 wc w.heap.size (fun _ => True) v5 aU) ∧ Aside0 (Kd.V (Kd.int .i64) 3 wc w.heap.size (fun k_ => some k_ ≠ (v5 : Value).ownBlock ∧ k_ ≠ aa) (.slice ai af.length aj) af) ∧ Aside0 (Kd.V k53 53 wc w.heap.size (fun k_ => some k_ ≠ (v5 : Value).ownBlock ∧ k_ ≠ aa) (.slice am ag.length an) ag) ∧ Aside0 (wc.heap[aa]? = some (.cells #[.int .i64 ah,(.slice ai af.length aj),(.slice am ag.length an),.int .i64 aM,.int .i64 aN] 28 (0,0))) ∧ Aside0 (Below w.heap.size w wc))
 case first =>
  have H := cv.out
  clear cv
  by_cases cp : bz = true
  ·subst cp
   rw [if_pos rfl] at H
   obtain ⟨cY,H⟩ := iS H
   have cc := aK cY
   clear cY
   obtain ⟨cd,a2⟩ : ∃ y_ : List Int,y_ = (aW ++ [a1]) := ⟨_,rfl⟩
   replace H : (r26_Ancestors.j0 k l0 cd) = some r := by first|(rw [a2];with_reducible exact H)|(have bx := (Option.bind_some _ _).symm.trans H;rw [a2];with_reducible exact bx)|(have bx := (Option.bind_some _ _).symm.trans H;with_reducible exact bx)|with_reducible exact H|(rw [a2];exact H)|exact H
   have ce := aK a2
   clear a2
   have H' := aK H
   clear H
   go_wp2_with (first|((with_reducible refine gate_builtin (b := .append) (xs := #[.tmp 18,.tmp 20]) rfl ?_);at_builtin;refine Kd.R_append (Kd.int .i64) (w0 := w) w.heap.size rfl (.tmp 18) (.tmp 20) 25 3 (.int .i64 0) 8 rfl Tryz.underlying25 info3 rfl (by decide) (by omega) bB aW a1 [.int .i64 a1] (fun _ => True) (fun _ => False) rfl (by first|(go_simp;done)|(go_simp;rfl)) ?aP (fun _ hk => hk.elim) ?aF ?aO ?aB ?aS ?aL ?_;(case aP => exact rfl);(case aB => exact (bG HB.out));(case aF => exact (fun _ _ => trivial));(case aO => exact (by (with_reducible repeat (first|apply Kd.R_alloc|apply Kd.R_drewN|apply Kd.R_drew));exact Kd.R_mono (Kd.R_far (p := ⟨aa,4,none⟩) (Kd.R_far (p := ⟨aa,3,none⟩) (Kd.R_far (p := ⟨aa,2,none⟩) (Kd.R_far (p := ⟨aa,1,none⟩) (Kd.R_far (p := ⟨aa,0,none⟩) (Kd.R_types al.out ae.out (by decide)) (fun _ hk => hk.2) (.int .i64 ah)) (fun _ hk => hk.2) (.slice ai af.length aj)) (fun _ hk => hk.2) (.slice am ag.length an)) (fun _ hk => hk.2) (.int .i64 aM)) (fun _ hk => hk.2) (.int .i64 aN)) (fun _ hk => trivial)));(case aS => exact (below_size (bG HB.out)));(case aL => have := cc.out;omega);intro dk dn ho hb hg hat;rw [← ce.out] at ho;replace aR := aK (Kd.V_afterv (ok := (fun k_ => k_ ≠ aa)) (by (with_reducible repeat (first|apply Kd.V_alloc|apply Kd.V_drewN|apply Kd.V_drew));exact Kd.V_mono (Kd.V_far (p := ⟨aa,4,none⟩) (Kd.V_far (p := ⟨aa,3,none⟩) (Kd.V_far (p := ⟨aa,2,none⟩) (Kd.V_far (p := ⟨aa,1,none⟩) (Kd.V_far (p := ⟨aa,0,none⟩) (Kd.V_mono aR.out (fun k_ hk => (⟨hk,hk.2⟩ : _ ∧ k_ ≠ aa))) (fun _ hk => hk.2) (.int .i64 ah)) (fun _ hk => hk.2) (.slice ai af.length aj)) (fun _ hk => hk.2) (.slice am ag.length an)) (fun _ hk => hk.2) (.int .i64 aM)) (fun _ hk => hk.2) (.int .i64 aN)) (fun _ hk => ⟨hk.1.2,hk.1.1⟩)) hg hat);replace aT := aK (Kd.V_afterv (ok := (fun k_ => k_ ≠ aa)) (by (with_reducible repeat (first|apply Kd.V_alloc|apply Kd.V_drewN|apply Kd.V_drew));exact Kd.V_mono (Kd.V_far (p := ⟨aa,4,none⟩) (Kd.V_far (p := ⟨aa,3,none⟩) (Kd.V_far (p := ⟨aa,2,none⟩) (Kd.V_far (p := ⟨aa,1,none⟩) (Kd.V_far (p := ⟨aa,0,none⟩) (Kd.V_mono aT.out (fun k_ hk => (⟨hk,hk.2⟩ : _ ∧ k_ ≠ aa))) (fun _ hk => hk.2) (.int .i64 ah)) (fun _ hk => hk.2) (.slice ai af.length aj)) (fun _ hk => hk.2) (.slice am ag.length an)) (fun _ hk => hk.2) (.int .i64 aM)) (fun _ hk => hk.2) (.int .i64 aN)) (fun _ hk => ⟨hk.1.2,hk.1.1⟩)) hg hat);replace ae := aK (blk_grown (g := aa) (o := .cells #[.int .i64 ah,.slice ai af.length aj,.slice am ag.length an,.int .i64 aM,.int .i64 aN] 28 (0,0)) (by refine kO ?_;refine blk_put (cs := #[.int .i64 ah,.slice ai af.length aj,.slice am ag.length an,.int .i64 aM,.int .i64 0]) ?_ 4 _ rfl;refine kO ?_;refine blk_put (cs := #[.int .i64 ah,.slice ai af.length aj,.slice am ag.length an,.int .i64 0,.int .i64 0]) ?_ 3 _ rfl;refine kO ?_;refine blk_put (cs := #[.int .i64 ah,.slice ai af.length aj,.slice none 0 0,.int .i64 0,.int .i64 0]) ?_ 2 _ rfl;refine kO ?_;refine blk_put (cs := #[.int .i64 ah,.slice none 0 0,.slice none 0 0,.int .i64 0,.int .i64 0]) ?_ 1 _ rfl;refine kO ?_;refine blk_put (cs := #[.int .i64 0,.slice none 0 0,.slice none 0 0,.int .i64 0,.int .i64 0]) ?_ 0 _ rfl;refine kO ?_;exact ae.out) hg (Kd.R_ne al.out ae.out (by decide)));replace HB := aK (hb);have cf := aK (ho);clear ho hb hg hat))
   go_meet
   case rel => exact ⟨_,(cd),H',⟨by first|omega|exact Nat.le_refl _⟩,⟨rM cf.out⟩,⟨by (with_reducible repeat (first|apply Kd.V_alloc|apply Kd.V_drewN|apply Kd.V_drew));exact Kd.V_mono aR.out (fun _ hk => ⟨hk.2,hk.1⟩)⟩,⟨by (with_reducible repeat (first|apply Kd.V_alloc|apply Kd.V_drewN|apply Kd.V_drew));exact Kd.V_mono aT.out (fun _ hk => ⟨hk.2,hk.1⟩)⟩,⟨kM ae.out⟩,⟨bG HB.out⟩⟩
  ·replace cp := Bool.eq_false_iff.mpr cp
   subst cp
   rw [if_neg (show ¬ (false = true) by decide)] at H
   have H' := aK H
   clear H
   go_wp2
   go_meet
   case rel => exact ⟨_,(aW),H',⟨by first|omega|exact Nat.le_refl _⟩,⟨by (with_reducible repeat (first|apply Kd.R_alloc|apply Kd.R_drewN|apply Kd.R_drew));exact Kd.R_mono (Kd.R_far (p := ⟨aa,4,none⟩) (Kd.R_far (p := ⟨aa,3,none⟩) (Kd.R_far (p := ⟨aa,2,none⟩) (Kd.R_far (p := ⟨aa,1,none⟩) (Kd.R_far (p := ⟨aa,0,none⟩) (Kd.R_types al.out ae.out (by decide)) (fun _ hk => hk.2) (.int .i64 ah)) (fun _ hk => hk.2) (.slice ai af.length aj)) (fun _ hk => hk.2) (.slice am ag.length an)) (fun _ hk => hk.2) (.int .i64 aM)) (fun _ hk => hk.2) (.int .i64 aN)) (fun _ hk => trivial)⟩,⟨by (with_reducible repeat (first|apply Kd.V_alloc|apply Kd.V_drewN|apply Kd.V_drew));exact Kd.V_mono (Kd.V_far (p := ⟨aa,4,none⟩) (Kd.V_far (p := ⟨aa,3,none⟩) (Kd.V_far (p := ⟨aa,2,none⟩) (Kd.V_far (p := ⟨aa,1,none⟩) (Kd.V_far (p := ⟨aa,0,none⟩) (Kd.V_mono aR.out (fun k_ hk => (⟨hk,hk.2⟩ : _ ∧ k_ ≠ aa))) (fun _ hk => hk.2) (.int .i64 ah)) (fun _ hk => hk.2) (.slice ai af.length aj)) (fun _ hk => hk.2) (.slice am ag.length an)) (fun _ hk => hk.2) (.int .i64 aM)) (fun _ hk => hk.2) (.int .i64 aN)) (fun _ hk => ⟨hk.1.1,hk.1.2⟩)⟩,⟨by (with_reducible repeat (first|apply Kd.V_alloc|apply Kd.V_drewN|apply Kd.V_drew));exact Kd.V_mono (Kd.V_far (p := ⟨aa,4,none⟩) (Kd.V_far (p := ⟨aa,3,none⟩) (Kd.V_far (p := ⟨aa,2,none⟩) (Kd.V_far (p := ⟨aa,1,none⟩) (Kd.V_far (p := ⟨aa,0,none⟩) (Kd.V_mono aT.out (fun k_ hk => (⟨hk,hk.2⟩ : _ ∧ k_ ≠ aa))) (fun _ hk => hk.2) (.int .i64 ah)) (fun _ hk => hk.2) (.slice ai af.length aj)) (fun _ hk => hk.2) (.slice am ag.length an)) (fun _ hk => hk.2) (.int .i64 aM)) (fun _ hk => hk.2) (.int .i64 aN)) (fun _ hk => ⟨hk.1.1,hk.1.2⟩)⟩,⟨by refine kO ?_;refine blk_put (cs := #[.int .i64 ah,.slice ai af.length aj,.slice am ag.length an,.int .i64 aM,.int .i64 0]) ?_ 4 _ rfl;refine kO ?_;refine blk_put (cs := #[.int .i64 ah,.slice ai af.length aj,.slice am ag.length an,.int .i64 0,.int .i64 0]) ?_ 3 _ rfl;refine kO ?_;refine blk_put (cs := #[.int .i64 ah,.slice ai af.length aj,.slice none 0 0,.int .i64 0,.int .i64 0]) ?_ 2 _ rfl;refine kO ?_;refine blk_put (cs := #[.int .i64 ah,.slice none 0 0,.slice none 0 0,.int .i64 0,.int .i64 0]) ?_ 1 _ rfl;refine kO ?_;refine blk_put (cs := #[.int .i64 0,.slice none 0 0,.slice none 0 0,.int .i64 0,.int .i64 0]) ?_ 0 _ rfl;refine kO ?_;exact ae.out⟩,⟨bG HB.out⟩⟩
 case rest =>
  clear cv
  try clear p2
  try clear bC
  try clear bD
  try clear bE
  try clear bF
  try clear bH
  try clear bI
  try clear bJ
  try clear bK
  try clear bL
  try clear bN
  obtain ⟨kq,aU,HA,b5,ak,ab,ac,ae,HB⟩ := hcut
  cases kq with
 |zero => exact absurd HA.out (by simp [r26_Ancestors.j0])
 |succ kj3 =>
   have H := HA.out
   clear HA
   simp only [r26_Ancestors.j0] at H
   have H' := aK H
   clear H
   go_wp2
   go_loopg [5,8] kj3 (fun kq v5 v8 w' => ∃ (aX : List Int) (ad : Int),v8 = .int .i64 ad ∧ Aside0 (r26_Ancestors.l0 kq l0 aX ad = some r) ∧ Aside0 (kq ≤ kj3) ∧ Aside0 (Kd.R (Kd.int .i64) 3 w' w.heap.size (fun _ => True) v5 aX) ∧ Aside0 (Kd.V (Kd.int .i64) 3 w' w.heap.size (fun k_ => some k_ ≠ (v5 : Value).ownBlock ∧ k_ ≠ aa) (.slice ai af.length aj) af) ∧ Aside0 (Kd.V k53 53 w' w.heap.size (fun k_ => some k_ ≠ (v5 : Value).ownBlock ∧ k_ ≠ aa) (.slice am ag.length an) ag) ∧ Aside0 (w'.heap[aa]? = some (.cells #[.int .i64 ah,(.slice ai af.length aj),(.slice am ag.length an),.int .i64 aM,.int .i64 aN] 28 (0,0))) ∧ Aside0 (Below w.heap.size w w'))
   case atStart => exact ⟨(aU),(wrap64 ((l0.length : Int) - 1)),(by first|rfl|(simp;done)|(simp [*];done)),H',⟨Nat.le_refl _⟩,⟨rM ak.out⟩,⟨vM ab.out⟩,⟨vM ac.out⟩,⟨kM ae.out⟩,⟨bG HB.out⟩⟩
   case round =>
    clear H'
    try clear p2
    try clear p6
    try clear p2
    obtain ⟨aX,ad,rfl,HA,b6,ak,ab,ac,ae,HB⟩ := hrel
    cases gk with
   |zero => exact absurd HA.out (by simp [r26_Ancestors.l0])
   |succ k2 =>
     have H := HA.out
     clear HA
     simp only [r26_Ancestors.l0] at H
     by_cases bO : ad ≥ 0
     ·rw [if_pos bO] at H
      have bv := decide_eq_true bO
      clear bO
      obtain ⟨cy,H⟩ := iS H
      have cg := decide_eq_true cy
      clear cy
      obtain ⟨cz,H⟩ := iS H
      have ch := decide_eq_true cz
      clear cz
      replace H := Option.bind_eq_some_iff.mp H
      obtain ⟨cA,ci,H⟩ := H
      have cZ := aK ci
      clear ci
      by_cases cj : cA = true
      ·subst cj
       rw [if_pos rfl] at H
       have H' := aK H
       clear H
       have a3 : 0 ≤ (ad : Int) := dA
       have a4 : ad < (l0.length : Int) := dA
       obtain ⟨a8,bP,bQ,bR,bS,bT,ao,ap,aq,ar,au,ax,ay,az,aA⟩ := at_T28 b4.out ad a3 a4
       cases bT
       replace ao := xM HB ao
       replace ap := xM HB ap
       replace aq := xM HB aq
       replace ar := xM HB ar
       replace au := xM HB au
       have bi := aK ay
       have bj := aK ax
       clear ay ax
       have bk := aK aA
       have bm := aK az
       clear aA az
       replace a3 := eq_true a3
       replace a4 := eq_true a4
       obtain ⟨cB,cC,cD⟩ := Kd.R_slice ak.out
       subst cD
       go_wp2_with (first|((with_reducible refine gate_callee (f := 33) rfl ?_);refine gL 35 Tryz.func33 #[.slice cB aX.length cC,.int .i64 ((rd_T28 l0 ad).f0)] ?_;(with_reducible refine (r05_In.calls k2 _ _ aX ((rd_T28 l0 ad).f0) true _ ?aQ ?a5 cZ.out).mono ?_);(case aQ => exact cM (Kd.R_reads' ak.out).2.2);(case a5 => exact (Kd.R_reads' ak.out).2.1);rintro e w' ⟨rfl,⟨nd,rfl⟩⟩;refine ⟨_,rfl,?_⟩))
       go_loopg [5,9] k2 (fun kq v5 v9 w' => ∃ (aU : List Int) (aV : Int),v9 = .int .i64 aV ∧ Aside0 (r26_Ancestors.l1 kq l0 aU ad aV = some r) ∧ Aside0 (kq ≤ k2) ∧ Aside0 (Kd.R (Kd.int .i64) 3 w' w.heap.size (fun _ => True) v5 aU) ∧ Aside0 (Kd.V (Kd.int .i64) 3 w' w.heap.size (fun k_ => some k_ ≠ (v5 : Value).ownBlock ∧ k_ ≠ aa) (.slice ai af.length aj) af) ∧ Aside0 (Kd.V k53 53 w' w.heap.size (fun k_ => some k_ ≠ (v5 : Value).ownBlock ∧ k_ ≠ aa) (.slice am ag.length an) ag) ∧ Aside0 (w'.heap[aa]? = some (.cells #[.int .i64 ah,(.slice ai af.length aj),(.slice am ag.length an),.int .i64 aM,.int .i64 aN] 28 (0,0))) ∧ Aside0 (Below w.heap.size w w'))
       case atStart => exact ⟨(aX),(0),(by first|rfl|(simp;done)|(simp [*];done)),H',⟨Nat.le_refl _⟩,⟨rM ak.out⟩,⟨vM ab.out⟩,⟨vM ac.out⟩,⟨kM ae.out⟩,⟨bG HB.out⟩⟩
       case round =>
        clear H'
        try clear p2
        try clear p4
        try clear q4
        try clear hx4
        try clear p6
        try clear bO
        try clear bv
        try clear cy
        try clear cg
        try clear cz
        try clear ch
        try clear cj
        try clear ao
        try clear ap
        try clear aq
        try clear ar
        try clear au
        try clear p2
        try clear a3
        try clear p6
        try clear a4
        obtain ⟨aU,aV,rfl,HA,cq,ak,ab,ac,ae,HB⟩ := hrel
        cases gk with
       |zero => exact absurd HA.out (by simp [r26_Ancestors.l1])
       |succ k3 =>
         have H := HA.out
         clear HA
         simp only [r26_Ancestors.l1] at H
         obtain ⟨c1,H⟩ := iS H
         have da := decide_eq_true c1
         clear c1
         obtain ⟨db,H⟩ := iS H
         have dc := decide_eq_true db
         clear db
         by_cases b7 : aV < (((rd_T28 l0 ad).f1).length : Int)
         ·rw [if_pos b7] at H
          have ck := decide_eq_true b7
          clear b7
          obtain ⟨dd,H⟩ := iS H
          have de := decide_eq_true dd
          clear dd
          replace H := Option.bind_eq_some_iff.mp H
          obtain ⟨cl,cm,H⟩ := H
          have dl := aK cm
          clear cm
          have H' := aK H
          clear H
          have a6 : 0 ≤ (ad : Int) := dA
          have a7 : ad < (l0.length : Int) := dA
          obtain ⟨bh,bU,bV,bW,bX,bY,aC,av,aw,aD,aE,aG,aH,aI,aJ⟩ := at_T28 b4.out ad a6 a7
          obtain rfl : a8 = bh := (by injection bY)
          replace aC := xM HB aC
          replace av := xM HB av
          replace aw := xM HB aw
          replace aD := xM HB aD
          replace aE := xM HB aE
          have bn := aK aH
          have bo := aK aG
          clear aH aG
          have bp := aK aJ
          have bq := aK aI
          clear aJ aI
          replace a6 := eq_true a6
          replace a7 := eq_true a7
          have bZ : 0 ≤ (ad : Int) := dA
          have b1 : ad < (l0.length : Int) := dA
          obtain ⟨cn,cE,cF,cG,cH,cI,a9,aY,aZ,ba,bb,bc,bd,be,bf⟩ := at_T28 b4.out ad bZ b1
          obtain rfl : a8 = cn := (by injection cI)
          replace a9 := xM HB a9
          replace aY := xM HB aY
          replace aZ := xM HB aZ
          replace ba := xM HB ba
          replace bb := xM HB bb
          have br := aK bd
          have cr := aK bc
          clear bd bc
          have ct := aK bf
          have cu := aK be
          clear bf be
          replace bZ := eq_true bZ
          replace b1 := eq_true b1
          have ea_ := Option.some.inj (av.symm.trans aY)
          injection ea_ with ea_ en_ ec_
          subst ea_
          subst ec_
          clear en_
          have ea_ := Option.some.inj (aw.symm.trans aZ)
          injection ea_ with ea_ en_ ec_
          subst ea_
          subst ec_
          clear en_
          have b2 : 0 ≤ (aV : Int) := dA
          have b3 : aV < (((rd_T28 l0 ad).f1).length : Int) := dA
          obtain ⟨df,cJ,bg⟩ := Kd.at_int br.out aV b2 b3
          cases cJ
          replace bg := xM HB bg
          replace b2 := eq_true b2
          replace b3 := eq_true b3
          obtain ⟨cK,cL,cN⟩ := Kd.R_slice ak.out
          subst cN
          go_wp2_with (first|((with_reducible refine gate_callee (f := 42) rfl ?_);refine gL 55 Tryz.func42 #[.slice cK aU.length cL,.int .i64 (rd ((rd_T28 l0 ad).f1) aV)] ?_;(with_reducible refine (r05_Put.calls k3 _ _ aU (rd ((rd_T28 l0 ad).f1) aV) cl _ ?aQ ?a5 dl.out).mono ?_);(case aQ => exact cM (Kd.R_reads' ak.out).2.2);(case a5 => exact (Kd.R_reads' ak.out).2.1);rintro e dp ⟨dm,rfl,bu,hb⟩;refine ⟨_,rfl,?_⟩;replace ab := aK (Kd.V_elder' (vM ab.out) (Kd.R_base bu) hb);replace ac := aK (Kd.V_elder' (vM ac.out) (Kd.R_base bu) hb);have co := aK (Kd.R_lower (Kd.R_new' bu (Kd.R_lt (rM ak.out))) (below_size (bG HB.out)));replace ak := aK (Kd.R_elder' (rM ak.out) (Kd.R_base bu) hb);replace ae := aK (blk_below (kM ae.out) hb);replace HB := aK (below_step (bG HB.out) hb);(try clear hb);(try clear hk);(try clear bu)))
          go_roundg k3
          case measure => have := b5.out;have := b6.out;have := cq.out;omega
          case rel => exact ⟨(cl),(wrap64 (aV + 1)),(by first|rfl|(simp;done)|(simp [*];done)),H',⟨by have := b5.out;have := b6.out;have := cq.out;omega⟩,⟨rM (Kd.R_mono co.out (fun _ hk => trivial))⟩,⟨by (with_reducible repeat (first|apply Kd.V_alloc|apply Kd.V_drewN|apply Kd.V_drew));exact Kd.V_mono ab.out (fun _ hk => ⟨hk.2,hk.1.2⟩)⟩,⟨by (with_reducible repeat (first|apply Kd.V_alloc|apply Kd.V_drewN|apply Kd.V_drew));exact Kd.V_mono ac.out (fun _ hk => ⟨hk.2,hk.1.2⟩)⟩,⟨kM ae.out⟩,⟨bG HB.out⟩⟩
         ·rw [if_neg b7] at H
          have ck := decide_eq_false b7
          clear b7
          have H' := aK H
          clear H
          have a6 : 0 ≤ (ad : Int) := dA
          have a7 : ad < (l0.length : Int) := dA
          obtain ⟨bh,bU,bV,bW,bX,bY,aC,av,aw,aD,aE,aG,aH,aI,aJ⟩ := at_T28 b4.out ad a6 a7
          obtain rfl : a8 = bh := (by injection bY)
          replace aC := xM HB aC
          replace av := xM HB av
          replace aw := xM HB aw
          replace aD := xM HB aD
          replace aE := xM HB aE
          have bn := aK aH
          have bo := aK aG
          clear aH aG
          have bp := aK aJ
          have bq := aK aI
          clear aJ aI
          replace a6 := eq_true a6
          replace a7 := eq_true a7
          go_wp2
          go_roundg k3
          case measure => have := b5.out;have := b6.out;have := cq.out;omega
          case rel => exact ⟨(aU),(wrap64 (ad - 1)),(by first|rfl|(simp;done)|(simp [*];done)),H',⟨by have := b5.out;have := b6.out;have := cq.out;omega⟩,⟨rM ak.out⟩,⟨vM ab.out⟩,⟨vM ac.out⟩,⟨kM ae.out⟩,⟨bG HB.out⟩⟩
      ·replace cj := Bool.eq_false_iff.mpr cj
       subst cj
       rw [if_neg (show ¬ (false = true) by decide)] at H
       have H' := aK H
       clear H
       have a3 : 0 ≤ (ad : Int) := dA
       have a4 : ad < (l0.length : Int) := dA
       obtain ⟨a8,bP,bQ,bR,bS,bT,ao,ap,aq,ar,au,ax,ay,az,aA⟩ := at_T28 b4.out ad a3 a4
       cases bT
       replace ao := xM HB ao
       replace ap := xM HB ap
       replace aq := xM HB aq
       replace ar := xM HB ar
       replace au := xM HB au
       have bi := aK ay
       have bj := aK ax
       clear ay ax
       have bk := aK aA
       have bm := aK az
       clear aA az
       replace a3 := eq_true a3
       replace a4 := eq_true a4
       obtain ⟨cO,cP,cQ⟩ := Kd.R_slice ak.out
       subst cQ
       go_wp2_with (first|((with_reducible refine gate_callee (f := 33) rfl ?_);refine gL 35 Tryz.func33 #[.slice cO aX.length cP,.int .i64 ((rd_T28 l0 ad).f0)] ?_;(with_reducible refine (r05_In.calls k2 _ _ aX ((rd_T28 l0 ad).f0) false _ ?aQ ?a5 cZ.out).mono ?_);(case aQ => exact cM (Kd.R_reads' ak.out).2.2);(case a5 => exact (Kd.R_reads' ak.out).2.1);rintro e w' ⟨rfl,⟨nd,rfl⟩⟩;refine ⟨_,rfl,?_⟩))
       go_roundg k2
       case measure => have := b5.out;have := b6.out;omega
       case rel => exact ⟨(aX),(wrap64 (ad - 1)),(by first|rfl|(simp;done)|(simp [*];done)),H',⟨by have := b5.out;have := b6.out;omega⟩,⟨rM ak.out⟩,⟨vM ab.out⟩,⟨vM ac.out⟩,⟨kM ae.out⟩,⟨bG HB.out⟩⟩
     ·rw [if_neg bO] at H
      have bv := decide_eq_false bO
      clear bO
      obtain rfl := Option.some.inj H
      go_wp2
      go_ret
      exact ⟨_,by first|rfl|(simp [errW_none,errW_some] <;> rfl)|(simp [*,errW_none,errW_some] <;> rfl),rM ak.out,bG HB.out⟩

/-! ### r26_Is: function 25 -/
def r26_Is.f (k : Nat) (l0 : List (S28)) (a1 : Int) (a2 : Int) : Option (Bool) := if a1 = 0 then ((r26_Get.f k l0 a2).bind fun aa => (if aa.2.2.2.2.2 = true then (some true) else (some (a2 == 0)))) else ((r26_Ancestors.f k l0 a2).bind fun ab => ((r05_In.f k ab a1).bind fun ac => (some ac)))
theorem r26_Is.mono : ∀ a0 a1 a2 k, LeO (r26_Is.f k a0 a1 a2) (r26_Is.f (k + 1) a0 a1 a2) := by
 intro a0 a1 a2 k
 unfold r26_Is.f
 repeat' (with_reducible first|exact r05_In.mono _ _ _|exact r26_Ancestors.mono _ _ _|exact r26_Get.mono _ _ _|exact LeO.refl _|exact LeO.none _|refine LeO.ite ?_ ?_|refine LeO.bind ?_ (fun _ => ?_))
theorem r26_Is.calls (k : Nat) (A0 : Option Addr) (c0 : Nat) (l0 : List (S28)) (a1 : Int) (a2 : Int) (r : Bool) (w : World) (aN : Kd.C k28 w A0 l0.length l0) (aO : l0.length ≤ c0) (h : r26_Is.f k l0 a1 a2 = some r) :
  Calls Tryz.prog 25 #[.slice A0 l0.length c0,.int .i64 a1,.int .i64 a2] w fun e w' => e = .returned (.bool r) ∧ Below w.heap.size w w' := by
 have aQ := Tryz.underlying28
 have ay := aK aN
 have az := aK aO
 clear aN aO
 have HB := aK (Below.refl w.heap.size w)
 unfold r26_Is.f at h
 have H := h
 clear h
 by_cases c4 : a1 = 0
 ·rw [if_pos c4] at H
  have aA := beq_iff_eq.mpr c4
  have aB := bne_eq_false_iff_eq.mpr c4
  clear c4
  replace H := Option.bind_eq_some_iff.mp H
  obtain ⟨⟨al,am,an,ao,ap,aq⟩,aP,H⟩ := H
  replace H : (if aq = true then (some true) else (some (a2 == 0))) = some r := H
  have A5 := aK aP
  clear aP
  by_cases c6 : aq = true
  ·subst c6
   rw [if_pos rfl] at H
   obtain rfl := Option.some.inj H
   go_enter Tryz.func25,Tryz.ntmps25
   go_wp2_with (first|((with_reducible refine gate_callee (f := 13) rfl ?_);refine gL 14 Tryz.func13 #[.slice A0 l0.length c0,.int .i64 a2] ?_;(with_reducible refine (r26_Get.calls k (fun k_ => k_ < w.heap.size) _ _ l0 a2 al am an ao ap true _ ?ab A5.out).mono ?_);(case ab => exact Kd.V_mk az.out (Kd.F_below (Kd.C_F k28_heap ay.out) (bM HB.out)));rintro e w7 ⟨aC,aD,rfl,aj,ar,hb⟩;refine ⟨_,rfl,?_⟩;have ac := aK (Kd.V_lower (Kd.V_mono (ok' := fun k_ => True) aj (fun k_ hk_ => trivial)) (below_size (bM HB.out)));have ad := aK (Kd.V_lower (Kd.V_mono (ok' := fun k_ => True) ar (fun k_ hk_ => trivial)) (below_size (bM HB.out)));replace HB := aK (below_step (bM HB.out) hb);(try clear hb);(try clear aj);(try clear ar))|((with_reducible refine gate_dst (N := 7) rfl ?_);refine box_event ?hg (N := 7) ?hd (cs := #[.int .i64 0,.slice none 0 0,.slice none 0 0,.int .i64 0,.int .i64 0]) (t := 28) ?hr ?_;(case hd => rfl);(case hg => rfl);(case hr => first|(go_simp;done)|(go_simp;rfl));intro aa hg w8 hbox hb;replace ac := aK (Kd.V_below (Kd.V_elderB (vM ac.out) aa (Nat.le_of_eq hg.symm)) hb);replace ad := aK (Kd.V_below (Kd.V_elderB (vM ad.out) aa (Nat.le_of_eq hg.symm)) hb);have ae := aK (hbox);have af := aK ((by rw [hg];exact (below_size (bM HB.out)) : w.heap.size ≤ aa));have au := Ge.mk af.out;have ag := aK ((by rw [hg];exact (below_size (bM HB.out)) : w.heap.size ≤ aa));have av := Ge.mk ag.out;replace HB := aK (below_step (bM HB.out) hb);clear hb hbox hg;obtain ⟨_,_,_,_,_,_,_,_,_,_⟩ := bk5_ ae.out;obtain ⟨aR,aS,aE⟩ := Kd.V_slice ac.out;subst aE;obtain ⟨aT,aU,aF⟩ := Kd.V_slice ad.out;subst aF))
   go_ret
   exact ⟨by first|rfl|(simp [errW_none,errW_some] <;> rfl)|(simp [*,errW_none,errW_some] <;> rfl),bG HB.out⟩
  ·replace c6 := Bool.eq_false_iff.mpr c6
   subst c6
   rw [if_neg (show ¬ (false = true) by decide)] at H
   obtain rfl := Option.some.inj H
   go_enter Tryz.func25,Tryz.ntmps25
   go_wp2_with (first|((with_reducible refine gate_callee (f := 13) rfl ?_);refine gL 14 Tryz.func13 #[.slice A0 l0.length c0,.int .i64 a2] ?_;(with_reducible refine (r26_Get.calls k (fun k_ => k_ < w.heap.size) _ _ l0 a2 al am an ao ap false _ ?ab A5.out).mono ?_);(case ab => exact Kd.V_mk az.out (Kd.F_below (Kd.C_F k28_heap ay.out) (bM HB.out)));rintro e a4 ⟨aC,aD,rfl,aj,ar,hb⟩;refine ⟨_,rfl,?_⟩;have ac := aK (Kd.V_lower (Kd.V_mono (ok' := fun k_ => True) aj (fun k_ hk_ => trivial)) (below_size (bM HB.out)));have ad := aK (Kd.V_lower (Kd.V_mono (ok' := fun k_ => True) ar (fun k_ hk_ => trivial)) (below_size (bM HB.out)));replace HB := aK (below_step (bM HB.out) hb);(try clear hb);(try clear aj);(try clear ar))|((with_reducible refine gate_dst (N := 7) rfl ?_);refine box_event ?hg (N := 7) ?hd (cs := #[.int .i64 0,.slice none 0 0,.slice none 0 0,.int .i64 0,.int .i64 0]) (t := 28) ?hr ?_;(case hd => rfl);(case hg => rfl);(case hr => first|(go_simp;done)|(go_simp;rfl));intro aa hg a5 hbox hb;replace ac := aK (Kd.V_below (Kd.V_elderB (vM ac.out) aa (Nat.le_of_eq hg.symm)) hb);replace ad := aK (Kd.V_below (Kd.V_elderB (vM ad.out) aa (Nat.le_of_eq hg.symm)) hb);have ae := aK (hbox);have af := aK ((by rw [hg];exact (below_size (bM HB.out)) : w.heap.size ≤ aa));have au := Ge.mk af.out;have ag := aK ((by rw [hg];exact (below_size (bM HB.out)) : w.heap.size ≤ aa));have av := Ge.mk ag.out;replace HB := aK (below_step (bM HB.out) hb);clear hb hbox hg;obtain ⟨_,_,_,_,_,_,_,_,_,_⟩ := bk5_ ae.out;obtain ⟨aV,aW,aG⟩ := Kd.V_slice ac.out;subst aG;obtain ⟨aX,aY,aH⟩ := Kd.V_slice ad.out;subst aH))
   go_ret
   exact ⟨by first|rfl|(simp [errW_none,errW_some] <;> rfl)|(simp [*,errW_none,errW_some] <;> rfl),bG HB.out⟩
 ·rw [if_neg c4] at H
  have aA := beq_eq_false_iff_ne.mpr c4
  have aB := bne_iff_ne.mpr c4
  replace H := Option.bind_eq_some_iff.mp H
  obtain ⟨ak,aw,H⟩ := H
  have aZ := aK aw
  clear aw
  replace H := Option.bind_eq_some_iff.mp H
  obtain ⟨aI,ax,H⟩ := H
  have a0 := aK ax
  clear ax
  obtain rfl := Option.some.inj H
  go_enter Tryz.func25,Tryz.ntmps25
  go_wp2_with (first|((with_reducible refine gate_callee (f := 23) rfl ?_);refine gL 24 Tryz.func23 #[.slice A0 l0.length c0,.int .i64 a2] ?_;(with_reducible refine (r26_Ancestors.calls k _ _ l0 a2 ak _ ?ab ?ah aZ.out).mono ?_);(case ab => exact cM ay.out);(case ah => exact az.out);rintro e a6 ⟨a3,rfl,aj,hb⟩;refine ⟨_,rfl,?_⟩;have ai := aK (Kd.R_lower aj (below_size (bM HB.out)));replace HB := aK (below_step (bM HB.out) hb);(try clear hb);(try clear aj);obtain ⟨aJ,aL,aM⟩ := Kd.R_slice ai.out;subst aM)|((with_reducible refine gate_callee (f := 33) rfl ?_);refine gL 26 Tryz.func33 #[.slice aJ ak.length aL,.int .i64 a1] ?_;(with_reducible refine (r05_In.calls k _ _ ak a1 aI _ ?ab ?ah a0.out).mono ?_);(case ab => exact cM (Kd.R_reads' ai.out).2.2);(case ah => exact (Kd.R_reads' ai.out).2.1);rintro e w' ⟨rfl,⟨nd,rfl⟩⟩;refine ⟨_,rfl,?_⟩))
  go_ret
  exact ⟨by first|rfl|(simp [errW_none,errW_some] <;> rfl)|(simp [*,errW_none,errW_some] <;> rfl),bM HB.out⟩

/-! ### r05_Minus: function 45 -/
def r05_Minus.l0 : Nat → List Int → List Int → List Int → Int → Option (List Int)
|0,_,_,_,_ => none
|k + 1,x0,x1,x5,x6 => if x6 < (x0.length : Int) then (if 0 ≤ x6 then ((r05_In.f k x1 (rd x0 x6)).bind fun aa => (if aa = true then (r05_Minus.l0 k x0 x1 x5 (wrap64 (x6 + 1))) else ((r05_Put.f k x5 (rd x0 x6)).bind fun ab => (r05_Minus.l0 k x0 x1 ab (wrap64 (x6 + 1)))))) else (none)) else (some x5)
def r05_Minus.f (k : Nat) (l0 : List Int) (l1 : List Int) : Option (List Int) := r05_Minus.l0 k l0 l1 (([] : List Int)) 0
theorem r05_Minus.mono_l : ∀ k, (∀ y0 y1 y2 y3, LeO (r05_Minus.l0 k y0 y1 y2 y3) (r05_Minus.l0 (k + 1) y0 y1 y2 y3))
|0 => fun _ _ _ _ r h => by simp [r05_Minus.l0] at h
|k + 1 => by
  have ih0 := r05_Minus.mono_l k
  ·intro y0 y1 y2 y3
   unfold r05_Minus.l0
   repeat' (with_reducible first|exact ih0 _ _ _ _|exact r05_In.mono _ _ _|exact r05_Put.mono _ _ _|exact LeO.refl _|exact LeO.none _|refine LeO.ite ?_ ?_|refine LeO.bind ?_ (fun _ => ?_))
theorem r05_Minus.mono : ∀ a0 a1 k, LeO (r05_Minus.f k a0 a1) (r05_Minus.f (k + 1) a0 a1) := by
 intro a0 a1 k
 have ih0 := r05_Minus.mono_l k
 unfold r05_Minus.f
 repeat' (with_reducible first|exact ih0 _ _ _ _|exact r05_In.mono _ _ _|exact r05_Put.mono _ _ _|exact LeO.refl _|exact LeO.none _|refine LeO.ite ?_ ?_|refine LeO.bind ?_ (fun _ => ?_))
theorem r05_Minus.calls (k : Nat) (A0 : Option Addr) (c0 : Nat) (l0 : List Int) (A1 : Option Addr) (c1 : Nat) (l1 : List Int) (r : List Int) (w : World) (aH : Kd.C (Kd.int .i64) w A0 l0.length l0) (aI : l0.length ≤ c0) (aJ : Kd.C (Kd.int .i64) w A1 l1.length l1) (aL : l1.length ≤ c1) (h : r05_Minus.f k l0 l1 = some r) :
  Calls Tryz.prog 45 #[.slice A0 l0.length c0,.slice A1 l1.length c1] w fun e w' => ∃ aM : Value,e = .returned (aM) ∧ Kd.R (Kd.int .i64) 3 w' w.heap.size (fun _ => True) aM r ∧ Below w.heap.size w w' := by
 have ay := aK aH
 have aU := aK aI
 clear aH aI
 have aN := aK aJ
 have aO := aK aL
 clear aJ aL
 have HB := aK (Below.refl w.heap.size w)
 have H : (r05_Minus.l0 k l0 l1 (([] : List Int)) 0) = some r := h
 clear h
 obtain ⟨ap,ac⟩ : ∃ y_ : List Int,y_ = (([] : List Int)) := ⟨_,rfl⟩
 replace H : (r05_Minus.l0 k l0 l1 ap 0) = some r := by first|(rw [ac];with_reducible exact H)|(have az := (Option.bind_some _ _).symm.trans H;rw [ac];with_reducible exact az)|(have az := (Option.bind_some _ _).symm.trans H;with_reducible exact az)|with_reducible exact H|(rw [ac];exact H)|exact H
 have ak := aK ac
 clear ac
 have H' := aK H
 clear H
 go_enter Tryz.func45,Tryz.ntmps45
 go_wp2_with (first|((with_reducible refine gate_dst (N := 7) rfl ?_);refine Kd.R_lit (Kd.int .i64) _ 3 ?hg (N := 7) ?hd (xs := ([] : List Int)) (inner := []) (ok := fun _ => True) (okp := fun _ => True) ?hr ?hp (fun _ hk => hk) trivial (Below.refl _ _) (Nat.le_refl _) (by simp) ?_;(case hd => rfl);(case hg => rfl);(case hr => first|(go_simp;done)|(go_simp;rfl));(case hp => exact (Reps.none _ _));intro aR w3 aq hb hg_ hnew_;clear hg_ hnew_;(first|rw [← ak.out] at aq|(simp only [Int.reduceToNat] at aq;rw [← ak.out] at aq));have ar := aK (Kd.R_lower aq (below_size (bM HB.out)));replace HB := aK (below_step (bM HB.out) hb);clear hb aq))
 go_loopg [5,6] k (fun kq v5 v6 w' => ∃ (aj : List Int) (aa : Int),v6 = .int .i64 aa ∧ Aside0 (r05_Minus.l0 kq l0 l1 aj aa = some r) ∧ Aside0 (kq ≤ k) ∧ Aside0 (Kd.R (Kd.int .i64) 3 w' w.heap.size (fun _ => True) v5 aj) ∧ Aside0 (Below w.heap.size w w'))
 case atStart => exact ⟨(ap),(0),(by first|rfl|(simp;done)|(simp [*];done)),H',⟨Nat.le_refl _⟩,⟨rM ar.out⟩,⟨bM HB.out⟩⟩
 case round =>
  clear H'
  try clear p2
  obtain ⟨aj,aa,rfl,HA,ax,ad,HB⟩ := hrel
  cases gk with
 |zero => exact absurd HA.out (by simp [r05_Minus.l0])
 |succ k1 =>
   have H := HA.out
   clear HA
   simp only [r05_Minus.l0] at H
   by_cases c5 : aa < (l0.length : Int)
   ·rw [if_pos c5] at H
    have aA := decide_eq_true c5
    clear c5
    obtain ⟨c6,H⟩ := iS H
    have aS := decide_eq_true c6
    clear c6
    replace H := Option.bind_eq_some_iff.mp H
    obtain ⟨aB,aP,H⟩ := H
    have A7 := aK aP
    clear aP
    by_cases c8 : aB = true
    ·subst c8
     rw [if_pos rfl] at H
     have H' := aK H
     clear H
     have ag : 0 ≤ (aa : Int) := dA
     have ah : aa < (l0.length : Int) := dA
     obtain ⟨al,am,ab⟩ := Kd.at_int ay.out aa ag ah
     cases am
     replace ab := xM HB ab
     replace ag := eq_true ag
     replace ah := eq_true ah
     go_wp2_with (first|((with_reducible refine gate_callee (f := 33) rfl ?_);refine gL 19 Tryz.func33 #[.slice A1 l1.length c1,.int .i64 (rd l0 aa)] ?_;(with_reducible refine (r05_In.calls k1 _ _ l1 (rd l0 aa) true _ ?ae ?af A7.out).mono ?_);(case ae => exact cM (Kd.C_below aN.out HB.out));(case af => exact aO.out);rintro e w' ⟨rfl,⟨nd,rfl⟩⟩;refine ⟨_,rfl,?_⟩))
     go_roundg k1
     case measure => have := ax.out;omega
     case rel => exact ⟨(aj),(wrap64 (aa + 1)),(by first|rfl|(simp;done)|(simp [*];done)),H',⟨by have := ax.out;omega⟩,⟨rM ad.out⟩,⟨bM HB.out⟩⟩
    ·replace c8 := Bool.eq_false_iff.mpr c8
     subst c8
     rw [if_neg (show ¬ (false = true) by decide)] at H
     replace H := Option.bind_eq_some_iff.mp H
     obtain ⟨au,aQ,H⟩ := H
     have A9 := aK aQ
     clear aQ
     have H' := aK H
     clear H
     have ag : 0 ≤ (aa : Int) := dA
     have ah : aa < (l0.length : Int) := dA
     obtain ⟨al,am,ab⟩ := Kd.at_int ay.out aa ag ah
     cases am
     replace ab := xM HB ab
     replace ag := eq_true ag
     replace ah := eq_true ah
     go_wp2_with (first|((with_reducible refine gate_callee (f := 33) rfl ?_);refine gL 19 Tryz.func33 #[.slice A1 l1.length c1,.int .i64 (rd l0 aa)] ?_;(with_reducible refine (r05_In.calls k1 _ _ l1 (rd l0 aa) false _ ?ae ?af A7.out).mono ?_);(case ae => exact cM (Kd.C_below aN.out HB.out));(case af => exact aO.out);rintro e w' ⟨rfl,⟨nd,rfl⟩⟩;refine ⟨_,rfl,?_⟩;have an : 0 ≤ (aa : Int) := dA;have ao : aa < (l0.length : Int) := dA;obtain ⟨av,aC,ai⟩ := Kd.at_int ay.out aa an ao;obtain rfl : al = av := (by injection aC);replace ai := xM HB ai;replace an := eq_true an;replace ao := eq_true ao;obtain ⟨aD,aE,aF⟩ := Kd.R_slice ad.out;subst aF)|((with_reducible refine gate_callee (f := 42) rfl ?_);refine gL 26 Tryz.func42 #[.slice aD aj.length aE,.int .i64 (rd l0 aa)] ?_;(with_reducible refine (r05_Put.calls k1 _ _ aj (rd l0 aa) au _ ?ae ?af A9.out).mono ?_);(case ae => exact cM (Kd.R_reads' ad.out).2.2);(case af => exact (Kd.R_reads' ad.out).2.1);rintro e aV ⟨aT,rfl,aG,hb⟩;refine ⟨_,rfl,?_⟩;have aw := aK (Kd.R_lower (Kd.R_new' aG (Kd.R_lt (rM ad.out))) (below_size (bM HB.out)));replace ad := aK (Kd.R_elder' (rM ad.out) (Kd.R_base aG) hb);replace HB := aK (below_step (bM HB.out) hb);(try clear hb);(try clear hk);(try clear aG)))
     go_roundg k1
     case measure => have := ax.out;omega
     case rel => exact ⟨(au),(wrap64 (aa + 1)),(by first|rfl|(simp;done)|(simp [*];done)),H',⟨by have := ax.out;omega⟩,⟨rM (Kd.R_mono aw.out (fun _ hk => trivial))⟩,⟨bM HB.out⟩⟩
   ·rw [if_neg c5] at H
    have aA := decide_eq_false c5
    clear c5
    obtain rfl := Option.some.inj H
    go_wp2
    go_ret
    exact ⟨_,by first|rfl|(simp [errW_none,errW_some] <;> rfl)|(simp [*,errW_none,errW_some] <;> rfl),rM ad.out,bM HB.out⟩

/-! ### r26_Between: function 27 -/
def r26_Between.f (k : Nat) (l0 : List (S28)) (a1 : Int) (a2 : Int) : Option (List Int) := (r26_Ancestors.f k l0 a2).bind fun aa => ((r26_Ancestors.f k l0 a1).bind fun ab => ((r05_Minus.f k aa ab).bind fun ac => (some ac)))
theorem r26_Between.mono : ∀ a0 a1 a2 k, LeO (r26_Between.f k a0 a1 a2) (r26_Between.f (k + 1) a0 a1 a2) := by
 intro a0 a1 a2 k
 unfold r26_Between.f
 repeat' (with_reducible first|exact r05_Minus.mono _ _ _|exact r26_Ancestors.mono _ _ _|exact LeO.refl _|exact LeO.none _|refine LeO.ite ?_ ?_|refine LeO.bind ?_ (fun _ => ?_))
theorem r26_Between.calls (k : Nat) (A0 : Option Addr) (c0 : Nat) (l0 : List (S28)) (a1 : Int) (a2 : Int) (r : List Int) (w : World) (ao : Kd.C k28 w A0 l0.length l0) (ap : l0.length ≤ c0) (h : r26_Between.f k l0 a1 a2 = some r) :
  Calls Tryz.prog 27 #[.slice A0 l0.length c0,.int .i64 a1,.int .i64 a2] w fun e w' => ∃ aq : Value,e = .returned (aq) ∧ Kd.R (Kd.int .i64) 3 w' w.heap.size (fun _ => True) aq r ∧ Below w.heap.size w w' := by
 have ar := aK ao
 have au := aK ap
 clear ao ap
 have HB := aK (Below.refl w.heap.size w)
 have H : ((r26_Ancestors.f k l0 a2).bind fun ae => ((r26_Ancestors.f k l0 a1).bind fun af => ((r05_Minus.f k ae af).bind fun ah => (some ah)))) = some r := h
 clear h
 replace H := Option.bind_eq_some_iff.mp H
 obtain ⟨ae,av,H⟩ := H
 have A4 := aK av
 clear av
 replace H := Option.bind_eq_some_iff.mp H
 obtain ⟨af,aw,H⟩ := H
 have A5 := aK aw
 clear aw
 replace H := Option.bind_eq_some_iff.mp H
 obtain ⟨ah,ax,H⟩ := H
 have A6 := aK ax
 clear ax
 obtain rfl := Option.some.inj H
 go_enter Tryz.func27,Tryz.ntmps27
 go_wp2_with (first|((with_reducible refine gate_callee (f := 23) rfl ?_);refine gL 9 Tryz.func23 #[.slice A0 l0.length c0,.int .i64 a2] ?_;(with_reducible refine (r26_Ancestors.calls k _ _ l0 a2 ae _ ?ab ?ac A4.out).mono ?_);(case ab => exact cM ar.out);(case ac => exact au.out);rintro e w7 ⟨ay,rfl,ag,hb⟩;refine ⟨_,rfl,?_⟩;have aa := aK (Kd.R_lower ag (below_size (bM HB.out)));replace HB := aK (below_step (bM HB.out) hb);(try clear hb);(try clear hk);(try clear ag))|((with_reducible refine gate_callee (f := 23) rfl ?_);refine gL 12 Tryz.func23 #[.slice A0 l0.length c0,.int .i64 a1] ?_;(with_reducible refine (r26_Ancestors.calls k _ _ l0 a1 af _ ?ab ?ac A5.out).mono ?_);(case ab => exact cM (Kd.C_below ar.out HB.out));(case ac => exact au.out);rintro e w8 ⟨az,rfl,ag,hb⟩;refine ⟨_,rfl,?_⟩;have ad := aK (Kd.R_lower (Kd.R_new' ag (Kd.R_lt (rM aa.out))) (below_size (bM HB.out)));replace aa := aK (Kd.R_elder' (rM aa.out) (Kd.R_base ag) hb);replace HB := aK (below_step (bM HB.out) hb);(try clear hb);(try clear hk);(try clear ag);obtain ⟨aA,aB,aC⟩ := Kd.R_slice aa.out;subst aC;obtain ⟨al,am,an⟩ := Kd.R_slice ad.out;subst an)|((with_reducible refine gate_callee (f := 45) rfl ?_);refine gL 13 Tryz.func45 #[.slice aA ae.length aB,.slice al af.length am] ?_;(with_reducible refine (r05_Minus.calls k _ _ ae _ _ af ah _ ?ab ?ac ?ai ?aj A6.out).mono ?_);(case ab => exact cM (Kd.R_reads' aa.out).2.2);(case ac => exact (Kd.R_reads' aa.out).2.1);(case ai => exact cM (Kd.R_reads' ad.out).2.2);(case aj => exact (Kd.R_reads' ad.out).2.1);rintro e aE ⟨aD,rfl,ag,hb⟩;refine ⟨_,rfl,?_⟩;have ak := aK (Kd.R_lower (Kd.R_new' (Kd.R_new' ag (Kd.R_lt (rM aa.out))) (Kd.R_lt (rM ad.out))) (below_size (bM HB.out)));replace HB := aK (below_step (bM HB.out) hb);(try clear hb);(try clear hk);(try clear ag)))
 go_ret
 exact ⟨_,by first|rfl|(simp [errW_none,errW_some] <;> rfl)|(simp [*,errW_none,errW_some] <;> rfl),rM (Kd.R_mono ak.out (fun _ hk => trivial)),bM HB.out⟩

/-! ### r05_And: function 49 -/
def r05_And.l0 : Nat → List Int → List Int → List Int → Int → Option (List Int)
|0,_,_,_,_ => none
|k + 1,x0,x1,x5,x6 => if x6 < (x0.length : Int) then (if 0 ≤ x6 then ((r05_In.f k x1 (rd x0 x6)).bind fun aa => (if aa = true then ((r05_Put.f k x5 (rd x0 x6)).bind fun ab => (r05_And.l0 k x0 x1 ab (wrap64 (x6 + 1)))) else (r05_And.l0 k x0 x1 x5 (wrap64 (x6 + 1))))) else (none)) else (some x5)
def r05_And.f (k : Nat) (l0 : List Int) (l1 : List Int) : Option (List Int) := r05_And.l0 k l0 l1 (([] : List Int)) 0
theorem r05_And.mono_l : ∀ k, (∀ y0 y1 y2 y3, LeO (r05_And.l0 k y0 y1 y2 y3) (r05_And.l0 (k + 1) y0 y1 y2 y3))
|0 => fun _ _ _ _ r h => by simp [r05_And.l0] at h
|k + 1 => by
  have ih0 := r05_And.mono_l k
  ·intro y0 y1 y2 y3
   unfold r05_And.l0
   repeat' (with_reducible first|exact ih0 _ _ _ _|exact r05_In.mono _ _ _|exact r05_Put.mono _ _ _|exact LeO.refl _|exact LeO.none _|refine LeO.ite ?_ ?_|refine LeO.bind ?_ (fun _ => ?_))
theorem r05_And.mono : ∀ a0 a1 k, LeO (r05_And.f k a0 a1) (r05_And.f (k + 1) a0 a1) := by
 intro a0 a1 k
 have ih0 := r05_And.mono_l k
 unfold r05_And.f
 repeat' (with_reducible first|exact ih0 _ _ _ _|exact r05_In.mono _ _ _|exact r05_Put.mono _ _ _|exact LeO.refl _|exact LeO.none _|refine LeO.ite ?_ ?_|refine LeO.bind ?_ (fun _ => ?_))
theorem r05_And.calls (k : Nat) (A0 : Option Addr) (c0 : Nat) (l0 : List Int) (A1 : Option Addr) (c1 : Nat) (l1 : List Int) (r : List Int) (w : World) (aH : Kd.C (Kd.int .i64) w A0 l0.length l0) (aI : l0.length ≤ c0) (aJ : Kd.C (Kd.int .i64) w A1 l1.length l1) (aL : l1.length ≤ c1) (h : r05_And.f k l0 l1 = some r) :
  Calls Tryz.prog 49 #[.slice A0 l0.length c0,.slice A1 l1.length c1] w fun e w' => ∃ aM : Value,e = .returned (aM) ∧ Kd.R (Kd.int .i64) 3 w' w.heap.size (fun _ => True) aM r ∧ Below w.heap.size w w' := by
 have ay := aK aH
 have aU := aK aI
 clear aH aI
 have aN := aK aJ
 have aO := aK aL
 clear aJ aL
 have HB := aK (Below.refl w.heap.size w)
 have H : (r05_And.l0 k l0 l1 (([] : List Int)) 0) = some r := h
 clear h
 obtain ⟨ap,ac⟩ : ∃ y_ : List Int,y_ = (([] : List Int)) := ⟨_,rfl⟩
 replace H : (r05_And.l0 k l0 l1 ap 0) = some r := by first|(rw [ac];with_reducible exact H)|(have az := (Option.bind_some _ _).symm.trans H;rw [ac];with_reducible exact az)|(have az := (Option.bind_some _ _).symm.trans H;with_reducible exact az)|with_reducible exact H|(rw [ac];exact H)|exact H
 have ak := aK ac
 clear ac
 have H' := aK H
 clear H
 go_enter Tryz.func49,Tryz.ntmps49
 go_wp2_with (first|((with_reducible refine gate_dst (N := 7) rfl ?_);refine Kd.R_lit (Kd.int .i64) _ 3 ?hg (N := 7) ?hd (xs := ([] : List Int)) (inner := []) (ok := fun _ => True) (okp := fun _ => True) ?hr ?hp (fun _ hk => hk) trivial (Below.refl _ _) (Nat.le_refl _) (by simp) ?_;(case hd => rfl);(case hg => rfl);(case hr => first|(go_simp;done)|(go_simp;rfl));(case hp => exact (Reps.none _ _));intro aR w3 aq hb hg_ hnew_;clear hg_ hnew_;(first|rw [← ak.out] at aq|(simp only [Int.reduceToNat] at aq;rw [← ak.out] at aq));have ar := aK (Kd.R_lower aq (below_size (bM HB.out)));replace HB := aK (below_step (bM HB.out) hb);clear hb aq))
 go_loopg [5,6] k (fun kq v5 v6 w' => ∃ (aj : List Int) (aa : Int),v6 = .int .i64 aa ∧ Aside0 (r05_And.l0 kq l0 l1 aj aa = some r) ∧ Aside0 (kq ≤ k) ∧ Aside0 (Kd.R (Kd.int .i64) 3 w' w.heap.size (fun _ => True) v5 aj) ∧ Aside0 (Below w.heap.size w w'))
 case atStart => exact ⟨(ap),(0),(by first|rfl|(simp;done)|(simp [*];done)),H',⟨Nat.le_refl _⟩,⟨rM ar.out⟩,⟨bM HB.out⟩⟩
 case round =>
  clear H'
  try clear p2
  obtain ⟨aj,aa,rfl,HA,ax,ad,HB⟩ := hrel
  cases gk with
 |zero => exact absurd HA.out (by simp [r05_And.l0])
 |succ k1 =>
   have H := HA.out
   clear HA
   simp only [r05_And.l0] at H
   by_cases c5 : aa < (l0.length : Int)
   ·rw [if_pos c5] at H
    have aA := decide_eq_true c5
    clear c5
    obtain ⟨c6,H⟩ := iS H
    have aS := decide_eq_true c6
    clear c6
    replace H := Option.bind_eq_some_iff.mp H
    obtain ⟨aB,aP,H⟩ := H
    have A7 := aK aP
    clear aP
    by_cases c8 : aB = true
    ·subst c8
     rw [if_pos rfl] at H
     replace H := Option.bind_eq_some_iff.mp H
     obtain ⟨au,aQ,H⟩ := H
     have A9 := aK aQ
     clear aQ
     have H' := aK H
     clear H
     have ag : 0 ≤ (aa : Int) := dA
     have ah : aa < (l0.length : Int) := dA
     obtain ⟨al,am,ab⟩ := Kd.at_int ay.out aa ag ah
     cases am
     replace ab := xM HB ab
     replace ag := eq_true ag
     replace ah := eq_true ah
     go_wp2_with (first|((with_reducible refine gate_callee (f := 33) rfl ?_);refine gL 19 Tryz.func33 #[.slice A1 l1.length c1,.int .i64 (rd l0 aa)] ?_;(with_reducible refine (r05_In.calls k1 _ _ l1 (rd l0 aa) true _ ?ae ?af A7.out).mono ?_);(case ae => exact cM (Kd.C_below aN.out HB.out));(case af => exact aO.out);rintro e w' ⟨rfl,⟨nd,rfl⟩⟩;refine ⟨_,rfl,?_⟩;have an : 0 ≤ (aa : Int) := dA;have ao : aa < (l0.length : Int) := dA;obtain ⟨av,aC,ai⟩ := Kd.at_int ay.out aa an ao;obtain rfl : al = av := (by injection aC);replace ai := xM HB ai;replace an := eq_true an;replace ao := eq_true ao;obtain ⟨aD,aE,aF⟩ := Kd.R_slice ad.out;subst aF)|((with_reducible refine gate_callee (f := 42) rfl ?_);refine gL 25 Tryz.func42 #[.slice aD aj.length aE,.int .i64 (rd l0 aa)] ?_;(with_reducible refine (r05_Put.calls k1 _ _ aj (rd l0 aa) au _ ?ae ?af A9.out).mono ?_);(case ae => exact cM (Kd.R_reads' ad.out).2.2);(case af => exact (Kd.R_reads' ad.out).2.1);rintro e aV ⟨aT,rfl,aG,hb⟩;refine ⟨_,rfl,?_⟩;have aw := aK (Kd.R_lower (Kd.R_new' aG (Kd.R_lt (rM ad.out))) (below_size (bM HB.out)));replace ad := aK (Kd.R_elder' (rM ad.out) (Kd.R_base aG) hb);replace HB := aK (below_step (bM HB.out) hb);(try clear hb);(try clear hk);(try clear aG)))
     go_roundg k1
     case measure => have := ax.out;omega
     case rel => exact ⟨(au),(wrap64 (aa + 1)),(by first|rfl|(simp;done)|(simp [*];done)),H',⟨by have := ax.out;omega⟩,⟨rM (Kd.R_mono aw.out (fun _ hk => trivial))⟩,⟨bM HB.out⟩⟩
    ·replace c8 := Bool.eq_false_iff.mpr c8
     subst c8
     rw [if_neg (show ¬ (false = true) by decide)] at H
     have H' := aK H
     clear H
     have ag : 0 ≤ (aa : Int) := dA
     have ah : aa < (l0.length : Int) := dA
     obtain ⟨al,am,ab⟩ := Kd.at_int ay.out aa ag ah
     cases am
     replace ab := xM HB ab
     replace ag := eq_true ag
     replace ah := eq_true ah
     go_wp2_with (first|((with_reducible refine gate_callee (f := 33) rfl ?_);refine gL 19 Tryz.func33 #[.slice A1 l1.length c1,.int .i64 (rd l0 aa)] ?_;(with_reducible refine (r05_In.calls k1 _ _ l1 (rd l0 aa) false _ ?ae ?af A7.out).mono ?_);(case ae => exact cM (Kd.C_below aN.out HB.out));(case af => exact aO.out);rintro e w' ⟨rfl,⟨nd,rfl⟩⟩;refine ⟨_,rfl,?_⟩))
     go_roundg k1
     case measure => have := ax.out;omega
     case rel => exact ⟨(aj),(wrap64 (aa + 1)),(by first|rfl|(simp;done)|(simp [*];done)),H',⟨by have := ax.out;omega⟩,⟨rM ad.out⟩,⟨bM HB.out⟩⟩
   ·rw [if_neg c5] at H
    have aA := decide_eq_false c5
    clear c5
    obtain rfl := Option.some.inj H
    go_wp2
    go_ret
    exact ⟨_,by first|rfl|(simp [errW_none,errW_some] <;> rfl)|(simp [*,errW_none,errW_some] <;> rfl),rM ad.out,bM HB.out⟩
end Go.Proofs.YtgadbpljlpclnaaGreatDoor.H
