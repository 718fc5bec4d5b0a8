import Derived.Test.YtmgliocboeifdaaDoorKx0
import Derived.Test.YtmgliocboeifdaaDoorKx2
namespace Go.Proofs.YtmgliocboeifdaaDoor.K
open Go.RowKit Go.Proofs.YtmgliocboeifdaaDoorW.PrintWords Go.Proofs.YtmgliocboeifdaaDoorW.PrintLast Go.Proofs.YtmgliocboeifdaaDoorW.PrintMore
set_option maxHeartbeats 4000000
set_option maxRecDepth 100000
attribute [local go_sem] max2_int min2_int max_two min_two max_three min_three max_four min_four
set_option linter.unusedVariables false
set_option linter.unusedSimpArgs false

/-! ### manifest_state_after: function 42 -/
def manifest_state_after.f (k : Nat) (l0_0 : List Int) (l0_1 : List Int) (a0_2 : Int) (a1_0 : Int) (a1_1 : Int) (a1_2 : Int) (l1_3 : List Int) (l1_4 : List Int) (l1_5 : List ByteArray) : Option (List Int × List Int × Int) := if a1_1 = 1 then ((posting_Or.f k l0_0 (([a1_2] : List Int))).bind fun t150 => (some (t150, l0_1, mx a0_2 a1_2))) else (if a1_1 = 2 then ((posting_Or.f k l0_1 l1_3).bind fun t153 => (some (l0_0, t153, mx a0_2 a1_2))) else (if a1_1 = 3 then ((posting_Minus.f l0_0 l1_4).bind fun t156 => ((posting_Or.f k t156 (([a1_2] : List Int))).bind fun t162 => (some (t162, ([] : List Int), mx a0_2 a1_2)))) else (some (l0_0, l0_1, mx a0_2 a1_2))))
theorem manifest_state_after.mono : ∀ a0 a1 a2 a3 a4 a5 a6 a7 a8 k, LeO (manifest_state_after.f k a0 a1 a2 a3 a4 a5 a6 a7 a8) (manifest_state_after.f (k + 1) a0 a1 a2 a3 a4 a5 a6 a7 a8) := by
 intro a0 a1 a2 a3 a4 a5 a6 a7 a8 k
 unfold manifest_state_after.f
 repeat' first
  |(with_reducible exact posting_Or.mono _ _ _)
  |(with_reducible exact LeO.refl _)
  |(with_reducible exact LeO.none _)
  |(with_reducible refine LeO.ite ?_ ?_)
  |(with_reducible refine LeO.bind ?_ (fun _ => ?_))
  |exact posting_Or.mono _ _ _
  |exact LeO.none _
  |refine LeO.ite ?_ ?_
  |refine LeO.bind ?_ (fun _ => ?_)
def manifest_state_after.T7 : Bool × List (List Nat × List Nat) := (true, [([], []), ([0], [0]), ([], []), ([2], [2]), ([1, 3], [1, 3]), ([], []), ([5], [5]), ([6], [6]), ([4, 7, 4], [4, 7]), ([0, 1, 2, 3, 4, 5, 6, 7, 8], []), ([9, 8, 8, 0, 1, 2, 3, 4, 5, 6, 7, 8], [8, 9])])
def manifest_state_after.B7 : List Nat := [0, 1, 0, 4, 15, 0, 32, 96, 255, 511, 1023]
theorem manifest_state_after.tab7 : rtab .any (opsOf Tryd.f42 7) = manifest_state_after.T7 := by kernel_rfl
theorem manifest_state_after.bits7 : waitsOk manifest_state_after.T7.2 manifest_state_after.B7 = true := by kernel_rfl
theorem manifest_state_after.calls (k : Nat) (ac : Nat → Prop) (aN : Value) (am : List Int) (ad : Nat → Prop) (aO : Value) (ao : List Int) (au : Int) (aS : Int) (aD : Int) (an : Int) (bh : Nat → Prop) (aH : Option Addr) (aI : Nat) (ax : List Int) (aP : Option Addr) (aQ : Nat) (aA : List Int) (aT : Option Addr) (aU : Nat) (aJ : List ByteArray) (r1 : List Int) (r2 : List Int) (r3 : Int) (w0 w : World) (hB : Below w0.heap.size w0 w) (b3 : Kd.R (Kd.int .i64) 3 w w0.heap.size ac aN am) (bB : ∀ k_, ac k_ → ¬ ad k_) (b4 : Kd.R (Kd.int .i64) 3 w w0.heap.size ad aO ao) (bC : ∀ k_, ad k_ → ¬ ac k_) (cj : Kd.V (Kd.int .i64) 3 w w0.heap.size (fun k_ => bh k_ ∧ some k_ ≠ (aN : Value).ownBlock ∧ some k_ ≠ (aO : Value).ownBlock) (.slice aH ax.length aI) ax) (b5 : ∀ W_, Kept w W_ (fun k_ => ac k_ ∨ ad k_) → Kd.C (Kd.int .i64) W_ aP aA.length aA) (b6 : aA.length ≤ aQ) (b7 : ∀ W_, Kept w W_ (fun k_ => ac k_ ∨ ad k_) → Kd.C Kd.string W_ aT aJ.length aJ) (b8 : aJ.length ≤ aU) (h : manifest_state_after.f k am ao au aS aD an ax aA aJ = some (r1, r2, r3)) :
  Calls Tryd.prog 42 #[.agg #[aN,aO,.int .i64 au],.agg #[.int .i64 aS,.int .i64 aD,.int .i64 an,.slice aH ax.length aI,.slice aP aA.length aQ,.slice aT aJ.length aU]] w fun e w' => ∃ cK cL : Value,e = .returned (.agg #[cK,cL,.int .i64 r3]) ∧ Kd.R (Kd.int .i64) 3 w' w0.heap.size (fun k_ => ((ac k_ ∨ ad k_) ∨ w.heap.size ≤ k_) ∧ some k_ ≠ (cL : Value).ownBlock) cK r1 ∧ Kd.R (Kd.int .i64) 3 w' w0.heap.size (fun k_ => ((ac k_ ∨ ad k_) ∨ w.heap.size ≤ k_) ∧ some k_ ≠ (cK : Value).ownBlock) cL r2 ∧ Below w0.heap.size w0 w' ∧ Kept w w' (fun k_ => ac k_ ∨ ad k_) := by
 have dU := Tryd.underlying48
 have dV := Tryd.underlying37
 have ae := aK (show Kd.R (Kd.int .i64) 3 w w0.heap.size (fun k_ => ((ac k_ ∨ ad k_) ∨ w.heap.size ≤ k_) ∧ some k_ ≠ (aO : Value).ownBlock) aN am from Kd.R_mono b3 (fun k_ hk => ⟨(.inl (.inl hk)),fun e_ => bB k_ hk (b4.1 k_ e_.symm)⟩))
 have af := aK (show Kd.R (Kd.int .i64) 3 w w0.heap.size (fun k_ => ((ac k_ ∨ ad k_) ∨ w.heap.size ≤ k_) ∧ some k_ ≠ (aN : Value).ownBlock) aO ao from Kd.R_mono b4 (fun k_ hk => ⟨(.inl (.inr hk)),fun e_ => bC k_ hk (b3.1 k_ e_.symm)⟩))
 have ah := aK (show Kd.V (Kd.int .i64) 3 w w0.heap.size (fun k_ => ((ac k_ ∨ ad k_ ∨ bh k_) ∨ w.heap.size ≤ k_) ∧ some k_ ≠ (aN : Value).ownBlock ∧ some k_ ≠ (aO : Value).ownBlock) (.slice aH ax.length aI) ax from Kd.V_mono cj (fun k_ hk => ⟨.inl (.inr (.inr hk.1)),hk.2⟩))
 have b9 := aK b5
 have ca := aK b6
 clear b5 b6
 have dc := aK b7
 have dd := aK b8
 clear b7 b8
 have HK := aK (Kept.refl w (fun k_ => ac k_ ∨ ad k_))
 have d6 := aK hB.size
 have HB := aK hB
 clear hB
 have H : (if aD = 1 then ((posting_Or.f k am (([an] : List Int))).bind fun aR => (some (aR,ao,mx au an))) else (if aD = 2 then ((posting_Or.f k ao ax).bind fun a2 => (some (am,a2,mx au an))) else (if aD = 3 then ((posting_Minus.f am aA).bind fun a3 => ((posting_Or.f k a3 (([an] : List Int))).bind fun aV => (some (aV,([] : List Int),mx au an)))) else (some (am,ao,mx au an))))) = some (r1,r2,r3) := h
 clear h
 by_cases c3 : aD = 1
 ·rw [if_pos c3] at H
  have cN := beq_iff_eq.mpr c3
  have cO := bne_eq_false_iff_eq.mpr c3
  clear c3
  obtain ⟨b0,bi⟩ : ∃ y_ : List Int,y_ = (([an] : List Int)) := ⟨_,rfl⟩
  replace H : ((posting_Or.f k am b0).bind fun aR => (some (aR,ao,mx au an))) = some (r1,r2,r3) := by first|(rw [bi];with_reducible exact H)|(have cf := (Option.bind_some _ _).symm.trans H;rw [bi];with_reducible exact cf)|(have cf := (Option.bind_some _ _).symm.trans H;with_reducible exact cf)|with_reducible exact H|(rw [bi];exact H)|exact H
  have cb := aK bi
  clear bi
  replace H := Option.bind_eq_some_iff.mp H
  obtain ⟨aR,de,H⟩ := H
  have A4 := aK de
  clear de
  obtain ⟨cg,bJ⟩ : ∃ j_ : Int,(mx au an) = j_ := ⟨_,rfl⟩
  replace H : (some (aR,ao,cg)) = some (r1,r2,r3) := by first|(rw [bJ] at H;exact H)|(simp only [bJ] at H ⊢;exact H)
  (try rw [bJ] at A4)
  have df : (if au < an then an else au) = cg := bJ
  simp only [Option.some.injEq,Prod.mk.injEq] at H
  obtain ⟨rfl,rfl,rfl⟩ := H
  obtain ⟨cP,cQ,dW⟩ := Kd.R_slice ae.out
  subst dW
  obtain ⟨ck,cl,dX⟩ := Kd.R_slice af.out
  subst dX
  go_enter Tryd.func42,Tryd.ntmps42
  go_wp2_with (first|((with_reducible refine gate_dst (N := 2) rfl ?_);refine box_event ?hg (N := 2) ?hd (cs := #[.slice cP am.length cQ,.slice ck ao.length cl,.int .i64 au]) (t := 48) ?hr ?_;(case hd => rfl);(case hg => rfl);(case hr => first|(go_simp;done)|(go_simp;rfl));intro aj hg w8 hbox hb;replace ae := aK (Kd.R_below (rM ae.out) hb);replace af := aK (Kd.R_below (rM af.out) hb);replace ah := aK (Kd.V_below (Kd.V_elderB (vM ah.out) aj (Nat.le_of_eq hg.symm)) hb);have aa := aK (hbox);have aW := aK ((by rw [hg];exact (by first|exact HK.out.1|exact (show Kept w _ (fun k_ => ac k_ ∨ ad k_) from kG HK.out).1) : w.heap.size ≤ aj));have bK := Ge.mk aW.out;replace HK := aK (Kept.below (S := (fun k_ => ac k_ ∨ ad k_)) (kG HK.out) hb);have aX := aK ((by rw [hg];exact (below_size (bM HB.out)) : w0.heap.size ≤ aj));have bL := Ge.mk aX.out;replace HB := aK (below_step (bM HB.out) hb);clear hb hbox hg)|((with_reducible refine gate_dst (N := 3) rfl ?_);refine box_event ?hg (N := 3) ?hd (cs := #[.int .i64 aS,.int .i64 aD,.int .i64 an,.slice aH ax.length aI,.slice aP aA.length aQ,.slice aT aJ.length aU]) (t := 37) ?hr ?_;(case hd => rfl);(case hg => rfl);(case hr => first|(go_simp;done)|(go_simp;rfl));intro al hg w9 hbox hb;replace ae := aK (Kd.R_below (rM ae.out) hb);replace af := aK (Kd.R_below (rM af.out) hb);replace ah := aK (Kd.V_below (Kd.V_elderB (vM ah.out) al (Nat.le_of_eq hg.symm)) hb);have ab := aK (hbox);have aY := aK ((by rw [hg];exact (by first|exact HK.out.1|exact (show Kept w _ (fun k_ => ac k_ ∨ ad k_) from kG HK.out).1) : w.heap.size ≤ al));have bN := Ge.mk aY.out;replace HK := aK (Kept.below (S := (fun k_ => ac k_ ∨ ad k_)) (kG HK.out) hb);have aZ := aK ((by rw [hg];exact (below_size (bG HB.out)) : w0.heap.size ≤ al));have bO := Ge.mk aZ.out;replace HB := aK (below_step (bG HB.out) hb);have ap := aK (nbL aa.out hg);have aq := aK (nbR aa.out hg);replace aa := aK (blk_below (kM aa.out) hb);clear hb hbox hg)|((with_reducible refine gate_dst (N := 4) rfl ?_);refine box_event ?hg (N := 4) ?hd (cs := #[.slice none 0 0,.slice none 0 0,.int .i64 0]) (t := 48) ?hr ?_;(case hd => rfl);(case hg => rfl);(case hr => first|(go_simp;done)|(go_simp;rfl));intro ai hg d7 hbox hb;replace ae := aK (Kd.R_below (rM ae.out) hb);replace af := aK (Kd.R_below (rM af.out) hb);replace ah := aK (Kd.V_below (Kd.V_elderB (vM ah.out) ai (Nat.le_of_eq hg.symm)) hb);have ag := aK (hbox);have a0 := aK ((by rw [hg];exact (by first|exact HK.out.1|exact (show Kept w _ (fun k_ => ac k_ ∨ ad k_) from kG HK.out).1) : w.heap.size ≤ ai));have bP := Ge.mk a0.out;replace HK := aK (Kept.below (S := (fun k_ => ac k_ ∨ ad k_)) (kG HK.out) hb);have a1 := aK ((by rw [hg];exact (below_size (bG HB.out)) : w0.heap.size ≤ ai));have bQ := Ge.mk a1.out;replace HB := aK (below_step (bG HB.out) hb);have ar := aK (nbL aa.out hg);have ak := aK (nbR aa.out hg);replace aa := aK (blk_below (kM aa.out) hb);have av := aK (nbL ab.out hg);have aw := aK (nbR ab.out hg);replace ab := aK (blk_below (kM ab.out) hb);clear hb hbox hg;have dg := aq.out;have dh := ap.out;have di := av.out;have dj := aw.out;obtain ⟨_,_,_,_,_,_,_,_,_,_,_,_⟩ := bk6_ ab.out;have dk := ar.out;have dl := ak.out;obtain ⟨_,_,_,_,_,_⟩ := bk3_ aa.out)|((with_reducible refine gate_dst (N := 13) rfl ?_);refine Kd.R_lit (Kd.int .i64) _ 3 ?hg (N := 13) ?hd (xs := ([an] : List Int)) (inner := [.int .i64 an]) (ok := fun _ => True) (okp := fun _ => True) ?hr ?hp (fun _ hk => hk) trivial (Below.refl _ _) (Nat.le_refl _) (by simp) ?_;(case hd => rfl);(case hg => rfl);(case hr => first|(go_simp;done)|(go_simp;rfl));(case hp => exact (Reps.one (show Kd.M (Kd.int .i64) _ _ _ an [.int .i64 an] from rfl) (Reps.none _ _)));intro dY d8 bj hb hg_ hnew_;clear hg_ hnew_;(first|rw [← cb.out] at bj|(simp only [Int.reduceToNat] at bj;rw [← cb.out] at bj));replace ah := aK (Kd.V_elder' (vM ah.out) (Kd.R_base bj) hb);have bR := aK (Kd.R_lower (Kd.R_new' (Kd.R_new' (Kd.R_newM (M := fun k_ => ((ac k_ ∨ ad k_) ∨ w.heap.size ≤ k_)) bj (by first|exact HK.out.1|exact (show Kept w _ (fun k_ => ac k_ ∨ ad k_) from kG HK.out).1) (fun k_ h_ => .inr h_)) (Kd.R_lt (rM ae.out))) (Kd.R_lt (rM af.out))) (below_size (bG HB.out)));replace ae := aK (Kd.R_elder' (rM ae.out) (Kd.R_base bj) hb);replace af := aK (Kd.R_elder' (rM af.out) (Kd.R_base bj) hb);replace aa := aK (blk_below (kM aa.out) hb);replace ab := aK (blk_below (kM ab.out) hb);replace ag := aK (blk_below (kM ag.out) hb);replace HK := aK (Kept.below (S := (fun k_ => ac k_ ∨ ad k_)) (kG HK.out) hb);replace HB := aK (below_step (bG HB.out) hb);clear hb bj;obtain ⟨cm,cn,cR⟩ := Kd.R_slice bR.out;subst cR)|((with_reducible refine gate_callee (f := 49) rfl ?_);refine gL 14 Tryd.func49 #[.slice cP am.length cQ,.slice cm b0.length cn] ?_;(with_reducible refine (posting_Or.calls k (fun k_ => some k_ = (.slice cP am.length cQ : Value).ownBlock) _ _ am (fun k_ => some k_ = (.slice cm b0.length cn : Value).ownBlock) _ _ b0 aR _ ?aL ?aM A4.out).mono ?_);(case aL => exact Kd.R_V (Kd.R_tight rfl (Kd.R_types (Kd.R_types (Kd.R_types (ae.out) aa.out (by decide)) ab.out (by decide)) ag.out (by decide))));(case aM => exact Kd.R_V (Kd.R_tight rfl (Kd.R_types (Kd.R_types (Kd.R_types (bR.out) aa.out (by decide)) ab.out (by decide)) ag.out (by decide))));rintro e d9 ⟨dZ,rfl,aG,hb⟩;refine ⟨_,rfl,?_⟩;replace ah := aK (Kd.V_elder' (vM ah.out) (Kd.R_base aG) hb);have cc := aK (Kd.R_lower (Kd.R_new' (Kd.R_new' (Kd.R_new' (Kd.R_newM (M := fun k_ => ((ac k_ ∨ ad k_) ∨ w.heap.size ≤ k_)) (Kd.R_mono (ok' := fun k_ => True) aG (fun _ hk_ => trivial)) (by first|exact HK.out.1|exact (show Kept w _ (fun k_ => ac k_ ∨ ad k_) from kG HK.out).1) (fun k_ h_ => .inr h_)) (Kd.R_lt (rM ae.out))) (Kd.R_lt (rM af.out))) (Kd.R_lt (rM bR.out))) (below_size (bG HB.out)));replace ae := aK (Kd.R_elder' (rM ae.out) (Kd.R_base aG) hb);replace af := aK (Kd.R_elder' (rM af.out) (Kd.R_base aG) hb);replace aa := aK (blk_below (kM aa.out) hb);replace ab := aK (blk_below (kM ab.out) hb);replace ag := aK (blk_below (kM ag.out) hb);replace HK := aK (Kept.below (S := (fun k_ => ac k_ ∨ ad k_)) (kG HK.out) hb);replace HB := aK (below_step (bG HB.out) hb);(try clear hb);(try clear hk);(try clear aG);obtain ⟨bp,bq,cS⟩ := Kd.R_slice cc.out;subst cS;obtain ⟨_,_,_,_,_,_⟩ := bk3_ aa.out;obtain ⟨_,_,_,_,_,_,_,_,_,_,_,_⟩ := bk6_ ab.out;obtain ⟨_,_,_,_,_,_⟩ := bk3_ ag.out))
  refine bodyPost_ret (results_cell_row rfl _ _ ai 48 #[.slice bp aR.length bq,.slice ck ao.length cl,.int .i64 cg] (0,0) _ rfl (by refine kO ?_;refine blk_put (cs := #[.slice bp aR.length bq,.slice ck ao.length cl,.int .i64 0]) ?_ 2 _ rfl;refine kO ?_;refine blk_put (cs := #[.slice bp aR.length bq,.slice none 0 0,.int .i64 0]) ?_ 1 _ rfl;refine kO ?_;refine blk_put (cs := #[.slice none 0 0,.slice none 0 0,.int .i64 0]) ?_ 0 _ rfl;refine kO ?_;refine blk_far ?_ ak.out _;refine kO ?_;refine blk_far ?_ ak.out _;refine kO ?_;exact ag.out) Tryd.underlying48 rfl (by kernel_rfl)) rfl ?_
  exact ⟨_,_,by first|rfl|(simp [errW_none,errW_some] <;> rfl)|(simp only [← bJ];first|rfl|(simp [errW_none,errW_some] <;> rfl))|(simp [*,errW_none,errW_some] <;> rfl),by (with_reducible repeat (first|apply Kd.R_alloc|apply Kd.R_drewN|apply Kd.R_drew));exact Kd.R_mono (Kd.R_far (p := ⟨ai,2,none⟩) (Kd.R_far (p := ⟨ai,1,none⟩) (Kd.R_far (p := ⟨ai,0,none⟩) (Kd.R_far (p := ⟨aj,2,none⟩) (Kd.R_far (p := ⟨aj,0,none⟩) (Kd.R_types (Kd.R_types cc.out aa.out (by decide)) ag.out (by decide)) (fun _ hk => hk.1.2) (.slice bp aR.length bq)) (fun _ hk => hk.1.2) (.int .i64 cg)) (fun _ hk => hk.2) (.slice bp aR.length bq)) (fun _ hk => hk.2) (.slice ck ao.length cl)) (fun _ hk => hk.2) (.int .i64 cg)) (fun _ hk => ⟨hk.1.1.1.1.1.1,hk.1.1.1.2⟩),by (with_reducible repeat (first|apply Kd.R_alloc|apply Kd.R_drewN|apply Kd.R_drew));exact Kd.R_mono (Kd.R_far (p := ⟨ai,2,none⟩) (Kd.R_far (p := ⟨ai,1,none⟩) (Kd.R_far (p := ⟨ai,0,none⟩) (Kd.R_far (p := ⟨aj,2,none⟩) (Kd.R_far (p := ⟨aj,0,none⟩) (Kd.R_types (Kd.R_types af.out aa.out (by decide)) ag.out (by decide)) (fun _ hk => hk.1.2) (.slice bp aR.length bq)) (fun _ hk => hk.1.2) (.int .i64 cg)) (fun _ hk => hk.2) (.slice bp aR.length bq)) (fun _ hk => hk.2) (.slice ck ao.length cl)) (fun _ hk => hk.2) (.int .i64 cg)) (fun _ hk => ⟨hk.1.1.1.1.1,hk.1.1.2⟩),bG HB.out,kG HK.out⟩
 ·rw [if_neg c3] at H
  have cN := beq_eq_false_iff_ne.mpr c3
  have cO := bne_iff_ne.mpr c3
  by_cases ch : aD = 2
  ·rw [if_pos ch] at H
   have co := beq_iff_eq.mpr ch
   have cp := bne_eq_false_iff_eq.mpr ch
   clear ch
   replace H := Option.bind_eq_some_iff.mp H
   obtain ⟨a2,cq,H⟩ := H
   have dm := aK cq
   clear cq
   obtain ⟨br,bk⟩ : ∃ j_ : Int,(mx au an) = j_ := ⟨_,rfl⟩
   replace H : (some (am,a2,br)) = some (r1,r2,r3) := by first|(rw [bk] at H;exact H)|(simp only [bk] at H ⊢;exact H)
   (try rw [bk] at dm)
   have cT : (if au < an then an else au) = br := bk
   simp only [Option.some.injEq,Prod.mk.injEq] at H
   obtain ⟨rfl,rfl,rfl⟩ := H
   obtain ⟨bs,bu,cU⟩ := Kd.R_slice ae.out
   subst cU
   obtain ⟨b1,b2,cV⟩ := Kd.R_slice af.out
   subst cV
   go_enter Tryd.func42,Tryd.ntmps42
   go_wp2_with (first|((with_reducible refine gate_dst (N := 2) rfl ?_);refine box_event ?hg (N := 2) ?hd (cs := #[.slice bs am.length bu,.slice b1 ao.length b2,.int .i64 au]) (t := 48) ?hr ?_;(case hd => rfl);(case hg => rfl);(case hr => first|(go_simp;done)|(go_simp;rfl));intro aj hg ea hbox hb;replace ae := aK (Kd.R_below (rM ae.out) hb);replace af := aK (Kd.R_below (rM af.out) hb);replace ah := aK (Kd.V_below (Kd.V_elderB (vM ah.out) aj (Nat.le_of_eq hg.symm)) hb);have aa := aK (hbox);have aW := aK ((by rw [hg];exact (by first|exact HK.out.1|exact (show Kept w _ (fun k_ => ac k_ ∨ ad k_) from kG HK.out).1) : w.heap.size ≤ aj));have bK := Ge.mk aW.out;replace HK := aK (Kept.below (S := (fun k_ => ac k_ ∨ ad k_)) (kG HK.out) hb);have aX := aK ((by rw [hg];exact (below_size (bM HB.out)) : w0.heap.size ≤ aj));have bL := Ge.mk aX.out;replace HB := aK (below_step (bM HB.out) hb);clear hb hbox hg)|((with_reducible refine gate_dst (N := 3) rfl ?_);refine box_event ?hg (N := 3) ?hd (cs := #[.int .i64 aS,.int .i64 aD,.int .i64 an,.slice aH ax.length aI,.slice aP aA.length aQ,.slice aT aJ.length aU]) (t := 37) ?hr ?_;(case hd => rfl);(case hg => rfl);(case hr => first|(go_simp;done)|(go_simp;rfl));intro al hg eb hbox hb;replace ae := aK (Kd.R_below (rM ae.out) hb);replace af := aK (Kd.R_below (rM af.out) hb);replace ah := aK (Kd.V_below (Kd.V_elderB (vM ah.out) al (Nat.le_of_eq hg.symm)) hb);have ab := aK (hbox);have aY := aK ((by rw [hg];exact (by first|exact HK.out.1|exact (show Kept w _ (fun k_ => ac k_ ∨ ad k_) from kG HK.out).1) : w.heap.size ≤ al));have bN := Ge.mk aY.out;replace HK := aK (Kept.below (S := (fun k_ => ac k_ ∨ ad k_)) (kG HK.out) hb);have aZ := aK ((by rw [hg];exact (below_size (bG HB.out)) : w0.heap.size ≤ al));have bO := Ge.mk aZ.out;replace HB := aK (below_step (bG HB.out) hb);have ap := aK (nbL aa.out hg);have aq := aK (nbR aa.out hg);replace aa := aK (blk_below (kM aa.out) hb);clear hb hbox hg)|((with_reducible refine gate_dst (N := 4) rfl ?_);refine box_event ?hg (N := 4) ?hd (cs := #[.slice none 0 0,.slice none 0 0,.int .i64 0]) (t := 48) ?hr ?_;(case hd => rfl);(case hg => rfl);(case hr => first|(go_simp;done)|(go_simp;rfl));intro ai hg ec hbox hb;replace ae := aK (Kd.R_below (rM ae.out) hb);replace af := aK (Kd.R_below (rM af.out) hb);replace ah := aK (Kd.V_below (Kd.V_elderB (vM ah.out) ai (Nat.le_of_eq hg.symm)) hb);have ag := aK (hbox);have a0 := aK ((by rw [hg];exact (by first|exact HK.out.1|exact (show Kept w _ (fun k_ => ac k_ ∨ ad k_) from kG HK.out).1) : w.heap.size ≤ ai));have bP := Ge.mk a0.out;replace HK := aK (Kept.below (S := (fun k_ => ac k_ ∨ ad k_)) (kG HK.out) hb);have a1 := aK ((by rw [hg];exact (below_size (bG HB.out)) : w0.heap.size ≤ ai));have bQ := Ge.mk a1.out;replace HB := aK (below_step (bG HB.out) hb);have ar := aK (nbL aa.out hg);have ak := aK (nbR aa.out hg);replace aa := aK (blk_below (kM aa.out) hb);have av := aK (nbL ab.out hg);have aw := aK (nbR ab.out hg);replace ab := aK (blk_below (kM ab.out) hb);clear hb hbox hg;have dn := aq.out;have dp := ap.out;have dq := av.out;have dr := aw.out;obtain ⟨_,_,_,_,_,_,_,_,_,_,_,_⟩ := bk6_ ab.out;have dt := ar.out;have du := ak.out;obtain ⟨_,_,_,_,_,_⟩ := bk3_ aa.out)|((with_reducible refine gate_callee (f := 49) rfl ?_);refine gL 22 Tryd.func49 #[.slice b1 ao.length b2,.slice aH ax.length aI] ?_;(with_reducible refine (posting_Or.calls k (fun k_ => some k_ = (.slice b1 ao.length b2 : Value).ownBlock) _ _ ao (fun k_ => ((((((ac k_ ∨ ad k_ ∨ bh k_) ∨ w.heap.size ≤ k_) ∧ (some k_ ≠ (.slice bs am.length bu : Value).ownBlock ∧ some k_ ≠ (.slice b1 ao.length b2 : Value).ownBlock)) ∧ k_ ≠ aj) ∧ k_ ≠ al) ∧ k_ ≠ ai)) _ _ ax a2 _ ?aL ?aM dm.out).mono ?_);(case aL => exact Kd.R_V (Kd.R_tight rfl (Kd.R_types (Kd.R_types (Kd.R_types (af.out) aa.out (by decide)) ab.out (by decide)) ag.out (by decide))));(case aM => exact ah.out);rintro e ed ⟨d0,rfl,aG,hb⟩;refine ⟨_,rfl,?_⟩;replace ah := aK (Kd.V_elder' (vM ah.out) (Kd.R_base aG) hb);have cd := aK (Kd.R_lower (Kd.R_new' (Kd.R_new' (Kd.R_newM (M := fun k_ => ((ac k_ ∨ ad k_) ∨ w.heap.size ≤ k_)) (Kd.R_mono (ok' := fun k_ => True) aG (fun _ hk_ => trivial)) (by first|exact HK.out.1|exact (show Kept w _ (fun k_ => ac k_ ∨ ad k_) from kG HK.out).1) (fun k_ h_ => .inr h_)) (Kd.R_lt (rM ae.out))) (Kd.R_lt (rM af.out))) (below_size (bG HB.out)));replace ae := aK (Kd.R_elder' (rM ae.out) (Kd.R_base aG) hb);replace af := aK (Kd.R_elder' (rM af.out) (Kd.R_base aG) hb);replace aa := aK (blk_below (kM aa.out) hb);replace ab := aK (blk_below (kM ab.out) hb);replace ag := aK (blk_below (kM ag.out) hb);replace HK := aK (Kept.below (S := (fun k_ => ac k_ ∨ ad k_)) (kG HK.out) hb);replace HB := aK (below_step (bG HB.out) hb);(try clear hb);(try clear hk);(try clear aG);obtain ⟨bD,bE,cW⟩ := Kd.R_slice cd.out;subst cW;obtain ⟨_,_,_,_,_,_⟩ := bk3_ aa.out;obtain ⟨_,_,_,_,_,_,_,_,_,_,_,_⟩ := bk6_ ab.out;obtain ⟨_,_,_,_,_,_⟩ := bk3_ ag.out))
   refine bodyPost_ret (results_cell_row rfl _ _ ai 48 #[.slice bs am.length bu,.slice bD a2.length bE,.int .i64 br] (0,0) _ rfl (by refine kO ?_;refine blk_put (cs := #[.slice bs am.length bu,.slice bD a2.length bE,.int .i64 0]) ?_ 2 _ rfl;refine kO ?_;refine blk_put (cs := #[.slice bs am.length bu,.slice none 0 0,.int .i64 0]) ?_ 1 _ rfl;refine kO ?_;refine blk_put (cs := #[.slice none 0 0,.slice none 0 0,.int .i64 0]) ?_ 0 _ rfl;refine kO ?_;refine blk_far ?_ ak.out _;refine kO ?_;refine blk_far ?_ ak.out _;refine kO ?_;exact ag.out) Tryd.underlying48 rfl (by kernel_rfl)) rfl ?_
   exact ⟨_,_,by first|rfl|(simp [errW_none,errW_some] <;> rfl)|(simp only [← bk];first|rfl|(simp [errW_none,errW_some] <;> rfl))|(simp [*,errW_none,errW_some] <;> rfl),by (with_reducible repeat (first|apply Kd.R_alloc|apply Kd.R_drewN|apply Kd.R_drew));exact Kd.R_mono (Kd.R_far (p := ⟨ai,2,none⟩) (Kd.R_far (p := ⟨ai,1,none⟩) (Kd.R_far (p := ⟨ai,0,none⟩) (Kd.R_far (p := ⟨aj,2,none⟩) (Kd.R_far (p := ⟨aj,1,none⟩) (Kd.R_types (Kd.R_types ae.out aa.out (by decide)) ag.out (by decide)) (fun _ hk => hk.1.2) (.slice bD a2.length bE)) (fun _ hk => hk.1.2) (.int .i64 br)) (fun _ hk => hk.2) (.slice bs am.length bu)) (fun _ hk => hk.2) (.slice bD a2.length bE)) (fun _ hk => hk.2) (.int .i64 br)) (fun _ hk => ⟨hk.1.1.1.1,hk.1.1.2⟩),by (with_reducible repeat (first|apply Kd.R_alloc|apply Kd.R_drewN|apply Kd.R_drew));exact Kd.R_mono (Kd.R_far (p := ⟨ai,2,none⟩) (Kd.R_far (p := ⟨ai,1,none⟩) (Kd.R_far (p := ⟨ai,0,none⟩) (Kd.R_far (p := ⟨aj,2,none⟩) (Kd.R_far (p := ⟨aj,1,none⟩) (Kd.R_types (Kd.R_types cd.out aa.out (by decide)) ag.out (by decide)) (fun _ hk => hk.1.2) (.slice bD a2.length bE)) (fun _ hk => hk.1.2) (.int .i64 br)) (fun _ hk => hk.2) (.slice bs am.length bu)) (fun _ hk => hk.2) (.slice bD a2.length bE)) (fun _ hk => hk.2) (.int .i64 br)) (fun _ hk => ⟨hk.1.1.1.1.1,hk.1.1.1.2⟩),bG HB.out,kG HK.out⟩
  ·rw [if_neg ch] at H
   have co := beq_eq_false_iff_ne.mpr ch
   have cp := bne_iff_ne.mpr ch
   by_cases ci : aD = 3
   ·rw [if_pos ci] at H
    have cr := beq_iff_eq.mpr ci
    have ct := bne_eq_false_iff_eq.mpr ci
    clear ci
    replace H := Option.bind_eq_some_iff.mp H
    obtain ⟨a3,cu,H⟩ := H
    have cX := aK cu
    clear cu
    obtain ⟨bF,bm⟩ : ∃ y_ : List Int,y_ = (([an] : List Int)) := ⟨_,rfl⟩
    replace H : ((posting_Or.f k a3 bF).bind fun aV => (some (aV,([] : List Int),mx au an))) = some (r1,r2,r3) := by first|(rw [bm];with_reducible exact H)|(have cf := (Option.bind_some _ _).symm.trans H;rw [bm];with_reducible exact cf)|(have cf := (Option.bind_some _ _).symm.trans H;with_reducible exact cf)|with_reducible exact H|(rw [bm];exact H)|exact H
    have bx := aK bm
    clear bm
    replace H := Option.bind_eq_some_iff.mp H
    obtain ⟨aV,cv,H⟩ := H
    have dv := aK cv
    clear cv
    obtain ⟨bS,a4⟩ : ∃ j_ : Int,(mx au an) = j_ := ⟨_,rfl⟩
    replace H : (some (aV,([] : List Int),bS)) = some (r1,r2,r3) := by first|(rw [a4] at H;exact H)|(simp only [a4] at H ⊢;exact H)
    (try rw [a4] at cX)
    (try rw [a4] at dv)
    have cY : (if au < an then an else au) = bS := a4
    simp only [Option.some.injEq,Prod.mk.injEq] at H
    obtain ⟨rfl,rfl,rfl⟩ := H
    obtain ⟨aB,aC,cZ⟩ := Kd.R_slice ae.out
    subst cZ
    obtain ⟨aE,aF,c0⟩ := Kd.R_slice af.out
    subst c0
    go_enter Tryd.func42,Tryd.ntmps42
    try go_wp2_with (first|((with_reducible refine gate_dst (N := 2) rfl ?_);refine box_event ?hg (N := 2) ?hd (cs := #[.slice aB am.length aC,.slice aE ao.length aF,.int .i64 au]) (t := 48) ?hr ?_;(case hd => rfl);(case hg => rfl);(case hr => first|(go_simp;done)|(go_simp;rfl));intro aj hg ee hbox hb;replace ae := aK (Kd.R_below (rM ae.out) hb);replace af := aK (Kd.R_below (rM af.out) hb);replace ah := aK (Kd.V_below (Kd.V_elderB (vM ah.out) aj (Nat.le_of_eq hg.symm)) hb);have aa := aK (hbox);have aW := aK ((by rw [hg];exact (by first|exact HK.out.1|exact (show Kept w _ (fun k_ => ac k_ ∨ ad k_) from kG HK.out).1) : w.heap.size ≤ aj));have bK := Ge.mk aW.out;replace HK := aK (Kept.below (S := (fun k_ => ac k_ ∨ ad k_)) (kG HK.out) hb);have aX := aK ((by rw [hg];exact (below_size (bM HB.out)) : w0.heap.size ≤ aj));have bL := Ge.mk aX.out;replace HB := aK (below_step (bM HB.out) hb);clear hb hbox hg)|((with_reducible refine gate_dst (N := 3) rfl ?_);refine box_event ?hg (N := 3) ?hd (cs := #[.int .i64 aS,.int .i64 aD,.int .i64 an,.slice aH ax.length aI,.slice aP aA.length aQ,.slice aT aJ.length aU]) (t := 37) ?hr ?_;(case hd => rfl);(case hg => rfl);(case hr => first|(go_simp;done)|(go_simp;rfl));intro al hg ef hbox hb;replace ae := aK (Kd.R_below (rM ae.out) hb);replace af := aK (Kd.R_below (rM af.out) hb);replace ah := aK (Kd.V_below (Kd.V_elderB (vM ah.out) al (Nat.le_of_eq hg.symm)) hb);have ab := aK (hbox);have aY := aK ((by rw [hg];exact (by first|exact HK.out.1|exact (show Kept w _ (fun k_ => ac k_ ∨ ad k_) from kG HK.out).1) : w.heap.size ≤ al));have bN := Ge.mk aY.out;replace HK := aK (Kept.below (S := (fun k_ => ac k_ ∨ ad k_)) (kG HK.out) hb);have aZ := aK ((by rw [hg];exact (below_size (bG HB.out)) : w0.heap.size ≤ al));have bO := Ge.mk aZ.out;replace HB := aK (below_step (bG HB.out) hb);have ap := aK (nbL aa.out hg);have aq := aK (nbR aa.out hg);replace aa := aK (blk_below (kM aa.out) hb);clear hb hbox hg)|((with_reducible refine gate_dst (N := 4) rfl ?_);refine box_event ?hg (N := 4) ?hd (cs := #[.slice none 0 0,.slice none 0 0,.int .i64 0]) (t := 48) ?hr ?_;(case hd => rfl);(case hg => rfl);(case hr => first|(go_simp;done)|(go_simp;rfl));intro ai hg d1 hbox hb;replace ae := aK (Kd.R_below (rM ae.out) hb);replace af := aK (Kd.R_below (rM af.out) hb);replace ah := aK (Kd.V_below (Kd.V_elderB (vM ah.out) ai (Nat.le_of_eq hg.symm)) hb);have ag := aK (hbox);have a0 := aK ((by rw [hg];exact (by first|exact HK.out.1|exact (show Kept w _ (fun k_ => ac k_ ∨ ad k_) from kG HK.out).1) : w.heap.size ≤ ai));have bP := Ge.mk a0.out;replace HK := aK (Kept.below (S := (fun k_ => ac k_ ∨ ad k_)) (kG HK.out) hb);have a1 := aK ((by rw [hg];exact (below_size (bG HB.out)) : w0.heap.size ≤ ai));have bQ := Ge.mk a1.out;replace HB := aK (below_step (bG HB.out) hb);have ar := aK (nbL aa.out hg);have ak := aK (nbR aa.out hg);replace aa := aK (blk_below (kM aa.out) hb);have av := aK (nbL ab.out hg);have aw := aK (nbR ab.out hg);replace ab := aK (blk_below (kM ab.out) hb);clear hb hbox hg;have dw := aq.out;have dx := ap.out;have dy := av.out;have dz := aw.out;obtain ⟨_,_,_,_,_,_,_,_,_,_,_,_⟩ := bk6_ ab.out))
    have a5 := aK (Kd.R_drew ae.out)
    have a6 := aK (Kd.R_drew af.out)
    have a7 := aK (Kd.V_drew ah.out)
    have a8 := aK (blk_drew aa.out)
    have a9 := aK (blk_drew ab.out)
    have ba := aK (blk_drew ag.out)
    have bb := aK (Kept.drew HK.out)
    have bc := aK (below_drew1 HB.out)
    clear ae
    clear af
    clear ah
    clear aa
    clear ab
    clear ag
    clear HK
    clear HB
    have ae := a5
    have af := a6
    have ah := a7
    have aa := a8
    have ab := a9
    have ag := ba
    have HK := bb
    have HB := bc
    clear a5 a6 a7 a8 a9 ba bb bc
    refine start_ (n := 11) (S := fun w' => w'.cell? ⟨aj,0,none⟩ = some (.slice aB am.length aC) ∧ w'.cell? ⟨aj,1,none⟩ = some (.slice aE ao.length aF) ∧ w'.cell? ⟨aj,2,none⟩ = some (.int .i64 au) ∧ w'.cell? ⟨al,0,none⟩ = some (.int .i64 aS) ∧ w'.cell? ⟨al,1,none⟩ = some (.int .i64 aD) ∧ w'.cell? ⟨al,2,none⟩ = some (.int .i64 an) ∧ w'.cell? ⟨al,3,none⟩ = some (.slice aH ax.length aI) ∧ w'.cell? ⟨al,4,none⟩ = some (.slice aP aA.length aQ) ∧ w'.cell? ⟨al,5,none⟩ = some (.slice aT aJ.length aU)) (ds := [10]) (bA 11 0) (by kernel_rfl) rfl rfl ⟨(blk_cell aa.out 0).trans rfl,(blk_cell aa.out 1).trans rfl,(blk_cell aa.out 2).trans rfl,(blk_cell ab.out 0).trans rfl,(blk_cell ab.out 1).trans rfl,(blk_cell ab.out 2).trans rfl,(blk_cell ab.out 3).trans rfl,(blk_cell ab.out 4).trans rfl,(blk_cell ab.out 5).trans rfl⟩ (fun hHeld => ?_);refine with_tabW manifest_state_after.tab7 manifest_state_after.bits7 (fun HT_ HW_ => ?_)
    generalize d1.drew = w54 at ae af ah aa ab ag HK HB hHeld ⊢
    refine pure_ (i := 0) (N := some 26) (v := ?_) (a' := ?_) (bA 11 1) rfl rfl (any_of HT_.out (by kernel_rfl)) (fun _ _ _ h => h) (Or.inl ⟨by rfl,?_⟩) ?_ ?_
    rotate_left
    ·intro w'
     go_simp
     with_reducible rfl
    rotate_left
    ·simp only [Act.put,z1_,z2_,z3_,i64_w,i32_w]
     rfl
    refine pure_ (i := 2) (N := some 28) (v := ?_) (a' := ?_) (bA 11 5) rfl rfl (any_of HT_.out (by kernel_rfl)) (fun _ _ _ h => h) (Or.inl ⟨by rfl,?_⟩) ?_ ?_
    rotate_left
    ·intro w'
     go_simp
     with_reducible rfl
    rotate_left
    ·simp only [Act.put,z1_,z2_,z3_,i64_w,i32_w]
     rfl
    refine pure_ (i := 5) (N := some 31) (v := ?_) (a' := ?_) (bA 11 37) rfl rfl (any_of HT_.out (by kernel_rfl)) (fun _ _ _ h => h) (Or.inl ⟨by rfl,?_⟩) ?_ ?_
    rotate_left
    ·intro w'
     go_simp
     with_reducible rfl
    rotate_left
    ·simp only [Act.put,z1_,z2_,z3_,i64_w,i32_w]
     rfl
    refine take_ (i := 1) (N := some 27) (v := ?_) (a' := ?_) (bA 11 39) rfl rfl (take_ofW HT_.out HW_.out (by kernel_rfl)) (fun _ _ _ h => h) (Or.inl ⟨by rfl,?_⟩) hHeld ?_ ?_
    rotate_left
    ·rintro w' ⟨s0,s1,s2,s3,s4,s5,s6,s7,s8⟩
     go_simp
     with_reducible rfl
    rotate_left
    ·simp only [Act.put,z1_,z2_,z3_,i64_w,i32_w]
     rfl
    refine take_ (i := 3) (N := some 29) (v := ?_) (a' := ?_) (bA 11 47) rfl rfl (take_ofW HT_.out HW_.out (by kernel_rfl)) (fun _ _ _ h => h) (Or.inl ⟨by rfl,?_⟩) hHeld ?_ ?_
    rotate_left
    ·rintro w' ⟨s0,s1,s2,s3,s4,s5,s6,s7,s8⟩
     go_simp
     with_reducible rfl
    rotate_left
    ·simp only [Act.put,z1_,z2_,z3_,i64_w,i32_w]
     rfl
    refine take_ (i := 6) (N := some 32) (v := ?_) (a' := ?_) (bA 11 111) rfl rfl (take_ofW HT_.out HW_.out (by kernel_rfl)) (fun _ _ _ h => h) (Or.inl ⟨by rfl,?_⟩) hHeld ?_ ?_
    rotate_left
    ·rintro w' ⟨s0,s1,s2,s3,s4,s5,s6,s7,s8⟩
     go_simp
     with_reducible rfl
    rotate_left
    ·simp only [Act.put,z1_,z2_,z3_,i64_w,i32_w]
     rfl
    refine join_ (σ := Value × Value) 3 (bA 11 255) (fun s_ => [(30,s_.1),(33,s_.2)]) (fun s_ w' => (w'.cell? ⟨aj,0,none⟩ = some (.slice aB am.length aC) ∧ w'.cell? ⟨aj,1,none⟩ = some (.slice aE ao.length aF) ∧ w'.cell? ⟨aj,2,none⟩ = some (.int .i64 au) ∧ w'.cell? ⟨al,0,none⟩ = some (.int .i64 aS) ∧ w'.cell? ⟨al,1,none⟩ = some (.int .i64 aD) ∧ w'.cell? ⟨al,2,none⟩ = some (.int .i64 an) ∧ w'.cell? ⟨al,3,none⟩ = some (.slice aH ax.length aI) ∧ w'.cell? ⟨al,4,none⟩ = some (.slice aP aA.length aQ) ∧ w'.cell? ⟨al,5,none⟩ = some (.slice aT aJ.length aU)) ∧ (Kd.R (Kd.int .i64) 3 w' w0.heap.size (fun k_ => ((ac k_ ∨ ad k_) ∨ w.heap.size ≤ k_) ∧ some k_ ≠ (.slice aE ao.length aF : Value).ownBlock ∧ some k_ ≠ (s_.1 : Value).ownBlock ∧ some k_ ≠ (s_.2 : Value).ownBlock) (.slice aB am.length aC) am) ∧ (Kd.R (Kd.int .i64) 3 w' w0.heap.size (fun k_ => ((ac k_ ∨ ad k_) ∨ w.heap.size ≤ k_) ∧ some k_ ≠ (.slice aB am.length aC : Value).ownBlock ∧ some k_ ≠ (s_.1 : Value).ownBlock ∧ some k_ ≠ (s_.2 : Value).ownBlock) (.slice aE ao.length aF) ao) ∧ (Kd.R (Kd.int .i64) 3 w' w0.heap.size (fun k_ => ((ac k_ ∨ ad k_) ∨ w.heap.size ≤ k_) ∧ some k_ ≠ (.slice aB am.length aC : Value).ownBlock ∧ some k_ ≠ (.slice aE ao.length aF : Value).ownBlock ∧ some k_ ≠ (s_.2 : Value).ownBlock) s_.1 a3) ∧ (Kd.R (Kd.int .i64) 3 w' w0.heap.size (fun k_ => ((ac k_ ∨ ad k_) ∨ w.heap.size ≤ k_) ∧ some k_ ≠ (.slice aB am.length aC : Value).ownBlock ∧ some k_ ≠ (.slice aE ao.length aF : Value).ownBlock ∧ some k_ ≠ (s_.1 : Value).ownBlock) s_.2 bF) ∧ (Kd.V (Kd.int .i64) 3 w' w0.heap.size (fun k_ => ((ac k_ ∨ ad k_ ∨ bh k_) ∨ w.heap.size ≤ k_) ∧ some k_ ≠ (.slice aB am.length aC : Value).ownBlock ∧ some k_ ≠ (.slice aE ao.length aF : Value).ownBlock ∧ some k_ ≠ (s_.1 : Value).ownBlock ∧ some k_ ≠ (s_.2 : Value).ownBlock ∧ k_ ≠ aj ∧ k_ ≠ al ∧ k_ ≠ ai) (.slice aH ax.length aI) ax) ∧ (w'.heap[aj]? = some (.cells #[.slice aB am.length aC,.slice aE ao.length aF,.int .i64 au] 48 (0,0))) ∧ (w'.heap[al]? = some (.cells #[.int .i64 aS,.int .i64 aD,.int .i64 an,.slice aH ax.length aI,.slice aP aA.length aQ,.slice aT aJ.length aU] 37 (0,0))) ∧ (w'.heap[ai]? = some (.cells #[.slice none 0 0,.slice none 0 0,.int .i64 0] 48 (0,0))) ∧ (Kept w w' (fun k_ => ac k_ ∨ ad k_)) ∧ (Below w0.heap.size w0 w')) ?_ ?_
    rotate_left
    ·intro hCont
     refine two_ (i := 4) (j := 7) (Ni := some 30) (Nj := some 33) (bA 11 127) (bA 11 239) rfl rfl rfl rfl (two_of HT_.out (by kernel_rfl)) (by decide) (by decide) (fun K hK => ?_) (fun K hK => ?_)
     ·skip
      refine goes_ Tryd.func50 (by kernel_rfl) rfl #[.slice aB am.length aC,.slice aP aA.length aQ] (by rfl) rfl rfl (by (try simp only [z4_,z5_,z6_]);first|done|rfl|(simp only [z7_,z8_];rfl)) ?_
      with_reducible refine (posting_Minus.calls _ _ am _ _ aA a3 _ ?aL ?aM ?bT ?bU cX.out).mono ?_
      (case aL => exact cM (Kd.R_reads' ae.out).2.2)
      (case aM => exact (Kd.R_reads' ae.out).2.1)
      (case bT => exact Kd.C_kept_now b9.out (kG HK.out))
      (case bU => exact ca.out)
      rintro e d2 ⟨bd,rfl,aG,hb⟩
      refine ⟨_,rfl,?_⟩
      have a5 := aK (Kd.R_elder' (rM ae.out) (Kd.R_base aG) hb)
      have a6 := aK (Kd.R_elder' (rM af.out) (Kd.R_base aG) hb)
      have a7 := aK (Kd.V_elder' (vM ah.out) (Kd.R_base aG) hb)
      have a8 := aK (Kd.R_lower (Kd.R_new' (Kd.R_new' (Kd.R_newM (M := fun k_ => ((ac k_ ∨ ad k_) ∨ w.heap.size ≤ k_)) aG (by first|exact HK.out.1|exact (show Kept w _ (fun k_ => ac k_ ∨ ad k_) from kG HK.out).1) (fun k_ h_ => .inr h_)) (Kd.R_lt (rM ae.out))) (Kd.R_lt (rM af.out))) (below_size (bG HB.out)))
      have a9 := aK (blk_below (kM aa.out) hb)
      have ba := aK (blk_below (kM ab.out) hb)
      have bb := aK (blk_below (kM ag.out) hb)
      have bc := aK (Kept.below (S := (fun k_ => ac k_ ∨ ad k_)) (kG HK.out) hb)
      have bn := aK (below_step (bG HB.out) hb)
      clear ae
      clear af
      clear ah
      clear aa
      clear ab
      clear ag
      clear HK
      clear HB
      have ae := a5
      have af := a6
      have ah := a7
      have ay := a8
      have aa := a9
      have ab := ba
      have ag := bb
      have HK := bc
      have HB := bn
      clear a5 a6 a7 a8 a9 ba bb bc bn
      (try clear hb)
      
      (try clear hk)
      
      (try clear aG)
      refine hK.out _ _ ⟨(blk_cell aa.out 0).trans rfl,(blk_cell aa.out 1).trans rfl,(blk_cell aa.out 2).trans rfl,(blk_cell ab.out 0).trans rfl,(blk_cell ab.out 1).trans rfl,(blk_cell ab.out 2).trans rfl,(blk_cell ab.out 3).trans rfl,(blk_cell ab.out 4).trans rfl,(blk_cell ab.out 5).trans rfl⟩ (fun hHeld => ?_)
      clear hK K
      refine norm_ (a' := ?_) ?_ ?_
      rotate_left
      ·show Act.put _ (some 30) _ = _
       simp only [Act.put,z1_,z2_,z3_,i64_w,i32_w]
       rfl
      refine one_ (i := 7) (N := some 33) (bA 11 255) rfl rfl (one_of HT_.out (by kernel_rfl)) (by decide) (fun K hK => ?_)
      refine Kd.R_lit_step (Kd.int .i64) _ 3 ?hg (N := 33) ?hd (xs := ([an] : List Int)) (inner := [.int .i64 an]) (ok := fun _ => True) (okp := fun _ => True) ?hr ?hp (fun _ hk => hk) trivial (Below.refl _ _) (Nat.le_refl _) (by simp) ?_;(case hd => rfl);(case hg => rfl);(case hr => first|(go_simp;done)|(go_simp;rfl));(case hp => exact (Reps.one (show Kd.M (Kd.int .i64) _ _ _ an [.int .i64 an] from rfl) (Reps.none _ _)))
      intro be eg bf hb hg_ hnew_
      clear hg_ hnew_
      (first|rw [← bx.out] at bf|(simp only [Int.reduceToNat] at bf;rw [← bx.out] at bf))
      have a5 := aK (Kd.R_elder' (rM ae.out) (Kd.R_base bf) hb)
      have a6 := aK (Kd.R_elder' (rM af.out) (Kd.R_base bf) hb)
      have a7 := aK (Kd.V_elder' (vM ah.out) (Kd.R_base bf) hb)
      have a8 := aK (Kd.R_elder' (rM ay.out) (Kd.R_base bf) hb)
      have a9 := aK (Kd.R_lower (Kd.R_new' (Kd.R_new' (Kd.R_new' (Kd.R_newM (M := fun k_ => ((ac k_ ∨ ad k_) ∨ w.heap.size ≤ k_)) bf (by first|exact HK.out.1|exact (show Kept w _ (fun k_ => ac k_ ∨ ad k_) from kG HK.out).1) (fun k_ h_ => .inr h_)) (Kd.R_lt (rM ae.out))) (Kd.R_lt (rM af.out))) (Kd.R_lt (rM ay.out))) (below_size (bG HB.out)))
      have ba := aK (blk_below (kM aa.out) hb)
      have bb := aK (blk_below (kM ab.out) hb)
      have bc := aK (blk_below (kM ag.out) hb)
      have bn := aK (Kept.below (S := (fun k_ => ac k_ ∨ ad k_)) (kG HK.out) hb)
      have bV := aK (below_step (bG HB.out) hb)
      clear ae
      clear af
      clear ah
      clear ay
      clear aa
      clear ab
      clear ag
      clear HK
      clear HB
      have ae := a5
      have af := a6
      have ah := a7
      have ay := a8
      have az := a9
      have aa := ba
      have ab := bb
      have ag := bc
      have HK := bn
      have HB := bV
      clear a5 a6 a7 a8 a9 ba bb bc bn bV
      clear hb bf
      refine hK.out _ _ ⟨(blk_cell aa.out 0).trans rfl,(blk_cell aa.out 1).trans rfl,(blk_cell aa.out 2).trans rfl,(blk_cell ab.out 0).trans rfl,(blk_cell ab.out 1).trans rfl,(blk_cell ab.out 2).trans rfl,(blk_cell ab.out 3).trans rfl,(blk_cell ab.out 4).trans rfl,(blk_cell ab.out 5).trans rfl⟩ (fun hHeld => ?_)
      clear hK K
      refine norm_ (a' := ?_) ?_ ?_
      rotate_left
      ·show Act.put _ (some 33) _ = _
       simp only [Act.put,z1_,z2_,z3_,i64_w,i32_w]
       rfl
      exact norm_ (by simp only [putAll,Act.put,z1_,z2_,z3_]) (hCont (bd,be) _ ⟨hHeld,(by refine rO ?_;exact Kd.R_mono ae.out (fun _ hk => ⟨hk.1.1.1,⟨hk.1.1.2,⟨hk.1.2,hk.2⟩⟩⟩)),(by refine rO ?_;exact Kd.R_mono af.out (fun _ hk => ⟨hk.1.1.1,⟨hk.1.1.2,⟨hk.1.2,hk.2⟩⟩⟩)),(by refine rO ?_;exact Kd.R_mono ay.out (fun _ hk => ⟨hk.1.1.1.1,⟨hk.1.1.2,⟨hk.1.2,hk.2⟩⟩⟩)),(by refine rO ?_;exact Kd.R_mono az.out (fun _ hk => ⟨hk.1.1.1.1,⟨hk.1.1.2,⟨hk.1.2,hk.2⟩⟩⟩)),(by (with_reducible repeat (first|apply Kd.V_alloc|apply Kd.V_drewN|apply Kd.V_drew));exact Kd.V_mono ah.out (fun _ hk => ⟨hk.1.1.1.1.1.1,⟨hk.1.1.1.1.1.2.1,⟨hk.1.1.1.1.1.2.2,⟨hk.1.2,⟨hk.2,⟨hk.1.1.1.1.2,⟨hk.1.1.1.2,hk.1.1.2⟩⟩⟩⟩⟩⟩⟩)),(kM aa.out),(kM ab.out),(kM ag.out),(kG HK.out),(bG HB.out)⟩)
     ·skip
      refine Kd.R_lit_step (Kd.int .i64) _ 3 ?hg (N := 33) ?hd (xs := ([an] : List Int)) (inner := [.int .i64 an]) (ok := fun _ => True) (okp := fun _ => True) ?hr ?hp (fun _ hk => hk) trivial (Below.refl _ _) (Nat.le_refl _) (by simp) ?_;(case hd => rfl);(case hg => rfl);(case hr => first|(go_simp;done)|(go_simp;rfl));(case hp => exact (Reps.one (show Kd.M (Kd.int .i64) _ _ _ an [.int .i64 an] from rfl) (Reps.none _ _)))
      intro be d2 bo hb hg_ hnew_
      clear hg_ hnew_
      (first|rw [← bx.out] at bo|(simp only [Int.reduceToNat] at bo;rw [← bx.out] at bo))
      have a5 := aK (Kd.R_elder' (rM ae.out) (Kd.R_base bo) hb)
      have a6 := aK (Kd.R_elder' (rM af.out) (Kd.R_base bo) hb)
      have a7 := aK (Kd.V_elder' (vM ah.out) (Kd.R_base bo) hb)
      have a8 := aK (Kd.R_lower (Kd.R_new' (Kd.R_new' (Kd.R_newM (M := fun k_ => ((ac k_ ∨ ad k_) ∨ w.heap.size ≤ k_)) bo (by first|exact HK.out.1|exact (show Kept w _ (fun k_ => ac k_ ∨ ad k_) from kG HK.out).1) (fun k_ h_ => .inr h_)) (Kd.R_lt (rM ae.out))) (Kd.R_lt (rM af.out))) (below_size (bG HB.out)))
      have a9 := aK (blk_below (kM aa.out) hb)
      have ba := aK (blk_below (kM ab.out) hb)
      have bb := aK (blk_below (kM ag.out) hb)
      have bc := aK (Kept.below (S := (fun k_ => ac k_ ∨ ad k_)) (kG HK.out) hb)
      have bn := aK (below_step (bG HB.out) hb)
      clear ae
      clear af
      clear ah
      clear aa
      clear ab
      clear ag
      clear HK
      clear HB
      have ae := a5
      have af := a6
      have ah := a7
      have az := a8
      have aa := a9
      have ab := ba
      have ag := bb
      have HK := bc
      have HB := bn
      clear a5 a6 a7 a8 a9 ba bb bc bn
      clear hb bo
      refine hK.out _ _ ⟨(blk_cell aa.out 0).trans rfl,(blk_cell aa.out 1).trans rfl,(blk_cell aa.out 2).trans rfl,(blk_cell ab.out 0).trans rfl,(blk_cell ab.out 1).trans rfl,(blk_cell ab.out 2).trans rfl,(blk_cell ab.out 3).trans rfl,(blk_cell ab.out 4).trans rfl,(blk_cell ab.out 5).trans rfl⟩ (fun hHeld => ?_)
      clear hK K
      refine norm_ (a' := ?_) ?_ ?_
      rotate_left
      ·show Act.put _ (some 33) _ = _
       simp only [Act.put,z1_,z2_,z3_,i64_w,i32_w]
       rfl
      refine one_ (i := 4) (N := some 30) (bA 11 255) rfl rfl (one_of HT_.out (by kernel_rfl)) (by decide) (fun K hK => ?_)
      refine goes_ Tryd.func50 (by kernel_rfl) rfl #[.slice aB am.length aC,.slice aP aA.length aQ] (by rfl) rfl rfl (by (try simp only [z4_,z5_,z6_]);first|done|rfl|(simp only [z7_,z8_];rfl)) ?_
      with_reducible refine (posting_Minus.calls _ _ am _ _ aA a3 _ ?aL ?aM ?bT ?bU cX.out).mono ?_
      (case aL => exact cM (Kd.R_reads' ae.out).2.2)
      (case aM => exact (Kd.R_reads' ae.out).2.1)
      (case bT => exact Kd.C_kept_now b9.out (kG HK.out))
      (case bU => exact ca.out)
      rintro e eh ⟨bd,rfl,aG,hb⟩
      refine ⟨_,rfl,?_⟩
      have a5 := aK (Kd.R_elder' (rM ae.out) (Kd.R_base aG) hb)
      have a6 := aK (Kd.R_elder' (rM af.out) (Kd.R_base aG) hb)
      have a7 := aK (Kd.V_elder' (vM ah.out) (Kd.R_base aG) hb)
      have a8 := aK (Kd.R_elder' (rM az.out) (Kd.R_base aG) hb)
      have a9 := aK (Kd.R_lower (Kd.R_new' (Kd.R_new' (Kd.R_new' (Kd.R_newM (M := fun k_ => ((ac k_ ∨ ad k_) ∨ w.heap.size ≤ k_)) aG (by first|exact HK.out.1|exact (show Kept w _ (fun k_ => ac k_ ∨ ad k_) from kG HK.out).1) (fun k_ h_ => .inr h_)) (Kd.R_lt (rM ae.out))) (Kd.R_lt (rM af.out))) (Kd.R_lt (rM az.out))) (below_size (bG HB.out)))
      have ba := aK (blk_below (kM aa.out) hb)
      have bb := aK (blk_below (kM ab.out) hb)
      have bc := aK (blk_below (kM ag.out) hb)
      have bn := aK (Kept.below (S := (fun k_ => ac k_ ∨ ad k_)) (kG HK.out) hb)
      have bV := aK (below_step (bG HB.out) hb)
      clear ae
      clear af
      clear ah
      clear az
      clear aa
      clear ab
      clear ag
      clear HK
      clear HB
      have ae := a5
      have af := a6
      have ah := a7
      have az := a8
      have ay := a9
      have aa := ba
      have ab := bb
      have ag := bc
      have HK := bn
      have HB := bV
      clear a5 a6 a7 a8 a9 ba bb bc bn bV
      (try clear hb)
      
      (try clear hk)
      
      (try clear aG)
      refine hK.out _ _ ⟨(blk_cell aa.out 0).trans rfl,(blk_cell aa.out 1).trans rfl,(blk_cell aa.out 2).trans rfl,(blk_cell ab.out 0).trans rfl,(blk_cell ab.out 1).trans rfl,(blk_cell ab.out 2).trans rfl,(blk_cell ab.out 3).trans rfl,(blk_cell ab.out 4).trans rfl,(blk_cell ab.out 5).trans rfl⟩ (fun hHeld => ?_)
      clear hK K
      refine norm_ (a' := ?_) ?_ ?_
      rotate_left
      ·show Act.put _ (some 30) _ = _
       simp only [Act.put,z1_,z2_,z3_,i64_w,i32_w]
       rfl
      exact norm_ (by simp only [putAll,Act.put,z1_,z2_,z3_]) (hCont (bd,be) _ ⟨hHeld,(by refine rO ?_;exact Kd.R_mono ae.out (fun _ hk => ⟨hk.1.1.1,⟨hk.1.1.2,⟨hk.2,hk.1.2⟩⟩⟩)),(by refine rO ?_;exact Kd.R_mono af.out (fun _ hk => ⟨hk.1.1.1,⟨hk.1.1.2,⟨hk.2,hk.1.2⟩⟩⟩)),(by refine rO ?_;exact Kd.R_mono ay.out (fun _ hk => ⟨hk.1.1.1.1,⟨hk.1.1.2,⟨hk.1.2,hk.2⟩⟩⟩)),(by refine rO ?_;exact Kd.R_mono az.out (fun _ hk => ⟨hk.1.1.1.1,⟨hk.1.1.2,⟨hk.1.2,hk.2⟩⟩⟩)),(by (with_reducible repeat (first|apply Kd.V_alloc|apply Kd.V_drewN|apply Kd.V_drew));exact Kd.V_mono ah.out (fun _ hk => ⟨hk.1.1.1.1.1.1,⟨hk.1.1.1.1.1.2.1,⟨hk.1.1.1.1.1.2.2,⟨hk.2,⟨hk.1.2,⟨hk.1.1.1.1.2,⟨hk.1.1.1.2,hk.1.1.2⟩⟩⟩⟩⟩⟩⟩)),(kM aa.out),(kM ab.out),(kM ag.out),(kG HK.out),(bG HB.out)⟩)
    rintro ⟨bd,be⟩ bg ⟨hS_,dB,dC,dD,dE,dF,dG,dH,dI,dJ,dK⟩
    have a5 : Aside0 (Kd.R (Kd.int .i64) 3 bg w0.heap.size (fun k_ => ((ac k_ ∨ ad k_) ∨ w.heap.size ≤ k_) ∧ some k_ ≠ (.slice aE ao.length aF : Value).ownBlock ∧ some k_ ≠ (bd : Value).ownBlock ∧ some k_ ≠ (be : Value).ownBlock) (.slice aB am.length aC) am) := ⟨dB⟩
    have a6 : Aside0 (Kd.R (Kd.int .i64) 3 bg w0.heap.size (fun k_ => ((ac k_ ∨ ad k_) ∨ w.heap.size ≤ k_) ∧ some k_ ≠ (.slice aB am.length aC : Value).ownBlock ∧ some k_ ≠ (bd : Value).ownBlock ∧ some k_ ≠ (be : Value).ownBlock) (.slice aE ao.length aF) ao) := ⟨dC⟩
    have a7 : Aside0 (Kd.R (Kd.int .i64) 3 bg w0.heap.size (fun k_ => ((ac k_ ∨ ad k_) ∨ w.heap.size ≤ k_) ∧ some k_ ≠ (.slice aB am.length aC : Value).ownBlock ∧ some k_ ≠ (.slice aE ao.length aF : Value).ownBlock ∧ some k_ ≠ (be : Value).ownBlock) bd a3) := ⟨dD⟩
    have a8 : Aside0 (Kd.R (Kd.int .i64) 3 bg w0.heap.size (fun k_ => ((ac k_ ∨ ad k_) ∨ w.heap.size ≤ k_) ∧ some k_ ≠ (.slice aB am.length aC : Value).ownBlock ∧ some k_ ≠ (.slice aE ao.length aF : Value).ownBlock ∧ some k_ ≠ (bd : Value).ownBlock) be bF) := ⟨dE⟩
    have a9 : Aside0 (Kd.V (Kd.int .i64) 3 bg w0.heap.size (fun k_ => ((ac k_ ∨ ad k_ ∨ bh k_) ∨ w.heap.size ≤ k_) ∧ some k_ ≠ (.slice aB am.length aC : Value).ownBlock ∧ some k_ ≠ (.slice aE ao.length aF : Value).ownBlock ∧ some k_ ≠ (bd : Value).ownBlock ∧ some k_ ≠ (be : Value).ownBlock ∧ k_ ≠ aj ∧ k_ ≠ al ∧ k_ ≠ ai) (.slice aH ax.length aI) ax) := ⟨dF⟩
    have ba : Aside0 (bg.heap[aj]? = some (.cells #[.slice aB am.length aC,.slice aE ao.length aF,.int .i64 au] 48 (0,0))) := ⟨dG⟩
    have bb : Aside0 (bg.heap[al]? = some (.cells #[.int .i64 aS,.int .i64 aD,.int .i64 an,.slice aH ax.length aI,.slice aP aA.length aQ,.slice aT aJ.length aU] 37 (0,0))) := ⟨dH⟩
    have bc : Aside0 (bg.heap[ai]? = some (.cells #[.slice none 0 0,.slice none 0 0,.int .i64 0] 48 (0,0))) := ⟨dI⟩
    have bn : Aside0 (Kept w bg (fun k_ => ac k_ ∨ ad k_)) := ⟨dJ⟩
    have bV : Aside0 (Below w0.heap.size w0 bg) := ⟨dK⟩
    clear ae
    clear af
    clear ah
    clear aa
    clear ab
    clear ag
    clear HK
    clear HB
    clear dB dC dD dE dF dG dH dI dJ dK
    have ae := a5
    have af := a6
    have ay := a7
    have az := a8
    have ah := a9
    have aa := ba
    have ab := bb
    have ag := bc
    have HK := bn
    have HB := bV
    clear a5 a6 a7 a8 a9 ba bb bc bn bV
    have hHeld : bg.cell? ⟨aj,0,none⟩ = some (.slice aB am.length aC) ∧ bg.cell? ⟨aj,1,none⟩ = some (.slice aE ao.length aF) ∧ bg.cell? ⟨aj,2,none⟩ = some (.int .i64 au) ∧ bg.cell? ⟨al,0,none⟩ = some (.int .i64 aS) ∧ bg.cell? ⟨al,1,none⟩ = some (.int .i64 aD) ∧ bg.cell? ⟨al,2,none⟩ = some (.int .i64 an) ∧ bg.cell? ⟨al,3,none⟩ = some (.slice aH ax.length aI) ∧ bg.cell? ⟨al,4,none⟩ = some (.slice aP aA.length aQ) ∧ bg.cell? ⟨al,5,none⟩ = some (.slice aT aJ.length aU) := hS_
    obtain ⟨cw,cx,cy⟩ := Kd.R_slice ay.out
    (first|subst cy|(injection cy with f1_ f2_ f3_;have cz := f1_.symm;have cA := f3_.symm;clear f1_ f2_ f3_;subst cz;subst cA))
    obtain ⟨cB,cC,cD⟩ := Kd.R_slice az.out
    (first|subst cD|(injection cD with f1_ f2_ f3_;have cz := f1_.symm;have cA := f3_.symm;clear f1_ f2_ f3_;subst cz;subst cA))
    refine norm_ (a' := ?_) ?_ ?_
    rotate_left
    ·simp only [putAll,Act.put,z1_,z2_,z3_]
     rfl
    refine one_ (i := 8) (N := some 34) (bA 11 511) rfl rfl (one_of HT_.out (by kernel_rfl)) (by decide) (fun K hK => ?_)
    refine goes_ Tryd.func49 (by kernel_rfl) rfl #[.slice cw a3.length cx,.slice cB bF.length cC] (by rfl) rfl rfl (by (try simp only [z4_,z5_,z6_]);first|done|rfl|(simp only [z7_,z8_];rfl)) ?_
    with_reducible refine (posting_Or.calls k (fun k_ => some k_ = (.slice cw a3.length cx : Value).ownBlock) _ _ a3 (fun k_ => some k_ = (.slice cB bF.length cC : Value).ownBlock) _ _ bF aV _ ?aL ?aM dv.out).mono ?_
    (case aL => exact Kd.R_V (Kd.R_tight rfl (Kd.R_types (Kd.R_types (Kd.R_types (ay.out) aa.out (by decide)) ab.out (by decide)) ag.out (by decide))))
    (case aM => exact Kd.R_V (Kd.R_tight rfl (Kd.R_types (Kd.R_types (Kd.R_types (az.out) aa.out (by decide)) ab.out (by decide)) ag.out (by decide))))
    rintro e d3 ⟨d4,rfl,aG,hb⟩
    refine ⟨_,rfl,?_⟩
    have a5 := aK (Kd.R_elder' (rM ae.out) (Kd.R_base aG) hb)
    have a6 := aK (Kd.R_elder' (rM af.out) (Kd.R_base aG) hb)
    have a7 := aK (Kd.V_elder' (vM ah.out) (Kd.R_base aG) hb)
    have a8 := aK (Kd.R_elder' (rM ay.out) (Kd.R_base aG) hb)
    have a9 := aK (Kd.R_elder' (rM az.out) (Kd.R_base aG) hb)
    have ba := aK (Kd.R_lower (Kd.R_new' (Kd.R_new' (Kd.R_new' (Kd.R_new' (Kd.R_newM (M := fun k_ => ((ac k_ ∨ ad k_) ∨ w.heap.size ≤ k_)) (Kd.R_mono (ok' := fun k_ => True) aG (fun _ hk_ => trivial)) (by first|exact HK.out.1|exact (show Kept w _ (fun k_ => ac k_ ∨ ad k_) from kG HK.out).1) (fun k_ h_ => .inr h_)) (Kd.R_lt (rM ae.out))) (Kd.R_lt (rM af.out))) (Kd.R_lt (rM ay.out))) (Kd.R_lt (rM az.out))) (below_size (bG HB.out)))
    have bb := aK (blk_below (kM aa.out) hb)
    have bc := aK (blk_below (kM ab.out) hb)
    have bn := aK (blk_below (kM ag.out) hb)
    have bV := aK (Kept.below (S := (fun k_ => ac k_ ∨ ad k_)) (kG HK.out) hb)
    have cE := aK (below_step (bG HB.out) hb)
    clear ae
    clear af
    clear ah
    clear ay
    clear az
    clear aa
    clear ab
    clear ag
    clear HK
    clear HB
    have ae := a5
    have af := a6
    have ah := a7
    have ay := a8
    have az := a9
    have ce := ba
    have aa := bb
    have ab := bc
    have ag := bn
    have HK := bV
    have HB := cE
    clear a5 a6 a7 a8 a9 ba bb bc bn bV cE
    (try clear hb)
    
    (try clear hk)
    
    (try clear aG)
    obtain ⟨bW,bX,cF⟩ := Kd.R_slice ce.out
    (first|subst cF|(injection cF with f1_ f2_ f3_;have cz := f1_.symm;have cA := f3_.symm;clear f1_ f2_ f3_;subst cz;subst cA))
    refine hK.out _ _ ⟨(blk_cell aa.out 0).trans rfl,(blk_cell aa.out 1).trans rfl,(blk_cell aa.out 2).trans rfl,(blk_cell ab.out 0).trans rfl,(blk_cell ab.out 1).trans rfl,(blk_cell ab.out 2).trans rfl,(blk_cell ab.out 3).trans rfl,(blk_cell ab.out 4).trans rfl,(blk_cell ab.out 5).trans rfl⟩ (fun hHeld => ?_)
    clear hK K
    refine norm_ (a' := ?_) ?_ ?_
    rotate_left
    ·show Act.put _ (some 34) _ = _
     simp only [Act.put,z1_,z2_,z3_,i64_w,i32_w]
     rfl
    refine pure_ (i := 9) (N := some 35) (v := ?_) (a' := ?_) (bA 11 1023) rfl rfl (any_of HT_.out (by kernel_rfl)) (fun _ _ _ h => h) (Or.inl ⟨by rfl,?_⟩) ?_ ?_
    rotate_left
    ·intro w'
     go_simp
     with_reducible rfl
    rotate_left
    ·simp only [Act.put,z1_,z2_,z3_,i64_w,i32_w]
     rfl
    refine last_ (i := 10) (N := none) (bA 11 2047) rfl rfl (one_of HT_.out (by kernel_rfl)) (by decide) (fun K hK => ?_)
    have d5 : d3.cell? ⟨aj,0,none⟩ = some (.slice aB am.length aC) := (blk_cell aa.out 0).trans rfl
    have dL := blk_frozen aa.out 0
    have cG := aq.out
    have cH := ak.out
    have cI := ap.out
    have cJ := ar.out
    refine skip_ (w1 := ?_) (by rfl) rfl ?_ ?_
    rotate_left
    ·go_simp
     rfl
    refine hK.out _ _ ?_
    clear hK K
    refine done_ (done_of HT_.out (by kernel_rfl)) ?_
    have dM := ar.out
    have dN := ak.out
    obtain ⟨_,_,_,_,_,_⟩ := bk3_ aa.out
    obtain ⟨_,_,_,_,_,_,_,_,_,_,_,_⟩ := bk6_ ab.out
    obtain ⟨_,_,_,_,_,_⟩ := bk3_ ag.out
    try go_wp2
    refine bodyPost_ret (results_cell_row rfl _ _ ai 48 #[.slice bW aV.length bX,.slice none 0 0,.int .i64 bS] (0,0) _ rfl (by refine kO ?_;refine blk_put (cs := #[.slice bW aV.length bX,.slice none 0 0,.int .i64 0]) ?_ 2 _ rfl;refine kO ?_;refine blk_put (cs := #[.slice bW aV.length bX,.slice none 0 0,.int .i64 0]) ?_ 1 _ rfl;refine kO ?_;refine blk_put (cs := #[.slice none 0 0,.slice none 0 0,.int .i64 0]) ?_ 0 _ rfl;refine kO ?_;refine blk_far ?_ ak.out _;refine kO ?_;refine blk_far ?_ ak.out _;refine kO ?_;refine blk_far ?_ ak.out _;refine kO ?_;exact ag.out) Tryd.underlying48 rfl (by kernel_rfl)) rfl ?_
    exact ⟨_,_,by first|rfl|(simp [errW_none,errW_some] <;> rfl)|(simp only [← a4];first|rfl|(simp [errW_none,errW_some] <;> rfl))|(simp [*,errW_none,errW_some] <;> rfl),by (with_reducible repeat (first|apply Kd.R_alloc|apply Kd.R_drewN|apply Kd.R_drew));exact Kd.R_mono (Kd.R_far (p := ⟨ai,2,none⟩) (Kd.R_far (p := ⟨ai,1,none⟩) (Kd.R_far (p := ⟨ai,0,none⟩) (Kd.R_far (p := ⟨aj,2,none⟩) (Kd.R_far (p := ⟨aj,1,none⟩) (Kd.R_far (p := ⟨aj,0,none⟩) (Kd.R_types (Kd.R_types ce.out aa.out (by decide)) ag.out (by decide)) (fun _ hk => hk.1.2) (.slice bW aV.length bX)) (fun _ hk => hk.1.2) (.slice none 0 0)) (fun _ hk => hk.1.2) (.int .i64 bS)) (fun _ hk => hk.2) (.slice bW aV.length bX)) (fun _ hk => hk.2) (.slice none 0 0)) (fun _ hk => hk.2) (.int .i64 bS)) (fun _ hk => ⟨hk.1.1.1.1.1.1.1,(by simp [Value.ownBlock])⟩),by first|exact Kd.R_nil _ _ _ _ _|exact Kd.N_nil _ _ _ _ _|exact Kd.V_nil _ _ _ _ _|exact Kd.Q_nil _ _ _ _ _|exact Kd.S_nil _ _ _ _ _,bG HB.out,kG HK.out⟩
   ·rw [if_neg ci] at H
    have cr := beq_eq_false_iff_ne.mpr ci
    have ct := bne_iff_ne.mpr ci
    obtain ⟨bv,bz⟩ : ∃ j_ : Int,(mx au an) = j_ := ⟨_,rfl⟩
    replace H : (some (am,ao,bv)) = some (r1,r2,r3) := by first|(rw [bz] at H;exact H)|(simp only [bz] at H ⊢;exact H)
    have c1 : (if au < an then an else au) = bv := bz
    simp only [Option.some.injEq,Prod.mk.injEq] at H
    obtain ⟨rfl,rfl,rfl⟩ := H
    obtain ⟨bH,bI,da⟩ := Kd.R_slice ae.out
    subst da
    obtain ⟨bY,bZ,db⟩ := Kd.R_slice af.out
    subst db
    go_enter Tryd.func42,Tryd.ntmps42
    go_wp2_with (first|((with_reducible refine gate_dst (N := 2) rfl ?_);refine box_event ?hg (N := 2) ?hd (cs := #[.slice bH am.length bI,.slice bY ao.length bZ,.int .i64 au]) (t := 48) ?hr ?_;(case hd => rfl);(case hg => rfl);(case hr => first|(go_simp;done)|(go_simp;rfl));intro aj hg ei hbox hb;replace ae := aK (Kd.R_below (rM ae.out) hb);replace af := aK (Kd.R_below (rM af.out) hb);have aa := aK (hbox);have aW := aK ((by rw [hg];exact (by first|exact HK.out.1|exact (show Kept w _ (fun k_ => ac k_ ∨ ad k_) from kG HK.out).1) : w.heap.size ≤ aj));have bK := Ge.mk aW.out;replace HK := aK (Kept.below (S := (fun k_ => ac k_ ∨ ad k_)) (kG HK.out) hb);have aX := aK ((by rw [hg];exact (below_size (bM HB.out)) : w0.heap.size ≤ aj));have bL := Ge.mk aX.out;replace HB := aK (below_step (bM HB.out) hb);clear hb hbox hg)|((with_reducible refine gate_dst (N := 3) rfl ?_);refine box_event ?hg (N := 3) ?hd (cs := #[.int .i64 aS,.int .i64 aD,.int .i64 an,.slice aH ax.length aI,.slice aP aA.length aQ,.slice aT aJ.length aU]) (t := 37) ?hr ?_;(case hd => rfl);(case hg => rfl);(case hr => first|(go_simp;done)|(go_simp;rfl));intro al hg ej hbox hb;replace ae := aK (Kd.R_below (rM ae.out) hb);replace af := aK (Kd.R_below (rM af.out) hb);have ab := aK (hbox);have aY := aK ((by rw [hg];exact (by first|exact HK.out.1|exact (show Kept w _ (fun k_ => ac k_ ∨ ad k_) from kG HK.out).1) : w.heap.size ≤ al));have bN := Ge.mk aY.out;replace HK := aK (Kept.below (S := (fun k_ => ac k_ ∨ ad k_)) (kG HK.out) hb);have aZ := aK ((by rw [hg];exact (below_size (bG HB.out)) : w0.heap.size ≤ al));have bO := Ge.mk aZ.out;replace HB := aK (below_step (bG HB.out) hb);have ap := aK (nbL aa.out hg);have aq := aK (nbR aa.out hg);replace aa := aK (blk_below (kM aa.out) hb);clear hb hbox hg)|((with_reducible refine gate_dst (N := 4) rfl ?_);refine box_event ?hg (N := 4) ?hd (cs := #[.slice none 0 0,.slice none 0 0,.int .i64 0]) (t := 48) ?hr ?_;(case hd => rfl);(case hg => rfl);(case hr => first|(go_simp;done)|(go_simp;rfl));intro ai hg ek hbox hb;replace ae := aK (Kd.R_below (rM ae.out) hb);replace af := aK (Kd.R_below (rM af.out) hb);have ag := aK (hbox);have a0 := aK ((by rw [hg];exact (by first|exact HK.out.1|exact (show Kept w _ (fun k_ => ac k_ ∨ ad k_) from kG HK.out).1) : w.heap.size ≤ ai));have bP := Ge.mk a0.out;replace HK := aK (Kept.below (S := (fun k_ => ac k_ ∨ ad k_)) (kG HK.out) hb);have a1 := aK ((by rw [hg];exact (below_size (bG HB.out)) : w0.heap.size ≤ ai));have bQ := Ge.mk a1.out;replace HB := aK (below_step (bG HB.out) hb);have ar := aK (nbL aa.out hg);have ak := aK (nbR aa.out hg);replace aa := aK (blk_below (kM aa.out) hb);have av := aK (nbL ab.out hg);have aw := aK (nbR ab.out hg);replace ab := aK (blk_below (kM ab.out) hb);clear hb hbox hg;have dO := aq.out;have dP := ap.out;have dQ := av.out;have dR := aw.out;obtain ⟨_,_,_,_,_,_,_,_,_,_,_,_⟩ := bk6_ ab.out;have dS := ar.out;have dT := ak.out;obtain ⟨_,_,_,_,_,_⟩ := bk3_ aa.out;obtain ⟨_,_,_,_,_,_⟩ := bk3_ ag.out))
    refine bodyPost_ret (results_cell_row rfl _ _ ai 48 #[.slice bH am.length bI,.slice bY ao.length bZ,.int .i64 bv] (0,0) _ rfl (by refine kO ?_;refine blk_put (cs := #[.slice bH am.length bI,.slice bY ao.length bZ,.int .i64 0]) ?_ 2 _ rfl;refine kO ?_;refine blk_put (cs := #[.slice bH am.length bI,.slice none 0 0,.int .i64 0]) ?_ 1 _ rfl;refine kO ?_;refine blk_put (cs := #[.slice none 0 0,.slice none 0 0,.int .i64 0]) ?_ 0 _ rfl;refine kO ?_;refine blk_far ?_ ak.out _;refine kO ?_;exact ag.out) Tryd.underlying48 rfl (by kernel_rfl)) rfl ?_
    exact ⟨_,_,by first|rfl|(simp [errW_none,errW_some] <;> rfl)|(simp only [← bz];first|rfl|(simp [errW_none,errW_some] <;> rfl))|(simp [*,errW_none,errW_some] <;> rfl),by (with_reducible repeat (first|apply Kd.R_alloc|apply Kd.R_drewN|apply Kd.R_drew));exact Kd.R_mono (Kd.R_far (p := ⟨ai,2,none⟩) (Kd.R_far (p := ⟨ai,1,none⟩) (Kd.R_far (p := ⟨ai,0,none⟩) (Kd.R_far (p := ⟨aj,2,none⟩) (Kd.R_types (Kd.R_types ae.out aa.out (by decide)) ag.out (by decide)) (fun _ hk => hk.1.2) (.int .i64 bv)) (fun _ hk => hk.2) (.slice bH am.length bI)) (fun _ hk => hk.2) (.slice bY ao.length bZ)) (fun _ hk => hk.2) (.int .i64 bv)) (fun _ hk => ⟨hk.1.1.1,hk.1.1.2⟩),by (with_reducible repeat (first|apply Kd.R_alloc|apply Kd.R_drewN|apply Kd.R_drew));exact Kd.R_mono (Kd.R_far (p := ⟨ai,2,none⟩) (Kd.R_far (p := ⟨ai,1,none⟩) (Kd.R_far (p := ⟨ai,0,none⟩) (Kd.R_far (p := ⟨aj,2,none⟩) (Kd.R_types (Kd.R_types af.out aa.out (by decide)) ag.out (by decide)) (fun _ hk => hk.1.2) (.int .i64 bv)) (fun _ hk => hk.2) (.slice bH am.length bI)) (fun _ hk => hk.2) (.slice bY ao.length bZ)) (fun _ hk => hk.2) (.int .i64 bv)) (fun _ hk => ⟨hk.1.1.1,hk.1.1.2⟩),bG HB.out,kG HK.out⟩

/-! ### manifest_run: function 23 -/
def manifest_run.l0 : Nat → List (S37) → Int → Int → List Int → List Int → Int → Option (List Int × List Int × Int)
|0,_,_,_,_,_,_ => none
|k + 1,x7,x8,x9,x167000,x167001,x167002 => if x9 < x8 then (if 0 ≤ x9 then (if x9 < (x7.length : Int) then ((manifest_state_after.f k x167000 x167001 x167002 ((rd_T37 x7 x9).f0) ((rd_T37 x7 x9).f1) ((rd_T37 x7 x9).f2) ((rd_T37 x7 x9).f3) ((rd_T37 x7 x9).f4) ((rd_T37 x7 x9).f5)).bind fun bt169 => (manifest_run.l0 k x7 x8 (wrap64 (x9 + 1)) bt169.1 bt169.2.1 bt169.2.2)) else (none)) else (none)) else (some (x167000,x167001,x167002))
def manifest_run.f (k : Nat) (l0 : List (S37)) : Option (List Int × List Int × Int) := manifest_run.l0 k l0 (l0.length : Int) 0 ([] : List Int) ([] : List Int) 0
theorem manifest_run.mono_l : ∀ k, (∀ y0 y1 y2 y3 y4 y5, LeO (manifest_run.l0 k y0 y1 y2 y3 y4 y5) (manifest_run.l0 (k + 1) y0 y1 y2 y3 y4 y5))
|0 => fun _ _ _ _ _ _ r h => by simp [manifest_run.l0] at h
|k + 1 => by
  have ih0 := manifest_run.mono_l k
  ·intro y0 y1 y2 y3 y4 y5
   unfold manifest_run.l0
   repeat' (with_reducible first|exact ih0 _ _ _ _ _ _|exact manifest_state_after.mono _ _ _ _ _ _ _ _ _ _|exact LeO.refl _|exact LeO.none _|refine LeO.ite ?_ ?_|refine LeO.bind ?_ (fun _ => ?_))
theorem manifest_run.mono : ∀ a0 k, LeO (manifest_run.f k a0) (manifest_run.f (k + 1) a0) := by
 intro a0 k
 have ih0 := manifest_run.mono_l k
 unfold manifest_run.f
 repeat' first
  |(with_reducible exact ih0 _ _ _ _ _ _)
  |(with_reducible exact manifest_state_after.mono _ _ _ _ _ _ _ _ _ _)
  |(with_reducible exact LeO.refl _)
  |(with_reducible exact LeO.none _)
  |(with_reducible refine LeO.ite ?_ ?_)
  |(with_reducible refine LeO.bind ?_ (fun _ => ?_))
  |exact ih0 _ _ _ _ _ _
  |exact manifest_state_after.mono _ _ _ _ _ _ _ _ _ _
  |exact LeO.none _
  |refine LeO.ite ?_ ?_
  |refine LeO.bind ?_ (fun _ => ?_)
theorem manifest_run.calls (k : Nat) (A0 : Option Addr) (c0 : Nat) (l0 : List (S37)) (r1 : List Int) (r2 : List Int) (r3 : Int) (w : World) (bV : Kd.C k37 w A0 l0.length l0) (bW : l0.length ≤ c0) (h : manifest_run.f k l0 = some (r1, r2, r3)) :
  Calls Tryd.prog 23 #[.slice A0 l0.length c0] w fun e w' => ∃ bH bI : Value,e = .returned (.agg #[bH,bI,.int .i64 r3]) ∧ Kd.R (Kd.int .i64) 3 w' w.heap.size (fun k_ => some k_ ≠ (bI : Value).ownBlock) bH r1 ∧ Kd.R (Kd.int .i64) 3 w' w.heap.size (fun k_ => some k_ ≠ (bH : Value).ownBlock) bI r2 ∧ Below w.heap.size w w' := by
 have cm := Tryd.underlying48
 have cn := Tryd.underlying37
 have co := aK bV
 have cv := aK bW
 clear bV bW
 have HB := aK (Below.refl w.heap.size w)
 have H : (manifest_run.l0 k l0 (l0.length : Int) 0 ([] : List Int) ([] : List Int) 0) = some (r1,r2,r3) := h
 clear h
 have H' := aK H
 clear H
 go_enter Tryd.func23,Tryd.ntmps23
 go_wp2_with (first|((with_reducible refine gate_dst (N := 2) rfl ?_);refine box_event ?hg (N := 2) ?hd (cs := #[.slice none 0 0,.slice none 0 0,.int .i64 0]) (t := 48) ?hr ?_;(case hd => rfl);(case hg => rfl);(case hr => first|(go_simp;done)|(go_simp;rfl));intro ao hg w2 hbox hb;have ah := aK (hbox);have bq := aK ((by rw [hg];exact (below_size (bM HB.out)) : w.heap.size ≤ ao));have bX := Ge.mk bq.out;have ba := aK ((by rw [hg];exact (below_size (bM HB.out)) : w.heap.size ≤ ao));have bY := Ge.mk ba.out;replace HB := aK (below_step (bM HB.out) hb);clear hb hbox hg)|((with_reducible refine gate_dst (N := 3) rfl ?_);refine box_event ?hg (N := 3) ?hd (cs := #[.slice none 0 0,.slice none 0 0,.int .i64 0]) (t := 48) ?hr ?_;(case hd => rfl);(case hg => rfl);(case hr => first|(go_simp;done)|(go_simp;rfl));intro ap hg w3 hbox hb;have aj := aK (hbox);have br := aK ((by rw [hg];exact (below_size (bG HB.out)) : w.heap.size ≤ ap));have bZ := Ge.mk br.out;have bb := aK ((by rw [hg];exact (below_size (bG HB.out)) : w.heap.size ≤ ap));have b0 := Ge.mk bb.out;replace HB := aK (below_step (bG HB.out) hb);have ag := aK (nbL ah.out hg);have au := aK (nbR ah.out hg);replace ah := aK (blk_below (kM ah.out) hb);clear hb hbox hg;have cp := au.out;have cq := ag.out;obtain ⟨bf,bg,bh,bi,bj,bk⟩ := bk3_ aj.out))
 go_loopg [9] k (fun kq v9 w' => ∃ (aa : Int) (ad : List Int) (ae : List Int) (af : Int) (am : Value) (an : Value),v9 = .int .i64 aa ∧ Aside0 (manifest_run.l0 kq l0 (l0.length : Int) aa ad ae af = some (r1,r2,r3)) ∧ Aside0 (kq ≤ k) ∧ Aside0 (Kd.R (Kd.int .i64) 3 w' w.heap.size (fun k_ => some k_ ≠ (an : Value).ownBlock) am ad) ∧ Aside0 (Kd.R (Kd.int .i64) 3 w' w.heap.size (fun k_ => some k_ ≠ (am : Value).ownBlock) an ae) ∧ Aside0 (w'.heap[ao]? = some (.cells #[(.slice none 0 0),(.slice none 0 0),.int .i64 0] 48 (0,0))) ∧ Aside0 (w'.heap[ap]? = some (.cells #[am,an,.int .i64 af] 48 (0,0))) ∧ Aside0 (Below w.heap.size w w'))
 case atStart => exact ⟨(0),(([] : List Int)),(([] : List Int)),(0),(.slice none 0 0),(.slice none 0 0),(by first|rfl|(simp;done)|(simp [*];done)),H',⟨Nat.le_refl _⟩,⟨by first|exact Kd.R_nil _ _ _ _ _|exact Kd.N_nil _ _ _ _ _|exact Kd.V_nil _ _ _ _ _|exact Kd.Q_nil _ _ _ _ _|exact Kd.S_nil _ _ _ _ _⟩,⟨by first|exact Kd.R_nil _ _ _ _ _|exact Kd.N_nil _ _ _ _ _|exact Kd.V_nil _ _ _ _ _|exact Kd.Q_nil _ _ _ _ _|exact Kd.S_nil _ _ _ _ _⟩,⟨by refine kO ?_;refine blk_far ?_ ag.out _;refine kO ?_;refine blk_far ?_ ag.out _;refine kO ?_;refine blk_far ?_ ag.out _;refine kO ?_;exact ah.out⟩,⟨by refine kO ?_;refine blk_put (cs := #[.slice none 0 0,.slice none 0 0,.int .i64 0]) ?_ 2 _ rfl;refine kO ?_;refine blk_put (cs := #[.slice none 0 0,.slice none 0 0,.int .i64 0]) ?_ 1 _ rfl;refine kO ?_;refine blk_put (cs := #[.slice none 0 0,.slice none 0 0,.int .i64 0]) ?_ 0 _ rfl;refine kO ?_;exact aj.out⟩,⟨bG HB.out⟩⟩
 case round =>
  clear H'
  try clear p2
  try clear bf
  try clear bg
  try clear bh
  try clear bi
  try clear bj
  try clear bk
  obtain ⟨aa,ad,ae,af,am,an,rfl,HA,b1,ab,ac,ah,aj,HB⟩ := hrel
  cases gk with
 |zero => exact absurd HA.out (by simp [manifest_run.l0])
 |succ k1 =>
   have H := HA.out
   clear HA
   simp only [manifest_run.l0] at H
   by_cases c6 : aa < (l0.length : Int)
   ·rw [if_pos c6] at H
    have bJ := decide_eq_true c6
    clear c6
    obtain ⟨c7,H⟩ := iS H
    have cr := decide_eq_true c7
    clear c7
    obtain ⟨c8,H⟩ := iS H
    have ct := decide_eq_true c8
    clear c8
    replace H := Option.bind_eq_some_iff.mp H
    obtain ⟨⟨aA,aB,aR⟩,b2,H⟩ := H
    replace H : (manifest_run.l0 k1 l0 (l0.length : Int) (wrap64 (aa + 1)) aA aB aR) = some (r1,r2,r3) := H
    have A9 := aK b2
    clear b2
    have H' := aK H
    clear H
    have bm : 0 ≤ (aa : Int) := dA
    have bn : aa < (l0.length : Int) := dA
    obtain ⟨b3,aq,ar,av,aw,ax,ay,bK,aC,aD,aE,aF,aG,aH,aI,aJ,aL,aM,aN,aO⟩ := at_T37 co.out aa bm bn
    cases bK
    replace aC := xM HB aC
    replace aD := xM HB aD
    replace aE := xM HB aE
    replace aF := xM HB aF
    replace aG := xM HB aG
    replace aH := xM HB aH
    have aY := aK aJ
    have aZ := aK aI
    clear aJ aI
    have a0 := aK aM
    have a1 := aK aL
    clear aM aL
    have a2 := aK aO
    have a3 := aK aN
    clear aO aN
    replace bm := eq_true bm
    replace bn := eq_true bn
    go_wp2_with (first|((with_reducible refine gate_dst (N := 5) rfl ?_);refine box_event ?hg (N := 5) ?hd (cs := #[.int .i64 0,.int .i64 0,.int .i64 0,.slice none 0 0,.slice none 0 0,.slice none 0 0]) (t := 37) ?hr ?_;(case hd => rfl);(case hg => rfl);(case hr => first|(go_simp;done)|(go_simp;rfl));intro ai hg cu hbox hb;replace ab := aK (Kd.R_below (rM ab.out) hb);replace ac := aK (Kd.R_below (rM ac.out) hb);have az := aK (hbox);have bs := aK ((by rw [hg];exact (below_size (bG HB.out)) : w.heap.size ≤ ai));have b4 := Ge.mk bs.out;have bc := aK ((by rw [hg];exact (below_size (bG HB.out)) : w.heap.size ≤ ai));have b5 := Ge.mk bc.out;replace HB := aK (below_step (bG HB.out) hb);have ak := aK (nbL ah.out hg);have aP := aK (nbR ah.out hg);replace ah := aK (blk_below (kM ah.out) hb);have al := aK (nbL aj.out hg);have aQ := aK (nbR aj.out hg);replace aj := aK (blk_below (kM aj.out) hb);clear hb hbox hg;have b6 := aP.out;have b7 := ak.out;have b8 := aQ.out;have b9 := al.out;obtain ⟨_,_,_,_,_,_,_,_,_,_,_,_⟩ := bk6_ az.out)|((with_reducible refine gate_store (t := 37) (p := 5) rfl ?_);refine store_event (t := 37) (p := 5) (v := ?bL) (w1 := ((((((cu.setCell ⟨ai,0,none⟩ (.int .i64 ((rd_T37 l0 aa).f0))).setCell ⟨ai,1,none⟩ (.int .i64 ((rd_T37 l0 aa).f1))).setCell ⟨ai,2,none⟩ (.int .i64 ((rd_T37 l0 aa).f2))).setCell ⟨ai,3,none⟩ (.slice aq ((rd_T37 l0 aa).f3).length ar)).setCell ⟨ai,4,none⟩ (.slice av ((rd_T37 l0 aa).f4).length aw)).setCell ⟨ai,5,none⟩ (.slice ax ((rd_T37 l0 aa).f5).length ay))) ?hg ?ho ?hn ?hr ?_;(case ho => rfl);(case hg => rfl);(case hn => rfl);(case hr => first|(go_simp;done)|(go_simp;rfl));intro bp hw;have ca : Aside0 (Kd.R (Kd.int .i64) 3 bp w.heap.size (fun k_ => some k_ ≠ (an : Value).ownBlock) am ad) := ⟨(by rw [hw];exact (by (with_reducible repeat (first|apply Kd.R_alloc|apply Kd.R_drewN|apply Kd.R_drew));exact Kd.R_mono (Kd.R_far (p := ⟨ai,5,none⟩) (Kd.R_far (p := ⟨ai,4,none⟩) (Kd.R_far (p := ⟨ai,3,none⟩) (Kd.R_far (p := ⟨ai,2,none⟩) (Kd.R_far (p := ⟨ai,1,none⟩) (Kd.R_far (p := ⟨ai,0,none⟩) (Kd.R_types ab.out az.out (by decide)) (fun _ hk => hk.2) (.int .i64 ((rd_T37 l0 aa).f0))) (fun _ hk => hk.2) (.int .i64 ((rd_T37 l0 aa).f1))) (fun _ hk => hk.2) (.int .i64 ((rd_T37 l0 aa).f2))) (fun _ hk => hk.2) (.slice aq ((rd_T37 l0 aa).f3).length ar)) (fun _ hk => hk.2) (.slice av ((rd_T37 l0 aa).f4).length aw)) (fun _ hk => hk.2) (.slice ax ((rd_T37 l0 aa).f5).length ay)) (fun _ hk => hk.1)))⟩;have cb : Aside0 (Kd.R (Kd.int .i64) 3 bp w.heap.size (fun k_ => some k_ ≠ (am : Value).ownBlock) an ae) := ⟨(by rw [hw];exact (by (with_reducible repeat (first|apply Kd.R_alloc|apply Kd.R_drewN|apply Kd.R_drew));exact Kd.R_mono (Kd.R_far (p := ⟨ai,5,none⟩) (Kd.R_far (p := ⟨ai,4,none⟩) (Kd.R_far (p := ⟨ai,3,none⟩) (Kd.R_far (p := ⟨ai,2,none⟩) (Kd.R_far (p := ⟨ai,1,none⟩) (Kd.R_far (p := ⟨ai,0,none⟩) (Kd.R_types ac.out az.out (by decide)) (fun _ hk => hk.2) (.int .i64 ((rd_T37 l0 aa).f0))) (fun _ hk => hk.2) (.int .i64 ((rd_T37 l0 aa).f1))) (fun _ hk => hk.2) (.int .i64 ((rd_T37 l0 aa).f2))) (fun _ hk => hk.2) (.slice aq ((rd_T37 l0 aa).f3).length ar)) (fun _ hk => hk.2) (.slice av ((rd_T37 l0 aa).f4).length aw)) (fun _ hk => hk.2) (.slice ax ((rd_T37 l0 aa).f5).length ay)) (fun _ hk => hk.1)))⟩;have cc : Aside0 (bp.heap[ao]? = some (.cells #[.slice none 0 0,.slice none 0 0,.int .i64 0] 48 (0,0))) := ⟨(by rw [hw];exact (by refine kO ?_;refine blk_far ?_ ak.out _;refine kO ?_;refine blk_far ?_ ak.out _;refine kO ?_;refine blk_far ?_ ak.out _;refine kO ?_;refine blk_far ?_ ak.out _;refine kO ?_;refine blk_far ?_ ak.out _;refine kO ?_;refine blk_far ?_ ak.out _;refine kO ?_;exact ah.out))⟩;have cd : Aside0 (bp.heap[ap]? = some (.cells #[am,an,.int .i64 af] 48 (0,0))) := ⟨(by rw [hw];exact (by refine kO ?_;refine blk_far ?_ al.out _;refine kO ?_;refine blk_far ?_ al.out _;refine kO ?_;refine blk_far ?_ al.out _;refine kO ?_;refine blk_far ?_ al.out _;refine kO ?_;refine blk_far ?_ al.out _;refine kO ?_;refine blk_far ?_ al.out _;refine kO ?_;exact aj.out))⟩;have ce : Aside0 (bp.heap[ai]? = some (.cells #[.int .i64 ((rd_T37 l0 aa).f0),.int .i64 ((rd_T37 l0 aa).f1),.int .i64 ((rd_T37 l0 aa).f2),.slice aq ((rd_T37 l0 aa).f3).length ar,.slice av ((rd_T37 l0 aa).f4).length aw,.slice ax ((rd_T37 l0 aa).f5).length ay] 37 (0,0))) := ⟨(by rw [hw];exact (by refine kO ?_;refine blk_put (cs := #[.int .i64 ((rd_T37 l0 aa).f0),.int .i64 ((rd_T37 l0 aa).f1),.int .i64 ((rd_T37 l0 aa).f2),.slice aq ((rd_T37 l0 aa).f3).length ar,.slice av ((rd_T37 l0 aa).f4).length aw,.slice none 0 0]) ?_ 5 _ rfl;refine kO ?_;refine blk_put (cs := #[.int .i64 ((rd_T37 l0 aa).f0),.int .i64 ((rd_T37 l0 aa).f1),.int .i64 ((rd_T37 l0 aa).f2),.slice aq ((rd_T37 l0 aa).f3).length ar,.slice none 0 0,.slice none 0 0]) ?_ 4 _ rfl;refine kO ?_;refine blk_put (cs := #[.int .i64 ((rd_T37 l0 aa).f0),.int .i64 ((rd_T37 l0 aa).f1),.int .i64 ((rd_T37 l0 aa).f2),.slice none 0 0,.slice none 0 0,.slice none 0 0]) ?_ 3 _ rfl;refine kO ?_;refine blk_put (cs := #[.int .i64 ((rd_T37 l0 aa).f0),.int .i64 ((rd_T37 l0 aa).f1),.int .i64 0,.slice none 0 0,.slice none 0 0,.slice none 0 0]) ?_ 2 _ rfl;refine kO ?_;refine blk_put (cs := #[.int .i64 ((rd_T37 l0 aa).f0),.int .i64 0,.int .i64 0,.slice none 0 0,.slice none 0 0,.slice none 0 0]) ?_ 1 _ rfl;refine kO ?_;refine blk_put (cs := #[.int .i64 0,.int .i64 0,.int .i64 0,.slice none 0 0,.slice none 0 0,.slice none 0 0]) ?_ 0 _ rfl;refine kO ?_;exact az.out))⟩;have cf : Aside0 (Below w.heap.size w bp) := ⟨(by rw [hw];exact (bG HB.out))⟩;clear hw;clear ab;clear ac;clear ah;clear aj;clear az;clear HB;have ab := ca;have ac := cb;have ah := cc;have aj := cd;have az := ce;have HB := cf;clear ca cb cc cd ce cf;have cg := au.out;have ch := ag.out;obtain ⟨_,_,_,_,_,_⟩ := bk3_ aj.out;obtain ⟨_,_,_,_,_,_,_,_,_,_,_,_⟩ := bk6_ az.out;obtain ⟨a4,a5,bN⟩ := Kd.R_slice ab.out;subst bN;obtain ⟨aS,aT,bO⟩ := Kd.R_slice ac.out;subst bO)|((with_reducible refine gate_callee (f := 42) rfl ?_);refine gL 15 Tryd.func42 #[.agg #[.slice a4 ad.length a5,.slice aS ae.length aT,.int .i64 af],.agg #[.int .i64 ((rd_T37 l0 aa).f0),.int .i64 ((rd_T37 l0 aa).f1),.int .i64 ((rd_T37 l0 aa).f2),.slice aq ((rd_T37 l0 aa).f3).length ar,.slice av ((rd_T37 l0 aa).f4).length aw,.slice ax ((rd_T37 l0 aa).f5).length ay]] ?_;(with_reducible refine (manifest_state_after.calls k1 (fun k_ => some k_ = (.slice a4 ad.length a5 : Value).ownBlock) (.slice a4 ad.length a5) ad (fun k_ => some k_ = (.slice aS ae.length aT : Value).ownBlock) (.slice aS ae.length aT) ae af ((rd_T37 l0 aa).f0) ((rd_T37 l0 aa).f1) ((rd_T37 l0 aa).f2) (fun k_ => k_ < w.heap.size) _ _ ((rd_T37 l0 aa).f3) _ _ ((rd_T37 l0 aa).f4) _ _ ((rd_T37 l0 aa).f5) aA aB aR w _ ?bu ?bv ?bx ?bz ?bB ?bC ?bD ?bE ?bF ?bo A9.out).mono ?_);(case bu => repeat (first|(with_reducible first|exact HB.out|apply below_alloc|apply pw_below_drewN|apply below_drew1|refine below_set ?_ ba.out|refine below_set ?_ bb.out|refine below_set ?_ bc.out)|exact HB.out));(case bv => exact Kd.R_tight rfl ab.out);(case bx => exact fun k_ e_ => (ab.out.1 k_ e_.symm));(case bz => exact Kd.R_tight rfl ac.out);(case bB => exact fun k_ e_ => (ac.out.1 k_ e_.symm));(case bC => exact Kd.V_mono (Kd.V_mk aZ.out (Kd.F_below (Kd.C_F (Kd.heap_int .i64) aY.out) (bG HB.out))) (fun k_ hk_ => ⟨hk_,fun e_ => Nat.not_le.2 hk_ (Kd.R_base ab.out k_ e_.symm),fun e_ => Nat.not_le.2 hk_ (Kd.R_base ac.out k_ e_.symm)⟩));(case bD => exact Kd.C_kept_came (Kd.heap_int .i64) a0.out (bG HB.out) (fun k_ hs_ => Or.elim hs_ (fun e_ => (fun e_ => Kd.R_base ab.out k_ e_.symm) e_) (fun e_ => (fun e_ => Kd.R_base ac.out k_ e_.symm) e_)));(case bE => exact a1.out);(case bF => exact Kd.C_kept_came Kd.heap_string a2.out (bG HB.out) (fun k_ hs_ => Or.elim hs_ (fun e_ => (fun e_ => Kd.R_base ab.out k_ e_.symm) e_) (fun e_ => (fun e_ => Kd.R_base ac.out k_ e_.symm) e_)));(case bo => exact a3.out);rintro e cw ⟨bP,bQ,rfl,ci,cj,hb,hkp⟩;refine ⟨_,rfl,?_⟩;replace ah := aK (blk_kept (kM ah.out) hkp (fun hs_ => Or.elim hs_ (fun e_ => (fun e_ => (Kd.R_ne ab.out ah.out (by decide)) e_) e_) (fun e_ => (fun e_ => (Kd.R_ne ac.out ah.out (by decide)) e_) e_)));replace aj := aK (blk_kept (kM aj.out) hkp (fun hs_ => Or.elim hs_ (fun e_ => (fun e_ => (Kd.R_ne ab.out aj.out (by decide)) e_) e_) (fun e_ => (fun e_ => (Kd.R_ne ac.out aj.out (by decide)) e_) e_)));have bd := aK (Kd.R_mono (ok' := fun k_ => some k_ ≠ (bQ : Value).ownBlock) ci (fun k_ hk_ => hk_.2));have be := aK (Kd.R_mono (ok' := fun k_ => some k_ ≠ (bP : Value).ownBlock) cj (fun k_ hk_ => hk_.2));replace HB := aK (hb);(try clear hb);(try clear hkp);(try clear ci);(try clear cj);obtain ⟨aU,aV,bR⟩ := Kd.R_slice bd.out;subst bR;obtain ⟨_,_,_,_,_,_⟩ := bk3_ aj.out;obtain ⟨a6,a7,bS⟩ := Kd.R_slice be.out;subst bS))
    go_roundg k1
    case measure => have := b1.out;omega
    case rel => exact ⟨(wrap64 (aa + 1)),(aA),(aB),(aR),(.slice aU aA.length aV),(.slice a6 aB.length a7),(by first|rfl|(simp;done)|(simp [*];done)),H',⟨by have := b1.out;omega⟩,⟨by (with_reducible repeat (first|apply Kd.R_alloc|apply Kd.R_drewN|apply Kd.R_drew));exact Kd.R_mono (Kd.R_far (p := ⟨ap,2,none⟩) (Kd.R_far (p := ⟨ap,1,none⟩) (Kd.R_far (p := ⟨ap,0,none⟩) (Kd.R_types bd.out aj.out (by decide)) (fun _ hk => hk.2) (.slice aU aA.length aV)) (fun _ hk => hk.2) (.slice a6 aB.length a7)) (fun _ hk => hk.2) (.int .i64 aR)) (fun _ hk => hk.1)⟩,⟨by (with_reducible repeat (first|apply Kd.R_alloc|apply Kd.R_drewN|apply Kd.R_drew));exact Kd.R_mono (Kd.R_far (p := ⟨ap,2,none⟩) (Kd.R_far (p := ⟨ap,1,none⟩) (Kd.R_far (p := ⟨ap,0,none⟩) (Kd.R_types be.out aj.out (by decide)) (fun _ hk => hk.2) (.slice aU aA.length aV)) (fun _ hk => hk.2) (.slice a6 aB.length a7)) (fun _ hk => hk.2) (.int .i64 aR)) (fun _ hk => hk.1)⟩,⟨by refine kO ?_;refine blk_far ?_ ag.out _;refine kO ?_;refine blk_far ?_ ag.out _;refine kO ?_;refine blk_far ?_ ag.out _;refine kO ?_;exact ah.out⟩,⟨by refine kO ?_;refine blk_put (cs := #[.slice aU aA.length aV,.slice a6 aB.length a7,.int .i64 af]) ?_ 2 _ rfl;refine kO ?_;refine blk_put (cs := #[.slice aU aA.length aV,.slice aS ae.length aT,.int .i64 af]) ?_ 1 _ rfl;refine kO ?_;refine blk_put (cs := #[.slice a4 ad.length a5,.slice aS ae.length aT,.int .i64 af]) ?_ 0 _ rfl;refine kO ?_;exact aj.out⟩,⟨bG HB.out⟩⟩
   ·rw [if_neg c6] at H
    have bJ := decide_eq_false c6
    clear c6
    simp only [Option.some.injEq,Prod.mk.injEq] at H
    obtain ⟨rfl,rfl,rfl⟩ := H
    have ck := au.out
    have cl := ag.out
    obtain ⟨_,_,_,_,_,_⟩ := bk3_ aj.out
    obtain ⟨aW,aX,bT⟩ := Kd.R_slice ab.out
    subst bT
    obtain ⟨_,_,_,_,_,_⟩ := bk3_ ah.out
    obtain ⟨a8,a9,bU⟩ := Kd.R_slice ac.out
    subst bU
    go_wp2
    refine bodyPost_ret (results_cell_row rfl _ _ ao 48 #[.slice aW ad.length aX,.slice a8 ae.length a9,.int .i64 af] (0,0) _ rfl (by refine kO ?_;refine blk_put (cs := #[.slice aW ad.length aX,.slice a8 ae.length a9,.int .i64 0]) ?_ 2 _ rfl;refine kO ?_;refine blk_put (cs := #[.slice aW ad.length aX,.slice none 0 0,.int .i64 0]) ?_ 1 _ rfl;refine kO ?_;refine blk_put (cs := #[.slice none 0 0,.slice none 0 0,.int .i64 0]) ?_ 0 _ rfl;refine kO ?_;exact ah.out) Tryd.underlying48 rfl (by kernel_rfl)) rfl ?_
    exact ⟨_,_,by first|rfl|(simp [errW_none,errW_some] <;> rfl)|(simp [*,errW_none,errW_some] <;> rfl),by (with_reducible repeat (first|apply Kd.R_alloc|apply Kd.R_drewN|apply Kd.R_drew));exact Kd.R_mono (Kd.R_far (p := ⟨ao,2,none⟩) (Kd.R_far (p := ⟨ao,1,none⟩) (Kd.R_far (p := ⟨ao,0,none⟩) (Kd.R_types ab.out ah.out (by decide)) (fun _ hk => hk.2) (.slice aW ad.length aX)) (fun _ hk => hk.2) (.slice a8 ae.length a9)) (fun _ hk => hk.2) (.int .i64 af)) (fun _ hk => hk.1),by (with_reducible repeat (first|apply Kd.R_alloc|apply Kd.R_drewN|apply Kd.R_drew));exact Kd.R_mono (Kd.R_far (p := ⟨ao,2,none⟩) (Kd.R_far (p := ⟨ao,1,none⟩) (Kd.R_far (p := ⟨ao,0,none⟩) (Kd.R_types ac.out ah.out (by decide)) (fun _ hk => hk.2) (.slice aW ad.length aX)) (fun _ hk => hk.2) (.slice a8 ae.length a9)) (fun _ hk => hk.2) (.int .i64 af)) (fun _ hk => hk.1),bG HB.out⟩

/-! ### manifest_Live: function 10 -/
def manifest_Live.f (k : Nat) (l0 : List (S37)) : Option (List Int) := (manifest_run.f k l0).bind fun bt176 => (some bt176.1)
theorem manifest_Live.mono : ∀ a0 k, LeO (manifest_Live.f k a0) (manifest_Live.f (k + 1) a0) := by
 intro a0 k
 unfold manifest_Live.f
 repeat' first
  |(with_reducible exact manifest_run.mono _ _)
  |(with_reducible exact LeO.refl _)
  |(with_reducible exact LeO.none _)
  |(with_reducible refine LeO.ite ?_ ?_)
  |(with_reducible refine LeO.bind ?_ (fun _ => ?_))
  |exact manifest_run.mono _ _
  |exact LeO.none _
  |refine LeO.ite ?_ ?_
  |refine LeO.bind ?_ (fun _ => ?_)
theorem manifest_Live.calls (k : Nat) (A0 : Option Addr) (c0 : Nat) (l0 : List (S37)) (r : List Int) (w : World) (ai : Kd.C k37 w A0 l0.length l0) (aj : l0.length ≤ c0) (h : manifest_Live.f k l0 = some r) :
  Calls Tryd.prog 10 #[.slice A0 l0.length c0] w fun e w' => ∃ ak : Value,e = .returned (ak) ∧ Kd.R (Kd.int .i64) 3 w' w.heap.size (fun _ => True) ak r ∧ Below w.heap.size w w' := by
 have aa := fun (al ao ap : Value) (w_ : World) => (show (Instr.field 48 (.agg #[al,ao,ap]) 0).run Tryd.prog w_ = .ok al w_ by simp [Instr.field,run_underlying Tryd.underlying48,part,isAgg,run_underlying Tryd.underlying26,asAgg,Result.andThen])
 have aq := aK ai
 have ar := aK aj
 clear ai aj
 have HB := aK (Below.refl w.heap.size w)
 have H : ((manifest_run.f k l0).bind fun ab => (some ab.1)) = some r := h
 clear h
 replace H := Option.bind_eq_some_iff.mp H
 obtain ⟨⟨ac,ag,ah⟩,am,H⟩ := H
 replace H : (some ac) = some r := H
 have A2 := aK am
 clear am
 obtain rfl := Option.some.inj H
 go_enter Tryd.func10,Tryd.ntmps10
 go_wp2_with (first|((with_reducible refine gate_callee (f := 23) rfl ?_);refine gL 4 Tryd.func23 #[.slice A0 l0.length c0] ?_;(with_reducible refine (manifest_run.calls k _ _ l0 ac ag ah _ ?ad ?ae A2.out).mono ?_);(case ad => exact cM aq.out);(case ae => exact ar.out);rintro e w3 ⟨au,av,rfl,an,aw,hb⟩;refine ⟨_,rfl,?_⟩;have af := aK (Kd.R_lower an (below_size (bM HB.out)));replace HB := aK (below_step (bM HB.out) hb);(try clear hb);(try clear hk);(try clear an);(try clear aw)))
 go_ret
 exact ⟨_,by first|rfl|(simp [errW_none,errW_some] <;> rfl)|(simp [*,errW_none,errW_some] <;> rfl),rM (Kd.R_mono af.out (fun _ hk => trivial)),bM HB.out⟩

/-! ### manifest_Dead: function 12 -/
def manifest_Dead.f (k : Nat) (l0 : List (S37)) : Option (List Int) := (manifest_run.f k l0).bind fun bt183 => (some bt183.2.1)
theorem manifest_Dead.mono : ∀ a0 k, LeO (manifest_Dead.f k a0) (manifest_Dead.f (k + 1) a0) := by
 intro a0 k
 unfold manifest_Dead.f
 repeat' first
  |(with_reducible exact manifest_run.mono _ _)
  |(with_reducible exact LeO.refl _)
  |(with_reducible exact LeO.none _)
  |(with_reducible refine LeO.ite ?_ ?_)
  |(with_reducible refine LeO.bind ?_ (fun _ => ?_))
  |exact manifest_run.mono _ _
  |exact LeO.none _
  |refine LeO.ite ?_ ?_
  |refine LeO.bind ?_ (fun _ => ?_)
theorem manifest_Dead.calls (k : Nat) (A0 : Option Addr) (c0 : Nat) (l0 : List (S37)) (r : List Int) (w : World) (ai : Kd.C k37 w A0 l0.length l0) (aj : l0.length ≤ c0) (h : manifest_Dead.f k l0 = some r) :
  Calls Tryd.prog 12 #[.slice A0 l0.length c0] w fun e w' => ∃ ak : Value,e = .returned (ak) ∧ Kd.R (Kd.int .i64) 3 w' w.heap.size (fun _ => True) ak r ∧ Below w.heap.size w w' := by
 have aa := fun (ao al ap : Value) (w_ : World) => (show (Instr.field 48 (.agg #[ao,al,ap]) 1).run Tryd.prog w_ = .ok al w_ by simp [Instr.field,run_underlying Tryd.underlying48,part,isAgg,run_underlying Tryd.underlying26,asAgg,Result.andThen])
 have aq := aK ai
 have ar := aK aj
 clear ai aj
 have HB := aK (Below.refl w.heap.size w)
 have H : ((manifest_run.f k l0).bind fun ab => (some ab.2.1)) = some r := h
 clear h
 replace H := Option.bind_eq_some_iff.mp H
 obtain ⟨⟨ag,ac,ah⟩,am,H⟩ := H
 replace H : (some ac) = some r := H
 have A2 := aK am
 clear am
 obtain rfl := Option.some.inj H
 go_enter Tryd.func12,Tryd.ntmps12
 go_wp2_with (first|((with_reducible refine gate_callee (f := 23) rfl ?_);refine gL 4 Tryd.func23 #[.slice A0 l0.length c0] ?_;(with_reducible refine (manifest_run.calls k _ _ l0 ag ac ah _ ?ad ?ae A2.out).mono ?_);(case ad => exact cM aq.out);(case ae => exact ar.out);rintro e w3 ⟨au,av,rfl,aw,an,hb⟩;refine ⟨_,rfl,?_⟩;have af := aK (Kd.R_lower an (below_size (bM HB.out)));replace HB := aK (below_step (bM HB.out) hb);(try clear hb);(try clear hk);(try clear aw);(try clear an)))
 go_ret
 exact ⟨_,by first|rfl|(simp [errW_none,errW_some] <;> rfl)|(simp [*,errW_none,errW_some] <;> rfl),rM (Kd.R_mono af.out (fun _ hk => trivial)),bM HB.out⟩
end Go.Proofs.YtmgliocboeifdaaDoor.K
