import Derived.Test.YtmgliocboeifdaaGreatDoorFx0
import Derived.Test.YtmgliocboeifdaaGreatDoorFx7
import Derived.Test.YtmgliocboeifdaaGreatDoorFx8
namespace Go.Proofs.YtmgliocboeifdaaGreatDoor.F
open Go.RowKit Go.Proofs.YtmgliocboeifdaaGreatDoorW.PrintWords Go.Proofs.YtmgliocboeifdaaGreatDoorW.PrintLast Go.Proofs.YtmgliocboeifdaaGreatDoorW.PrintMore
set_option maxHeartbeats 4000000
set_option maxRecDepth 100000
attribute [local go_sem] max2_int min2_int max_two min_two max_three min_three max_four min_four
set_option linter.unusedVariables false
set_option linter.unusedSimpArgs false
def manifest_state_after.f (k : Nat) (ab : List Int) (ad : List Int) (ac : Int) (al : Int) (ae : Int) (aa : Int) (af : List Int) (ag : List Int) (am : List ByteArray) : Option (List Int × List Int × Int) := if ae = 1 then ((posting_Or.f k ab (([aa] : List Int))).bind fun ah => (some (ah, ad, mx ac aa))) else (if ae = 2 then ((posting_Or.f k ad af).bind fun ai => (some (ab, ai, mx ac aa))) else (if ae = 3 then ((posting_Minus.f ab ag).bind fun aj => ((posting_Or.f k aj (([aa] : List Int))).bind fun ak => (some (ak, ([] : List Int), mx ac aa)))) else (some (ab, ad, mx ac aa))))
theorem manifest_state_after.mono : ∀ a0 a1 a2 a3 a4 a5 a6 a7 a8 k, LeO (manifest_state_after.f k a0 a1 a2 a3 a4 a5 a6 a7 a8) (manifest_state_after.f (k + 1) a0 a1 a2 a3 a4 a5 a6 a7 a8) := by
 intro a0 a1 a2 a3 a4 a5 a6 a7 a8 k
 unfold manifest_state_after.f
 repeat' (with_reducible first|exact posting_Or.mono _ _ _|exact LeO.refl _|exact LeO.none _|refine LeO.ite ?_ ?_|refine LeO.bind ?_ (fun _ => ?_))
def manifest_state_after.T7 : Bool × List (List Nat × List Nat) := (true, [([], []), ([0], [0]), ([], []), ([2], [2]), ([1, 3], [1, 3]), ([], []), ([5], [5]), ([6], [6]), ([4, 7, 4], [4, 7]), ([0, 1, 2, 3, 4, 5, 6, 7, 8], []), ([9, 8, 8, 0, 1, 2, 3, 4, 5, 6, 7, 8], [8, 9])])
def manifest_state_after.B7 : List Nat := [0, 1, 0, 4, 15, 0, 32, 96, 255, 511, 1023]
theorem manifest_state_after.tab7 : rtab .any (opsOf Tryz.f25 7) = manifest_state_after.T7 := by kernel_rfl
theorem manifest_state_after.bits7 : waitsOk manifest_state_after.T7.2 manifest_state_after.B7 = true := by kernel_rfl
theorem manifest_state_after.calls (k : Nat) (ac : Nat → Prop) (aN : Value) (am : List Int) (ad : Nat → Prop) (aO : Value) (ao : List Int) (au : Int) (aS : Int) (aD : Int) (an : Int) (bh : Nat → Prop) (aH : Option Addr) (aI : Nat) (ax : List Int) (aP : Option Addr) (aQ : Nat) (aA : List Int) (aT : Option Addr) (aU : Nat) (aJ : List ByteArray) (r1 : List Int) (r2 : List Int) (r3 : Int) (w0 w : World) (hB : Below w0.heap.size w0 w) (b3 : Kd.R (Kd.int .i64) 3 w w0.heap.size ac aN am) (bB : ∀ k_, ac k_ → ¬ ad k_) (b4 : Kd.R (Kd.int .i64) 3 w w0.heap.size ad aO ao) (bC : ∀ k_, ad k_ → ¬ ac k_) (cj : Kd.V (Kd.int .i64) 3 w w0.heap.size (fun k_ => bh k_ ∧ some k_ ≠ (aN : Value).ownBlock ∧ some k_ ≠ (aO : Value).ownBlock) (.slice aH ax.length aI) ax) (b5 : ∀ W_, Kept w W_ (fun k_ => ac k_ ∨ ad k_) → Kd.C (Kd.int .i64) W_ aP aA.length aA) (b6 : aA.length ≤ aQ) (b7 : ∀ W_, Kept w W_ (fun k_ => ac k_ ∨ ad k_) → Kd.C Kd.string W_ aT aJ.length aJ) (b8 : aJ.length ≤ aU) (h : manifest_state_after.f k am ao au aS aD an ax aA aJ = some (r1, r2, r3)) :
  Calls Tryz.prog 25 #[.agg #[aN,aO,.int .i64 au],.agg #[.int .i64 aS,.int .i64 aD,.int .i64 an,.slice aH ax.length aI,.slice aP aA.length aQ,.slice aT aJ.length aU]] w fun e w' => ∃ cK cL : Value,e = .returned (.agg #[cK,cL,.int .i64 r3]) ∧ Kd.R (Kd.int .i64) 3 w' w0.heap.size (fun k_ => ((ac k_ ∨ ad k_) ∨ w.heap.size ≤ k_) ∧ some k_ ≠ (cL : Value).ownBlock) cK r1 ∧ Kd.R (Kd.int .i64) 3 w' w0.heap.size (fun k_ => ((ac k_ ∨ ad k_) ∨ w.heap.size ≤ k_) ∧ some k_ ≠ (cK : Value).ownBlock) cL r2 ∧ Below w0.heap.size w0 w' ∧ Kept w w' (fun k_ => ac k_ ∨ ad k_) := by
 have dU := Tryz.underlying46
 have dV := Tryz.underlying30
 have ae := aK (show Kd.R (Kd.int .i64) 3 w w0.heap.size (fun k_ => ((ac k_ ∨ ad k_) ∨ w.heap.size ≤ k_) ∧ some k_ ≠ (aO : Value).ownBlock) aN am from Kd.R_mono b3 (fun k_ hk => ⟨(.inl (.inl hk)),fun e_ => bB k_ hk (b4.1 k_ e_.symm)⟩))
 have af := aK (show Kd.R (Kd.int .i64) 3 w w0.heap.size (fun k_ => ((ac k_ ∨ ad k_) ∨ w.heap.size ≤ k_) ∧ some k_ ≠ (aN : Value).ownBlock) aO ao from Kd.R_mono b4 (fun k_ hk => ⟨(.inl (.inr hk)),fun e_ => bC k_ hk (b3.1 k_ e_.symm)⟩))
 have ah := aK (show Kd.V (Kd.int .i64) 3 w w0.heap.size (fun k_ => ((ac k_ ∨ ad k_ ∨ bh k_) ∨ w.heap.size ≤ k_) ∧ some k_ ≠ (aN : Value).ownBlock ∧ some k_ ≠ (aO : Value).ownBlock) (.slice aH ax.length aI) ax from Kd.V_mono cj (fun k_ hk => ⟨.inl (.inr (.inr hk.1)),hk.2⟩))
 have b9 := aK b5
 have ca := aK b6
 clear b5 b6
 have dc := aK b7
 have dd := aK b8
 clear b7 b8
 have HK := aK (Kept.refl w (fun k_ => ac k_ ∨ ad k_))
 have d6 := aK hB.size
 have HB := aK hB
 clear hB
 have H : (if aD = 1 then ((posting_Or.f k am (([an] : List Int))).bind fun aR => (some (aR,ao,mx au an))) else (if aD = 2 then ((posting_Or.f k ao ax).bind fun a2 => (some (am,a2,mx au an))) else (if aD = 3 then ((posting_Minus.f am aA).bind fun a3 => ((posting_Or.f k a3 (([an] : List Int))).bind fun aV => (some (aV,([] : List Int),mx au an)))) else (some (am,ao,mx au an))))) = some (r1,r2,r3) := h
 clear h
 by_cases c3 : aD = 1
 ·rw [if_pos c3] at H
  have cN := beq_iff_eq.mpr c3
  have cO := bne_eq_false_iff_eq.mpr c3
  clear c3
  obtain ⟨b0,bi⟩ : ∃ y_ : List Int,y_ = (([an] : List Int)) := ⟨_,rfl⟩
  replace H : ((posting_Or.f k am b0).bind fun aR => (some (aR,ao,mx au an))) = some (r1,r2,r3) := by first|(rw [bi];with_reducible exact H)|(have cf := (Option.bind_some _ _).symm.trans H;rw [bi];with_reducible exact cf)|(have cf := (Option.bind_some _ _).symm.trans H;with_reducible exact cf)|with_reducible exact H|(rw [bi];exact H)|exact H
  have cb := aK bi
  clear bi
  replace H := Option.bind_eq_some_iff.mp H
  obtain ⟨aR,de,H⟩ := H
  have A4 := aK de
  clear de
  obtain ⟨cg,bJ⟩ : ∃ j_ : Int,(mx au an) = j_ := ⟨_,rfl⟩
  replace H : (some (aR,ao,cg)) = some (r1,r2,r3) := by first|(rw [bJ] at H;exact H)|(simp only [bJ] at H ⊢;exact H)
  (try rw [bJ] at A4)
  have df : (if au < an then an else au) = cg := bJ
  simp only [Option.some.injEq,Prod.mk.injEq] at H
  obtain ⟨rfl,rfl,rfl⟩ := H
  obtain ⟨cP,cQ,dW⟩ := Kd.R_slice ae.out
  subst dW
  obtain ⟨ck,cl,dX⟩ := Kd.R_slice af.out
  subst dX
  go_enter Tryz.func25,Tryz.ntmps25
  go_wp2_with (first|((with_reducible refine gate_dst (N := 2) rfl ?_);refine box_event ?hg (N := 2) ?hd (cs := #[.slice cP am.length cQ,.slice ck ao.length cl,.int .i64 au]) (t := 46) ?hr ?_;(case hd => rfl);(case hg => rfl);(case hr => first|(go_simp;done)|(go_simp;rfl));intro aj hg w8 hbox hb;replace ae := aK (Kd.R_below (rM ae.out) hb);replace af := aK (Kd.R_below (rM af.out) hb);replace ah := aK (Kd.V_below (Kd.V_elderB (vM ah.out) aj (Nat.le_of_eq hg.symm)) hb);have aa := aK (hbox);have aW := aK ((by rw [hg];exact (by first|exact HK.out.1|exact (show Kept w _ (fun k_ => ac k_ ∨ ad k_) from kG HK.out).1) : w.heap.size ≤ aj));have bK := Ge.mk aW.out;replace HK := aK (Kept.below (S := (fun k_ => ac k_ ∨ ad k_)) (kG HK.out) hb);have aX := aK ((by rw [hg];exact (below_size (bM HB.out)) : w0.heap.size ≤ aj));have bL := Ge.mk aX.out;replace HB := aK (below_step (bM HB.out) hb);clear hb hbox hg)|((with_reducible refine gate_dst (N := 3) rfl ?_);refine box_event ?hg (N := 3) ?hd (cs := #[.int .i64 aS,.int .i64 aD,.int .i64 an,.slice aH ax.length aI,.slice aP aA.length aQ,.slice aT aJ.length aU]) (t := 30) ?hr ?_;(case hd => rfl);(case hg => rfl);(case hr => first|(go_simp;done)|(go_simp;rfl));intro al hg w9 hbox hb;replace ae := aK (Kd.R_below (rM ae.out) hb);replace af := aK (Kd.R_below (rM af.out) hb);replace ah := aK (Kd.V_below (Kd.V_elderB (vM ah.out) al (Nat.le_of_eq hg.symm)) hb);have ab := aK (hbox);have aY := aK ((by rw [hg];exact (by first|exact HK.out.1|exact (show Kept w _ (fun k_ => ac k_ ∨ ad k_) from kG HK.out).1) : w.heap.size ≤ al));have bN := Ge.mk aY.out;replace HK := aK (Kept.below (S := (fun k_ => ac k_ ∨ ad k_)) (kG HK.out) hb);have aZ := aK ((by rw [hg];exact (below_size (bG HB.out)) : w0.heap.size ≤ al));have bO := Ge.mk aZ.out;replace HB := aK (below_step (bG HB.out) hb);have ap := aK (nbL aa.out hg);have aq := aK (nbR aa.out hg);replace aa := aK (blk_below (kM aa.out) hb);clear hb hbox hg)|((with_reducible refine gate_dst (N := 4) rfl ?_);refine box_event ?hg (N := 4) ?hd (cs := #[.slice none 0 0,.slice none 0 0,.int .i64 0]) (t := 46) ?hr ?_;(case hd => rfl);(case hg => rfl);(case hr => first|(go_simp;done)|(go_simp;rfl));intro ai hg d7 hbox hb;replace ae := aK (Kd.R_below (rM ae.out) hb);replace af := aK (Kd.R_below (rM af.out) hb);replace ah := aK (Kd.V_below (Kd.V_elderB (vM ah.out) ai (Nat.le_of_eq hg.symm)) hb);have ag := aK (hbox);have a0 := aK ((by rw [hg];exact (by first|exact HK.out.1|exact (show Kept w _ (fun k_ => ac k_ ∨ ad k_) from kG HK.out).1) : w.heap.size ≤ ai));have bP := Ge.mk a0.out;replace HK := aK (Kept.below (S := (fun k_ => ac k_ ∨ ad k_)) (kG HK.out) hb);have a1 := aK ((by rw [hg];exact (below_size (bG HB.out)) : w0.heap.size ≤ ai));have bQ := Ge.mk a1.out;replace HB := aK (below_step (bG HB.out) hb);have ar := aK (nbL aa.out hg);have ak := aK (nbR aa.out hg);replace aa := aK (blk_below (kM aa.out) hb);have av := aK (nbL ab.out hg);have aw := aK (nbR ab.out hg);replace ab := aK (blk_below (kM ab.out) hb);clear hb hbox hg;have dg := aq.out;have dh := ap.out;have di := av.out;have dj := aw.out;obtain ⟨_,_,_,_,_,_,_,_,_,_,_,_⟩ := bk6_ ab.out;have dk := ar.out;have dl := ak.out;obtain ⟨_,_,_,_,_,_⟩ := bk3_ aa.out)|((with_reducible refine gate_dst (N := 13) rfl ?_);refine Kd.R_lit (Kd.int .i64) _ 3 ?hg (N := 13) ?hd (xs := ([an] : List Int)) (inner := [.int .i64 an]) (ok := fun _ => True) (okp := fun _ => True) ?hr ?hp (fun _ hk => hk) trivial (Below.refl _ _) (Nat.le_refl _) (by simp) ?_;(case hd => rfl);(case hg => rfl);(case hr => first|(go_simp;done)|(go_simp;rfl));(case hp => exact (Reps.one (show Kd.M (Kd.int .i64) _ _ _ an [.int .i64 an] from rfl) (Reps.none _ _)));intro dY d8 bj hb hg_ hnew_;clear hg_ hnew_;(first|rw [← cb.out] at bj|(simp only [Int.reduceToNat] at bj;rw [← cb.out] at bj));replace ah := aK (Kd.V_elder' (vM ah.out) (Kd.R_base bj) hb);have bR := aK (Kd.R_lower (Kd.R_new' (Kd.R_new' (Kd.R_newM (M := fun k_ => ((ac k_ ∨ ad k_) ∨ w.heap.size ≤ k_)) bj (by first|exact HK.out.1|exact (show Kept w _ (fun k_ => ac k_ ∨ ad k_) from kG HK.out).1) (fun k_ h_ => .inr h_)) (Kd.R_lt (rM ae.out))) (Kd.R_lt (rM af.out))) (below_size (bG HB.out)));replace ae := aK (Kd.R_elder' (rM ae.out) (Kd.R_base bj) hb);replace af := aK (Kd.R_elder' (rM af.out) (Kd.R_base bj) hb);replace aa := aK (blk_below (kM aa.out) hb);replace ab := aK (blk_below (kM ab.out) hb);replace ag := aK (blk_below (kM ag.out) hb);replace HK := aK (Kept.below (S := (fun k_ => ac k_ ∨ ad k_)) (kG HK.out) hb);replace HB := aK (below_step (bG HB.out) hb);clear hb bj;obtain ⟨cm,cn,cR⟩ := Kd.R_slice bR.out;subst cR)|((with_reducible refine gate_callee (f := 54) rfl ?_);refine gL 14 Tryz.func54 #[.slice cP am.length cQ,.slice cm b0.length cn] ?_;(with_reducible refine (posting_Or.calls k (fun k_ => some k_ = (.slice cP am.length cQ : Value).ownBlock) _ _ am (fun k_ => some k_ = (.slice cm b0.length cn : Value).ownBlock) _ _ b0 aR _ ?aL ?aM A4.out).mono ?_);(case aL => exact Kd.R_V (Kd.R_tight rfl (Kd.R_types (Kd.R_types (Kd.R_types (ae.out) aa.out (by decide)) ab.out (by decide)) ag.out (by decide))));(case aM => exact Kd.R_V (Kd.R_tight rfl (Kd.R_types (Kd.R_types (Kd.R_types (bR.out) aa.out (by decide)) ab.out (by decide)) ag.out (by decide))));rintro e d9 ⟨dZ,rfl,aG,hb⟩;refine ⟨_,rfl,?_⟩;replace ah := aK (Kd.V_elder' (vM ah.out) (Kd.R_base aG) hb);have cc := aK (Kd.R_lower (Kd.R_new' (Kd.R_new' (Kd.R_new' (Kd.R_newM (M := fun k_ => ((ac k_ ∨ ad k_) ∨ w.heap.size ≤ k_)) (Kd.R_mono (ok' := fun k_ => True) aG (fun _ hk_ => trivial)) (by first|exact HK.out.1|exact (show Kept w _ (fun k_ => ac k_ ∨ ad k_) from kG HK.out).1) (fun k_ h_ => .inr h_)) (Kd.R_lt (rM ae.out))) (Kd.R_lt (rM af.out))) (Kd.R_lt (rM bR.out))) (below_size (bG HB.out)));replace ae := aK (Kd.R_elder' (rM ae.out) (Kd.R_base aG) hb);replace af := aK (Kd.R_elder' (rM af.out) (Kd.R_base aG) hb);replace aa := aK (blk_below (kM aa.out) hb);replace ab := aK (blk_below (kM ab.out) hb);replace ag := aK (blk_below (kM ag.out) hb);replace HK := aK (Kept.below (S := (fun k_ => ac k_ ∨ ad k_)) (kG HK.out) hb);replace HB := aK (below_step (bG HB.out) hb);(try clear hb);(try clear hk);(try clear aG);obtain ⟨bp,bq,cS⟩ := Kd.R_slice cc.out;subst cS;obtain ⟨_,_,_,_,_,_⟩ := bk3_ aa.out;obtain ⟨_,_,_,_,_,_,_,_,_,_,_,_⟩ := bk6_ ab.out;obtain ⟨_,_,_,_,_,_⟩ := bk3_ ag.out))
  refine bodyPost_ret (results_cell_row rfl _ _ ai 46 #[.slice bp aR.length bq,.slice ck ao.length cl,.int .i64 cg] (0,0) _ rfl (by refine kO ?_;refine blk_put (cs := #[.slice bp aR.length bq,.slice ck ao.length cl,.int .i64 0]) ?_ 2 _ rfl;refine kO ?_;refine blk_put (cs := #[.slice bp aR.length bq,.slice none 0 0,.int .i64 0]) ?_ 1 _ rfl;refine kO ?_;refine blk_put (cs := #[.slice none 0 0,.slice none 0 0,.int .i64 0]) ?_ 0 _ rfl;refine kO ?_;refine blk_far ?_ ak.out _;refine kO ?_;refine blk_far ?_ ak.out _;refine kO ?_;exact ag.out) Tryz.underlying46 rfl (by kernel_rfl)) rfl ?_
  exact ⟨_,_,by first|rfl|(simp [errW_none,errW_some] <;> rfl)|(simp only [← bJ];first|rfl|(simp [errW_none,errW_some] <;> rfl))|(simp [*,errW_none,errW_some] <;> rfl),by (with_reducible repeat (first|apply Kd.R_alloc|apply Kd.R_drewN|apply Kd.R_drew));exact Kd.R_mono (Kd.R_far (p := ⟨ai,2,none⟩) (Kd.R_far (p := ⟨ai,1,none⟩) (Kd.R_far (p := ⟨ai,0,none⟩) (Kd.R_far (p := ⟨aj,2,none⟩) (Kd.R_far (p := ⟨aj,0,none⟩) (Kd.R_types (Kd.R_types cc.out aa.out (by decide)) ag.out (by decide)) (fun _ hk => hk.1.2) (.slice bp aR.length bq)) (fun _ hk => hk.1.2) (.int .i64 cg)) (fun _ hk => hk.2) (.slice bp aR.length bq)) (fun _ hk => hk.2) (.slice ck ao.length cl)) (fun _ hk => hk.2) (.int .i64 cg)) (fun _ hk => ⟨hk.1.1.1.1.1.1,hk.1.1.1.2⟩),by (with_reducible repeat (first|apply Kd.R_alloc|apply Kd.R_drewN|apply Kd.R_drew));exact Kd.R_mono (Kd.R_far (p := ⟨ai,2,none⟩) (Kd.R_far (p := ⟨ai,1,none⟩) (Kd.R_far (p := ⟨ai,0,none⟩) (Kd.R_far (p := ⟨aj,2,none⟩) (Kd.R_far (p := ⟨aj,0,none⟩) (Kd.R_types (Kd.R_types af.out aa.out (by decide)) ag.out (by decide)) (fun _ hk => hk.1.2) (.slice bp aR.length bq)) (fun _ hk => hk.1.2) (.int .i64 cg)) (fun _ hk => hk.2) (.slice bp aR.length bq)) (fun _ hk => hk.2) (.slice ck ao.length cl)) (fun _ hk => hk.2) (.int .i64 cg)) (fun _ hk => ⟨hk.1.1.1.1.1,hk.1.1.2⟩),bG HB.out,kG HK.out⟩
 ·rw [if_neg c3] at H
  have cN := beq_eq_false_iff_ne.mpr c3
  have cO := bne_iff_ne.mpr c3
  by_cases ch : aD = 2
  ·rw [if_pos ch] at H
   have co := beq_iff_eq.mpr ch
   have cp := bne_eq_false_iff_eq.mpr ch
   clear ch
   replace H := Option.bind_eq_some_iff.mp H
   obtain ⟨a2,cq,H⟩ := H
   have dm := aK cq
   clear cq
   obtain ⟨br,bk⟩ : ∃ j_ : Int,(mx au an) = j_ := ⟨_,rfl⟩
   replace H : (some (am,a2,br)) = some (r1,r2,r3) := by first|(rw [bk] at H;exact H)|(simp only [bk] at H ⊢;exact H)
   (try rw [bk] at dm)
   have cT : (if au < an then an else au) = br := bk
   simp only [Option.some.injEq,Prod.mk.injEq] at H
   obtain ⟨rfl,rfl,rfl⟩ := H
   obtain ⟨bs,bu,cU⟩ := Kd.R_slice ae.out
   subst cU
   obtain ⟨b1,b2,cV⟩ := Kd.R_slice af.out
   subst cV
   go_enter Tryz.func25,Tryz.ntmps25
   go_wp2_with (first|((with_reducible refine gate_dst (N := 2) rfl ?_);refine box_event ?hg (N := 2) ?hd (cs := #[.slice bs am.length bu,.slice b1 ao.length b2,.int .i64 au]) (t := 46) ?hr ?_;(case hd => rfl);(case hg => rfl);(case hr => first|(go_simp;done)|(go_simp;rfl));intro aj hg ea hbox hb;replace ae := aK (Kd.R_below (rM ae.out) hb);replace af := aK (Kd.R_below (rM af.out) hb);replace ah := aK (Kd.V_below (Kd.V_elderB (vM ah.out) aj (Nat.le_of_eq hg.symm)) hb);have aa := aK (hbox);have aW := aK ((by rw [hg];exact (by first|exact HK.out.1|exact (show Kept w _ (fun k_ => ac k_ ∨ ad k_) from kG HK.out).1) : w.heap.size ≤ aj));have bK := Ge.mk aW.out;replace HK := aK (Kept.below (S := (fun k_ => ac k_ ∨ ad k_)) (kG HK.out) hb);have aX := aK ((by rw [hg];exact (below_size (bM HB.out)) : w0.heap.size ≤ aj));have bL := Ge.mk aX.out;replace HB := aK (below_step (bM HB.out) hb);clear hb hbox hg)|((with_reducible refine gate_dst (N := 3) rfl ?_);refine box_event ?hg (N := 3) ?hd (cs := #[.int .i64 aS,.int .i64 aD,.int .i64 an,.slice aH ax.length aI,.slice aP aA.length aQ,.slice aT aJ.length aU]) (t := 30) ?hr ?_;(case hd => rfl);(case hg => rfl);(case hr => first|(go_simp;done)|(go_simp;rfl));intro al hg eb hbox hb;replace ae := aK (Kd.R_below (rM ae.out) hb);replace af := aK (Kd.R_below (rM af.out) hb);replace ah := aK (Kd.V_below (Kd.V_elderB (vM ah.out) al (Nat.le_of_eq hg.symm)) hb);have ab := aK (hbox);have aY := aK ((by rw [hg];exact (by first|exact HK.out.1|exact (show Kept w _ (fun k_ => ac k_ ∨ ad k_) from kG HK.out).1) : w.heap.size ≤ al));have bN := Ge.mk aY.out;replace HK := aK (Kept.below (S := (fun k_ => ac k_ ∨ ad k_)) (kG HK.out) hb);have aZ := aK ((by rw [hg];exact (below_size (bG HB.out)) : w0.heap.size ≤ al));have bO := Ge.mk aZ.out;replace HB := aK (below_step (bG HB.out) hb);have ap := aK (nbL aa.out hg);have aq := aK (nbR aa.out hg);replace aa := aK (blk_below (kM aa.out) hb);clear hb hbox hg)|((with_reducible refine gate_dst (N := 4) rfl ?_);refine box_event ?hg (N := 4) ?hd (cs := #[.slice none 0 0,.slice none 0 0,.int .i64 0]) (t := 46) ?hr ?_;(case hd => rfl);(case hg => rfl);(case hr => first|(go_simp;done)|(go_simp;rfl));intro ai hg ec hbox hb;replace ae := aK (Kd.R_below (rM ae.out) hb);replace af := aK (Kd.R_below (rM af.out) hb);replace ah := aK (Kd.V_below (Kd.V_elderB (vM ah.out) ai (Nat.le_of_eq hg.symm)) hb);have ag := aK (hbox);have a0 := aK ((by rw [hg];exact (by first|exact HK.out.1|exact (show Kept w _ (fun k_ => ac k_ ∨ ad k_) from kG HK.out).1) : w.heap.size ≤ ai));have bP := Ge.mk a0.out;replace HK := aK (Kept.below (S := (fun k_ => ac k_ ∨ ad k_)) (kG HK.out) hb);have a1 := aK ((by rw [hg];exact (below_size (bG HB.out)) : w0.heap.size ≤ ai));have bQ := Ge.mk a1.out;replace HB := aK (below_step (bG HB.out) hb);have ar := aK (nbL aa.out hg);have ak := aK (nbR aa.out hg);replace aa := aK (blk_below (kM aa.out) hb);have av := aK (nbL ab.out hg);have aw := aK (nbR ab.out hg);replace ab := aK (blk_below (kM ab.out) hb);clear hb hbox hg;have dn := aq.out;have dp := ap.out;have dq := av.out;have dr := aw.out;obtain ⟨_,_,_,_,_,_,_,_,_,_,_,_⟩ := bk6_ ab.out;have dt := ar.out;have du := ak.out;obtain ⟨_,_,_,_,_,_⟩ := bk3_ aa.out)|((with_reducible refine gate_callee (f := 54) rfl ?_);refine gL 22 Tryz.func54 #[.slice b1 ao.length b2,.slice aH ax.length aI] ?_;(with_reducible refine (posting_Or.calls k (fun k_ => some k_ = (.slice b1 ao.length b2 : Value).ownBlock) _ _ ao (fun k_ => ((((((ac k_ ∨ ad k_ ∨ bh k_) ∨ w.heap.size ≤ k_) ∧ (some k_ ≠ (.slice bs am.length bu : Value).ownBlock ∧ some k_ ≠ (.slice b1 ao.length b2 : Value).ownBlock)) ∧ k_ ≠ aj) ∧ k_ ≠ al) ∧ k_ ≠ ai)) _ _ ax a2 _ ?aL ?aM dm.out).mono ?_);(case aL => exact Kd.R_V (Kd.R_tight rfl (Kd.R_types (Kd.R_types (Kd.R_types (af.out) aa.out (by decide)) ab.out (by decide)) ag.out (by decide))));(case aM => exact ah.out);rintro e ed ⟨d0,rfl,aG,hb⟩;refine ⟨_,rfl,?_⟩;replace ah := aK (Kd.V_elder' (vM ah.out) (Kd.R_base aG) hb);have cd := aK (Kd.R_lower (Kd.R_new' (Kd.R_new' (Kd.R_newM (M := fun k_ => ((ac k_ ∨ ad k_) ∨ w.heap.size ≤ k_)) (Kd.R_mono (ok' := fun k_ => True) aG (fun _ hk_ => trivial)) (by first|exact HK.out.1|exact (show Kept w _ (fun k_ => ac k_ ∨ ad k_) from kG HK.out).1) (fun k_ h_ => .inr h_)) (Kd.R_lt (rM ae.out))) (Kd.R_lt (rM af.out))) (below_size (bG HB.out)));replace ae := aK (Kd.R_elder' (rM ae.out) (Kd.R_base aG) hb);replace af := aK (Kd.R_elder' (rM af.out) (Kd.R_base aG) hb);replace aa := aK (blk_below (kM aa.out) hb);replace ab := aK (blk_below (kM ab.out) hb);replace ag := aK (blk_below (kM ag.out) hb);replace HK := aK (Kept.below (S := (fun k_ => ac k_ ∨ ad k_)) (kG HK.out) hb);replace HB := aK (below_step (bG HB.out) hb);(try clear hb);(try clear hk);(try clear aG);obtain ⟨bD,bE,cW⟩ := Kd.R_slice cd.out;subst cW;obtain ⟨_,_,_,_,_,_⟩ := bk3_ aa.out;obtain ⟨_,_,_,_,_,_,_,_,_,_,_,_⟩ := bk6_ ab.out;obtain ⟨_,_,_,_,_,_⟩ := bk3_ ag.out))
   refine bodyPost_ret (results_cell_row rfl _ _ ai 46 #[.slice bs am.length bu,.slice bD a2.length bE,.int .i64 br] (0,0) _ rfl (by refine kO ?_;refine blk_put (cs := #[.slice bs am.length bu,.slice bD a2.length bE,.int .i64 0]) ?_ 2 _ rfl;refine kO ?_;refine blk_put (cs := #[.slice bs am.length bu,.slice none 0 0,.int .i64 0]) ?_ 1 _ rfl;refine kO ?_;refine blk_put (cs := #[.slice none 0 0,.slice none 0 0,.int .i64 0]) ?_ 0 _ rfl;refine kO ?_;refine blk_far ?_ ak.out _;refine kO ?_;refine blk_far ?_ ak.out _;refine kO ?_;exact ag.out) Tryz.underlying46 rfl (by kernel_rfl)) rfl ?_
   exact ⟨_,_,by first|rfl|(simp [errW_none,errW_some] <;> rfl)|(simp only [← bk];first|rfl|(simp [errW_none,errW_some] <;> rfl))|(simp [*,errW_none,errW_some] <;> rfl),by (with_reducible repeat (first|apply Kd.R_alloc|apply Kd.R_drewN|apply Kd.R_drew));exact Kd.R_mono (Kd.R_far (p := ⟨ai,2,none⟩) (Kd.R_far (p := ⟨ai,1,none⟩) (Kd.R_far (p := ⟨ai,0,none⟩) (Kd.R_far (p := ⟨aj,2,none⟩) (Kd.R_far (p := ⟨aj,1,none⟩) (Kd.R_types (Kd.R_types ae.out aa.out (by decide)) ag.out (by decide)) (fun _ hk => hk.1.2) (.slice bD a2.length bE)) (fun _ hk => hk.1.2) (.int .i64 br)) (fun _ hk => hk.2) (.slice bs am.length bu)) (fun _ hk => hk.2) (.slice bD a2.length bE)) (fun _ hk => hk.2) (.int .i64 br)) (fun _ hk => ⟨hk.1.1.1.1,hk.1.1.2⟩),by (with_reducible repeat (first|apply Kd.R_alloc|apply Kd.R_drewN|apply Kd.R_drew));exact Kd.R_mono (Kd.R_far (p := ⟨ai,2,none⟩) (Kd.R_far (p := ⟨ai,1,none⟩) (Kd.R_far (p := ⟨ai,0,none⟩) (Kd.R_far (p := ⟨aj,2,none⟩) (Kd.R_far (p := ⟨aj,1,none⟩) (Kd.R_types (Kd.R_types cd.out aa.out (by decide)) ag.out (by decide)) (fun _ hk => hk.1.2) (.slice bD a2.length bE)) (fun _ hk => hk.1.2) (.int .i64 br)) (fun _ hk => hk.2) (.slice bs am.length bu)) (fun _ hk => hk.2) (.slice bD a2.length bE)) (fun _ hk => hk.2) (.int .i64 br)) (fun _ hk => ⟨hk.1.1.1.1.1,hk.1.1.1.2⟩),bG HB.out,kG HK.out⟩
  ·rw [if_neg ch] at H
   have co := beq_eq_false_iff_ne.mpr ch
   have cp := bne_iff_ne.mpr ch
   by_cases ci : aD = 3
   ·rw [if_pos ci] at H
    have cr := beq_iff_eq.mpr ci
    have ct := bne_eq_false_iff_eq.mpr ci
    clear ci
    replace H := Option.bind_eq_some_iff.mp H
    obtain ⟨a3,cu,H⟩ := H
    have cX := aK cu
    clear cu
    obtain ⟨bF,bm⟩ : ∃ y_ : List Int,y_ = (([an] : List Int)) := ⟨_,rfl⟩
    replace H : ((posting_Or.f k a3 bF).bind fun aV => (some (aV,([] : List Int),mx au an))) = some (r1,r2,r3) := by first|(rw [bm];with_reducible exact H)|(have cf := (Option.bind_some _ _).symm.trans H;rw [bm];with_reducible exact cf)|(have cf := (Option.bind_some _ _).symm.trans H;with_reducible exact cf)|with_reducible exact H|(rw [bm];exact H)|exact H
    have bx := aK bm
    clear bm
    replace H := Option.bind_eq_some_iff.mp H
    obtain ⟨aV,cv,H⟩ := H
    have dv := aK cv
    clear cv
    obtain ⟨bS,a4⟩ : ∃ j_ : Int,(mx au an) = j_ := ⟨_,rfl⟩
    replace H : (some (aV,([] : List Int),bS)) = some (r1,r2,r3) := by first|(rw [a4] at H;exact H)|(simp only [a4] at H ⊢;exact H)
    (try rw [a4] at cX)
    (try rw [a4] at dv)
    have cY : (if au < an then an else au) = bS := a4
    simp only [Option.some.injEq,Prod.mk.injEq] at H
    obtain ⟨rfl,rfl,rfl⟩ := H
    obtain ⟨aB,aC,cZ⟩ := Kd.R_slice ae.out
    subst cZ
    obtain ⟨aE,aF,c0⟩ := Kd.R_slice af.out
    subst c0
    go_enter Tryz.func25,Tryz.ntmps25
    try go_wp2_with (first|((with_reducible refine gate_dst (N := 2) rfl ?_);refine box_event ?hg (N := 2) ?hd (cs := #[.slice aB am.length aC,.slice aE ao.length aF,.int .i64 au]) (t := 46) ?hr ?_;(case hd => rfl);(case hg => rfl);(case hr => first|(go_simp;done)|(go_simp;rfl));intro aj hg ee hbox hb;replace ae := aK (Kd.R_below (rM ae.out) hb);replace af := aK (Kd.R_below (rM af.out) hb);replace ah := aK (Kd.V_below (Kd.V_elderB (vM ah.out) aj (Nat.le_of_eq hg.symm)) hb);have aa := aK (hbox);have aW := aK ((by rw [hg];exact (by first|exact HK.out.1|exact (show Kept w _ (fun k_ => ac k_ ∨ ad k_) from kG HK.out).1) : w.heap.size ≤ aj));have bK := Ge.mk aW.out;replace HK := aK (Kept.below (S := (fun k_ => ac k_ ∨ ad k_)) (kG HK.out) hb);have aX := aK ((by rw [hg];exact (below_size (bM HB.out)) : w0.heap.size ≤ aj));have bL := Ge.mk aX.out;replace HB := aK (below_step (bM HB.out) hb);clear hb hbox hg)|((with_reducible refine gate_dst (N := 3) rfl ?_);refine box_event ?hg (N := 3) ?hd (cs := #[.int .i64 aS,.int .i64 aD,.int .i64 an,.slice aH ax.length aI,.slice aP aA.length aQ,.slice aT aJ.length aU]) (t := 30) ?hr ?_;(case hd => rfl);(case hg => rfl);(case hr => first|(go_simp;done)|(go_simp;rfl));intro al hg ef hbox hb;replace ae := aK (Kd.R_below (rM ae.out) hb);replace af := aK (Kd.R_below (rM af.out) hb);replace ah := aK (Kd.V_below (Kd.V_elderB (vM ah.out) al (Nat.le_of_eq hg.symm)) hb);have ab := aK (hbox);have aY := aK ((by rw [hg];exact (by first|exact HK.out.1|exact (show Kept w _ (fun k_ => ac k_ ∨ ad k_) from kG HK.out).1) : w.heap.size ≤ al));have bN := Ge.mk aY.out;replace HK := aK (Kept.below (S := (fun k_ => ac k_ ∨ ad k_)) (kG HK.out) hb);have aZ := aK ((by rw [hg];exact (below_size (bG HB.out)) : w0.heap.size ≤ al));have bO := Ge.mk aZ.out;replace HB := aK (below_step (bG HB.out) hb);have ap := aK (nbL aa.out hg);have aq := aK (nbR aa.out hg);replace aa := aK (blk_below (kM aa.out) hb);clear hb hbox hg)|((with_reducible refine gate_dst (N := 4) rfl ?_);refine box_event ?hg (N := 4) ?hd (cs := #[.slice none 0 0,.slice none 0 0,.int .i64 0]) (t := 46) ?hr ?_;(case hd => rfl);(case hg => rfl);(case hr => first|(go_simp;done)|(go_simp;rfl));intro ai hg d1 hbox hb;replace ae := aK (Kd.R_below (rM ae.out) hb);replace af := aK (Kd.R_below (rM af.out) hb);replace ah := aK (Kd.V_below (Kd.V_elderB (vM ah.out) ai (Nat.le_of_eq hg.symm)) hb);have ag := aK (hbox);have a0 := aK ((by rw [hg];exact (by first|exact HK.out.1|exact (show Kept w _ (fun k_ => ac k_ ∨ ad k_) from kG HK.out).1) : w.heap.size ≤ ai));have bP := Ge.mk a0.out;replace HK := aK (Kept.below (S := (fun k_ => ac k_ ∨ ad k_)) (kG HK.out) hb);have a1 := aK ((by rw [hg];exact (below_size (bG HB.out)) : w0.heap.size ≤ ai));have bQ := Ge.mk a1.out;replace HB := aK (below_step (bG HB.out) hb);have ar := aK (nbL aa.out hg);have ak := aK (nbR aa.out hg);replace aa := aK (blk_below (kM aa.out) hb);have av := aK (nbL ab.out hg);have aw := aK (nbR ab.out hg);replace ab := aK (blk_below (kM ab.out) hb);clear hb hbox hg;have dw := aq.out;have dx := ap.out;have dy := av.out;have dz := aw.out;obtain ⟨_,_,_,_,_,_,_,_,_,_,_,_⟩ := bk6_ ab.out))
    have a5 := aK (Kd.R_drew ae.out)
    have a6 := aK (Kd.R_drew af.out)
    have a7 := aK (Kd.V_drew ah.out)
    have a8 := aK (blk_drew aa.out)
    have a9 := aK (blk_drew ab.out)
    have ba := aK (blk_drew ag.out)
    have bb := aK (Kept.drew HK.out)
    have bc := aK (below_drew1 HB.out)
    clear ae
    clear af
    clear ah
    clear aa
    clear ab
    clear ag
    clear HK
    clear HB
    have ae := a5
    have af := a6
    have ah := a7
    have aa := a8
    have ab := a9
    have ag := ba
    have HK := bb
    have HB := bc
    clear a5 a6 a7 a8 a9 ba bb bc
    refine start_ (n := 11) (S := fun w' => w'.cell? ⟨aj,0,none⟩ = some (.slice aB am.length aC) ∧ w'.cell? ⟨aj,1,none⟩ = some (.slice aE ao.length aF) ∧ w'.cell? ⟨aj,2,none⟩ = some (.int .i64 au) ∧ w'.cell? ⟨al,0,none⟩ = some (.int .i64 aS) ∧ w'.cell? ⟨al,1,none⟩ = some (.int .i64 aD) ∧ w'.cell? ⟨al,2,none⟩ = some (.int .i64 an) ∧ w'.cell? ⟨al,3,none⟩ = some (.slice aH ax.length aI) ∧ w'.cell? ⟨al,4,none⟩ = some (.slice aP aA.length aQ) ∧ w'.cell? ⟨al,5,none⟩ = some (.slice aT aJ.length aU)) (ds := [10]) (bA 11 0) (by kernel_rfl) rfl rfl ⟨(blk_cell aa.out 0).trans rfl,(blk_cell aa.out 1).trans rfl,(blk_cell aa.out 2).trans rfl,(blk_cell ab.out 0).trans rfl,(blk_cell ab.out 1).trans rfl,(blk_cell ab.out 2).trans rfl,(blk_cell ab.out 3).trans rfl,(blk_cell ab.out 4).trans rfl,(blk_cell ab.out 5).trans rfl⟩ (fun hHeld => ?_);refine with_tabW manifest_state_after.tab7 manifest_state_after.bits7 (fun HT_ HW_ => ?_)
    generalize d1.drew = w54 at ae af ah aa ab ag HK HB hHeld ⊢
    refine pure_ (i := 0) (N := some 26) (v := ?_) (a' := ?_) (bA 11 1) rfl rfl (any_of HT_.out (by kernel_rfl)) (fun _ _ _ h => h) (Or.inl ⟨by rfl,?_⟩) ?_ ?_
    rotate_left
    ·intro w'
     go_simp
     with_reducible rfl
    rotate_left
    ·simp only [Act.put,z1_,z2_,z3_,i64_w,i32_w]
     rfl
    refine pure_ (i := 2) (N := some 28) (v := ?_) (a' := ?_) (bA 11 5) rfl rfl (any_of HT_.out (by kernel_rfl)) (fun _ _ _ h => h) (Or.inl ⟨by rfl,?_⟩) ?_ ?_
    rotate_left
    ·intro w'
     go_simp
     with_reducible rfl
    rotate_left
    ·simp only [Act.put,z1_,z2_,z3_,i64_w,i32_w]
     rfl
    refine pure_ (i := 5) (N := some 31) (v := ?_) (a' := ?_) (bA 11 37) rfl rfl (any_of HT_.out (by kernel_rfl)) (fun _ _ _ h => h) (Or.inl ⟨by rfl,?_⟩) ?_ ?_
    rotate_left
    ·intro w'
     go_simp
     with_reducible rfl
    rotate_left
    ·simp only [Act.put,z1_,z2_,z3_,i64_w,i32_w]
     rfl
    refine take_ (i := 1) (N := some 27) (v := ?_) (a' := ?_) (bA 11 39) rfl rfl (take_ofW HT_.out HW_.out (by kernel_rfl)) (fun _ _ _ h => h) (Or.inl ⟨by rfl,?_⟩) hHeld ?_ ?_
    rotate_left
    ·rintro w' ⟨s0,s1,s2,s3,s4,s5,s6,s7,s8⟩
     go_simp
     with_reducible rfl
    rotate_left
    ·simp only [Act.put,z1_,z2_,z3_,i64_w,i32_w]
     rfl
    refine take_ (i := 3) (N := some 29) (v := ?_) (a' := ?_) (bA 11 47) rfl rfl (take_ofW HT_.out HW_.out (by kernel_rfl)) (fun _ _ _ h => h) (Or.inl ⟨by rfl,?_⟩) hHeld ?_ ?_
    rotate_left
    ·rintro w' ⟨s0,s1,s2,s3,s4,s5,s6,s7,s8⟩
     go_simp
     with_reducible rfl
    rotate_left
    ·simp only [Act.put,z1_,z2_,z3_,i64_w,i32_w]
     rfl
    refine take_ (i := 6) (N := some 32) (v := ?_) (a' := ?_) (bA 11 111) rfl rfl (take_ofW HT_.out HW_.out (by kernel_rfl)) (fun _ _ _ h => h) (Or.inl ⟨by rfl,?_⟩) hHeld ?_ ?_
    rotate_left
    ·rintro w' ⟨s0,s1,s2,s3,s4,s5,s6,s7,s8⟩
     go_simp
     with_reducible rfl
    rotate_left
    ·simp only [Act.put,z1_,z2_,z3_,i64_w,i32_w]
     rfl
    refine join_ (σ := Value × Value) 3 (bA 11 255) (fun s_ => [(30,s_.1),(33,s_.2)]) (fun s_ w' => (w'.cell? ⟨aj,0,none⟩ = some (.slice aB am.length aC) ∧ w'.cell? ⟨aj,1,none⟩ = some (.slice aE ao.length aF) ∧ w'.cell? ⟨aj,2,none⟩ = some (.int .i64 au) ∧ w'.cell? ⟨al,0,none⟩ = some (.int .i64 aS) ∧ w'.cell? ⟨al,1,none⟩ = some (.int .i64 aD) ∧ w'.cell? ⟨al,2,none⟩ = some (.int .i64 an) ∧ w'.cell? ⟨al,3,none⟩ = some (.slice aH ax.length aI) ∧ w'.cell? ⟨al,4,none⟩ = some (.slice aP aA.length aQ) ∧ w'.cell? ⟨al,5,none⟩ = some (.slice aT aJ.length aU)) ∧ (Kd.R (Kd.int .i64) 3 w' w0.heap.size (fun k_ => ((ac k_ ∨ ad k_) ∨ w.heap.size ≤ k_) ∧ some k_ ≠ (.slice aE ao.length aF : Value).ownBlock ∧ some k_ ≠ (s_.1 : Value).ownBlock ∧ some k_ ≠ (s_.2 : Value).ownBlock) (.slice aB am.length aC) am) ∧ (Kd.R (Kd.int .i64) 3 w' w0.heap.size (fun k_ => ((ac k_ ∨ ad k_) ∨ w.heap.size ≤ k_) ∧ some k_ ≠ (.slice aB am.length aC : Value).ownBlock ∧ some k_ ≠ (s_.1 : Value).ownBlock ∧ some k_ ≠ (s_.2 : Value).ownBlock) (.slice aE ao.length aF) ao) ∧ (Kd.R (Kd.int .i64) 3 w' w0.heap.size (fun k_ => ((ac k_ ∨ ad k_) ∨ w.heap.size ≤ k_) ∧ some k_ ≠ (.slice aB am.length aC : Value).ownBlock ∧ some k_ ≠ (.slice aE ao.length aF : Value).ownBlock ∧ some k_ ≠ (s_.2 : Value).ownBlock) s_.1 a3) ∧ (Kd.V (Kd.int .i64) 3 w' w0.heap.size (fun k_ => ((ac k_ ∨ ad k_ ∨ bh k_) ∨ w.heap.size ≤ k_) ∧ some k_ ≠ (.slice aB am.length aC : Value).ownBlock ∧ some k_ ≠ (.slice aE ao.length aF : Value).ownBlock ∧ some k_ ≠ (s_.1 : Value).ownBlock ∧ some k_ ≠ (s_.2 : Value).ownBlock ∧ k_ ≠ aj ∧ k_ ≠ al ∧ k_ ≠ ai) (.slice aH ax.length aI) ax) ∧ (Kd.R (Kd.int .i64) 3 w' w0.heap.size (fun k_ => ((ac k_ ∨ ad k_) ∨ w.heap.size ≤ k_) ∧ some k_ ≠ (.slice aB am.length aC : Value).ownBlock ∧ some k_ ≠ (.slice aE ao.length aF : Value).ownBlock ∧ some k_ ≠ (s_.1 : Value).ownBlock) s_.2 bF) ∧ (w'.heap[aj]? = some (.cells #[.slice aB am.length aC,.slice aE ao.length aF,.int .i64 au] 46 (0,0))) ∧ (w'.heap[al]? = some (.cells #[.int .i64 aS,.int .i64 aD,.int .i64 an,.slice aH ax.length aI,.slice aP aA.length aQ,.slice aT aJ.length aU] 30 (0,0))) ∧ (w'.heap[ai]? = some (.cells #[.slice none 0 0,.slice none 0 0,.int .i64 0] 46 (0,0))) ∧ (Kept w w' (fun k_ => ac k_ ∨ ad k_)) ∧ (Below w0.heap.size w0 w')) ?_ ?_
    rotate_left
    ·intro hCont
     refine two_ (i := 4) (j := 7) (Ni := some 30) (Nj := some 33) (bA 11 127) (bA 11 239) rfl rfl rfl rfl (two_of HT_.out (by kernel_rfl)) (by decide) (by decide) (fun K hK => ?_) (fun K hK => ?_)
     ·skip
      refine goes_ Tryz.func55 (by kernel_rfl) rfl #[.slice aB am.length aC,.slice aP aA.length aQ] (by rfl) rfl rfl (by (try simp only [z4_,z5_,z6_]);first|done|rfl|(simp only [z7_,z8_];rfl)) ?_
      with_reducible refine (posting_Minus.calls _ _ am _ _ aA a3 _ ?aL ?aM ?bT ?bU cX.out).mono ?_
      (case aL => exact cM (Kd.R_reads' ae.out).2.2)
      (case aM => exact (Kd.R_reads' ae.out).2.1)
      (case bT => exact Kd.C_kept_now b9.out (kG HK.out))
      (case bU => exact ca.out)
      rintro e d2 ⟨bd,rfl,aG,hb⟩
      refine ⟨_,rfl,?_⟩
      have a5 := aK (Kd.R_elder' (rM ae.out) (Kd.R_base aG) hb)
      have a6 := aK (Kd.R_elder' (rM af.out) (Kd.R_base aG) hb)
      have a7 := aK (Kd.V_elder' (vM ah.out) (Kd.R_base aG) hb)
      have a8 := aK (Kd.R_lower (Kd.R_new' (Kd.R_new' (Kd.R_newM (M := fun k_ => ((ac k_ ∨ ad k_) ∨ w.heap.size ≤ k_)) aG (by first|exact HK.out.1|exact (show Kept w _ (fun k_ => ac k_ ∨ ad k_) from kG HK.out).1) (fun k_ h_ => .inr h_)) (Kd.R_lt (rM ae.out))) (Kd.R_lt (rM af.out))) (below_size (bG HB.out)))
      have a9 := aK (blk_below (kM aa.out) hb)
      have ba := aK (blk_below (kM ab.out) hb)
      have bb := aK (blk_below (kM ag.out) hb)
      have bc := aK (Kept.below (S := (fun k_ => ac k_ ∨ ad k_)) (kG HK.out) hb)
      have bn := aK (below_step (bG HB.out) hb)
      clear ae
      clear af
      clear ah
      clear aa
      clear ab
      clear ag
      clear HK
      clear HB
      have ae := a5
      have af := a6
      have ah := a7
      have ay := a8
      have aa := a9
      have ab := ba
      have ag := bb
      have HK := bc
      have HB := bn
      clear a5 a6 a7 a8 a9 ba bb bc bn
      (try clear hb)
      (try clear hk)
      (try clear aG)
      refine hK.out _ _ ⟨(blk_cell aa.out 0).trans rfl,(blk_cell aa.out 1).trans rfl,(blk_cell aa.out 2).trans rfl,(blk_cell ab.out 0).trans rfl,(blk_cell ab.out 1).trans rfl,(blk_cell ab.out 2).trans rfl,(blk_cell ab.out 3).trans rfl,(blk_cell ab.out 4).trans rfl,(blk_cell ab.out 5).trans rfl⟩ (fun hHeld => ?_)
      clear hK K
      refine norm_ (a' := ?_) ?_ ?_
      rotate_left
      ·show Act.put _ (some 30) _ = _
       simp only [Act.put,z1_,z2_,z3_,i64_w,i32_w]
       rfl
      refine one_ (i := 7) (N := some 33) (bA 11 255) rfl rfl (one_of HT_.out (by kernel_rfl)) (by decide) (fun K hK => ?_)
      refine Kd.R_lit_step (Kd.int .i64) _ 3 ?hg (N := 33) ?hd (xs := ([an] : List Int)) (inner := [.int .i64 an]) (ok := fun _ => True) (okp := fun _ => True) ?hr ?hp (fun _ hk => hk) trivial (Below.refl _ _) (Nat.le_refl _) (by simp) ?_;(case hd => rfl);(case hg => rfl);(case hr => first|(go_simp;done)|(go_simp;rfl));(case hp => exact (Reps.one (show Kd.M (Kd.int .i64) _ _ _ an [.int .i64 an] from rfl) (Reps.none _ _)))
      intro be eg bf hb hg_ hnew_
      clear hg_ hnew_
      (first|rw [← bx.out] at bf|(simp only [Int.reduceToNat] at bf;rw [← bx.out] at bf))
      have a5 := aK (Kd.R_elder' (rM ae.out) (Kd.R_base bf) hb)
      have a6 := aK (Kd.R_elder' (rM af.out) (Kd.R_base bf) hb)
      have a7 := aK (Kd.V_elder' (vM ah.out) (Kd.R_base bf) hb)
      have a8 := aK (Kd.R_elder' (rM ay.out) (Kd.R_base bf) hb)
      have a9 := aK (Kd.R_lower (Kd.R_new' (Kd.R_new' (Kd.R_new' (Kd.R_newM (M := fun k_ => ((ac k_ ∨ ad k_) ∨ w.heap.size ≤ k_)) bf (by first|exact HK.out.1|exact (show Kept w _ (fun k_ => ac k_ ∨ ad k_) from kG HK.out).1) (fun k_ h_ => .inr h_)) (Kd.R_lt (rM ae.out))) (Kd.R_lt (rM af.out))) (Kd.R_lt (rM ay.out))) (below_size (bG HB.out)))
      have ba := aK (blk_below (kM aa.out) hb)
      have bb := aK (blk_below (kM ab.out) hb)
      have bc := aK (blk_below (kM ag.out) hb)
      have bn := aK (Kept.below (S := (fun k_ => ac k_ ∨ ad k_)) (kG HK.out) hb)
      have bV := aK (below_step (bG HB.out) hb)
      clear ae
      clear af
      clear ah
      clear ay
      clear aa
      clear ab
      clear ag
      clear HK
      clear HB
      have ae := a5
      have af := a6
      have ah := a7
      have ay := a8
      have az := a9
      have aa := ba
      have ab := bb
      have ag := bc
      have HK := bn
      have HB := bV
      clear a5 a6 a7 a8 a9 ba bb bc bn bV
      clear hb bf
      refine hK.out _ _ ⟨(blk_cell aa.out 0).trans rfl,(blk_cell aa.out 1).trans rfl,(blk_cell aa.out 2).trans rfl,(blk_cell ab.out 0).trans rfl,(blk_cell ab.out 1).trans rfl,(blk_cell ab.out 2).trans rfl,(blk_cell ab.out 3).trans rfl,(blk_cell ab.out 4).trans rfl,(blk_cell ab.out 5).trans rfl⟩ (fun hHeld => ?_)
      clear hK K
      refine norm_ (a' := ?_) ?_ ?_
      rotate_left
      ·show Act.put _ (some 33) _ = _
       simp only [Act.put,z1_,z2_,z3_,i64_w,i32_w]
       rfl
      exact norm_ (by simp only [putAll,Act.put,z1_,z2_,z3_]) (hCont (bd,be) _ ⟨hHeld,(by refine rO ?_;exact Kd.R_mono ae.out (fun _ hk => ⟨hk.1.1.1,⟨hk.1.1.2,⟨hk.1.2,hk.2⟩⟩⟩)),(by refine rO ?_;exact Kd.R_mono af.out (fun _ hk => ⟨hk.1.1.1,⟨hk.1.1.2,⟨hk.1.2,hk.2⟩⟩⟩)),(by refine rO ?_;exact Kd.R_mono ay.out (fun _ hk => ⟨hk.1.1.1.1,⟨hk.1.1.2,⟨hk.1.2,hk.2⟩⟩⟩)),(by (with_reducible repeat (first|apply Kd.V_alloc|apply Kd.V_drewN|apply Kd.V_drew));exact Kd.V_mono ah.out (fun _ hk => ⟨hk.1.1.1.1.1.1,⟨hk.1.1.1.1.1.2.1,⟨hk.1.1.1.1.1.2.2,⟨hk.1.2,⟨hk.2,⟨hk.1.1.1.1.2,⟨hk.1.1.1.2,hk.1.1.2⟩⟩⟩⟩⟩⟩⟩)),(by refine rO ?_;exact Kd.R_mono az.out (fun _ hk => ⟨hk.1.1.1.1,⟨hk.1.1.2,⟨hk.1.2,hk.2⟩⟩⟩)),(kM aa.out),(kM ab.out),(kM ag.out),(kG HK.out),(bG HB.out)⟩)
     ·skip
      refine Kd.R_lit_step (Kd.int .i64) _ 3 ?hg (N := 33) ?hd (xs := ([an] : List Int)) (inner := [.int .i64 an]) (ok := fun _ => True) (okp := fun _ => True) ?hr ?hp (fun _ hk => hk) trivial (Below.refl _ _) (Nat.le_refl _) (by simp) ?_;(case hd => rfl);(case hg => rfl);(case hr => first|(go_simp;done)|(go_simp;rfl));(case hp => exact (Reps.one (show Kd.M (Kd.int .i64) _ _ _ an [.int .i64 an] from rfl) (Reps.none _ _)))
      intro be d2 bo hb hg_ hnew_
      clear hg_ hnew_
      (first|rw [← bx.out] at bo|(simp only [Int.reduceToNat] at bo;rw [← bx.out] at bo))
      have a5 := aK (Kd.R_elder' (rM ae.out) (Kd.R_base bo) hb)
      have a6 := aK (Kd.R_elder' (rM af.out) (Kd.R_base bo) hb)
      have a7 := aK (Kd.V_elder' (vM ah.out) (Kd.R_base bo) hb)
      have a8 := aK (Kd.R_lower (Kd.R_new' (Kd.R_new' (Kd.R_newM (M := fun k_ => ((ac k_ ∨ ad k_) ∨ w.heap.size ≤ k_)) bo (by first|exact HK.out.1|exact (show Kept w _ (fun k_ => ac k_ ∨ ad k_) from kG HK.out).1) (fun k_ h_ => .inr h_)) (Kd.R_lt (rM ae.out))) (Kd.R_lt (rM af.out))) (below_size (bG HB.out)))
      have a9 := aK (blk_below (kM aa.out) hb)
      have ba := aK (blk_below (kM ab.out) hb)
      have bb := aK (blk_below (kM ag.out) hb)
      have bc := aK (Kept.below (S := (fun k_ => ac k_ ∨ ad k_)) (kG HK.out) hb)
      have bn := aK (below_step (bG HB.out) hb)
      clear ae
      clear af
      clear ah
      clear aa
      clear ab
      clear ag
      clear HK
      clear HB
      have ae := a5
      have af := a6
      have ah := a7
      have az := a8
      have aa := a9
      have ab := ba
      have ag := bb
      have HK := bc
      have HB := bn
      clear a5 a6 a7 a8 a9 ba bb bc bn
      clear hb bo
      refine hK.out _ _ ⟨(blk_cell aa.out 0).trans rfl,(blk_cell aa.out 1).trans rfl,(blk_cell aa.out 2).trans rfl,(blk_cell ab.out 0).trans rfl,(blk_cell ab.out 1).trans rfl,(blk_cell ab.out 2).trans rfl,(blk_cell ab.out 3).trans rfl,(blk_cell ab.out 4).trans rfl,(blk_cell ab.out 5).trans rfl⟩ (fun hHeld => ?_)
      clear hK K
      refine norm_ (a' := ?_) ?_ ?_
      rotate_left
      ·show Act.put _ (some 33) _ = _
       simp only [Act.put,z1_,z2_,z3_,i64_w,i32_w]
       rfl
      refine one_ (i := 4) (N := some 30) (bA 11 255) rfl rfl (one_of HT_.out (by kernel_rfl)) (by decide) (fun K hK => ?_)
      refine goes_ Tryz.func55 (by kernel_rfl) rfl #[.slice aB am.length aC,.slice aP aA.length aQ] (by rfl) rfl rfl (by (try simp only [z4_,z5_,z6_]);first|done|rfl|(simp only [z7_,z8_];rfl)) ?_
      with_reducible refine (posting_Minus.calls _ _ am _ _ aA a3 _ ?aL ?aM ?bT ?bU cX.out).mono ?_
      (case aL => exact cM (Kd.R_reads' ae.out).2.2)
      (case aM => exact (Kd.R_reads' ae.out).2.1)
      (case bT => exact Kd.C_kept_now b9.out (kG HK.out))
      (case bU => exact ca.out)
      rintro e eh ⟨bd,rfl,aG,hb⟩
      refine ⟨_,rfl,?_⟩
      have a5 := aK (Kd.R_elder' (rM ae.out) (Kd.R_base aG) hb)
      have a6 := aK (Kd.R_elder' (rM af.out) (Kd.R_base aG) hb)
      have a7 := aK (Kd.V_elder' (vM ah.out) (Kd.R_base aG) hb)
      have a8 := aK (Kd.R_elder' (rM az.out) (Kd.R_base aG) hb)
      have a9 := aK (Kd.R_lower (Kd.R_new' (Kd.R_new' (Kd.R_new' (Kd.R_newM (M := fun k_ => ((ac k_ ∨ ad k_) ∨ w.heap.size ≤ k_)) aG (by first|exact HK.out.1|exact (show Kept w _ (fun k_ => ac k_ ∨ ad k_) from kG HK.out).1) (fun k_ h_ => .inr h_)) (Kd.R_lt (rM ae.out))) (Kd.R_lt (rM af.out))) (Kd.R_lt (rM az.out))) (below_size (bG HB.out)))
      have ba := aK (blk_below (kM aa.out) hb)
      have bb := aK (blk_below (kM ab.out) hb)
      have bc := aK (blk_below (kM ag.out) hb)
      have bn := aK (Kept.below (S := (fun k_ => ac k_ ∨ ad k_)) (kG HK.out) hb)
      have bV := aK (below_step (bG HB.out) hb)
      clear ae
      clear af
      clear ah
      clear az
      clear aa
      clear ab
      clear ag
      clear HK
      clear HB
      have ae := a5
      have af := a6
      have ah := a7
      have az := a8
      have ay := a9
      have aa := ba
      have ab := bb
      have ag := bc
      have HK := bn
      have HB := bV
      clear a5 a6 a7 a8 a9 ba bb bc bn bV
      (try clear hb)
      (try clear hk)
      (try clear aG)
      refine hK.out _ _ ⟨(blk_cell aa.out 0).trans rfl,(blk_cell aa.out 1).trans rfl,(blk_cell aa.out 2).trans rfl,(blk_cell ab.out 0).trans rfl,(blk_cell ab.out 1).trans rfl,(blk_cell ab.out 2).trans rfl,(blk_cell ab.out 3).trans rfl,(blk_cell ab.out 4).trans rfl,(blk_cell ab.out 5).trans rfl⟩ (fun hHeld => ?_)
      clear hK K
      refine norm_ (a' := ?_) ?_ ?_
      rotate_left
      ·show Act.put _ (some 30) _ = _
       simp only [Act.put,z1_,z2_,z3_,i64_w,i32_w]
       rfl
      exact norm_ (by simp only [putAll,Act.put,z1_,z2_,z3_]) (hCont (bd,be) _ ⟨hHeld,(by refine rO ?_;exact Kd.R_mono ae.out (fun _ hk => ⟨hk.1.1.1,⟨hk.1.1.2,⟨hk.2,hk.1.2⟩⟩⟩)),(by refine rO ?_;exact Kd.R_mono af.out (fun _ hk => ⟨hk.1.1.1,⟨hk.1.1.2,⟨hk.2,hk.1.2⟩⟩⟩)),(by refine rO ?_;exact Kd.R_mono ay.out (fun _ hk => ⟨hk.1.1.1.1,⟨hk.1.1.2,⟨hk.1.2,hk.2⟩⟩⟩)),(by (with_reducible repeat (first|apply Kd.V_alloc|apply Kd.V_drewN|apply Kd.V_drew));exact Kd.V_mono ah.out (fun _ hk => ⟨hk.1.1.1.1.1.1,⟨hk.1.1.1.1.1.2.1,⟨hk.1.1.1.1.1.2.2,⟨hk.2,⟨hk.1.2,⟨hk.1.1.1.1.2,⟨hk.1.1.1.2,hk.1.1.2⟩⟩⟩⟩⟩⟩⟩)),(by refine rO ?_;exact Kd.R_mono az.out (fun _ hk => ⟨hk.1.1.1.1,⟨hk.1.1.2,⟨hk.1.2,hk.2⟩⟩⟩)),(kM aa.out),(kM ab.out),(kM ag.out),(kG HK.out),(bG HB.out)⟩)
    rintro ⟨bd,be⟩ bg ⟨hS_,dB,dC,dD,dE,dF,dG,dH,dI,dJ,dK⟩
    have a5 : Aside0 (Kd.R (Kd.int .i64) 3 bg w0.heap.size (fun k_ => ((ac k_ ∨ ad k_) ∨ w.heap.size ≤ k_) ∧ some k_ ≠ (.slice aE ao.length aF : Value).ownBlock ∧ some k_ ≠ (bd : Value).ownBlock ∧ some k_ ≠ (be : Value).ownBlock) (.slice aB am.length aC) am) := ⟨dB⟩
    have a6 : Aside0 (Kd.R (Kd.int .i64) 3 bg w0.heap.size (fun k_ => ((ac k_ ∨ ad k_) ∨ w.heap.size ≤ k_) ∧ some k_ ≠ (.slice aB am.length aC : Value).ownBlock ∧ some k_ ≠ (bd : Value).ownBlock ∧ some k_ ≠ (be : Value).ownBlock) (.slice aE ao.length aF) ao) := ⟨dC⟩
    have a7 : Aside0 (Kd.R (Kd.int .i64) 3 bg w0.heap.size (fun k_ => ((ac k_ ∨ ad k_) ∨ w.heap.size ≤ k_) ∧ some k_ ≠ (.slice aB am.length aC : Value).ownBlock ∧ some k_ ≠ (.slice aE ao.length aF : Value).ownBlock ∧ some k_ ≠ (be : Value).ownBlock) bd a3) := ⟨dD⟩
    have a8 : Aside0 (Kd.V (Kd.int .i64) 3 bg w0.heap.size (fun k_ => ((ac k_ ∨ ad k_ ∨ bh k_) ∨ w.heap.size ≤ k_) ∧ some k_ ≠ (.slice aB am.length aC : Value).ownBlock ∧ some k_ ≠ (.slice aE ao.length aF : Value).ownBlock ∧ some k_ ≠ (bd : Value).ownBlock ∧ some k_ ≠ (be : Value).ownBlock ∧ k_ ≠ aj ∧ k_ ≠ al ∧ k_ ≠ ai) (.slice aH ax.length aI) ax) := ⟨dE⟩
    have a9 : Aside0 (Kd.R (Kd.int .i64) 3 bg w0.heap.size (fun k_ => ((ac k_ ∨ ad k_) ∨ w.heap.size ≤ k_) ∧ some k_ ≠ (.slice aB am.length aC : Value).ownBlock ∧ some k_ ≠ (.slice aE ao.length aF : Value).ownBlock ∧ some k_ ≠ (bd : Value).ownBlock) be bF) := ⟨dF⟩
    have ba : Aside0 (bg.heap[aj]? = some (.cells #[.slice aB am.length aC,.slice aE ao.length aF,.int .i64 au] 46 (0,0))) := ⟨dG⟩
    have bb : Aside0 (bg.heap[al]? = some (.cells #[.int .i64 aS,.int .i64 aD,.int .i64 an,.slice aH ax.length aI,.slice aP aA.length aQ,.slice aT aJ.length aU] 30 (0,0))) := ⟨dH⟩
    have bc : Aside0 (bg.heap[ai]? = some (.cells #[.slice none 0 0,.slice none 0 0,.int .i64 0] 46 (0,0))) := ⟨dI⟩
    have bn : Aside0 (Kept w bg (fun k_ => ac k_ ∨ ad k_)) := ⟨dJ⟩
    have bV : Aside0 (Below w0.heap.size w0 bg) := ⟨dK⟩
    clear ae
    clear af
    clear ah
    clear aa
    clear ab
    clear ag
    clear HK
    clear HB
    clear dB dC dD dE dF dG dH dI dJ dK
    have ae := a5
    have af := a6
    have ay := a7
    have ah := a8
    have az := a9
    have aa := ba
    have ab := bb
    have ag := bc
    have HK := bn
    have HB := bV
    clear a5 a6 a7 a8 a9 ba bb bc bn bV
    have hHeld : bg.cell? ⟨aj,0,none⟩ = some (.slice aB am.length aC) ∧ bg.cell? ⟨aj,1,none⟩ = some (.slice aE ao.length aF) ∧ bg.cell? ⟨aj,2,none⟩ = some (.int .i64 au) ∧ bg.cell? ⟨al,0,none⟩ = some (.int .i64 aS) ∧ bg.cell? ⟨al,1,none⟩ = some (.int .i64 aD) ∧ bg.cell? ⟨al,2,none⟩ = some (.int .i64 an) ∧ bg.cell? ⟨al,3,none⟩ = some (.slice aH ax.length aI) ∧ bg.cell? ⟨al,4,none⟩ = some (.slice aP aA.length aQ) ∧ bg.cell? ⟨al,5,none⟩ = some (.slice aT aJ.length aU) := hS_
    obtain ⟨cw,cx,cy⟩ := Kd.R_slice ay.out
    (first|subst cy|(injection cy with f1_ f2_ f3_;have cz := f1_.symm;have cA := f3_.symm;clear f1_ f2_ f3_;subst cz;subst cA))
    obtain ⟨cB,cC,cD⟩ := Kd.R_slice az.out
    (first|subst cD|(injection cD with f1_ f2_ f3_;have cz := f1_.symm;have cA := f3_.symm;clear f1_ f2_ f3_;subst cz;subst cA))
    refine norm_ (a' := ?_) ?_ ?_
    rotate_left
    ·simp only [putAll,Act.put,z1_,z2_,z3_]
     rfl
    refine one_ (i := 8) (N := some 34) (bA 11 511) rfl rfl (one_of HT_.out (by kernel_rfl)) (by decide) (fun K hK => ?_)
    refine goes_ Tryz.func54 (by kernel_rfl) rfl #[.slice cw a3.length cx,.slice cB bF.length cC] (by rfl) rfl rfl (by (try simp only [z4_,z5_,z6_]);first|done|rfl|(simp only [z7_,z8_];rfl)) ?_
    with_reducible refine (posting_Or.calls k (fun k_ => some k_ = (.slice cw a3.length cx : Value).ownBlock) _ _ a3 (fun k_ => some k_ = (.slice cB bF.length cC : Value).ownBlock) _ _ bF aV _ ?aL ?aM dv.out).mono ?_
    (case aL => exact Kd.R_V (Kd.R_tight rfl (Kd.R_types (Kd.R_types (Kd.R_types (ay.out) aa.out (by decide)) ab.out (by decide)) ag.out (by decide))))
    (case aM => exact Kd.R_V (Kd.R_tight rfl (Kd.R_types (Kd.R_types (Kd.R_types (az.out) aa.out (by decide)) ab.out (by decide)) ag.out (by decide))))
    rintro e d3 ⟨d4,rfl,aG,hb⟩
    refine ⟨_,rfl,?_⟩
    have a5 := aK (Kd.R_elder' (rM ae.out) (Kd.R_base aG) hb)
    have a6 := aK (Kd.R_elder' (rM af.out) (Kd.R_base aG) hb)
    have a7 := aK (Kd.V_elder' (vM ah.out) (Kd.R_base aG) hb)
    have a8 := aK (Kd.R_elder' (rM ay.out) (Kd.R_base aG) hb)
    have a9 := aK (Kd.R_elder' (rM az.out) (Kd.R_base aG) hb)
    have ba := aK (Kd.R_lower (Kd.R_new' (Kd.R_new' (Kd.R_new' (Kd.R_new' (Kd.R_newM (M := fun k_ => ((ac k_ ∨ ad k_) ∨ w.heap.size ≤ k_)) (Kd.R_mono (ok' := fun k_ => True) aG (fun _ hk_ => trivial)) (by first|exact HK.out.1|exact (show Kept w _ (fun k_ => ac k_ ∨ ad k_) from kG HK.out).1) (fun k_ h_ => .inr h_)) (Kd.R_lt (rM ae.out))) (Kd.R_lt (rM af.out))) (Kd.R_lt (rM ay.out))) (Kd.R_lt (rM az.out))) (below_size (bG HB.out)))
    have bb := aK (blk_below (kM aa.out) hb)
    have bc := aK (blk_below (kM ab.out) hb)
    have bn := aK (blk_below (kM ag.out) hb)
    have bV := aK (Kept.below (S := (fun k_ => ac k_ ∨ ad k_)) (kG HK.out) hb)
    have cE := aK (below_step (bG HB.out) hb)
    clear ae
    clear af
    clear ah
    clear ay
    clear az
    clear aa
    clear ab
    clear ag
    clear HK
    clear HB
    have ae := a5
    have af := a6
    have ah := a7
    have ay := a8
    have az := a9
    have ce := ba
    have aa := bb
    have ab := bc
    have ag := bn
    have HK := bV
    have HB := cE
    clear a5 a6 a7 a8 a9 ba bb bc bn bV cE
    (try clear hb)
    (try clear hk)
    (try clear aG)
    obtain ⟨bW,bX,cF⟩ := Kd.R_slice ce.out
    (first|subst cF|(injection cF with f1_ f2_ f3_;have cz := f1_.symm;have cA := f3_.symm;clear f1_ f2_ f3_;subst cz;subst cA))
    refine hK.out _ _ ⟨(blk_cell aa.out 0).trans rfl,(blk_cell aa.out 1).trans rfl,(blk_cell aa.out 2).trans rfl,(blk_cell ab.out 0).trans rfl,(blk_cell ab.out 1).trans rfl,(blk_cell ab.out 2).trans rfl,(blk_cell ab.out 3).trans rfl,(blk_cell ab.out 4).trans rfl,(blk_cell ab.out 5).trans rfl⟩ (fun hHeld => ?_)
    clear hK K
    refine norm_ (a' := ?_) ?_ ?_
    rotate_left
    ·show Act.put _ (some 34) _ = _
     simp only [Act.put,z1_,z2_,z3_,i64_w,i32_w]
     rfl
    refine pure_ (i := 9) (N := some 35) (v := ?_) (a' := ?_) (bA 11 1023) rfl rfl (any_of HT_.out (by kernel_rfl)) (fun _ _ _ h => h) (Or.inl ⟨by rfl,?_⟩) ?_ ?_
    rotate_left
    ·intro w'
     go_simp
     with_reducible rfl
    rotate_left
    ·simp only [Act.put,z1_,z2_,z3_,i64_w,i32_w]
     rfl
    refine last_ (i := 10) (N := none) (bA 11 2047) rfl rfl (one_of HT_.out (by kernel_rfl)) (by decide) (fun K hK => ?_)
    have d5 : d3.cell? ⟨aj,0,none⟩ = some (.slice aB am.length aC) := (blk_cell aa.out 0).trans rfl
    have dL := blk_frozen aa.out 0
    have cG := aq.out
    have cH := ak.out
    have cI := ap.out
    have cJ := ar.out
    refine skip_ (w1 := ?_) (by rfl) rfl ?_ ?_
    rotate_left
    ·go_simp
     rfl
    refine hK.out _ _ ?_
    clear hK K
    refine done_ (done_of HT_.out (by kernel_rfl)) ?_
    have dM := ar.out
    have dN := ak.out
    obtain ⟨_,_,_,_,_,_⟩ := bk3_ aa.out
    obtain ⟨_,_,_,_,_,_,_,_,_,_,_,_⟩ := bk6_ ab.out
    obtain ⟨_,_,_,_,_,_⟩ := bk3_ ag.out
    try go_wp2
    refine bodyPost_ret (results_cell_row rfl _ _ ai 46 #[.slice bW aV.length bX,.slice none 0 0,.int .i64 bS] (0,0) _ rfl (by refine kO ?_;refine blk_put (cs := #[.slice bW aV.length bX,.slice none 0 0,.int .i64 0]) ?_ 2 _ rfl;refine kO ?_;refine blk_put (cs := #[.slice bW aV.length bX,.slice none 0 0,.int .i64 0]) ?_ 1 _ rfl;refine kO ?_;refine blk_put (cs := #[.slice none 0 0,.slice none 0 0,.int .i64 0]) ?_ 0 _ rfl;refine kO ?_;refine blk_far ?_ ak.out _;refine kO ?_;refine blk_far ?_ ak.out _;refine kO ?_;refine blk_far ?_ ak.out _;refine kO ?_;exact ag.out) Tryz.underlying46 rfl (by kernel_rfl)) rfl ?_
    exact ⟨_,_,by first|rfl|(simp [errW_none,errW_some] <;> rfl)|(simp only [← a4];first|rfl|(simp [errW_none,errW_some] <;> rfl))|(simp [*,errW_none,errW_some] <;> rfl),by (with_reducible repeat (first|apply Kd.R_alloc|apply Kd.R_drewN|apply Kd.R_drew));exact Kd.R_mono (Kd.R_far (p := ⟨ai,2,none⟩) (Kd.R_far (p := ⟨ai,1,none⟩) (Kd.R_far (p := ⟨ai,0,none⟩) (Kd.R_far (p := ⟨aj,2,none⟩) (Kd.R_far (p := ⟨aj,1,none⟩) (Kd.R_far (p := ⟨aj,0,none⟩) (Kd.R_types (Kd.R_types ce.out aa.out (by decide)) ag.out (by decide)) (fun _ hk => hk.1.2) (.slice bW aV.length bX)) (fun _ hk => hk.1.2) (.slice none 0 0)) (fun _ hk => hk.1.2) (.int .i64 bS)) (fun _ hk => hk.2) (.slice bW aV.length bX)) (fun _ hk => hk.2) (.slice none 0 0)) (fun _ hk => hk.2) (.int .i64 bS)) (fun _ hk => ⟨hk.1.1.1.1.1.1.1,(by simp [Value.ownBlock])⟩),by first|exact Kd.R_nil _ _ _ _ _|exact Kd.N_nil _ _ _ _ _|exact Kd.V_nil _ _ _ _ _|exact Kd.Q_nil _ _ _ _ _|exact Kd.S_nil _ _ _ _ _,bG HB.out,kG HK.out⟩
   ·rw [if_neg ci] at H
    have cr := beq_eq_false_iff_ne.mpr ci
    have ct := bne_iff_ne.mpr ci
    obtain ⟨bv,bz⟩ : ∃ j_ : Int,(mx au an) = j_ := ⟨_,rfl⟩
    replace H : (some (am,ao,bv)) = some (r1,r2,r3) := by first|(rw [bz] at H;exact H)|(simp only [bz] at H ⊢;exact H)
    have c1 : (if au < an then an else au) = bv := bz
    simp only [Option.some.injEq,Prod.mk.injEq] at H
    obtain ⟨rfl,rfl,rfl⟩ := H
    obtain ⟨bH,bI,da⟩ := Kd.R_slice ae.out
    subst da
    obtain ⟨bY,bZ,db⟩ := Kd.R_slice af.out
    subst db
    go_enter Tryz.func25,Tryz.ntmps25
    go_wp2_with (first|((with_reducible refine gate_dst (N := 2) rfl ?_);refine box_event ?hg (N := 2) ?hd (cs := #[.slice bH am.length bI,.slice bY ao.length bZ,.int .i64 au]) (t := 46) ?hr ?_;(case hd => rfl);(case hg => rfl);(case hr => first|(go_simp;done)|(go_simp;rfl));intro aj hg ei hbox hb;replace ae := aK (Kd.R_below (rM ae.out) hb);replace af := aK (Kd.R_below (rM af.out) hb);have aa := aK (hbox);have aW := aK ((by rw [hg];exact (by first|exact HK.out.1|exact (show Kept w _ (fun k_ => ac k_ ∨ ad k_) from kG HK.out).1) : w.heap.size ≤ aj));have bK := Ge.mk aW.out;replace HK := aK (Kept.below (S := (fun k_ => ac k_ ∨ ad k_)) (kG HK.out) hb);have aX := aK ((by rw [hg];exact (below_size (bM HB.out)) : w0.heap.size ≤ aj));have bL := Ge.mk aX.out;replace HB := aK (below_step (bM HB.out) hb);clear hb hbox hg)|((with_reducible refine gate_dst (N := 3) rfl ?_);refine box_event ?hg (N := 3) ?hd (cs := #[.int .i64 aS,.int .i64 aD,.int .i64 an,.slice aH ax.length aI,.slice aP aA.length aQ,.slice aT aJ.length aU]) (t := 30) ?hr ?_;(case hd => rfl);(case hg => rfl);(case hr => first|(go_simp;done)|(go_simp;rfl));intro al hg ej hbox hb;replace ae := aK (Kd.R_below (rM ae.out) hb);replace af := aK (Kd.R_below (rM af.out) hb);have ab := aK (hbox);have aY := aK ((by rw [hg];exact (by first|exact HK.out.1|exact (show Kept w _ (fun k_ => ac k_ ∨ ad k_) from kG HK.out).1) : w.heap.size ≤ al));have bN := Ge.mk aY.out;replace HK := aK (Kept.below (S := (fun k_ => ac k_ ∨ ad k_)) (kG HK.out) hb);have aZ := aK ((by rw [hg];exact (below_size (bG HB.out)) : w0.heap.size ≤ al));have bO := Ge.mk aZ.out;replace HB := aK (below_step (bG HB.out) hb);have ap := aK (nbL aa.out hg);have aq := aK (nbR aa.out hg);replace aa := aK (blk_below (kM aa.out) hb);clear hb hbox hg)|((with_reducible refine gate_dst (N := 4) rfl ?_);refine box_event ?hg (N := 4) ?hd (cs := #[.slice none 0 0,.slice none 0 0,.int .i64 0]) (t := 46) ?hr ?_;(case hd => rfl);(case hg => rfl);(case hr => first|(go_simp;done)|(go_simp;rfl));intro ai hg ek hbox hb;replace ae := aK (Kd.R_below (rM ae.out) hb);replace af := aK (Kd.R_below (rM af.out) hb);have ag := aK (hbox);have a0 := aK ((by rw [hg];exact (by first|exact HK.out.1|exact (show Kept w _ (fun k_ => ac k_ ∨ ad k_) from kG HK.out).1) : w.heap.size ≤ ai));have bP := Ge.mk a0.out;replace HK := aK (Kept.below (S := (fun k_ => ac k_ ∨ ad k_)) (kG HK.out) hb);have a1 := aK ((by rw [hg];exact (below_size (bG HB.out)) : w0.heap.size ≤ ai));have bQ := Ge.mk a1.out;replace HB := aK (below_step (bG HB.out) hb);have ar := aK (nbL aa.out hg);have ak := aK (nbR aa.out hg);replace aa := aK (blk_below (kM aa.out) hb);have av := aK (nbL ab.out hg);have aw := aK (nbR ab.out hg);replace ab := aK (blk_below (kM ab.out) hb);clear hb hbox hg;have dO := aq.out;have dP := ap.out;have dQ := av.out;have dR := aw.out;obtain ⟨_,_,_,_,_,_,_,_,_,_,_,_⟩ := bk6_ ab.out;have dS := ar.out;have dT := ak.out;obtain ⟨_,_,_,_,_,_⟩ := bk3_ aa.out;obtain ⟨_,_,_,_,_,_⟩ := bk3_ ag.out))
    refine bodyPost_ret (results_cell_row rfl _ _ ai 46 #[.slice bH am.length bI,.slice bY ao.length bZ,.int .i64 bv] (0,0) _ rfl (by refine kO ?_;refine blk_put (cs := #[.slice bH am.length bI,.slice bY ao.length bZ,.int .i64 0]) ?_ 2 _ rfl;refine kO ?_;refine blk_put (cs := #[.slice bH am.length bI,.slice none 0 0,.int .i64 0]) ?_ 1 _ rfl;refine kO ?_;refine blk_put (cs := #[.slice none 0 0,.slice none 0 0,.int .i64 0]) ?_ 0 _ rfl;refine kO ?_;refine blk_far ?_ ak.out _;refine kO ?_;exact ag.out) Tryz.underlying46 rfl (by kernel_rfl)) rfl ?_
    exact ⟨_,_,by first|rfl|(simp [errW_none,errW_some] <;> rfl)|(simp only [← bz];first|rfl|(simp [errW_none,errW_some] <;> rfl))|(simp [*,errW_none,errW_some] <;> rfl),by (with_reducible repeat (first|apply Kd.R_alloc|apply Kd.R_drewN|apply Kd.R_drew));exact Kd.R_mono (Kd.R_far (p := ⟨ai,2,none⟩) (Kd.R_far (p := ⟨ai,1,none⟩) (Kd.R_far (p := ⟨ai,0,none⟩) (Kd.R_far (p := ⟨aj,2,none⟩) (Kd.R_types (Kd.R_types ae.out aa.out (by decide)) ag.out (by decide)) (fun _ hk => hk.1.2) (.int .i64 bv)) (fun _ hk => hk.2) (.slice bH am.length bI)) (fun _ hk => hk.2) (.slice bY ao.length bZ)) (fun _ hk => hk.2) (.int .i64 bv)) (fun _ hk => ⟨hk.1.1.1,hk.1.1.2⟩),by (with_reducible repeat (first|apply Kd.R_alloc|apply Kd.R_drewN|apply Kd.R_drew));exact Kd.R_mono (Kd.R_far (p := ⟨ai,2,none⟩) (Kd.R_far (p := ⟨ai,1,none⟩) (Kd.R_far (p := ⟨ai,0,none⟩) (Kd.R_far (p := ⟨aj,2,none⟩) (Kd.R_types (Kd.R_types af.out aa.out (by decide)) ag.out (by decide)) (fun _ hk => hk.1.2) (.int .i64 bv)) (fun _ hk => hk.2) (.slice bH am.length bI)) (fun _ hk => hk.2) (.slice bY ao.length bZ)) (fun _ hk => hk.2) (.int .i64 bv)) (fun _ hk => ⟨hk.1.1.1,hk.1.1.2⟩),bG HB.out,kG HK.out⟩
def manifest_Right.l0 : Nat → List (S30) → Int → Int → List Int → List Int → Int → Option (Int)
|0,_,_,_,_,_,_ => none
|k + 1,x8,x9,aa,ab,ac,ad => if aa < x9 then (if 0 ≤ aa then (if aa < (x8.length : Int) then ((manifest_check.f k ab ac ad aa ((rd_T30 x8 aa).f0) ((rd_T30 x8 aa).f1) ((rd_T30 x8 aa).f2) ((rd_T30 x8 aa).f3) ((rd_T30 x8 aa).f4) ((rd_T30 x8 aa).f5)).bind fun af => (if af = 0 then ((manifest_state_after.f k ab ac ad ((rd_T30 x8 aa).f0) ((rd_T30 x8 aa).f1) ((rd_T30 x8 aa).f2) ((rd_T30 x8 aa).f3) ((rd_T30 x8 aa).f4) ((rd_T30 x8 aa).f5)).bind fun ae => (manifest_Right.l0 k x8 x9 (wrap64 (aa + 1)) ae.1 ae.2.1 ae.2.2)) else (some af))) else (none)) else (none)) else (some 0)
def manifest_Right.f (k : Nat) (l0 : List (S30)) : Option (Int) := manifest_Right.l0 k l0 (l0.length : Int) 0 ([] : List Int) ([] : List Int) 0
theorem manifest_Right.mono_l : ∀ k, (∀ y0 y1 y2 y3 y4 y5, LeO (manifest_Right.l0 k y0 y1 y2 y3 y4 y5) (manifest_Right.l0 (k + 1) y0 y1 y2 y3 y4 y5))
|0 => fun _ _ _ _ _ _ r h => by simp [manifest_Right.l0] at h
|k + 1 => by
  have ih0 := manifest_Right.mono_l k
  ·intro y0 y1 y2 y3 y4 y5
   unfold manifest_Right.l0
   repeat' (with_reducible first|exact ih0 _ _ _ _ _ _|exact manifest_check.mono _ _ _ _ _ _ _ _ _ _ _|exact manifest_state_after.mono _ _ _ _ _ _ _ _ _ _|exact LeO.refl _|exact LeO.none _|refine LeO.ite ?_ ?_|refine LeO.bind ?_ (fun _ => ?_))
theorem manifest_Right.mono : ∀ a0 k, LeO (manifest_Right.f k a0) (manifest_Right.f (k + 1) a0) := by
 intro a0 k
 have ih0 := manifest_Right.mono_l k
 unfold manifest_Right.f
 repeat' (with_reducible first|exact ih0 _ _ _ _ _ _|exact manifest_check.mono _ _ _ _ _ _ _ _ _ _ _|exact manifest_state_after.mono _ _ _ _ _ _ _ _ _ _|exact LeO.refl _|exact LeO.none _|refine LeO.ite ?_ ?_|refine LeO.bind ?_ (fun _ => ?_))
theorem manifest_Right.calls (k : Nat) (A0 : Option Addr) (c0 : Nat) (l0 : List (S30)) (r : Int) (w : World) (bP : Kd.C k30 w A0 l0.length l0) (bQ : l0.length ≤ c0) (h : manifest_Right.f k l0 = some r) :
  Calls Tryz.prog 8 #[.slice A0 l0.length c0] w fun e w' => e = .returned (.int .i64 r) ∧ Below w.heap.size w w' := by
 have b3 := Tryz.underlying46
 have b4 := Tryz.underlying30
 have bR := aK bP
 have b8 := aK bQ
 clear bP bQ
 have HB := aK (Below.refl w.heap.size w)
 have H : (manifest_Right.l0 k l0 (l0.length : Int) 0 ([] : List Int) ([] : List Int) 0) = some r := h
 clear h
 have H' := aK H
 clear H
 go_enter Tryz.func8,Tryz.ntmps8
 go_wp2_with (first|((with_reducible refine gate_dst (N := 3) rfl ?_);refine box_event ?hg (N := 3) ?hd (cs := #[.slice none 0 0,.slice none 0 0,.int .i64 0]) (t := 46) ?hr ?_;(case hd => rfl);(case hg => rfl);(case hr => first|(go_simp;done)|(go_simp;rfl));intro aq hg w2 hbox hb;have ah := aK (hbox);have bs := aK ((by rw [hg];exact (below_size (bM HB.out)) : w.heap.size ≤ aq));have bS := Ge.mk bs.out;have be := aK ((by rw [hg];exact (below_size (bM HB.out)) : w.heap.size ≤ aq));have bT := Ge.mk be.out;replace HB := aK (below_step (bM HB.out) hb);clear hb hbox hg;obtain ⟨bh,bi,bj,bk,bm,bn⟩ := bk3_ ah.out))
 go_loopg [10] k (fun kq b5 w' => ∃ (aa : Int) (af : List Int) (ad : List Int) (ag : Int) (aG : Value) (aH : Value),b5 = .int .i64 aa ∧ Aside0 (manifest_Right.l0 kq l0 (l0.length : Int) aa af ad ag = some r) ∧ Aside0 (kq ≤ k) ∧ Aside0 (Kd.R (Kd.int .i64) 3 w' w.heap.size (fun k_ => some k_ ≠ (aH : Value).ownBlock) aG af) ∧ Aside0 (Kd.R (Kd.int .i64) 3 w' w.heap.size (fun k_ => some k_ ≠ (aG : Value).ownBlock) aH ad) ∧ Aside0 (w'.heap[aq]? = some (.cells #[aG,aH,.int .i64 ag] 46 (0,0))) ∧ Aside0 (Below w.heap.size w w'))
 case atStart => exact ⟨(0),(([] : List Int)),(([] : List Int)),(0),(.slice none 0 0),(.slice none 0 0),(by first|rfl|(simp;done)|(simp [*];done)),H',⟨Nat.le_refl _⟩,⟨by first|exact Kd.R_nil _ _ _ _ _|exact Kd.N_nil _ _ _ _ _|exact Kd.V_nil _ _ _ _ _|exact Kd.Q_nil _ _ _ _ _|exact Kd.S_nil _ _ _ _ _⟩,⟨by first|exact Kd.R_nil _ _ _ _ _|exact Kd.N_nil _ _ _ _ _|exact Kd.V_nil _ _ _ _ _|exact Kd.Q_nil _ _ _ _ _|exact Kd.S_nil _ _ _ _ _⟩,⟨by refine kO ?_;refine blk_put (cs := #[.slice none 0 0,.slice none 0 0,.int .i64 0]) ?_ 2 _ rfl;refine kO ?_;refine blk_put (cs := #[.slice none 0 0,.slice none 0 0,.int .i64 0]) ?_ 1 _ rfl;refine kO ?_;refine blk_put (cs := #[.slice none 0 0,.slice none 0 0,.int .i64 0]) ?_ 0 _ rfl;refine kO ?_;exact ah.out⟩,⟨bG HB.out⟩⟩
 case round =>
  clear H'
  try clear p2
  try clear bh
  try clear bi
  try clear bj
  try clear bk
  try clear bm
  try clear bn
  obtain ⟨aa,af,ad,ag,aG,aH,rfl,HA,bU,ab,ac,ah,HB⟩ := hrel
  cases gk with
 |zero => exact absurd HA.out (by simp [manifest_Right.l0])
 |succ k1 =>
   have H := HA.out
   clear HA
   simp only [manifest_Right.l0] at H
   by_cases c4 : aa < (l0.length : Int)
   ·rw [if_pos c4] at H
    have bC := decide_eq_true c4
    clear c4
    obtain ⟨c5,H⟩ := iS H
    have b6 := decide_eq_true c5
    clear c5
    obtain ⟨c6,H⟩ := iS H
    have b7 := decide_eq_true c6
    clear c6
    replace H := Option.bind_eq_some_iff.mp H
    obtain ⟨bo,bV,H⟩ := H
    have A7 := aK bV
    clear bV
    by_cases c8 : bo = 0
    ·rw [if_pos c8] at H
     have bD := beq_iff_eq.mpr c8
     have bE := bne_eq_false_iff_eq.mpr c8
     clear c8
     replace H := Option.bind_eq_some_iff.mp H
     obtain ⟨⟨aR,a3,a8⟩,bW,H⟩ := H
     replace H : (manifest_Right.l0 k1 l0 (l0.length : Int) (wrap64 (aa + 1)) aR a3 a8) = some r := H
     have A9 := aK bW
     clear bW
     have H' := aK H
     clear H
     have a4 : 0 ≤ (aa : Int) := dA
     have a5 : aa < (l0.length : Int) := dA
     obtain ⟨bu,aj,ak,al,am,ao,ap,bp,ar,au,av,aw,ax,ay,az,aA,aB,aC,aD,aE⟩ := at_T30 bR.out aa a4 a5
     cases bp
     replace ar := xM HB ar
     replace au := xM HB au
     replace av := xM HB av
     replace aw := xM HB aw
     replace ax := xM HB ax
     replace ay := xM HB ay
     have aI := aK aA
     have aJ := aK az
     clear aA az
     have aL := aK aC
     have aM := aK aB
     clear aC aB
     have aN := aK aE
     have aO := aK aD
     clear aE aD
     replace a4 := eq_true a4
     replace a5 := eq_true a5
     go_wp2_with (first|((with_reducible refine gate_dst (N := 5) rfl ?_);refine box_event ?hg (N := 5) ?hd (cs := #[.int .i64 0,.int .i64 0,.int .i64 0,.slice none 0 0,.slice none 0 0,.slice none 0 0]) (t := 30) ?hr ?_;(case hd => rfl);(case hg => rfl);(case hr => first|(go_simp;done)|(go_simp;rfl));intro ae hg b9 hbox hb;replace ab := aK (Kd.R_below (rM ab.out) hb);replace ac := aK (Kd.R_below (rM ac.out) hb);have an := aK (hbox);have a9 := aK ((by rw [hg];exact (below_size (bG HB.out)) : w.heap.size ≤ ae));have bv := Ge.mk a9.out;have a7 := aK ((by rw [hg];exact (below_size (bG HB.out)) : w.heap.size ≤ ae));have bx := Ge.mk a7.out;replace HB := aK (below_step (bG HB.out) hb);have ai := aK (nbL ah.out hg);have aF := aK (nbR ah.out hg);replace ah := aK (blk_below (kM ah.out) hb);clear hb hbox hg;have bX := aF.out;have bY := ai.out;obtain ⟨_,_,_,_,_,_,_,_,_,_,_,_⟩ := bk6_ an.out;obtain ⟨_,_,_,_,_,_⟩ := bk3_ ah.out;obtain ⟨a6,aS,bF⟩ := Kd.R_slice ab.out;subst bF;obtain ⟨aT,aQ,bH⟩ := Kd.R_slice ac.out;subst bH)|((with_reducible refine gate_callee (f := 24) rfl ?_);refine gL 18 Tryz.func24 #[.agg #[.slice a6 af.length aS,.slice aT ad.length aQ,.int .i64 ag],.int .i64 aa,.agg #[.int .i64 ((rd_T30 l0 aa).f0),.int .i64 ((rd_T30 l0 aa).f1),.int .i64 ((rd_T30 l0 aa).f2),.slice aj ((rd_T30 l0 aa).f3).length ak,.slice al ((rd_T30 l0 aa).f4).length am,.slice ao ((rd_T30 l0 aa).f5).length ap]] ?_;(with_reducible refine (manifest_check.calls k1 _ _ af _ _ ad ag aa ((rd_T30 l0 aa).f0) ((rd_T30 l0 aa).f1) ((rd_T30 l0 aa).f2) _ _ ((rd_T30 l0 aa).f3) _ _ ((rd_T30 l0 aa).f4) _ _ ((rd_T30 l0 aa).f5) bo _ ?aU ?aV ?aW ?aX ?aY ?aZ ?a0 ?a1 ?a2 ?aP A7.out).mono ?_);(case aU => refine (Kd.R_reads' (e := 3) (base := w.heap.size) (ok := fun k_ => some k_ ≠ (.slice aT ad.length aQ : Value).ownBlock) (n := af.length) (c := aS) ?_).2.2;exact (by (with_reducible repeat (first|apply Kd.R_alloc|apply Kd.R_drewN|apply Kd.R_drew));exact (Kd.R_mono (Kd.R_far (p := ⟨ae,5,none⟩) (Kd.R_far (p := ⟨ae,4,none⟩) (Kd.R_far (p := ⟨ae,3,none⟩) (Kd.R_far (p := ⟨ae,2,none⟩) (Kd.R_far (p := ⟨ae,1,none⟩) (Kd.R_far (p := ⟨ae,0,none⟩) (Kd.R_types ab.out an.out (by decide)) (fun _ hk => hk.2) (.int .i64 ((rd_T30 l0 aa).f0))) (fun _ hk => hk.2) (.int .i64 ((rd_T30 l0 aa).f1))) (fun _ hk => hk.2) (.int .i64 ((rd_T30 l0 aa).f2))) (fun _ hk => hk.2) (.slice aj ((rd_T30 l0 aa).f3).length ak)) (fun _ hk => hk.2) (.slice al ((rd_T30 l0 aa).f4).length am)) (fun _ hk => hk.2) (.slice ao ((rd_T30 l0 aa).f5).length ap)) (fun _ h_ => h_.1))));(case aV => exact (Kd.R_reads' ab.out).2.1);(case aW => refine (Kd.R_reads' (e := 3) (base := w.heap.size) (ok := fun k_ => some k_ ≠ (.slice a6 af.length aS : Value).ownBlock) (n := ad.length) (c := aQ) ?_).2.2;exact (by (with_reducible repeat (first|apply Kd.R_alloc|apply Kd.R_drewN|apply Kd.R_drew));exact (Kd.R_mono (Kd.R_far (p := ⟨ae,5,none⟩) (Kd.R_far (p := ⟨ae,4,none⟩) (Kd.R_far (p := ⟨ae,3,none⟩) (Kd.R_far (p := ⟨ae,2,none⟩) (Kd.R_far (p := ⟨ae,1,none⟩) (Kd.R_far (p := ⟨ae,0,none⟩) (Kd.R_types ac.out an.out (by decide)) (fun _ hk => hk.2) (.int .i64 ((rd_T30 l0 aa).f0))) (fun _ hk => hk.2) (.int .i64 ((rd_T30 l0 aa).f1))) (fun _ hk => hk.2) (.int .i64 ((rd_T30 l0 aa).f2))) (fun _ hk => hk.2) (.slice aj ((rd_T30 l0 aa).f3).length ak)) (fun _ hk => hk.2) (.slice al ((rd_T30 l0 aa).f4).length am)) (fun _ hk => hk.2) (.slice ao ((rd_T30 l0 aa).f5).length ap)) (fun _ h_ => h_.1))));(case aX => exact (Kd.R_reads' ac.out).2.1);(case aY => exact Kd.C_below aI.out (bG HB.out));(case aZ => exact aJ.out);(case a0 => exact Kd.C_below aL.out (bG HB.out));(case a1 => exact aM.out);(case a2 => exact Kd.C_below aN.out (bG HB.out));(case aP => exact aO.out);rintro e ca ⟨rfl,hb⟩;refine ⟨_,rfl,?_⟩;replace ab := aK (Kd.R_below (by (with_reducible repeat (first|apply Kd.R_alloc|apply Kd.R_drewN|apply Kd.R_drew));exact (Kd.R_mono (Kd.R_far (p := ⟨ae,5,none⟩) (Kd.R_far (p := ⟨ae,4,none⟩) (Kd.R_far (p := ⟨ae,3,none⟩) (Kd.R_far (p := ⟨ae,2,none⟩) (Kd.R_far (p := ⟨ae,1,none⟩) (Kd.R_far (p := ⟨ae,0,none⟩) (Kd.R_types ab.out an.out (by decide)) (fun _ hk => hk.2) (.int .i64 ((rd_T30 l0 aa).f0))) (fun _ hk => hk.2) (.int .i64 ((rd_T30 l0 aa).f1))) (fun _ hk => hk.2) (.int .i64 ((rd_T30 l0 aa).f2))) (fun _ hk => hk.2) (.slice aj ((rd_T30 l0 aa).f3).length ak)) (fun _ hk => hk.2) (.slice al ((rd_T30 l0 aa).f4).length am)) (fun _ hk => hk.2) (.slice ao ((rd_T30 l0 aa).f5).length ap)) (fun _ h_ => h_.1))) hb);replace ac := aK (Kd.R_below (by (with_reducible repeat (first|apply Kd.R_alloc|apply Kd.R_drewN|apply Kd.R_drew));exact (Kd.R_mono (Kd.R_far (p := ⟨ae,5,none⟩) (Kd.R_far (p := ⟨ae,4,none⟩) (Kd.R_far (p := ⟨ae,3,none⟩) (Kd.R_far (p := ⟨ae,2,none⟩) (Kd.R_far (p := ⟨ae,1,none⟩) (Kd.R_far (p := ⟨ae,0,none⟩) (Kd.R_types ac.out an.out (by decide)) (fun _ hk => hk.2) (.int .i64 ((rd_T30 l0 aa).f0))) (fun _ hk => hk.2) (.int .i64 ((rd_T30 l0 aa).f1))) (fun _ hk => hk.2) (.int .i64 ((rd_T30 l0 aa).f2))) (fun _ hk => hk.2) (.slice aj ((rd_T30 l0 aa).f3).length ak)) (fun _ hk => hk.2) (.slice al ((rd_T30 l0 aa).f4).length am)) (fun _ hk => hk.2) (.slice ao ((rd_T30 l0 aa).f5).length ap)) (fun _ h_ => h_.1))) hb);replace ah := aK (blk_below (g := aq) (o := .cells #[.slice a6 af.length aS,.slice aT ad.length aQ,.int .i64 ag] 46 (0,0)) (by refine kO ?_;refine blk_far ?_ ai.out _;refine kO ?_;refine blk_far ?_ ai.out _;refine kO ?_;refine blk_far ?_ ai.out _;refine kO ?_;refine blk_far ?_ ai.out _;refine kO ?_;refine blk_far ?_ ai.out _;refine kO ?_;refine blk_far ?_ ai.out _;refine kO ?_;exact ah.out) hb);replace an := aK (blk_below (g := ae) (o := .cells #[.int .i64 ((rd_T30 l0 aa).f0),.int .i64 ((rd_T30 l0 aa).f1),.int .i64 ((rd_T30 l0 aa).f2),.slice aj ((rd_T30 l0 aa).f3).length ak,.slice al ((rd_T30 l0 aa).f4).length am,.slice ao ((rd_T30 l0 aa).f5).length ap] 30 (0,0)) (by refine kO ?_;refine blk_put (cs := #[.int .i64 ((rd_T30 l0 aa).f0),.int .i64 ((rd_T30 l0 aa).f1),.int .i64 ((rd_T30 l0 aa).f2),.slice aj ((rd_T30 l0 aa).f3).length ak,.slice al ((rd_T30 l0 aa).f4).length am,.slice none 0 0]) ?_ 5 _ rfl;refine kO ?_;refine blk_put (cs := #[.int .i64 ((rd_T30 l0 aa).f0),.int .i64 ((rd_T30 l0 aa).f1),.int .i64 ((rd_T30 l0 aa).f2),.slice aj ((rd_T30 l0 aa).f3).length ak,.slice none 0 0,.slice none 0 0]) ?_ 4 _ rfl;refine kO ?_;refine blk_put (cs := #[.int .i64 ((rd_T30 l0 aa).f0),.int .i64 ((rd_T30 l0 aa).f1),.int .i64 ((rd_T30 l0 aa).f2),.slice none 0 0,.slice none 0 0,.slice none 0 0]) ?_ 3 _ rfl;refine kO ?_;refine blk_put (cs := #[.int .i64 ((rd_T30 l0 aa).f0),.int .i64 ((rd_T30 l0 aa).f1),.int .i64 0,.slice none 0 0,.slice none 0 0,.slice none 0 0]) ?_ 2 _ rfl;refine kO ?_;refine blk_put (cs := #[.int .i64 ((rd_T30 l0 aa).f0),.int .i64 0,.int .i64 0,.slice none 0 0,.slice none 0 0,.slice none 0 0]) ?_ 1 _ rfl;refine kO ?_;refine blk_put (cs := #[.int .i64 0,.int .i64 0,.int .i64 0,.slice none 0 0,.slice none 0 0,.slice none 0 0]) ?_ 0 _ rfl;refine kO ?_;exact an.out) hb);replace HB := aK (below_step (bG HB.out) hb);(try clear hb);(try clear hk);obtain ⟨_,_,_,_,_,_⟩ := bk3_ ah.out;obtain ⟨_,_,_,_,_,_,_,_,_,_,_,_⟩ := bk6_ an.out)|((with_reducible refine gate_callee (f := 25) rfl ?_);refine gL 24 Tryz.func25 #[.agg #[.slice a6 af.length aS,.slice aT ad.length aQ,.int .i64 ag],.agg #[.int .i64 ((rd_T30 l0 aa).f0),.int .i64 ((rd_T30 l0 aa).f1),.int .i64 ((rd_T30 l0 aa).f2),.slice aj ((rd_T30 l0 aa).f3).length ak,.slice al ((rd_T30 l0 aa).f4).length am,.slice ao ((rd_T30 l0 aa).f5).length ap]] ?_;(with_reducible refine (manifest_state_after.calls k1 (fun k_ => some k_ = (.slice a6 af.length aS : Value).ownBlock) (.slice a6 af.length aS) af (fun k_ => some k_ = (.slice aT ad.length aQ : Value).ownBlock) (.slice aT ad.length aQ) ad ag ((rd_T30 l0 aa).f0) ((rd_T30 l0 aa).f1) ((rd_T30 l0 aa).f2) (fun k_ => k_ < w.heap.size) _ _ ((rd_T30 l0 aa).f3) _ _ ((rd_T30 l0 aa).f4) _ _ ((rd_T30 l0 aa).f5) aR a3 a8 w _ ?aU ?aV ?aW ?aX ?aY ?aZ ?a0 ?a1 ?a2 ?aP A9.out).mono ?_);(case aU => repeat (first|(with_reducible first|exact HB.out|apply below_alloc|apply pw_below_drewN|apply below_drew1|refine below_set ?_ be.out|refine below_set ?_ a7.out)|exact HB.out));(case aV => exact Kd.R_tight rfl ab.out);(case aW => exact fun k_ e_ => (ab.out.1 k_ e_.symm));(case aX => exact Kd.R_tight rfl ac.out);(case aY => exact fun k_ e_ => (ac.out.1 k_ e_.symm));(case aZ => exact Kd.V_mono (Kd.V_mk aJ.out (Kd.F_below (Kd.C_F (Kd.heap_int .i64) aI.out) (bG HB.out))) (fun k_ hk_ => ⟨hk_,fun e_ => Nat.not_le.2 hk_ (Kd.R_base ab.out k_ e_.symm),fun e_ => Nat.not_le.2 hk_ (Kd.R_base ac.out k_ e_.symm)⟩));(case a0 => exact Kd.C_kept_came (Kd.heap_int .i64) aL.out (bG HB.out) (fun k_ hs_ => Or.elim hs_ (fun e_ => (fun e_ => Kd.R_base ab.out k_ e_.symm) e_) (fun e_ => (fun e_ => Kd.R_base ac.out k_ e_.symm) e_)));(case a1 => exact aM.out);(case a2 => exact Kd.C_kept_came Kd.heap_string aN.out (bG HB.out) (fun k_ hs_ => Or.elim hs_ (fun e_ => (fun e_ => Kd.R_base ab.out k_ e_.symm) e_) (fun e_ => (fun e_ => Kd.R_base ac.out k_ e_.symm) e_)));(case aP => exact aO.out);rintro e cb ⟨bI,bJ,rfl,bZ,b0,hb,hkp⟩;refine ⟨_,rfl,?_⟩;replace ah := aK (blk_kept (kM ah.out) hkp (fun hs_ => Or.elim hs_ (fun e_ => (fun e_ => (Kd.R_ne ab.out ah.out (by decide)) e_) e_) (fun e_ => (fun e_ => (Kd.R_ne ac.out ah.out (by decide)) e_) e_)));replace an := aK (blk_kept (kM an.out) hkp (fun hs_ => Or.elim hs_ (fun e_ => (fun e_ => (Kd.R_ne ab.out an.out (by decide)) e_) e_) (fun e_ => (fun e_ => (Kd.R_ne ac.out an.out (by decide)) e_) e_)));have bf := aK (Kd.R_mono (ok' := fun k_ => some k_ ≠ (bJ : Value).ownBlock) bZ (fun k_ hk_ => hk_.2));have bg := aK (Kd.R_mono (ok' := fun k_ => some k_ ≠ (bI : Value).ownBlock) b0 (fun k_ hk_ => hk_.2));replace HB := aK (hb);(try clear hb);(try clear hkp);(try clear bZ);(try clear b0);obtain ⟨ba,bb,bK⟩ := Kd.R_slice bf.out;subst bK;obtain ⟨_,_,_,_,_,_⟩ := bk3_ ah.out;obtain ⟨bc,bd,bL⟩ := Kd.R_slice bg.out;subst bL))
     go_roundg k1
     case measure => have := bU.out;omega
     case rel => exact ⟨(wrap64 (aa + 1)),(aR),(a3),(a8),(.slice ba aR.length bb),(.slice bc a3.length bd),(by first|rfl|(simp;done)|(simp [*];done)),H',⟨by have := bU.out;omega⟩,⟨by (with_reducible repeat (first|apply Kd.R_alloc|apply Kd.R_drewN|apply Kd.R_drew));exact Kd.R_mono (Kd.R_far (p := ⟨aq,2,none⟩) (Kd.R_far (p := ⟨aq,1,none⟩) (Kd.R_far (p := ⟨aq,0,none⟩) (Kd.R_types bf.out ah.out (by decide)) (fun _ hk => hk.2) (.slice ba aR.length bb)) (fun _ hk => hk.2) (.slice bc a3.length bd)) (fun _ hk => hk.2) (.int .i64 a8)) (fun _ hk => hk.1)⟩,⟨by (with_reducible repeat (first|apply Kd.R_alloc|apply Kd.R_drewN|apply Kd.R_drew));exact Kd.R_mono (Kd.R_far (p := ⟨aq,2,none⟩) (Kd.R_far (p := ⟨aq,1,none⟩) (Kd.R_far (p := ⟨aq,0,none⟩) (Kd.R_types bg.out ah.out (by decide)) (fun _ hk => hk.2) (.slice ba aR.length bb)) (fun _ hk => hk.2) (.slice bc a3.length bd)) (fun _ hk => hk.2) (.int .i64 a8)) (fun _ hk => hk.1)⟩,⟨by refine kO ?_;refine blk_put (cs := #[.slice ba aR.length bb,.slice bc a3.length bd,.int .i64 ag]) ?_ 2 _ rfl;refine kO ?_;refine blk_put (cs := #[.slice ba aR.length bb,.slice aT ad.length aQ,.int .i64 ag]) ?_ 1 _ rfl;refine kO ?_;refine blk_put (cs := #[.slice a6 af.length aS,.slice aT ad.length aQ,.int .i64 ag]) ?_ 0 _ rfl;refine kO ?_;exact ah.out⟩,⟨bG HB.out⟩⟩
    ·rw [if_neg c8] at H
     have bD := beq_eq_false_iff_ne.mpr c8
     have bE := bne_iff_ne.mpr c8
     obtain rfl := Option.some.inj H
     have a4 : 0 ≤ (aa : Int) := dA
     have a5 : aa < (l0.length : Int) := dA
     obtain ⟨bu,aj,ak,al,am,ao,ap,bp,ar,au,av,aw,ax,ay,az,aA,aB,aC,aD,aE⟩ := at_T30 bR.out aa a4 a5
     cases bp
     replace ar := xM HB ar
     replace au := xM HB au
     replace av := xM HB av
     replace aw := xM HB aw
     replace ax := xM HB ax
     replace ay := xM HB ay
     have aI := aK aA
     have aJ := aK az
     clear aA az
     have aL := aK aC
     have aM := aK aB
     clear aC aB
     have aN := aK aE
     have aO := aK aD
     clear aE aD
     replace a4 := eq_true a4
     replace a5 := eq_true a5
     go_wp2_with (first|((with_reducible refine gate_dst (N := 5) rfl ?_);refine box_event ?hg (N := 5) ?hd (cs := #[.int .i64 0,.int .i64 0,.int .i64 0,.slice none 0 0,.slice none 0 0,.slice none 0 0]) (t := 30) ?hr ?_;(case hd => rfl);(case hg => rfl);(case hr => first|(go_simp;done)|(go_simp;rfl));intro ae hg cc hbox hb;replace ab := aK (Kd.R_below (rM ab.out) hb);replace ac := aK (Kd.R_below (rM ac.out) hb);have an := aK (hbox);have a9 := aK ((by rw [hg];exact (below_size (bG HB.out)) : w.heap.size ≤ ae));have bv := Ge.mk a9.out;have a7 := aK ((by rw [hg];exact (below_size (bG HB.out)) : w.heap.size ≤ ae));have bx := Ge.mk a7.out;replace HB := aK (below_step (bG HB.out) hb);have ai := aK (nbL ah.out hg);have aF := aK (nbR ah.out hg);replace ah := aK (blk_below (kM ah.out) hb);clear hb hbox hg;have b1 := aF.out;have b2 := ai.out;obtain ⟨_,_,_,_,_,_,_,_,_,_,_,_⟩ := bk6_ an.out;obtain ⟨_,_,_,_,_,_⟩ := bk3_ ah.out;obtain ⟨bz,bq,bN⟩ := Kd.R_slice ab.out;subst bN;obtain ⟨bB,br,bO⟩ := Kd.R_slice ac.out;subst bO)|((with_reducible refine gate_callee (f := 24) rfl ?_);refine gL 18 Tryz.func24 #[.agg #[.slice bz af.length bq,.slice bB ad.length br,.int .i64 ag],.int .i64 aa,.agg #[.int .i64 ((rd_T30 l0 aa).f0),.int .i64 ((rd_T30 l0 aa).f1),.int .i64 ((rd_T30 l0 aa).f2),.slice aj ((rd_T30 l0 aa).f3).length ak,.slice al ((rd_T30 l0 aa).f4).length am,.slice ao ((rd_T30 l0 aa).f5).length ap]] ?_;(with_reducible refine (manifest_check.calls k1 _ _ af _ _ ad ag aa ((rd_T30 l0 aa).f0) ((rd_T30 l0 aa).f1) ((rd_T30 l0 aa).f2) _ _ ((rd_T30 l0 aa).f3) _ _ ((rd_T30 l0 aa).f4) _ _ ((rd_T30 l0 aa).f5) bo _ ?aU ?aV ?aW ?aX ?aY ?aZ ?a0 ?a1 ?a2 ?aP A7.out).mono ?_);(case aU => refine (Kd.R_reads' (e := 3) (base := w.heap.size) (ok := fun k_ => some k_ ≠ (.slice bB ad.length br : Value).ownBlock) (n := af.length) (c := bq) ?_).2.2;exact (by (with_reducible repeat (first|apply Kd.R_alloc|apply Kd.R_drewN|apply Kd.R_drew));exact (Kd.R_mono (Kd.R_far (p := ⟨ae,5,none⟩) (Kd.R_far (p := ⟨ae,4,none⟩) (Kd.R_far (p := ⟨ae,3,none⟩) (Kd.R_far (p := ⟨ae,2,none⟩) (Kd.R_far (p := ⟨ae,1,none⟩) (Kd.R_far (p := ⟨ae,0,none⟩) (Kd.R_types ab.out an.out (by decide)) (fun _ hk => hk.2) (.int .i64 ((rd_T30 l0 aa).f0))) (fun _ hk => hk.2) (.int .i64 ((rd_T30 l0 aa).f1))) (fun _ hk => hk.2) (.int .i64 ((rd_T30 l0 aa).f2))) (fun _ hk => hk.2) (.slice aj ((rd_T30 l0 aa).f3).length ak)) (fun _ hk => hk.2) (.slice al ((rd_T30 l0 aa).f4).length am)) (fun _ hk => hk.2) (.slice ao ((rd_T30 l0 aa).f5).length ap)) (fun _ h_ => h_.1))));(case aV => exact (Kd.R_reads' ab.out).2.1);(case aW => refine (Kd.R_reads' (e := 3) (base := w.heap.size) (ok := fun k_ => some k_ ≠ (.slice bz af.length bq : Value).ownBlock) (n := ad.length) (c := br) ?_).2.2;exact (by (with_reducible repeat (first|apply Kd.R_alloc|apply Kd.R_drewN|apply Kd.R_drew));exact (Kd.R_mono (Kd.R_far (p := ⟨ae,5,none⟩) (Kd.R_far (p := ⟨ae,4,none⟩) (Kd.R_far (p := ⟨ae,3,none⟩) (Kd.R_far (p := ⟨ae,2,none⟩) (Kd.R_far (p := ⟨ae,1,none⟩) (Kd.R_far (p := ⟨ae,0,none⟩) (Kd.R_types ac.out an.out (by decide)) (fun _ hk => hk.2) (.int .i64 ((rd_T30 l0 aa).f0))) (fun _ hk => hk.2) (.int .i64 ((rd_T30 l0 aa).f1))) (fun _ hk => hk.2) (.int .i64 ((rd_T30 l0 aa).f2))) (fun _ hk => hk.2) (.slice aj ((rd_T30 l0 aa).f3).length ak)) (fun _ hk => hk.2) (.slice al ((rd_T30 l0 aa).f4).length am)) (fun _ hk => hk.2) (.slice ao ((rd_T30 l0 aa).f5).length ap)) (fun _ h_ => h_.1))));(case aX => exact (Kd.R_reads' ac.out).2.1);(case aY => exact Kd.C_below aI.out (bG HB.out));(case aZ => exact aJ.out);(case a0 => exact Kd.C_below aL.out (bG HB.out));(case a1 => exact aM.out);(case a2 => exact Kd.C_below aN.out (bG HB.out));(case aP => exact aO.out);rintro e cd ⟨rfl,hb⟩;refine ⟨_,rfl,?_⟩;replace HB := aK (below_step (bG HB.out) hb);(try clear hb);(try clear hk)))
     go_ret
     exact ⟨by first|rfl|(simp [errW_none,errW_some] <;> rfl)|(simp [*,errW_none,errW_some] <;> rfl),bG HB.out⟩
   ·rw [if_neg c4] at H
    have bC := decide_eq_false c4
    clear c4
    obtain rfl := Option.some.inj H
    go_wp2
    go_ret
    exact ⟨by first|rfl|(simp [errW_none,errW_some] <;> rfl)|(simp [*,errW_none,errW_some] <;> rfl),bG HB.out⟩
def enc7 : Nat → Int → List Int
  | 0, _ => []
  | k + 1, x => if x ≥ 128 then (x % 128 + 128) :: enc7 k (x / 128) else [x]
def varint_Put.f (l0 : List Int) (a1 : Int) : Option (List Int) := if l0.length + 10 < 140737488355328 then some (l0 ++ enc7 10 (IntKind.u64.wrap (mx a1 0))) else none
def varint_Put.l0 : Nat → List Int → Int → Option (List Int)
  | 0, _, _ => none
  | k + 1, x5, x6 => if x6 ≥ 128 then (if x5.length < 140737488355328 then (varint_Put.l0 k (x5 ++ [Go.bits .or .u8 (x6 % 256) 128]) (x6 / 128)) else (none)) else (if x5.length < 140737488355328 then (some (x5 ++ [x6 % 256])) else (none))
theorem bits_or128 (x : Int) (h0 : 0 ≤ x) : Go.bits .or .u8 (x % 256) 128 = x % 128 + 128 := by
  have h : ∀ a : Fin 256, Go.bits .or .u8 (a.val : Int) 128 = (a.val : Int) % 128 + 128 := by decide +kernel
  have h1 := h ⟨(x % 256).toNat, by omega⟩
  simp only at h1
  rw [show (((x % 256).toNat : Nat) : Int) = x % 256 from by omega] at h1
  rw [h1]; omega
theorem varint_Put.l0_enc (k : Nat) : ∀ (x5 : List Int) (x6 : Int), 0 ≤ x6 → x6 < 128 ^ (k + 1) → x5.length + k + 1 < 140737488355328 → varint_Put.l0 (k + 1) x5 x6 = some (x5 ++ enc7 (k + 1) x6) := by
  induction k with
  | zero =>
    intro x5 x6 h0 h1 h2
    have hn : ¬ x6 ≥ 128 := by omega
    rw [varint_Put.l0, enc7, if_neg hn, if_neg hn, if_pos (show x5.length < 140737488355328 by omega), show x6 % 256 = x6 from by omega]
  | succ k ih =>
    intro x5 x6 h0 h1 h2
    rw [varint_Put.l0, enc7]
    by_cases h : x6 ≥ 128
    · rw [if_pos h, if_pos h, if_pos (show x5.length < 140737488355328 by omega), bits_or128 x6 h0, ih _ _ (by omega) (by rw [Int.pow_succ] at h1; omega) (by simp; omega)]
      simp
    · rw [if_neg h, if_neg h, if_pos (show x5.length < 140737488355328 by omega), show x6 % 256 = x6 from by omega]
theorem wrap_u64_range (x : Int) : 0 ≤ IntKind.u64.wrap x ∧ IntKind.u64.wrap x < 18446744073709551616 := by
  simp [IntKind.wrap, IntKind.bits, IntKind.signed]; omega
theorem varint_Put.of_f {l0 : List Int} {a1 : Int} {r : List Int} (h : varint_Put.f l0 a1 = some r) : varint_Put.l0 10 l0 (IntKind.u64.wrap (mx a1 0)) = some r := by
  unfold varint_Put.f at h
  split at h
  · rw [varint_Put.l0_enc 9 l0 _ (wrap_u64_range _).1 (Int.lt_of_lt_of_le (wrap_u64_range _).2 (by decide)) (by omega)]; exact h
  · cases h
def SrcU8 (w0 W : World) (v : Value) (xs : List Int) : Prop :=
  Kd.R (Kd.int .u8) 5 W w0.heap.size (fun _ => True) v xs ∨ ∃ A, v = .slice A xs.length xs.length ∧ (A = none → xs.length = 0) ∧ Kd.C (Kd.int .u8) W A xs.length xs
theorem src_below {w0 W W1 : World} {v : Value} {xs : List Int} (h : SrcU8 w0 W v xs) (hb : Below W.heap.size W W1) : SrcU8 w0 W1 v xs := by
  rcases h with h | ⟨A, h1, h2, h3⟩
  · exact .inl (Kd.R_below h hb)
  · exact .inr ⟨A, h1, h2, Kd.C_below h3 hb⟩
section
variable {P : Program} {ops : Array Oper} {rest : List Oper} {o : Oper} {a : Act} {Q : Exit → Act → World → Prop}
theorem src_append {w0 W : World} (hgd : o.guard = none) (s x : Operand) (t : TypeId)
    (ho : o.op = .call { callee := .builtin .append, args := #[s, x], argTypes := #[t, t] })
    (ht : P.underlying t = some (.slice 5)) (hinfo : (P.info? 5).map (fun i => (i.zero, i.size, i.bytes)) = some (some (.int .u8 0), 1, 1))
    (v : Value) (xs : List Int) (p : Int) (hs : a.eval s = v) (hx : a.eval x = .slice (some ⟨W.heap.size, 0, none⟩) 1 1)
    (HO : SrcU8 w0 W v xs) (HB : Below w0.heap.size w0 W) (hl : xs.length < 140737488355328)
    (h : ∀ v1 w1, Kd.R (Kd.int .u8) 5 w1 w0.heap.size (fun _ => True) v1 (xs ++ [p]) → Below w0.heap.size w0 w1 → wpList P ops Q rest (a.put o.dst v1) w1) :
    wpList P ops Q (o :: rest) a (W.alloc (.cells #[.int .u8 p] 5)) := by
  rcases HO with HO | ⟨A, rfl, hA, hC⟩
  · exact Kd.R_append (Kd.int .u8) (w0 := w0) w0.heap.size hgd s x t 5 (.int .u8 0) 1 ho ht hinfo rfl (by decide) (by omega) v xs p [.int .u8 p] (fun _ => True) (fun _ => False) hs hx rfl (fun _ hk => hk.elim) (fun _ _ => trivial) HO HB HB.size (by omega) (fun v1 w1 h1 h2 _ _ => h v1 w1 h1 h2)
  · obtain ⟨i0, hi, hzz⟩ := Option.map_eq_some_iff.1 hinfo
    simp only [Prod.mk.injEq] at hzz
    obtain ⟨hz0, hz1, hz2⟩ := hzz
    have hC' := readsInt_of.2 (Kd.reads_of_C (enc := Value.int .u8) (d := (0 : Int)) (h1 := fun _ => rfl) hC)
    refine wpList_append_grows (W.alloc (.cells #[.int .u8 p] 5)) hgd s x t ho 5 i0 (.int .u8 0) 1 1 ht hi hz0 hz1 hz2 rfl (by decide) A xs.length xs.length (nums .u8 xs) hs (fun e => ⟨hA e, hA e⟩) (by simp [nums_length])
      (fun b hb j u hj => ?_) ⟨W.heap.size, 0, none⟩ 1 1 [.int .u8 p] hx rfl
      (by simpa using World.news_of_block (cs := #[.int .u8 p]) (t := 5) (fr := (0, 0)) (heap_alloc_new W (.cells #[.int .u8 p] 5))) (by simp [Value.oneCell']) (by omega) (by simp only [maxLen]; omega) (by omega) ?_
    · have hjl : j < xs.length := by
        have := (List.getElem?_eq_some_iff.1 hj).1
        simpa [nums_length] using this
      obtain ⟨ad, e, hc⟩ := hC'.2.2 (by omega)
      subst hb
      cases e
      have h1 := hc j hjl
      have h2 : u = .int .u8 (xs.getD j 0) := by
        simp [nums, List.getElem?_eq_getElem hjl] at hj
        rw [← hj, List.getD_eq_getElem?_getD, List.getElem?_eq_getElem hjl]; rfl
      rw [h2]
      exact (Below.cell ((Below.refl W.heap.size W).alloc (Nat.le_refl _) _) (World.block_lt_of_cell? W _ h1)).trans h1
    · intro v' w' hown hg
      have hown' : w'.ownsRow w0.heap.size 5 1 v' (xs ++ [p]).length (encs (Value.int .u8) (xs ++ [p])) := by
        have : encs (Value.int .u8) (xs ++ [p]) = nums .u8 xs ++ [.int .u8 p] := by simp [encs, nums]
        rw [this, List.length_append, List.length_singleton]
        exact own_weaken hown (by have := HB.size; simp; omega)
      refine h v' w' (Kd.R_of_own hown' (fun _ _ => trivial)) ?_
      exact (HB.alloc HB.size _).grown hg (by have := HB.size; simp; omega) (fun k hk => by cases hk)
end
set_option maxHeartbeats 8000000 in
theorem varint_Put.calls (A0 : Option Addr) (c0 : Nat) (l0 : List Int) (a1 : Int) (r : List Int) (w : World) (am : Kd.C (Kd.int .u8) w A0 l0.length l0) (an : l0.length ≤ c0) (h : varint_Put.f l0 a1 = some r) :
    Calls Tryz.prog 41 #[.slice A0 l0.length c0, .int .i64 a1] w fun e w' => ∃ ao : Value, e = .returned (ao) ∧ Kd.R (Kd.int .u8) 5 w' w.heap.size (fun _ => True) ao r ∧ Below w.heap.size w w' := by
  have ap := aK am
  have ar := aK an
  clear am an
  have HB := aK (Below.refl w.heap.size w)
  have H : (varint_Put.l0 10 l0 (IntKind.u64.wrap (mx a1 0))) = some r := varint_Put.of_f h
  clear h
  have H' := aK H
  clear H
  have hcc := ar.out
  have au : (l0.length : Int) ≤ (c0 : Int) := by omega
  clear hcc
  obtain ⟨ji, hji⟩ : ∃ j_ : Int, (mx a1 0) = j_ := ⟨_, rfl⟩
  rw [hji] at H'
  have hji_ : (if a1 < 0 then 0 else a1) = ji := hji
  clear hji
  go_enter Tryz.func41, Tryz.ntmps41
  go_wp2
  go_loopg [5, 6] 10 (fun kq v5 v6 w' => ∃ (aa : List Int) (ab : Int), v6 = .int .u64 ab ∧ Aside0 (varint_Put.l0 kq aa ab = some r) ∧ Aside0 (kq ≤ 10) ∧ Aside0 (SrcU8 w w' v5 aa) ∧ Aside0 (Below w.heap.size w w'))
  case atStart =>
    refine ⟨l0, IntKind.u64.wrap ji, rfl, H', ⟨Nat.le_refl _⟩, ⟨.inr ⟨A0, rfl, fun e => ?_, ap.out⟩⟩, HB⟩
    rcases Nat.eq_zero_or_pos l0.length with hl | hl
    · exact hl
    · obtain ⟨ad, ea, _⟩ := ap.out.2.2 hl
      rw [e] at ea
      cases ea
  case round =>
    clear H'
    obtain ⟨aa, ab, rfl, HA, aq, ae, HB⟩ := hrel
    cases gk with
    | zero => exact absurd HA.out (by simp [varint_Put.l0])
    | succ k1 =>
      have H := HA.out
      clear HA
      simp only [varint_Put.l0] at H
      by_cases c3 : ab ≥ 128
      · rw [if_pos c3] at H
        have aj := decide_eq_true c3
        clear c3
        by_cases c5 : aa.length < 140737488355328
        · rw [if_pos c5] at H
          have af := aK c5
          clear c5
          obtain ⟨y1, ag⟩ : ∃ y_ : List Int, y_ = aa ++ [Go.bits .or .u8 (ab % 256) 128] := ⟨_, rfl⟩
          rw [← ag] at H
          have ak := aK ag
          clear ag
          have H' := aK H
          clear H
          go_wp2_with (first | ((with_reducible refine gate_builtin (b := .append) (xs := #[.tmp 18, .tmp 22]) rfl ?_); at_builtin; refine src_append (w0 := w) rfl (.tmp 18) (.tmp 22) 31 rfl Tryz.underlying31 info5 u5 aa (Go.bits .or .u8 (ab % 256) 128) rfl rfl ?aO ?aB ?aL ?_; (case aB => exact HB.out); (case aO => exact ae.out); (case aL => exact af.out); intro al w6 ho hb; rw [← ak.out] at ho; have ah := aK (hb); have ai := aK (ho); clear HB; clear ae; have HB := ah; have ac := ai; clear ah ai; clear ho hb))
          go_roundg k1
          case measure => have := aq.out; omega
          case rel => exact ⟨y1, _, rfl, H', ⟨by have := aq.out; omega⟩, ⟨.inl ac.out⟩, HB⟩
        · rw [if_neg c5] at H
          exact absurd H (by simp)
      · rw [if_neg c3] at H
        have aj := decide_eq_false c3
        clear c3
        by_cases c5 : aa.length < 140737488355328
        · rw [if_pos c5] at H
          have af := aK c5
          clear c5
          obtain ⟨y1, ag⟩ : ∃ y_ : List Int, y_ = aa ++ [ab % 256] := ⟨_, rfl⟩
          rw [← ag] at H
          have ak := aK ag
          clear ag
          have H' := aK H
          clear H
          go_wp2_with (first | ((with_reducible refine gate_builtin (b := .append) (xs := #[.tmp 26, .tmp 29]) rfl ?_); at_builtin; refine src_append (w0 := w) rfl (.tmp 26) (.tmp 29) 31 rfl Tryz.underlying31 info5 u5 aa (ab % 256) rfl rfl ?aO ?aB ?aL ?_; (case aB => exact HB.out); (case aO => exact ae.out); (case aL => exact af.out); intro al w6 ho hb; rw [← ak.out] at ho; have ah := aK (hb); have ai := aK (ho); clear HB; clear ae; have HB := ah; have ac := ai; clear ah ai; clear ho hb))
          obtain rfl := Option.some.inj H'.out
          go_ret
          exact ⟨_, rfl, ac.out, HB.out⟩
        · rw [if_neg c5] at H
          exact absurd H (by simp)
end Go.Proofs.YtmgliocboeifdaaGreatDoor.F
