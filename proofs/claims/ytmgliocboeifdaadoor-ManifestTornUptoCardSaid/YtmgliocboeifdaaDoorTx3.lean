-- Written by hp.py, a program of this session, over the kit's print of the translation. Not trusted: Lean checks it.
import Derived.Test.YtmgliocboeifdaaDoorTx0
import Derived.Test.YtmgliocboeifdaaDoorTx2
namespace Go.Proofs.YtmgliocboeifdaaDoor.T
open Go.RowKit Go.Proofs.YtmgliocboeifdaaDoorW.PrintWords Go.Proofs.YtmgliocboeifdaaDoorW.PrintLast Go.Proofs.YtmgliocboeifdaaDoorW.PrintMore
attribute [local go_sem] max2_int min2_int max_two min_two max_three min_three max_four min_four   -- for this text's walks alone
set_option linter.unusedVariables false
set_option linter.unusedSimpArgs false

/-! ### manifest_state_after: function 42 -/
def manifest_state_after.f (k : Nat) (l0_0 : List Int) (l0_1 : List Int) (a0_2 : Int) (a1_0 : Int) (a1_1 : Int) (a1_2 : Int) (l1_3 : List Int) (l1_4 : List Int) (l1_5 : List ByteArray) : Option (List Int × List Int × Int) := if a1_1 = 1 then ((posting_Or.f k l0_0 (([a1_2] : List Int))).bind fun t150 => (some (t150, l0_1, mx a0_2 a1_2))) else (if a1_1 = 2 then ((posting_Or.f k l0_1 l1_3).bind fun t153 => (some (l0_0, t153, mx a0_2 a1_2))) else (if a1_1 = 3 then ((posting_Minus.f l0_0 l1_4).bind fun t156 => ((posting_Or.f k t156 (([a1_2] : List Int))).bind fun t162 => (some (t162, ([] : List Int), mx a0_2 a1_2)))) else (some (l0_0, l0_1, mx a0_2 a1_2))))
theorem manifest_state_after.mono : ∀ a0 a1 a2 a3 a4 a5 a6 a7 a8 k, LeO (manifest_state_after.f k a0 a1 a2 a3 a4 a5 a6 a7 a8) (manifest_state_after.f (k + 1) a0 a1 a2 a3 a4 a5 a6 a7 a8) := by
 intro a0 a1 a2 a3 a4 a5 a6 a7 a8 k
 unfold manifest_state_after.f
 repeat' first
  |(with_reducible exact posting_Or.mono _ _ _)
  |(with_reducible exact LeO.refl _)
  |(with_reducible exact LeO.none _)
  |(with_reducible refine LeO.ite ?_ ?_)
  |(with_reducible refine LeO.bind ?_ (fun _ => ?_))
  |exact posting_Or.mono _ _ _
  |exact LeO.none _
  |refine LeO.ite ?_ ?_
  |refine LeO.bind ?_ (fun _ => ?_)
def manifest_state_after.T7 : Bool × List (List Nat × List Nat) := (true, [([], []), ([0], [0]), ([], []), ([2], [2]), ([1, 3], [1, 3]), ([], []), ([5], [5]), ([6], [6]), ([4, 7, 4], [4, 7]), ([0, 1, 2, 3, 4, 5, 6, 7, 8], []), ([9, 8, 8, 0, 1, 2, 3, 4, 5, 6, 7, 8], [8, 9])])
def manifest_state_after.B7 : List Nat := [0, 1, 0, 4, 15, 0, 32, 96, 255, 511, 1023]
theorem manifest_state_after.tab7 : rtab .any (opsOf Tryd.f42 7) = manifest_state_after.T7 := by kernel_rfl
theorem manifest_state_after.bits7 : waitsOk manifest_state_after.T7.2 manifest_state_after.B7 = true := by kernel_rfl
set_option maxHeartbeats 4000000 in
set_option maxRecDepth 100000 in
theorem manifest_state_after.calls (k : Nat) (P0_0_ : Nat → Prop) (u9000_ : Value) (l0_0 : List Int) (P0_1_ : Nat → Prop) (u9001_ : Value) (l0_1 : List Int) (a0_2 : Int) (a1_0 : Int) (a1_1 : Int) (a1_2 : Int) (P1_3_ : Nat → Prop) (A1_3 : Option Addr) (c1_3 : Nat) (l1_3 : List Int) (A1_4 : Option Addr) (c1_4 : Nat) (l1_4 : List Int) (A1_5 : Option Addr) (c1_5 : Nat) (l1_5 : List ByteArray) (r1 : List Int) (r2 : List Int) (r3 : Int) (w0 w : World) (hB : Below w0.heap.size w0 w) (ho0_0 : Kd.R (Kd.int .i64) 3 w w0.heap.size P0_0_ u9000_ l0_0) (hp0_0_0_1 : ∀ k_, P0_0_ k_ → ¬ P0_1_ k_) (ho0_1 : Kd.R (Kd.int .i64) 3 w w0.heap.size P0_1_ u9001_ l0_1) (hp0_1_0_0 : ∀ k_, P0_1_ k_ → ¬ P0_0_ k_) (hs1_3 : Kd.V (Kd.int .i64) 3 w w0.heap.size (fun k_ => P1_3_ k_ ∧ some k_ ≠ (u9000_ : Value).ownBlock ∧ some k_ ≠ (u9001_ : Value).ownBlock) (.slice A1_3 l1_3.length c1_3) l1_3) (hr1_4 : ∀ W_, Kept w W_ (fun k_ => P0_0_ k_ ∨ P0_1_ k_) → Kd.C (Kd.int .i64) W_ A1_4 l1_4.length l1_4) (hc1_4 : l1_4.length ≤ c1_4) (hr1_5 : ∀ W_, Kept w W_ (fun k_ => P0_0_ k_ ∨ P0_1_ k_) → Kd.C Kd.string W_ A1_5 l1_5.length l1_5) (hc1_5 : l1_5.length ≤ c1_5) (h : manifest_state_after.f k l0_0 l0_1 a0_2 a1_0 a1_1 a1_2 l1_3 l1_4 l1_5 = some (r1, r2, r3)) :
  Calls Tryd.prog 42 #[.agg #[u9000_,u9001_,.int .i64 a0_2],.agg #[.int .i64 a1_0,.int .i64 a1_1,.int .i64 a1_2,.slice A1_3 l1_3.length c1_3,.slice A1_4 l1_4.length c1_4,.slice A1_5 l1_5.length c1_5]] w fun e w' => ∃ v0_ v1_ : Value,e = .returned (.agg #[v0_,v1_,.int .i64 r3]) ∧ Kd.R (Kd.int .i64) 3 w' w0.heap.size (fun k_ => ((P0_0_ k_ ∨ P0_1_ k_) ∨ w.heap.size ≤ k_) ∧ some k_ ≠ (v1_ : Value).ownBlock) v0_ r1 ∧ Kd.R (Kd.int .i64) 3 w' w0.heap.size (fun k_ => ((P0_0_ k_ ∨ P0_1_ k_) ∨ w.heap.size ≤ k_) ∧ some k_ ≠ (v0_ : Value).ownBlock) v1_ r2 ∧ Below w0.heap.size w0 w' ∧ Kept w w' (fun k_ => P0_0_ k_ ∨ P0_1_ k_) := by
 have hu48 := Tryd.underlying48
 have hu37 := Tryd.underlying37
 have HO0_0 := aK (show Kd.R (Kd.int .i64) 3 w w0.heap.size (fun k_ => ((P0_0_ k_ ∨ P0_1_ k_) ∨ w.heap.size ≤ k_) ∧ some k_ ≠ (u9001_ : Value).ownBlock) u9000_ l0_0 from Kd.R_mono ho0_0 (fun k_ hk => ⟨(.inl (.inl hk)),fun e_ => hp0_0_0_1 k_ hk (ho0_1.1 k_ e_.symm)⟩))
 have HO0_1 := aK (show Kd.R (Kd.int .i64) 3 w w0.heap.size (fun k_ => ((P0_0_ k_ ∨ P0_1_ k_) ∨ w.heap.size ≤ k_) ∧ some k_ ≠ (u9000_ : Value).ownBlock) u9001_ l0_1 from Kd.R_mono ho0_1 (fun k_ hk => ⟨(.inl (.inr hk)),fun e_ => hp0_1_0_0 k_ hk (ho0_0.1 k_ e_.symm)⟩))
 have HO1_3 := aK (show Kd.V (Kd.int .i64) 3 w w0.heap.size (fun k_ => ((P0_0_ k_ ∨ P0_1_ k_ ∨ P1_3_ k_) ∨ w.heap.size ≤ k_) ∧ some k_ ≠ (u9000_ : Value).ownBlock ∧ some k_ ≠ (u9001_ : Value).ownBlock) (.slice A1_3 l1_3.length c1_3) l1_3 from Kd.V_mono hs1_3 (fun k_ hk => ⟨.inl (.inr (.inr hk.1)),hk.2⟩))
 have HR1_4 := aK hr1_4
 have HC1_4 := aK hc1_4
 clear hr1_4 hc1_4
 have HR1_5 := aK hr1_5
 have HC1_5 := aK hc1_5
 clear hr1_5 hc1_5
 have HK := aK (Kept.refl w (fun k_ => P0_0_ k_ ∨ P0_1_ k_))
 have HW0 := aK hB.size
 have HB := aK hB
 clear hB
 have H : (if a1_1 = 1 then ((posting_Or.f k l0_0 (([a1_2] : List Int))).bind fun t150 => (some (t150,l0_1,mx a0_2 a1_2))) else (if a1_1 = 2 then ((posting_Or.f k l0_1 l1_3).bind fun t153 => (some (l0_0,t153,mx a0_2 a1_2))) else (if a1_1 = 3 then ((posting_Minus.f l0_0 l1_4).bind fun t156 => ((posting_Or.f k t156 (([a1_2] : List Int))).bind fun t162 => (some (t162,([] : List Int),mx a0_2 a1_2)))) else (some (l0_0,l0_1,mx a0_2 a1_2))))) = some (r1,r2,r3) := h
 clear h
 by_cases c3 : a1_1 = 1
 ·rw [if_pos c3] at H
  have c3b0 := beq_iff_eq.mpr c3
  have c3b1 := bne_eq_false_iff_eq.mpr c3
  clear c3
  obtain ⟨y147,hy147⟩ : ∃ y_ : List Int,y_ = (([a1_2] : List Int)) := ⟨_,rfl⟩
  replace H : ((posting_Or.f k l0_0 y147).bind fun t150 => (some (t150,l0_1,mx a0_2 a1_2))) = some (r1,r2,r3) := by first|(rw [hy147];with_reducible exact H)|(have H2_ := (Option.bind_some _ _).symm.trans H;rw [hy147];with_reducible exact H2_)|(have H2_ := (Option.bind_some _ _).symm.trans H;with_reducible exact H2_)|with_reducible exact H|(rw [hy147];exact H)|exact H
  have Ny147 := aK hy147
  clear hy147
  replace H := Option.bind_eq_some_iff.mp H
  obtain ⟨t150,A40,H⟩ := H
  have A4 := aK A40
  clear A40
  obtain ⟨ji5,hji5⟩ : ∃ j_ : Int,(mx a0_2 a1_2) = j_ := ⟨_,rfl⟩
  replace H : (some (t150,l0_1,ji5)) = some (r1,r2,r3) := by first|(rw [hji5] at H;exact H)|(simp only [hji5] at H ⊢;exact H)
  (try rw [hji5] at A4)
  have hji5_ : (if a0_2 < a1_2 then a1_2 else a0_2) = ji5 := hji5
  simp only [Option.some.injEq,Prod.mk.injEq] at H
  obtain ⟨rfl,rfl,rfl⟩ := H
  obtain ⟨Ao6,co6,eo6⟩ := Kd.R_slice HO0_0.out
  subst eo6
  obtain ⟨Ao7,co7,eo7⟩ := Kd.R_slice HO0_1.out
  subst eo7
  go_enter Tryd.func42,Tryd.ntmps42
  go_wp2_with (first|((with_reducible refine gate_dst (N := 2) rfl ?_);refine box_event ?hg (N := 2) ?hd (cs := #[.slice Ao6 l0_0.length co6,.slice Ao7 l0_1.length co7,.int .i64 a0_2]) (t := 48) ?hr ?_;(case hd => rfl);(case hg => rfl);(case hr => first|(go_simp;done)|(go_simp;rfl));intro gb144 hg w8 hbox hb;replace HO0_0 := aK (Kd.R_below (rM HO0_0.out) hb);replace HO0_1 := aK (Kd.R_below (rM HO0_1.out) hb);replace HO1_3 := aK (Kd.V_below (Kd.V_elderB (vM HO1_3.out) gb144 (Nat.le_of_eq hg.symm)) hb);have BK144 := aK (hbox);have GW144 := aK ((by rw [hg];exact (by first|exact HK.out.1|exact (show Kept w _ (fun k_ => P0_0_ k_ ∨ P0_1_ k_) from kG HK.out).1) : w.heap.size ≤ gb144));have GJ144 := Ge.mk GW144.out;replace HK := aK (Kept.below (S := (fun k_ => P0_0_ k_ ∨ P0_1_ k_)) (kG HK.out) hb);have GE144 := aK ((by rw [hg];exact (below_size (bM HB.out)) : w0.heap.size ≤ gb144));have GI144 := Ge.mk GE144.out;replace HB := aK (below_step (bM HB.out) hb);clear hb hbox hg)|((with_reducible refine gate_dst (N := 3) rfl ?_);refine box_event ?hg (N := 3) ?hd (cs := #[.int .i64 a1_0,.int .i64 a1_1,.int .i64 a1_2,.slice A1_3 l1_3.length c1_3,.slice A1_4 l1_4.length c1_4,.slice A1_5 l1_5.length c1_5]) (t := 37) ?hr ?_;(case hd => rfl);(case hg => rfl);(case hr => first|(go_simp;done)|(go_simp;rfl));intro gb145 hg w9 hbox hb;replace HO0_0 := aK (Kd.R_below (rM HO0_0.out) hb);replace HO0_1 := aK (Kd.R_below (rM HO0_1.out) hb);replace HO1_3 := aK (Kd.V_below (Kd.V_elderB (vM HO1_3.out) gb145 (Nat.le_of_eq hg.symm)) hb);have BK145 := aK (hbox);have GW145 := aK ((by rw [hg];exact (by first|exact HK.out.1|exact (show Kept w _ (fun k_ => P0_0_ k_ ∨ P0_1_ k_) from kG HK.out).1) : w.heap.size ≤ gb145));have GJ145 := Ge.mk GW145.out;replace HK := aK (Kept.below (S := (fun k_ => P0_0_ k_ ∨ P0_1_ k_)) (kG HK.out) hb);have GE145 := aK ((by rw [hg];exact (below_size (bG HB.out)) : w0.heap.size ≤ gb145));have GI145 := Ge.mk GE145.out;replace HB := aK (below_step (bG HB.out) hb);have NB144_145 := aK (nbL BK144.out hg);have NB145_144 := aK (nbR BK144.out hg);replace BK144 := aK (blk_below (kM BK144.out) hb);clear hb hbox hg)|((with_reducible refine gate_dst (N := 4) rfl ?_);refine box_event ?hg (N := 4) ?hd (cs := #[.slice none 0 0,.slice none 0 0,.int .i64 0]) (t := 48) ?hr ?_;(case hd => rfl);(case hg => rfl);(case hr => first|(go_simp;done)|(go_simp;rfl));intro gb146 hg w10 hbox hb;replace HO0_0 := aK (Kd.R_below (rM HO0_0.out) hb);replace HO0_1 := aK (Kd.R_below (rM HO0_1.out) hb);replace HO1_3 := aK (Kd.V_below (Kd.V_elderB (vM HO1_3.out) gb146 (Nat.le_of_eq hg.symm)) hb);have BK146 := aK (hbox);have GW146 := aK ((by rw [hg];exact (by first|exact HK.out.1|exact (show Kept w _ (fun k_ => P0_0_ k_ ∨ P0_1_ k_) from kG HK.out).1) : w.heap.size ≤ gb146));have GJ146 := Ge.mk GW146.out;replace HK := aK (Kept.below (S := (fun k_ => P0_0_ k_ ∨ P0_1_ k_)) (kG HK.out) hb);have GE146 := aK ((by rw [hg];exact (below_size (bG HB.out)) : w0.heap.size ≤ gb146));have GI146 := Ge.mk GE146.out;replace HB := aK (below_step (bG HB.out) hb);have NB144_146 := aK (nbL BK144.out hg);have NB146_144 := aK (nbR BK144.out hg);replace BK144 := aK (blk_below (kM BK144.out) hb);have NB145_146 := aK (nbL BK145.out hg);have NB146_145 := aK (nbR BK145.out hg);replace BK145 := aK (blk_below (kM BK145.out) hb);clear hb hbox hg;have hnb11 := NB145_144.out;have hnc11 := NB144_145.out;have hnb12 := NB145_146.out;have hnc12 := NB146_145.out;obtain ⟨_,_,_,_,_,_,_,_,_,_,_,_⟩ := bk6_ BK145.out;have hnb14 := NB144_146.out;have hnc14 := NB146_144.out;obtain ⟨_,_,_,_,_,_⟩ := bk3_ BK144.out)|((with_reducible refine gate_dst (N := 13) rfl ?_);refine Kd.R_lit (Kd.int .i64) _ 3 ?hg (N := 13) ?hd (xs := ([a1_2] : List Int)) (inner := [.int .i64 a1_2]) (ok := fun _ => True) (okp := fun _ => True) ?hr ?hp (fun _ hk => hk) trivial (Below.refl _ _) (Nat.le_refl _) (by simp) ?_;(case hd => rfl);(case hg => rfl);(case hr => first|(go_simp;done)|(go_simp;rfl));(case hp => exact (Reps.one (show Kd.M (Kd.int .i64) _ _ _ a1_2 [.int .i64 a1_2] from rfl) (Reps.none _ _)));intro v148 w16 ho17 hb hg_ hnew_;clear hg_ hnew_;(first|rw [← Ny147.out] at ho17|(simp only [Int.reduceToNat] at ho17;rw [← Ny147.out] at ho17));replace HO1_3 := aK (Kd.V_elder' (vM HO1_3.out) (Kd.R_base ho17) hb);have HO149 := aK (Kd.R_lower (Kd.R_new' (Kd.R_new' (Kd.R_newM (M := fun k_ => ((P0_0_ k_ ∨ P0_1_ k_) ∨ w.heap.size ≤ k_)) ho17 (by first|exact HK.out.1|exact (show Kept w _ (fun k_ => P0_0_ k_ ∨ P0_1_ k_) from kG HK.out).1) (fun k_ h_ => .inr h_)) (Kd.R_lt (rM HO0_0.out))) (Kd.R_lt (rM HO0_1.out))) (below_size (bG HB.out)));replace HO0_0 := aK (Kd.R_elder' (rM HO0_0.out) (Kd.R_base ho17) hb);replace HO0_1 := aK (Kd.R_elder' (rM HO0_1.out) (Kd.R_base ho17) hb);replace BK144 := aK (blk_below (kM BK144.out) hb);replace BK145 := aK (blk_below (kM BK145.out) hb);replace BK146 := aK (blk_below (kM BK146.out) hb);replace HK := aK (Kept.below (S := (fun k_ => P0_0_ k_ ∨ P0_1_ k_)) (kG HK.out) hb);replace HB := aK (below_step (bG HB.out) hb);clear hb ho17;obtain ⟨Ao18,co18,eo18⟩ := Kd.R_slice HO149.out;subst eo18)|((with_reducible refine gate_callee (f := 49) rfl ?_);refine goesL_ (some 14) rfl rfl Tryd.func49 (by kernel_rfl) rfl #[.slice Ao6 l0_0.length co6,.slice Ao18 y147.length co18] rfl (by (try simp only [List.map_toArray,List.map_cons,List.map_nil]);first|done|rfl|(simp only [List.length_drop,List.length_take];rfl)) ?_;(with_reducible refine (posting_Or.calls k (fun k_ => some k_ = (.slice Ao6 l0_0.length co6 : Value).ownBlock) _ _ l0_0 (fun k_ => some k_ = (.slice Ao18 y147.length co18 : Value).ownBlock) _ _ y147 t150 _ ?side1 ?side2 A4.out).mono ?_);(case side1 => exact Kd.R_V (Kd.R_tight rfl (Kd.R_types (Kd.R_types (Kd.R_types (HO0_0.out) BK144.out (by decide)) BK145.out (by decide)) BK146.out (by decide))));(case side2 => exact Kd.R_V (Kd.R_tight rfl (Kd.R_types (Kd.R_types (Kd.R_types (HO149.out) BK144.out (by decide)) BK145.out (by decide)) BK146.out (by decide))));rintro e w19 ⟨v151,rfl,ho0,hb⟩;refine ⟨_,rfl,?_⟩;replace HO1_3 := aK (Kd.V_elder' (vM HO1_3.out) (Kd.R_base ho0) hb);have HO152 := aK (Kd.R_lower (Kd.R_new' (Kd.R_new' (Kd.R_new' (Kd.R_newM (M := fun k_ => ((P0_0_ k_ ∨ P0_1_ k_) ∨ w.heap.size ≤ k_)) (Kd.R_mono (ok' := fun k_ => True) ho0 (fun _ hk_ => trivial)) (by first|exact HK.out.1|exact (show Kept w _ (fun k_ => P0_0_ k_ ∨ P0_1_ k_) from kG HK.out).1) (fun k_ h_ => .inr h_)) (Kd.R_lt (rM HO0_0.out))) (Kd.R_lt (rM HO0_1.out))) (Kd.R_lt (rM HO149.out))) (below_size (bG HB.out)));replace HO0_0 := aK (Kd.R_elder' (rM HO0_0.out) (Kd.R_base ho0) hb);replace HO0_1 := aK (Kd.R_elder' (rM HO0_1.out) (Kd.R_base ho0) hb);replace BK144 := aK (blk_below (kM BK144.out) hb);replace BK145 := aK (blk_below (kM BK145.out) hb);replace BK146 := aK (blk_below (kM BK146.out) hb);replace HK := aK (Kept.below (S := (fun k_ => P0_0_ k_ ∨ P0_1_ k_)) (kG HK.out) hb);replace HB := aK (below_step (bG HB.out) hb);(try clear hb);(try clear hk);(try clear ho0);obtain ⟨Ao20,co20,eo20⟩ := Kd.R_slice HO152.out;subst eo20;obtain ⟨_,_,_,_,_,_⟩ := bk3_ BK144.out;obtain ⟨_,_,_,_,_,_,_,_,_,_,_,_⟩ := bk6_ BK145.out;obtain ⟨_,_,_,_,_,_⟩ := bk3_ BK146.out))
  refine bodyPost_ret (results_cell_row rfl _ _ gb146 48 #[.slice Ao20 t150.length co20,.slice Ao7 l0_1.length co7,.int .i64 ji5] (0,0) _ rfl (by (with_reducible repeat (first|refine blk_drewN ?_ _|refine blk_drew ?_|refine blk_alloc ?_ _));refine blk_put (cs := #[.slice Ao20 t150.length co20,.slice Ao7 l0_1.length co7,.int .i64 0]) ?_ 2 _ rfl;(with_reducible repeat (first|refine blk_drewN ?_ _|refine blk_drew ?_|refine blk_alloc ?_ _));refine blk_put (cs := #[.slice Ao20 t150.length co20,.slice none 0 0,.int .i64 0]) ?_ 1 _ rfl;(with_reducible repeat (first|refine blk_drewN ?_ _|refine blk_drew ?_|refine blk_alloc ?_ _));refine blk_put (cs := #[.slice none 0 0,.slice none 0 0,.int .i64 0]) ?_ 0 _ rfl;(with_reducible repeat (first|refine blk_drewN ?_ _|refine blk_drew ?_|refine blk_alloc ?_ _));refine blk_far ?_ NB146_144.out _;(with_reducible repeat (first|refine blk_drewN ?_ _|refine blk_drew ?_|refine blk_alloc ?_ _));refine blk_far ?_ NB146_144.out _;(with_reducible repeat (first|refine blk_drewN ?_ _|refine blk_drew ?_|refine blk_alloc ?_ _));exact BK146.out) Tryd.underlying48 rfl (by kernel_rfl)) rfl ?_
  exact ⟨_,_,by first|rfl|(simp [errW_none,errW_some] <;> rfl)|(simp only [← hji5];first|rfl|(simp [errW_none,errW_some] <;> rfl))|(simp [*,errW_none,errW_some] <;> rfl),by (with_reducible repeat (first|apply Kd.R_alloc|apply Kd.R_drewN|apply Kd.R_drew));exact Kd.R_mono (Kd.R_far (p := ⟨gb146,2,none⟩) (Kd.R_far (p := ⟨gb146,1,none⟩) (Kd.R_far (p := ⟨gb146,0,none⟩) (Kd.R_far (p := ⟨gb144,2,none⟩) (Kd.R_far (p := ⟨gb144,0,none⟩) (Kd.R_types (Kd.R_types HO152.out BK144.out (by decide)) BK146.out (by decide)) (fun _ hk => hk.1.2) (.slice Ao20 t150.length co20)) (fun _ hk => hk.1.2) (.int .i64 ji5)) (fun _ hk => hk.2) (.slice Ao20 t150.length co20)) (fun _ hk => hk.2) (.slice Ao7 l0_1.length co7)) (fun _ hk => hk.2) (.int .i64 ji5)) (fun _ hk => ⟨hk.1.1.1.1.1.1,hk.1.1.1.2⟩),by (with_reducible repeat (first|apply Kd.R_alloc|apply Kd.R_drewN|apply Kd.R_drew));exact Kd.R_mono (Kd.R_far (p := ⟨gb146,2,none⟩) (Kd.R_far (p := ⟨gb146,1,none⟩) (Kd.R_far (p := ⟨gb146,0,none⟩) (Kd.R_far (p := ⟨gb144,2,none⟩) (Kd.R_far (p := ⟨gb144,0,none⟩) (Kd.R_types (Kd.R_types HO0_1.out BK144.out (by decide)) BK146.out (by decide)) (fun _ hk => hk.1.2) (.slice Ao20 t150.length co20)) (fun _ hk => hk.1.2) (.int .i64 ji5)) (fun _ hk => hk.2) (.slice Ao20 t150.length co20)) (fun _ hk => hk.2) (.slice Ao7 l0_1.length co7)) (fun _ hk => hk.2) (.int .i64 ji5)) (fun _ hk => ⟨hk.1.1.1.1.1,hk.1.1.2⟩),bG HB.out,kG HK.out⟩
 ·rw [if_neg c3] at H
  have c3b0 := beq_eq_false_iff_ne.mpr c3
  have c3b1 := bne_iff_ne.mpr c3
  by_cases c24 : a1_1 = 2
  ·rw [if_pos c24] at H
   have c24b0 := beq_iff_eq.mpr c24
   have c24b1 := bne_eq_false_iff_eq.mpr c24
   clear c24
   replace H := Option.bind_eq_some_iff.mp H
   obtain ⟨t153,A250,H⟩ := H
   have A25 := aK A250
   clear A250
   obtain ⟨ji26,hji26⟩ : ∃ j_ : Int,(mx a0_2 a1_2) = j_ := ⟨_,rfl⟩
   replace H : (some (l0_0,t153,ji26)) = some (r1,r2,r3) := by first|(rw [hji26] at H;exact H)|(simp only [hji26] at H ⊢;exact H)
   (try rw [hji26] at A25)
   have hji26_ : (if a0_2 < a1_2 then a1_2 else a0_2) = ji26 := hji26
   simp only [Option.some.injEq,Prod.mk.injEq] at H
   obtain ⟨rfl,rfl,rfl⟩ := H
   obtain ⟨Ao27,co27,eo27⟩ := Kd.R_slice HO0_0.out
   subst eo27
   obtain ⟨Ao28,co28,eo28⟩ := Kd.R_slice HO0_1.out
   subst eo28
   go_enter Tryd.func42,Tryd.ntmps42
   go_wp2_with (first|((with_reducible refine gate_dst (N := 2) rfl ?_);refine box_event ?hg (N := 2) ?hd (cs := #[.slice Ao27 l0_0.length co27,.slice Ao28 l0_1.length co28,.int .i64 a0_2]) (t := 48) ?hr ?_;(case hd => rfl);(case hg => rfl);(case hr => first|(go_simp;done)|(go_simp;rfl));intro gb144 hg w29 hbox hb;replace HO0_0 := aK (Kd.R_below (rM HO0_0.out) hb);replace HO0_1 := aK (Kd.R_below (rM HO0_1.out) hb);replace HO1_3 := aK (Kd.V_below (Kd.V_elderB (vM HO1_3.out) gb144 (Nat.le_of_eq hg.symm)) hb);have BK144 := aK (hbox);have GW144 := aK ((by rw [hg];exact (by first|exact HK.out.1|exact (show Kept w _ (fun k_ => P0_0_ k_ ∨ P0_1_ k_) from kG HK.out).1) : w.heap.size ≤ gb144));have GJ144 := Ge.mk GW144.out;replace HK := aK (Kept.below (S := (fun k_ => P0_0_ k_ ∨ P0_1_ k_)) (kG HK.out) hb);have GE144 := aK ((by rw [hg];exact (below_size (bM HB.out)) : w0.heap.size ≤ gb144));have GI144 := Ge.mk GE144.out;replace HB := aK (below_step (bM HB.out) hb);clear hb hbox hg)|((with_reducible refine gate_dst (N := 3) rfl ?_);refine box_event ?hg (N := 3) ?hd (cs := #[.int .i64 a1_0,.int .i64 a1_1,.int .i64 a1_2,.slice A1_3 l1_3.length c1_3,.slice A1_4 l1_4.length c1_4,.slice A1_5 l1_5.length c1_5]) (t := 37) ?hr ?_;(case hd => rfl);(case hg => rfl);(case hr => first|(go_simp;done)|(go_simp;rfl));intro gb145 hg w30 hbox hb;replace HO0_0 := aK (Kd.R_below (rM HO0_0.out) hb);replace HO0_1 := aK (Kd.R_below (rM HO0_1.out) hb);replace HO1_3 := aK (Kd.V_below (Kd.V_elderB (vM HO1_3.out) gb145 (Nat.le_of_eq hg.symm)) hb);have BK145 := aK (hbox);have GW145 := aK ((by rw [hg];exact (by first|exact HK.out.1|exact (show Kept w _ (fun k_ => P0_0_ k_ ∨ P0_1_ k_) from kG HK.out).1) : w.heap.size ≤ gb145));have GJ145 := Ge.mk GW145.out;replace HK := aK (Kept.below (S := (fun k_ => P0_0_ k_ ∨ P0_1_ k_)) (kG HK.out) hb);have GE145 := aK ((by rw [hg];exact (below_size (bG HB.out)) : w0.heap.size ≤ gb145));have GI145 := Ge.mk GE145.out;replace HB := aK (below_step (bG HB.out) hb);have NB144_145 := aK (nbL BK144.out hg);have NB145_144 := aK (nbR BK144.out hg);replace BK144 := aK (blk_below (kM BK144.out) hb);clear hb hbox hg)|((with_reducible refine gate_dst (N := 4) rfl ?_);refine box_event ?hg (N := 4) ?hd (cs := #[.slice none 0 0,.slice none 0 0,.int .i64 0]) (t := 48) ?hr ?_;(case hd => rfl);(case hg => rfl);(case hr => first|(go_simp;done)|(go_simp;rfl));intro gb146 hg w31 hbox hb;replace HO0_0 := aK (Kd.R_below (rM HO0_0.out) hb);replace HO0_1 := aK (Kd.R_below (rM HO0_1.out) hb);replace HO1_3 := aK (Kd.V_below (Kd.V_elderB (vM HO1_3.out) gb146 (Nat.le_of_eq hg.symm)) hb);have BK146 := aK (hbox);have GW146 := aK ((by rw [hg];exact (by first|exact HK.out.1|exact (show Kept w _ (fun k_ => P0_0_ k_ ∨ P0_1_ k_) from kG HK.out).1) : w.heap.size ≤ gb146));have GJ146 := Ge.mk GW146.out;replace HK := aK (Kept.below (S := (fun k_ => P0_0_ k_ ∨ P0_1_ k_)) (kG HK.out) hb);have GE146 := aK ((by rw [hg];exact (below_size (bG HB.out)) : w0.heap.size ≤ gb146));have GI146 := Ge.mk GE146.out;replace HB := aK (below_step (bG HB.out) hb);have NB144_146 := aK (nbL BK144.out hg);have NB146_144 := aK (nbR BK144.out hg);replace BK144 := aK (blk_below (kM BK144.out) hb);have NB145_146 := aK (nbL BK145.out hg);have NB146_145 := aK (nbR BK145.out hg);replace BK145 := aK (blk_below (kM BK145.out) hb);clear hb hbox hg;have hnb32 := NB145_144.out;have hnc32 := NB144_145.out;have hnb33 := NB145_146.out;have hnc33 := NB146_145.out;obtain ⟨_,_,_,_,_,_,_,_,_,_,_,_⟩ := bk6_ BK145.out;have hnb35 := NB144_146.out;have hnc35 := NB146_144.out;obtain ⟨_,_,_,_,_,_⟩ := bk3_ BK144.out)|((with_reducible refine gate_callee (f := 49) rfl ?_);refine goesL_ (some 22) rfl rfl Tryd.func49 (by kernel_rfl) rfl #[.slice Ao28 l0_1.length co28,.slice A1_3 l1_3.length c1_3] rfl (by (try simp only [List.map_toArray,List.map_cons,List.map_nil]);first|done|rfl|(simp only [List.length_drop,List.length_take];rfl)) ?_;(with_reducible refine (posting_Or.calls k (fun k_ => some k_ = (.slice Ao28 l0_1.length co28 : Value).ownBlock) _ _ l0_1 (fun k_ => ((((((P0_0_ k_ ∨ P0_1_ k_ ∨ P1_3_ k_) ∨ w.heap.size ≤ k_) ∧ (some k_ ≠ (.slice Ao27 l0_0.length co27 : Value).ownBlock ∧ some k_ ≠ (.slice Ao28 l0_1.length co28 : Value).ownBlock)) ∧ k_ ≠ gb144) ∧ k_ ≠ gb145) ∧ k_ ≠ gb146)) _ _ l1_3 t153 _ ?side1 ?side2 A25.out).mono ?_);(case side1 => exact Kd.R_V (Kd.R_tight rfl (Kd.R_types (Kd.R_types (Kd.R_types (HO0_1.out) BK144.out (by decide)) BK145.out (by decide)) BK146.out (by decide))));(case side2 => exact HO1_3.out);rintro e w37 ⟨v154,rfl,ho0,hb⟩;refine ⟨_,rfl,?_⟩;replace HO1_3 := aK (Kd.V_elder' (vM HO1_3.out) (Kd.R_base ho0) hb);have HO155 := aK (Kd.R_lower (Kd.R_new' (Kd.R_new' (Kd.R_newM (M := fun k_ => ((P0_0_ k_ ∨ P0_1_ k_) ∨ w.heap.size ≤ k_)) (Kd.R_mono (ok' := fun k_ => True) ho0 (fun _ hk_ => trivial)) (by first|exact HK.out.1|exact (show Kept w _ (fun k_ => P0_0_ k_ ∨ P0_1_ k_) from kG HK.out).1) (fun k_ h_ => .inr h_)) (Kd.R_lt (rM HO0_0.out))) (Kd.R_lt (rM HO0_1.out))) (below_size (bG HB.out)));replace HO0_0 := aK (Kd.R_elder' (rM HO0_0.out) (Kd.R_base ho0) hb);replace HO0_1 := aK (Kd.R_elder' (rM HO0_1.out) (Kd.R_base ho0) hb);replace BK144 := aK (blk_below (kM BK144.out) hb);replace BK145 := aK (blk_below (kM BK145.out) hb);replace BK146 := aK (blk_below (kM BK146.out) hb);replace HK := aK (Kept.below (S := (fun k_ => P0_0_ k_ ∨ P0_1_ k_)) (kG HK.out) hb);replace HB := aK (below_step (bG HB.out) hb);(try clear hb);(try clear hk);(try clear ho0);obtain ⟨Ao38,co38,eo38⟩ := Kd.R_slice HO155.out;subst eo38;obtain ⟨_,_,_,_,_,_⟩ := bk3_ BK144.out;obtain ⟨_,_,_,_,_,_,_,_,_,_,_,_⟩ := bk6_ BK145.out;obtain ⟨_,_,_,_,_,_⟩ := bk3_ BK146.out))
   refine bodyPost_ret (results_cell_row rfl _ _ gb146 48 #[.slice Ao27 l0_0.length co27,.slice Ao38 t153.length co38,.int .i64 ji26] (0,0) _ rfl (by (with_reducible repeat (first|refine blk_drewN ?_ _|refine blk_drew ?_|refine blk_alloc ?_ _));refine blk_put (cs := #[.slice Ao27 l0_0.length co27,.slice Ao38 t153.length co38,.int .i64 0]) ?_ 2 _ rfl;(with_reducible repeat (first|refine blk_drewN ?_ _|refine blk_drew ?_|refine blk_alloc ?_ _));refine blk_put (cs := #[.slice Ao27 l0_0.length co27,.slice none 0 0,.int .i64 0]) ?_ 1 _ rfl;(with_reducible repeat (first|refine blk_drewN ?_ _|refine blk_drew ?_|refine blk_alloc ?_ _));refine blk_put (cs := #[.slice none 0 0,.slice none 0 0,.int .i64 0]) ?_ 0 _ rfl;(with_reducible repeat (first|refine blk_drewN ?_ _|refine blk_drew ?_|refine blk_alloc ?_ _));refine blk_far ?_ NB146_144.out _;(with_reducible repeat (first|refine blk_drewN ?_ _|refine blk_drew ?_|refine blk_alloc ?_ _));refine blk_far ?_ NB146_144.out _;(with_reducible repeat (first|refine blk_drewN ?_ _|refine blk_drew ?_|refine blk_alloc ?_ _));exact BK146.out) Tryd.underlying48 rfl (by kernel_rfl)) rfl ?_
   exact ⟨_,_,by first|rfl|(simp [errW_none,errW_some] <;> rfl)|(simp only [← hji26];first|rfl|(simp [errW_none,errW_some] <;> rfl))|(simp [*,errW_none,errW_some] <;> rfl),by (with_reducible repeat (first|apply Kd.R_alloc|apply Kd.R_drewN|apply Kd.R_drew));exact Kd.R_mono (Kd.R_far (p := ⟨gb146,2,none⟩) (Kd.R_far (p := ⟨gb146,1,none⟩) (Kd.R_far (p := ⟨gb146,0,none⟩) (Kd.R_far (p := ⟨gb144,2,none⟩) (Kd.R_far (p := ⟨gb144,1,none⟩) (Kd.R_types (Kd.R_types HO0_0.out BK144.out (by decide)) BK146.out (by decide)) (fun _ hk => hk.1.2) (.slice Ao38 t153.length co38)) (fun _ hk => hk.1.2) (.int .i64 ji26)) (fun _ hk => hk.2) (.slice Ao27 l0_0.length co27)) (fun _ hk => hk.2) (.slice Ao38 t153.length co38)) (fun _ hk => hk.2) (.int .i64 ji26)) (fun _ hk => ⟨hk.1.1.1.1,hk.1.1.2⟩),by (with_reducible repeat (first|apply Kd.R_alloc|apply Kd.R_drewN|apply Kd.R_drew));exact Kd.R_mono (Kd.R_far (p := ⟨gb146,2,none⟩) (Kd.R_far (p := ⟨gb146,1,none⟩) (Kd.R_far (p := ⟨gb146,0,none⟩) (Kd.R_far (p := ⟨gb144,2,none⟩) (Kd.R_far (p := ⟨gb144,1,none⟩) (Kd.R_types (Kd.R_types HO155.out BK144.out (by decide)) BK146.out (by decide)) (fun _ hk => hk.1.2) (.slice Ao38 t153.length co38)) (fun _ hk => hk.1.2) (.int .i64 ji26)) (fun _ hk => hk.2) (.slice Ao27 l0_0.length co27)) (fun _ hk => hk.2) (.slice Ao38 t153.length co38)) (fun _ hk => hk.2) (.int .i64 ji26)) (fun _ hk => ⟨hk.1.1.1.1.1,hk.1.1.1.2⟩),bG HB.out,kG HK.out⟩
  ·rw [if_neg c24] at H
   have c24b0 := beq_eq_false_iff_ne.mpr c24
   have c24b1 := bne_iff_ne.mpr c24
   by_cases c42 : a1_1 = 3
   ·rw [if_pos c42] at H
    have c42b0 := beq_iff_eq.mpr c42
    have c42b1 := bne_eq_false_iff_eq.mpr c42
    clear c42
    replace H := Option.bind_eq_some_iff.mp H
    obtain ⟨t156,A430,H⟩ := H
    have A43 := aK A430
    clear A430
    obtain ⟨y159,hy159⟩ : ∃ y_ : List Int,y_ = (([a1_2] : List Int)) := ⟨_,rfl⟩
    replace H : ((posting_Or.f k t156 y159).bind fun t162 => (some (t162,([] : List Int),mx a0_2 a1_2))) = some (r1,r2,r3) := by first|(rw [hy159];with_reducible exact H)|(have H2_ := (Option.bind_some _ _).symm.trans H;rw [hy159];with_reducible exact H2_)|(have H2_ := (Option.bind_some _ _).symm.trans H;with_reducible exact H2_)|with_reducible exact H|(rw [hy159];exact H)|exact H
    have Ny159 := aK hy159
    clear hy159
    replace H := Option.bind_eq_some_iff.mp H
    obtain ⟨t162,A440,H⟩ := H
    have A44 := aK A440
    clear A440
    obtain ⟨ji45,hji45⟩ : ∃ j_ : Int,(mx a0_2 a1_2) = j_ := ⟨_,rfl⟩
    replace H : (some (t162,([] : List Int),ji45)) = some (r1,r2,r3) := by first|(rw [hji45] at H;exact H)|(simp only [hji45] at H ⊢;exact H)
    (try rw [hji45] at A43)
    (try rw [hji45] at A44)
    have hji45_ : (if a0_2 < a1_2 then a1_2 else a0_2) = ji45 := hji45
    simp only [Option.some.injEq,Prod.mk.injEq] at H
    obtain ⟨rfl,rfl,rfl⟩ := H
    obtain ⟨Ao46,co46,eo46⟩ := Kd.R_slice HO0_0.out
    subst eo46
    obtain ⟨Ao47,co47,eo47⟩ := Kd.R_slice HO0_1.out
    subst eo47
    go_enter Tryd.func42,Tryd.ntmps42
    try go_wp2_with (first|((with_reducible refine gate_dst (N := 2) rfl ?_);refine box_event ?hg (N := 2) ?hd (cs := #[.slice Ao46 l0_0.length co46,.slice Ao47 l0_1.length co47,.int .i64 a0_2]) (t := 48) ?hr ?_;(case hd => rfl);(case hg => rfl);(case hr => first|(go_simp;done)|(go_simp;rfl));intro gb144 hg w48 hbox hb;replace HO0_0 := aK (Kd.R_below (rM HO0_0.out) hb);replace HO0_1 := aK (Kd.R_below (rM HO0_1.out) hb);replace HO1_3 := aK (Kd.V_below (Kd.V_elderB (vM HO1_3.out) gb144 (Nat.le_of_eq hg.symm)) hb);have BK144 := aK (hbox);have GW144 := aK ((by rw [hg];exact (by first|exact HK.out.1|exact (show Kept w _ (fun k_ => P0_0_ k_ ∨ P0_1_ k_) from kG HK.out).1) : w.heap.size ≤ gb144));have GJ144 := Ge.mk GW144.out;replace HK := aK (Kept.below (S := (fun k_ => P0_0_ k_ ∨ P0_1_ k_)) (kG HK.out) hb);have GE144 := aK ((by rw [hg];exact (below_size (bM HB.out)) : w0.heap.size ≤ gb144));have GI144 := Ge.mk GE144.out;replace HB := aK (below_step (bM HB.out) hb);clear hb hbox hg)|((with_reducible refine gate_dst (N := 3) rfl ?_);refine box_event ?hg (N := 3) ?hd (cs := #[.int .i64 a1_0,.int .i64 a1_1,.int .i64 a1_2,.slice A1_3 l1_3.length c1_3,.slice A1_4 l1_4.length c1_4,.slice A1_5 l1_5.length c1_5]) (t := 37) ?hr ?_;(case hd => rfl);(case hg => rfl);(case hr => first|(go_simp;done)|(go_simp;rfl));intro gb145 hg w49 hbox hb;replace HO0_0 := aK (Kd.R_below (rM HO0_0.out) hb);replace HO0_1 := aK (Kd.R_below (rM HO0_1.out) hb);replace HO1_3 := aK (Kd.V_below (Kd.V_elderB (vM HO1_3.out) gb145 (Nat.le_of_eq hg.symm)) hb);have BK145 := aK (hbox);have GW145 := aK ((by rw [hg];exact (by first|exact HK.out.1|exact (show Kept w _ (fun k_ => P0_0_ k_ ∨ P0_1_ k_) from kG HK.out).1) : w.heap.size ≤ gb145));have GJ145 := Ge.mk GW145.out;replace HK := aK (Kept.below (S := (fun k_ => P0_0_ k_ ∨ P0_1_ k_)) (kG HK.out) hb);have GE145 := aK ((by rw [hg];exact (below_size (bG HB.out)) : w0.heap.size ≤ gb145));have GI145 := Ge.mk GE145.out;replace HB := aK (below_step (bG HB.out) hb);have NB144_145 := aK (nbL BK144.out hg);have NB145_144 := aK (nbR BK144.out hg);replace BK144 := aK (blk_below (kM BK144.out) hb);clear hb hbox hg)|((with_reducible refine gate_dst (N := 4) rfl ?_);refine box_event ?hg (N := 4) ?hd (cs := #[.slice none 0 0,.slice none 0 0,.int .i64 0]) (t := 48) ?hr ?_;(case hd => rfl);(case hg => rfl);(case hr => first|(go_simp;done)|(go_simp;rfl));intro gb146 hg w50 hbox hb;replace HO0_0 := aK (Kd.R_below (rM HO0_0.out) hb);replace HO0_1 := aK (Kd.R_below (rM HO0_1.out) hb);replace HO1_3 := aK (Kd.V_below (Kd.V_elderB (vM HO1_3.out) gb146 (Nat.le_of_eq hg.symm)) hb);have BK146 := aK (hbox);have GW146 := aK ((by rw [hg];exact (by first|exact HK.out.1|exact (show Kept w _ (fun k_ => P0_0_ k_ ∨ P0_1_ k_) from kG HK.out).1) : w.heap.size ≤ gb146));have GJ146 := Ge.mk GW146.out;replace HK := aK (Kept.below (S := (fun k_ => P0_0_ k_ ∨ P0_1_ k_)) (kG HK.out) hb);have GE146 := aK ((by rw [hg];exact (below_size (bG HB.out)) : w0.heap.size ≤ gb146));have GI146 := Ge.mk GE146.out;replace HB := aK (below_step (bG HB.out) hb);have NB144_146 := aK (nbL BK144.out hg);have NB146_144 := aK (nbR BK144.out hg);replace BK144 := aK (blk_below (kM BK144.out) hb);have NB145_146 := aK (nbL BK145.out hg);have NB146_145 := aK (nbR BK145.out hg);replace BK145 := aK (blk_below (kM BK145.out) hb);clear hb hbox hg;have hnb51 := NB145_144.out;have hnc51 := NB144_145.out;have hnb52 := NB145_146.out;have hnc52 := NB146_145.out;obtain ⟨_,_,_,_,_,_,_,_,_,_,_,_⟩ := bk6_ BK145.out))
    have n0_ := aK (Kd.R_drew HO0_0.out)
    have n1_ := aK (Kd.R_drew HO0_1.out)
    have n2_ := aK (Kd.V_drew HO1_3.out)
    have n3_ := aK (blk_drew BK144.out)
    have n4_ := aK (blk_drew BK145.out)
    have n5_ := aK (blk_drew BK146.out)
    have n6_ := aK (Kept.drew HK.out)
    have n7_ := aK (below_drew1 HB.out)
    clear HO0_0
    clear HO0_1
    clear HO1_3
    clear BK144
    clear BK145
    clear BK146
    clear HK
    clear HB
    have HO0_0 := n0_
    have HO0_1 := n1_
    have HO1_3 := n2_
    have BK144 := n3_
    have BK145 := n4_
    have BK146 := n5_
    have HK := n6_
    have HB := n7_
    clear n0_ n1_ n2_ n3_ n4_ n5_ n6_ n7_
    refine start_ (n := 11) (S := fun w' => w'.cell? ⟨gb144,0,none⟩ = some (.slice Ao46 l0_0.length co46) ∧ w'.cell? ⟨gb144,1,none⟩ = some (.slice Ao47 l0_1.length co47) ∧ w'.cell? ⟨gb144,2,none⟩ = some (.int .i64 a0_2) ∧ w'.cell? ⟨gb145,0,none⟩ = some (.int .i64 a1_0) ∧ w'.cell? ⟨gb145,1,none⟩ = some (.int .i64 a1_1) ∧ w'.cell? ⟨gb145,2,none⟩ = some (.int .i64 a1_2) ∧ w'.cell? ⟨gb145,3,none⟩ = some (.slice A1_3 l1_3.length c1_3) ∧ w'.cell? ⟨gb145,4,none⟩ = some (.slice A1_4 l1_4.length c1_4) ∧ w'.cell? ⟨gb145,5,none⟩ = some (.slice A1_5 l1_5.length c1_5)) (ds := [10]) #[false,false,false,false,false,false,false,false,false,false,false] (by kernel_rfl) rfl rfl ⟨(blk_cell BK144.out 0).trans rfl,(blk_cell BK144.out 1).trans rfl,(blk_cell BK144.out 2).trans rfl,(blk_cell BK145.out 0).trans rfl,(blk_cell BK145.out 1).trans rfl,(blk_cell BK145.out 2).trans rfl,(blk_cell BK145.out 3).trans rfl,(blk_cell BK145.out 4).trans rfl,(blk_cell BK145.out 5).trans rfl⟩ (fun hHeld => ?_);refine with_tabW manifest_state_after.tab7 manifest_state_after.bits7 (fun HT_ HW_ => ?_)
    generalize w50.drew = w54 at HO0_0 HO0_1 HO1_3 BK144 BK145 BK146 HK HB hHeld ⊢
    refine pure_ (i := 0) (N := some 26) (v := ?_) (a' := ?_) #[true,false,false,false,false,false,false,false,false,false,false] rfl rfl (any_of HT_.out (by kernel_rfl)) (fun _ _ _ h => h) (Or.inl ⟨by rfl,?_⟩) ?_ ?_
    rotate_left
    ·intro w'
     go_simp
     with_reducible rfl
    rotate_left
    ·simp only [Act.put,List.setIfInBounds_toArray,List.set_cons_zero,List.set_cons_succ,i64_w,i32_w]
     rfl
    refine pure_ (i := 2) (N := some 28) (v := ?_) (a' := ?_) #[true,false,true,false,false,false,false,false,false,false,false] rfl rfl (any_of HT_.out (by kernel_rfl)) (fun _ _ _ h => h) (Or.inl ⟨by rfl,?_⟩) ?_ ?_
    rotate_left
    ·intro w'
     go_simp
     with_reducible rfl
    rotate_left
    ·simp only [Act.put,List.setIfInBounds_toArray,List.set_cons_zero,List.set_cons_succ,i64_w,i32_w]
     rfl
    refine pure_ (i := 5) (N := some 31) (v := ?_) (a' := ?_) #[true,false,true,false,false,true,false,false,false,false,false] rfl rfl (any_of HT_.out (by kernel_rfl)) (fun _ _ _ h => h) (Or.inl ⟨by rfl,?_⟩) ?_ ?_
    rotate_left
    ·intro w'
     go_simp
     with_reducible rfl
    rotate_left
    ·simp only [Act.put,List.setIfInBounds_toArray,List.set_cons_zero,List.set_cons_succ,i64_w,i32_w]
     rfl
    refine take_ (i := 1) (N := some 27) (v := ?_) (a' := ?_) #[true,true,true,false,false,true,false,false,false,false,false] rfl rfl (take_ofW HT_.out HW_.out (by kernel_rfl)) (fun _ _ _ h => h) (Or.inl ⟨by rfl,?_⟩) hHeld ?_ ?_
    rotate_left
    ·rintro w' ⟨s0,s1,s2,s3,s4,s5,s6,s7,s8⟩
     go_simp
     with_reducible rfl
    rotate_left
    ·simp only [Act.put,List.setIfInBounds_toArray,List.set_cons_zero,List.set_cons_succ,i64_w,i32_w]
     rfl
    refine take_ (i := 3) (N := some 29) (v := ?_) (a' := ?_) #[true,true,true,true,false,true,false,false,false,false,false] rfl rfl (take_ofW HT_.out HW_.out (by kernel_rfl)) (fun _ _ _ h => h) (Or.inl ⟨by rfl,?_⟩) hHeld ?_ ?_
    rotate_left
    ·rintro w' ⟨s0,s1,s2,s3,s4,s5,s6,s7,s8⟩
     go_simp
     with_reducible rfl
    rotate_left
    ·simp only [Act.put,List.setIfInBounds_toArray,List.set_cons_zero,List.set_cons_succ,i64_w,i32_w]
     rfl
    refine take_ (i := 6) (N := some 32) (v := ?_) (a' := ?_) #[true,true,true,true,false,true,true,false,false,false,false] rfl rfl (take_ofW HT_.out HW_.out (by kernel_rfl)) (fun _ _ _ h => h) (Or.inl ⟨by rfl,?_⟩) hHeld ?_ ?_
    rotate_left
    ·rintro w' ⟨s0,s1,s2,s3,s4,s5,s6,s7,s8⟩
     go_simp
     with_reducible rfl
    rotate_left
    ·simp only [Act.put,List.setIfInBounds_toArray,List.set_cons_zero,List.set_cons_succ,i64_w,i32_w]
     rfl
    refine join_ (σ := Value × Value) 3 #[true,true,true,true,true,true,true,true,false,false,false] (fun s_ => [(30,s_.1),(33,s_.2)]) (fun s_ w' => (w'.cell? ⟨gb144,0,none⟩ = some (.slice Ao46 l0_0.length co46) ∧ w'.cell? ⟨gb144,1,none⟩ = some (.slice Ao47 l0_1.length co47) ∧ w'.cell? ⟨gb144,2,none⟩ = some (.int .i64 a0_2) ∧ w'.cell? ⟨gb145,0,none⟩ = some (.int .i64 a1_0) ∧ w'.cell? ⟨gb145,1,none⟩ = some (.int .i64 a1_1) ∧ w'.cell? ⟨gb145,2,none⟩ = some (.int .i64 a1_2) ∧ w'.cell? ⟨gb145,3,none⟩ = some (.slice A1_3 l1_3.length c1_3) ∧ w'.cell? ⟨gb145,4,none⟩ = some (.slice A1_4 l1_4.length c1_4) ∧ w'.cell? ⟨gb145,5,none⟩ = some (.slice A1_5 l1_5.length c1_5)) ∧ (Kd.R (Kd.int .i64) 3 w' w0.heap.size (fun k_ => ((P0_0_ k_ ∨ P0_1_ k_) ∨ w.heap.size ≤ k_) ∧ some k_ ≠ (.slice Ao47 l0_1.length co47 : Value).ownBlock ∧ some k_ ≠ (s_.1 : Value).ownBlock ∧ some k_ ≠ (s_.2 : Value).ownBlock) (.slice Ao46 l0_0.length co46) l0_0) ∧ (Kd.R (Kd.int .i64) 3 w' w0.heap.size (fun k_ => ((P0_0_ k_ ∨ P0_1_ k_) ∨ w.heap.size ≤ k_) ∧ some k_ ≠ (.slice Ao46 l0_0.length co46 : Value).ownBlock ∧ some k_ ≠ (s_.1 : Value).ownBlock ∧ some k_ ≠ (s_.2 : Value).ownBlock) (.slice Ao47 l0_1.length co47) l0_1) ∧ (Kd.R (Kd.int .i64) 3 w' w0.heap.size (fun k_ => ((P0_0_ k_ ∨ P0_1_ k_) ∨ w.heap.size ≤ k_) ∧ some k_ ≠ (.slice Ao46 l0_0.length co46 : Value).ownBlock ∧ some k_ ≠ (.slice Ao47 l0_1.length co47 : Value).ownBlock ∧ some k_ ≠ (s_.2 : Value).ownBlock) s_.1 t156) ∧ (Kd.R (Kd.int .i64) 3 w' w0.heap.size (fun k_ => ((P0_0_ k_ ∨ P0_1_ k_) ∨ w.heap.size ≤ k_) ∧ some k_ ≠ (.slice Ao46 l0_0.length co46 : Value).ownBlock ∧ some k_ ≠ (.slice Ao47 l0_1.length co47 : Value).ownBlock ∧ some k_ ≠ (s_.1 : Value).ownBlock) s_.2 y159) ∧ (Kd.V (Kd.int .i64) 3 w' w0.heap.size (fun k_ => ((P0_0_ k_ ∨ P0_1_ k_ ∨ P1_3_ k_) ∨ w.heap.size ≤ k_) ∧ some k_ ≠ (.slice Ao46 l0_0.length co46 : Value).ownBlock ∧ some k_ ≠ (.slice Ao47 l0_1.length co47 : Value).ownBlock ∧ some k_ ≠ (s_.1 : Value).ownBlock ∧ some k_ ≠ (s_.2 : Value).ownBlock ∧ k_ ≠ gb144 ∧ k_ ≠ gb145 ∧ k_ ≠ gb146) (.slice A1_3 l1_3.length c1_3) l1_3) ∧ (w'.heap[gb144]? = some (.cells #[.slice Ao46 l0_0.length co46,.slice Ao47 l0_1.length co47,.int .i64 a0_2] 48 (0,0))) ∧ (w'.heap[gb145]? = some (.cells #[.int .i64 a1_0,.int .i64 a1_1,.int .i64 a1_2,.slice A1_3 l1_3.length c1_3,.slice A1_4 l1_4.length c1_4,.slice A1_5 l1_5.length c1_5] 37 (0,0))) ∧ (w'.heap[gb146]? = some (.cells #[.slice none 0 0,.slice none 0 0,.int .i64 0] 48 (0,0))) ∧ (Kept w w' (fun k_ => P0_0_ k_ ∨ P0_1_ k_)) ∧ (Below w0.heap.size w0 w')) ?_ ?_
    rotate_left
    ·intro hCont
     refine two_ (i := 4) (j := 7) (Ni := some 30) (Nj := some 33) #[true,true,true,true,true,true,true,false,false,false,false] #[true,true,true,true,false,true,true,true,false,false,false] rfl rfl rfl rfl (two_of HT_.out (by kernel_rfl)) (by decide) (by decide) (fun K hK => ?_) (fun K hK => ?_)
     ·skip
      refine goes_ Tryd.func50 (by kernel_rfl) rfl #[.slice Ao46 l0_0.length co46,.slice A1_4 l1_4.length c1_4] (by rfl) rfl rfl (by (try simp only [List.map_toArray,List.map_cons,List.map_nil]);first|done|rfl|(simp only [List.length_drop,List.length_take];rfl)) ?_
      with_reducible refine (posting_Minus.calls _ _ l0_0 _ _ l1_4 t156 _ ?side1 ?side2 ?side3 ?side4 A43.out).mono ?_
      (case side1 => exact cM (Kd.R_reads' HO0_0.out).2.2)
      (case side2 => exact (Kd.R_reads' HO0_0.out).2.1)
      (case side3 => exact Kd.C_kept_now HR1_4.out (kG HK.out))
      (case side4 => exact HC1_4.out)
      rintro e w55 ⟨v157,rfl,ho0,hb⟩
      refine ⟨_,rfl,?_⟩
      have n0_ := aK (Kd.R_elder' (rM HO0_0.out) (Kd.R_base ho0) hb)
      have n1_ := aK (Kd.R_elder' (rM HO0_1.out) (Kd.R_base ho0) hb)
      have n2_ := aK (Kd.V_elder' (vM HO1_3.out) (Kd.R_base ho0) hb)
      have n3_ := aK (Kd.R_lower (Kd.R_new' (Kd.R_new' (Kd.R_newM (M := fun k_ => ((P0_0_ k_ ∨ P0_1_ k_) ∨ w.heap.size ≤ k_)) ho0 (by first|exact HK.out.1|exact (show Kept w _ (fun k_ => P0_0_ k_ ∨ P0_1_ k_) from kG HK.out).1) (fun k_ h_ => .inr h_)) (Kd.R_lt (rM HO0_0.out))) (Kd.R_lt (rM HO0_1.out))) (below_size (bG HB.out)))
      have n4_ := aK (blk_below (kM BK144.out) hb)
      have n5_ := aK (blk_below (kM BK145.out) hb)
      have n6_ := aK (blk_below (kM BK146.out) hb)
      have n7_ := aK (Kept.below (S := (fun k_ => P0_0_ k_ ∨ P0_1_ k_)) (kG HK.out) hb)
      have n8_ := aK (below_step (bG HB.out) hb)
      clear HO0_0
      clear HO0_1
      clear HO1_3
      clear BK144
      clear BK145
      clear BK146
      clear HK
      clear HB
      have HO0_0 := n0_
      have HO0_1 := n1_
      have HO1_3 := n2_
      have HO158 := n3_
      have BK144 := n4_
      have BK145 := n5_
      have BK146 := n6_
      have HK := n7_
      have HB := n8_
      clear n0_ n1_ n2_ n3_ n4_ n5_ n6_ n7_ n8_
      (try clear hb)
      
      (try clear hk)
      
      (try clear ho0)
      refine hK.out _ _ ⟨(blk_cell BK144.out 0).trans rfl,(blk_cell BK144.out 1).trans rfl,(blk_cell BK144.out 2).trans rfl,(blk_cell BK145.out 0).trans rfl,(blk_cell BK145.out 1).trans rfl,(blk_cell BK145.out 2).trans rfl,(blk_cell BK145.out 3).trans rfl,(blk_cell BK145.out 4).trans rfl,(blk_cell BK145.out 5).trans rfl⟩ (fun hHeld => ?_)
      clear hK K
      refine norm_ (a' := ?_) ?_ ?_
      rotate_left
      ·show Act.put _ (some 30) _ = _
       simp only [Act.put,List.setIfInBounds_toArray,List.set_cons_zero,List.set_cons_succ,i64_w,i32_w]
       rfl
      refine one_ (i := 7) (N := some 33) #[true,true,true,true,true,true,true,true,false,false,false] rfl rfl (one_of HT_.out (by kernel_rfl)) (by decide) (fun K hK => ?_)
      refine Kd.R_lit_step (Kd.int .i64) _ 3 ?hg (N := 33) ?hd (xs := ([a1_2] : List Int)) (inner := [.int .i64 a1_2]) (ok := fun _ => True) (okp := fun _ => True) ?hr ?hp (fun _ hk => hk) trivial (Below.refl _ _) (Nat.le_refl _) (by simp) ?_;(case hd => rfl);(case hg => rfl);(case hr => first|(go_simp;done)|(go_simp;rfl));(case hp => exact (Reps.one (show Kd.M (Kd.int .i64) _ _ _ a1_2 [.int .i64 a1_2] from rfl) (Reps.none _ _)))
      intro v160 w56 ho57 hb hg_ hnew_
      clear hg_ hnew_
      (first|rw [← Ny159.out] at ho57|(simp only [Int.reduceToNat] at ho57;rw [← Ny159.out] at ho57))
      have n0_ := aK (Kd.R_elder' (rM HO0_0.out) (Kd.R_base ho57) hb)
      have n1_ := aK (Kd.R_elder' (rM HO0_1.out) (Kd.R_base ho57) hb)
      have n2_ := aK (Kd.V_elder' (vM HO1_3.out) (Kd.R_base ho57) hb)
      have n3_ := aK (Kd.R_elder' (rM HO158.out) (Kd.R_base ho57) hb)
      have n4_ := aK (Kd.R_lower (Kd.R_new' (Kd.R_new' (Kd.R_new' (Kd.R_newM (M := fun k_ => ((P0_0_ k_ ∨ P0_1_ k_) ∨ w.heap.size ≤ k_)) ho57 (by first|exact HK.out.1|exact (show Kept w _ (fun k_ => P0_0_ k_ ∨ P0_1_ k_) from kG HK.out).1) (fun k_ h_ => .inr h_)) (Kd.R_lt (rM HO0_0.out))) (Kd.R_lt (rM HO0_1.out))) (Kd.R_lt (rM HO158.out))) (below_size (bG HB.out)))
      have n5_ := aK (blk_below (kM BK144.out) hb)
      have n6_ := aK (blk_below (kM BK145.out) hb)
      have n7_ := aK (blk_below (kM BK146.out) hb)
      have n8_ := aK (Kept.below (S := (fun k_ => P0_0_ k_ ∨ P0_1_ k_)) (kG HK.out) hb)
      have n9_ := aK (below_step (bG HB.out) hb)
      clear HO0_0
      clear HO0_1
      clear HO1_3
      clear HO158
      clear BK144
      clear BK145
      clear BK146
      clear HK
      clear HB
      have HO0_0 := n0_
      have HO0_1 := n1_
      have HO1_3 := n2_
      have HO158 := n3_
      have HO161 := n4_
      have BK144 := n5_
      have BK145 := n6_
      have BK146 := n7_
      have HK := n8_
      have HB := n9_
      clear n0_ n1_ n2_ n3_ n4_ n5_ n6_ n7_ n8_ n9_
      clear hb ho57
      refine hK.out _ _ ⟨(blk_cell BK144.out 0).trans rfl,(blk_cell BK144.out 1).trans rfl,(blk_cell BK144.out 2).trans rfl,(blk_cell BK145.out 0).trans rfl,(blk_cell BK145.out 1).trans rfl,(blk_cell BK145.out 2).trans rfl,(blk_cell BK145.out 3).trans rfl,(blk_cell BK145.out 4).trans rfl,(blk_cell BK145.out 5).trans rfl⟩ (fun hHeld => ?_)
      clear hK K
      refine norm_ (a' := ?_) ?_ ?_
      rotate_left
      ·show Act.put _ (some 33) _ = _
       simp only [Act.put,List.setIfInBounds_toArray,List.set_cons_zero,List.set_cons_succ,i64_w,i32_w]
       rfl
      exact norm_ (by simp only [putAll,Act.put,List.setIfInBounds_toArray,List.set_cons_zero,List.set_cons_succ]) (hCont (v157,v160) _ ⟨hHeld,(by (with_reducible repeat (first|apply Kd.R_alloc|apply Kd.R_drewN|apply Kd.R_drew));exact Kd.R_mono HO0_0.out (fun _ hk => ⟨hk.1.1.1,⟨hk.1.1.2,⟨hk.1.2,hk.2⟩⟩⟩)),(by (with_reducible repeat (first|apply Kd.R_alloc|apply Kd.R_drewN|apply Kd.R_drew));exact Kd.R_mono HO0_1.out (fun _ hk => ⟨hk.1.1.1,⟨hk.1.1.2,⟨hk.1.2,hk.2⟩⟩⟩)),(by (with_reducible repeat (first|apply Kd.R_alloc|apply Kd.R_drewN|apply Kd.R_drew));exact Kd.R_mono HO158.out (fun _ hk => ⟨hk.1.1.1.1,⟨hk.1.1.2,⟨hk.1.2,hk.2⟩⟩⟩)),(by (with_reducible repeat (first|apply Kd.R_alloc|apply Kd.R_drewN|apply Kd.R_drew));exact Kd.R_mono HO161.out (fun _ hk => ⟨hk.1.1.1.1,⟨hk.1.1.2,⟨hk.1.2,hk.2⟩⟩⟩)),(by (with_reducible repeat (first|apply Kd.V_alloc|apply Kd.V_drewN|apply Kd.V_drew));exact Kd.V_mono HO1_3.out (fun _ hk => ⟨hk.1.1.1.1.1.1,⟨hk.1.1.1.1.1.2.1,⟨hk.1.1.1.1.1.2.2,⟨hk.1.2,⟨hk.2,⟨hk.1.1.1.1.2,⟨hk.1.1.1.2,hk.1.1.2⟩⟩⟩⟩⟩⟩⟩)),(kM BK144.out),(kM BK145.out),(kM BK146.out),(kG HK.out),(bG HB.out)⟩)
     ·skip
      refine Kd.R_lit_step (Kd.int .i64) _ 3 ?hg (N := 33) ?hd (xs := ([a1_2] : List Int)) (inner := [.int .i64 a1_2]) (ok := fun _ => True) (okp := fun _ => True) ?hr ?hp (fun _ hk => hk) trivial (Below.refl _ _) (Nat.le_refl _) (by simp) ?_;(case hd => rfl);(case hg => rfl);(case hr => first|(go_simp;done)|(go_simp;rfl));(case hp => exact (Reps.one (show Kd.M (Kd.int .i64) _ _ _ a1_2 [.int .i64 a1_2] from rfl) (Reps.none _ _)))
      intro v160 w55 ho56 hb hg_ hnew_
      clear hg_ hnew_
      (first|rw [← Ny159.out] at ho56|(simp only [Int.reduceToNat] at ho56;rw [← Ny159.out] at ho56))
      have n0_ := aK (Kd.R_elder' (rM HO0_0.out) (Kd.R_base ho56) hb)
      have n1_ := aK (Kd.R_elder' (rM HO0_1.out) (Kd.R_base ho56) hb)
      have n2_ := aK (Kd.V_elder' (vM HO1_3.out) (Kd.R_base ho56) hb)
      have n3_ := aK (Kd.R_lower (Kd.R_new' (Kd.R_new' (Kd.R_newM (M := fun k_ => ((P0_0_ k_ ∨ P0_1_ k_) ∨ w.heap.size ≤ k_)) ho56 (by first|exact HK.out.1|exact (show Kept w _ (fun k_ => P0_0_ k_ ∨ P0_1_ k_) from kG HK.out).1) (fun k_ h_ => .inr h_)) (Kd.R_lt (rM HO0_0.out))) (Kd.R_lt (rM HO0_1.out))) (below_size (bG HB.out)))
      have n4_ := aK (blk_below (kM BK144.out) hb)
      have n5_ := aK (blk_below (kM BK145.out) hb)
      have n6_ := aK (blk_below (kM BK146.out) hb)
      have n7_ := aK (Kept.below (S := (fun k_ => P0_0_ k_ ∨ P0_1_ k_)) (kG HK.out) hb)
      have n8_ := aK (below_step (bG HB.out) hb)
      clear HO0_0
      clear HO0_1
      clear HO1_3
      clear BK144
      clear BK145
      clear BK146
      clear HK
      clear HB
      have HO0_0 := n0_
      have HO0_1 := n1_
      have HO1_3 := n2_
      have HO161 := n3_
      have BK144 := n4_
      have BK145 := n5_
      have BK146 := n6_
      have HK := n7_
      have HB := n8_
      clear n0_ n1_ n2_ n3_ n4_ n5_ n6_ n7_ n8_
      clear hb ho56
      refine hK.out _ _ ⟨(blk_cell BK144.out 0).trans rfl,(blk_cell BK144.out 1).trans rfl,(blk_cell BK144.out 2).trans rfl,(blk_cell BK145.out 0).trans rfl,(blk_cell BK145.out 1).trans rfl,(blk_cell BK145.out 2).trans rfl,(blk_cell BK145.out 3).trans rfl,(blk_cell BK145.out 4).trans rfl,(blk_cell BK145.out 5).trans rfl⟩ (fun hHeld => ?_)
      clear hK K
      refine norm_ (a' := ?_) ?_ ?_
      rotate_left
      ·show Act.put _ (some 33) _ = _
       simp only [Act.put,List.setIfInBounds_toArray,List.set_cons_zero,List.set_cons_succ,i64_w,i32_w]
       rfl
      refine one_ (i := 4) (N := some 30) #[true,true,true,true,true,true,true,true,false,false,false] rfl rfl (one_of HT_.out (by kernel_rfl)) (by decide) (fun K hK => ?_)
      refine goes_ Tryd.func50 (by kernel_rfl) rfl #[.slice Ao46 l0_0.length co46,.slice A1_4 l1_4.length c1_4] (by rfl) rfl rfl (by (try simp only [List.map_toArray,List.map_cons,List.map_nil]);first|done|rfl|(simp only [List.length_drop,List.length_take];rfl)) ?_
      with_reducible refine (posting_Minus.calls _ _ l0_0 _ _ l1_4 t156 _ ?side1 ?side2 ?side3 ?side4 A43.out).mono ?_
      (case side1 => exact cM (Kd.R_reads' HO0_0.out).2.2)
      (case side2 => exact (Kd.R_reads' HO0_0.out).2.1)
      (case side3 => exact Kd.C_kept_now HR1_4.out (kG HK.out))
      (case side4 => exact HC1_4.out)
      rintro e w57 ⟨v157,rfl,ho0,hb⟩
      refine ⟨_,rfl,?_⟩
      have n0_ := aK (Kd.R_elder' (rM HO0_0.out) (Kd.R_base ho0) hb)
      have n1_ := aK (Kd.R_elder' (rM HO0_1.out) (Kd.R_base ho0) hb)
      have n2_ := aK (Kd.V_elder' (vM HO1_3.out) (Kd.R_base ho0) hb)
      have n3_ := aK (Kd.R_elder' (rM HO161.out) (Kd.R_base ho0) hb)
      have n4_ := aK (Kd.R_lower (Kd.R_new' (Kd.R_new' (Kd.R_new' (Kd.R_newM (M := fun k_ => ((P0_0_ k_ ∨ P0_1_ k_) ∨ w.heap.size ≤ k_)) ho0 (by first|exact HK.out.1|exact (show Kept w _ (fun k_ => P0_0_ k_ ∨ P0_1_ k_) from kG HK.out).1) (fun k_ h_ => .inr h_)) (Kd.R_lt (rM HO0_0.out))) (Kd.R_lt (rM HO0_1.out))) (Kd.R_lt (rM HO161.out))) (below_size (bG HB.out)))
      have n5_ := aK (blk_below (kM BK144.out) hb)
      have n6_ := aK (blk_below (kM BK145.out) hb)
      have n7_ := aK (blk_below (kM BK146.out) hb)
      have n8_ := aK (Kept.below (S := (fun k_ => P0_0_ k_ ∨ P0_1_ k_)) (kG HK.out) hb)
      have n9_ := aK (below_step (bG HB.out) hb)
      clear HO0_0
      clear HO0_1
      clear HO1_3
      clear HO161
      clear BK144
      clear BK145
      clear BK146
      clear HK
      clear HB
      have HO0_0 := n0_
      have HO0_1 := n1_
      have HO1_3 := n2_
      have HO161 := n3_
      have HO158 := n4_
      have BK144 := n5_
      have BK145 := n6_
      have BK146 := n7_
      have HK := n8_
      have HB := n9_
      clear n0_ n1_ n2_ n3_ n4_ n5_ n6_ n7_ n8_ n9_
      (try clear hb)
      
      (try clear hk)
      
      (try clear ho0)
      refine hK.out _ _ ⟨(blk_cell BK144.out 0).trans rfl,(blk_cell BK144.out 1).trans rfl,(blk_cell BK144.out 2).trans rfl,(blk_cell BK145.out 0).trans rfl,(blk_cell BK145.out 1).trans rfl,(blk_cell BK145.out 2).trans rfl,(blk_cell BK145.out 3).trans rfl,(blk_cell BK145.out 4).trans rfl,(blk_cell BK145.out 5).trans rfl⟩ (fun hHeld => ?_)
      clear hK K
      refine norm_ (a' := ?_) ?_ ?_
      rotate_left
      ·show Act.put _ (some 30) _ = _
       simp only [Act.put,List.setIfInBounds_toArray,List.set_cons_zero,List.set_cons_succ,i64_w,i32_w]
       rfl
      exact norm_ (by simp only [putAll,Act.put,List.setIfInBounds_toArray,List.set_cons_zero,List.set_cons_succ]) (hCont (v157,v160) _ ⟨hHeld,(by (with_reducible repeat (first|apply Kd.R_alloc|apply Kd.R_drewN|apply Kd.R_drew));exact Kd.R_mono HO0_0.out (fun _ hk => ⟨hk.1.1.1,⟨hk.1.1.2,⟨hk.2,hk.1.2⟩⟩⟩)),(by (with_reducible repeat (first|apply Kd.R_alloc|apply Kd.R_drewN|apply Kd.R_drew));exact Kd.R_mono HO0_1.out (fun _ hk => ⟨hk.1.1.1,⟨hk.1.1.2,⟨hk.2,hk.1.2⟩⟩⟩)),(by (with_reducible repeat (first|apply Kd.R_alloc|apply Kd.R_drewN|apply Kd.R_drew));exact Kd.R_mono HO158.out (fun _ hk => ⟨hk.1.1.1.1,⟨hk.1.1.2,⟨hk.1.2,hk.2⟩⟩⟩)),(by (with_reducible repeat (first|apply Kd.R_alloc|apply Kd.R_drewN|apply Kd.R_drew));exact Kd.R_mono HO161.out (fun _ hk => ⟨hk.1.1.1.1,⟨hk.1.1.2,⟨hk.1.2,hk.2⟩⟩⟩)),(by (with_reducible repeat (first|apply Kd.V_alloc|apply Kd.V_drewN|apply Kd.V_drew));exact Kd.V_mono HO1_3.out (fun _ hk => ⟨hk.1.1.1.1.1.1,⟨hk.1.1.1.1.1.2.1,⟨hk.1.1.1.1.1.2.2,⟨hk.2,⟨hk.1.2,⟨hk.1.1.1.1.2,⟨hk.1.1.1.2,hk.1.1.2⟩⟩⟩⟩⟩⟩⟩)),(kM BK144.out),(kM BK145.out),(kM BK146.out),(kG HK.out),(bG HB.out)⟩)
    rintro ⟨v157,v160⟩ w58 ⟨hS_,h0_,h1_,h2_,h3_,h4_,h5_,h6_,h7_,h8_,h9_⟩
    have n0_ : Aside0 (Kd.R (Kd.int .i64) 3 w58 w0.heap.size (fun k_ => ((P0_0_ k_ ∨ P0_1_ k_) ∨ w.heap.size ≤ k_) ∧ some k_ ≠ (.slice Ao47 l0_1.length co47 : Value).ownBlock ∧ some k_ ≠ (v157 : Value).ownBlock ∧ some k_ ≠ (v160 : Value).ownBlock) (.slice Ao46 l0_0.length co46) l0_0) := ⟨h0_⟩
    have n1_ : Aside0 (Kd.R (Kd.int .i64) 3 w58 w0.heap.size (fun k_ => ((P0_0_ k_ ∨ P0_1_ k_) ∨ w.heap.size ≤ k_) ∧ some k_ ≠ (.slice Ao46 l0_0.length co46 : Value).ownBlock ∧ some k_ ≠ (v157 : Value).ownBlock ∧ some k_ ≠ (v160 : Value).ownBlock) (.slice Ao47 l0_1.length co47) l0_1) := ⟨h1_⟩
    have n2_ : Aside0 (Kd.R (Kd.int .i64) 3 w58 w0.heap.size (fun k_ => ((P0_0_ k_ ∨ P0_1_ k_) ∨ w.heap.size ≤ k_) ∧ some k_ ≠ (.slice Ao46 l0_0.length co46 : Value).ownBlock ∧ some k_ ≠ (.slice Ao47 l0_1.length co47 : Value).ownBlock ∧ some k_ ≠ (v160 : Value).ownBlock) v157 t156) := ⟨h2_⟩
    have n3_ : Aside0 (Kd.R (Kd.int .i64) 3 w58 w0.heap.size (fun k_ => ((P0_0_ k_ ∨ P0_1_ k_) ∨ w.heap.size ≤ k_) ∧ some k_ ≠ (.slice Ao46 l0_0.length co46 : Value).ownBlock ∧ some k_ ≠ (.slice Ao47 l0_1.length co47 : Value).ownBlock ∧ some k_ ≠ (v157 : Value).ownBlock) v160 y159) := ⟨h3_⟩
    have n4_ : Aside0 (Kd.V (Kd.int .i64) 3 w58 w0.heap.size (fun k_ => ((P0_0_ k_ ∨ P0_1_ k_ ∨ P1_3_ k_) ∨ w.heap.size ≤ k_) ∧ some k_ ≠ (.slice Ao46 l0_0.length co46 : Value).ownBlock ∧ some k_ ≠ (.slice Ao47 l0_1.length co47 : Value).ownBlock ∧ some k_ ≠ (v157 : Value).ownBlock ∧ some k_ ≠ (v160 : Value).ownBlock ∧ k_ ≠ gb144 ∧ k_ ≠ gb145 ∧ k_ ≠ gb146) (.slice A1_3 l1_3.length c1_3) l1_3) := ⟨h4_⟩
    have n5_ : Aside0 (w58.heap[gb144]? = some (.cells #[.slice Ao46 l0_0.length co46,.slice Ao47 l0_1.length co47,.int .i64 a0_2] 48 (0,0))) := ⟨h5_⟩
    have n6_ : Aside0 (w58.heap[gb145]? = some (.cells #[.int .i64 a1_0,.int .i64 a1_1,.int .i64 a1_2,.slice A1_3 l1_3.length c1_3,.slice A1_4 l1_4.length c1_4,.slice A1_5 l1_5.length c1_5] 37 (0,0))) := ⟨h6_⟩
    have n7_ : Aside0 (w58.heap[gb146]? = some (.cells #[.slice none 0 0,.slice none 0 0,.int .i64 0] 48 (0,0))) := ⟨h7_⟩
    have n8_ : Aside0 (Kept w w58 (fun k_ => P0_0_ k_ ∨ P0_1_ k_)) := ⟨h8_⟩
    have n9_ : Aside0 (Below w0.heap.size w0 w58) := ⟨h9_⟩
    clear HO0_0
    clear HO0_1
    clear HO1_3
    clear BK144
    clear BK145
    clear BK146
    clear HK
    clear HB
    clear h0_ h1_ h2_ h3_ h4_ h5_ h6_ h7_ h8_ h9_
    have HO0_0 := n0_
    have HO0_1 := n1_
    have HO158 := n2_
    have HO161 := n3_
    have HO1_3 := n4_
    have BK144 := n5_
    have BK145 := n6_
    have BK146 := n7_
    have HK := n8_
    have HB := n9_
    clear n0_ n1_ n2_ n3_ n4_ n5_ n6_ n7_ n8_ n9_
    have hHeld : w58.cell? ⟨gb144,0,none⟩ = some (.slice Ao46 l0_0.length co46) ∧ w58.cell? ⟨gb144,1,none⟩ = some (.slice Ao47 l0_1.length co47) ∧ w58.cell? ⟨gb144,2,none⟩ = some (.int .i64 a0_2) ∧ w58.cell? ⟨gb145,0,none⟩ = some (.int .i64 a1_0) ∧ w58.cell? ⟨gb145,1,none⟩ = some (.int .i64 a1_1) ∧ w58.cell? ⟨gb145,2,none⟩ = some (.int .i64 a1_2) ∧ w58.cell? ⟨gb145,3,none⟩ = some (.slice A1_3 l1_3.length c1_3) ∧ w58.cell? ⟨gb145,4,none⟩ = some (.slice A1_4 l1_4.length c1_4) ∧ w58.cell? ⟨gb145,5,none⟩ = some (.slice A1_5 l1_5.length c1_5) := hS_
    obtain ⟨Ao59,co59,eo59⟩ := Kd.R_slice HO158.out
    (first|subst eo59|(injection eo59 with f1_ f2_ f3_;have f4_ := f1_.symm;have f5_ := f3_.symm;clear f1_ f2_ f3_;subst f4_;subst f5_))
    obtain ⟨Ao60,co60,eo60⟩ := Kd.R_slice HO161.out
    (first|subst eo60|(injection eo60 with f1_ f2_ f3_;have f4_ := f1_.symm;have f5_ := f3_.symm;clear f1_ f2_ f3_;subst f4_;subst f5_))
    refine norm_ (a' := ?_) ?_ ?_
    rotate_left
    ·simp only [putAll,Act.put,List.setIfInBounds_toArray,List.set_cons_zero,List.set_cons_succ]
     rfl
    refine one_ (i := 8) (N := some 34) #[true,true,true,true,true,true,true,true,true,false,false] rfl rfl (one_of HT_.out (by kernel_rfl)) (by decide) (fun K hK => ?_)
    refine goes_ Tryd.func49 (by kernel_rfl) rfl #[.slice Ao59 t156.length co59,.slice Ao60 y159.length co60] (by rfl) rfl rfl (by (try simp only [List.map_toArray,List.map_cons,List.map_nil]);first|done|rfl|(simp only [List.length_drop,List.length_take];rfl)) ?_
    with_reducible refine (posting_Or.calls k (fun k_ => some k_ = (.slice Ao59 t156.length co59 : Value).ownBlock) _ _ t156 (fun k_ => some k_ = (.slice Ao60 y159.length co60 : Value).ownBlock) _ _ y159 t162 _ ?side1 ?side2 A44.out).mono ?_
    (case side1 => exact Kd.R_V (Kd.R_tight rfl (Kd.R_types (Kd.R_types (Kd.R_types (HO158.out) BK144.out (by decide)) BK145.out (by decide)) BK146.out (by decide))))
    (case side2 => exact Kd.R_V (Kd.R_tight rfl (Kd.R_types (Kd.R_types (Kd.R_types (HO161.out) BK144.out (by decide)) BK145.out (by decide)) BK146.out (by decide))))
    rintro e w61 ⟨v163,rfl,ho0,hb⟩
    refine ⟨_,rfl,?_⟩
    have n0_ := aK (Kd.R_elder' (rM HO0_0.out) (Kd.R_base ho0) hb)
    have n1_ := aK (Kd.R_elder' (rM HO0_1.out) (Kd.R_base ho0) hb)
    have n2_ := aK (Kd.V_elder' (vM HO1_3.out) (Kd.R_base ho0) hb)
    have n3_ := aK (Kd.R_elder' (rM HO158.out) (Kd.R_base ho0) hb)
    have n4_ := aK (Kd.R_elder' (rM HO161.out) (Kd.R_base ho0) hb)
    have n5_ := aK (Kd.R_lower (Kd.R_new' (Kd.R_new' (Kd.R_new' (Kd.R_new' (Kd.R_newM (M := fun k_ => ((P0_0_ k_ ∨ P0_1_ k_) ∨ w.heap.size ≤ k_)) (Kd.R_mono (ok' := fun k_ => True) ho0 (fun _ hk_ => trivial)) (by first|exact HK.out.1|exact (show Kept w _ (fun k_ => P0_0_ k_ ∨ P0_1_ k_) from kG HK.out).1) (fun k_ h_ => .inr h_)) (Kd.R_lt (rM HO0_0.out))) (Kd.R_lt (rM HO0_1.out))) (Kd.R_lt (rM HO158.out))) (Kd.R_lt (rM HO161.out))) (below_size (bG HB.out)))
    have n6_ := aK (blk_below (kM BK144.out) hb)
    have n7_ := aK (blk_below (kM BK145.out) hb)
    have n8_ := aK (blk_below (kM BK146.out) hb)
    have n9_ := aK (Kept.below (S := (fun k_ => P0_0_ k_ ∨ P0_1_ k_)) (kG HK.out) hb)
    have n10_ := aK (below_step (bG HB.out) hb)
    clear HO0_0
    clear HO0_1
    clear HO1_3
    clear HO158
    clear HO161
    clear BK144
    clear BK145
    clear BK146
    clear HK
    clear HB
    have HO0_0 := n0_
    have HO0_1 := n1_
    have HO1_3 := n2_
    have HO158 := n3_
    have HO161 := n4_
    have HO164 := n5_
    have BK144 := n6_
    have BK145 := n7_
    have BK146 := n8_
    have HK := n9_
    have HB := n10_
    clear n0_ n1_ n2_ n3_ n4_ n5_ n6_ n7_ n8_ n9_ n10_
    (try clear hb)
    
    (try clear hk)
    
    (try clear ho0)
    obtain ⟨Ao62,co62,eo62⟩ := Kd.R_slice HO164.out
    (first|subst eo62|(injection eo62 with f1_ f2_ f3_;have f4_ := f1_.symm;have f5_ := f3_.symm;clear f1_ f2_ f3_;subst f4_;subst f5_))
    refine hK.out _ _ ⟨(blk_cell BK144.out 0).trans rfl,(blk_cell BK144.out 1).trans rfl,(blk_cell BK144.out 2).trans rfl,(blk_cell BK145.out 0).trans rfl,(blk_cell BK145.out 1).trans rfl,(blk_cell BK145.out 2).trans rfl,(blk_cell BK145.out 3).trans rfl,(blk_cell BK145.out 4).trans rfl,(blk_cell BK145.out 5).trans rfl⟩ (fun hHeld => ?_)
    clear hK K
    refine norm_ (a' := ?_) ?_ ?_
    rotate_left
    ·show Act.put _ (some 34) _ = _
     simp only [Act.put,List.setIfInBounds_toArray,List.set_cons_zero,List.set_cons_succ,i64_w,i32_w]
     rfl
    refine pure_ (i := 9) (N := some 35) (v := ?_) (a' := ?_) #[true,true,true,true,true,true,true,true,true,true,false] rfl rfl (any_of HT_.out (by kernel_rfl)) (fun _ _ _ h => h) (Or.inl ⟨by rfl,?_⟩) ?_ ?_
    rotate_left
    ·intro w'
     go_simp
     with_reducible rfl
    rotate_left
    ·simp only [Act.put,List.setIfInBounds_toArray,List.set_cons_zero,List.set_cons_succ,i64_w,i32_w]
     rfl
    refine last_ (i := 10) (N := none) #[true,true,true,true,true,true,true,true,true,true,true] rfl rfl (one_of HT_.out (by kernel_rfl)) (by decide) (fun K hK => ?_)
    have hs63 : w61.cell? ⟨gb144,0,none⟩ = some (.slice Ao46 l0_0.length co46) := (blk_cell BK144.out 0).trans rfl
    have hfs63 := blk_frozen BK144.out 0
    have hns63_1 := NB145_144.out
    have hns63_2 := NB146_144.out
    have hms63_1 := NB144_145.out
    have hms63_2 := NB144_146.out
    refine skip_ (w1 := ?_) (by rfl) rfl ?_ ?_
    rotate_left
    ·go_simp
     rfl
    refine hK.out _ _ ?_
    clear hK K
    refine done_ (done_of HT_.out (by kernel_rfl)) ?_
    have hnb64 := NB144_146.out
    have hnc64 := NB146_144.out
    obtain ⟨_,_,_,_,_,_⟩ := bk3_ BK144.out
    obtain ⟨_,_,_,_,_,_,_,_,_,_,_,_⟩ := bk6_ BK145.out
    obtain ⟨_,_,_,_,_,_⟩ := bk3_ BK146.out
    try go_wp2
    refine bodyPost_ret (results_cell_row rfl _ _ gb146 48 #[.slice Ao62 t162.length co62,.slice none 0 0,.int .i64 ji45] (0,0) _ rfl (by (with_reducible repeat (first|refine blk_drewN ?_ _|refine blk_drew ?_|refine blk_alloc ?_ _));refine blk_put (cs := #[.slice Ao62 t162.length co62,.slice none 0 0,.int .i64 0]) ?_ 2 _ rfl;(with_reducible repeat (first|refine blk_drewN ?_ _|refine blk_drew ?_|refine blk_alloc ?_ _));refine blk_put (cs := #[.slice Ao62 t162.length co62,.slice none 0 0,.int .i64 0]) ?_ 1 _ rfl;(with_reducible repeat (first|refine blk_drewN ?_ _|refine blk_drew ?_|refine blk_alloc ?_ _));refine blk_put (cs := #[.slice none 0 0,.slice none 0 0,.int .i64 0]) ?_ 0 _ rfl;(with_reducible repeat (first|refine blk_drewN ?_ _|refine blk_drew ?_|refine blk_alloc ?_ _));refine blk_far ?_ NB146_144.out _;(with_reducible repeat (first|refine blk_drewN ?_ _|refine blk_drew ?_|refine blk_alloc ?_ _));refine blk_far ?_ NB146_144.out _;(with_reducible repeat (first|refine blk_drewN ?_ _|refine blk_drew ?_|refine blk_alloc ?_ _));refine blk_far ?_ NB146_144.out _;(with_reducible repeat (first|refine blk_drewN ?_ _|refine blk_drew ?_|refine blk_alloc ?_ _));exact BK146.out) Tryd.underlying48 rfl (by kernel_rfl)) rfl ?_
    exact ⟨_,_,by first|rfl|(simp [errW_none,errW_some] <;> rfl)|(simp only [← hji45];first|rfl|(simp [errW_none,errW_some] <;> rfl))|(simp [*,errW_none,errW_some] <;> rfl),by (with_reducible repeat (first|apply Kd.R_alloc|apply Kd.R_drewN|apply Kd.R_drew));exact Kd.R_mono (Kd.R_far (p := ⟨gb146,2,none⟩) (Kd.R_far (p := ⟨gb146,1,none⟩) (Kd.R_far (p := ⟨gb146,0,none⟩) (Kd.R_far (p := ⟨gb144,2,none⟩) (Kd.R_far (p := ⟨gb144,1,none⟩) (Kd.R_far (p := ⟨gb144,0,none⟩) (Kd.R_types (Kd.R_types HO164.out BK144.out (by decide)) BK146.out (by decide)) (fun _ hk => hk.1.2) (.slice Ao62 t162.length co62)) (fun _ hk => hk.1.2) (.slice none 0 0)) (fun _ hk => hk.1.2) (.int .i64 ji45)) (fun _ hk => hk.2) (.slice Ao62 t162.length co62)) (fun _ hk => hk.2) (.slice none 0 0)) (fun _ hk => hk.2) (.int .i64 ji45)) (fun _ hk => ⟨hk.1.1.1.1.1.1.1,(by simp [Value.ownBlock])⟩),by first|exact Kd.R_nil _ _ _ _ _|exact Kd.N_nil _ _ _ _ _|exact Kd.V_nil _ _ _ _ _|exact Kd.Q_nil _ _ _ _ _|exact Kd.S_nil _ _ _ _ _,bG HB.out,kG HK.out⟩
   ·rw [if_neg c42] at H
    have c42b0 := beq_eq_false_iff_ne.mpr c42
    have c42b1 := bne_iff_ne.mpr c42
    obtain ⟨ji68,hji68⟩ : ∃ j_ : Int,(mx a0_2 a1_2) = j_ := ⟨_,rfl⟩
    replace H : (some (l0_0,l0_1,ji68)) = some (r1,r2,r3) := by first|(rw [hji68] at H;exact H)|(simp only [hji68] at H ⊢;exact H)
    have hji68_ : (if a0_2 < a1_2 then a1_2 else a0_2) = ji68 := hji68
    simp only [Option.some.injEq,Prod.mk.injEq] at H
    obtain ⟨rfl,rfl,rfl⟩ := H
    obtain ⟨Ao69,co69,eo69⟩ := Kd.R_slice HO0_0.out
    subst eo69
    obtain ⟨Ao70,co70,eo70⟩ := Kd.R_slice HO0_1.out
    subst eo70
    go_enter Tryd.func42,Tryd.ntmps42
    go_wp2_with (first|((with_reducible refine gate_dst (N := 2) rfl ?_);refine box_event ?hg (N := 2) ?hd (cs := #[.slice Ao69 l0_0.length co69,.slice Ao70 l0_1.length co70,.int .i64 a0_2]) (t := 48) ?hr ?_;(case hd => rfl);(case hg => rfl);(case hr => first|(go_simp;done)|(go_simp;rfl));intro gb144 hg w71 hbox hb;replace HO0_0 := aK (Kd.R_below (rM HO0_0.out) hb);replace HO0_1 := aK (Kd.R_below (rM HO0_1.out) hb);have BK144 := aK (hbox);have GW144 := aK ((by rw [hg];exact (by first|exact HK.out.1|exact (show Kept w _ (fun k_ => P0_0_ k_ ∨ P0_1_ k_) from kG HK.out).1) : w.heap.size ≤ gb144));have GJ144 := Ge.mk GW144.out;replace HK := aK (Kept.below (S := (fun k_ => P0_0_ k_ ∨ P0_1_ k_)) (kG HK.out) hb);have GE144 := aK ((by rw [hg];exact (below_size (bM HB.out)) : w0.heap.size ≤ gb144));have GI144 := Ge.mk GE144.out;replace HB := aK (below_step (bM HB.out) hb);clear hb hbox hg)|((with_reducible refine gate_dst (N := 3) rfl ?_);refine box_event ?hg (N := 3) ?hd (cs := #[.int .i64 a1_0,.int .i64 a1_1,.int .i64 a1_2,.slice A1_3 l1_3.length c1_3,.slice A1_4 l1_4.length c1_4,.slice A1_5 l1_5.length c1_5]) (t := 37) ?hr ?_;(case hd => rfl);(case hg => rfl);(case hr => first|(go_simp;done)|(go_simp;rfl));intro gb145 hg w72 hbox hb;replace HO0_0 := aK (Kd.R_below (rM HO0_0.out) hb);replace HO0_1 := aK (Kd.R_below (rM HO0_1.out) hb);have BK145 := aK (hbox);have GW145 := aK ((by rw [hg];exact (by first|exact HK.out.1|exact (show Kept w _ (fun k_ => P0_0_ k_ ∨ P0_1_ k_) from kG HK.out).1) : w.heap.size ≤ gb145));have GJ145 := Ge.mk GW145.out;replace HK := aK (Kept.below (S := (fun k_ => P0_0_ k_ ∨ P0_1_ k_)) (kG HK.out) hb);have GE145 := aK ((by rw [hg];exact (below_size (bG HB.out)) : w0.heap.size ≤ gb145));have GI145 := Ge.mk GE145.out;replace HB := aK (below_step (bG HB.out) hb);have NB144_145 := aK (nbL BK144.out hg);have NB145_144 := aK (nbR BK144.out hg);replace BK144 := aK (blk_below (kM BK144.out) hb);clear hb hbox hg)|((with_reducible refine gate_dst (N := 4) rfl ?_);refine box_event ?hg (N := 4) ?hd (cs := #[.slice none 0 0,.slice none 0 0,.int .i64 0]) (t := 48) ?hr ?_;(case hd => rfl);(case hg => rfl);(case hr => first|(go_simp;done)|(go_simp;rfl));intro gb146 hg w73 hbox hb;replace HO0_0 := aK (Kd.R_below (rM HO0_0.out) hb);replace HO0_1 := aK (Kd.R_below (rM HO0_1.out) hb);have BK146 := aK (hbox);have GW146 := aK ((by rw [hg];exact (by first|exact HK.out.1|exact (show Kept w _ (fun k_ => P0_0_ k_ ∨ P0_1_ k_) from kG HK.out).1) : w.heap.size ≤ gb146));have GJ146 := Ge.mk GW146.out;replace HK := aK (Kept.below (S := (fun k_ => P0_0_ k_ ∨ P0_1_ k_)) (kG HK.out) hb);have GE146 := aK ((by rw [hg];exact (below_size (bG HB.out)) : w0.heap.size ≤ gb146));have GI146 := Ge.mk GE146.out;replace HB := aK (below_step (bG HB.out) hb);have NB144_146 := aK (nbL BK144.out hg);have NB146_144 := aK (nbR BK144.out hg);replace BK144 := aK (blk_below (kM BK144.out) hb);have NB145_146 := aK (nbL BK145.out hg);have NB146_145 := aK (nbR BK145.out hg);replace BK145 := aK (blk_below (kM BK145.out) hb);clear hb hbox hg;have hnb74 := NB145_144.out;have hnc74 := NB144_145.out;have hnb75 := NB145_146.out;have hnc75 := NB146_145.out;obtain ⟨_,_,_,_,_,_,_,_,_,_,_,_⟩ := bk6_ BK145.out;have hnb77 := NB144_146.out;have hnc77 := NB146_144.out;obtain ⟨_,_,_,_,_,_⟩ := bk3_ BK144.out;obtain ⟨_,_,_,_,_,_⟩ := bk3_ BK146.out))
    refine bodyPost_ret (results_cell_row rfl _ _ gb146 48 #[.slice Ao69 l0_0.length co69,.slice Ao70 l0_1.length co70,.int .i64 ji68] (0,0) _ rfl (by (with_reducible repeat (first|refine blk_drewN ?_ _|refine blk_drew ?_|refine blk_alloc ?_ _));refine blk_put (cs := #[.slice Ao69 l0_0.length co69,.slice Ao70 l0_1.length co70,.int .i64 0]) ?_ 2 _ rfl;(with_reducible repeat (first|refine blk_drewN ?_ _|refine blk_drew ?_|refine blk_alloc ?_ _));refine blk_put (cs := #[.slice Ao69 l0_0.length co69,.slice none 0 0,.int .i64 0]) ?_ 1 _ rfl;(with_reducible repeat (first|refine blk_drewN ?_ _|refine blk_drew ?_|refine blk_alloc ?_ _));refine blk_put (cs := #[.slice none 0 0,.slice none 0 0,.int .i64 0]) ?_ 0 _ rfl;(with_reducible repeat (first|refine blk_drewN ?_ _|refine blk_drew ?_|refine blk_alloc ?_ _));refine blk_far ?_ NB146_144.out _;(with_reducible repeat (first|refine blk_drewN ?_ _|refine blk_drew ?_|refine blk_alloc ?_ _));exact BK146.out) Tryd.underlying48 rfl (by kernel_rfl)) rfl ?_
    exact ⟨_,_,by first|rfl|(simp [errW_none,errW_some] <;> rfl)|(simp only [← hji68];first|rfl|(simp [errW_none,errW_some] <;> rfl))|(simp [*,errW_none,errW_some] <;> rfl),by (with_reducible repeat (first|apply Kd.R_alloc|apply Kd.R_drewN|apply Kd.R_drew));exact Kd.R_mono (Kd.R_far (p := ⟨gb146,2,none⟩) (Kd.R_far (p := ⟨gb146,1,none⟩) (Kd.R_far (p := ⟨gb146,0,none⟩) (Kd.R_far (p := ⟨gb144,2,none⟩) (Kd.R_types (Kd.R_types HO0_0.out BK144.out (by decide)) BK146.out (by decide)) (fun _ hk => hk.1.2) (.int .i64 ji68)) (fun _ hk => hk.2) (.slice Ao69 l0_0.length co69)) (fun _ hk => hk.2) (.slice Ao70 l0_1.length co70)) (fun _ hk => hk.2) (.int .i64 ji68)) (fun _ hk => ⟨hk.1.1.1,hk.1.1.2⟩),by (with_reducible repeat (first|apply Kd.R_alloc|apply Kd.R_drewN|apply Kd.R_drew));exact Kd.R_mono (Kd.R_far (p := ⟨gb146,2,none⟩) (Kd.R_far (p := ⟨gb146,1,none⟩) (Kd.R_far (p := ⟨gb146,0,none⟩) (Kd.R_far (p := ⟨gb144,2,none⟩) (Kd.R_types (Kd.R_types HO0_1.out BK144.out (by decide)) BK146.out (by decide)) (fun _ hk => hk.1.2) (.int .i64 ji68)) (fun _ hk => hk.2) (.slice Ao69 l0_0.length co69)) (fun _ hk => hk.2) (.slice Ao70 l0_1.length co70)) (fun _ hk => hk.2) (.int .i64 ji68)) (fun _ hk => ⟨hk.1.1.1,hk.1.1.2⟩),bG HB.out,kG HK.out⟩

/-! ### manifest_run: function 23 -/
def manifest_run.l0 : Nat → List (S37) → Int → Int → List Int → List Int → Int → Option (List Int × List Int × Int)
|0,_,_,_,_,_,_ => none
|k + 1,x7,x8,x9,x167000,x167001,x167002 => if x9 < x8 then (if 0 ≤ x9 then (if x9 < (x7.length : Int) then ((manifest_state_after.f k x167000 x167001 x167002 ((rd_T37 x7 x9).f0) ((rd_T37 x7 x9).f1) ((rd_T37 x7 x9).f2) ((rd_T37 x7 x9).f3) ((rd_T37 x7 x9).f4) ((rd_T37 x7 x9).f5)).bind fun bt169 => (manifest_run.l0 k x7 x8 (wrap64 (x9 + 1)) bt169.1 bt169.2.1 bt169.2.2)) else (none)) else (none)) else (some (x167000,x167001,x167002))
def manifest_run.f (k : Nat) (l0 : List (S37)) : Option (List Int × List Int × Int) := manifest_run.l0 k l0 (l0.length : Int) 0 ([] : List Int) ([] : List Int) 0
theorem manifest_run.mono_l : ∀ k, (∀ y0 y1 y2 y3 y4 y5, LeO (manifest_run.l0 k y0 y1 y2 y3 y4 y5) (manifest_run.l0 (k + 1) y0 y1 y2 y3 y4 y5))
|0 => fun _ _ _ _ _ _ r h => by simp [manifest_run.l0] at h
|k + 1 => by
  have ih0 := manifest_run.mono_l k
  ·intro y0 y1 y2 y3 y4 y5
   unfold manifest_run.l0
   repeat' (with_reducible first|exact ih0 _ _ _ _ _ _|exact manifest_state_after.mono _ _ _ _ _ _ _ _ _ _|exact LeO.refl _|exact LeO.none _|refine LeO.ite ?_ ?_|refine LeO.bind ?_ (fun _ => ?_))
theorem manifest_run.mono : ∀ a0 k, LeO (manifest_run.f k a0) (manifest_run.f (k + 1) a0) := by
 intro a0 k
 have ih0 := manifest_run.mono_l k
 unfold manifest_run.f
 repeat' first
  |(with_reducible exact ih0 _ _ _ _ _ _)
  |(with_reducible exact manifest_state_after.mono _ _ _ _ _ _ _ _ _ _)
  |(with_reducible exact LeO.refl _)
  |(with_reducible exact LeO.none _)
  |(with_reducible refine LeO.ite ?_ ?_)
  |(with_reducible refine LeO.bind ?_ (fun _ => ?_))
  |exact ih0 _ _ _ _ _ _
  |exact manifest_state_after.mono _ _ _ _ _ _ _ _ _ _
  |exact LeO.none _
  |refine LeO.ite ?_ ?_
  |refine LeO.bind ?_ (fun _ => ?_)
set_option maxHeartbeats 4000000 in
set_option maxRecDepth 100000 in
theorem manifest_run.calls (k : Nat) (A0 : Option Addr) (c0 : Nat) (l0 : List (S37)) (r1 : List Int) (r2 : List Int) (r3 : Int) (w : World) (hr0 : Kd.C k37 w A0 l0.length l0) (hc0 : l0.length ≤ c0) (h : manifest_run.f k l0 = some (r1, r2, r3)) :
  Calls Tryd.prog 23 #[.slice A0 l0.length c0] w fun e w' => ∃ v0_ v1_ : Value,e = .returned (.agg #[v0_,v1_,.int .i64 r3]) ∧ Kd.R (Kd.int .i64) 3 w' w.heap.size (fun k_ => some k_ ≠ (v1_ : Value).ownBlock) v0_ r1 ∧ Kd.R (Kd.int .i64) 3 w' w.heap.size (fun k_ => some k_ ≠ (v0_ : Value).ownBlock) v1_ r2 ∧ Below w.heap.size w w' := by
 have hu48 := Tryd.underlying48
 have hu37 := Tryd.underlying37
 have HR0 := aK hr0
 have HC0 := aK hc0
 clear hr0 hc0
 have HB := aK (Below.refl w.heap.size w)
 have H : (manifest_run.l0 k l0 (l0.length : Int) 0 ([] : List Int) ([] : List Int) 0) = some (r1,r2,r3) := h
 clear h
 have H' := aK H
 clear H
 go_enter Tryd.func23,Tryd.ntmps23
 go_wp2_with (first|((with_reducible refine gate_dst (N := 2) rfl ?_);refine box_event ?hg (N := 2) ?hd (cs := #[.slice none 0 0,.slice none 0 0,.int .i64 0]) (t := 48) ?hr ?_;(case hd => rfl);(case hg => rfl);(case hr => first|(go_simp;done)|(go_simp;rfl));intro gb165 hg w2 hbox hb;have BK165 := aK (hbox);have GW165 := aK ((by rw [hg];exact (below_size (bM HB.out)) : w.heap.size ≤ gb165));have GJ165 := Ge.mk GW165.out;have GE165 := aK ((by rw [hg];exact (below_size (bM HB.out)) : w.heap.size ≤ gb165));have GI165 := Ge.mk GE165.out;replace HB := aK (below_step (bM HB.out) hb);clear hb hbox hg)|((with_reducible refine gate_dst (N := 3) rfl ?_);refine box_event ?hg (N := 3) ?hd (cs := #[.slice none 0 0,.slice none 0 0,.int .i64 0]) (t := 48) ?hr ?_;(case hd => rfl);(case hg => rfl);(case hr => first|(go_simp;done)|(go_simp;rfl));intro gb166 hg w3 hbox hb;have BK166 := aK (hbox);have GW166 := aK ((by rw [hg];exact (below_size (bG HB.out)) : w.heap.size ≤ gb166));have GJ166 := Ge.mk GW166.out;have GE166 := aK ((by rw [hg];exact (below_size (bG HB.out)) : w.heap.size ≤ gb166));have GI166 := Ge.mk GE166.out;replace HB := aK (below_step (bG HB.out) hb);have NB165_166 := aK (nbL BK165.out hg);have NB166_165 := aK (nbR BK165.out hg);replace BK165 := aK (blk_below (kM BK165.out) hb);clear hb hbox hg;have hnb4 := NB166_165.out;have hnc4 := NB165_166.out;obtain ⟨hcz5_0,hcz5_1,hcz5_2,hfz5_0,hfz5_1,hfz5_2⟩ := bk3_ BK166.out))
 go_loopg [9] k (fun kq v9 w' => ∃ (x9_1 : Int) (x167000_1 : List Int) (x167001_1 : List Int) (x167002_1 : Int) (u167000 : Value) (u167001 : Value),v9 = .int .i64 x9_1 ∧ Aside0 (manifest_run.l0 kq l0 (l0.length : Int) x9_1 x167000_1 x167001_1 x167002_1 = some (r1,r2,r3)) ∧ Aside0 (kq ≤ k) ∧ Aside0 (Kd.R (Kd.int .i64) 3 w' w.heap.size (fun k_ => some k_ ≠ (u167001 : Value).ownBlock) u167000 x167000_1) ∧ Aside0 (Kd.R (Kd.int .i64) 3 w' w.heap.size (fun k_ => some k_ ≠ (u167000 : Value).ownBlock) u167001 x167001_1) ∧ Aside0 (w'.heap[gb165]? = some (.cells #[(.slice none 0 0),(.slice none 0 0),.int .i64 0] 48 (0,0))) ∧ Aside0 (w'.heap[gb166]? = some (.cells #[u167000,u167001,.int .i64 x167002_1] 48 (0,0))) ∧ Aside0 (Below w.heap.size w w'))
 case atStart => exact ⟨(0),(([] : List Int)),(([] : List Int)),(0),(.slice none 0 0),(.slice none 0 0),(by first|rfl|(simp;done)|(simp [*];done)),H',⟨Nat.le_refl _⟩,⟨by first|exact Kd.R_nil _ _ _ _ _|exact Kd.N_nil _ _ _ _ _|exact Kd.V_nil _ _ _ _ _|exact Kd.Q_nil _ _ _ _ _|exact Kd.S_nil _ _ _ _ _⟩,⟨by first|exact Kd.R_nil _ _ _ _ _|exact Kd.N_nil _ _ _ _ _|exact Kd.V_nil _ _ _ _ _|exact Kd.Q_nil _ _ _ _ _|exact Kd.S_nil _ _ _ _ _⟩,⟨by (with_reducible repeat (first|refine blk_drewN ?_ _|refine blk_drew ?_|refine blk_alloc ?_ _));refine blk_far ?_ NB165_166.out _;(with_reducible repeat (first|refine blk_drewN ?_ _|refine blk_drew ?_|refine blk_alloc ?_ _));refine blk_far ?_ NB165_166.out _;(with_reducible repeat (first|refine blk_drewN ?_ _|refine blk_drew ?_|refine blk_alloc ?_ _));refine blk_far ?_ NB165_166.out _;(with_reducible repeat (first|refine blk_drewN ?_ _|refine blk_drew ?_|refine blk_alloc ?_ _));exact BK165.out⟩,⟨by (with_reducible repeat (first|refine blk_drewN ?_ _|refine blk_drew ?_|refine blk_alloc ?_ _));refine blk_put (cs := #[.slice none 0 0,.slice none 0 0,.int .i64 0]) ?_ 2 _ rfl;(with_reducible repeat (first|refine blk_drewN ?_ _|refine blk_drew ?_|refine blk_alloc ?_ _));refine blk_put (cs := #[.slice none 0 0,.slice none 0 0,.int .i64 0]) ?_ 1 _ rfl;(with_reducible repeat (first|refine blk_drewN ?_ _|refine blk_drew ?_|refine blk_alloc ?_ _));refine blk_put (cs := #[.slice none 0 0,.slice none 0 0,.int .i64 0]) ?_ 0 _ rfl;(with_reducible repeat (first|refine blk_drewN ?_ _|refine blk_drew ?_|refine blk_alloc ?_ _));exact BK166.out⟩,⟨bG HB.out⟩⟩
 case round =>
  clear H'
  try clear p2
  try clear hcz5_0
  try clear hcz5_1
  try clear hcz5_2
  try clear hfz5_0
  try clear hfz5_1
  try clear hfz5_2
  obtain ⟨x9_1,x167000_1,x167001_1,x167002_1,u167000,u167001,rfl,HA,HK1,HO_167000,HO_167001,BK165,BK166,HB⟩ := hrel
  cases gk with
 |zero => exact absurd HA.out (by simp [manifest_run.l0])
 |succ k1 =>
   have H := HA.out
   clear HA
   simp only [manifest_run.l0] at H
   by_cases c6 : x9_1 < (l0.length : Int)
   ·rw [if_pos c6] at H
    have c6b0 := decide_eq_true c6
    clear c6
    obtain ⟨c7,H⟩ := iS H
    have c7b0 := decide_eq_true c7
    clear c7
    obtain ⟨c8,H⟩ := iS H
    have c8b0 := decide_eq_true c8
    clear c8
    replace H := Option.bind_eq_some_iff.mp H
    obtain ⟨⟨t169,t172,t175⟩,A90,H⟩ := H
    replace H : (manifest_run.l0 k1 l0 (l0.length : Int) (wrap64 (x9_1 + 1)) t169 t172 t175) = some (r1,r2,r3) := H
    have A9 := aK A90
    clear A90
    have H' := aK H
    clear H
    have p167 : 0 ≤ (x9_1 : Int) := of_decide_eq_true (by assumption)
    have q167 : x9_1 < (l0.length : Int) := of_decide_eq_true (by assumption)
    obtain ⟨ad167,A167_3,c167_3,A167_4,c167_4,A167_5,c167_5,e167,hx167_0,hx167_1,hx167_2,hx167_3,hx167_4,hx167_5,hl167_3,hi167_3,hl167_4,hi167_4,hl167_5,hi167_5⟩ := at_T37 HR0.out x9_1 p167 q167
    cases e167
    replace hx167_0 := xM HB hx167_0
    replace hx167_1 := xM HB hx167_1
    replace hx167_2 := xM HB hx167_2
    replace hx167_3 := xM HB hx167_3
    replace hx167_4 := xM HB hx167_4
    replace hx167_5 := xM HB hx167_5
    have HR167_3 := aK hi167_3
    have HC167_3 := aK hl167_3
    clear hi167_3 hl167_3
    have HR167_4 := aK hi167_4
    have HC167_4 := aK hl167_4
    clear hi167_4 hl167_4
    have HR167_5 := aK hi167_5
    have HC167_5 := aK hl167_5
    clear hi167_5 hl167_5
    replace p167 := eq_true p167
    replace q167 := eq_true q167
    go_wp2_with (first|((with_reducible refine gate_dst (N := 5) rfl ?_);refine box_event ?hg (N := 5) ?hd (cs := #[.int .i64 0,.int .i64 0,.int .i64 0,.slice none 0 0,.slice none 0 0,.slice none 0 0]) (t := 37) ?hr ?_;(case hd => rfl);(case hg => rfl);(case hr => first|(go_simp;done)|(go_simp;rfl));intro gb168 hg w10 hbox hb;replace HO_167000 := aK (Kd.R_below (rM HO_167000.out) hb);replace HO_167001 := aK (Kd.R_below (rM HO_167001.out) hb);have BK168 := aK (hbox);have GW168 := aK ((by rw [hg];exact (below_size (bG HB.out)) : w.heap.size ≤ gb168));have GJ168 := Ge.mk GW168.out;have GE168 := aK ((by rw [hg];exact (below_size (bG HB.out)) : w.heap.size ≤ gb168));have GI168 := Ge.mk GE168.out;replace HB := aK (below_step (bG HB.out) hb);have NB165_168 := aK (nbL BK165.out hg);have NB168_165 := aK (nbR BK165.out hg);replace BK165 := aK (blk_below (kM BK165.out) hb);have NB166_168 := aK (nbL BK166.out hg);have NB168_166 := aK (nbR BK166.out hg);replace BK166 := aK (blk_below (kM BK166.out) hb);clear hb hbox hg;have hnb11 := NB168_165.out;have hnc11 := NB165_168.out;have hnb12 := NB168_166.out;have hnc12 := NB166_168.out;obtain ⟨_,_,_,_,_,_,_,_,_,_,_,_⟩ := bk6_ BK168.out)|((with_reducible refine gate_store (t := 37) (p := 5) rfl ?_);refine store_event (t := 37) (p := 5) (v := ?vo_w14) (w1 := ((((((w10.setCell ⟨gb168,0,none⟩ (.int .i64 ((rd_T37 l0 x9_1).f0))).setCell ⟨gb168,1,none⟩ (.int .i64 ((rd_T37 l0 x9_1).f1))).setCell ⟨gb168,2,none⟩ (.int .i64 ((rd_T37 l0 x9_1).f2))).setCell ⟨gb168,3,none⟩ (.slice A167_3 ((rd_T37 l0 x9_1).f3).length c167_3)).setCell ⟨gb168,4,none⟩ (.slice A167_4 ((rd_T37 l0 x9_1).f4).length c167_4)).setCell ⟨gb168,5,none⟩ (.slice A167_5 ((rd_T37 l0 x9_1).f5).length c167_5))) ?hg ?ho ?hn ?hr ?_;(case ho => rfl);(case hg => rfl);(case hn => rfl);(case hr => first|(go_simp;done)|(go_simp;rfl));intro w14 hw;have n0_ : Aside0 (Kd.R (Kd.int .i64) 3 w14 w.heap.size (fun k_ => some k_ ≠ (u167001 : Value).ownBlock) u167000 x167000_1) := ⟨(by rw [hw];exact (by (with_reducible repeat (first|apply Kd.R_alloc|apply Kd.R_drewN|apply Kd.R_drew));exact Kd.R_mono (Kd.R_far (p := ⟨gb168,5,none⟩) (Kd.R_far (p := ⟨gb168,4,none⟩) (Kd.R_far (p := ⟨gb168,3,none⟩) (Kd.R_far (p := ⟨gb168,2,none⟩) (Kd.R_far (p := ⟨gb168,1,none⟩) (Kd.R_far (p := ⟨gb168,0,none⟩) (Kd.R_types HO_167000.out BK168.out (by decide)) (fun _ hk => hk.2) (.int .i64 ((rd_T37 l0 x9_1).f0))) (fun _ hk => hk.2) (.int .i64 ((rd_T37 l0 x9_1).f1))) (fun _ hk => hk.2) (.int .i64 ((rd_T37 l0 x9_1).f2))) (fun _ hk => hk.2) (.slice A167_3 ((rd_T37 l0 x9_1).f3).length c167_3)) (fun _ hk => hk.2) (.slice A167_4 ((rd_T37 l0 x9_1).f4).length c167_4)) (fun _ hk => hk.2) (.slice A167_5 ((rd_T37 l0 x9_1).f5).length c167_5)) (fun _ hk => hk.1)))⟩;have n1_ : Aside0 (Kd.R (Kd.int .i64) 3 w14 w.heap.size (fun k_ => some k_ ≠ (u167000 : Value).ownBlock) u167001 x167001_1) := ⟨(by rw [hw];exact (by (with_reducible repeat (first|apply Kd.R_alloc|apply Kd.R_drewN|apply Kd.R_drew));exact Kd.R_mono (Kd.R_far (p := ⟨gb168,5,none⟩) (Kd.R_far (p := ⟨gb168,4,none⟩) (Kd.R_far (p := ⟨gb168,3,none⟩) (Kd.R_far (p := ⟨gb168,2,none⟩) (Kd.R_far (p := ⟨gb168,1,none⟩) (Kd.R_far (p := ⟨gb168,0,none⟩) (Kd.R_types HO_167001.out BK168.out (by decide)) (fun _ hk => hk.2) (.int .i64 ((rd_T37 l0 x9_1).f0))) (fun _ hk => hk.2) (.int .i64 ((rd_T37 l0 x9_1).f1))) (fun _ hk => hk.2) (.int .i64 ((rd_T37 l0 x9_1).f2))) (fun _ hk => hk.2) (.slice A167_3 ((rd_T37 l0 x9_1).f3).length c167_3)) (fun _ hk => hk.2) (.slice A167_4 ((rd_T37 l0 x9_1).f4).length c167_4)) (fun _ hk => hk.2) (.slice A167_5 ((rd_T37 l0 x9_1).f5).length c167_5)) (fun _ hk => hk.1)))⟩;have n2_ : Aside0 (w14.heap[gb165]? = some (.cells #[.slice none 0 0,.slice none 0 0,.int .i64 0] 48 (0,0))) := ⟨(by rw [hw];exact (by (with_reducible repeat (first|refine blk_drewN ?_ _|refine blk_drew ?_|refine blk_alloc ?_ _));refine blk_far ?_ NB165_168.out _;(with_reducible repeat (first|refine blk_drewN ?_ _|refine blk_drew ?_|refine blk_alloc ?_ _));refine blk_far ?_ NB165_168.out _;(with_reducible repeat (first|refine blk_drewN ?_ _|refine blk_drew ?_|refine blk_alloc ?_ _));refine blk_far ?_ NB165_168.out _;(with_reducible repeat (first|refine blk_drewN ?_ _|refine blk_drew ?_|refine blk_alloc ?_ _));refine blk_far ?_ NB165_168.out _;(with_reducible repeat (first|refine blk_drewN ?_ _|refine blk_drew ?_|refine blk_alloc ?_ _));refine blk_far ?_ NB165_168.out _;(with_reducible repeat (first|refine blk_drewN ?_ _|refine blk_drew ?_|refine blk_alloc ?_ _));refine blk_far ?_ NB165_168.out _;(with_reducible repeat (first|refine blk_drewN ?_ _|refine blk_drew ?_|refine blk_alloc ?_ _));exact BK165.out))⟩;have n3_ : Aside0 (w14.heap[gb166]? = some (.cells #[u167000,u167001,.int .i64 x167002_1] 48 (0,0))) := ⟨(by rw [hw];exact (by (with_reducible repeat (first|refine blk_drewN ?_ _|refine blk_drew ?_|refine blk_alloc ?_ _));refine blk_far ?_ NB166_168.out _;(with_reducible repeat (first|refine blk_drewN ?_ _|refine blk_drew ?_|refine blk_alloc ?_ _));refine blk_far ?_ NB166_168.out _;(with_reducible repeat (first|refine blk_drewN ?_ _|refine blk_drew ?_|refine blk_alloc ?_ _));refine blk_far ?_ NB166_168.out _;(with_reducible repeat (first|refine blk_drewN ?_ _|refine blk_drew ?_|refine blk_alloc ?_ _));refine blk_far ?_ NB166_168.out _;(with_reducible repeat (first|refine blk_drewN ?_ _|refine blk_drew ?_|refine blk_alloc ?_ _));refine blk_far ?_ NB166_168.out _;(with_reducible repeat (first|refine blk_drewN ?_ _|refine blk_drew ?_|refine blk_alloc ?_ _));refine blk_far ?_ NB166_168.out _;(with_reducible repeat (first|refine blk_drewN ?_ _|refine blk_drew ?_|refine blk_alloc ?_ _));exact BK166.out))⟩;have n4_ : Aside0 (w14.heap[gb168]? = some (.cells #[.int .i64 ((rd_T37 l0 x9_1).f0),.int .i64 ((rd_T37 l0 x9_1).f1),.int .i64 ((rd_T37 l0 x9_1).f2),.slice A167_3 ((rd_T37 l0 x9_1).f3).length c167_3,.slice A167_4 ((rd_T37 l0 x9_1).f4).length c167_4,.slice A167_5 ((rd_T37 l0 x9_1).f5).length c167_5] 37 (0,0))) := ⟨(by rw [hw];exact (by (with_reducible repeat (first|refine blk_drewN ?_ _|refine blk_drew ?_|refine blk_alloc ?_ _));refine blk_put (cs := #[.int .i64 ((rd_T37 l0 x9_1).f0),.int .i64 ((rd_T37 l0 x9_1).f1),.int .i64 ((rd_T37 l0 x9_1).f2),.slice A167_3 ((rd_T37 l0 x9_1).f3).length c167_3,.slice A167_4 ((rd_T37 l0 x9_1).f4).length c167_4,.slice none 0 0]) ?_ 5 _ rfl;(with_reducible repeat (first|refine blk_drewN ?_ _|refine blk_drew ?_|refine blk_alloc ?_ _));refine blk_put (cs := #[.int .i64 ((rd_T37 l0 x9_1).f0),.int .i64 ((rd_T37 l0 x9_1).f1),.int .i64 ((rd_T37 l0 x9_1).f2),.slice A167_3 ((rd_T37 l0 x9_1).f3).length c167_3,.slice none 0 0,.slice none 0 0]) ?_ 4 _ rfl;(with_reducible repeat (first|refine blk_drewN ?_ _|refine blk_drew ?_|refine blk_alloc ?_ _));refine blk_put (cs := #[.int .i64 ((rd_T37 l0 x9_1).f0),.int .i64 ((rd_T37 l0 x9_1).f1),.int .i64 ((rd_T37 l0 x9_1).f2),.slice none 0 0,.slice none 0 0,.slice none 0 0]) ?_ 3 _ rfl;(with_reducible repeat (first|refine blk_drewN ?_ _|refine blk_drew ?_|refine blk_alloc ?_ _));refine blk_put (cs := #[.int .i64 ((rd_T37 l0 x9_1).f0),.int .i64 ((rd_T37 l0 x9_1).f1),.int .i64 0,.slice none 0 0,.slice none 0 0,.slice none 0 0]) ?_ 2 _ rfl;(with_reducible repeat (first|refine blk_drewN ?_ _|refine blk_drew ?_|refine blk_alloc ?_ _));refine blk_put (cs := #[.int .i64 ((rd_T37 l0 x9_1).f0),.int .i64 0,.int .i64 0,.slice none 0 0,.slice none 0 0,.slice none 0 0]) ?_ 1 _ rfl;(with_reducible repeat (first|refine blk_drewN ?_ _|refine blk_drew ?_|refine blk_alloc ?_ _));refine blk_put (cs := #[.int .i64 0,.int .i64 0,.int .i64 0,.slice none 0 0,.slice none 0 0,.slice none 0 0]) ?_ 0 _ rfl;(with_reducible repeat (first|refine blk_drewN ?_ _|refine blk_drew ?_|refine blk_alloc ?_ _));exact BK168.out))⟩;have n5_ : Aside0 (Below w.heap.size w w14) := ⟨(by rw [hw];exact (bG HB.out))⟩;clear hw;clear HO_167000;clear HO_167001;clear BK165;clear BK166;clear BK168;clear HB;have HO_167000 := n0_;have HO_167001 := n1_;have BK165 := n2_;have BK166 := n3_;have BK168 := n4_;have HB := n5_;clear n0_ n1_ n2_ n3_ n4_ n5_;have hnb15 := NB166_165.out;have hnc15 := NB165_166.out;obtain ⟨_,_,_,_,_,_⟩ := bk3_ BK166.out;obtain ⟨_,_,_,_,_,_,_,_,_,_,_,_⟩ := bk6_ BK168.out;obtain ⟨Ao18,co18,eo18⟩ := Kd.R_slice HO_167000.out;subst eo18;obtain ⟨Ao19,co19,eo19⟩ := Kd.R_slice HO_167001.out;subst eo19)|((with_reducible refine gate_callee (f := 42) rfl ?_);refine goesL_ (some 15) rfl rfl Tryd.func42 (by kernel_rfl) rfl #[.agg #[.slice Ao18 x167000_1.length co18,.slice Ao19 x167001_1.length co19,.int .i64 x167002_1],.agg #[.int .i64 ((rd_T37 l0 x9_1).f0),.int .i64 ((rd_T37 l0 x9_1).f1),.int .i64 ((rd_T37 l0 x9_1).f2),.slice A167_3 ((rd_T37 l0 x9_1).f3).length c167_3,.slice A167_4 ((rd_T37 l0 x9_1).f4).length c167_4,.slice A167_5 ((rd_T37 l0 x9_1).f5).length c167_5]] rfl (by (try simp only [List.map_toArray,List.map_cons,List.map_nil]);first|done|rfl|(simp only [List.length_drop,List.length_take];rfl)) ?_;(with_reducible refine (manifest_state_after.calls k1 (fun k_ => some k_ = (.slice Ao18 x167000_1.length co18 : Value).ownBlock) (.slice Ao18 x167000_1.length co18) x167000_1 (fun k_ => some k_ = (.slice Ao19 x167001_1.length co19 : Value).ownBlock) (.slice Ao19 x167001_1.length co19) x167001_1 x167002_1 ((rd_T37 l0 x9_1).f0) ((rd_T37 l0 x9_1).f1) ((rd_T37 l0 x9_1).f2) (fun k_ => k_ < w.heap.size) _ _ ((rd_T37 l0 x9_1).f3) _ _ ((rd_T37 l0 x9_1).f4) _ _ ((rd_T37 l0 x9_1).f5) t169 t172 t175 w _ ?side1 ?side2 ?side3 ?side4 ?side5 ?side6 ?side7 ?side8 ?side9 ?side10 A9.out).mono ?_);(case side1 => repeat (first|(with_reducible first|exact HB.out|apply below_alloc|apply pw_below_drewN|apply below_drew1|refine below_set ?_ GE165.out|refine below_set ?_ GE166.out|refine below_set ?_ GE168.out)|exact HB.out));(case side2 => exact Kd.R_tight rfl HO_167000.out);(case side3 => exact fun k_ e_ => (HO_167000.out.1 k_ e_.symm));(case side4 => exact Kd.R_tight rfl HO_167001.out);(case side5 => exact fun k_ e_ => (HO_167001.out.1 k_ e_.symm));(case side6 => exact Kd.V_mono (Kd.V_mk HC167_3.out (Kd.F_below (Kd.C_F (Kd.heap_int .i64) HR167_3.out) (bG HB.out))) (fun k_ hk_ => ⟨hk_,fun e_ => Nat.not_le.2 hk_ (Kd.R_base HO_167000.out k_ e_.symm),fun e_ => Nat.not_le.2 hk_ (Kd.R_base HO_167001.out k_ e_.symm)⟩));(case side7 => exact Kd.C_kept_came (Kd.heap_int .i64) HR167_4.out (bG HB.out) (fun k_ hs_ => Or.elim hs_ (fun e_ => (fun e_ => Kd.R_base HO_167000.out k_ e_.symm) e_) (fun e_ => (fun e_ => Kd.R_base HO_167001.out k_ e_.symm) e_)));(case side8 => exact HC167_4.out);(case side9 => exact Kd.C_kept_came Kd.heap_string HR167_5.out (bG HB.out) (fun k_ hs_ => Or.elim hs_ (fun e_ => (fun e_ => Kd.R_base HO_167000.out k_ e_.symm) e_) (fun e_ => (fun e_ => Kd.R_base HO_167001.out k_ e_.symm) e_)));(case side10 => exact HC167_5.out);rintro e w20 ⟨v170,v173,rfl,ho0,ho1,hb,hkp⟩;refine ⟨_,rfl,?_⟩;replace BK165 := aK (blk_kept (kM BK165.out) hkp (fun hs_ => Or.elim hs_ (fun e_ => (fun e_ => (Kd.R_ne HO_167000.out BK165.out (by decide)) e_) e_) (fun e_ => (fun e_ => (Kd.R_ne HO_167001.out BK165.out (by decide)) e_) e_)));replace BK166 := aK (blk_kept (kM BK166.out) hkp (fun hs_ => Or.elim hs_ (fun e_ => (fun e_ => (Kd.R_ne HO_167000.out BK166.out (by decide)) e_) e_) (fun e_ => (fun e_ => (Kd.R_ne HO_167001.out BK166.out (by decide)) e_) e_)));have HO171 := aK (Kd.R_mono (ok' := fun k_ => some k_ ≠ (v173 : Value).ownBlock) ho0 (fun k_ hk_ => hk_.2));have HO174 := aK (Kd.R_mono (ok' := fun k_ => some k_ ≠ (v170 : Value).ownBlock) ho1 (fun k_ hk_ => hk_.2));replace HB := aK (hb);(try clear hb);(try clear hkp);(try clear ho0);(try clear ho1);obtain ⟨Ao21,co21,eo21⟩ := Kd.R_slice HO171.out;subst eo21;obtain ⟨_,_,_,_,_,_⟩ := bk3_ BK166.out;obtain ⟨Ao23,co23,eo23⟩ := Kd.R_slice HO174.out;subst eo23))
    go_roundg k1
    case measure => have := HK1.out;omega
    case rel => exact ⟨(wrap64 (x9_1 + 1)),(t169),(t172),(t175),(.slice Ao21 t169.length co21),(.slice Ao23 t172.length co23),(by first|rfl|(simp;done)|(simp [*];done)),H',⟨by have := HK1.out;omega⟩,⟨by (with_reducible repeat (first|apply Kd.R_alloc|apply Kd.R_drewN|apply Kd.R_drew));exact Kd.R_mono (Kd.R_far (p := ⟨gb166,2,none⟩) (Kd.R_far (p := ⟨gb166,1,none⟩) (Kd.R_far (p := ⟨gb166,0,none⟩) (Kd.R_types HO171.out BK166.out (by decide)) (fun _ hk => hk.2) (.slice Ao21 t169.length co21)) (fun _ hk => hk.2) (.slice Ao23 t172.length co23)) (fun _ hk => hk.2) (.int .i64 t175)) (fun _ hk => hk.1)⟩,⟨by (with_reducible repeat (first|apply Kd.R_alloc|apply Kd.R_drewN|apply Kd.R_drew));exact Kd.R_mono (Kd.R_far (p := ⟨gb166,2,none⟩) (Kd.R_far (p := ⟨gb166,1,none⟩) (Kd.R_far (p := ⟨gb166,0,none⟩) (Kd.R_types HO174.out BK166.out (by decide)) (fun _ hk => hk.2) (.slice Ao21 t169.length co21)) (fun _ hk => hk.2) (.slice Ao23 t172.length co23)) (fun _ hk => hk.2) (.int .i64 t175)) (fun _ hk => hk.1)⟩,⟨by (with_reducible repeat (first|refine blk_drewN ?_ _|refine blk_drew ?_|refine blk_alloc ?_ _));refine blk_far ?_ NB165_166.out _;(with_reducible repeat (first|refine blk_drewN ?_ _|refine blk_drew ?_|refine blk_alloc ?_ _));refine blk_far ?_ NB165_166.out _;(with_reducible repeat (first|refine blk_drewN ?_ _|refine blk_drew ?_|refine blk_alloc ?_ _));refine blk_far ?_ NB165_166.out _;(with_reducible repeat (first|refine blk_drewN ?_ _|refine blk_drew ?_|refine blk_alloc ?_ _));exact BK165.out⟩,⟨by (with_reducible repeat (first|refine blk_drewN ?_ _|refine blk_drew ?_|refine blk_alloc ?_ _));refine blk_put (cs := #[.slice Ao21 t169.length co21,.slice Ao23 t172.length co23,.int .i64 x167002_1]) ?_ 2 _ rfl;(with_reducible repeat (first|refine blk_drewN ?_ _|refine blk_drew ?_|refine blk_alloc ?_ _));refine blk_put (cs := #[.slice Ao21 t169.length co21,.slice Ao19 x167001_1.length co19,.int .i64 x167002_1]) ?_ 1 _ rfl;(with_reducible repeat (first|refine blk_drewN ?_ _|refine blk_drew ?_|refine blk_alloc ?_ _));refine blk_put (cs := #[.slice Ao18 x167000_1.length co18,.slice Ao19 x167001_1.length co19,.int .i64 x167002_1]) ?_ 0 _ rfl;(with_reducible repeat (first|refine blk_drewN ?_ _|refine blk_drew ?_|refine blk_alloc ?_ _));exact BK166.out⟩,⟨bG HB.out⟩⟩
   ·rw [if_neg c6] at H
    have c6b0 := decide_eq_false c6
    clear c6
    simp only [Option.some.injEq,Prod.mk.injEq] at H
    obtain ⟨rfl,rfl,rfl⟩ := H
    have hnb24 := NB166_165.out
    have hnc24 := NB165_166.out
    obtain ⟨_,_,_,_,_,_⟩ := bk3_ BK166.out
    obtain ⟨Ao26,co26,eo26⟩ := Kd.R_slice HO_167000.out
    subst eo26
    obtain ⟨_,_,_,_,_,_⟩ := bk3_ BK165.out
    obtain ⟨Ao28,co28,eo28⟩ := Kd.R_slice HO_167001.out
    subst eo28
    go_wp2
    refine bodyPost_ret (results_cell_row rfl _ _ gb165 48 #[.slice Ao26 x167000_1.length co26,.slice Ao28 x167001_1.length co28,.int .i64 x167002_1] (0,0) _ rfl (by (with_reducible repeat (first|refine blk_drewN ?_ _|refine blk_drew ?_|refine blk_alloc ?_ _));refine blk_put (cs := #[.slice Ao26 x167000_1.length co26,.slice Ao28 x167001_1.length co28,.int .i64 0]) ?_ 2 _ rfl;(with_reducible repeat (first|refine blk_drewN ?_ _|refine blk_drew ?_|refine blk_alloc ?_ _));refine blk_put (cs := #[.slice Ao26 x167000_1.length co26,.slice none 0 0,.int .i64 0]) ?_ 1 _ rfl;(with_reducible repeat (first|refine blk_drewN ?_ _|refine blk_drew ?_|refine blk_alloc ?_ _));refine blk_put (cs := #[.slice none 0 0,.slice none 0 0,.int .i64 0]) ?_ 0 _ rfl;(with_reducible repeat (first|refine blk_drewN ?_ _|refine blk_drew ?_|refine blk_alloc ?_ _));exact BK165.out) Tryd.underlying48 rfl (by kernel_rfl)) rfl ?_
    exact ⟨_,_,by first|rfl|(simp [errW_none,errW_some] <;> rfl)|(simp [*,errW_none,errW_some] <;> rfl),by (with_reducible repeat (first|apply Kd.R_alloc|apply Kd.R_drewN|apply Kd.R_drew));exact Kd.R_mono (Kd.R_far (p := ⟨gb165,2,none⟩) (Kd.R_far (p := ⟨gb165,1,none⟩) (Kd.R_far (p := ⟨gb165,0,none⟩) (Kd.R_types HO_167000.out BK165.out (by decide)) (fun _ hk => hk.2) (.slice Ao26 x167000_1.length co26)) (fun _ hk => hk.2) (.slice Ao28 x167001_1.length co28)) (fun _ hk => hk.2) (.int .i64 x167002_1)) (fun _ hk => hk.1),by (with_reducible repeat (first|apply Kd.R_alloc|apply Kd.R_drewN|apply Kd.R_drew));exact Kd.R_mono (Kd.R_far (p := ⟨gb165,2,none⟩) (Kd.R_far (p := ⟨gb165,1,none⟩) (Kd.R_far (p := ⟨gb165,0,none⟩) (Kd.R_types HO_167001.out BK165.out (by decide)) (fun _ hk => hk.2) (.slice Ao26 x167000_1.length co26)) (fun _ hk => hk.2) (.slice Ao28 x167001_1.length co28)) (fun _ hk => hk.2) (.int .i64 x167002_1)) (fun _ hk => hk.1),bG HB.out⟩

/-! ### manifest_Live: function 10 -/
def manifest_Live.f (k : Nat) (l0 : List (S37)) : Option (List Int) := (manifest_run.f k l0).bind fun bt176 => (some bt176.1)
theorem manifest_Live.mono : ∀ a0 k, LeO (manifest_Live.f k a0) (manifest_Live.f (k + 1) a0) := by
 intro a0 k
 unfold manifest_Live.f
 repeat' first
  |(with_reducible exact manifest_run.mono _ _)
  |(with_reducible exact LeO.refl _)
  |(with_reducible exact LeO.none _)
  |(with_reducible refine LeO.ite ?_ ?_)
  |(with_reducible refine LeO.bind ?_ (fun _ => ?_))
  |exact manifest_run.mono _ _
  |exact LeO.none _
  |refine LeO.ite ?_ ?_
  |refine LeO.bind ?_ (fun _ => ?_)
set_option maxHeartbeats 4000000 in
set_option maxRecDepth 100000 in
theorem manifest_Live.calls (k : Nat) (A0 : Option Addr) (c0 : Nat) (l0 : List (S37)) (r : List Int) (w : World) (hr0 : Kd.C k37 w A0 l0.length l0) (hc0 : l0.length ≤ c0) (h : manifest_Live.f k l0 = some r) :
  Calls Tryd.prog 10 #[.slice A0 l0.length c0] w fun e w' => ∃ v0_ : Value,e = .returned (v0_) ∧ Kd.R (Kd.int .i64) 3 w' w.heap.size (fun _ => True) v0_ r ∧ Below w.heap.size w w' := by
 have hfld48_0_ := fun (x0_ x1_ x2_ : Value) (w_ : World) => (show (Instr.field 48 (.agg #[x0_,x1_,x2_]) 0).run Tryd.prog w_ = .ok x0_ w_ by simp [Instr.field,run_underlying Tryd.underlying48,part,isAgg,run_underlying Tryd.underlying26,asAgg,Result.andThen])
 have HR0 := aK hr0
 have HC0 := aK hc0
 clear hr0 hc0
 have HB := aK (Below.refl w.heap.size w)
 have H : ((manifest_run.f k l0).bind fun bt176 => (some bt176.1)) = some r := h
 clear h
 replace H := Option.bind_eq_some_iff.mp H
 obtain ⟨⟨t176,t179,t182⟩,A20,H⟩ := H
 replace H : (some t176) = some r := H
 have A2 := aK A20
 clear A20
 obtain rfl := Option.some.inj H
 go_enter Tryd.func10,Tryd.ntmps10
 go_wp2_with (first|((with_reducible refine gate_callee (f := 23) rfl ?_);refine goesL_ (some 4) rfl rfl Tryd.func23 (by kernel_rfl) rfl #[.slice A0 l0.length c0] rfl (by (try simp only [List.map_toArray,List.map_cons,List.map_nil]);first|done|rfl|(simp only [List.length_drop,List.length_take];rfl)) ?_;(with_reducible refine (manifest_run.calls k _ _ l0 t176 t179 t182 _ ?side1 ?side2 A2.out).mono ?_);(case side1 => exact cM HR0.out);(case side2 => exact HC0.out);rintro e w3 ⟨v177,v180,rfl,ho0,ho1,hb⟩;refine ⟨_,rfl,?_⟩;have HO178 := aK (Kd.R_lower ho0 (below_size (bM HB.out)));replace HB := aK (below_step (bM HB.out) hb);(try clear hb);(try clear hk);(try clear ho0);(try clear ho1)))
 go_ret
 exact ⟨_,by first|rfl|(simp [errW_none,errW_some] <;> rfl)|(simp [*,errW_none,errW_some] <;> rfl),rM (Kd.R_mono HO178.out (fun _ hk => trivial)),bM HB.out⟩

/-! ### manifest_Dead: function 12 -/
def manifest_Dead.f (k : Nat) (l0 : List (S37)) : Option (List Int) := (manifest_run.f k l0).bind fun bt183 => (some bt183.2.1)
theorem manifest_Dead.mono : ∀ a0 k, LeO (manifest_Dead.f k a0) (manifest_Dead.f (k + 1) a0) := by
 intro a0 k
 unfold manifest_Dead.f
 repeat' first
  |(with_reducible exact manifest_run.mono _ _)
  |(with_reducible exact LeO.refl _)
  |(with_reducible exact LeO.none _)
  |(with_reducible refine LeO.ite ?_ ?_)
  |(with_reducible refine LeO.bind ?_ (fun _ => ?_))
  |exact manifest_run.mono _ _
  |exact LeO.none _
  |refine LeO.ite ?_ ?_
  |refine LeO.bind ?_ (fun _ => ?_)
set_option maxHeartbeats 4000000 in
set_option maxRecDepth 100000 in
theorem manifest_Dead.calls (k : Nat) (A0 : Option Addr) (c0 : Nat) (l0 : List (S37)) (r : List Int) (w : World) (hr0 : Kd.C k37 w A0 l0.length l0) (hc0 : l0.length ≤ c0) (h : manifest_Dead.f k l0 = some r) :
  Calls Tryd.prog 12 #[.slice A0 l0.length c0] w fun e w' => ∃ v0_ : Value,e = .returned (v0_) ∧ Kd.R (Kd.int .i64) 3 w' w.heap.size (fun _ => True) v0_ r ∧ Below w.heap.size w w' := by
 have hfld48_1_ := fun (x0_ x1_ x2_ : Value) (w_ : World) => (show (Instr.field 48 (.agg #[x0_,x1_,x2_]) 1).run Tryd.prog w_ = .ok x1_ w_ by simp [Instr.field,run_underlying Tryd.underlying48,part,isAgg,run_underlying Tryd.underlying26,asAgg,Result.andThen])
 have HR0 := aK hr0
 have HC0 := aK hc0
 clear hr0 hc0
 have HB := aK (Below.refl w.heap.size w)
 have H : ((manifest_run.f k l0).bind fun bt183 => (some bt183.2.1)) = some r := h
 clear h
 replace H := Option.bind_eq_some_iff.mp H
 obtain ⟨⟨t183,t186,t189⟩,A20,H⟩ := H
 replace H : (some t186) = some r := H
 have A2 := aK A20
 clear A20
 obtain rfl := Option.some.inj H
 go_enter Tryd.func12,Tryd.ntmps12
 go_wp2_with (first|((with_reducible refine gate_callee (f := 23) rfl ?_);refine goesL_ (some 4) rfl rfl Tryd.func23 (by kernel_rfl) rfl #[.slice A0 l0.length c0] rfl (by (try simp only [List.map_toArray,List.map_cons,List.map_nil]);first|done|rfl|(simp only [List.length_drop,List.length_take];rfl)) ?_;(with_reducible refine (manifest_run.calls k _ _ l0 t183 t186 t189 _ ?side1 ?side2 A2.out).mono ?_);(case side1 => exact cM HR0.out);(case side2 => exact HC0.out);rintro e w3 ⟨v184,v187,rfl,ho0,ho1,hb⟩;refine ⟨_,rfl,?_⟩;have HO188 := aK (Kd.R_lower ho1 (below_size (bM HB.out)));replace HB := aK (below_step (bM HB.out) hb);(try clear hb);(try clear hk);(try clear ho0);(try clear ho1)))
 go_ret
 exact ⟨_,by first|rfl|(simp [errW_none,errW_some] <;> rfl)|(simp [*,errW_none,errW_some] <;> rfl),rM (Kd.R_mono HO188.out (fun _ hk => trivial)),bM HB.out⟩

end Go.Proofs.YtmgliocboeifdaaDoor.T
