-- Written by hp.py, a program of this session, over the kit's print of the translation. Not trusted: Lean checks it.
import Derived.Test.YtmgliocboeifdaaGreatDoorRx0
import Derived.Test.YtmgliocboeifdaaGreatDoorRx7
import Derived.Test.YtmgliocboeifdaaGreatDoorRx8
namespace Go.Proofs.YtmgliocboeifdaaGreatDoor.R
open Go.RowKit Go.Proofs.YtmgliocboeifdaaGreatDoorW.PrintWords Go.Proofs.YtmgliocboeifdaaGreatDoorW.PrintLast Go.Proofs.YtmgliocboeifdaaGreatDoorW.PrintMore
attribute [local go_sem] max2_int min2_int max_two min_two max_three min_three max_four min_four   -- for this text's walks alone
set_option linter.unusedVariables false
set_option linter.unusedSimpArgs false

/-! ### manifest_state_after: function 25 -/
def manifest_state_after.f (k : Nat) (l0_0 : List Int) (l0_1 : List Int) (a0_2 : Int) (a1_0 : Int) (a1_1 : Int) (a1_2 : Int) (l1_3 : List Int) (l1_4 : List Int) (l1_5 : List ByteArray) : Option (List Int × List Int × Int) := if a1_1 = 1 then ((posting_Or.f k l0_0 (([a1_2] : List Int))).bind fun t191 => (some (t191, l0_1, mx a0_2 a1_2))) else (if a1_1 = 2 then ((posting_Or.f k l0_1 l1_3).bind fun t194 => (some (l0_0, t194, mx a0_2 a1_2))) else (if a1_1 = 3 then ((posting_Minus.f l0_0 l1_4).bind fun t197 => ((posting_Or.f k t197 (([a1_2] : List Int))).bind fun t203 => (some (t203, ([] : List Int), mx a0_2 a1_2)))) else (some (l0_0, l0_1, mx a0_2 a1_2))))
theorem manifest_state_after.mono : ∀ a0 a1 a2 a3 a4 a5 a6 a7 a8 k, LeO (manifest_state_after.f k a0 a1 a2 a3 a4 a5 a6 a7 a8) (manifest_state_after.f (k + 1) a0 a1 a2 a3 a4 a5 a6 a7 a8) := by
 intro a0 a1 a2 a3 a4 a5 a6 a7 a8 k
 unfold manifest_state_after.f
 repeat' first
  |(with_reducible exact posting_Or.mono _ _ _)
  |(with_reducible exact LeO.refl _)
  |(with_reducible exact LeO.none _)
  |(with_reducible refine LeO.ite ?_ ?_)
  |(with_reducible refine LeO.bind ?_ (fun _ => ?_))
  |exact posting_Or.mono _ _ _
  |exact LeO.none _
  |refine LeO.ite ?_ ?_
  |refine LeO.bind ?_ (fun _ => ?_)
def manifest_state_after.T7 : Bool × List (List Nat × List Nat) := (true, [([], []), ([0], [0]), ([], []), ([2], [2]), ([1, 3], [1, 3]), ([], []), ([5], [5]), ([6], [6]), ([4, 7, 4], [4, 7]), ([0, 1, 2, 3, 4, 5, 6, 7, 8], []), ([9, 8, 8, 0, 1, 2, 3, 4, 5, 6, 7, 8], [8, 9])])
def manifest_state_after.B7 : List Nat := [0, 1, 0, 4, 15, 0, 32, 96, 255, 511, 1023]
theorem manifest_state_after.tab7 : rtab .any (opsOf Tryz.f25 7) = manifest_state_after.T7 := by kernel_rfl
theorem manifest_state_after.bits7 : waitsOk manifest_state_after.T7.2 manifest_state_after.B7 = true := by kernel_rfl
set_option maxHeartbeats 4000000 in
set_option maxRecDepth 100000 in
theorem manifest_state_after.calls (k : Nat) (P0_0_ : Nat → Prop) (u9000_ : Value) (l0_0 : List Int) (P0_1_ : Nat → Prop) (u9001_ : Value) (l0_1 : List Int) (a0_2 : Int) (a1_0 : Int) (a1_1 : Int) (a1_2 : Int) (P1_3_ : Nat → Prop) (A1_3 : Option Addr) (c1_3 : Nat) (l1_3 : List Int) (A1_4 : Option Addr) (c1_4 : Nat) (l1_4 : List Int) (A1_5 : Option Addr) (c1_5 : Nat) (l1_5 : List ByteArray) (r1 : List Int) (r2 : List Int) (r3 : Int) (w0 w : World) (hB : Below w0.heap.size w0 w) (ho0_0 : Kd.R (Kd.int .i64) 3 w w0.heap.size P0_0_ u9000_ l0_0) (hp0_0_0_1 : ∀ k_, P0_0_ k_ → ¬ P0_1_ k_) (ho0_1 : Kd.R (Kd.int .i64) 3 w w0.heap.size P0_1_ u9001_ l0_1) (hp0_1_0_0 : ∀ k_, P0_1_ k_ → ¬ P0_0_ k_) (hs1_3 : Kd.V (Kd.int .i64) 3 w w0.heap.size (fun k_ => P1_3_ k_ ∧ some k_ ≠ (u9000_ : Value).ownBlock ∧ some k_ ≠ (u9001_ : Value).ownBlock) (.slice A1_3 l1_3.length c1_3) l1_3) (hr1_4 : ∀ W_, Kept w W_ (fun k_ => P0_0_ k_ ∨ P0_1_ k_) → Kd.C (Kd.int .i64) W_ A1_4 l1_4.length l1_4) (hc1_4 : l1_4.length ≤ c1_4) (hr1_5 : ∀ W_, Kept w W_ (fun k_ => P0_0_ k_ ∨ P0_1_ k_) → Kd.C Kd.string W_ A1_5 l1_5.length l1_5) (hc1_5 : l1_5.length ≤ c1_5) (h : manifest_state_after.f k l0_0 l0_1 a0_2 a1_0 a1_1 a1_2 l1_3 l1_4 l1_5 = some (r1, r2, r3)) :
  Calls Tryz.prog 25 #[.agg #[u9000_,u9001_,.int .i64 a0_2],.agg #[.int .i64 a1_0,.int .i64 a1_1,.int .i64 a1_2,.slice A1_3 l1_3.length c1_3,.slice A1_4 l1_4.length c1_4,.slice A1_5 l1_5.length c1_5]] w fun e w' => ∃ v0_ v1_ : Value,e = .returned (.agg #[v0_,v1_,.int .i64 r3]) ∧ Kd.R (Kd.int .i64) 3 w' w0.heap.size (fun k_ => ((P0_0_ k_ ∨ P0_1_ k_) ∨ w.heap.size ≤ k_) ∧ some k_ ≠ (v1_ : Value).ownBlock) v0_ r1 ∧ Kd.R (Kd.int .i64) 3 w' w0.heap.size (fun k_ => ((P0_0_ k_ ∨ P0_1_ k_) ∨ w.heap.size ≤ k_) ∧ some k_ ≠ (v0_ : Value).ownBlock) v1_ r2 ∧ Below w0.heap.size w0 w' ∧ Kept w w' (fun k_ => P0_0_ k_ ∨ P0_1_ k_) := by
 have hu46 := Tryz.underlying46
 have hu30 := Tryz.underlying30
 have HO0_0 := aK (show Kd.R (Kd.int .i64) 3 w w0.heap.size (fun k_ => ((P0_0_ k_ ∨ P0_1_ k_) ∨ w.heap.size ≤ k_) ∧ some k_ ≠ (u9001_ : Value).ownBlock) u9000_ l0_0 from Kd.R_mono ho0_0 (fun k_ hk => ⟨(.inl (.inl hk)),fun e_ => hp0_0_0_1 k_ hk (ho0_1.1 k_ e_.symm)⟩))
 have HO0_1 := aK (show Kd.R (Kd.int .i64) 3 w w0.heap.size (fun k_ => ((P0_0_ k_ ∨ P0_1_ k_) ∨ w.heap.size ≤ k_) ∧ some k_ ≠ (u9000_ : Value).ownBlock) u9001_ l0_1 from Kd.R_mono ho0_1 (fun k_ hk => ⟨(.inl (.inr hk)),fun e_ => hp0_1_0_0 k_ hk (ho0_0.1 k_ e_.symm)⟩))
 have HO1_3 := aK (show Kd.V (Kd.int .i64) 3 w w0.heap.size (fun k_ => ((P0_0_ k_ ∨ P0_1_ k_ ∨ P1_3_ k_) ∨ w.heap.size ≤ k_) ∧ some k_ ≠ (u9000_ : Value).ownBlock ∧ some k_ ≠ (u9001_ : Value).ownBlock) (.slice A1_3 l1_3.length c1_3) l1_3 from Kd.V_mono hs1_3 (fun k_ hk => ⟨.inl (.inr (.inr hk.1)),hk.2⟩))
 have HR1_4 := aK hr1_4
 have HC1_4 := aK hc1_4
 clear hr1_4 hc1_4
 have HR1_5 := aK hr1_5
 have HC1_5 := aK hc1_5
 clear hr1_5 hc1_5
 have HK := aK (Kept.refl w (fun k_ => P0_0_ k_ ∨ P0_1_ k_))
 have HW0 := aK hB.size
 have HB := aK hB
 clear hB
 have H : (if a1_1 = 1 then ((posting_Or.f k l0_0 (([a1_2] : List Int))).bind fun t191 => (some (t191,l0_1,mx a0_2 a1_2))) else (if a1_1 = 2 then ((posting_Or.f k l0_1 l1_3).bind fun t194 => (some (l0_0,t194,mx a0_2 a1_2))) else (if a1_1 = 3 then ((posting_Minus.f l0_0 l1_4).bind fun t197 => ((posting_Or.f k t197 (([a1_2] : List Int))).bind fun t203 => (some (t203,([] : List Int),mx a0_2 a1_2)))) else (some (l0_0,l0_1,mx a0_2 a1_2))))) = some (r1,r2,r3) := h
 clear h
 by_cases c3 : a1_1 = 1
 ·rw [if_pos c3] at H
  have c3b0 := beq_iff_eq.mpr c3
  have c3b1 := bne_eq_false_iff_eq.mpr c3
  clear c3
  obtain ⟨y188,hy188⟩ : ∃ y_ : List Int,y_ = (([a1_2] : List Int)) := ⟨_,rfl⟩
  replace H : ((posting_Or.f k l0_0 y188).bind fun t191 => (some (t191,l0_1,mx a0_2 a1_2))) = some (r1,r2,r3) := by first|(rw [hy188];with_reducible exact H)|(have H2_ := (Option.bind_some _ _).symm.trans H;rw [hy188];with_reducible exact H2_)|(have H2_ := (Option.bind_some _ _).symm.trans H;with_reducible exact H2_)|with_reducible exact H|(rw [hy188];exact H)|exact H
  have Ny188 := aK hy188
  clear hy188
  replace H := Option.bind_eq_some_iff.mp H
  obtain ⟨t191,A40,H⟩ := H
  have A4 := aK A40
  clear A40
  obtain ⟨ji5,hji5⟩ : ∃ j_ : Int,(mx a0_2 a1_2) = j_ := ⟨_,rfl⟩
  replace H : (some (t191,l0_1,ji5)) = some (r1,r2,r3) := by first|(rw [hji5] at H;exact H)|(simp only [hji5] at H ⊢;exact H)
  (try rw [hji5] at A4)
  have hji5_ : (if a0_2 < a1_2 then a1_2 else a0_2) = ji5 := hji5
  simp only [Option.some.injEq,Prod.mk.injEq] at H
  obtain ⟨rfl,rfl,rfl⟩ := H
  obtain ⟨Ao6,co6,eo6⟩ := Kd.R_slice HO0_0.out
  subst eo6
  obtain ⟨Ao7,co7,eo7⟩ := Kd.R_slice HO0_1.out
  subst eo7
  go_enter Tryz.func25,Tryz.ntmps25
  go_wp2_with (first|((with_reducible refine gate_dst (N := 2) rfl ?_);refine box_event ?hg (N := 2) ?hd (cs := #[.slice Ao6 l0_0.length co6,.slice Ao7 l0_1.length co7,.int .i64 a0_2]) (t := 46) ?hr ?_;(case hd => rfl);(case hg => rfl);(case hr => first|(go_simp;done)|(go_simp;rfl));intro gb185 hg w8 hbox hb;replace HO0_0 := aK (Kd.R_below (rM HO0_0.out) hb);replace HO0_1 := aK (Kd.R_below (rM HO0_1.out) hb);replace HO1_3 := aK (Kd.V_below (Kd.V_elderB (vM HO1_3.out) gb185 (Nat.le_of_eq hg.symm)) hb);have BK185 := aK (hbox);have GW185 := aK ((by rw [hg];exact (by first|exact HK.out.1|exact (show Kept w _ (fun k_ => P0_0_ k_ ∨ P0_1_ k_) from kG HK.out).1) : w.heap.size ≤ gb185));have GJ185 := Ge.mk GW185.out;replace HK := aK (Kept.below (S := (fun k_ => P0_0_ k_ ∨ P0_1_ k_)) (kG HK.out) hb);have GE185 := aK ((by rw [hg];exact (below_size (bM HB.out)) : w0.heap.size ≤ gb185));have GI185 := Ge.mk GE185.out;replace HB := aK (below_step (bM HB.out) hb);clear hb hbox hg)|((with_reducible refine gate_dst (N := 3) rfl ?_);refine box_event ?hg (N := 3) ?hd (cs := #[.int .i64 a1_0,.int .i64 a1_1,.int .i64 a1_2,.slice A1_3 l1_3.length c1_3,.slice A1_4 l1_4.length c1_4,.slice A1_5 l1_5.length c1_5]) (t := 30) ?hr ?_;(case hd => rfl);(case hg => rfl);(case hr => first|(go_simp;done)|(go_simp;rfl));intro gb186 hg w9 hbox hb;replace HO0_0 := aK (Kd.R_below (rM HO0_0.out) hb);replace HO0_1 := aK (Kd.R_below (rM HO0_1.out) hb);replace HO1_3 := aK (Kd.V_below (Kd.V_elderB (vM HO1_3.out) gb186 (Nat.le_of_eq hg.symm)) hb);have BK186 := aK (hbox);have GW186 := aK ((by rw [hg];exact (by first|exact HK.out.1|exact (show Kept w _ (fun k_ => P0_0_ k_ ∨ P0_1_ k_) from kG HK.out).1) : w.heap.size ≤ gb186));have GJ186 := Ge.mk GW186.out;replace HK := aK (Kept.below (S := (fun k_ => P0_0_ k_ ∨ P0_1_ k_)) (kG HK.out) hb);have GE186 := aK ((by rw [hg];exact (below_size (bG HB.out)) : w0.heap.size ≤ gb186));have GI186 := Ge.mk GE186.out;replace HB := aK (below_step (bG HB.out) hb);have NB185_186 := aK (nbL BK185.out hg);have NB186_185 := aK (nbR BK185.out hg);replace BK185 := aK (blk_below (kM BK185.out) hb);clear hb hbox hg)|((with_reducible refine gate_dst (N := 4) rfl ?_);refine box_event ?hg (N := 4) ?hd (cs := #[.slice none 0 0,.slice none 0 0,.int .i64 0]) (t := 46) ?hr ?_;(case hd => rfl);(case hg => rfl);(case hr => first|(go_simp;done)|(go_simp;rfl));intro gb187 hg w10 hbox hb;replace HO0_0 := aK (Kd.R_below (rM HO0_0.out) hb);replace HO0_1 := aK (Kd.R_below (rM HO0_1.out) hb);replace HO1_3 := aK (Kd.V_below (Kd.V_elderB (vM HO1_3.out) gb187 (Nat.le_of_eq hg.symm)) hb);have BK187 := aK (hbox);have GW187 := aK ((by rw [hg];exact (by first|exact HK.out.1|exact (show Kept w _ (fun k_ => P0_0_ k_ ∨ P0_1_ k_) from kG HK.out).1) : w.heap.size ≤ gb187));have GJ187 := Ge.mk GW187.out;replace HK := aK (Kept.below (S := (fun k_ => P0_0_ k_ ∨ P0_1_ k_)) (kG HK.out) hb);have GE187 := aK ((by rw [hg];exact (below_size (bG HB.out)) : w0.heap.size ≤ gb187));have GI187 := Ge.mk GE187.out;replace HB := aK (below_step (bG HB.out) hb);have NB185_187 := aK (nbL BK185.out hg);have NB187_185 := aK (nbR BK185.out hg);replace BK185 := aK (blk_below (kM BK185.out) hb);have NB186_187 := aK (nbL BK186.out hg);have NB187_186 := aK (nbR BK186.out hg);replace BK186 := aK (blk_below (kM BK186.out) hb);clear hb hbox hg;have hnb11 := NB186_185.out;have hnc11 := NB185_186.out;have hnb12 := NB186_187.out;have hnc12 := NB187_186.out;obtain ⟨_,_,_,_,_,_,_,_,_,_,_,_⟩ := bk6_ BK186.out;have hnb14 := NB185_187.out;have hnc14 := NB187_185.out;obtain ⟨_,_,_,_,_,_⟩ := bk3_ BK185.out)|((with_reducible refine gate_dst (N := 13) rfl ?_);refine Kd.R_lit (Kd.int .i64) _ 3 ?hg (N := 13) ?hd (xs := ([a1_2] : List Int)) (inner := [.int .i64 a1_2]) (ok := fun _ => True) (okp := fun _ => True) ?hr ?hp (fun _ hk => hk) trivial (Below.refl _ _) (Nat.le_refl _) (by simp) ?_;(case hd => rfl);(case hg => rfl);(case hr => first|(go_simp;done)|(go_simp;rfl));(case hp => exact (Reps.one (show Kd.M (Kd.int .i64) _ _ _ a1_2 [.int .i64 a1_2] from rfl) (Reps.none _ _)));intro v189 w16 ho17 hb hg_ hnew_;clear hg_ hnew_;(first|rw [← Ny188.out] at ho17|(simp only [Int.reduceToNat] at ho17;rw [← Ny188.out] at ho17));replace HO1_3 := aK (Kd.V_elder' (vM HO1_3.out) (Kd.R_base ho17) hb);have HO190 := aK (Kd.R_lower (Kd.R_new' (Kd.R_new' (Kd.R_newM (M := fun k_ => ((P0_0_ k_ ∨ P0_1_ k_) ∨ w.heap.size ≤ k_)) ho17 (by first|exact HK.out.1|exact (show Kept w _ (fun k_ => P0_0_ k_ ∨ P0_1_ k_) from kG HK.out).1) (fun k_ h_ => .inr h_)) (Kd.R_lt (rM HO0_0.out))) (Kd.R_lt (rM HO0_1.out))) (below_size (bG HB.out)));replace HO0_0 := aK (Kd.R_elder' (rM HO0_0.out) (Kd.R_base ho17) hb);replace HO0_1 := aK (Kd.R_elder' (rM HO0_1.out) (Kd.R_base ho17) hb);replace BK185 := aK (blk_below (kM BK185.out) hb);replace BK186 := aK (blk_below (kM BK186.out) hb);replace BK187 := aK (blk_below (kM BK187.out) hb);replace HK := aK (Kept.below (S := (fun k_ => P0_0_ k_ ∨ P0_1_ k_)) (kG HK.out) hb);replace HB := aK (below_step (bG HB.out) hb);clear hb ho17;obtain ⟨Ao18,co18,eo18⟩ := Kd.R_slice HO190.out;subst eo18)|((with_reducible refine gate_callee (f := 54) rfl ?_);refine goesL_ (some 14) rfl rfl Tryz.func54 (by kernel_rfl) rfl #[.slice Ao6 l0_0.length co6,.slice Ao18 y188.length co18] rfl (by (try simp only [List.map_toArray,List.map_cons,List.map_nil]);first|done|rfl|(simp only [List.length_drop,List.length_take];rfl)) ?_;(with_reducible refine (posting_Or.calls k (fun k_ => some k_ = (.slice Ao6 l0_0.length co6 : Value).ownBlock) _ _ l0_0 (fun k_ => some k_ = (.slice Ao18 y188.length co18 : Value).ownBlock) _ _ y188 t191 _ ?side1 ?side2 A4.out).mono ?_);(case side1 => exact Kd.R_V (Kd.R_tight rfl (Kd.R_types (Kd.R_types (Kd.R_types (HO0_0.out) BK185.out (by decide)) BK186.out (by decide)) BK187.out (by decide))));(case side2 => exact Kd.R_V (Kd.R_tight rfl (Kd.R_types (Kd.R_types (Kd.R_types (HO190.out) BK185.out (by decide)) BK186.out (by decide)) BK187.out (by decide))));rintro e w19 ⟨v192,rfl,ho0,hb⟩;refine ⟨_,rfl,?_⟩;replace HO1_3 := aK (Kd.V_elder' (vM HO1_3.out) (Kd.R_base ho0) hb);have HO193 := aK (Kd.R_lower (Kd.R_new' (Kd.R_new' (Kd.R_new' (Kd.R_newM (M := fun k_ => ((P0_0_ k_ ∨ P0_1_ k_) ∨ w.heap.size ≤ k_)) (Kd.R_mono (ok' := fun k_ => True) ho0 (fun _ hk_ => trivial)) (by first|exact HK.out.1|exact (show Kept w _ (fun k_ => P0_0_ k_ ∨ P0_1_ k_) from kG HK.out).1) (fun k_ h_ => .inr h_)) (Kd.R_lt (rM HO0_0.out))) (Kd.R_lt (rM HO0_1.out))) (Kd.R_lt (rM HO190.out))) (below_size (bG HB.out)));replace HO0_0 := aK (Kd.R_elder' (rM HO0_0.out) (Kd.R_base ho0) hb);replace HO0_1 := aK (Kd.R_elder' (rM HO0_1.out) (Kd.R_base ho0) hb);replace BK185 := aK (blk_below (kM BK185.out) hb);replace BK186 := aK (blk_below (kM BK186.out) hb);replace BK187 := aK (blk_below (kM BK187.out) hb);replace HK := aK (Kept.below (S := (fun k_ => P0_0_ k_ ∨ P0_1_ k_)) (kG HK.out) hb);replace HB := aK (below_step (bG HB.out) hb);(try clear hb);(try clear hk);(try clear ho0);obtain ⟨Ao20,co20,eo20⟩ := Kd.R_slice HO193.out;subst eo20;obtain ⟨_,_,_,_,_,_⟩ := bk3_ BK185.out;obtain ⟨_,_,_,_,_,_,_,_,_,_,_,_⟩ := bk6_ BK186.out;obtain ⟨_,_,_,_,_,_⟩ := bk3_ BK187.out))
  refine bodyPost_ret (results_cell_row rfl _ _ gb187 46 #[.slice Ao20 t191.length co20,.slice Ao7 l0_1.length co7,.int .i64 ji5] (0,0) _ rfl (by (with_reducible repeat (first|refine blk_drewN ?_ _|refine blk_drew ?_|refine blk_alloc ?_ _));refine blk_put (cs := #[.slice Ao20 t191.length co20,.slice Ao7 l0_1.length co7,.int .i64 0]) ?_ 2 _ rfl;(with_reducible repeat (first|refine blk_drewN ?_ _|refine blk_drew ?_|refine blk_alloc ?_ _));refine blk_put (cs := #[.slice Ao20 t191.length co20,.slice none 0 0,.int .i64 0]) ?_ 1 _ rfl;(with_reducible repeat (first|refine blk_drewN ?_ _|refine blk_drew ?_|refine blk_alloc ?_ _));refine blk_put (cs := #[.slice none 0 0,.slice none 0 0,.int .i64 0]) ?_ 0 _ rfl;(with_reducible repeat (first|refine blk_drewN ?_ _|refine blk_drew ?_|refine blk_alloc ?_ _));refine blk_far ?_ NB187_185.out _;(with_reducible repeat (first|refine blk_drewN ?_ _|refine blk_drew ?_|refine blk_alloc ?_ _));refine blk_far ?_ NB187_185.out _;(with_reducible repeat (first|refine blk_drewN ?_ _|refine blk_drew ?_|refine blk_alloc ?_ _));exact BK187.out) Tryz.underlying46 rfl (by kernel_rfl)) rfl ?_
  exact ⟨_,_,by first|rfl|(simp [errW_none,errW_some] <;> rfl)|(simp only [← hji5];first|rfl|(simp [errW_none,errW_some] <;> rfl))|(simp [*,errW_none,errW_some] <;> rfl),by (with_reducible repeat (first|apply Kd.R_alloc|apply Kd.R_drewN|apply Kd.R_drew));exact Kd.R_mono (Kd.R_far (p := ⟨gb187,2,none⟩) (Kd.R_far (p := ⟨gb187,1,none⟩) (Kd.R_far (p := ⟨gb187,0,none⟩) (Kd.R_far (p := ⟨gb185,2,none⟩) (Kd.R_far (p := ⟨gb185,0,none⟩) (Kd.R_types (Kd.R_types HO193.out BK185.out (by decide)) BK187.out (by decide)) (fun _ hk => hk.1.2) (.slice Ao20 t191.length co20)) (fun _ hk => hk.1.2) (.int .i64 ji5)) (fun _ hk => hk.2) (.slice Ao20 t191.length co20)) (fun _ hk => hk.2) (.slice Ao7 l0_1.length co7)) (fun _ hk => hk.2) (.int .i64 ji5)) (fun _ hk => ⟨hk.1.1.1.1.1.1,hk.1.1.1.2⟩),by (with_reducible repeat (first|apply Kd.R_alloc|apply Kd.R_drewN|apply Kd.R_drew));exact Kd.R_mono (Kd.R_far (p := ⟨gb187,2,none⟩) (Kd.R_far (p := ⟨gb187,1,none⟩) (Kd.R_far (p := ⟨gb187,0,none⟩) (Kd.R_far (p := ⟨gb185,2,none⟩) (Kd.R_far (p := ⟨gb185,0,none⟩) (Kd.R_types (Kd.R_types HO0_1.out BK185.out (by decide)) BK187.out (by decide)) (fun _ hk => hk.1.2) (.slice Ao20 t191.length co20)) (fun _ hk => hk.1.2) (.int .i64 ji5)) (fun _ hk => hk.2) (.slice Ao20 t191.length co20)) (fun _ hk => hk.2) (.slice Ao7 l0_1.length co7)) (fun _ hk => hk.2) (.int .i64 ji5)) (fun _ hk => ⟨hk.1.1.1.1.1,hk.1.1.2⟩),bG HB.out,kG HK.out⟩
 ·rw [if_neg c3] at H
  have c3b0 := beq_eq_false_iff_ne.mpr c3
  have c3b1 := bne_iff_ne.mpr c3
  by_cases c24 : a1_1 = 2
  ·rw [if_pos c24] at H
   have c24b0 := beq_iff_eq.mpr c24
   have c24b1 := bne_eq_false_iff_eq.mpr c24
   clear c24
   replace H := Option.bind_eq_some_iff.mp H
   obtain ⟨t194,A250,H⟩ := H
   have A25 := aK A250
   clear A250
   obtain ⟨ji26,hji26⟩ : ∃ j_ : Int,(mx a0_2 a1_2) = j_ := ⟨_,rfl⟩
   replace H : (some (l0_0,t194,ji26)) = some (r1,r2,r3) := by first|(rw [hji26] at H;exact H)|(simp only [hji26] at H ⊢;exact H)
   (try rw [hji26] at A25)
   have hji26_ : (if a0_2 < a1_2 then a1_2 else a0_2) = ji26 := hji26
   simp only [Option.some.injEq,Prod.mk.injEq] at H
   obtain ⟨rfl,rfl,rfl⟩ := H
   obtain ⟨Ao27,co27,eo27⟩ := Kd.R_slice HO0_0.out
   subst eo27
   obtain ⟨Ao28,co28,eo28⟩ := Kd.R_slice HO0_1.out
   subst eo28
   go_enter Tryz.func25,Tryz.ntmps25
   go_wp2_with (first|((with_reducible refine gate_dst (N := 2) rfl ?_);refine box_event ?hg (N := 2) ?hd (cs := #[.slice Ao27 l0_0.length co27,.slice Ao28 l0_1.length co28,.int .i64 a0_2]) (t := 46) ?hr ?_;(case hd => rfl);(case hg => rfl);(case hr => first|(go_simp;done)|(go_simp;rfl));intro gb185 hg w29 hbox hb;replace HO0_0 := aK (Kd.R_below (rM HO0_0.out) hb);replace HO0_1 := aK (Kd.R_below (rM HO0_1.out) hb);replace HO1_3 := aK (Kd.V_below (Kd.V_elderB (vM HO1_3.out) gb185 (Nat.le_of_eq hg.symm)) hb);have BK185 := aK (hbox);have GW185 := aK ((by rw [hg];exact (by first|exact HK.out.1|exact (show Kept w _ (fun k_ => P0_0_ k_ ∨ P0_1_ k_) from kG HK.out).1) : w.heap.size ≤ gb185));have GJ185 := Ge.mk GW185.out;replace HK := aK (Kept.below (S := (fun k_ => P0_0_ k_ ∨ P0_1_ k_)) (kG HK.out) hb);have GE185 := aK ((by rw [hg];exact (below_size (bM HB.out)) : w0.heap.size ≤ gb185));have GI185 := Ge.mk GE185.out;replace HB := aK (below_step (bM HB.out) hb);clear hb hbox hg)|((with_reducible refine gate_dst (N := 3) rfl ?_);refine box_event ?hg (N := 3) ?hd (cs := #[.int .i64 a1_0,.int .i64 a1_1,.int .i64 a1_2,.slice A1_3 l1_3.length c1_3,.slice A1_4 l1_4.length c1_4,.slice A1_5 l1_5.length c1_5]) (t := 30) ?hr ?_;(case hd => rfl);(case hg => rfl);(case hr => first|(go_simp;done)|(go_simp;rfl));intro gb186 hg w30 hbox hb;replace HO0_0 := aK (Kd.R_below (rM HO0_0.out) hb);replace HO0_1 := aK (Kd.R_below (rM HO0_1.out) hb);replace HO1_3 := aK (Kd.V_below (Kd.V_elderB (vM HO1_3.out) gb186 (Nat.le_of_eq hg.symm)) hb);have BK186 := aK (hbox);have GW186 := aK ((by rw [hg];exact (by first|exact HK.out.1|exact (show Kept w _ (fun k_ => P0_0_ k_ ∨ P0_1_ k_) from kG HK.out).1) : w.heap.size ≤ gb186));have GJ186 := Ge.mk GW186.out;replace HK := aK (Kept.below (S := (fun k_ => P0_0_ k_ ∨ P0_1_ k_)) (kG HK.out) hb);have GE186 := aK ((by rw [hg];exact (below_size (bG HB.out)) : w0.heap.size ≤ gb186));have GI186 := Ge.mk GE186.out;replace HB := aK (below_step (bG HB.out) hb);have NB185_186 := aK (nbL BK185.out hg);have NB186_185 := aK (nbR BK185.out hg);replace BK185 := aK (blk_below (kM BK185.out) hb);clear hb hbox hg)|((with_reducible refine gate_dst (N := 4) rfl ?_);refine box_event ?hg (N := 4) ?hd (cs := #[.slice none 0 0,.slice none 0 0,.int .i64 0]) (t := 46) ?hr ?_;(case hd => rfl);(case hg => rfl);(case hr => first|(go_simp;done)|(go_simp;rfl));intro gb187 hg w31 hbox hb;replace HO0_0 := aK (Kd.R_below (rM HO0_0.out) hb);replace HO0_1 := aK (Kd.R_below (rM HO0_1.out) hb);replace HO1_3 := aK (Kd.V_below (Kd.V_elderB (vM HO1_3.out) gb187 (Nat.le_of_eq hg.symm)) hb);have BK187 := aK (hbox);have GW187 := aK ((by rw [hg];exact (by first|exact HK.out.1|exact (show Kept w _ (fun k_ => P0_0_ k_ ∨ P0_1_ k_) from kG HK.out).1) : w.heap.size ≤ gb187));have GJ187 := Ge.mk GW187.out;replace HK := aK (Kept.below (S := (fun k_ => P0_0_ k_ ∨ P0_1_ k_)) (kG HK.out) hb);have GE187 := aK ((by rw [hg];exact (below_size (bG HB.out)) : w0.heap.size ≤ gb187));have GI187 := Ge.mk GE187.out;replace HB := aK (below_step (bG HB.out) hb);have NB185_187 := aK (nbL BK185.out hg);have NB187_185 := aK (nbR BK185.out hg);replace BK185 := aK (blk_below (kM BK185.out) hb);have NB186_187 := aK (nbL BK186.out hg);have NB187_186 := aK (nbR BK186.out hg);replace BK186 := aK (blk_below (kM BK186.out) hb);clear hb hbox hg;have hnb32 := NB186_185.out;have hnc32 := NB185_186.out;have hnb33 := NB186_187.out;have hnc33 := NB187_186.out;obtain ⟨_,_,_,_,_,_,_,_,_,_,_,_⟩ := bk6_ BK186.out;have hnb35 := NB185_187.out;have hnc35 := NB187_185.out;obtain ⟨_,_,_,_,_,_⟩ := bk3_ BK185.out)|((with_reducible refine gate_callee (f := 54) rfl ?_);refine goesL_ (some 22) rfl rfl Tryz.func54 (by kernel_rfl) rfl #[.slice Ao28 l0_1.length co28,.slice A1_3 l1_3.length c1_3] rfl (by (try simp only [List.map_toArray,List.map_cons,List.map_nil]);first|done|rfl|(simp only [List.length_drop,List.length_take];rfl)) ?_;(with_reducible refine (posting_Or.calls k (fun k_ => some k_ = (.slice Ao28 l0_1.length co28 : Value).ownBlock) _ _ l0_1 (fun k_ => ((((((P0_0_ k_ ∨ P0_1_ k_ ∨ P1_3_ k_) ∨ w.heap.size ≤ k_) ∧ (some k_ ≠ (.slice Ao27 l0_0.length co27 : Value).ownBlock ∧ some k_ ≠ (.slice Ao28 l0_1.length co28 : Value).ownBlock)) ∧ k_ ≠ gb185) ∧ k_ ≠ gb186) ∧ k_ ≠ gb187)) _ _ l1_3 t194 _ ?side1 ?side2 A25.out).mono ?_);(case side1 => exact Kd.R_V (Kd.R_tight rfl (Kd.R_types (Kd.R_types (Kd.R_types (HO0_1.out) BK185.out (by decide)) BK186.out (by decide)) BK187.out (by decide))));(case side2 => exact HO1_3.out);rintro e w37 ⟨v195,rfl,ho0,hb⟩;refine ⟨_,rfl,?_⟩;replace HO1_3 := aK (Kd.V_elder' (vM HO1_3.out) (Kd.R_base ho0) hb);have HO196 := aK (Kd.R_lower (Kd.R_new' (Kd.R_new' (Kd.R_newM (M := fun k_ => ((P0_0_ k_ ∨ P0_1_ k_) ∨ w.heap.size ≤ k_)) (Kd.R_mono (ok' := fun k_ => True) ho0 (fun _ hk_ => trivial)) (by first|exact HK.out.1|exact (show Kept w _ (fun k_ => P0_0_ k_ ∨ P0_1_ k_) from kG HK.out).1) (fun k_ h_ => .inr h_)) (Kd.R_lt (rM HO0_0.out))) (Kd.R_lt (rM HO0_1.out))) (below_size (bG HB.out)));replace HO0_0 := aK (Kd.R_elder' (rM HO0_0.out) (Kd.R_base ho0) hb);replace HO0_1 := aK (Kd.R_elder' (rM HO0_1.out) (Kd.R_base ho0) hb);replace BK185 := aK (blk_below (kM BK185.out) hb);replace BK186 := aK (blk_below (kM BK186.out) hb);replace BK187 := aK (blk_below (kM BK187.out) hb);replace HK := aK (Kept.below (S := (fun k_ => P0_0_ k_ ∨ P0_1_ k_)) (kG HK.out) hb);replace HB := aK (below_step (bG HB.out) hb);(try clear hb);(try clear hk);(try clear ho0);obtain ⟨Ao38,co38,eo38⟩ := Kd.R_slice HO196.out;subst eo38;obtain ⟨_,_,_,_,_,_⟩ := bk3_ BK185.out;obtain ⟨_,_,_,_,_,_,_,_,_,_,_,_⟩ := bk6_ BK186.out;obtain ⟨_,_,_,_,_,_⟩ := bk3_ BK187.out))
   refine bodyPost_ret (results_cell_row rfl _ _ gb187 46 #[.slice Ao27 l0_0.length co27,.slice Ao38 t194.length co38,.int .i64 ji26] (0,0) _ rfl (by (with_reducible repeat (first|refine blk_drewN ?_ _|refine blk_drew ?_|refine blk_alloc ?_ _));refine blk_put (cs := #[.slice Ao27 l0_0.length co27,.slice Ao38 t194.length co38,.int .i64 0]) ?_ 2 _ rfl;(with_reducible repeat (first|refine blk_drewN ?_ _|refine blk_drew ?_|refine blk_alloc ?_ _));refine blk_put (cs := #[.slice Ao27 l0_0.length co27,.slice none 0 0,.int .i64 0]) ?_ 1 _ rfl;(with_reducible repeat (first|refine blk_drewN ?_ _|refine blk_drew ?_|refine blk_alloc ?_ _));refine blk_put (cs := #[.slice none 0 0,.slice none 0 0,.int .i64 0]) ?_ 0 _ rfl;(with_reducible repeat (first|refine blk_drewN ?_ _|refine blk_drew ?_|refine blk_alloc ?_ _));refine blk_far ?_ NB187_185.out _;(with_reducible repeat (first|refine blk_drewN ?_ _|refine blk_drew ?_|refine blk_alloc ?_ _));refine blk_far ?_ NB187_185.out _;(with_reducible repeat (first|refine blk_drewN ?_ _|refine blk_drew ?_|refine blk_alloc ?_ _));exact BK187.out) Tryz.underlying46 rfl (by kernel_rfl)) rfl ?_
   exact ⟨_,_,by first|rfl|(simp [errW_none,errW_some] <;> rfl)|(simp only [← hji26];first|rfl|(simp [errW_none,errW_some] <;> rfl))|(simp [*,errW_none,errW_some] <;> rfl),by (with_reducible repeat (first|apply Kd.R_alloc|apply Kd.R_drewN|apply Kd.R_drew));exact Kd.R_mono (Kd.R_far (p := ⟨gb187,2,none⟩) (Kd.R_far (p := ⟨gb187,1,none⟩) (Kd.R_far (p := ⟨gb187,0,none⟩) (Kd.R_far (p := ⟨gb185,2,none⟩) (Kd.R_far (p := ⟨gb185,1,none⟩) (Kd.R_types (Kd.R_types HO0_0.out BK185.out (by decide)) BK187.out (by decide)) (fun _ hk => hk.1.2) (.slice Ao38 t194.length co38)) (fun _ hk => hk.1.2) (.int .i64 ji26)) (fun _ hk => hk.2) (.slice Ao27 l0_0.length co27)) (fun _ hk => hk.2) (.slice Ao38 t194.length co38)) (fun _ hk => hk.2) (.int .i64 ji26)) (fun _ hk => ⟨hk.1.1.1.1,hk.1.1.2⟩),by (with_reducible repeat (first|apply Kd.R_alloc|apply Kd.R_drewN|apply Kd.R_drew));exact Kd.R_mono (Kd.R_far (p := ⟨gb187,2,none⟩) (Kd.R_far (p := ⟨gb187,1,none⟩) (Kd.R_far (p := ⟨gb187,0,none⟩) (Kd.R_far (p := ⟨gb185,2,none⟩) (Kd.R_far (p := ⟨gb185,1,none⟩) (Kd.R_types (Kd.R_types HO196.out BK185.out (by decide)) BK187.out (by decide)) (fun _ hk => hk.1.2) (.slice Ao38 t194.length co38)) (fun _ hk => hk.1.2) (.int .i64 ji26)) (fun _ hk => hk.2) (.slice Ao27 l0_0.length co27)) (fun _ hk => hk.2) (.slice Ao38 t194.length co38)) (fun _ hk => hk.2) (.int .i64 ji26)) (fun _ hk => ⟨hk.1.1.1.1.1,hk.1.1.1.2⟩),bG HB.out,kG HK.out⟩
  ·rw [if_neg c24] at H
   have c24b0 := beq_eq_false_iff_ne.mpr c24
   have c24b1 := bne_iff_ne.mpr c24
   by_cases c42 : a1_1 = 3
   ·rw [if_pos c42] at H
    have c42b0 := beq_iff_eq.mpr c42
    have c42b1 := bne_eq_false_iff_eq.mpr c42
    clear c42
    replace H := Option.bind_eq_some_iff.mp H
    obtain ⟨t197,A430,H⟩ := H
    have A43 := aK A430
    clear A430
    obtain ⟨y200,hy200⟩ : ∃ y_ : List Int,y_ = (([a1_2] : List Int)) := ⟨_,rfl⟩
    replace H : ((posting_Or.f k t197 y200).bind fun t203 => (some (t203,([] : List Int),mx a0_2 a1_2))) = some (r1,r2,r3) := by first|(rw [hy200];with_reducible exact H)|(have H2_ := (Option.bind_some _ _).symm.trans H;rw [hy200];with_reducible exact H2_)|(have H2_ := (Option.bind_some _ _).symm.trans H;with_reducible exact H2_)|with_reducible exact H|(rw [hy200];exact H)|exact H
    have Ny200 := aK hy200
    clear hy200
    replace H := Option.bind_eq_some_iff.mp H
    obtain ⟨t203,A440,H⟩ := H
    have A44 := aK A440
    clear A440
    obtain ⟨ji45,hji45⟩ : ∃ j_ : Int,(mx a0_2 a1_2) = j_ := ⟨_,rfl⟩
    replace H : (some (t203,([] : List Int),ji45)) = some (r1,r2,r3) := by first|(rw [hji45] at H;exact H)|(simp only [hji45] at H ⊢;exact H)
    (try rw [hji45] at A43)
    (try rw [hji45] at A44)
    have hji45_ : (if a0_2 < a1_2 then a1_2 else a0_2) = ji45 := hji45
    simp only [Option.some.injEq,Prod.mk.injEq] at H
    obtain ⟨rfl,rfl,rfl⟩ := H
    obtain ⟨Ao46,co46,eo46⟩ := Kd.R_slice HO0_0.out
    subst eo46
    obtain ⟨Ao47,co47,eo47⟩ := Kd.R_slice HO0_1.out
    subst eo47
    go_enter Tryz.func25,Tryz.ntmps25
    try go_wp2_with (first|((with_reducible refine gate_dst (N := 2) rfl ?_);refine box_event ?hg (N := 2) ?hd (cs := #[.slice Ao46 l0_0.length co46,.slice Ao47 l0_1.length co47,.int .i64 a0_2]) (t := 46) ?hr ?_;(case hd => rfl);(case hg => rfl);(case hr => first|(go_simp;done)|(go_simp;rfl));intro gb185 hg w48 hbox hb;replace HO0_0 := aK (Kd.R_below (rM HO0_0.out) hb);replace HO0_1 := aK (Kd.R_below (rM HO0_1.out) hb);replace HO1_3 := aK (Kd.V_below (Kd.V_elderB (vM HO1_3.out) gb185 (Nat.le_of_eq hg.symm)) hb);have BK185 := aK (hbox);have GW185 := aK ((by rw [hg];exact (by first|exact HK.out.1|exact (show Kept w _ (fun k_ => P0_0_ k_ ∨ P0_1_ k_) from kG HK.out).1) : w.heap.size ≤ gb185));have GJ185 := Ge.mk GW185.out;replace HK := aK (Kept.below (S := (fun k_ => P0_0_ k_ ∨ P0_1_ k_)) (kG HK.out) hb);have GE185 := aK ((by rw [hg];exact (below_size (bM HB.out)) : w0.heap.size ≤ gb185));have GI185 := Ge.mk GE185.out;replace HB := aK (below_step (bM HB.out) hb);clear hb hbox hg)|((with_reducible refine gate_dst (N := 3) rfl ?_);refine box_event ?hg (N := 3) ?hd (cs := #[.int .i64 a1_0,.int .i64 a1_1,.int .i64 a1_2,.slice A1_3 l1_3.length c1_3,.slice A1_4 l1_4.length c1_4,.slice A1_5 l1_5.length c1_5]) (t := 30) ?hr ?_;(case hd => rfl);(case hg => rfl);(case hr => first|(go_simp;done)|(go_simp;rfl));intro gb186 hg w49 hbox hb;replace HO0_0 := aK (Kd.R_below (rM HO0_0.out) hb);replace HO0_1 := aK (Kd.R_below (rM HO0_1.out) hb);replace HO1_3 := aK (Kd.V_below (Kd.V_elderB (vM HO1_3.out) gb186 (Nat.le_of_eq hg.symm)) hb);have BK186 := aK (hbox);have GW186 := aK ((by rw [hg];exact (by first|exact HK.out.1|exact (show Kept w _ (fun k_ => P0_0_ k_ ∨ P0_1_ k_) from kG HK.out).1) : w.heap.size ≤ gb186));have GJ186 := Ge.mk GW186.out;replace HK := aK (Kept.below (S := (fun k_ => P0_0_ k_ ∨ P0_1_ k_)) (kG HK.out) hb);have GE186 := aK ((by rw [hg];exact (below_size (bG HB.out)) : w0.heap.size ≤ gb186));have GI186 := Ge.mk GE186.out;replace HB := aK (below_step (bG HB.out) hb);have NB185_186 := aK (nbL BK185.out hg);have NB186_185 := aK (nbR BK185.out hg);replace BK185 := aK (blk_below (kM BK185.out) hb);clear hb hbox hg)|((with_reducible refine gate_dst (N := 4) rfl ?_);refine box_event ?hg (N := 4) ?hd (cs := #[.slice none 0 0,.slice none 0 0,.int .i64 0]) (t := 46) ?hr ?_;(case hd => rfl);(case hg => rfl);(case hr => first|(go_simp;done)|(go_simp;rfl));intro gb187 hg w50 hbox hb;replace HO0_0 := aK (Kd.R_below (rM HO0_0.out) hb);replace HO0_1 := aK (Kd.R_below (rM HO0_1.out) hb);replace HO1_3 := aK (Kd.V_below (Kd.V_elderB (vM HO1_3.out) gb187 (Nat.le_of_eq hg.symm)) hb);have BK187 := aK (hbox);have GW187 := aK ((by rw [hg];exact (by first|exact HK.out.1|exact (show Kept w _ (fun k_ => P0_0_ k_ ∨ P0_1_ k_) from kG HK.out).1) : w.heap.size ≤ gb187));have GJ187 := Ge.mk GW187.out;replace HK := aK (Kept.below (S := (fun k_ => P0_0_ k_ ∨ P0_1_ k_)) (kG HK.out) hb);have GE187 := aK ((by rw [hg];exact (below_size (bG HB.out)) : w0.heap.size ≤ gb187));have GI187 := Ge.mk GE187.out;replace HB := aK (below_step (bG HB.out) hb);have NB185_187 := aK (nbL BK185.out hg);have NB187_185 := aK (nbR BK185.out hg);replace BK185 := aK (blk_below (kM BK185.out) hb);have NB186_187 := aK (nbL BK186.out hg);have NB187_186 := aK (nbR BK186.out hg);replace BK186 := aK (blk_below (kM BK186.out) hb);clear hb hbox hg;have hnb51 := NB186_185.out;have hnc51 := NB185_186.out;have hnb52 := NB186_187.out;have hnc52 := NB187_186.out;obtain ⟨_,_,_,_,_,_,_,_,_,_,_,_⟩ := bk6_ BK186.out))
    have n0_ := aK (Kd.R_drew HO0_0.out)
    have n1_ := aK (Kd.R_drew HO0_1.out)
    have n2_ := aK (Kd.V_drew HO1_3.out)
    have n3_ := aK (blk_drew BK185.out)
    have n4_ := aK (blk_drew BK186.out)
    have n5_ := aK (blk_drew BK187.out)
    have n6_ := aK (Kept.drew HK.out)
    have n7_ := aK (below_drew1 HB.out)
    clear HO0_0
    clear HO0_1
    clear HO1_3
    clear BK185
    clear BK186
    clear BK187
    clear HK
    clear HB
    have HO0_0 := n0_
    have HO0_1 := n1_
    have HO1_3 := n2_
    have BK185 := n3_
    have BK186 := n4_
    have BK187 := n5_
    have HK := n6_
    have HB := n7_
    clear n0_ n1_ n2_ n3_ n4_ n5_ n6_ n7_
    refine start_ (n := 11) (S := fun w' => w'.cell? ⟨gb185,0,none⟩ = some (.slice Ao46 l0_0.length co46) ∧ w'.cell? ⟨gb185,1,none⟩ = some (.slice Ao47 l0_1.length co47) ∧ w'.cell? ⟨gb185,2,none⟩ = some (.int .i64 a0_2) ∧ w'.cell? ⟨gb186,0,none⟩ = some (.int .i64 a1_0) ∧ w'.cell? ⟨gb186,1,none⟩ = some (.int .i64 a1_1) ∧ w'.cell? ⟨gb186,2,none⟩ = some (.int .i64 a1_2) ∧ w'.cell? ⟨gb186,3,none⟩ = some (.slice A1_3 l1_3.length c1_3) ∧ w'.cell? ⟨gb186,4,none⟩ = some (.slice A1_4 l1_4.length c1_4) ∧ w'.cell? ⟨gb186,5,none⟩ = some (.slice A1_5 l1_5.length c1_5)) (ds := [10]) #[false,false,false,false,false,false,false,false,false,false,false] (by kernel_rfl) rfl rfl ⟨(blk_cell BK185.out 0).trans rfl,(blk_cell BK185.out 1).trans rfl,(blk_cell BK185.out 2).trans rfl,(blk_cell BK186.out 0).trans rfl,(blk_cell BK186.out 1).trans rfl,(blk_cell BK186.out 2).trans rfl,(blk_cell BK186.out 3).trans rfl,(blk_cell BK186.out 4).trans rfl,(blk_cell BK186.out 5).trans rfl⟩ (fun hHeld => ?_);refine with_tabW manifest_state_after.tab7 manifest_state_after.bits7 (fun HT_ HW_ => ?_)
    generalize w50.drew = w54 at HO0_0 HO0_1 HO1_3 BK185 BK186 BK187 HK HB hHeld ⊢
    refine pure_ (i := 0) (N := some 26) (v := ?_) (a' := ?_) #[true,false,false,false,false,false,false,false,false,false,false] rfl rfl (any_of HT_.out (by kernel_rfl)) (fun _ _ _ h => h) (Or.inl ⟨by rfl,?_⟩) ?_ ?_
    rotate_left
    ·intro w'
     go_simp
     with_reducible rfl
    rotate_left
    ·simp only [Act.put,List.setIfInBounds_toArray,List.set_cons_zero,List.set_cons_succ,i64_w,i32_w]
     rfl
    refine pure_ (i := 2) (N := some 28) (v := ?_) (a' := ?_) #[true,false,true,false,false,false,false,false,false,false,false] rfl rfl (any_of HT_.out (by kernel_rfl)) (fun _ _ _ h => h) (Or.inl ⟨by rfl,?_⟩) ?_ ?_
    rotate_left
    ·intro w'
     go_simp
     with_reducible rfl
    rotate_left
    ·simp only [Act.put,List.setIfInBounds_toArray,List.set_cons_zero,List.set_cons_succ,i64_w,i32_w]
     rfl
    refine pure_ (i := 5) (N := some 31) (v := ?_) (a' := ?_) #[true,false,true,false,false,true,false,false,false,false,false] rfl rfl (any_of HT_.out (by kernel_rfl)) (fun _ _ _ h => h) (Or.inl ⟨by rfl,?_⟩) ?_ ?_
    rotate_left
    ·intro w'
     go_simp
     with_reducible rfl
    rotate_left
    ·simp only [Act.put,List.setIfInBounds_toArray,List.set_cons_zero,List.set_cons_succ,i64_w,i32_w]
     rfl
    refine take_ (i := 1) (N := some 27) (v := ?_) (a' := ?_) #[true,true,true,false,false,true,false,false,false,false,false] rfl rfl (take_ofW HT_.out HW_.out (by kernel_rfl)) (fun _ _ _ h => h) (Or.inl ⟨by rfl,?_⟩) hHeld ?_ ?_
    rotate_left
    ·rintro w' ⟨s0,s1,s2,s3,s4,s5,s6,s7,s8⟩
     go_simp
     with_reducible rfl
    rotate_left
    ·simp only [Act.put,List.setIfInBounds_toArray,List.set_cons_zero,List.set_cons_succ,i64_w,i32_w]
     rfl
    refine take_ (i := 3) (N := some 29) (v := ?_) (a' := ?_) #[true,true,true,true,false,true,false,false,false,false,false] rfl rfl (take_ofW HT_.out HW_.out (by kernel_rfl)) (fun _ _ _ h => h) (Or.inl ⟨by rfl,?_⟩) hHeld ?_ ?_
    rotate_left
    ·rintro w' ⟨s0,s1,s2,s3,s4,s5,s6,s7,s8⟩
     go_simp
     with_reducible rfl
    rotate_left
    ·simp only [Act.put,List.setIfInBounds_toArray,List.set_cons_zero,List.set_cons_succ,i64_w,i32_w]
     rfl
    refine take_ (i := 6) (N := some 32) (v := ?_) (a' := ?_) #[true,true,true,true,false,true,true,false,false,false,false] rfl rfl (take_ofW HT_.out HW_.out (by kernel_rfl)) (fun _ _ _ h => h) (Or.inl ⟨by rfl,?_⟩) hHeld ?_ ?_
    rotate_left
    ·rintro w' ⟨s0,s1,s2,s3,s4,s5,s6,s7,s8⟩
     go_simp
     with_reducible rfl
    rotate_left
    ·simp only [Act.put,List.setIfInBounds_toArray,List.set_cons_zero,List.set_cons_succ,i64_w,i32_w]
     rfl
    refine join_ (σ := Value × Value) 3 #[true,true,true,true,true,true,true,true,false,false,false] (fun s_ => [(30,s_.1),(33,s_.2)]) (fun s_ w' => (w'.cell? ⟨gb185,0,none⟩ = some (.slice Ao46 l0_0.length co46) ∧ w'.cell? ⟨gb185,1,none⟩ = some (.slice Ao47 l0_1.length co47) ∧ w'.cell? ⟨gb185,2,none⟩ = some (.int .i64 a0_2) ∧ w'.cell? ⟨gb186,0,none⟩ = some (.int .i64 a1_0) ∧ w'.cell? ⟨gb186,1,none⟩ = some (.int .i64 a1_1) ∧ w'.cell? ⟨gb186,2,none⟩ = some (.int .i64 a1_2) ∧ w'.cell? ⟨gb186,3,none⟩ = some (.slice A1_3 l1_3.length c1_3) ∧ w'.cell? ⟨gb186,4,none⟩ = some (.slice A1_4 l1_4.length c1_4) ∧ w'.cell? ⟨gb186,5,none⟩ = some (.slice A1_5 l1_5.length c1_5)) ∧ (Kd.R (Kd.int .i64) 3 w' w0.heap.size (fun k_ => ((P0_0_ k_ ∨ P0_1_ k_) ∨ w.heap.size ≤ k_) ∧ some k_ ≠ (.slice Ao47 l0_1.length co47 : Value).ownBlock ∧ some k_ ≠ (s_.1 : Value).ownBlock ∧ some k_ ≠ (s_.2 : Value).ownBlock) (.slice Ao46 l0_0.length co46) l0_0) ∧ (Kd.R (Kd.int .i64) 3 w' w0.heap.size (fun k_ => ((P0_0_ k_ ∨ P0_1_ k_) ∨ w.heap.size ≤ k_) ∧ some k_ ≠ (.slice Ao46 l0_0.length co46 : Value).ownBlock ∧ some k_ ≠ (s_.1 : Value).ownBlock ∧ some k_ ≠ (s_.2 : Value).ownBlock) (.slice Ao47 l0_1.length co47) l0_1) ∧ (Kd.R (Kd.int .i64) 3 w' w0.heap.size (fun k_ => ((P0_0_ k_ ∨ P0_1_ k_) ∨ w.heap.size ≤ k_) ∧ some k_ ≠ (.slice Ao46 l0_0.length co46 : Value).ownBlock ∧ some k_ ≠ (.slice Ao47 l0_1.length co47 : Value).ownBlock ∧ some k_ ≠ (s_.2 : Value).ownBlock) s_.1 t197) ∧ (Kd.V (Kd.int .i64) 3 w' w0.heap.size (fun k_ => ((P0_0_ k_ ∨ P0_1_ k_ ∨ P1_3_ k_) ∨ w.heap.size ≤ k_) ∧ some k_ ≠ (.slice Ao46 l0_0.length co46 : Value).ownBlock ∧ some k_ ≠ (.slice Ao47 l0_1.length co47 : Value).ownBlock ∧ some k_ ≠ (s_.1 : Value).ownBlock ∧ some k_ ≠ (s_.2 : Value).ownBlock ∧ k_ ≠ gb185 ∧ k_ ≠ gb186 ∧ k_ ≠ gb187) (.slice A1_3 l1_3.length c1_3) l1_3) ∧ (Kd.R (Kd.int .i64) 3 w' w0.heap.size (fun k_ => ((P0_0_ k_ ∨ P0_1_ k_) ∨ w.heap.size ≤ k_) ∧ some k_ ≠ (.slice Ao46 l0_0.length co46 : Value).ownBlock ∧ some k_ ≠ (.slice Ao47 l0_1.length co47 : Value).ownBlock ∧ some k_ ≠ (s_.1 : Value).ownBlock) s_.2 y200) ∧ (w'.heap[gb185]? = some (.cells #[.slice Ao46 l0_0.length co46,.slice Ao47 l0_1.length co47,.int .i64 a0_2] 46 (0,0))) ∧ (w'.heap[gb186]? = some (.cells #[.int .i64 a1_0,.int .i64 a1_1,.int .i64 a1_2,.slice A1_3 l1_3.length c1_3,.slice A1_4 l1_4.length c1_4,.slice A1_5 l1_5.length c1_5] 30 (0,0))) ∧ (w'.heap[gb187]? = some (.cells #[.slice none 0 0,.slice none 0 0,.int .i64 0] 46 (0,0))) ∧ (Kept w w' (fun k_ => P0_0_ k_ ∨ P0_1_ k_)) ∧ (Below w0.heap.size w0 w')) ?_ ?_
    rotate_left
    ·intro hCont
     refine two_ (i := 4) (j := 7) (Ni := some 30) (Nj := some 33) #[true,true,true,true,true,true,true,false,false,false,false] #[true,true,true,true,false,true,true,true,false,false,false] rfl rfl rfl rfl (two_of HT_.out (by kernel_rfl)) (by decide) (by decide) (fun K hK => ?_) (fun K hK => ?_)
     ·skip
      refine goes_ Tryz.func55 (by kernel_rfl) rfl #[.slice Ao46 l0_0.length co46,.slice A1_4 l1_4.length c1_4] (by rfl) rfl rfl (by (try simp only [List.map_toArray,List.map_cons,List.map_nil]);first|done|rfl|(simp only [List.length_drop,List.length_take];rfl)) ?_
      with_reducible refine (posting_Minus.calls _ _ l0_0 _ _ l1_4 t197 _ ?side1 ?side2 ?side3 ?side4 A43.out).mono ?_
      (case side1 => exact cM (Kd.R_reads' HO0_0.out).2.2)
      (case side2 => exact (Kd.R_reads' HO0_0.out).2.1)
      (case side3 => exact Kd.C_kept_now HR1_4.out (kG HK.out))
      (case side4 => exact HC1_4.out)
      rintro e w55 ⟨v198,rfl,ho0,hb⟩
      refine ⟨_,rfl,?_⟩
      have n0_ := aK (Kd.R_elder' (rM HO0_0.out) (Kd.R_base ho0) hb)
      have n1_ := aK (Kd.R_elder' (rM HO0_1.out) (Kd.R_base ho0) hb)
      have n2_ := aK (Kd.V_elder' (vM HO1_3.out) (Kd.R_base ho0) hb)
      have n3_ := aK (Kd.R_lower (Kd.R_new' (Kd.R_new' (Kd.R_newM (M := fun k_ => ((P0_0_ k_ ∨ P0_1_ k_) ∨ w.heap.size ≤ k_)) ho0 (by first|exact HK.out.1|exact (show Kept w _ (fun k_ => P0_0_ k_ ∨ P0_1_ k_) from kG HK.out).1) (fun k_ h_ => .inr h_)) (Kd.R_lt (rM HO0_0.out))) (Kd.R_lt (rM HO0_1.out))) (below_size (bG HB.out)))
      have n4_ := aK (blk_below (kM BK185.out) hb)
      have n5_ := aK (blk_below (kM BK186.out) hb)
      have n6_ := aK (blk_below (kM BK187.out) hb)
      have n7_ := aK (Kept.below (S := (fun k_ => P0_0_ k_ ∨ P0_1_ k_)) (kG HK.out) hb)
      have n8_ := aK (below_step (bG HB.out) hb)
      clear HO0_0
      clear HO0_1
      clear HO1_3
      clear BK185
      clear BK186
      clear BK187
      clear HK
      clear HB
      have HO0_0 := n0_
      have HO0_1 := n1_
      have HO1_3 := n2_
      have HO199 := n3_
      have BK185 := n4_
      have BK186 := n5_
      have BK187 := n6_
      have HK := n7_
      have HB := n8_
      clear n0_ n1_ n2_ n3_ n4_ n5_ n6_ n7_ n8_
      (try clear hb)
      
      (try clear hk)
      
      (try clear ho0)
      refine hK.out _ _ ⟨(blk_cell BK185.out 0).trans rfl,(blk_cell BK185.out 1).trans rfl,(blk_cell BK185.out 2).trans rfl,(blk_cell BK186.out 0).trans rfl,(blk_cell BK186.out 1).trans rfl,(blk_cell BK186.out 2).trans rfl,(blk_cell BK186.out 3).trans rfl,(blk_cell BK186.out 4).trans rfl,(blk_cell BK186.out 5).trans rfl⟩ (fun hHeld => ?_)
      clear hK K
      refine norm_ (a' := ?_) ?_ ?_
      rotate_left
      ·show Act.put _ (some 30) _ = _
       simp only [Act.put,List.setIfInBounds_toArray,List.set_cons_zero,List.set_cons_succ,i64_w,i32_w]
       rfl
      refine one_ (i := 7) (N := some 33) #[true,true,true,true,true,true,true,true,false,false,false] rfl rfl (one_of HT_.out (by kernel_rfl)) (by decide) (fun K hK => ?_)
      refine Kd.R_lit_step (Kd.int .i64) _ 3 ?hg (N := 33) ?hd (xs := ([a1_2] : List Int)) (inner := [.int .i64 a1_2]) (ok := fun _ => True) (okp := fun _ => True) ?hr ?hp (fun _ hk => hk) trivial (Below.refl _ _) (Nat.le_refl _) (by simp) ?_;(case hd => rfl);(case hg => rfl);(case hr => first|(go_simp;done)|(go_simp;rfl));(case hp => exact (Reps.one (show Kd.M (Kd.int .i64) _ _ _ a1_2 [.int .i64 a1_2] from rfl) (Reps.none _ _)))
      intro v201 w56 ho57 hb hg_ hnew_
      clear hg_ hnew_
      (first|rw [← Ny200.out] at ho57|(simp only [Int.reduceToNat] at ho57;rw [← Ny200.out] at ho57))
      have n0_ := aK (Kd.R_elder' (rM HO0_0.out) (Kd.R_base ho57) hb)
      have n1_ := aK (Kd.R_elder' (rM HO0_1.out) (Kd.R_base ho57) hb)
      have n2_ := aK (Kd.V_elder' (vM HO1_3.out) (Kd.R_base ho57) hb)
      have n3_ := aK (Kd.R_elder' (rM HO199.out) (Kd.R_base ho57) hb)
      have n4_ := aK (Kd.R_lower (Kd.R_new' (Kd.R_new' (Kd.R_new' (Kd.R_newM (M := fun k_ => ((P0_0_ k_ ∨ P0_1_ k_) ∨ w.heap.size ≤ k_)) ho57 (by first|exact HK.out.1|exact (show Kept w _ (fun k_ => P0_0_ k_ ∨ P0_1_ k_) from kG HK.out).1) (fun k_ h_ => .inr h_)) (Kd.R_lt (rM HO0_0.out))) (Kd.R_lt (rM HO0_1.out))) (Kd.R_lt (rM HO199.out))) (below_size (bG HB.out)))
      have n5_ := aK (blk_below (kM BK185.out) hb)
      have n6_ := aK (blk_below (kM BK186.out) hb)
      have n7_ := aK (blk_below (kM BK187.out) hb)
      have n8_ := aK (Kept.below (S := (fun k_ => P0_0_ k_ ∨ P0_1_ k_)) (kG HK.out) hb)
      have n9_ := aK (below_step (bG HB.out) hb)
      clear HO0_0
      clear HO0_1
      clear HO1_3
      clear HO199
      clear BK185
      clear BK186
      clear BK187
      clear HK
      clear HB
      have HO0_0 := n0_
      have HO0_1 := n1_
      have HO1_3 := n2_
      have HO199 := n3_
      have HO202 := n4_
      have BK185 := n5_
      have BK186 := n6_
      have BK187 := n7_
      have HK := n8_
      have HB := n9_
      clear n0_ n1_ n2_ n3_ n4_ n5_ n6_ n7_ n8_ n9_
      clear hb ho57
      refine hK.out _ _ ⟨(blk_cell BK185.out 0).trans rfl,(blk_cell BK185.out 1).trans rfl,(blk_cell BK185.out 2).trans rfl,(blk_cell BK186.out 0).trans rfl,(blk_cell BK186.out 1).trans rfl,(blk_cell BK186.out 2).trans rfl,(blk_cell BK186.out 3).trans rfl,(blk_cell BK186.out 4).trans rfl,(blk_cell BK186.out 5).trans rfl⟩ (fun hHeld => ?_)
      clear hK K
      refine norm_ (a' := ?_) ?_ ?_
      rotate_left
      ·show Act.put _ (some 33) _ = _
       simp only [Act.put,List.setIfInBounds_toArray,List.set_cons_zero,List.set_cons_succ,i64_w,i32_w]
       rfl
      exact norm_ (by simp only [putAll,Act.put,List.setIfInBounds_toArray,List.set_cons_zero,List.set_cons_succ]) (hCont (v198,v201) _ ⟨hHeld,(by (with_reducible repeat (first|apply Kd.R_alloc|apply Kd.R_drewN|apply Kd.R_drew));exact Kd.R_mono HO0_0.out (fun _ hk => ⟨hk.1.1.1,⟨hk.1.1.2,⟨hk.1.2,hk.2⟩⟩⟩)),(by (with_reducible repeat (first|apply Kd.R_alloc|apply Kd.R_drewN|apply Kd.R_drew));exact Kd.R_mono HO0_1.out (fun _ hk => ⟨hk.1.1.1,⟨hk.1.1.2,⟨hk.1.2,hk.2⟩⟩⟩)),(by (with_reducible repeat (first|apply Kd.R_alloc|apply Kd.R_drewN|apply Kd.R_drew));exact Kd.R_mono HO199.out (fun _ hk => ⟨hk.1.1.1.1,⟨hk.1.1.2,⟨hk.1.2,hk.2⟩⟩⟩)),(by (with_reducible repeat (first|apply Kd.V_alloc|apply Kd.V_drewN|apply Kd.V_drew));exact Kd.V_mono HO1_3.out (fun _ hk => ⟨hk.1.1.1.1.1.1,⟨hk.1.1.1.1.1.2.1,⟨hk.1.1.1.1.1.2.2,⟨hk.1.2,⟨hk.2,⟨hk.1.1.1.1.2,⟨hk.1.1.1.2,hk.1.1.2⟩⟩⟩⟩⟩⟩⟩)),(by (with_reducible repeat (first|apply Kd.R_alloc|apply Kd.R_drewN|apply Kd.R_drew));exact Kd.R_mono HO202.out (fun _ hk => ⟨hk.1.1.1.1,⟨hk.1.1.2,⟨hk.1.2,hk.2⟩⟩⟩)),(kM BK185.out),(kM BK186.out),(kM BK187.out),(kG HK.out),(bG HB.out)⟩)
     ·skip
      refine Kd.R_lit_step (Kd.int .i64) _ 3 ?hg (N := 33) ?hd (xs := ([a1_2] : List Int)) (inner := [.int .i64 a1_2]) (ok := fun _ => True) (okp := fun _ => True) ?hr ?hp (fun _ hk => hk) trivial (Below.refl _ _) (Nat.le_refl _) (by simp) ?_;(case hd => rfl);(case hg => rfl);(case hr => first|(go_simp;done)|(go_simp;rfl));(case hp => exact (Reps.one (show Kd.M (Kd.int .i64) _ _ _ a1_2 [.int .i64 a1_2] from rfl) (Reps.none _ _)))
      intro v201 w55 ho56 hb hg_ hnew_
      clear hg_ hnew_
      (first|rw [← Ny200.out] at ho56|(simp only [Int.reduceToNat] at ho56;rw [← Ny200.out] at ho56))
      have n0_ := aK (Kd.R_elder' (rM HO0_0.out) (Kd.R_base ho56) hb)
      have n1_ := aK (Kd.R_elder' (rM HO0_1.out) (Kd.R_base ho56) hb)
      have n2_ := aK (Kd.V_elder' (vM HO1_3.out) (Kd.R_base ho56) hb)
      have n3_ := aK (Kd.R_lower (Kd.R_new' (Kd.R_new' (Kd.R_newM (M := fun k_ => ((P0_0_ k_ ∨ P0_1_ k_) ∨ w.heap.size ≤ k_)) ho56 (by first|exact HK.out.1|exact (show Kept w _ (fun k_ => P0_0_ k_ ∨ P0_1_ k_) from kG HK.out).1) (fun k_ h_ => .inr h_)) (Kd.R_lt (rM HO0_0.out))) (Kd.R_lt (rM HO0_1.out))) (below_size (bG HB.out)))
      have n4_ := aK (blk_below (kM BK185.out) hb)
      have n5_ := aK (blk_below (kM BK186.out) hb)
      have n6_ := aK (blk_below (kM BK187.out) hb)
      have n7_ := aK (Kept.below (S := (fun k_ => P0_0_ k_ ∨ P0_1_ k_)) (kG HK.out) hb)
      have n8_ := aK (below_step (bG HB.out) hb)
      clear HO0_0
      clear HO0_1
      clear HO1_3
      clear BK185
      clear BK186
      clear BK187
      clear HK
      clear HB
      have HO0_0 := n0_
      have HO0_1 := n1_
      have HO1_3 := n2_
      have HO202 := n3_
      have BK185 := n4_
      have BK186 := n5_
      have BK187 := n6_
      have HK := n7_
      have HB := n8_
      clear n0_ n1_ n2_ n3_ n4_ n5_ n6_ n7_ n8_
      clear hb ho56
      refine hK.out _ _ ⟨(blk_cell BK185.out 0).trans rfl,(blk_cell BK185.out 1).trans rfl,(blk_cell BK185.out 2).trans rfl,(blk_cell BK186.out 0).trans rfl,(blk_cell BK186.out 1).trans rfl,(blk_cell BK186.out 2).trans rfl,(blk_cell BK186.out 3).trans rfl,(blk_cell BK186.out 4).trans rfl,(blk_cell BK186.out 5).trans rfl⟩ (fun hHeld => ?_)
      clear hK K
      refine norm_ (a' := ?_) ?_ ?_
      rotate_left
      ·show Act.put _ (some 33) _ = _
       simp only [Act.put,List.setIfInBounds_toArray,List.set_cons_zero,List.set_cons_succ,i64_w,i32_w]
       rfl
      refine one_ (i := 4) (N := some 30) #[true,true,true,true,true,true,true,true,false,false,false] rfl rfl (one_of HT_.out (by kernel_rfl)) (by decide) (fun K hK => ?_)
      refine goes_ Tryz.func55 (by kernel_rfl) rfl #[.slice Ao46 l0_0.length co46,.slice A1_4 l1_4.length c1_4] (by rfl) rfl rfl (by (try simp only [List.map_toArray,List.map_cons,List.map_nil]);first|done|rfl|(simp only [List.length_drop,List.length_take];rfl)) ?_
      with_reducible refine (posting_Minus.calls _ _ l0_0 _ _ l1_4 t197 _ ?side1 ?side2 ?side3 ?side4 A43.out).mono ?_
      (case side1 => exact cM (Kd.R_reads' HO0_0.out).2.2)
      (case side2 => exact (Kd.R_reads' HO0_0.out).2.1)
      (case side3 => exact Kd.C_kept_now HR1_4.out (kG HK.out))
      (case side4 => exact HC1_4.out)
      rintro e w57 ⟨v198,rfl,ho0,hb⟩
      refine ⟨_,rfl,?_⟩
      have n0_ := aK (Kd.R_elder' (rM HO0_0.out) (Kd.R_base ho0) hb)
      have n1_ := aK (Kd.R_elder' (rM HO0_1.out) (Kd.R_base ho0) hb)
      have n2_ := aK (Kd.V_elder' (vM HO1_3.out) (Kd.R_base ho0) hb)
      have n3_ := aK (Kd.R_elder' (rM HO202.out) (Kd.R_base ho0) hb)
      have n4_ := aK (Kd.R_lower (Kd.R_new' (Kd.R_new' (Kd.R_new' (Kd.R_newM (M := fun k_ => ((P0_0_ k_ ∨ P0_1_ k_) ∨ w.heap.size ≤ k_)) ho0 (by first|exact HK.out.1|exact (show Kept w _ (fun k_ => P0_0_ k_ ∨ P0_1_ k_) from kG HK.out).1) (fun k_ h_ => .inr h_)) (Kd.R_lt (rM HO0_0.out))) (Kd.R_lt (rM HO0_1.out))) (Kd.R_lt (rM HO202.out))) (below_size (bG HB.out)))
      have n5_ := aK (blk_below (kM BK185.out) hb)
      have n6_ := aK (blk_below (kM BK186.out) hb)
      have n7_ := aK (blk_below (kM BK187.out) hb)
      have n8_ := aK (Kept.below (S := (fun k_ => P0_0_ k_ ∨ P0_1_ k_)) (kG HK.out) hb)
      have n9_ := aK (below_step (bG HB.out) hb)
      clear HO0_0
      clear HO0_1
      clear HO1_3
      clear HO202
      clear BK185
      clear BK186
      clear BK187
      clear HK
      clear HB
      have HO0_0 := n0_
      have HO0_1 := n1_
      have HO1_3 := n2_
      have HO202 := n3_
      have HO199 := n4_
      have BK185 := n5_
      have BK186 := n6_
      have BK187 := n7_
      have HK := n8_
      have HB := n9_
      clear n0_ n1_ n2_ n3_ n4_ n5_ n6_ n7_ n8_ n9_
      (try clear hb)
      
      (try clear hk)
      
      (try clear ho0)
      refine hK.out _ _ ⟨(blk_cell BK185.out 0).trans rfl,(blk_cell BK185.out 1).trans rfl,(blk_cell BK185.out 2).trans rfl,(blk_cell BK186.out 0).trans rfl,(blk_cell BK186.out 1).trans rfl,(blk_cell BK186.out 2).trans rfl,(blk_cell BK186.out 3).trans rfl,(blk_cell BK186.out 4).trans rfl,(blk_cell BK186.out 5).trans rfl⟩ (fun hHeld => ?_)
      clear hK K
      refine norm_ (a' := ?_) ?_ ?_
      rotate_left
      ·show Act.put _ (some 30) _ = _
       simp only [Act.put,List.setIfInBounds_toArray,List.set_cons_zero,List.set_cons_succ,i64_w,i32_w]
       rfl
      exact norm_ (by simp only [putAll,Act.put,List.setIfInBounds_toArray,List.set_cons_zero,List.set_cons_succ]) (hCont (v198,v201) _ ⟨hHeld,(by (with_reducible repeat (first|apply Kd.R_alloc|apply Kd.R_drewN|apply Kd.R_drew));exact Kd.R_mono HO0_0.out (fun _ hk => ⟨hk.1.1.1,⟨hk.1.1.2,⟨hk.2,hk.1.2⟩⟩⟩)),(by (with_reducible repeat (first|apply Kd.R_alloc|apply Kd.R_drewN|apply Kd.R_drew));exact Kd.R_mono HO0_1.out (fun _ hk => ⟨hk.1.1.1,⟨hk.1.1.2,⟨hk.2,hk.1.2⟩⟩⟩)),(by (with_reducible repeat (first|apply Kd.R_alloc|apply Kd.R_drewN|apply Kd.R_drew));exact Kd.R_mono HO199.out (fun _ hk => ⟨hk.1.1.1.1,⟨hk.1.1.2,⟨hk.1.2,hk.2⟩⟩⟩)),(by (with_reducible repeat (first|apply Kd.V_alloc|apply Kd.V_drewN|apply Kd.V_drew));exact Kd.V_mono HO1_3.out (fun _ hk => ⟨hk.1.1.1.1.1.1,⟨hk.1.1.1.1.1.2.1,⟨hk.1.1.1.1.1.2.2,⟨hk.2,⟨hk.1.2,⟨hk.1.1.1.1.2,⟨hk.1.1.1.2,hk.1.1.2⟩⟩⟩⟩⟩⟩⟩)),(by (with_reducible repeat (first|apply Kd.R_alloc|apply Kd.R_drewN|apply Kd.R_drew));exact Kd.R_mono HO202.out (fun _ hk => ⟨hk.1.1.1.1,⟨hk.1.1.2,⟨hk.1.2,hk.2⟩⟩⟩)),(kM BK185.out),(kM BK186.out),(kM BK187.out),(kG HK.out),(bG HB.out)⟩)
    rintro ⟨v198,v201⟩ w58 ⟨hS_,h0_,h1_,h2_,h3_,h4_,h5_,h6_,h7_,h8_,h9_⟩
    have n0_ : Aside0 (Kd.R (Kd.int .i64) 3 w58 w0.heap.size (fun k_ => ((P0_0_ k_ ∨ P0_1_ k_) ∨ w.heap.size ≤ k_) ∧ some k_ ≠ (.slice Ao47 l0_1.length co47 : Value).ownBlock ∧ some k_ ≠ (v198 : Value).ownBlock ∧ some k_ ≠ (v201 : Value).ownBlock) (.slice Ao46 l0_0.length co46) l0_0) := ⟨h0_⟩
    have n1_ : Aside0 (Kd.R (Kd.int .i64) 3 w58 w0.heap.size (fun k_ => ((P0_0_ k_ ∨ P0_1_ k_) ∨ w.heap.size ≤ k_) ∧ some k_ ≠ (.slice Ao46 l0_0.length co46 : Value).ownBlock ∧ some k_ ≠ (v198 : Value).ownBlock ∧ some k_ ≠ (v201 : Value).ownBlock) (.slice Ao47 l0_1.length co47) l0_1) := ⟨h1_⟩
    have n2_ : Aside0 (Kd.R (Kd.int .i64) 3 w58 w0.heap.size (fun k_ => ((P0_0_ k_ ∨ P0_1_ k_) ∨ w.heap.size ≤ k_) ∧ some k_ ≠ (.slice Ao46 l0_0.length co46 : Value).ownBlock ∧ some k_ ≠ (.slice Ao47 l0_1.length co47 : Value).ownBlock ∧ some k_ ≠ (v201 : Value).ownBlock) v198 t197) := ⟨h2_⟩
    have n3_ : Aside0 (Kd.V (Kd.int .i64) 3 w58 w0.heap.size (fun k_ => ((P0_0_ k_ ∨ P0_1_ k_ ∨ P1_3_ k_) ∨ w.heap.size ≤ k_) ∧ some k_ ≠ (.slice Ao46 l0_0.length co46 : Value).ownBlock ∧ some k_ ≠ (.slice Ao47 l0_1.length co47 : Value).ownBlock ∧ some k_ ≠ (v198 : Value).ownBlock ∧ some k_ ≠ (v201 : Value).ownBlock ∧ k_ ≠ gb185 ∧ k_ ≠ gb186 ∧ k_ ≠ gb187) (.slice A1_3 l1_3.length c1_3) l1_3) := ⟨h3_⟩
    have n4_ : Aside0 (Kd.R (Kd.int .i64) 3 w58 w0.heap.size (fun k_ => ((P0_0_ k_ ∨ P0_1_ k_) ∨ w.heap.size ≤ k_) ∧ some k_ ≠ (.slice Ao46 l0_0.length co46 : Value).ownBlock ∧ some k_ ≠ (.slice Ao47 l0_1.length co47 : Value).ownBlock ∧ some k_ ≠ (v198 : Value).ownBlock) v201 y200) := ⟨h4_⟩
    have n5_ : Aside0 (w58.heap[gb185]? = some (.cells #[.slice Ao46 l0_0.length co46,.slice Ao47 l0_1.length co47,.int .i64 a0_2] 46 (0,0))) := ⟨h5_⟩
    have n6_ : Aside0 (w58.heap[gb186]? = some (.cells #[.int .i64 a1_0,.int .i64 a1_1,.int .i64 a1_2,.slice A1_3 l1_3.length c1_3,.slice A1_4 l1_4.length c1_4,.slice A1_5 l1_5.length c1_5] 30 (0,0))) := ⟨h6_⟩
    have n7_ : Aside0 (w58.heap[gb187]? = some (.cells #[.slice none 0 0,.slice none 0 0,.int .i64 0] 46 (0,0))) := ⟨h7_⟩
    have n8_ : Aside0 (Kept w w58 (fun k_ => P0_0_ k_ ∨ P0_1_ k_)) := ⟨h8_⟩
    have n9_ : Aside0 (Below w0.heap.size w0 w58) := ⟨h9_⟩
    clear HO0_0
    clear HO0_1
    clear HO1_3
    clear BK185
    clear BK186
    clear BK187
    clear HK
    clear HB
    clear h0_ h1_ h2_ h3_ h4_ h5_ h6_ h7_ h8_ h9_
    have HO0_0 := n0_
    have HO0_1 := n1_
    have HO199 := n2_
    have HO1_3 := n3_
    have HO202 := n4_
    have BK185 := n5_
    have BK186 := n6_
    have BK187 := n7_
    have HK := n8_
    have HB := n9_
    clear n0_ n1_ n2_ n3_ n4_ n5_ n6_ n7_ n8_ n9_
    have hHeld : w58.cell? ⟨gb185,0,none⟩ = some (.slice Ao46 l0_0.length co46) ∧ w58.cell? ⟨gb185,1,none⟩ = some (.slice Ao47 l0_1.length co47) ∧ w58.cell? ⟨gb185,2,none⟩ = some (.int .i64 a0_2) ∧ w58.cell? ⟨gb186,0,none⟩ = some (.int .i64 a1_0) ∧ w58.cell? ⟨gb186,1,none⟩ = some (.int .i64 a1_1) ∧ w58.cell? ⟨gb186,2,none⟩ = some (.int .i64 a1_2) ∧ w58.cell? ⟨gb186,3,none⟩ = some (.slice A1_3 l1_3.length c1_3) ∧ w58.cell? ⟨gb186,4,none⟩ = some (.slice A1_4 l1_4.length c1_4) ∧ w58.cell? ⟨gb186,5,none⟩ = some (.slice A1_5 l1_5.length c1_5) := hS_
    obtain ⟨Ao59,co59,eo59⟩ := Kd.R_slice HO199.out
    (first|subst eo59|(injection eo59 with f1_ f2_ f3_;have f4_ := f1_.symm;have f5_ := f3_.symm;clear f1_ f2_ f3_;subst f4_;subst f5_))
    obtain ⟨Ao60,co60,eo60⟩ := Kd.R_slice HO202.out
    (first|subst eo60|(injection eo60 with f1_ f2_ f3_;have f4_ := f1_.symm;have f5_ := f3_.symm;clear f1_ f2_ f3_;subst f4_;subst f5_))
    refine norm_ (a' := ?_) ?_ ?_
    rotate_left
    ·simp only [putAll,Act.put,List.setIfInBounds_toArray,List.set_cons_zero,List.set_cons_succ]
     rfl
    refine one_ (i := 8) (N := some 34) #[true,true,true,true,true,true,true,true,true,false,false] rfl rfl (one_of HT_.out (by kernel_rfl)) (by decide) (fun K hK => ?_)
    refine goes_ Tryz.func54 (by kernel_rfl) rfl #[.slice Ao59 t197.length co59,.slice Ao60 y200.length co60] (by rfl) rfl rfl (by (try simp only [List.map_toArray,List.map_cons,List.map_nil]);first|done|rfl|(simp only [List.length_drop,List.length_take];rfl)) ?_
    with_reducible refine (posting_Or.calls k (fun k_ => some k_ = (.slice Ao59 t197.length co59 : Value).ownBlock) _ _ t197 (fun k_ => some k_ = (.slice Ao60 y200.length co60 : Value).ownBlock) _ _ y200 t203 _ ?side1 ?side2 A44.out).mono ?_
    (case side1 => exact Kd.R_V (Kd.R_tight rfl (Kd.R_types (Kd.R_types (Kd.R_types (HO199.out) BK185.out (by decide)) BK186.out (by decide)) BK187.out (by decide))))
    (case side2 => exact Kd.R_V (Kd.R_tight rfl (Kd.R_types (Kd.R_types (Kd.R_types (HO202.out) BK185.out (by decide)) BK186.out (by decide)) BK187.out (by decide))))
    rintro e w61 ⟨v204,rfl,ho0,hb⟩
    refine ⟨_,rfl,?_⟩
    have n0_ := aK (Kd.R_elder' (rM HO0_0.out) (Kd.R_base ho0) hb)
    have n1_ := aK (Kd.R_elder' (rM HO0_1.out) (Kd.R_base ho0) hb)
    have n2_ := aK (Kd.V_elder' (vM HO1_3.out) (Kd.R_base ho0) hb)
    have n3_ := aK (Kd.R_elder' (rM HO199.out) (Kd.R_base ho0) hb)
    have n4_ := aK (Kd.R_elder' (rM HO202.out) (Kd.R_base ho0) hb)
    have n5_ := aK (Kd.R_lower (Kd.R_new' (Kd.R_new' (Kd.R_new' (Kd.R_new' (Kd.R_newM (M := fun k_ => ((P0_0_ k_ ∨ P0_1_ k_) ∨ w.heap.size ≤ k_)) (Kd.R_mono (ok' := fun k_ => True) ho0 (fun _ hk_ => trivial)) (by first|exact HK.out.1|exact (show Kept w _ (fun k_ => P0_0_ k_ ∨ P0_1_ k_) from kG HK.out).1) (fun k_ h_ => .inr h_)) (Kd.R_lt (rM HO0_0.out))) (Kd.R_lt (rM HO0_1.out))) (Kd.R_lt (rM HO199.out))) (Kd.R_lt (rM HO202.out))) (below_size (bG HB.out)))
    have n6_ := aK (blk_below (kM BK185.out) hb)
    have n7_ := aK (blk_below (kM BK186.out) hb)
    have n8_ := aK (blk_below (kM BK187.out) hb)
    have n9_ := aK (Kept.below (S := (fun k_ => P0_0_ k_ ∨ P0_1_ k_)) (kG HK.out) hb)
    have n10_ := aK (below_step (bG HB.out) hb)
    clear HO0_0
    clear HO0_1
    clear HO1_3
    clear HO199
    clear HO202
    clear BK185
    clear BK186
    clear BK187
    clear HK
    clear HB
    have HO0_0 := n0_
    have HO0_1 := n1_
    have HO1_3 := n2_
    have HO199 := n3_
    have HO202 := n4_
    have HO205 := n5_
    have BK185 := n6_
    have BK186 := n7_
    have BK187 := n8_
    have HK := n9_
    have HB := n10_
    clear n0_ n1_ n2_ n3_ n4_ n5_ n6_ n7_ n8_ n9_ n10_
    (try clear hb)
    
    (try clear hk)
    
    (try clear ho0)
    obtain ⟨Ao62,co62,eo62⟩ := Kd.R_slice HO205.out
    (first|subst eo62|(injection eo62 with f1_ f2_ f3_;have f4_ := f1_.symm;have f5_ := f3_.symm;clear f1_ f2_ f3_;subst f4_;subst f5_))
    refine hK.out _ _ ⟨(blk_cell BK185.out 0).trans rfl,(blk_cell BK185.out 1).trans rfl,(blk_cell BK185.out 2).trans rfl,(blk_cell BK186.out 0).trans rfl,(blk_cell BK186.out 1).trans rfl,(blk_cell BK186.out 2).trans rfl,(blk_cell BK186.out 3).trans rfl,(blk_cell BK186.out 4).trans rfl,(blk_cell BK186.out 5).trans rfl⟩ (fun hHeld => ?_)
    clear hK K
    refine norm_ (a' := ?_) ?_ ?_
    rotate_left
    ·show Act.put _ (some 34) _ = _
     simp only [Act.put,List.setIfInBounds_toArray,List.set_cons_zero,List.set_cons_succ,i64_w,i32_w]
     rfl
    refine pure_ (i := 9) (N := some 35) (v := ?_) (a' := ?_) #[true,true,true,true,true,true,true,true,true,true,false] rfl rfl (any_of HT_.out (by kernel_rfl)) (fun _ _ _ h => h) (Or.inl ⟨by rfl,?_⟩) ?_ ?_
    rotate_left
    ·intro w'
     go_simp
     with_reducible rfl
    rotate_left
    ·simp only [Act.put,List.setIfInBounds_toArray,List.set_cons_zero,List.set_cons_succ,i64_w,i32_w]
     rfl
    refine last_ (i := 10) (N := none) #[true,true,true,true,true,true,true,true,true,true,true] rfl rfl (one_of HT_.out (by kernel_rfl)) (by decide) (fun K hK => ?_)
    have hs63 : w61.cell? ⟨gb185,0,none⟩ = some (.slice Ao46 l0_0.length co46) := (blk_cell BK185.out 0).trans rfl
    have hfs63 := blk_frozen BK185.out 0
    have hns63_1 := NB186_185.out
    have hns63_2 := NB187_185.out
    have hms63_1 := NB185_186.out
    have hms63_2 := NB185_187.out
    refine skip_ (w1 := ?_) (by rfl) rfl ?_ ?_
    rotate_left
    ·go_simp
     rfl
    refine hK.out _ _ ?_
    clear hK K
    refine done_ (done_of HT_.out (by kernel_rfl)) ?_
    have hnb64 := NB185_187.out
    have hnc64 := NB187_185.out
    obtain ⟨_,_,_,_,_,_⟩ := bk3_ BK185.out
    obtain ⟨_,_,_,_,_,_,_,_,_,_,_,_⟩ := bk6_ BK186.out
    obtain ⟨_,_,_,_,_,_⟩ := bk3_ BK187.out
    try go_wp2
    refine bodyPost_ret (results_cell_row rfl _ _ gb187 46 #[.slice Ao62 t203.length co62,.slice none 0 0,.int .i64 ji45] (0,0) _ rfl (by (with_reducible repeat (first|refine blk_drewN ?_ _|refine blk_drew ?_|refine blk_alloc ?_ _));refine blk_put (cs := #[.slice Ao62 t203.length co62,.slice none 0 0,.int .i64 0]) ?_ 2 _ rfl;(with_reducible repeat (first|refine blk_drewN ?_ _|refine blk_drew ?_|refine blk_alloc ?_ _));refine blk_put (cs := #[.slice Ao62 t203.length co62,.slice none 0 0,.int .i64 0]) ?_ 1 _ rfl;(with_reducible repeat (first|refine blk_drewN ?_ _|refine blk_drew ?_|refine blk_alloc ?_ _));refine blk_put (cs := #[.slice none 0 0,.slice none 0 0,.int .i64 0]) ?_ 0 _ rfl;(with_reducible repeat (first|refine blk_drewN ?_ _|refine blk_drew ?_|refine blk_alloc ?_ _));refine blk_far ?_ NB187_185.out _;(with_reducible repeat (first|refine blk_drewN ?_ _|refine blk_drew ?_|refine blk_alloc ?_ _));refine blk_far ?_ NB187_185.out _;(with_reducible repeat (first|refine blk_drewN ?_ _|refine blk_drew ?_|refine blk_alloc ?_ _));refine blk_far ?_ NB187_185.out _;(with_reducible repeat (first|refine blk_drewN ?_ _|refine blk_drew ?_|refine blk_alloc ?_ _));exact BK187.out) Tryz.underlying46 rfl (by kernel_rfl)) rfl ?_
    exact ⟨_,_,by first|rfl|(simp [errW_none,errW_some] <;> rfl)|(simp only [← hji45];first|rfl|(simp [errW_none,errW_some] <;> rfl))|(simp [*,errW_none,errW_some] <;> rfl),by (with_reducible repeat (first|apply Kd.R_alloc|apply Kd.R_drewN|apply Kd.R_drew));exact Kd.R_mono (Kd.R_far (p := ⟨gb187,2,none⟩) (Kd.R_far (p := ⟨gb187,1,none⟩) (Kd.R_far (p := ⟨gb187,0,none⟩) (Kd.R_far (p := ⟨gb185,2,none⟩) (Kd.R_far (p := ⟨gb185,1,none⟩) (Kd.R_far (p := ⟨gb185,0,none⟩) (Kd.R_types (Kd.R_types HO205.out BK185.out (by decide)) BK187.out (by decide)) (fun _ hk => hk.1.2) (.slice Ao62 t203.length co62)) (fun _ hk => hk.1.2) (.slice none 0 0)) (fun _ hk => hk.1.2) (.int .i64 ji45)) (fun _ hk => hk.2) (.slice Ao62 t203.length co62)) (fun _ hk => hk.2) (.slice none 0 0)) (fun _ hk => hk.2) (.int .i64 ji45)) (fun _ hk => ⟨hk.1.1.1.1.1.1.1,(by simp [Value.ownBlock])⟩),by first|exact Kd.R_nil _ _ _ _ _|exact Kd.N_nil _ _ _ _ _|exact Kd.V_nil _ _ _ _ _|exact Kd.Q_nil _ _ _ _ _|exact Kd.S_nil _ _ _ _ _,bG HB.out,kG HK.out⟩
   ·rw [if_neg c42] at H
    have c42b0 := beq_eq_false_iff_ne.mpr c42
    have c42b1 := bne_iff_ne.mpr c42
    obtain ⟨ji68,hji68⟩ : ∃ j_ : Int,(mx a0_2 a1_2) = j_ := ⟨_,rfl⟩
    replace H : (some (l0_0,l0_1,ji68)) = some (r1,r2,r3) := by first|(rw [hji68] at H;exact H)|(simp only [hji68] at H ⊢;exact H)
    have hji68_ : (if a0_2 < a1_2 then a1_2 else a0_2) = ji68 := hji68
    simp only [Option.some.injEq,Prod.mk.injEq] at H
    obtain ⟨rfl,rfl,rfl⟩ := H
    obtain ⟨Ao69,co69,eo69⟩ := Kd.R_slice HO0_0.out
    subst eo69
    obtain ⟨Ao70,co70,eo70⟩ := Kd.R_slice HO0_1.out
    subst eo70
    go_enter Tryz.func25,Tryz.ntmps25
    go_wp2_with (first|((with_reducible refine gate_dst (N := 2) rfl ?_);refine box_event ?hg (N := 2) ?hd (cs := #[.slice Ao69 l0_0.length co69,.slice Ao70 l0_1.length co70,.int .i64 a0_2]) (t := 46) ?hr ?_;(case hd => rfl);(case hg => rfl);(case hr => first|(go_simp;done)|(go_simp;rfl));intro gb185 hg w71 hbox hb;replace HO0_0 := aK (Kd.R_below (rM HO0_0.out) hb);replace HO0_1 := aK (Kd.R_below (rM HO0_1.out) hb);have BK185 := aK (hbox);have GW185 := aK ((by rw [hg];exact (by first|exact HK.out.1|exact (show Kept w _ (fun k_ => P0_0_ k_ ∨ P0_1_ k_) from kG HK.out).1) : w.heap.size ≤ gb185));have GJ185 := Ge.mk GW185.out;replace HK := aK (Kept.below (S := (fun k_ => P0_0_ k_ ∨ P0_1_ k_)) (kG HK.out) hb);have GE185 := aK ((by rw [hg];exact (below_size (bM HB.out)) : w0.heap.size ≤ gb185));have GI185 := Ge.mk GE185.out;replace HB := aK (below_step (bM HB.out) hb);clear hb hbox hg)|((with_reducible refine gate_dst (N := 3) rfl ?_);refine box_event ?hg (N := 3) ?hd (cs := #[.int .i64 a1_0,.int .i64 a1_1,.int .i64 a1_2,.slice A1_3 l1_3.length c1_3,.slice A1_4 l1_4.length c1_4,.slice A1_5 l1_5.length c1_5]) (t := 30) ?hr ?_;(case hd => rfl);(case hg => rfl);(case hr => first|(go_simp;done)|(go_simp;rfl));intro gb186 hg w72 hbox hb;replace HO0_0 := aK (Kd.R_below (rM HO0_0.out) hb);replace HO0_1 := aK (Kd.R_below (rM HO0_1.out) hb);have BK186 := aK (hbox);have GW186 := aK ((by rw [hg];exact (by first|exact HK.out.1|exact (show Kept w _ (fun k_ => P0_0_ k_ ∨ P0_1_ k_) from kG HK.out).1) : w.heap.size ≤ gb186));have GJ186 := Ge.mk GW186.out;replace HK := aK (Kept.below (S := (fun k_ => P0_0_ k_ ∨ P0_1_ k_)) (kG HK.out) hb);have GE186 := aK ((by rw [hg];exact (below_size (bG HB.out)) : w0.heap.size ≤ gb186));have GI186 := Ge.mk GE186.out;replace HB := aK (below_step (bG HB.out) hb);have NB185_186 := aK (nbL BK185.out hg);have NB186_185 := aK (nbR BK185.out hg);replace BK185 := aK (blk_below (kM BK185.out) hb);clear hb hbox hg)|((with_reducible refine gate_dst (N := 4) rfl ?_);refine box_event ?hg (N := 4) ?hd (cs := #[.slice none 0 0,.slice none 0 0,.int .i64 0]) (t := 46) ?hr ?_;(case hd => rfl);(case hg => rfl);(case hr => first|(go_simp;done)|(go_simp;rfl));intro gb187 hg w73 hbox hb;replace HO0_0 := aK (Kd.R_below (rM HO0_0.out) hb);replace HO0_1 := aK (Kd.R_below (rM HO0_1.out) hb);have BK187 := aK (hbox);have GW187 := aK ((by rw [hg];exact (by first|exact HK.out.1|exact (show Kept w _ (fun k_ => P0_0_ k_ ∨ P0_1_ k_) from kG HK.out).1) : w.heap.size ≤ gb187));have GJ187 := Ge.mk GW187.out;replace HK := aK (Kept.below (S := (fun k_ => P0_0_ k_ ∨ P0_1_ k_)) (kG HK.out) hb);have GE187 := aK ((by rw [hg];exact (below_size (bG HB.out)) : w0.heap.size ≤ gb187));have GI187 := Ge.mk GE187.out;replace HB := aK (below_step (bG HB.out) hb);have NB185_187 := aK (nbL BK185.out hg);have NB187_185 := aK (nbR BK185.out hg);replace BK185 := aK (blk_below (kM BK185.out) hb);have NB186_187 := aK (nbL BK186.out hg);have NB187_186 := aK (nbR BK186.out hg);replace BK186 := aK (blk_below (kM BK186.out) hb);clear hb hbox hg;have hnb74 := NB186_185.out;have hnc74 := NB185_186.out;have hnb75 := NB186_187.out;have hnc75 := NB187_186.out;obtain ⟨_,_,_,_,_,_,_,_,_,_,_,_⟩ := bk6_ BK186.out;have hnb77 := NB185_187.out;have hnc77 := NB187_185.out;obtain ⟨_,_,_,_,_,_⟩ := bk3_ BK185.out;obtain ⟨_,_,_,_,_,_⟩ := bk3_ BK187.out))
    refine bodyPost_ret (results_cell_row rfl _ _ gb187 46 #[.slice Ao69 l0_0.length co69,.slice Ao70 l0_1.length co70,.int .i64 ji68] (0,0) _ rfl (by (with_reducible repeat (first|refine blk_drewN ?_ _|refine blk_drew ?_|refine blk_alloc ?_ _));refine blk_put (cs := #[.slice Ao69 l0_0.length co69,.slice Ao70 l0_1.length co70,.int .i64 0]) ?_ 2 _ rfl;(with_reducible repeat (first|refine blk_drewN ?_ _|refine blk_drew ?_|refine blk_alloc ?_ _));refine blk_put (cs := #[.slice Ao69 l0_0.length co69,.slice none 0 0,.int .i64 0]) ?_ 1 _ rfl;(with_reducible repeat (first|refine blk_drewN ?_ _|refine blk_drew ?_|refine blk_alloc ?_ _));refine blk_put (cs := #[.slice none 0 0,.slice none 0 0,.int .i64 0]) ?_ 0 _ rfl;(with_reducible repeat (first|refine blk_drewN ?_ _|refine blk_drew ?_|refine blk_alloc ?_ _));refine blk_far ?_ NB187_185.out _;(with_reducible repeat (first|refine blk_drewN ?_ _|refine blk_drew ?_|refine blk_alloc ?_ _));exact BK187.out) Tryz.underlying46 rfl (by kernel_rfl)) rfl ?_
    exact ⟨_,_,by first|rfl|(simp [errW_none,errW_some] <;> rfl)|(simp only [← hji68];first|rfl|(simp [errW_none,errW_some] <;> rfl))|(simp [*,errW_none,errW_some] <;> rfl),by (with_reducible repeat (first|apply Kd.R_alloc|apply Kd.R_drewN|apply Kd.R_drew));exact Kd.R_mono (Kd.R_far (p := ⟨gb187,2,none⟩) (Kd.R_far (p := ⟨gb187,1,none⟩) (Kd.R_far (p := ⟨gb187,0,none⟩) (Kd.R_far (p := ⟨gb185,2,none⟩) (Kd.R_types (Kd.R_types HO0_0.out BK185.out (by decide)) BK187.out (by decide)) (fun _ hk => hk.1.2) (.int .i64 ji68)) (fun _ hk => hk.2) (.slice Ao69 l0_0.length co69)) (fun _ hk => hk.2) (.slice Ao70 l0_1.length co70)) (fun _ hk => hk.2) (.int .i64 ji68)) (fun _ hk => ⟨hk.1.1.1,hk.1.1.2⟩),by (with_reducible repeat (first|apply Kd.R_alloc|apply Kd.R_drewN|apply Kd.R_drew));exact Kd.R_mono (Kd.R_far (p := ⟨gb187,2,none⟩) (Kd.R_far (p := ⟨gb187,1,none⟩) (Kd.R_far (p := ⟨gb187,0,none⟩) (Kd.R_far (p := ⟨gb185,2,none⟩) (Kd.R_types (Kd.R_types HO0_1.out BK185.out (by decide)) BK187.out (by decide)) (fun _ hk => hk.1.2) (.int .i64 ji68)) (fun _ hk => hk.2) (.slice Ao69 l0_0.length co69)) (fun _ hk => hk.2) (.slice Ao70 l0_1.length co70)) (fun _ hk => hk.2) (.int .i64 ji68)) (fun _ hk => ⟨hk.1.1.1,hk.1.1.2⟩),bG HB.out,kG HK.out⟩

/-! ### manifest_Right: function 8 -/
def manifest_Right.l0 : Nat → List (S30) → Int → Int → List Int → List Int → Int → Option (Int)
|0,_,_,_,_,_,_ => none
|k + 1,x8,x9,x10,x207000,x207001,x207002 => if x10 < x9 then (if 0 ≤ x10 then (if x10 < (x8.length : Int) then ((manifest_check.f k x207000 x207001 x207002 x10 ((rd_T30 x8 x10).f0) ((rd_T30 x8 x10).f1) ((rd_T30 x8 x10).f2) ((rd_T30 x8 x10).f3) ((rd_T30 x8 x10).f4) ((rd_T30 x8 x10).f5)).bind fun t209 => (if t209 = 0 then ((manifest_state_after.f k x207000 x207001 x207002 ((rd_T30 x8 x10).f0) ((rd_T30 x8 x10).f1) ((rd_T30 x8 x10).f2) ((rd_T30 x8 x10).f3) ((rd_T30 x8 x10).f4) ((rd_T30 x8 x10).f5)).bind fun bt210 => (manifest_Right.l0 k x8 x9 (wrap64 (x10 + 1)) bt210.1 bt210.2.1 bt210.2.2)) else (some t209))) else (none)) else (none)) else (some 0)
def manifest_Right.f (k : Nat) (l0 : List (S30)) : Option (Int) := manifest_Right.l0 k l0 (l0.length : Int) 0 ([] : List Int) ([] : List Int) 0
theorem manifest_Right.mono_l : ∀ k, (∀ y0 y1 y2 y3 y4 y5, LeO (manifest_Right.l0 k y0 y1 y2 y3 y4 y5) (manifest_Right.l0 (k + 1) y0 y1 y2 y3 y4 y5))
|0 => fun _ _ _ _ _ _ r h => by simp [manifest_Right.l0] at h
|k + 1 => by
  have ih0 := manifest_Right.mono_l k
  ·intro y0 y1 y2 y3 y4 y5
   unfold manifest_Right.l0
   repeat' (with_reducible first|exact ih0 _ _ _ _ _ _|exact manifest_check.mono _ _ _ _ _ _ _ _ _ _ _|exact manifest_state_after.mono _ _ _ _ _ _ _ _ _ _|exact LeO.refl _|exact LeO.none _|refine LeO.ite ?_ ?_|refine LeO.bind ?_ (fun _ => ?_))
theorem manifest_Right.mono : ∀ a0 k, LeO (manifest_Right.f k a0) (manifest_Right.f (k + 1) a0) := by
 intro a0 k
 have ih0 := manifest_Right.mono_l k
 unfold manifest_Right.f
 repeat' first
  |(with_reducible exact ih0 _ _ _ _ _ _)
  |(with_reducible exact manifest_check.mono _ _ _ _ _ _ _ _ _ _ _)
  |(with_reducible exact manifest_state_after.mono _ _ _ _ _ _ _ _ _ _)
  |(with_reducible exact LeO.refl _)
  |(with_reducible exact LeO.none _)
  |(with_reducible refine LeO.ite ?_ ?_)
  |(with_reducible refine LeO.bind ?_ (fun _ => ?_))
  |exact ih0 _ _ _ _ _ _
  |exact manifest_check.mono _ _ _ _ _ _ _ _ _ _ _
  |exact manifest_state_after.mono _ _ _ _ _ _ _ _ _ _
  |exact LeO.none _
  |refine LeO.ite ?_ ?_
  |refine LeO.bind ?_ (fun _ => ?_)
set_option maxHeartbeats 4000000 in
set_option maxRecDepth 100000 in
theorem manifest_Right.calls (k : Nat) (A0 : Option Addr) (c0 : Nat) (l0 : List (S30)) (r : Int) (w : World) (hr0 : Kd.C k30 w A0 l0.length l0) (hc0 : l0.length ≤ c0) (h : manifest_Right.f k l0 = some r) :
  Calls Tryz.prog 8 #[.slice A0 l0.length c0] w fun e w' => e = .returned (.int .i64 r) ∧ Below w.heap.size w w' := by
 have hu46 := Tryz.underlying46
 have hu30 := Tryz.underlying30
 have HR0 := aK hr0
 have HC0 := aK hc0
 clear hr0 hc0
 have HB := aK (Below.refl w.heap.size w)
 have H : (manifest_Right.l0 k l0 (l0.length : Int) 0 ([] : List Int) ([] : List Int) 0) = some r := h
 clear h
 have H' := aK H
 clear H
 go_enter Tryz.func8,Tryz.ntmps8
 go_wp2_with (first|((with_reducible refine gate_dst (N := 3) rfl ?_);refine box_event ?hg (N := 3) ?hd (cs := #[.slice none 0 0,.slice none 0 0,.int .i64 0]) (t := 46) ?hr ?_;(case hd => rfl);(case hg => rfl);(case hr => first|(go_simp;done)|(go_simp;rfl));intro gb206 hg w2 hbox hb;have BK206 := aK (hbox);have GW206 := aK ((by rw [hg];exact (below_size (bM HB.out)) : w.heap.size ≤ gb206));have GJ206 := Ge.mk GW206.out;have GE206 := aK ((by rw [hg];exact (below_size (bM HB.out)) : w.heap.size ≤ gb206));have GI206 := Ge.mk GE206.out;replace HB := aK (below_step (bM HB.out) hb);clear hb hbox hg;obtain ⟨hcz3_0,hcz3_1,hcz3_2,hfz3_0,hfz3_1,hfz3_2⟩ := bk3_ BK206.out))
 go_loopg [10] k (fun kq v10 w' => ∃ (x10_1 : Int) (x207000_1 : List Int) (x207001_1 : List Int) (x207002_1 : Int) (u207000 : Value) (u207001 : Value),v10 = .int .i64 x10_1 ∧ Aside0 (manifest_Right.l0 kq l0 (l0.length : Int) x10_1 x207000_1 x207001_1 x207002_1 = some r) ∧ Aside0 (kq ≤ k) ∧ Aside0 (Kd.R (Kd.int .i64) 3 w' w.heap.size (fun k_ => some k_ ≠ (u207001 : Value).ownBlock) u207000 x207000_1) ∧ Aside0 (Kd.R (Kd.int .i64) 3 w' w.heap.size (fun k_ => some k_ ≠ (u207000 : Value).ownBlock) u207001 x207001_1) ∧ Aside0 (w'.heap[gb206]? = some (.cells #[u207000,u207001,.int .i64 x207002_1] 46 (0,0))) ∧ Aside0 (Below w.heap.size w w'))
 case atStart => exact ⟨(0),(([] : List Int)),(([] : List Int)),(0),(.slice none 0 0),(.slice none 0 0),(by first|rfl|(simp;done)|(simp [*];done)),H',⟨Nat.le_refl _⟩,⟨by first|exact Kd.R_nil _ _ _ _ _|exact Kd.N_nil _ _ _ _ _|exact Kd.V_nil _ _ _ _ _|exact Kd.Q_nil _ _ _ _ _|exact Kd.S_nil _ _ _ _ _⟩,⟨by first|exact Kd.R_nil _ _ _ _ _|exact Kd.N_nil _ _ _ _ _|exact Kd.V_nil _ _ _ _ _|exact Kd.Q_nil _ _ _ _ _|exact Kd.S_nil _ _ _ _ _⟩,⟨by (with_reducible repeat (first|refine blk_drewN ?_ _|refine blk_drew ?_|refine blk_alloc ?_ _));refine blk_put (cs := #[.slice none 0 0,.slice none 0 0,.int .i64 0]) ?_ 2 _ rfl;(with_reducible repeat (first|refine blk_drewN ?_ _|refine blk_drew ?_|refine blk_alloc ?_ _));refine blk_put (cs := #[.slice none 0 0,.slice none 0 0,.int .i64 0]) ?_ 1 _ rfl;(with_reducible repeat (first|refine blk_drewN ?_ _|refine blk_drew ?_|refine blk_alloc ?_ _));refine blk_put (cs := #[.slice none 0 0,.slice none 0 0,.int .i64 0]) ?_ 0 _ rfl;(with_reducible repeat (first|refine blk_drewN ?_ _|refine blk_drew ?_|refine blk_alloc ?_ _));exact BK206.out⟩,⟨bG HB.out⟩⟩
 case round =>
  clear H'
  try clear p2
  try clear hcz3_0
  try clear hcz3_1
  try clear hcz3_2
  try clear hfz3_0
  try clear hfz3_1
  try clear hfz3_2
  obtain ⟨x10_1,x207000_1,x207001_1,x207002_1,u207000,u207001,rfl,HA,HK1,HO_207000,HO_207001,BK206,HB⟩ := hrel
  cases gk with
 |zero => exact absurd HA.out (by simp [manifest_Right.l0])
 |succ k1 =>
   have H := HA.out
   clear HA
   simp only [manifest_Right.l0] at H
   by_cases c4 : x10_1 < (l0.length : Int)
   ·rw [if_pos c4] at H
    have c4b0 := decide_eq_true c4
    clear c4
    obtain ⟨c5,H⟩ := iS H
    have c5b0 := decide_eq_true c5
    clear c5
    obtain ⟨c6,H⟩ := iS H
    have c6b0 := decide_eq_true c6
    clear c6
    replace H := Option.bind_eq_some_iff.mp H
    obtain ⟨t209,A70,H⟩ := H
    have A7 := aK A70
    clear A70
    by_cases c8 : t209 = 0
    ·rw [if_pos c8] at H
     have c8b0 := beq_iff_eq.mpr c8
     have c8b1 := bne_eq_false_iff_eq.mpr c8
     clear c8
     replace H := Option.bind_eq_some_iff.mp H
     obtain ⟨⟨t210,t213,t216⟩,A90,H⟩ := H
     replace H : (manifest_Right.l0 k1 l0 (l0.length : Int) (wrap64 (x10_1 + 1)) t210 t213 t216) = some r := H
     have A9 := aK A90
     clear A90
     have H' := aK H
     clear H
     have p207 : 0 ≤ (x10_1 : Int) := of_decide_eq_true (by assumption)
     have q207 : x10_1 < (l0.length : Int) := of_decide_eq_true (by assumption)
     obtain ⟨ad207,A207_3,c207_3,A207_4,c207_4,A207_5,c207_5,e207,hx207_0,hx207_1,hx207_2,hx207_3,hx207_4,hx207_5,hl207_3,hi207_3,hl207_4,hi207_4,hl207_5,hi207_5⟩ := at_T30 HR0.out x10_1 p207 q207
     cases e207
     replace hx207_0 := xM HB hx207_0
     replace hx207_1 := xM HB hx207_1
     replace hx207_2 := xM HB hx207_2
     replace hx207_3 := xM HB hx207_3
     replace hx207_4 := xM HB hx207_4
     replace hx207_5 := xM HB hx207_5
     have HR207_3 := aK hi207_3
     have HC207_3 := aK hl207_3
     clear hi207_3 hl207_3
     have HR207_4 := aK hi207_4
     have HC207_4 := aK hl207_4
     clear hi207_4 hl207_4
     have HR207_5 := aK hi207_5
     have HC207_5 := aK hl207_5
     clear hi207_5 hl207_5
     replace p207 := eq_true p207
     replace q207 := eq_true q207
     go_wp2_with (first|((with_reducible refine gate_dst (N := 5) rfl ?_);refine box_event ?hg (N := 5) ?hd (cs := #[.int .i64 0,.int .i64 0,.int .i64 0,.slice none 0 0,.slice none 0 0,.slice none 0 0]) (t := 30) ?hr ?_;(case hd => rfl);(case hg => rfl);(case hr => first|(go_simp;done)|(go_simp;rfl));intro gb208 hg w10 hbox hb;replace HO_207000 := aK (Kd.R_below (rM HO_207000.out) hb);replace HO_207001 := aK (Kd.R_below (rM HO_207001.out) hb);have BK208 := aK (hbox);have GW208 := aK ((by rw [hg];exact (below_size (bG HB.out)) : w.heap.size ≤ gb208));have GJ208 := Ge.mk GW208.out;have GE208 := aK ((by rw [hg];exact (below_size (bG HB.out)) : w.heap.size ≤ gb208));have GI208 := Ge.mk GE208.out;replace HB := aK (below_step (bG HB.out) hb);have NB206_208 := aK (nbL BK206.out hg);have NB208_206 := aK (nbR BK206.out hg);replace BK206 := aK (blk_below (kM BK206.out) hb);clear hb hbox hg;have hnb11 := NB208_206.out;have hnc11 := NB206_208.out;obtain ⟨_,_,_,_,_,_,_,_,_,_,_,_⟩ := bk6_ BK208.out;obtain ⟨_,_,_,_,_,_⟩ := bk3_ BK206.out;obtain ⟨Ao14,co14,eo14⟩ := Kd.R_slice HO_207000.out;subst eo14;obtain ⟨Ao15,co15,eo15⟩ := Kd.R_slice HO_207001.out;subst eo15)|((with_reducible refine gate_callee (f := 24) rfl ?_);refine goesL_ (some 18) rfl rfl Tryz.func24 (by kernel_rfl) rfl #[.agg #[.slice Ao14 x207000_1.length co14,.slice Ao15 x207001_1.length co15,.int .i64 x207002_1],.int .i64 x10_1,.agg #[.int .i64 ((rd_T30 l0 x10_1).f0),.int .i64 ((rd_T30 l0 x10_1).f1),.int .i64 ((rd_T30 l0 x10_1).f2),.slice A207_3 ((rd_T30 l0 x10_1).f3).length c207_3,.slice A207_4 ((rd_T30 l0 x10_1).f4).length c207_4,.slice A207_5 ((rd_T30 l0 x10_1).f5).length c207_5]] rfl (by (try simp only [List.map_toArray,List.map_cons,List.map_nil]);first|done|rfl|(simp only [List.length_drop,List.length_take];rfl)) ?_;(with_reducible refine (manifest_check.calls k1 _ _ x207000_1 _ _ x207001_1 x207002_1 x10_1 ((rd_T30 l0 x10_1).f0) ((rd_T30 l0 x10_1).f1) ((rd_T30 l0 x10_1).f2) _ _ ((rd_T30 l0 x10_1).f3) _ _ ((rd_T30 l0 x10_1).f4) _ _ ((rd_T30 l0 x10_1).f5) t209 _ ?side1 ?side2 ?side3 ?side4 ?side5 ?side6 ?side7 ?side8 ?side9 ?side10 A7.out).mono ?_);(case side1 => refine (Kd.R_reads' (e := 3) (base := w.heap.size) (ok := fun k_ => some k_ ≠ (.slice Ao15 x207001_1.length co15 : Value).ownBlock) (n := x207000_1.length) (c := co14) ?_).2.2;exact (by (with_reducible repeat (first|apply Kd.R_alloc|apply Kd.R_drewN|apply Kd.R_drew));exact (Kd.R_mono (Kd.R_far (p := ⟨gb208,5,none⟩) (Kd.R_far (p := ⟨gb208,4,none⟩) (Kd.R_far (p := ⟨gb208,3,none⟩) (Kd.R_far (p := ⟨gb208,2,none⟩) (Kd.R_far (p := ⟨gb208,1,none⟩) (Kd.R_far (p := ⟨gb208,0,none⟩) (Kd.R_types HO_207000.out BK208.out (by decide)) (fun _ hk => hk.2) (.int .i64 ((rd_T30 l0 x10_1).f0))) (fun _ hk => hk.2) (.int .i64 ((rd_T30 l0 x10_1).f1))) (fun _ hk => hk.2) (.int .i64 ((rd_T30 l0 x10_1).f2))) (fun _ hk => hk.2) (.slice A207_3 ((rd_T30 l0 x10_1).f3).length c207_3)) (fun _ hk => hk.2) (.slice A207_4 ((rd_T30 l0 x10_1).f4).length c207_4)) (fun _ hk => hk.2) (.slice A207_5 ((rd_T30 l0 x10_1).f5).length c207_5)) (fun _ h_ => h_.1))));(case side2 => exact (Kd.R_reads' HO_207000.out).2.1);(case side3 => refine (Kd.R_reads' (e := 3) (base := w.heap.size) (ok := fun k_ => some k_ ≠ (.slice Ao14 x207000_1.length co14 : Value).ownBlock) (n := x207001_1.length) (c := co15) ?_).2.2;exact (by (with_reducible repeat (first|apply Kd.R_alloc|apply Kd.R_drewN|apply Kd.R_drew));exact (Kd.R_mono (Kd.R_far (p := ⟨gb208,5,none⟩) (Kd.R_far (p := ⟨gb208,4,none⟩) (Kd.R_far (p := ⟨gb208,3,none⟩) (Kd.R_far (p := ⟨gb208,2,none⟩) (Kd.R_far (p := ⟨gb208,1,none⟩) (Kd.R_far (p := ⟨gb208,0,none⟩) (Kd.R_types HO_207001.out BK208.out (by decide)) (fun _ hk => hk.2) (.int .i64 ((rd_T30 l0 x10_1).f0))) (fun _ hk => hk.2) (.int .i64 ((rd_T30 l0 x10_1).f1))) (fun _ hk => hk.2) (.int .i64 ((rd_T30 l0 x10_1).f2))) (fun _ hk => hk.2) (.slice A207_3 ((rd_T30 l0 x10_1).f3).length c207_3)) (fun _ hk => hk.2) (.slice A207_4 ((rd_T30 l0 x10_1).f4).length c207_4)) (fun _ hk => hk.2) (.slice A207_5 ((rd_T30 l0 x10_1).f5).length c207_5)) (fun _ h_ => h_.1))));(case side4 => exact (Kd.R_reads' HO_207001.out).2.1);(case side5 => exact Kd.C_below HR207_3.out (bG HB.out));(case side6 => exact HC207_3.out);(case side7 => exact Kd.C_below HR207_4.out (bG HB.out));(case side8 => exact HC207_4.out);(case side9 => exact Kd.C_below HR207_5.out (bG HB.out));(case side10 => exact HC207_5.out);rintro e w16 ⟨rfl,hb⟩;refine ⟨_,rfl,?_⟩;replace HO_207000 := aK (Kd.R_below (by (with_reducible repeat (first|apply Kd.R_alloc|apply Kd.R_drewN|apply Kd.R_drew));exact (Kd.R_mono (Kd.R_far (p := ⟨gb208,5,none⟩) (Kd.R_far (p := ⟨gb208,4,none⟩) (Kd.R_far (p := ⟨gb208,3,none⟩) (Kd.R_far (p := ⟨gb208,2,none⟩) (Kd.R_far (p := ⟨gb208,1,none⟩) (Kd.R_far (p := ⟨gb208,0,none⟩) (Kd.R_types HO_207000.out BK208.out (by decide)) (fun _ hk => hk.2) (.int .i64 ((rd_T30 l0 x10_1).f0))) (fun _ hk => hk.2) (.int .i64 ((rd_T30 l0 x10_1).f1))) (fun _ hk => hk.2) (.int .i64 ((rd_T30 l0 x10_1).f2))) (fun _ hk => hk.2) (.slice A207_3 ((rd_T30 l0 x10_1).f3).length c207_3)) (fun _ hk => hk.2) (.slice A207_4 ((rd_T30 l0 x10_1).f4).length c207_4)) (fun _ hk => hk.2) (.slice A207_5 ((rd_T30 l0 x10_1).f5).length c207_5)) (fun _ h_ => h_.1))) hb);replace HO_207001 := aK (Kd.R_below (by (with_reducible repeat (first|apply Kd.R_alloc|apply Kd.R_drewN|apply Kd.R_drew));exact (Kd.R_mono (Kd.R_far (p := ⟨gb208,5,none⟩) (Kd.R_far (p := ⟨gb208,4,none⟩) (Kd.R_far (p := ⟨gb208,3,none⟩) (Kd.R_far (p := ⟨gb208,2,none⟩) (Kd.R_far (p := ⟨gb208,1,none⟩) (Kd.R_far (p := ⟨gb208,0,none⟩) (Kd.R_types HO_207001.out BK208.out (by decide)) (fun _ hk => hk.2) (.int .i64 ((rd_T30 l0 x10_1).f0))) (fun _ hk => hk.2) (.int .i64 ((rd_T30 l0 x10_1).f1))) (fun _ hk => hk.2) (.int .i64 ((rd_T30 l0 x10_1).f2))) (fun _ hk => hk.2) (.slice A207_3 ((rd_T30 l0 x10_1).f3).length c207_3)) (fun _ hk => hk.2) (.slice A207_4 ((rd_T30 l0 x10_1).f4).length c207_4)) (fun _ hk => hk.2) (.slice A207_5 ((rd_T30 l0 x10_1).f5).length c207_5)) (fun _ h_ => h_.1))) hb);replace BK206 := aK (blk_below (g := gb206) (o := .cells #[.slice Ao14 x207000_1.length co14,.slice Ao15 x207001_1.length co15,.int .i64 x207002_1] 46 (0,0)) (by (with_reducible repeat (first|refine blk_drewN ?_ _|refine blk_drew ?_|refine blk_alloc ?_ _));refine blk_far ?_ NB206_208.out _;(with_reducible repeat (first|refine blk_drewN ?_ _|refine blk_drew ?_|refine blk_alloc ?_ _));refine blk_far ?_ NB206_208.out _;(with_reducible repeat (first|refine blk_drewN ?_ _|refine blk_drew ?_|refine blk_alloc ?_ _));refine blk_far ?_ NB206_208.out _;(with_reducible repeat (first|refine blk_drewN ?_ _|refine blk_drew ?_|refine blk_alloc ?_ _));refine blk_far ?_ NB206_208.out _;(with_reducible repeat (first|refine blk_drewN ?_ _|refine blk_drew ?_|refine blk_alloc ?_ _));refine blk_far ?_ NB206_208.out _;(with_reducible repeat (first|refine blk_drewN ?_ _|refine blk_drew ?_|refine blk_alloc ?_ _));refine blk_far ?_ NB206_208.out _;(with_reducible repeat (first|refine blk_drewN ?_ _|refine blk_drew ?_|refine blk_alloc ?_ _));exact BK206.out) hb);replace BK208 := aK (blk_below (g := gb208) (o := .cells #[.int .i64 ((rd_T30 l0 x10_1).f0),.int .i64 ((rd_T30 l0 x10_1).f1),.int .i64 ((rd_T30 l0 x10_1).f2),.slice A207_3 ((rd_T30 l0 x10_1).f3).length c207_3,.slice A207_4 ((rd_T30 l0 x10_1).f4).length c207_4,.slice A207_5 ((rd_T30 l0 x10_1).f5).length c207_5] 30 (0,0)) (by (with_reducible repeat (first|refine blk_drewN ?_ _|refine blk_drew ?_|refine blk_alloc ?_ _));refine blk_put (cs := #[.int .i64 ((rd_T30 l0 x10_1).f0),.int .i64 ((rd_T30 l0 x10_1).f1),.int .i64 ((rd_T30 l0 x10_1).f2),.slice A207_3 ((rd_T30 l0 x10_1).f3).length c207_3,.slice A207_4 ((rd_T30 l0 x10_1).f4).length c207_4,.slice none 0 0]) ?_ 5 _ rfl;(with_reducible repeat (first|refine blk_drewN ?_ _|refine blk_drew ?_|refine blk_alloc ?_ _));refine blk_put (cs := #[.int .i64 ((rd_T30 l0 x10_1).f0),.int .i64 ((rd_T30 l0 x10_1).f1),.int .i64 ((rd_T30 l0 x10_1).f2),.slice A207_3 ((rd_T30 l0 x10_1).f3).length c207_3,.slice none 0 0,.slice none 0 0]) ?_ 4 _ rfl;(with_reducible repeat (first|refine blk_drewN ?_ _|refine blk_drew ?_|refine blk_alloc ?_ _));refine blk_put (cs := #[.int .i64 ((rd_T30 l0 x10_1).f0),.int .i64 ((rd_T30 l0 x10_1).f1),.int .i64 ((rd_T30 l0 x10_1).f2),.slice none 0 0,.slice none 0 0,.slice none 0 0]) ?_ 3 _ rfl;(with_reducible repeat (first|refine blk_drewN ?_ _|refine blk_drew ?_|refine blk_alloc ?_ _));refine blk_put (cs := #[.int .i64 ((rd_T30 l0 x10_1).f0),.int .i64 ((rd_T30 l0 x10_1).f1),.int .i64 0,.slice none 0 0,.slice none 0 0,.slice none 0 0]) ?_ 2 _ rfl;(with_reducible repeat (first|refine blk_drewN ?_ _|refine blk_drew ?_|refine blk_alloc ?_ _));refine blk_put (cs := #[.int .i64 ((rd_T30 l0 x10_1).f0),.int .i64 0,.int .i64 0,.slice none 0 0,.slice none 0 0,.slice none 0 0]) ?_ 1 _ rfl;(with_reducible repeat (first|refine blk_drewN ?_ _|refine blk_drew ?_|refine blk_alloc ?_ _));refine blk_put (cs := #[.int .i64 0,.int .i64 0,.int .i64 0,.slice none 0 0,.slice none 0 0,.slice none 0 0]) ?_ 0 _ rfl;(with_reducible repeat (first|refine blk_drewN ?_ _|refine blk_drew ?_|refine blk_alloc ?_ _));exact BK208.out) hb);replace HB := aK (below_step (bG HB.out) hb);(try clear hb);(try clear hk);obtain ⟨_,_,_,_,_,_⟩ := bk3_ BK206.out;obtain ⟨_,_,_,_,_,_,_,_,_,_,_,_⟩ := bk6_ BK208.out)|((with_reducible refine gate_callee (f := 25) rfl ?_);refine goesL_ (some 24) rfl rfl Tryz.func25 (by kernel_rfl) rfl #[.agg #[.slice Ao14 x207000_1.length co14,.slice Ao15 x207001_1.length co15,.int .i64 x207002_1],.agg #[.int .i64 ((rd_T30 l0 x10_1).f0),.int .i64 ((rd_T30 l0 x10_1).f1),.int .i64 ((rd_T30 l0 x10_1).f2),.slice A207_3 ((rd_T30 l0 x10_1).f3).length c207_3,.slice A207_4 ((rd_T30 l0 x10_1).f4).length c207_4,.slice A207_5 ((rd_T30 l0 x10_1).f5).length c207_5]] rfl (by (try simp only [List.map_toArray,List.map_cons,List.map_nil]);first|done|rfl|(simp only [List.length_drop,List.length_take];rfl)) ?_;(with_reducible refine (manifest_state_after.calls k1 (fun k_ => some k_ = (.slice Ao14 x207000_1.length co14 : Value).ownBlock) (.slice Ao14 x207000_1.length co14) x207000_1 (fun k_ => some k_ = (.slice Ao15 x207001_1.length co15 : Value).ownBlock) (.slice Ao15 x207001_1.length co15) x207001_1 x207002_1 ((rd_T30 l0 x10_1).f0) ((rd_T30 l0 x10_1).f1) ((rd_T30 l0 x10_1).f2) (fun k_ => k_ < w.heap.size) _ _ ((rd_T30 l0 x10_1).f3) _ _ ((rd_T30 l0 x10_1).f4) _ _ ((rd_T30 l0 x10_1).f5) t210 t213 t216 w _ ?side1 ?side2 ?side3 ?side4 ?side5 ?side6 ?side7 ?side8 ?side9 ?side10 A9.out).mono ?_);(case side1 => repeat (first|(with_reducible first|exact HB.out|apply below_alloc|apply pw_below_drewN|apply below_drew1|refine below_set ?_ GE206.out|refine below_set ?_ GE208.out)|exact HB.out));(case side2 => exact Kd.R_tight rfl HO_207000.out);(case side3 => exact fun k_ e_ => (HO_207000.out.1 k_ e_.symm));(case side4 => exact Kd.R_tight rfl HO_207001.out);(case side5 => exact fun k_ e_ => (HO_207001.out.1 k_ e_.symm));(case side6 => exact Kd.V_mono (Kd.V_mk HC207_3.out (Kd.F_below (Kd.C_F (Kd.heap_int .i64) HR207_3.out) (bG HB.out))) (fun k_ hk_ => ⟨hk_,fun e_ => Nat.not_le.2 hk_ (Kd.R_base HO_207000.out k_ e_.symm),fun e_ => Nat.not_le.2 hk_ (Kd.R_base HO_207001.out k_ e_.symm)⟩));(case side7 => exact Kd.C_kept_came (Kd.heap_int .i64) HR207_4.out (bG HB.out) (fun k_ hs_ => Or.elim hs_ (fun e_ => (fun e_ => Kd.R_base HO_207000.out k_ e_.symm) e_) (fun e_ => (fun e_ => Kd.R_base HO_207001.out k_ e_.symm) e_)));(case side8 => exact HC207_4.out);(case side9 => exact Kd.C_kept_came Kd.heap_string HR207_5.out (bG HB.out) (fun k_ hs_ => Or.elim hs_ (fun e_ => (fun e_ => Kd.R_base HO_207000.out k_ e_.symm) e_) (fun e_ => (fun e_ => Kd.R_base HO_207001.out k_ e_.symm) e_)));(case side10 => exact HC207_5.out);rintro e w19 ⟨v211,v214,rfl,ho0,ho1,hb,hkp⟩;refine ⟨_,rfl,?_⟩;replace BK206 := aK (blk_kept (kM BK206.out) hkp (fun hs_ => Or.elim hs_ (fun e_ => (fun e_ => (Kd.R_ne HO_207000.out BK206.out (by decide)) e_) e_) (fun e_ => (fun e_ => (Kd.R_ne HO_207001.out BK206.out (by decide)) e_) e_)));replace BK208 := aK (blk_kept (kM BK208.out) hkp (fun hs_ => Or.elim hs_ (fun e_ => (fun e_ => (Kd.R_ne HO_207000.out BK208.out (by decide)) e_) e_) (fun e_ => (fun e_ => (Kd.R_ne HO_207001.out BK208.out (by decide)) e_) e_)));have HO212 := aK (Kd.R_mono (ok' := fun k_ => some k_ ≠ (v214 : Value).ownBlock) ho0 (fun k_ hk_ => hk_.2));have HO215 := aK (Kd.R_mono (ok' := fun k_ => some k_ ≠ (v211 : Value).ownBlock) ho1 (fun k_ hk_ => hk_.2));replace HB := aK (hb);(try clear hb);(try clear hkp);(try clear ho0);(try clear ho1);obtain ⟨Ao20,co20,eo20⟩ := Kd.R_slice HO212.out;subst eo20;obtain ⟨_,_,_,_,_,_⟩ := bk3_ BK206.out;obtain ⟨Ao22,co22,eo22⟩ := Kd.R_slice HO215.out;subst eo22))
     go_roundg k1
     case measure => have := HK1.out;omega
     case rel => exact ⟨(wrap64 (x10_1 + 1)),(t210),(t213),(t216),(.slice Ao20 t210.length co20),(.slice Ao22 t213.length co22),(by first|rfl|(simp;done)|(simp [*];done)),H',⟨by have := HK1.out;omega⟩,⟨by (with_reducible repeat (first|apply Kd.R_alloc|apply Kd.R_drewN|apply Kd.R_drew));exact Kd.R_mono (Kd.R_far (p := ⟨gb206,2,none⟩) (Kd.R_far (p := ⟨gb206,1,none⟩) (Kd.R_far (p := ⟨gb206,0,none⟩) (Kd.R_types HO212.out BK206.out (by decide)) (fun _ hk => hk.2) (.slice Ao20 t210.length co20)) (fun _ hk => hk.2) (.slice Ao22 t213.length co22)) (fun _ hk => hk.2) (.int .i64 t216)) (fun _ hk => hk.1)⟩,⟨by (with_reducible repeat (first|apply Kd.R_alloc|apply Kd.R_drewN|apply Kd.R_drew));exact Kd.R_mono (Kd.R_far (p := ⟨gb206,2,none⟩) (Kd.R_far (p := ⟨gb206,1,none⟩) (Kd.R_far (p := ⟨gb206,0,none⟩) (Kd.R_types HO215.out BK206.out (by decide)) (fun _ hk => hk.2) (.slice Ao20 t210.length co20)) (fun _ hk => hk.2) (.slice Ao22 t213.length co22)) (fun _ hk => hk.2) (.int .i64 t216)) (fun _ hk => hk.1)⟩,⟨by (with_reducible repeat (first|refine blk_drewN ?_ _|refine blk_drew ?_|refine blk_alloc ?_ _));refine blk_put (cs := #[.slice Ao20 t210.length co20,.slice Ao22 t213.length co22,.int .i64 x207002_1]) ?_ 2 _ rfl;(with_reducible repeat (first|refine blk_drewN ?_ _|refine blk_drew ?_|refine blk_alloc ?_ _));refine blk_put (cs := #[.slice Ao20 t210.length co20,.slice Ao15 x207001_1.length co15,.int .i64 x207002_1]) ?_ 1 _ rfl;(with_reducible repeat (first|refine blk_drewN ?_ _|refine blk_drew ?_|refine blk_alloc ?_ _));refine blk_put (cs := #[.slice Ao14 x207000_1.length co14,.slice Ao15 x207001_1.length co15,.int .i64 x207002_1]) ?_ 0 _ rfl;(with_reducible repeat (first|refine blk_drewN ?_ _|refine blk_drew ?_|refine blk_alloc ?_ _));exact BK206.out⟩,⟨bG HB.out⟩⟩
    ·rw [if_neg c8] at H
     have c8b0 := beq_eq_false_iff_ne.mpr c8
     have c8b1 := bne_iff_ne.mpr c8
     obtain rfl := Option.some.inj H
     have p207 : 0 ≤ (x10_1 : Int) := of_decide_eq_true (by assumption)
     have q207 : x10_1 < (l0.length : Int) := of_decide_eq_true (by assumption)
     obtain ⟨ad207,A207_3,c207_3,A207_4,c207_4,A207_5,c207_5,e207,hx207_0,hx207_1,hx207_2,hx207_3,hx207_4,hx207_5,hl207_3,hi207_3,hl207_4,hi207_4,hl207_5,hi207_5⟩ := at_T30 HR0.out x10_1 p207 q207
     cases e207
     replace hx207_0 := xM HB hx207_0
     replace hx207_1 := xM HB hx207_1
     replace hx207_2 := xM HB hx207_2
     replace hx207_3 := xM HB hx207_3
     replace hx207_4 := xM HB hx207_4
     replace hx207_5 := xM HB hx207_5
     have HR207_3 := aK hi207_3
     have HC207_3 := aK hl207_3
     clear hi207_3 hl207_3
     have HR207_4 := aK hi207_4
     have HC207_4 := aK hl207_4
     clear hi207_4 hl207_4
     have HR207_5 := aK hi207_5
     have HC207_5 := aK hl207_5
     clear hi207_5 hl207_5
     replace p207 := eq_true p207
     replace q207 := eq_true q207
     go_wp2_with (first|((with_reducible refine gate_dst (N := 5) rfl ?_);refine box_event ?hg (N := 5) ?hd (cs := #[.int .i64 0,.int .i64 0,.int .i64 0,.slice none 0 0,.slice none 0 0,.slice none 0 0]) (t := 30) ?hr ?_;(case hd => rfl);(case hg => rfl);(case hr => first|(go_simp;done)|(go_simp;rfl));intro gb208 hg w23 hbox hb;replace HO_207000 := aK (Kd.R_below (rM HO_207000.out) hb);replace HO_207001 := aK (Kd.R_below (rM HO_207001.out) hb);have BK208 := aK (hbox);have GW208 := aK ((by rw [hg];exact (below_size (bG HB.out)) : w.heap.size ≤ gb208));have GJ208 := Ge.mk GW208.out;have GE208 := aK ((by rw [hg];exact (below_size (bG HB.out)) : w.heap.size ≤ gb208));have GI208 := Ge.mk GE208.out;replace HB := aK (below_step (bG HB.out) hb);have NB206_208 := aK (nbL BK206.out hg);have NB208_206 := aK (nbR BK206.out hg);replace BK206 := aK (blk_below (kM BK206.out) hb);clear hb hbox hg;have hnb24 := NB208_206.out;have hnc24 := NB206_208.out;obtain ⟨_,_,_,_,_,_,_,_,_,_,_,_⟩ := bk6_ BK208.out;obtain ⟨_,_,_,_,_,_⟩ := bk3_ BK206.out;obtain ⟨Ao27,co27,eo27⟩ := Kd.R_slice HO_207000.out;subst eo27;obtain ⟨Ao28,co28,eo28⟩ := Kd.R_slice HO_207001.out;subst eo28)|((with_reducible refine gate_callee (f := 24) rfl ?_);refine goesL_ (some 18) rfl rfl Tryz.func24 (by kernel_rfl) rfl #[.agg #[.slice Ao27 x207000_1.length co27,.slice Ao28 x207001_1.length co28,.int .i64 x207002_1],.int .i64 x10_1,.agg #[.int .i64 ((rd_T30 l0 x10_1).f0),.int .i64 ((rd_T30 l0 x10_1).f1),.int .i64 ((rd_T30 l0 x10_1).f2),.slice A207_3 ((rd_T30 l0 x10_1).f3).length c207_3,.slice A207_4 ((rd_T30 l0 x10_1).f4).length c207_4,.slice A207_5 ((rd_T30 l0 x10_1).f5).length c207_5]] rfl (by (try simp only [List.map_toArray,List.map_cons,List.map_nil]);first|done|rfl|(simp only [List.length_drop,List.length_take];rfl)) ?_;(with_reducible refine (manifest_check.calls k1 _ _ x207000_1 _ _ x207001_1 x207002_1 x10_1 ((rd_T30 l0 x10_1).f0) ((rd_T30 l0 x10_1).f1) ((rd_T30 l0 x10_1).f2) _ _ ((rd_T30 l0 x10_1).f3) _ _ ((rd_T30 l0 x10_1).f4) _ _ ((rd_T30 l0 x10_1).f5) t209 _ ?side1 ?side2 ?side3 ?side4 ?side5 ?side6 ?side7 ?side8 ?side9 ?side10 A7.out).mono ?_);(case side1 => refine (Kd.R_reads' (e := 3) (base := w.heap.size) (ok := fun k_ => some k_ ≠ (.slice Ao28 x207001_1.length co28 : Value).ownBlock) (n := x207000_1.length) (c := co27) ?_).2.2;exact (by (with_reducible repeat (first|apply Kd.R_alloc|apply Kd.R_drewN|apply Kd.R_drew));exact (Kd.R_mono (Kd.R_far (p := ⟨gb208,5,none⟩) (Kd.R_far (p := ⟨gb208,4,none⟩) (Kd.R_far (p := ⟨gb208,3,none⟩) (Kd.R_far (p := ⟨gb208,2,none⟩) (Kd.R_far (p := ⟨gb208,1,none⟩) (Kd.R_far (p := ⟨gb208,0,none⟩) (Kd.R_types HO_207000.out BK208.out (by decide)) (fun _ hk => hk.2) (.int .i64 ((rd_T30 l0 x10_1).f0))) (fun _ hk => hk.2) (.int .i64 ((rd_T30 l0 x10_1).f1))) (fun _ hk => hk.2) (.int .i64 ((rd_T30 l0 x10_1).f2))) (fun _ hk => hk.2) (.slice A207_3 ((rd_T30 l0 x10_1).f3).length c207_3)) (fun _ hk => hk.2) (.slice A207_4 ((rd_T30 l0 x10_1).f4).length c207_4)) (fun _ hk => hk.2) (.slice A207_5 ((rd_T30 l0 x10_1).f5).length c207_5)) (fun _ h_ => h_.1))));(case side2 => exact (Kd.R_reads' HO_207000.out).2.1);(case side3 => refine (Kd.R_reads' (e := 3) (base := w.heap.size) (ok := fun k_ => some k_ ≠ (.slice Ao27 x207000_1.length co27 : Value).ownBlock) (n := x207001_1.length) (c := co28) ?_).2.2;exact (by (with_reducible repeat (first|apply Kd.R_alloc|apply Kd.R_drewN|apply Kd.R_drew));exact (Kd.R_mono (Kd.R_far (p := ⟨gb208,5,none⟩) (Kd.R_far (p := ⟨gb208,4,none⟩) (Kd.R_far (p := ⟨gb208,3,none⟩) (Kd.R_far (p := ⟨gb208,2,none⟩) (Kd.R_far (p := ⟨gb208,1,none⟩) (Kd.R_far (p := ⟨gb208,0,none⟩) (Kd.R_types HO_207001.out BK208.out (by decide)) (fun _ hk => hk.2) (.int .i64 ((rd_T30 l0 x10_1).f0))) (fun _ hk => hk.2) (.int .i64 ((rd_T30 l0 x10_1).f1))) (fun _ hk => hk.2) (.int .i64 ((rd_T30 l0 x10_1).f2))) (fun _ hk => hk.2) (.slice A207_3 ((rd_T30 l0 x10_1).f3).length c207_3)) (fun _ hk => hk.2) (.slice A207_4 ((rd_T30 l0 x10_1).f4).length c207_4)) (fun _ hk => hk.2) (.slice A207_5 ((rd_T30 l0 x10_1).f5).length c207_5)) (fun _ h_ => h_.1))));(case side4 => exact (Kd.R_reads' HO_207001.out).2.1);(case side5 => exact Kd.C_below HR207_3.out (bG HB.out));(case side6 => exact HC207_3.out);(case side7 => exact Kd.C_below HR207_4.out (bG HB.out));(case side8 => exact HC207_4.out);(case side9 => exact Kd.C_below HR207_5.out (bG HB.out));(case side10 => exact HC207_5.out);rintro e w29 ⟨rfl,hb⟩;refine ⟨_,rfl,?_⟩;replace HB := aK (below_step (bG HB.out) hb);(try clear hb);(try clear hk)))
     go_ret
     exact ⟨by first|rfl|(simp [errW_none,errW_some] <;> rfl)|(simp [*,errW_none,errW_some] <;> rfl),bG HB.out⟩
   ·rw [if_neg c4] at H
    have c4b0 := decide_eq_false c4
    clear c4
    obtain rfl := Option.some.inj H
    go_wp2
    go_ret
    exact ⟨by first|rfl|(simp [errW_none,errW_some] <;> rfl)|(simp [*,errW_none,errW_some] <;> rfl),bG HB.out⟩

/-! ### varint_Put: function 41 (by hand) -/
/-- The digits to the base 128, the lowest one first. -/
def enc7 : Nat → Int → List Int
  | 0, _ => []
  | k + 1, x => if x ≥ 128 then (x % 128 + 128) :: enc7 k (x / 128) else [x]
def varint_Put.f (l0 : List Int) (a1 : Int) : Option (List Int) := if l0.length + 10 < 140737488355328 then some (l0 ++ enc7 10 (IntKind.u64.wrap (mx a1 0))) else none
def varint_Put.l0 : Nat → List Int → Int → Option (List Int)
  | 0, _, _ => none
  | k + 1, x5, x6 => if x6 ≥ 128 then (if x5.length < 140737488355328 then (varint_Put.l0 k (x5 ++ [Go.bits .or .u8 (x6 % 256) 128]) (x6 / 128)) else (none)) else (if x5.length < 140737488355328 then (some (x5 ++ [x6 % 256])) else (none))
theorem bits_or128 (x : Int) (h0 : 0 ≤ x) : Go.bits .or .u8 (x % 256) 128 = x % 128 + 128 := by
  have h : ∀ a : Fin 256, Go.bits .or .u8 (a.val : Int) 128 = (a.val : Int) % 128 + 128 := by decide +kernel
  have h1 := h ⟨(x % 256).toNat, by omega⟩
  simp only at h1
  rw [show (((x % 256).toNat : Nat) : Int) = x % 256 from by omega] at h1
  rw [h1]; omega
theorem varint_Put.l0_enc (k : Nat) : ∀ (x5 : List Int) (x6 : Int), 0 ≤ x6 → x6 < 128 ^ (k + 1) → x5.length + k + 1 < 140737488355328 → varint_Put.l0 (k + 1) x5 x6 = some (x5 ++ enc7 (k + 1) x6) := by
  induction k with
  | zero =>
    intro x5 x6 h0 h1 h2
    have hn : ¬ x6 ≥ 128 := by omega
    rw [varint_Put.l0, enc7, if_neg hn, if_neg hn, if_pos (show x5.length < 140737488355328 by omega), show x6 % 256 = x6 from by omega]
  | succ k ih =>
    intro x5 x6 h0 h1 h2
    rw [varint_Put.l0, enc7]
    by_cases h : x6 ≥ 128
    · rw [if_pos h, if_pos h, if_pos (show x5.length < 140737488355328 by omega), bits_or128 x6 h0, ih _ _ (by omega) (by rw [Int.pow_succ] at h1; omega) (by simp; omega)]
      simp
    · rw [if_neg h, if_neg h, if_pos (show x5.length < 140737488355328 by omega), show x6 % 256 = x6 from by omega]
theorem wrap_u64_range (x : Int) : 0 ≤ IntKind.u64.wrap x ∧ IntKind.u64.wrap x < 18446744073709551616 := by
  simp [IntKind.wrap, IntKind.bits, IntKind.signed]; omega
theorem varint_Put.of_f {l0 : List Int} {a1 : Int} {r : List Int} (h : varint_Put.f l0 a1 = some r) : varint_Put.l0 10 l0 (IntKind.u64.wrap (mx a1 0)) = some r := by
  unfold varint_Put.f at h
  split at h
  · rw [varint_Put.l0_enc 9 l0 _ (wrap_u64_range _).1 (Int.lt_of_lt_of_le (wrap_u64_range _).2 (by decide)) (by omega)]; exact h
  · cases h
/-- A row of the call's own, or one that came in and has no room behind it. -/
def SrcU8 (w0 W : World) (v : Value) (xs : List Int) : Prop :=
  Kd.R (Kd.int .u8) 5 W w0.heap.size (fun _ => True) v xs ∨ ∃ A, v = .slice A xs.length xs.length ∧ (A = none → xs.length = 0) ∧ Kd.C (Kd.int .u8) W A xs.length xs
theorem src_below {w0 W W1 : World} {v : Value} {xs : List Int} (h : SrcU8 w0 W v xs) (hb : Below W.heap.size W W1) : SrcU8 w0 W1 v xs := by
  rcases h with h | ⟨A, h1, h2, h3⟩
  · exact .inl (Kd.R_below h hb)
  · exact .inr ⟨A, h1, h2, Kd.C_below h3 hb⟩
section
variable {P : Program} {ops : Array Oper} {rest : List Oper} {o : Oper} {a : Act} {Q : Exit → Act → World → Prop}
theorem src_append {w0 W : World} (hgd : o.guard = none) (s x : Operand) (t : TypeId)
    (ho : o.op = .call { callee := .builtin .append, args := #[s, x], argTypes := #[t, t] })
    (ht : P.underlying t = some (.slice 5)) (hinfo : (P.info? 5).map (fun i => (i.zero, i.size, i.bytes)) = some (some (.int .u8 0), 1, 1))
    (v : Value) (xs : List Int) (p : Int) (hs : a.eval s = v) (hx : a.eval x = .slice (some ⟨W.heap.size, 0, none⟩) 1 1)
    (HO : SrcU8 w0 W v xs) (HB : Below w0.heap.size w0 W) (hl : xs.length < 140737488355328)
    (h : ∀ v1 w1, Kd.R (Kd.int .u8) 5 w1 w0.heap.size (fun _ => True) v1 (xs ++ [p]) → Below w0.heap.size w0 w1 → wpList P ops Q rest (a.put o.dst v1) w1) :
    wpList P ops Q (o :: rest) a (W.alloc (.cells #[.int .u8 p] 5)) := by
  rcases HO with HO | ⟨A, rfl, hA, hC⟩
  · exact Kd.R_append (Kd.int .u8) (w0 := w0) w0.heap.size hgd s x t 5 (.int .u8 0) 1 ho ht hinfo rfl (by decide) (by omega) v xs p [.int .u8 p] (fun _ => True) (fun _ => False) hs hx rfl (fun _ hk => hk.elim) (fun _ _ => trivial) HO HB HB.size (by omega) (fun v1 w1 h1 h2 _ _ => h v1 w1 h1 h2)
  · obtain ⟨i0, hi, hzz⟩ := Option.map_eq_some_iff.1 hinfo
    simp only [Prod.mk.injEq] at hzz
    obtain ⟨hz0, hz1, hz2⟩ := hzz
    have hC' := readsInt_of.2 (Kd.reads_of_C (enc := Value.int .u8) (d := (0 : Int)) (h1 := fun _ => rfl) hC)
    refine wpList_append_grows (W.alloc (.cells #[.int .u8 p] 5)) hgd s x t ho 5 i0 (.int .u8 0) 1 1 ht hi hz0 hz1 hz2 rfl (by decide) A xs.length xs.length (nums .u8 xs) hs (fun e => ⟨hA e, hA e⟩) (by simp [nums_length])
      (fun b hb j u hj => ?_) ⟨W.heap.size, 0, none⟩ 1 1 [.int .u8 p] hx rfl
      (by simpa using World.news_of_block (cs := #[.int .u8 p]) (t := 5) (fr := (0, 0)) (heap_alloc_new W (.cells #[.int .u8 p] 5))) (by simp [Value.oneCell']) (by omega) (by simp only [maxLen]; omega) (by omega) ?_
    · have hjl : j < xs.length := by
        have := (List.getElem?_eq_some_iff.1 hj).1
        simpa [nums_length] using this
      obtain ⟨ad, e, hc⟩ := hC'.2.2 (by omega)
      subst hb
      cases e
      have h1 := hc j hjl
      have h2 : u = .int .u8 (xs.getD j 0) := by
        simp [nums, List.getElem?_eq_getElem hjl] at hj
        rw [← hj, List.getD_eq_getElem?_getD, List.getElem?_eq_getElem hjl]; rfl
      rw [h2]
      exact (Below.cell ((Below.refl W.heap.size W).alloc (Nat.le_refl _) _) (World.block_lt_of_cell? W _ h1)).trans h1
    · intro v' w' hown hg
      have hown' : w'.ownsRow w0.heap.size 5 1 v' (xs ++ [p]).length (encs (Value.int .u8) (xs ++ [p])) := by
        have : encs (Value.int .u8) (xs ++ [p]) = nums .u8 xs ++ [.int .u8 p] := by simp [encs, nums]
        rw [this, List.length_append, List.length_singleton]
        exact own_weaken hown (by have := HB.size; simp; omega)
      refine h v' w' (Kd.R_of_own hown' (fun _ _ => trivial)) ?_
      exact (HB.alloc HB.size _).grown hg (by have := HB.size; simp; omega) (fun k hk => by cases hk)
end
set_option maxHeartbeats 8000000 in
set_option maxRecDepth 100000 in
theorem varint_Put.calls (A0 : Option Addr) (c0 : Nat) (l0 : List Int) (a1 : Int) (r : List Int) (w : World) (hr0 : Kd.C (Kd.int .u8) w A0 l0.length l0) (hc0 : l0.length ≤ c0) (h : varint_Put.f l0 a1 = some r) :
    Calls Tryz.prog 41 #[.slice A0 l0.length c0, .int .i64 a1] w fun e w' => ∃ v0_ : Value, e = .returned (v0_) ∧ Kd.R (Kd.int .u8) 5 w' w.heap.size (fun _ => True) v0_ r ∧ Below w.heap.size w w' := by
  have HR0 := aK hr0
  have HC0 := aK hc0
  clear hr0 hc0
  have HB := aK (Below.refl w.heap.size w)
  have H : (varint_Put.l0 10 l0 (IntKind.u64.wrap (mx a1 0))) = some r := varint_Put.of_f h
  clear h
  have H' := aK H
  clear H
  have hcc := HC0.out
  have hc2 : (l0.length : Int) ≤ (c0 : Int) := by omega
  clear hcc
  obtain ⟨ji, hji⟩ : ∃ j_ : Int, (mx a1 0) = j_ := ⟨_, rfl⟩
  rw [hji] at H'
  have hji_ : (if a1 < 0 then 0 else a1) = ji := hji
  clear hji
  go_enter Tryz.func41, Tryz.ntmps41
  go_wp2
  go_loopg [5, 6] 10 (fun kq v5 v6 w' => ∃ (x5_1 : List Int) (x6_1 : Int), v6 = .int .u64 x6_1 ∧ Aside0 (varint_Put.l0 kq x5_1 x6_1 = some r) ∧ Aside0 (kq ≤ 10) ∧ Aside0 (SrcU8 w w' v5 x5_1) ∧ Aside0 (Below w.heap.size w w'))
  case atStart =>
    refine ⟨l0, IntKind.u64.wrap ji, rfl, H', ⟨Nat.le_refl _⟩, ⟨.inr ⟨A0, rfl, fun e => ?_, HR0.out⟩⟩, HB⟩
    rcases Nat.eq_zero_or_pos l0.length with hl | hl
    · exact hl
    · obtain ⟨ad, ea, _⟩ := HR0.out.2.2 hl
      rw [e] at ea
      cases ea
  case round =>
    clear H'
    obtain ⟨x5_1, x6_1, rfl, HA, HK1, HO_5, HB⟩ := hrel
    cases gk with
    | zero => exact absurd HA.out (by simp [varint_Put.l0])
    | succ k1 =>
      have H := HA.out
      clear HA
      simp only [varint_Put.l0] at H
      by_cases c3 : x6_1 ≥ 128
      · rw [if_pos c3] at H
        have c3b0 := decide_eq_true c3
        clear c3
        by_cases c5 : x5_1.length < 140737488355328
        · rw [if_pos c5] at H
          have LMc5 := aK c5
          clear c5
          obtain ⟨y1, hy1⟩ : ∃ y_ : List Int, y_ = x5_1 ++ [Go.bits .or .u8 (x6_1 % 256) 128] := ⟨_, rfl⟩
          rw [← hy1] at H
          have Ny1 := aK hy1
          clear hy1
          have H' := aK H
          clear H
          go_wp2_with (first | ((with_reducible refine gate_builtin (b := .append) (xs := #[.tmp 18, .tmp 22]) rfl ?_); at_builtin; refine src_append (w0 := w) rfl (.tmp 18) (.tmp 22) 31 rfl Tryz.underlying31 info5 u5 x5_1 (Go.bits .or .u8 (x6_1 % 256) 128) rfl rfl ?aO ?aB ?aL ?_; (case aB => exact HB.out); (case aO => exact HO_5.out); (case aL => exact LMc5.out); intro v120 w6 ho hb; rw [← Ny1.out] at ho; have n0_ := aK (hb); have n1_ := aK (ho); clear HB; clear HO_5; have HB := n0_; have HO121 := n1_; clear n0_ n1_; clear ho hb))
          go_roundg k1
          case measure => have := HK1.out; omega
          case rel => exact ⟨y1, _, rfl, H', ⟨by have := HK1.out; omega⟩, ⟨.inl HO121.out⟩, HB⟩
        · rw [if_neg c5] at H
          exact absurd H (by simp)
      · rw [if_neg c3] at H
        have c3b0 := decide_eq_false c3
        clear c3
        by_cases c5 : x5_1.length < 140737488355328
        · rw [if_pos c5] at H
          have LMc5 := aK c5
          clear c5
          obtain ⟨y1, hy1⟩ : ∃ y_ : List Int, y_ = x5_1 ++ [x6_1 % 256] := ⟨_, rfl⟩
          rw [← hy1] at H
          have Ny1 := aK hy1
          clear hy1
          have H' := aK H
          clear H
          go_wp2_with (first | ((with_reducible refine gate_builtin (b := .append) (xs := #[.tmp 26, .tmp 29]) rfl ?_); at_builtin; refine src_append (w0 := w) rfl (.tmp 26) (.tmp 29) 31 rfl Tryz.underlying31 info5 u5 x5_1 (x6_1 % 256) rfl rfl ?aO ?aB ?aL ?_; (case aB => exact HB.out); (case aO => exact HO_5.out); (case aL => exact LMc5.out); intro v120 w6 ho hb; rw [← Ny1.out] at ho; have n0_ := aK (hb); have n1_ := aK (ho); clear HB; clear HO_5; have HB := n0_; have HO121 := n1_; clear n0_ n1_; clear ho hb))
          obtain rfl := Option.some.inj H'.out
          go_ret
          exact ⟨_, rfl, HO121.out, HB.out⟩
        · rw [if_neg c5] at H
          exact absurd H (by simp)

end Go.Proofs.YtmgliocboeifdaaGreatDoor.R
