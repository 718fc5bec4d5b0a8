-- Written by hp.py, a program of this session, over the kit's print of the translation. Not trusted: Lean checks it.
import Derived.Test.YtknpmknkkofnjaaPx0
import Derived.Test.YtknpmknkkofnjaaPx1
namespace Go.Proofs.Ytknpmknkkofnjaa.P
open Go.RowKit Go.Proofs.YtknpmknkkofnjaaW.PrintWords Go.Proofs.YtknpmknkkofnjaaW.PrintLast Go.Proofs.YtknpmknkkofnjaaW.PrintMore
attribute [local go_sem] max2_int min2_int max_two min_two max_three min_three max_four min_four   -- for this text's walks alone
set_option linter.unusedVariables false
set_option linter.unusedSimpArgs false

/-! ### posting_Or: function 16 -/
def posting_Or.f (k : Nat) (l0 : List Int) (l1 : List Int) : Option (List Int) := (slices_Concat_int_int.f k (([l0, l1] : List (List Int)))).bind fun t122 => ((posting_unique_int.f t122).bind fun t125 => (some t125))
theorem posting_Or.mono : ∀ a0 a1 k, LeO (posting_Or.f k a0 a1) (posting_Or.f (k + 1) a0 a1) := by
 intro a0 a1 k
 unfold posting_Or.f
 repeat' first
  |(with_reducible exact slices_Concat_int_int.mono _ _)
  |(with_reducible exact LeO.refl _)
  |(with_reducible exact LeO.none _)
  |(with_reducible refine LeO.ite ?_ ?_)
  |(with_reducible refine LeO.bind ?_ (fun _ => ?_))
  |exact slices_Concat_int_int.mono _ _
  |exact LeO.none _
  |refine LeO.ite ?_ ?_
  |refine LeO.bind ?_ (fun _ => ?_)
set_option maxHeartbeats 4000000 in
set_option maxRecDepth 100000 in
theorem posting_Or.calls (k : Nat) (P0_ : Nat → Prop) (A0 : Option Addr) (c0 : Nat) (l0 : List Int) (P1_ : Nat → Prop) (A1 : Option Addr) (c1 : Nat) (l1 : List Int) (r : List Int) (w : World) (hs0 : Kd.V (Kd.int .i64) 3 w w.heap.size (fun k_ => P0_ k_) (.slice A0 l0.length c0) l0) (hs1 : Kd.V (Kd.int .i64) 3 w w.heap.size (fun k_ => P1_ k_) (.slice A1 l1.length c1) l1) (h : posting_Or.f k l0 l1 = some r) :
  Calls Try.prog 16 #[.slice A0 l0.length c0,.slice A1 l1.length c1] w fun e w' => ∃ v0_ : Value,e = .returned (v0_) ∧ Kd.R (Kd.int .i64) 3 w' w.heap.size (fun k_ => (w.heap.size ≤ k_)) v0_ r ∧ Below w.heap.size w w' := by
 have HO0 := Aside0.mk (show Kd.V (Kd.int .i64) 3 w w.heap.size (fun k_ => ((P0_ k_ ∨ P1_ k_) ∨ w.heap.size ≤ k_)) (.slice A0 l0.length c0) l0 from Kd.V_mono hs0 (fun k_ hk => .inl (.inl hk)))
 have HO1 := Aside0.mk (show Kd.V (Kd.int .i64) 3 w w.heap.size (fun k_ => ((P0_ k_ ∨ P1_ k_) ∨ w.heap.size ≤ k_)) (.slice A1 l1.length c1) l1 from Kd.V_mono hs1 (fun k_ hk => .inl (.inr hk)))
 have HB := Aside0.mk (Below.refl w.heap.size w)
 have H : ((slices_Concat_int_int.f k (([l0,l1] : List (List Int)))).bind fun t122 => ((posting_unique_int.f t122).bind fun t125 => (some t125))) = some r := h
 clear h
 obtain ⟨y119,hy119⟩ : ∃ y_ : List (List Int),y_ = (([l0,l1] : List (List Int))) := ⟨_,rfl⟩
 replace H : ((slices_Concat_int_int.f k y119).bind fun t122 => ((posting_unique_int.f t122).bind fun t125 => (some t125))) = some r := by first|(rw [hy119];with_reducible exact H)|(have H2_ := (Option.bind_some _ _).symm.trans H;rw [hy119];with_reducible exact H2_)|(have H2_ := (Option.bind_some _ _).symm.trans H;with_reducible exact H2_)|with_reducible exact H|(rw [hy119];exact H)|exact H
 have Ny119 := Aside0.mk hy119
 clear hy119
 replace H := Option.bind_eq_some_iff.mp H
 obtain ⟨t122,A30,H⟩ := H
 replace H : ((posting_unique_int.f t122).bind fun t125 => (some t125)) = some r := H
 have A3 := Aside0.mk A30
 clear A30
 replace H := Option.bind_eq_some_iff.mp H
 obtain ⟨t125,A40,H⟩ := H
 replace H : (some t125) = some r := H
 have A4 := Aside0.mk A40
 clear A40
 obtain rfl := Option.some.inj H
 go_enter Try.func16,Try.ntmps16
 go_wp2_with (first|((with_reducible refine gate_dst (N := 7) rfl ?_);refine Kd.N_lit (Kd.slice 3 (Kd.int .i64)) _ 22 ?hg (N' := 7) ?hd (xs := ([l0,l1] : List (List Int))) (inner := [.slice A0 l0.length c0,.slice A1 l1.length c1]) (ok := (fun k_ => ((P0_ k_ ∨ P1_ k_) ∨ w.heap.size ≤ k_))) (okp := (fun k_ => ((P0_ k_ ∨ P1_ k_) ∨ w.heap.size ≤ k_))) ?hr ?hp (fun _ hk => hk) ((show ∀ k_,w.heap.size ≤ k_ → (fun k_ => ((P0_ k_ ∨ P1_ k_) ∨ w.heap.size ≤ k_)) k_ from fun k_ hk => (.inr (Nat.le_trans (below_size (bM HB.out)) hk))) _ (Nat.le_refl _)) (Below.refl _ _) (Nat.le_refl _) (by simp) ?_;(case hd => rfl);(case hg => rfl);(case hr => first|(go_simp;done)|(go_simp;rfl));(case hp => exact (Reps.one (show Kd.FK (Kd.slice 3 (Kd.int .i64)) _ _ l0 [.slice A0 l0.length c0] from (Kd.FK_slice_mk (Kd.V_reads' (Kd.V_mono (ok' := (fun k_ => ((P0_ k_ ∨ P1_ k_) ∨ w.heap.size ≤ k_))) (HO0.out) (fun k_ hk => hk))).2.1 (Kd.V_F (Kd.V_mono (ok' := (fun k_ => ((P0_ k_ ∨ P1_ k_) ∨ w.heap.size ≤ k_))) (HO0.out) (fun k_ hk => hk))))) (Reps.one (show Kd.FK (Kd.slice 3 (Kd.int .i64)) _ _ l1 [.slice A1 l1.length c1] from (Kd.FK_slice_mk (Kd.V_reads' (Kd.V_mono (ok' := (fun k_ => ((P0_ k_ ∨ P1_ k_) ∨ w.heap.size ≤ k_))) (HO1.out) (fun k_ hk => hk))).2.1 (Kd.V_F (Kd.V_mono (ok' := (fun k_ => ((P0_ k_ ∨ P1_ k_) ∨ w.heap.size ≤ k_))) (HO1.out) (fun k_ hk => hk))))) (Reps.none _ _))));intro v120 w5 ho6 hb hg_ hnew_;clear hg_ hnew_;(first|rw [← Ny119.out] at ho6|(simp only [Int.reduceToNat] at ho6;rw [← Ny119.out] at ho6));have n0_ := Aside0.mk (Kd.V_elder' (by (with_reducible repeat (first|apply Kd.V_alloc|apply Kd.V_drewN|apply Kd.V_drew));exact HO0.out) (Kd.N_base ho6) hb);have n1_ := Aside0.mk (Kd.V_elder' (by (with_reducible repeat (first|apply Kd.V_alloc|apply Kd.V_drewN|apply Kd.V_drew));exact HO1.out) (Kd.N_base ho6) hb);have n2_ := Aside0.mk (Kd.N_lower ho6 (below_size (bM HB.out)));have n3_ := Aside0.mk (below_step (bM HB.out) hb);clear HO0;clear HO1;clear HB;have HO0 := n0_;have HO1 := n1_;have HO121 := n2_;have HB := n3_;clear n0_ n1_ n2_ n3_;clear hb ho6;obtain ⟨Ao7,co7,eo7⟩ := Kd.N_slice HO121.out;subst eo7)|((with_reducible refine gate_callee (f := 37) rfl ?_);refine goesL_ (some 8) rfl rfl Try.func37 (by kernel_rfl) rfl #[.slice Ao7 y119.length co7] rfl (by (try simp only [List.map_toArray,List.map_cons,List.map_nil]);first|done|rfl|(simp only [List.length_drop,List.length_take];rfl)) ?_;(with_reducible refine (slices_Concat_int_int.calls k _ _ y119 t122 _ ?side1 ?side2 A3.out).mono ?_);(case side1 => repeat (first|exact (Kd.N_reads' HO121.out).2.2|(with_reducible refine Kd.C_alloc ?_ _)|(with_reducible refine Kd.C_drewN ?_ _)|(with_reducible refine Kd.C_drew ?_)));(case side2 => exact (Kd.N_reads' HO121.out).2.1);rintro e w8 ⟨v123,rfl,ho0,hb⟩;refine ⟨_,rfl,?_⟩;have n0_ := Aside0.mk (Kd.V_elder' (by (with_reducible repeat (first|apply Kd.V_alloc|apply Kd.V_drewN|apply Kd.V_drew));exact HO0.out) (Kd.R_base ho0) hb);have n1_ := Aside0.mk (Kd.V_elder' (by (with_reducible repeat (first|apply Kd.V_alloc|apply Kd.V_drewN|apply Kd.V_drew));exact HO1.out) (Kd.R_base ho0) hb);have n2_ := Aside0.mk (Kd.N_elder' (by (with_reducible repeat (first|apply Kd.N_alloc|apply Kd.N_drewN|apply Kd.N_drew));exact HO121.out) (Kd.R_base ho0) hb);have n3_ := Aside0.mk (Kd.R_lower (Kd.R_newM (M := fun k_ => (w.heap.size ≤ k_)) ho0 (below_size (bM HB.out)) (fun k_ h_ => h_)) (below_size (bM HB.out)));have n4_ := Aside0.mk (below_step (bM HB.out) hb);clear HO0;clear HO1;clear HO121;clear HB;have HO0 := n0_;have HO1 := n1_;have HO121 := n2_;have HO124 := n3_;have HB := n4_;clear n0_ n1_ n2_ n3_ n4_;(try clear hb);(try clear hb2);(try clear hk);(try clear hi);(try clear ho0);obtain ⟨Ao9,co9,eo9⟩ := Kd.R_slice HO124.out;subst eo9)|((with_reducible refine gate_callee (f := 34) rfl ?_);refine goesL_ (some 9) rfl rfl Try.func34 (by kernel_rfl) rfl #[.slice Ao9 t122.length co9] rfl (by (try simp only [List.map_toArray,List.map_cons,List.map_nil]);first|done|rfl|(simp only [List.length_drop,List.length_take];rfl)) ?_;(with_reducible refine (posting_unique_int.calls _ _ t122 t125 _ ?side1 ?side2 A4.out).mono ?_);(case side1 => exact cM (Kd.R_reads' HO124.out).2.2);(case side2 => exact (Kd.R_reads' HO124.out).2.1);rintro e w10 ⟨v126,rfl,ho0,hb⟩;refine ⟨_,rfl,?_⟩;have n0_ := Aside0.mk (Kd.V_elder' (by (with_reducible repeat (first|apply Kd.V_alloc|apply Kd.V_drewN|apply Kd.V_drew));exact HO0.out) (Kd.R_base ho0) hb);have n1_ := Aside0.mk (Kd.V_elder' (by (with_reducible repeat (first|apply Kd.V_alloc|apply Kd.V_drewN|apply Kd.V_drew));exact HO1.out) (Kd.R_base ho0) hb);have n2_ := Aside0.mk (Kd.N_elder' (by (with_reducible repeat (first|apply Kd.N_alloc|apply Kd.N_drewN|apply Kd.N_drew));exact HO121.out) (Kd.R_base ho0) hb);have n3_ := Aside0.mk (Kd.R_elder' (rM HO124.out) (Kd.R_base ho0) hb);have n4_ := Aside0.mk (Kd.R_lower (Kd.R_new' (Kd.R_newM (M := fun k_ => (w.heap.size ≤ k_)) ho0 (below_size (bM HB.out)) (fun k_ h_ => h_)) (Kd.R_lt (rM HO124.out))) (below_size (bM HB.out)));have n5_ := Aside0.mk (below_step (bM HB.out) hb);clear HO0;clear HO1;clear HO121;clear HO124;clear HB;have HO0 := n0_;have HO1 := n1_;have HO121 := n2_;have HO124 := n3_;have HO127 := n4_;have HB := n5_;clear n0_ n1_ n2_ n3_ n4_ n5_;(try clear hb);(try clear hb2);(try clear hk);(try clear hi);(try clear ho0)))
 go_ret
 exact ⟨_,by first|rfl|(simp [errW_none,errW_some] <;> rfl)|(simp [*,errW_none,errW_some] <;> rfl),by (with_reducible repeat (first|apply Kd.R_alloc|apply Kd.R_drewN|apply Kd.R_drew));exact Kd.R_mono HO127.out (fun _ hk => hk.1.1),bM HB.out⟩

/-! ### posting_Minus: function 18 (by hand) -/
def posting_Minus.f (l0 l1 : List Int) : Option (List Int) := if l0.length < 1000000000 then if l1.length < 1000000000 then some ((uniq l0).filter fun x => !(uniq l1).contains x) else none else none
set_option maxHeartbeats 4000000 in
set_option maxRecDepth 100000 in
theorem posting_Minus.calls (A0 : Option Addr) (c0 : Nat) (l0 : List Int) (A1 : Option Addr) (c1 : Nat) (l1 : List Int) (r : List Int) (w : World) (hr0 : Kd.C (Kd.int .i64) w A0 l0.length l0) (hc0 : l0.length ≤ c0) (hr1 : Kd.C (Kd.int .i64) w A1 l1.length l1) (hc1 : l1.length ≤ c1) (h : posting_Minus.f l0 l1 = some r) :
    Calls Try.prog 18 #[.slice A0 l0.length c0, .slice A1 l1.length c1] w fun e w' => ∃ v0_ : Value, e = .returned (v0_) ∧ Kd.R (Kd.int .i64) 3 w' w.heap.size (fun _ => True) v0_ r ∧ Below w.heap.size w w' := by
  unfold posting_Minus.f at h
  split at h
  case isFalse => cases h
  rename_i hl0
  split at h
  case isFalse => cases h
  rename_i hl1
  obtain rfl := Option.some.inj h
  clear h
  have hcl := Aside0.mk (posting_unique_int.calls A0 c0 l0 (uniq l0) w hr0 hc0 (by simp [posting_unique_int.f]; omega))
  have H1 := Aside0.mk (And.intro hr1 (And.intro hc1 (And.intro hl0 hl1)))
  clear hr0 hc0 hr1 hc1 hl0 hl1
  go_enter Try.func18, Try.ntmps18
  go_wp2_with fail
  go_at_call 34
  refine hcl.out.mono ?_
  rintro e w1 ⟨v, rfl, hR, hB⟩
  clear hcl
  obtain ⟨A, c, rfl⟩ := Kd.R_slice hR
  have hin := Aside0.mk (in_calls A1 c1 l1 w1 (Kd.C_below H1.out.1 hB) H1.out.2.1 H1.out.2.2.2)
  have HR := Aside0.mk hR
  have HB := Aside0.mk hB
  clear hR hB
  go_wp2_with fail
  go_at_call 32
  refine hin.out.mono ?_
  rintro e w2 ⟨B, rfl, hbx, hb2⟩
  clear hin
  have hR2 := Kd.R_below HR.out hb2
  have ho := Kd.own_of_R hR2
  have hown := Kd.own_of_R HR.out
  have hB2 := below_then HB.out HB.out.size hb2
  have hd := Aside0.mk (del_row (fun x => (uniq l1).contains x) 50 #[.pointer (some ⟨B, 0, none⟩)] (enters_of Try.func50 (by kernel_rfl) rfl) ho hB2 (by have := uniq_len l0; have := H1.out.2.2.1; omega)
    (fun W' hs hc x => in1_gives (hbx.same hs (fun a h1 h2 => hc a h2 (fun e => by have := own_lt hown a.block e.symm; omega))).set (uniq_srt l1) (by have := uniq_len l1; have := H1.out.2.2.2; omega) x))
  clear hbx hb2 HB HR hR2 ho hown hB2 H1
  go_wp2_with fail
  go_at_call 33
  refine hd.out.mono ?_
  rintro e w3 ⟨v', rfl, hR, hB⟩
  clear hd
  have HR := Aside0.mk hR
  have HB := Aside0.mk hB
  clear hR hB
  go_wp2
  go_ret
  exact ⟨_, rfl, HR.out, HB.out⟩

/-! ### posting_AtLeast: function 20 -/
mutual
def posting_AtLeast.l0 : Nat → Int → List Int → List (List Int) → Int → Int → Option (List Int)
|0,_,_,_,_,_ => none
|k + 1,x0,x5,x11,x12,x13 => if x13 < x12 then (if 0 ≤ x13 then (if x13 < (x11.length : Int) then ((posting_unique_int.f (rd_L1 x11 x13)).bind fun t129 => (if x5.length + t129.length < 17592186044416 then (posting_AtLeast.l0 k x0 (x5 ++ t129) x11 x12 (wrap64 (x13 + 1))) else (none))) else (none)) else (none)) else ((slices_Sort_int_int.f x5).bind fun t135 => (posting_AtLeast.l1 k x0 t135 ([] : List Int) 0))
def posting_AtLeast.l1 : Nat → Int → List Int → List Int → Int → Option (List Int)
|0,_,_,_,_ => none
|k + 1,x0,x5,x8,x9 => if x9 < (x5.length : Int) then (posting_AtLeast.l2 k x0 x5 x8 x9 x9) else (some x8)
def posting_AtLeast.l2 : Nat → Int → List Int → List Int → Int → Int → Option (List Int)
|0,_,_,_,_,_ => none
|k + 1,x0,x5,x8,x9,x10 => if x10 < (x5.length : Int) then (if 0 ≤ x10 then (if 0 ≤ x9 then (if x9 < (x5.length : Int) then (if (rd x5 x10) = (rd x5 x9) then (posting_AtLeast.l2 k x0 x5 x8 x9 (wrap64 (x10 + 1))) else (if (wrap64 (x10 - x9)) ≥ x0 then (if x8.length < 17592186044416 then (posting_AtLeast.l1 k x0 x5 (x8 ++ [rd x5 x9]) x10) else (none)) else (posting_AtLeast.l1 k x0 x5 x8 x10))) else (none)) else (none)) else (none)) else (if (wrap64 (x10 - x9)) ≥ x0 then (if 0 ≤ x9 then (if x9 < (x5.length : Int) then (if x8.length < 17592186044416 then (posting_AtLeast.l1 k x0 x5 (x8 ++ [rd x5 x9]) x10) else (none)) else (none)) else (none)) else (posting_AtLeast.l1 k x0 x5 x8 x10))
end
def posting_AtLeast.f (k : Nat) (a0 : Int) (l1 : List (List Int)) : Option (List Int) := posting_AtLeast.l0 k a0 ([] : List Int) l1 (l1.length : Int) 0
theorem posting_AtLeast.mono_l : ∀ k, (∀ y0 y1 y2 y3 y4, LeO (posting_AtLeast.l0 k y0 y1 y2 y3 y4) (posting_AtLeast.l0 (k + 1) y0 y1 y2 y3 y4)) ∧ (∀ y0 y1 y2 y3, LeO (posting_AtLeast.l1 k y0 y1 y2 y3) (posting_AtLeast.l1 (k + 1) y0 y1 y2 y3)) ∧ (∀ y0 y1 y2 y3 y4, LeO (posting_AtLeast.l2 k y0 y1 y2 y3 y4) (posting_AtLeast.l2 (k + 1) y0 y1 y2 y3 y4))
|0 => ⟨fun _ _ _ _ _ r h => by simp [posting_AtLeast.l0] at h,fun _ _ _ _ r h => by simp [posting_AtLeast.l1] at h,fun _ _ _ _ _ r h => by simp [posting_AtLeast.l2] at h⟩
|k + 1 => by
  obtain ⟨ih0,ih1,ih2⟩ := posting_AtLeast.mono_l k
  refine ⟨?_,?_,?_⟩
  ·intro y0 y1 y2 y3 y4
   unfold posting_AtLeast.l0
   repeat' first
  |(with_reducible exact ih0 _ _ _ _ _)
  |(with_reducible exact ih1 _ _ _ _)
  |(with_reducible exact ih2 _ _ _ _ _)
  |(with_reducible exact LeO.refl _)
  |(with_reducible exact LeO.none _)
  |(with_reducible refine LeO.ite ?_ ?_)
  |(with_reducible refine LeO.bind ?_ (fun _ => ?_))
  |exact ih0 _ _ _ _ _
  |exact ih1 _ _ _ _
  |exact ih2 _ _ _ _ _
  |exact LeO.none _
  |refine LeO.ite ?_ ?_
  |refine LeO.bind ?_ (fun _ => ?_)
  ·intro y0 y1 y2 y3
   unfold posting_AtLeast.l1
   repeat' first
  |(with_reducible exact ih0 _ _ _ _ _)
  |(with_reducible exact ih1 _ _ _ _)
  |(with_reducible exact ih2 _ _ _ _ _)
  |(with_reducible exact LeO.refl _)
  |(with_reducible exact LeO.none _)
  |(with_reducible refine LeO.ite ?_ ?_)
  |(with_reducible refine LeO.bind ?_ (fun _ => ?_))
  |exact ih0 _ _ _ _ _
  |exact ih1 _ _ _ _
  |exact ih2 _ _ _ _ _
  |exact LeO.none _
  |refine LeO.ite ?_ ?_
  |refine LeO.bind ?_ (fun _ => ?_)
  ·intro y0 y1 y2 y3 y4
   unfold posting_AtLeast.l2
   repeat' first
  |(with_reducible exact ih0 _ _ _ _ _)
  |(with_reducible exact ih1 _ _ _ _)
  |(with_reducible exact ih2 _ _ _ _ _)
  |(with_reducible exact LeO.refl _)
  |(with_reducible exact LeO.none _)
  |(with_reducible refine LeO.ite ?_ ?_)
  |(with_reducible refine LeO.bind ?_ (fun _ => ?_))
  |exact ih0 _ _ _ _ _
  |exact ih1 _ _ _ _
  |exact ih2 _ _ _ _ _
  |exact LeO.none _
  |refine LeO.ite ?_ ?_
  |refine LeO.bind ?_ (fun _ => ?_)
theorem posting_AtLeast.mono : ∀ a0 a1 k, LeO (posting_AtLeast.f k a0 a1) (posting_AtLeast.f (k + 1) a0 a1) := by
 intro a0 a1 k
 obtain ⟨ih0,ih1,ih2⟩ := posting_AtLeast.mono_l k
 unfold posting_AtLeast.f
 repeat' first
  |(with_reducible exact ih0 _ _ _ _ _)
  |(with_reducible exact ih1 _ _ _ _)
  |(with_reducible exact ih2 _ _ _ _ _)
  |(with_reducible exact LeO.refl _)
  |(with_reducible exact LeO.none _)
  |(with_reducible refine LeO.ite ?_ ?_)
  |(with_reducible refine LeO.bind ?_ (fun _ => ?_))
  |exact ih0 _ _ _ _ _
  |exact ih1 _ _ _ _
  |exact ih2 _ _ _ _ _
  |exact LeO.none _
  |refine LeO.ite ?_ ?_
  |refine LeO.bind ?_ (fun _ => ?_)
set_option maxHeartbeats 4000000 in
set_option maxRecDepth 100000 in
theorem posting_AtLeast.calls (k : Nat) (a0 : Int) (A1 : Option Addr) (c1 : Nat) (l1 : List (List Int)) (r : List Int) (w : World) (hr1 : Kd.C (Kd.slice 3 (Kd.int .i64)) w A1 l1.length l1) (hc1 : l1.length ≤ c1) (h : posting_AtLeast.f k a0 l1 = some r) :
  Calls Try.prog 20 #[.int .i64 a0,.slice A1 l1.length c1] w fun e w' => ∃ v0_ : Value,e = .returned (v0_) ∧ Kd.R (Kd.int .i64) 3 w' w.heap.size (fun _ => True) v0_ r ∧ Below w.heap.size w w' := by
 have HR1 := Aside0.mk hr1
 have HC1 := Aside0.mk hc1
 clear hr1 hc1
 have HB := Aside0.mk (Below.refl w.heap.size w)
 have H : (posting_AtLeast.l0 k a0 ([] : List Int) l1 (l1.length : Int) 0) = some r := h
 clear h
 have H' := Aside0.mk H
 clear H
 go_enter Try.func20,Try.ntmps20
 go_wp2
 repeat (go_quiet (fail);try go_wp2)
 go_loopg [5,13] k (fun kq v5 v13 w' => ∃ (x5_1 : List Int) (x13_1 : Int),v13 = .int .i64 x13_1 ∧ Aside0 (posting_AtLeast.l0 kq a0 x5_1 l1 (l1.length : Int) x13_1 = some r) ∧ Aside0 (kq ≤ k) ∧ Aside0 (Kd.R (Kd.int .i64) 3 w' w.heap.size (fun _ => True) v5 x5_1) ∧ Aside0 (Below w.heap.size w w'))
 case atStart => exact ⟨(([] : List Int)),(0),(by first|rfl|(simp;done)|(simp [*];done)),H',⟨Nat.le_refl _⟩,⟨by first|exact Kd.R_nil _ _ _ _ _|exact Kd.N_nil _ _ _ _ _|exact Kd.V_nil _ _ _ _ _|exact Kd.Q_nil _ _ _ _ _|exact Kd.S_nil _ _ _ _ _⟩,⟨bM HB.out⟩⟩
 case round =>
  clear H'
  try clear c1
  try clear c2
  try clear p2
  obtain ⟨x5_1,x13_1,rfl,HA,HK1,HO_5,HB⟩ := hrel
  cases gk with
 |zero => exact absurd HA.out (by simp [posting_AtLeast.l0])
 |succ k1 =>
   have H := HA.out
   clear HA
   simp only [posting_AtLeast.l0] at H
   by_cases c3 : x13_1 < (l1.length : Int)
   ·rw [if_pos c3] at H
    have c3b0 : decide (x13_1 < (l1.length : Int)) = true := decide_eq_true c3
    clear c3
    by_cases c4 : 0 ≤ x13_1
    ·rw [if_pos c4] at H
     have c4b0 : decide (0 ≤ x13_1) = true := decide_eq_true c4
     clear c4
     by_cases c5 : x13_1 < (l1.length : Int)
     ·rw [if_pos c5] at H
      have c5b0 : decide (x13_1 < (l1.length : Int)) = true := decide_eq_true c5
      clear c5
      replace H := Option.bind_eq_some_iff.mp H
      obtain ⟨t129,A60,H⟩ := H
      replace H : (if x5_1.length + t129.length < 17592186044416 then (posting_AtLeast.l0 k1 a0 (x5_1 ++ t129) l1 (l1.length : Int) (wrap64 (x13_1 + 1))) else (none)) = some r := H
      have A6 := Aside0.mk A60
      clear A60
      by_cases c7 : x5_1.length + t129.length < 17592186044416
      ·rw [if_pos c7] at H
       have LMc7 := Aside0.mk c7
       clear c7
       obtain ⟨y132,hy132⟩ : ∃ y_ : List Int,y_ = (x5_1 ++ t129) := ⟨_,rfl⟩
       replace H : (posting_AtLeast.l0 k1 a0 y132 l1 (l1.length : Int) (wrap64 (x13_1 + 1))) = some r := by first|(rw [hy132];with_reducible exact H)|(have H2_ := (Option.bind_some _ _).symm.trans H;rw [hy132];with_reducible exact H2_)|(have H2_ := (Option.bind_some _ _).symm.trans H;with_reducible exact H2_)|with_reducible exact H|(rw [hy132];exact H)|exact H
       have Ny132 := Aside0.mk hy132
       clear hy132
       have H' := Aside0.mk H
       clear H
       have p128 : 0 ≤ (x13_1 : Int) := of_decide_eq_true (by first|(with_reducible assumption)|assumption)
       have q128 : x13_1 < (l1.length : Int) := of_decide_eq_true (by first|(with_reducible assumption)|assumption)
       obtain ⟨ad128,A128_0,c128_0,e128,hx128_0,hl128_0,hi128_0⟩ := at_L1 HR1.out x13_1 p128 q128
       cases e128
       replace hx128_0 := (HB.out.cell (World.block_lt_of_cell? w _ hx128_0)).trans hx128_0
       have HR128_0 := Aside0.mk hi128_0
       have HC128_0 := Aside0.mk hl128_0
       clear hi128_0 hl128_0
       replace p128 := eq_true p128
       replace q128 := eq_true q128
       go_wp2_with (first|(go_at_call 34;(with_reducible refine (posting_unique_int.calls _ _ (rd_L1 l1 x13_1) t129 _ ?side1 ?side2 A6.out).mono ?_);(case side1 => exact cM (Kd.C_below HR128_0.out HB.out));(case side2 => exact HC128_0.out);rintro e w8 ⟨v130,rfl,ho0,hb⟩;have n0_ := Aside0.mk (Kd.R_elder' (rM HO_5.out) (Kd.R_base ho0) hb);have n1_ := Aside0.mk (Kd.R_lower (Kd.R_new' ho0 (Kd.R_lt (rM HO_5.out))) (below_size (bM HB.out)));have n2_ := Aside0.mk (below_step (bM HB.out) hb);clear HO_5;clear HB;have HO_5 := n0_;have HO131 := n1_;have HB := n2_;clear n0_ n1_ n2_;(try clear hb);(try clear hb2);(try clear hk);(try clear hi);(try clear ho0);obtain ⟨Ao10,co10,eo10⟩ := Kd.R_slice HO131.out;subst eo10)|((with_reducible refine gate_builtin (b := .append) (xs := #[.tmp 17,.tmp 19]) rfl ?_);at_builtin;refine Kd.R_append_rows (Kd.int .i64) (w0 := w) w.heap.size rfl (.tmp 17) (.tmp 19) 22 3 (.int .i64 0) 8 rfl Try.underlying22 info3 rfl (by decide) (by omega) u5 x5_1 t129 _ _ _ (fun k_ => some k_ ≠ (.slice Ao10 t129.length co10 : Value).ownBlock) (fun _ => False) rfl rfl ?aO ?aR (fun _ _ h => h) (fun _ h => h.elim) ?aF ?aB ?aS ?aL ?_;(case aR => exact cM (Kd.R_reads' HO131.out).2.2);(case aB => exact (bM HB.out));(case aF => exact (fun k_ hk => Kd.fresh' (Kd.R_lt (rM HO131.out)) k_ hk));(case aO => exact (by (with_reducible repeat (first|apply Kd.R_alloc|apply Kd.R_drewN|apply Kd.R_drew));exact Kd.R_mono HO_5.out (fun _ hk => hk.2)));(case aS => exact (below_size (bM HB.out)));(case aL => have := LMc7.out;omega);intro v133 w9 ho hb hg hat;rw [← Ny132.out] at ho;have n0_ := Aside0.mk (Kd.R_after (ok := (fun _ => True)) (rM HO131.out) hg hat);have n1_ := Aside0.mk (hb);have n2_ := Aside0.mk (ho);clear HO131;clear HB;clear HO_5;have HO131 := n0_;have HB := n1_;have HO134 := n2_;clear n0_ n1_ n2_;clear ho hb hg hat))
       repeat (go_quiet (first|(go_at_call 34;(with_reducible refine (posting_unique_int.calls _ _ (rd_L1 l1 x13_1) t129 _ ?side1 ?side2 A6.out).mono ?_);(case side1 => exact cM (Kd.C_below HR128_0.out HB.out));(case side2 => exact HC128_0.out);rintro e w8 ⟨v130,rfl,ho0,hb⟩;have n0_ := Aside0.mk (Kd.R_elder' (rM HO_5.out) (Kd.R_base ho0) hb);have n1_ := Aside0.mk (Kd.R_lower (Kd.R_new' ho0 (Kd.R_lt (rM HO_5.out))) (below_size (bM HB.out)));have n2_ := Aside0.mk (below_step (bM HB.out) hb);clear HO_5;clear HB;have HO_5 := n0_;have HO131 := n1_;have HB := n2_;clear n0_ n1_ n2_;(try clear hb);(try clear hb2);(try clear hk);(try clear hi);(try clear ho0);obtain ⟨Ao10,co10,eo10⟩ := Kd.R_slice HO131.out;subst eo10)|((with_reducible refine gate_builtin (b := .append) (xs := #[.tmp 17,.tmp 19]) rfl ?_);at_builtin;refine Kd.R_append_rows (Kd.int .i64) (w0 := w) w.heap.size rfl (.tmp 17) (.tmp 19) 22 3 (.int .i64 0) 8 rfl Try.underlying22 info3 rfl (by decide) (by omega) u5 x5_1 t129 _ _ _ (fun k_ => some k_ ≠ (.slice Ao10 t129.length co10 : Value).ownBlock) (fun _ => False) rfl rfl ?aO ?aR (fun _ _ h => h) (fun _ h => h.elim) ?aF ?aB ?aS ?aL ?_;(case aR => exact cM (Kd.R_reads' HO131.out).2.2);(case aB => exact (bM HB.out));(case aF => exact (fun k_ hk => Kd.fresh' (Kd.R_lt (rM HO131.out)) k_ hk));(case aO => exact (by (with_reducible repeat (first|apply Kd.R_alloc|apply Kd.R_drewN|apply Kd.R_drew));exact Kd.R_mono HO_5.out (fun _ hk => hk.2)));(case aS => exact (below_size (bM HB.out)));(case aL => have := LMc7.out;omega);intro v133 w9 ho hb hg hat;rw [← Ny132.out] at ho;have n0_ := Aside0.mk (Kd.R_after (ok := (fun _ => True)) (rM HO131.out) hg hat);have n1_ := Aside0.mk (hb);have n2_ := Aside0.mk (ho);clear HO131;clear HB;clear HO_5;have HO131 := n0_;have HB := n1_;have HO134 := n2_;clear n0_ n1_ n2_;clear ho hb hg hat));try go_wp2_with (first|(go_at_call 34;(with_reducible refine (posting_unique_int.calls _ _ (rd_L1 l1 x13_1) t129 _ ?side1 ?side2 A6.out).mono ?_);(case side1 => exact cM (Kd.C_below HR128_0.out HB.out));(case side2 => exact HC128_0.out);rintro e w8 ⟨v130,rfl,ho0,hb⟩;have n0_ := Aside0.mk (Kd.R_elder' (rM HO_5.out) (Kd.R_base ho0) hb);have n1_ := Aside0.mk (Kd.R_lower (Kd.R_new' ho0 (Kd.R_lt (rM HO_5.out))) (below_size (bM HB.out)));have n2_ := Aside0.mk (below_step (bM HB.out) hb);clear HO_5;clear HB;have HO_5 := n0_;have HO131 := n1_;have HB := n2_;clear n0_ n1_ n2_;(try clear hb);(try clear hb2);(try clear hk);(try clear hi);(try clear ho0);obtain ⟨Ao10,co10,eo10⟩ := Kd.R_slice HO131.out;subst eo10)|((with_reducible refine gate_builtin (b := .append) (xs := #[.tmp 17,.tmp 19]) rfl ?_);at_builtin;refine Kd.R_append_rows (Kd.int .i64) (w0 := w) w.heap.size rfl (.tmp 17) (.tmp 19) 22 3 (.int .i64 0) 8 rfl Try.underlying22 info3 rfl (by decide) (by omega) u5 x5_1 t129 _ _ _ (fun k_ => some k_ ≠ (.slice Ao10 t129.length co10 : Value).ownBlock) (fun _ => False) rfl rfl ?aO ?aR (fun _ _ h => h) (fun _ h => h.elim) ?aF ?aB ?aS ?aL ?_;(case aR => exact cM (Kd.R_reads' HO131.out).2.2);(case aB => exact (bM HB.out));(case aF => exact (fun k_ hk => Kd.fresh' (Kd.R_lt (rM HO131.out)) k_ hk));(case aO => exact (by (with_reducible repeat (first|apply Kd.R_alloc|apply Kd.R_drewN|apply Kd.R_drew));exact Kd.R_mono HO_5.out (fun _ hk => hk.2)));(case aS => exact (below_size (bM HB.out)));(case aL => have := LMc7.out;omega);intro v133 w9 ho hb hg hat;rw [← Ny132.out] at ho;have n0_ := Aside0.mk (Kd.R_after (ok := (fun _ => True)) (rM HO131.out) hg hat);have n1_ := Aside0.mk (hb);have n2_ := Aside0.mk (ho);clear HO131;clear HB;clear HO_5;have HO131 := n0_;have HB := n1_;have HO134 := n2_;clear n0_ n1_ n2_;clear ho hb hg hat)))
       go_roundg k1
       case measure => have := HK1.out;omega
       case rel => exact ⟨(y132),(wrap64 (x13_1 + 1)),(by first|rfl|(simp;done)|(simp [*];done)),H',⟨by have := HK1.out;omega⟩,⟨rM (Kd.R_mono HO134.out (fun _ hk => trivial))⟩,⟨bM HB.out⟩⟩
      ·rw [if_neg c7] at H
       exact absurd H (by simp)
     ·rw [if_neg c5] at H
      exact absurd H (by simp)
    ·rw [if_neg c4] at H
     exact absurd H (by simp)
   ·rw [if_neg c3] at H
    have c3b0 : decide (x13_1 < (l1.length : Int)) = false := decide_eq_false c3
    clear c3
    replace H := Option.bind_eq_some_iff.mp H
    obtain ⟨t135,A110,H⟩ := H
    replace H : (posting_AtLeast.l1 k1 a0 t135 ([] : List Int) 0) = some r := H
    have A11 := Aside0.mk A110
    clear A110
    have H' := Aside0.mk H
    clear H
    obtain ⟨Ao12,co12,eo12⟩ := Kd.R_slice HO_5.out
    subst eo12
    go_wp2_with (first|(go_at_call 38;refine (slices_Sort_int_int.sorts HO_5.out HB.out A11.out).mono ?_;rintro e w13 ⟨rfl,ho0,hb⟩;generalize Value.slice _ (List.length x5_1) _ = v136 at ho0 ⊢;have n0_ := Aside0.mk ho0;have n1_ := Aside0.mk hb;clear HO_5;clear HB;have HO137 := n0_;have HB := n1_;clear n0_ n1_;clear ho0 hb))
    repeat (go_quiet (first|(go_at_call 38;refine (slices_Sort_int_int.sorts HO_5.out HB.out A11.out).mono ?_;rintro e w13 ⟨rfl,ho0,hb⟩;generalize Value.slice _ (List.length x5_1) _ = v136 at ho0 ⊢;have n0_ := Aside0.mk ho0;have n1_ := Aside0.mk hb;clear HO_5;clear HB;have HO137 := n0_;have HB := n1_;clear n0_ n1_;clear ho0 hb));try go_wp2_with (first|(go_at_call 38;refine (slices_Sort_int_int.sorts HO_5.out HB.out A11.out).mono ?_;rintro e w13 ⟨rfl,ho0,hb⟩;generalize Value.slice _ (List.length x5_1) _ = v136 at ho0 ⊢;have n0_ := Aside0.mk ho0;have n1_ := Aside0.mk hb;clear HO_5;clear HB;have HO137 := n0_;have HB := n1_;clear n0_ n1_;clear ho0 hb)))
    go_loopg [8,9] k1 (fun kq v8 v9 w' => ∃ (x8_2 : List Int) (x9_2 : Int),v9 = .int .i64 x9_2 ∧ Aside0 (posting_AtLeast.l1 kq a0 t135 x8_2 x9_2 = some r) ∧ Aside0 (kq ≤ k1) ∧ Aside0 (Kd.R (Kd.int .i64) 3 w' w.heap.size (fun k_ => some k_ ≠ (v8 : Value).ownBlock) v136 t135) ∧ Aside0 (Kd.R (Kd.int .i64) 3 w' w.heap.size (fun k_ => some k_ ≠ (v136 : Value).ownBlock) v8 x8_2) ∧ Aside0 (Below w.heap.size w w'))
    case atStart => exact ⟨(([] : List Int)),(0),(by first|rfl|(simp;done)|(simp [*];done)),H',⟨Nat.le_refl _⟩,⟨rM (Kd.R_mono HO137.out (fun _ hk => (by simp [Value.ownBlock])))⟩,⟨by first|exact Kd.R_nil _ _ _ _ _|exact Kd.N_nil _ _ _ _ _|exact Kd.V_nil _ _ _ _ _|exact Kd.Q_nil _ _ _ _ _|exact Kd.S_nil _ _ _ _ _⟩,⟨bM HB.out⟩⟩
    case round =>
     clear H'
     try clear c1
     try clear p1
     try clear q1
     try clear hx1
     try clear c2
     try clear p2
     try clear c3
     try clear c3b0
     try clear c4
     try clear c4b0
     try clear c5
     try clear c5b0
     try clear p6
     try clear c7
     try clear c12
     try clear p12
     try clear q12
     try clear hx12
     try clear hx128_0
     try clear p128
     try clear p2
     try clear q128
     obtain ⟨x8_2,x9_2,rfl,HA,HK2,HO_5,HO_8,HB⟩ := hrel
     cases gk with
    |zero => exact absurd HA.out (by simp [posting_AtLeast.l1])
    |succ k2 =>
      have H := HA.out
      clear HA
      simp only [posting_AtLeast.l1] at H
      by_cases c14 : x9_2 < (t135.length : Int)
      ·rw [if_pos c14] at H
       have c14b0 : decide (x9_2 < (t135.length : Int)) = true := decide_eq_true c14
       clear c14
       have H' := Aside0.mk H
       clear H
       obtain ⟨Ao15,co15,eo15⟩ := Kd.R_slice HO_5.out
       subst eo15
       go_wp2
       repeat (go_quiet (fail);try go_wp2)
       go_loopg [10] k2 (fun kq v10 w' => ∃ (x10_3 : Int),v10 = .int .i64 x10_3 ∧ Aside0 (posting_AtLeast.l2 kq a0 t135 x8_2 x9_2 x10_3 = some r) ∧ Aside0 (kq ≤ k2) ∧ Aside0 (Kd.R (Kd.int .i64) 3 w' w.heap.size (fun k_ => some k_ ≠ (u8 : Value).ownBlock) (.slice Ao15 t135.length co15) t135) ∧ Aside0 (Kd.R (Kd.int .i64) 3 w' w.heap.size (fun k_ => some k_ ≠ ((.slice Ao15 t135.length co15) : Value).ownBlock) u8 x8_2) ∧ Aside0 (Below w.heap.size w w'))
       case atStart => exact ⟨(x9_2),(by first|rfl|(simp;done)|(simp [*];done)),H',⟨Nat.le_refl _⟩,⟨rM HO_5.out⟩,⟨rM HO_8.out⟩,⟨bM HB.out⟩⟩
       case round =>
        clear H'
        try clear c1
        try clear p1
        try clear q1
        try clear hx1
        try clear c2
        try clear p2
        try clear c3
        try clear c3b0
        try clear c4
        try clear c4b0
        try clear c5
        try clear c5b0
        try clear p6
        try clear c7
        try clear c12
        try clear p12
        try clear q12
        try clear hx12
        try clear c14
        try clear c14b0
        try clear hx128_0
        try clear p1
        try clear p12
        try clear p128
        try clear p2
        try clear p6
        try clear q1
        try clear q12
        try clear q128
        obtain ⟨x10_3,rfl,HA,HK3,HO_5,HO_8,HB⟩ := hrel
        cases gk with
       |zero => exact absurd HA.out (by simp [posting_AtLeast.l2])
       |succ k3 =>
         have H := HA.out
         clear HA
         simp only [posting_AtLeast.l2] at H
         by_cases c16 : x10_3 < (t135.length : Int)
         ·rw [if_pos c16] at H
          have c16b0 : decide (x10_3 < (t135.length : Int)) = true := decide_eq_true c16
          clear c16
          by_cases c17 : 0 ≤ x10_3
          ·rw [if_pos c17] at H
           have c17b0 : decide (0 ≤ x10_3) = true := decide_eq_true c17
           clear c17
           by_cases c18 : 0 ≤ x9_2
           ·rw [if_pos c18] at H
            have c18b0 : decide (0 ≤ x9_2) = true := decide_eq_true c18
            clear c18
            by_cases c19 : x9_2 < (t135.length : Int)
            ·rw [if_pos c19] at H
             have c19b0 : decide (x9_2 < (t135.length : Int)) = true := decide_eq_true c19
             clear c19
             by_cases c20 : (rd t135 x10_3) = (rd t135 x9_2)
             ·rw [if_pos c20] at H
              have c20b0 : ((rd t135 x10_3) == (rd t135 x9_2)) = true := beq_iff_eq.mpr c20
              have c20b1 : ((rd t135 x10_3) != (rd t135 x9_2)) = false := bne_eq_false_iff_eq.mpr c20
              clear c20
              have H' := Aside0.mk H
              clear H
              have p138 : 0 ≤ (x10_3 : Int) := of_decide_eq_true (by first|(with_reducible assumption)|assumption)
              have q138 : x10_3 < (t135.length : Int) := of_decide_eq_true (by first|(with_reducible assumption)|assumption)
              obtain ⟨ad138,e138,hx138_0⟩ := Kd.at_int (Kd.R_reads' HO_5.out).2.2 x10_3 p138 q138
              cases e138
              replace p138 := eq_true p138
              replace q138 := eq_true q138
              have p139 : 0 ≤ (x9_2 : Int) := of_decide_eq_true (by first|(with_reducible assumption)|assumption)
              have q139 : x9_2 < (t135.length : Int) := of_decide_eq_true (by first|(with_reducible assumption)|assumption)
              obtain ⟨ad139,e139,hx139_0⟩ := Kd.at_int (Kd.R_reads' HO_5.out).2.2 x9_2 p139 q139
              obtain rfl : ad138 = ad139 := (by injection e139)
              replace p139 := eq_true p139
              replace q139 := eq_true q139
              go_wp2
              repeat (go_quiet (fail);try go_wp2)
              go_roundg k3
              case measure => have := HK1.out;have := HK2.out;have := HK3.out;omega
              case rel => exact ⟨(wrap64 (x10_3 + 1)),(by first|rfl|(simp;done)|(simp [*];done)),H',⟨by have := HK1.out;have := HK2.out;have := HK3.out;omega⟩,⟨rM HO_5.out⟩,⟨rM HO_8.out⟩,⟨bM HB.out⟩⟩
             ·rw [if_neg c20] at H
              have c20b0 : ((rd t135 x10_3) == (rd t135 x9_2)) = false := beq_eq_false_iff_ne.mpr c20
              have c20b1 : ((rd t135 x10_3) != (rd t135 x9_2)) = true := bne_iff_ne.mpr c20
              by_cases c21 : (wrap64 (x10_3 - x9_2)) ≥ a0
              ·rw [if_pos c21] at H
               have c21b0 : decide (a0 ≤ (wrap64 (x10_3 - x9_2))) = true := decide_eq_true c21
               clear c21
               by_cases c22 : x8_2.length < 17592186044416
               ·rw [if_pos c22] at H
                have LMc22 := Aside0.mk c22
                clear c22
                obtain ⟨y141,hy141⟩ : ∃ y_ : List Int,y_ = (x8_2 ++ [rd t135 x9_2]) := ⟨_,rfl⟩
                replace H : (posting_AtLeast.l1 k3 a0 t135 y141 x10_3) = some r := by first|(rw [hy141];with_reducible exact H)|(have H2_ := (Option.bind_some _ _).symm.trans H;rw [hy141];with_reducible exact H2_)|(have H2_ := (Option.bind_some _ _).symm.trans H;with_reducible exact H2_)|with_reducible exact H|(rw [hy141];exact H)|exact H
                have Ny141 := Aside0.mk hy141
                clear hy141
                have H' := Aside0.mk H
                clear H
                have p138 : 0 ≤ (x10_3 : Int) := of_decide_eq_true (by first|(with_reducible assumption)|assumption)
                have q138 : x10_3 < (t135.length : Int) := of_decide_eq_true (by first|(with_reducible assumption)|assumption)
                obtain ⟨ad138,e138,hx138_0⟩ := Kd.at_int (Kd.R_reads' HO_5.out).2.2 x10_3 p138 q138
                cases e138
                replace p138 := eq_true p138
                replace q138 := eq_true q138
                have p139 : 0 ≤ (x9_2 : Int) := of_decide_eq_true (by first|(with_reducible assumption)|assumption)
                have q139 : x9_2 < (t135.length : Int) := of_decide_eq_true (by first|(with_reducible assumption)|assumption)
                obtain ⟨ad139,e139,hx139_0⟩ := Kd.at_int (Kd.R_reads' HO_5.out).2.2 x9_2 p139 q139
                obtain rfl : ad138 = ad139 := (by injection e139)
                replace p139 := eq_true p139
                replace q139 := eq_true q139
                have p140 : 0 ≤ (x9_2 : Int) := of_decide_eq_true (by first|(with_reducible assumption)|assumption)
                have q140 : x9_2 < (t135.length : Int) := of_decide_eq_true (by first|(with_reducible assumption)|assumption)
                obtain ⟨ad140,e140,hx140_0⟩ := Kd.at_int (Kd.R_reads' HO_5.out).2.2 x9_2 p140 q140
                obtain rfl : ad138 = ad140 := (by injection e140)
                replace p140 := eq_true p140
                replace q140 := eq_true q140
                go_wp2_with (first|((with_reducible refine gate_builtin (b := .append) (xs := #[.tmp 51,.tmp 56]) rfl ?_);at_builtin;refine Kd.R_append (Kd.int .i64) (w0 := w) w.heap.size rfl (.tmp 51) (.tmp 56) 22 3 (.int .i64 0) 8 rfl Try.underlying22 info3 rfl (by decide) (by omega) u8 x8_2 (rd t135 x9_2) [.int .i64 (rd t135 x9_2)] (fun k_ => some k_ ≠ (.slice (some ad138) t135.length co15 : Value).ownBlock) (fun _ => False) rfl rfl ?aP (fun _ hk => hk.elim) ?aF ?aO ?aB ?aS ?aL ?_;(case aP => exact rfl);(case aB => exact (bM HB.out));(case aF => exact (fun k_ hk => Kd.fresh' (Kd.R_lt (rM HO_5.out)) k_ hk));(case aO => exact (rM HO_8.out));(case aS => exact (below_size (bM HB.out)));(case aL => have := LMc22.out;omega);intro v142 w23 ho hb hg hat;rw [← Ny141.out] at ho;have n0_ := Aside0.mk (Kd.R_after (ok := (fun _ => True)) (by (with_reducible repeat (first|apply Kd.R_alloc|apply Kd.R_drewN|apply Kd.R_drew));exact Kd.R_mono HO_5.out (fun _ hk => ⟨trivial,hk⟩)) hg hat);have n1_ := Aside0.mk (hb);have n2_ := Aside0.mk (ho);clear HO_5;clear HB;clear HO_8;have HO_5 := n0_;have HB := n1_;have HO143 := n2_;clear n0_ n1_ n2_;clear ho hb hg hat))
                repeat (go_quiet (first|((with_reducible refine gate_builtin (b := .append) (xs := #[.tmp 51,.tmp 56]) rfl ?_);at_builtin;refine Kd.R_append (Kd.int .i64) (w0 := w) w.heap.size rfl (.tmp 51) (.tmp 56) 22 3 (.int .i64 0) 8 rfl Try.underlying22 info3 rfl (by decide) (by omega) u8 x8_2 (rd t135 x9_2) [.int .i64 (rd t135 x9_2)] (fun k_ => some k_ ≠ (.slice (some ad138) t135.length co15 : Value).ownBlock) (fun _ => False) rfl rfl ?aP (fun _ hk => hk.elim) ?aF ?aO ?aB ?aS ?aL ?_;(case aP => exact rfl);(case aB => exact (bM HB.out));(case aF => exact (fun k_ hk => Kd.fresh' (Kd.R_lt (rM HO_5.out)) k_ hk));(case aO => exact (rM HO_8.out));(case aS => exact (below_size (bM HB.out)));(case aL => have := LMc22.out;omega);intro v142 w23 ho hb hg hat;rw [← Ny141.out] at ho;have n0_ := Aside0.mk (Kd.R_after (ok := (fun _ => True)) (by (with_reducible repeat (first|apply Kd.R_alloc|apply Kd.R_drewN|apply Kd.R_drew));exact Kd.R_mono HO_5.out (fun _ hk => ⟨trivial,hk⟩)) hg hat);have n1_ := Aside0.mk (hb);have n2_ := Aside0.mk (ho);clear HO_5;clear HB;clear HO_8;have HO_5 := n0_;have HB := n1_;have HO143 := n2_;clear n0_ n1_ n2_;clear ho hb hg hat));try go_wp2_with (first|((with_reducible refine gate_builtin (b := .append) (xs := #[.tmp 51,.tmp 56]) rfl ?_);at_builtin;refine Kd.R_append (Kd.int .i64) (w0 := w) w.heap.size rfl (.tmp 51) (.tmp 56) 22 3 (.int .i64 0) 8 rfl Try.underlying22 info3 rfl (by decide) (by omega) u8 x8_2 (rd t135 x9_2) [.int .i64 (rd t135 x9_2)] (fun k_ => some k_ ≠ (.slice (some ad138) t135.length co15 : Value).ownBlock) (fun _ => False) rfl rfl ?aP (fun _ hk => hk.elim) ?aF ?aO ?aB ?aS ?aL ?_;(case aP => exact rfl);(case aB => exact (bM HB.out));(case aF => exact (fun k_ hk => Kd.fresh' (Kd.R_lt (rM HO_5.out)) k_ hk));(case aO => exact (rM HO_8.out));(case aS => exact (below_size (bM HB.out)));(case aL => have := LMc22.out;omega);intro v142 w23 ho hb hg hat;rw [← Ny141.out] at ho;have n0_ := Aside0.mk (Kd.R_after (ok := (fun _ => True)) (by (with_reducible repeat (first|apply Kd.R_alloc|apply Kd.R_drewN|apply Kd.R_drew));exact Kd.R_mono HO_5.out (fun _ hk => ⟨trivial,hk⟩)) hg hat);have n1_ := Aside0.mk (hb);have n2_ := Aside0.mk (ho);clear HO_5;clear HB;clear HO_8;have HO_5 := n0_;have HB := n1_;have HO143 := n2_;clear n0_ n1_ n2_;clear ho hb hg hat)))
                go_roundg k3
                case measure => have := HK1.out;have := HK2.out;have := HK3.out;omega
                case rel => exact ⟨(y141),(x10_3),(by first|rfl|(simp;done)|(simp [*];done)),H',⟨by have := HK1.out;have := HK2.out;have := HK3.out;omega⟩,⟨by (with_reducible repeat (first|apply Kd.R_alloc|apply Kd.R_drewN|apply Kd.R_drew));exact Kd.R_mono HO_5.out (fun _ hk => hk.2)⟩,⟨rM HO143.out⟩,⟨bM HB.out⟩⟩
               ·rw [if_neg c22] at H
                exact absurd H (by simp)
              ·rw [if_neg c21] at H
               have c21b0 : decide (a0 ≤ (wrap64 (x10_3 - x9_2))) = false := decide_eq_false c21
               clear c21
               have H' := Aside0.mk H
               clear H
               have p138 : 0 ≤ (x10_3 : Int) := of_decide_eq_true (by first|(with_reducible assumption)|assumption)
               have q138 : x10_3 < (t135.length : Int) := of_decide_eq_true (by first|(with_reducible assumption)|assumption)
               obtain ⟨ad138,e138,hx138_0⟩ := Kd.at_int (Kd.R_reads' HO_5.out).2.2 x10_3 p138 q138
               cases e138
               replace p138 := eq_true p138
               replace q138 := eq_true q138
               have p139 : 0 ≤ (x9_2 : Int) := of_decide_eq_true (by first|(with_reducible assumption)|assumption)
               have q139 : x9_2 < (t135.length : Int) := of_decide_eq_true (by first|(with_reducible assumption)|assumption)
               obtain ⟨ad139,e139,hx139_0⟩ := Kd.at_int (Kd.R_reads' HO_5.out).2.2 x9_2 p139 q139
               obtain rfl : ad138 = ad139 := (by injection e139)
               replace p139 := eq_true p139
               replace q139 := eq_true q139
               go_wp2
               repeat (go_quiet (fail);try go_wp2)
               go_roundg k3
               case measure => have := HK1.out;have := HK2.out;have := HK3.out;omega
               case rel => exact ⟨(x8_2),(x10_3),(by first|rfl|(simp;done)|(simp [*];done)),H',⟨by have := HK1.out;have := HK2.out;have := HK3.out;omega⟩,⟨rM HO_5.out⟩,⟨rM HO_8.out⟩,⟨bM HB.out⟩⟩
            ·rw [if_neg c19] at H
             exact absurd H (by simp)
           ·rw [if_neg c18] at H
            exact absurd H (by simp)
          ·rw [if_neg c17] at H
           exact absurd H (by simp)
         ·rw [if_neg c16] at H
          have c16b0 : decide (x10_3 < (t135.length : Int)) = false := decide_eq_false c16
          clear c16
          by_cases c24 : (wrap64 (x10_3 - x9_2)) ≥ a0
          ·rw [if_pos c24] at H
           have c24b0 : decide (a0 ≤ (wrap64 (x10_3 - x9_2))) = true := decide_eq_true c24
           clear c24
           by_cases c25 : 0 ≤ x9_2
           ·rw [if_pos c25] at H
            have c25b0 : decide (0 ≤ x9_2) = true := decide_eq_true c25
            clear c25
            by_cases c26 : x9_2 < (t135.length : Int)
            ·rw [if_pos c26] at H
             have c26b0 : decide (x9_2 < (t135.length : Int)) = true := decide_eq_true c26
             clear c26
             by_cases c27 : x8_2.length < 17592186044416
             ·rw [if_pos c27] at H
              have LMc27 := Aside0.mk c27
              clear c27
              obtain ⟨y145,hy145⟩ : ∃ y_ : List Int,y_ = (x8_2 ++ [rd t135 x9_2]) := ⟨_,rfl⟩
              replace H : (posting_AtLeast.l1 k3 a0 t135 y145 x10_3) = some r := by first|(rw [hy145];with_reducible exact H)|(have H2_ := (Option.bind_some _ _).symm.trans H;rw [hy145];with_reducible exact H2_)|(have H2_ := (Option.bind_some _ _).symm.trans H;with_reducible exact H2_)|with_reducible exact H|(rw [hy145];exact H)|exact H
              have Ny145 := Aside0.mk hy145
              clear hy145
              have H' := Aside0.mk H
              clear H
              have p144 : 0 ≤ (x9_2 : Int) := of_decide_eq_true (by first|(with_reducible assumption)|assumption)
              have q144 : x9_2 < (t135.length : Int) := of_decide_eq_true (by first|(with_reducible assumption)|assumption)
              obtain ⟨ad144,e144,hx144_0⟩ := Kd.at_int (Kd.R_reads' HO_5.out).2.2 x9_2 p144 q144
              cases e144
              replace p144 := eq_true p144
              replace q144 := eq_true q144
              go_wp2_with (first|((with_reducible refine gate_builtin (b := .append) (xs := #[.tmp 51,.tmp 56]) rfl ?_);at_builtin;refine Kd.R_append (Kd.int .i64) (w0 := w) w.heap.size rfl (.tmp 51) (.tmp 56) 22 3 (.int .i64 0) 8 rfl Try.underlying22 info3 rfl (by decide) (by omega) u8 x8_2 (rd t135 x9_2) [.int .i64 (rd t135 x9_2)] (fun k_ => some k_ ≠ (.slice (some ad144) t135.length co15 : Value).ownBlock) (fun _ => False) rfl rfl ?aP (fun _ hk => hk.elim) ?aF ?aO ?aB ?aS ?aL ?_;(case aP => exact rfl);(case aB => exact (bM HB.out));(case aF => exact (fun k_ hk => Kd.fresh' (Kd.R_lt (rM HO_5.out)) k_ hk));(case aO => exact (rM HO_8.out));(case aS => exact (below_size (bM HB.out)));(case aL => have := LMc27.out;omega);intro v146 w28 ho hb hg hat;rw [← Ny145.out] at ho;have n0_ := Aside0.mk (Kd.R_after (ok := (fun _ => True)) (by (with_reducible repeat (first|apply Kd.R_alloc|apply Kd.R_drewN|apply Kd.R_drew));exact Kd.R_mono HO_5.out (fun _ hk => ⟨trivial,hk⟩)) hg hat);have n1_ := Aside0.mk (hb);have n2_ := Aside0.mk (ho);clear HO_5;clear HB;clear HO_8;have HO_5 := n0_;have HB := n1_;have HO147 := n2_;clear n0_ n1_ n2_;clear ho hb hg hat))
              repeat (go_quiet (first|((with_reducible refine gate_builtin (b := .append) (xs := #[.tmp 51,.tmp 56]) rfl ?_);at_builtin;refine Kd.R_append (Kd.int .i64) (w0 := w) w.heap.size rfl (.tmp 51) (.tmp 56) 22 3 (.int .i64 0) 8 rfl Try.underlying22 info3 rfl (by decide) (by omega) u8 x8_2 (rd t135 x9_2) [.int .i64 (rd t135 x9_2)] (fun k_ => some k_ ≠ (.slice (some ad144) t135.length co15 : Value).ownBlock) (fun _ => False) rfl rfl ?aP (fun _ hk => hk.elim) ?aF ?aO ?aB ?aS ?aL ?_;(case aP => exact rfl);(case aB => exact (bM HB.out));(case aF => exact (fun k_ hk => Kd.fresh' (Kd.R_lt (rM HO_5.out)) k_ hk));(case aO => exact (rM HO_8.out));(case aS => exact (below_size (bM HB.out)));(case aL => have := LMc27.out;omega);intro v146 w28 ho hb hg hat;rw [← Ny145.out] at ho;have n0_ := Aside0.mk (Kd.R_after (ok := (fun _ => True)) (by (with_reducible repeat (first|apply Kd.R_alloc|apply Kd.R_drewN|apply Kd.R_drew));exact Kd.R_mono HO_5.out (fun _ hk => ⟨trivial,hk⟩)) hg hat);have n1_ := Aside0.mk (hb);have n2_ := Aside0.mk (ho);clear HO_5;clear HB;clear HO_8;have HO_5 := n0_;have HB := n1_;have HO147 := n2_;clear n0_ n1_ n2_;clear ho hb hg hat));try go_wp2_with (first|((with_reducible refine gate_builtin (b := .append) (xs := #[.tmp 51,.tmp 56]) rfl ?_);at_builtin;refine Kd.R_append (Kd.int .i64) (w0 := w) w.heap.size rfl (.tmp 51) (.tmp 56) 22 3 (.int .i64 0) 8 rfl Try.underlying22 info3 rfl (by decide) (by omega) u8 x8_2 (rd t135 x9_2) [.int .i64 (rd t135 x9_2)] (fun k_ => some k_ ≠ (.slice (some ad144) t135.length co15 : Value).ownBlock) (fun _ => False) rfl rfl ?aP (fun _ hk => hk.elim) ?aF ?aO ?aB ?aS ?aL ?_;(case aP => exact rfl);(case aB => exact (bM HB.out));(case aF => exact (fun k_ hk => Kd.fresh' (Kd.R_lt (rM HO_5.out)) k_ hk));(case aO => exact (rM HO_8.out));(case aS => exact (below_size (bM HB.out)));(case aL => have := LMc27.out;omega);intro v146 w28 ho hb hg hat;rw [← Ny145.out] at ho;have n0_ := Aside0.mk (Kd.R_after (ok := (fun _ => True)) (by (with_reducible repeat (first|apply Kd.R_alloc|apply Kd.R_drewN|apply Kd.R_drew));exact Kd.R_mono HO_5.out (fun _ hk => ⟨trivial,hk⟩)) hg hat);have n1_ := Aside0.mk (hb);have n2_ := Aside0.mk (ho);clear HO_5;clear HB;clear HO_8;have HO_5 := n0_;have HB := n1_;have HO147 := n2_;clear n0_ n1_ n2_;clear ho hb hg hat)))
              go_roundg k3
              case measure => have := HK1.out;have := HK2.out;have := HK3.out;omega
              case rel => exact ⟨(y145),(x10_3),(by first|rfl|(simp;done)|(simp [*];done)),H',⟨by have := HK1.out;have := HK2.out;have := HK3.out;omega⟩,⟨by (with_reducible repeat (first|apply Kd.R_alloc|apply Kd.R_drewN|apply Kd.R_drew));exact Kd.R_mono HO_5.out (fun _ hk => hk.2)⟩,⟨rM HO147.out⟩,⟨bM HB.out⟩⟩
             ·rw [if_neg c27] at H
              exact absurd H (by simp)
            ·rw [if_neg c26] at H
             exact absurd H (by simp)
           ·rw [if_neg c25] at H
            exact absurd H (by simp)
          ·rw [if_neg c24] at H
           have c24b0 : decide (a0 ≤ (wrap64 (x10_3 - x9_2))) = false := decide_eq_false c24
           clear c24
           have H' := Aside0.mk H
           clear H
           go_wp2
           repeat (go_quiet (fail);try go_wp2)
           go_roundg k3
           case measure => have := HK1.out;have := HK2.out;have := HK3.out;omega
           case rel => exact ⟨(x8_2),(x10_3),(by first|rfl|(simp;done)|(simp [*];done)),H',⟨by have := HK1.out;have := HK2.out;have := HK3.out;omega⟩,⟨rM HO_5.out⟩,⟨rM HO_8.out⟩,⟨bM HB.out⟩⟩
      ·rw [if_neg c14] at H
       have c14b0 : decide (x9_2 < (t135.length : Int)) = false := decide_eq_false c14
       clear c14
       obtain rfl := Option.some.inj H
       obtain ⟨Ao29,co29,eo29⟩ := Kd.R_slice HO_5.out
       subst eo29
       go_wp2
       repeat (go_quiet (fail);try go_wp2)
       go_ret
       exact ⟨_,by first|rfl|(simp [errW_none,errW_some] <;> rfl)|(simp [*,errW_none,errW_some] <;> rfl),rM (Kd.R_mono HO_8.out (fun _ hk => trivial)),bM HB.out⟩

/-! ### posting_Valid: function 11 -/
def posting_Valid.l0 : Nat → List Int → List Int → Int → Int → Option (Bool)
|0,_,_,_,_ => none
|k + 1,x0,x5,x6,x7 => if x7 < x6 then (if 0 ≤ x7 then (if x7 < (x5.length : Int) then (if (rd x5 x7) < 0 then (some false) else (if (rd x5 x7) > 9999 then (some false) else (if x7 > 0 then (if 0 ≤ (wrap64 (x7 - 1)) then (if (wrap64 (x7 - 1)) < (x0.length : Int) then (if (rd x5 x7) ≤ (rd x0 (wrap64 (x7 - 1))) then (some false) else (posting_Valid.l0 k x0 x5 x6 (wrap64 (x7 + 1)))) else (none)) else (none)) else (posting_Valid.l0 k x0 x5 x6 (wrap64 (x7 + 1)))))) else (none)) else (none)) else (some true)
def posting_Valid.f (k : Nat) (l0 : List Int) : Option (Bool) := posting_Valid.l0 k l0 l0 (l0.length : Int) 0
theorem posting_Valid.mono_l : ∀ k, (∀ y0 y1 y2 y3, LeO (posting_Valid.l0 k y0 y1 y2 y3) (posting_Valid.l0 (k + 1) y0 y1 y2 y3))
|0 => fun _ _ _ _ r h => by simp [posting_Valid.l0] at h
|k + 1 => by
  have ih0 := posting_Valid.mono_l k
  ·intro y0 y1 y2 y3
   unfold posting_Valid.l0
   repeat' first
  |(with_reducible exact ih0 _ _ _ _)
  |(with_reducible exact LeO.refl _)
  |(with_reducible exact LeO.none _)
  |(with_reducible refine LeO.ite ?_ ?_)
  |(with_reducible refine LeO.bind ?_ (fun _ => ?_))
  |exact ih0 _ _ _ _
  |exact LeO.none _
  |refine LeO.ite ?_ ?_
  |refine LeO.bind ?_ (fun _ => ?_)
theorem posting_Valid.mono : ∀ a0 k, LeO (posting_Valid.f k a0) (posting_Valid.f (k + 1) a0) := by
 intro a0 k
 have ih0 := posting_Valid.mono_l k
 unfold posting_Valid.f
 repeat' first
  |(with_reducible exact ih0 _ _ _ _)
  |(with_reducible exact LeO.refl _)
  |(with_reducible exact LeO.none _)
  |(with_reducible refine LeO.ite ?_ ?_)
  |(with_reducible refine LeO.bind ?_ (fun _ => ?_))
  |exact ih0 _ _ _ _
  |exact LeO.none _
  |refine LeO.ite ?_ ?_
  |refine LeO.bind ?_ (fun _ => ?_)
set_option maxHeartbeats 4000000 in
set_option maxRecDepth 100000 in
theorem posting_Valid.calls (k : Nat) (A0 : Option Addr) (c0 : Nat) (l0 : List Int) (r : Bool) (w : World) (hr0 : Kd.C (Kd.int .i64) w A0 l0.length l0) (hc0 : l0.length ≤ c0) (h : posting_Valid.f k l0 = some r) :
  Calls Try.prog 11 #[.slice A0 l0.length c0] w fun e w' => e = .returned (.bool r) ∧ Drawn0 w w' := by
 have HR0 := Aside0.mk hr0
 have HC0 := Aside0.mk hc0
 clear hr0 hc0
 have H : (posting_Valid.l0 k l0 l0 (l0.length : Int) 0) = some r := h
 clear h
 have H' := Aside0.mk H
 clear H
 go_enter Try.func11,Try.ntmps11
 go_wp2
 go_loopg [7] k (fun kq v7 w' => ∃ (x7_1 : Int),v7 = .int .i64 x7_1 ∧ Aside0 (posting_Valid.l0 kq l0 l0 (l0.length : Int) x7_1 = some r) ∧ Aside0 (kq ≤ k) ∧ Drawn0 w w')
 case atStart => exact ⟨(0),(by first|rfl|(simp;done)|(simp [*];done)),H',⟨Nat.le_refl _⟩,by repeat (first|exact Drawn0.refl _|apply Drawn0.step)⟩
 case round =>
  clear H'
  try clear c1
  obtain ⟨x7_1,rfl,HA,HK1,⟨m1,rfl⟩⟩ := hrel
  cases gk with
 |zero => exact absurd HA.out (by simp [posting_Valid.l0])
 |succ k1 =>
   have H := HA.out
   clear HA
   simp only [posting_Valid.l0] at H
   by_cases c2 : x7_1 < (l0.length : Int)
   ·rw [if_pos c2] at H
    have c2b0 : decide (x7_1 < (l0.length : Int)) = true := decide_eq_true c2
    clear c2
    by_cases c3 : 0 ≤ x7_1
    ·rw [if_pos c3] at H
     have c3b0 : decide (0 ≤ x7_1) = true := decide_eq_true c3
     clear c3
     by_cases c4 : x7_1 < (l0.length : Int)
     ·rw [if_pos c4] at H
      have c4b0 : decide (x7_1 < (l0.length : Int)) = true := decide_eq_true c4
      clear c4
      by_cases c5 : (rd l0 x7_1) < 0
      ·rw [if_pos c5] at H
       have c5b0 : decide ((rd l0 x7_1) < 0) = true := decide_eq_true c5
       clear c5
       obtain rfl := Option.some.inj H
       have p148 : 0 ≤ (x7_1 : Int) := of_decide_eq_true (by first|(with_reducible assumption)|assumption)
       have q148 : x7_1 < (l0.length : Int) := of_decide_eq_true (by first|(with_reducible assumption)|assumption)
       obtain ⟨ad148,e148,hx148_0⟩ := Kd.at_int HR0.out x7_1 p148 q148
       cases e148
       replace p148 := eq_true p148
       replace q148 := eq_true q148
       go_wp2
       go_ret
       exact ⟨by first|rfl|(simp;done)|(simp [*];done),by repeat (first|exact Drawn0.refl _|apply Drawn0.step)⟩
      ·rw [if_neg c5] at H
       have c5b0 : decide ((rd l0 x7_1) < 0) = false := decide_eq_false c5
       clear c5
       by_cases c6 : (rd l0 x7_1) > 9999
       ·rw [if_pos c6] at H
        have c6b0 : decide (9999 < (rd l0 x7_1)) = true := decide_eq_true c6
        clear c6
        obtain rfl := Option.some.inj H
        have p148 : 0 ≤ (x7_1 : Int) := of_decide_eq_true (by first|(with_reducible assumption)|assumption)
        have q148 : x7_1 < (l0.length : Int) := of_decide_eq_true (by first|(with_reducible assumption)|assumption)
        obtain ⟨ad148,e148,hx148_0⟩ := Kd.at_int HR0.out x7_1 p148 q148
        cases e148
        replace p148 := eq_true p148
        replace q148 := eq_true q148
        go_wp2
        go_ret
        exact ⟨by first|rfl|(simp;done)|(simp [*];done),by repeat (first|exact Drawn0.refl _|apply Drawn0.step)⟩
       ·rw [if_neg c6] at H
        have c6b0 : decide (9999 < (rd l0 x7_1)) = false := decide_eq_false c6
        clear c6
        by_cases c7 : x7_1 > 0
        ·rw [if_pos c7] at H
         have c7b0 : decide (0 < x7_1) = true := decide_eq_true c7
         clear c7
         obtain ⟨ji8,hji8⟩ : ∃ j_ : Int,(wrap64 (x7_1 - 1)) = j_ := ⟨_,rfl⟩
         replace H : (if 0 ≤ (ji8) then (if (ji8) < (l0.length : Int) then (if (rd l0 x7_1) ≤ (rd l0 (ji8)) then (some false) else (posting_Valid.l0 k1 l0 l0 (l0.length : Int) (wrap64 (x7_1 + 1)))) else (none)) else (none)) = some r := by first|(rw [hji8] at H;exact H)|(simp only [hji8] at H ⊢;exact H)
         have hji8w : (IntKind.i64.wrap (x7_1 - 1)) = ji8 := (i64_w _).trans hji8
         by_cases c9 : 0 ≤ (ji8)
         ·rw [if_pos c9] at H
          have c9b0 : decide (0 ≤ (ji8)) = true := decide_eq_true c9
          clear c9
          by_cases c10 : (ji8) < (l0.length : Int)
          ·rw [if_pos c10] at H
           have c10b0 : decide ((ji8) < (l0.length : Int)) = true := decide_eq_true c10
           clear c10
           by_cases c11 : (rd l0 x7_1) ≤ (rd l0 (ji8))
           ·rw [if_pos c11] at H
            have c11b0 : decide ((rd l0 x7_1) ≤ (rd l0 (ji8))) = true := decide_eq_true c11
            clear c11
            obtain rfl := Option.some.inj H
            have p148 : 0 ≤ (x7_1 : Int) := of_decide_eq_true (by first|(with_reducible assumption)|assumption)
            have q148 : x7_1 < (l0.length : Int) := of_decide_eq_true (by first|(with_reducible assumption)|assumption)
            obtain ⟨ad148,e148,hx148_0⟩ := Kd.at_int HR0.out x7_1 p148 q148
            cases e148
            replace p148 := eq_true p148
            replace q148 := eq_true q148
            have p149 : 0 ≤ ((ji8) : Int) := of_decide_eq_true (by first|(with_reducible assumption)|assumption)
            have q149 : (ji8) < (l0.length : Int) := of_decide_eq_true (by first|(with_reducible assumption)|assumption)
            obtain ⟨ad149,e149,hx149_0⟩ := Kd.at_int HR0.out (ji8) p149 q149
            obtain rfl : ad148 = ad149 := (by injection e149)
            replace p149 := eq_true p149
            replace q149 := eq_true q149
            go_wp2
            go_ret
            exact ⟨by first|rfl|(simp;done)|(rw [Int.tdiv_eq_ediv_of_nonneg (by assumption)];done)|(rw [Int.tmod_eq_emod_of_nonneg (by assumption)];done)|(simp only [← hji8] <;> (first|rfl|simp))|(simp [*];done),by repeat (first|exact Drawn0.refl _|apply Drawn0.step)⟩
           ·rw [if_neg c11] at H
            have c11b0 : decide ((rd l0 x7_1) ≤ (rd l0 (ji8))) = false := decide_eq_false c11
            clear c11
            have H' := Aside0.mk H
            clear H
            have p148 : 0 ≤ (x7_1 : Int) := of_decide_eq_true (by first|(with_reducible assumption)|assumption)
            have q148 : x7_1 < (l0.length : Int) := of_decide_eq_true (by first|(with_reducible assumption)|assumption)
            obtain ⟨ad148,e148,hx148_0⟩ := Kd.at_int HR0.out x7_1 p148 q148
            cases e148
            replace p148 := eq_true p148
            replace q148 := eq_true q148
            have p149 : 0 ≤ ((ji8) : Int) := of_decide_eq_true (by first|(with_reducible assumption)|assumption)
            have q149 : (ji8) < (l0.length : Int) := of_decide_eq_true (by first|(with_reducible assumption)|assumption)
            obtain ⟨ad149,e149,hx149_0⟩ := Kd.at_int HR0.out (ji8) p149 q149
            obtain rfl : ad148 = ad149 := (by injection e149)
            replace p149 := eq_true p149
            replace q149 := eq_true q149
            go_wp2
            go_roundg k1
            case measure => have := HK1.out;omega
            case rel => exact ⟨(wrap64 (x7_1 + 1)),(by first|rfl|(simp;done)|(simp [*];done)),H',⟨by have := HK1.out;omega⟩,by repeat (first|exact Drawn0.refl _|apply Drawn0.step)⟩
          ·rw [if_neg c10] at H
           exact absurd H (by simp)
         ·rw [if_neg c9] at H
          exact absurd H (by simp)
        ·rw [if_neg c7] at H
         have c7b0 : decide (0 < x7_1) = false := decide_eq_false c7
         clear c7
         have H' := Aside0.mk H
         clear H
         have p148 : 0 ≤ (x7_1 : Int) := of_decide_eq_true (by first|(with_reducible assumption)|assumption)
         have q148 : x7_1 < (l0.length : Int) := of_decide_eq_true (by first|(with_reducible assumption)|assumption)
         obtain ⟨ad148,e148,hx148_0⟩ := Kd.at_int HR0.out x7_1 p148 q148
         cases e148
         replace p148 := eq_true p148
         replace q148 := eq_true q148
         go_wp2
         go_roundg k1
         case measure => have := HK1.out;omega
         case rel => exact ⟨(wrap64 (x7_1 + 1)),(by first|rfl|(simp;done)|(simp [*];done)),H',⟨by have := HK1.out;omega⟩,by repeat (first|exact Drawn0.refl _|apply Drawn0.step)⟩
     ·rw [if_neg c4] at H
      exact absurd H (by simp)
    ·rw [if_neg c3] at H
     exact absurd H (by simp)
   ·rw [if_neg c2] at H
    have c2b0 : decide (x7_1 < (l0.length : Int)) = false := decide_eq_false c2
    clear c2
    obtain rfl := Option.some.inj H
    go_wp2
    go_ret
    exact ⟨by first|rfl|(simp;done)|(simp [*];done),by repeat (first|exact Drawn0.refl _|apply Drawn0.step)⟩

/-! ### varint_Put: function 39 (by hand) -/
/-- The digits to the base 128, the lowest one first. -/
def enc7 : Nat → Int → List Int
  | 0, _ => []
  | k + 1, x => if x ≥ 128 then (x % 128 + 128) :: enc7 k (x / 128) else [x]
def varint_Put.f (l0 : List Int) (a1 : Int) : Option (List Int) := if l0.length + 10 < 140737488355328 then some (l0 ++ enc7 10 (IntKind.u64.wrap (mx a1 0))) else none
def varint_Put.l0 : Nat → List Int → Int → Option (List Int)
  | 0, _, _ => none
  | k + 1, x5, x6 => if x6 ≥ 128 then (if x5.length < 140737488355328 then (varint_Put.l0 k (x5 ++ [Go.bits .or .u8 (x6 % 256) 128]) (x6 / 128)) else (none)) else (if x5.length < 140737488355328 then (some (x5 ++ [x6 % 256])) else (none))
theorem bits_or128 (x : Int) (h0 : 0 ≤ x) : Go.bits .or .u8 (x % 256) 128 = x % 128 + 128 := by
  have h : ∀ a : Fin 256, Go.bits .or .u8 (a.val : Int) 128 = (a.val : Int) % 128 + 128 := by decide +kernel
  have h1 := h ⟨(x % 256).toNat, by omega⟩
  simp only at h1
  rw [show (((x % 256).toNat : Nat) : Int) = x % 256 from by omega] at h1
  rw [h1]; omega
theorem varint_Put.l0_enc (k : Nat) : ∀ (x5 : List Int) (x6 : Int), 0 ≤ x6 → x6 < 128 ^ (k + 1) → x5.length + k + 1 < 140737488355328 → varint_Put.l0 (k + 1) x5 x6 = some (x5 ++ enc7 (k + 1) x6) := by
  induction k with
  | zero =>
    intro x5 x6 h0 h1 h2
    have hn : ¬ x6 ≥ 128 := by omega
    rw [varint_Put.l0, enc7, if_neg hn, if_neg hn, if_pos (show x5.length < 140737488355328 by omega), show x6 % 256 = x6 from by omega]
  | succ k ih =>
    intro x5 x6 h0 h1 h2
    rw [varint_Put.l0, enc7]
    by_cases h : x6 ≥ 128
    · rw [if_pos h, if_pos h, if_pos (show x5.length < 140737488355328 by omega), bits_or128 x6 h0, ih _ _ (by omega) (by rw [Int.pow_succ] at h1; omega) (by simp; omega)]
      simp
    · rw [if_neg h, if_neg h, if_pos (show x5.length < 140737488355328 by omega), show x6 % 256 = x6 from by omega]
theorem wrap_u64_range (x : Int) : 0 ≤ IntKind.u64.wrap x ∧ IntKind.u64.wrap x < 18446744073709551616 := by
  simp [IntKind.wrap, IntKind.bits, IntKind.signed]; omega
theorem varint_Put.of_f {l0 : List Int} {a1 : Int} {r : List Int} (h : varint_Put.f l0 a1 = some r) : varint_Put.l0 10 l0 (IntKind.u64.wrap (mx a1 0)) = some r := by
  unfold varint_Put.f at h
  split at h
  · rw [varint_Put.l0_enc 9 l0 _ (wrap_u64_range _).1 (Int.lt_of_lt_of_le (wrap_u64_range _).2 (by decide)) (by omega)]; exact h
  · cases h
/-- A row of the call's own, or one that came in and has no room behind it. -/
def SrcU8 (w0 W : World) (v : Value) (xs : List Int) : Prop :=
  Kd.R (Kd.int .u8) 5 W w0.heap.size (fun _ => True) v xs ∨ ∃ A, v = .slice A xs.length xs.length ∧ (A = none → xs.length = 0) ∧ Kd.C (Kd.int .u8) W A xs.length xs
theorem src_below {w0 W W1 : World} {v : Value} {xs : List Int} (h : SrcU8 w0 W v xs) (hb : Below W.heap.size W W1) : SrcU8 w0 W1 v xs := by
  rcases h with h | ⟨A, h1, h2, h3⟩
  · exact .inl (Kd.R_below h hb)
  · exact .inr ⟨A, h1, h2, Kd.C_below h3 hb⟩
section
variable {P : Program} {ops : Array Oper} {rest : List Oper} {o : Oper} {a : Act} {Q : Exit → Act → World → Prop}
theorem src_append {w0 W : World} (hgd : o.guard = none) (s x : Operand) (t : TypeId)
    (ho : o.op = .call { callee := .builtin .append, args := #[s, x], argTypes := #[t, t] })
    (ht : P.underlying t = some (.slice 5)) (hinfo : (P.info? 5).map (fun i => (i.zero, i.size, i.bytes)) = some (some (.int .u8 0), 1, 1))
    (v : Value) (xs : List Int) (p : Int) (hs : a.eval s = v) (hx : a.eval x = .slice (some ⟨W.heap.size, 0, none⟩) 1 1)
    (HO : SrcU8 w0 W v xs) (HB : Below w0.heap.size w0 W) (hl : xs.length < 140737488355328)
    (h : ∀ v1 w1, Kd.R (Kd.int .u8) 5 w1 w0.heap.size (fun _ => True) v1 (xs ++ [p]) → Below w0.heap.size w0 w1 → wpList P ops Q rest (a.put o.dst v1) w1) :
    wpList P ops Q (o :: rest) a (W.alloc (.cells #[.int .u8 p] 5)) := by
  rcases HO with HO | ⟨A, rfl, hA, hC⟩
  · exact Kd.R_append (Kd.int .u8) (w0 := w0) w0.heap.size hgd s x t 5 (.int .u8 0) 1 ho ht hinfo rfl (by decide) (by omega) v xs p [.int .u8 p] (fun _ => True) (fun _ => False) hs hx rfl (fun _ hk => hk.elim) (fun _ _ => trivial) HO HB HB.size (by omega) (fun v1 w1 h1 h2 _ _ => h v1 w1 h1 h2)
  · obtain ⟨i0, hi, hzz⟩ := Option.map_eq_some_iff.1 hinfo
    simp only [Prod.mk.injEq] at hzz
    obtain ⟨hz0, hz1, hz2⟩ := hzz
    have hC' := readsInt_of.2 (Kd.reads_of_C (enc := Value.int .u8) (d := (0 : Int)) (h1 := fun _ => rfl) hC)
    refine wpList_append_grows (W.alloc (.cells #[.int .u8 p] 5)) hgd s x t ho 5 i0 (.int .u8 0) 1 1 ht hi hz0 hz1 hz2 rfl (by decide) A xs.length xs.length (nums .u8 xs) hs (fun e => ⟨hA e, hA e⟩) (by simp [nums_length])
      (fun b hb j u hj => ?_) ⟨W.heap.size, 0, none⟩ 1 1 [.int .u8 p] hx rfl
      (by simpa using World.news_of_block (cs := #[.int .u8 p]) (t := 5) (fr := (0, 0)) (heap_alloc_new W (.cells #[.int .u8 p] 5))) (by simp [Value.oneCell']) (by omega) (by simp only [maxLen]; omega) (by omega) ?_
    · have hjl : j < xs.length := by
        have := (List.getElem?_eq_some_iff.1 hj).1
        simpa [nums_length] using this
      obtain ⟨ad, e, hc⟩ := hC'.2.2 (by omega)
      subst hb
      cases e
      have h1 := hc j hjl
      have h2 : u = .int .u8 (xs.getD j 0) := by
        simp [nums, List.getElem?_eq_getElem hjl] at hj
        rw [← hj, List.getD_eq_getElem?_getD, List.getElem?_eq_getElem hjl]; rfl
      rw [h2]
      exact (Below.cell ((Below.refl W.heap.size W).alloc (Nat.le_refl _) _) (World.block_lt_of_cell? W _ h1)).trans h1
    · intro v' w' hown hg
      have hown' : w'.ownsRow w0.heap.size 5 1 v' (xs ++ [p]).length (encs (Value.int .u8) (xs ++ [p])) := by
        have : encs (Value.int .u8) (xs ++ [p]) = nums .u8 xs ++ [.int .u8 p] := by simp [encs, nums]
        rw [this, List.length_append, List.length_singleton]
        exact own_weaken hown (by have := HB.size; simp; omega)
      refine h v' w' (Kd.R_of_own hown' (fun _ _ => trivial)) ?_
      exact (HB.alloc HB.size _).grown hg (by have := HB.size; simp; omega) (fun k hk => by cases hk)
end
set_option maxHeartbeats 8000000 in
set_option maxRecDepth 100000 in
theorem varint_Put.calls (A0 : Option Addr) (c0 : Nat) (l0 : List Int) (a1 : Int) (r : List Int) (w : World) (hr0 : Kd.C (Kd.int .u8) w A0 l0.length l0) (hc0 : l0.length ≤ c0) (h : varint_Put.f l0 a1 = some r) :
    Calls Try.prog 39 #[.slice A0 l0.length c0, .int .i64 a1] w fun e w' => ∃ v0_ : Value, e = .returned (v0_) ∧ Kd.R (Kd.int .u8) 5 w' w.heap.size (fun _ => True) v0_ r ∧ Below w.heap.size w w' := by
  have HR0 := Aside0.mk hr0
  have HC0 := Aside0.mk hc0
  clear hr0 hc0
  have HB := Aside0.mk (Below.refl w.heap.size w)
  have H : (varint_Put.l0 10 l0 (IntKind.u64.wrap (mx a1 0))) = some r := varint_Put.of_f h
  clear h
  have H' := Aside0.mk H
  clear H
  have hcc := HC0.out
  have hc2 : (l0.length : Int) ≤ (c0 : Int) := by omega
  clear hcc
  obtain ⟨ji, hji⟩ : ∃ j_ : Int, (mx a1 0) = j_ := ⟨_, rfl⟩
  rw [hji] at H'
  have hji_ : (if a1 < 0 then 0 else a1) = ji := hji
  clear hji
  go_enter Try.func39, Try.ntmps39
  go_wp2
  go_loopg [5, 6] 10 (fun kq v5 v6 w' => ∃ (x5_1 : List Int) (x6_1 : Int), v6 = .int .u64 x6_1 ∧ Aside0 (varint_Put.l0 kq x5_1 x6_1 = some r) ∧ Aside0 (kq ≤ 10) ∧ Aside0 (SrcU8 w w' v5 x5_1) ∧ Aside0 (Below w.heap.size w w'))
  case atStart =>
    refine ⟨l0, IntKind.u64.wrap ji, rfl, H', ⟨Nat.le_refl _⟩, ⟨.inr ⟨A0, rfl, fun e => ?_, HR0.out⟩⟩, HB⟩
    rcases Nat.eq_zero_or_pos l0.length with hl | hl
    · exact hl
    · obtain ⟨ad, ea, _⟩ := HR0.out.2.2 hl
      rw [e] at ea
      cases ea
  case round =>
    clear H'
    obtain ⟨x5_1, x6_1, rfl, HA, HK1, HO_5, HB⟩ := hrel
    cases gk with
    | zero => exact absurd HA.out (by simp [varint_Put.l0])
    | succ k1 =>
      have H := HA.out
      clear HA
      simp only [varint_Put.l0] at H
      by_cases c3 : x6_1 ≥ 128
      · rw [if_pos c3] at H
        have c3b0 : decide (128 ≤ x6_1) = true := decide_eq_true c3
        clear c3
        by_cases c5 : x5_1.length < 140737488355328
        · rw [if_pos c5] at H
          have LMc5 := Aside0.mk c5
          clear c5
          obtain ⟨y1, hy1⟩ : ∃ y_ : List Int, y_ = x5_1 ++ [Go.bits .or .u8 (x6_1 % 256) 128] := ⟨_, rfl⟩
          rw [← hy1] at H
          have Ny1 := Aside0.mk hy1
          clear hy1
          have H' := Aside0.mk H
          clear H
          go_wp2_with (first | ((with_reducible refine gate_builtin (b := .append) (xs := #[.tmp 18, .tmp 22]) rfl ?_); at_builtin; refine src_append (w0 := w) rfl (.tmp 18) (.tmp 22) 30 rfl Try.underlying30 info5 u5 x5_1 (Go.bits .or .u8 (x6_1 % 256) 128) rfl rfl ?aO ?aB ?aL ?_; (case aB => exact HB.out); (case aO => exact HO_5.out); (case aL => exact LMc5.out); intro v120 w6 ho hb; rw [← Ny1.out] at ho; have n0_ := Aside0.mk (hb); have n1_ := Aside0.mk (ho); clear HB; clear HO_5; have HB := n0_; have HO121 := n1_; clear n0_ n1_; clear ho hb))
          go_roundg k1
          case measure => have := HK1.out; omega
          case rel => exact ⟨y1, _, rfl, H', ⟨by have := HK1.out; omega⟩, ⟨.inl HO121.out⟩, HB⟩
        · rw [if_neg c5] at H
          exact absurd H (by simp)
      · rw [if_neg c3] at H
        have c3b0 : decide (128 ≤ x6_1) = false := decide_eq_false c3
        clear c3
        by_cases c5 : x5_1.length < 140737488355328
        · rw [if_pos c5] at H
          have LMc5 := Aside0.mk c5
          clear c5
          obtain ⟨y1, hy1⟩ : ∃ y_ : List Int, y_ = x5_1 ++ [x6_1 % 256] := ⟨_, rfl⟩
          rw [← hy1] at H
          have Ny1 := Aside0.mk hy1
          clear hy1
          have H' := Aside0.mk H
          clear H
          go_wp2_with (first | ((with_reducible refine gate_builtin (b := .append) (xs := #[.tmp 26, .tmp 29]) rfl ?_); at_builtin; refine src_append (w0 := w) rfl (.tmp 26) (.tmp 29) 30 rfl Try.underlying30 info5 u5 x5_1 (x6_1 % 256) rfl rfl ?aO ?aB ?aL ?_; (case aB => exact HB.out); (case aO => exact HO_5.out); (case aL => exact LMc5.out); intro v120 w6 ho hb; rw [← Ny1.out] at ho; have n0_ := Aside0.mk (hb); have n1_ := Aside0.mk (ho); clear HB; clear HO_5; have HB := n0_; have HO121 := n1_; clear n0_ n1_; clear ho hb))
          obtain rfl := Option.some.inj H'.out
          go_ret
          exact ⟨_, rfl, HO121.out, HB.out⟩
        · rw [if_neg c5] at H
          exact absurd H (by simp)

end Go.Proofs.Ytknpmknkkofnjaa.P
