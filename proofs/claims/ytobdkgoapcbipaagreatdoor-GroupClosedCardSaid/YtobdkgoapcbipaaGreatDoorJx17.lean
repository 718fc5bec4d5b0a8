import Derived.Test.YtobdkgoapcbipaaGreatDoorJx0
import Derived.Test.YtobdkgoapcbipaaGreatDoorJx1
import Derived.Test.YtobdkgoapcbipaaGreatDoorJx6
import Derived.Test.YtobdkgoapcbipaaGreatDoorJx8
import Derived.Test.YtobdkgoapcbipaaGreatDoorJx9
import Derived.Test.YtobdkgoapcbipaaGreatDoorJx10
import Derived.Test.YtobdkgoapcbipaaGreatDoorJx11
import Derived.Test.YtobdkgoapcbipaaGreatDoorJx16
namespace Go.Proofs.YtobdkgoapcbipaaGreatDoor.J
open Go.RowKit Go.Proofs.YtobdkgoapcbipaaGreatDoorW.PrintWords Go.Proofs.YtobdkgoapcbipaaGreatDoorW.PrintLast Go.Proofs.YtobdkgoapcbipaaGreatDoorW.PrintMore
set_option maxHeartbeats 4000000
set_option maxRecDepth 100000
attribute [local go_sem] max2_int min2_int max_two min_two max_three min_three max_four min_four
set_option linter.unusedVariables false
set_option linter.unusedSimpArgs false

/-! ### r43_Set: function 24 -/
def r43_Set.f (k : Nat) (l0 : List (S36)) (ac : ByteArray) (ad : List Int) (ae : List ByteArray) : Option ((List (S36)) × Int) := (some (([] : List (S36)) : List (S36))).bind fun af => (if af.length + l0.length < 2199023255552 then ((some (af ++ l0 : List (S36))).bind fun aa => ((r43_at.f k l0 ac).bind fun ab => (if ab < 0 then (if aa.length < 2199023255552 then ((some (aa ++ [(⟨ac, ad, ae⟩ : S36)] : List (S36))).bind fun ag => ((r43_Right.f k ag).bind fun ah => (if ah = 0 then (some (ag, 0)) else (some (([] : List (S36)), ah))))) else (none)) else (if 0 ≤ ab then (if ab < (aa.length : Int) then ((some (aa.set (ab : Int).toNat (⟨ac, ad, ae⟩ : S36) : List (S36))).bind fun ai => ((r43_Right.f k ai).bind fun aj => (if aj = 0 then (some (ai, 0)) else (some (([] : List (S36)), aj))))) else (none)) else (none))))) else (none))
theorem r43_Set.mono : ∀ a0 a1 a2 a3 k, LeO (r43_Set.f k a0 a1 a2 a3) (r43_Set.f (k + 1) a0 a1 a2 a3) := by
 intro a0 a1 a2 a3 k
 unfold r43_Set.f
 repeat' (with_reducible first|exact r43_Right.mono _ _|exact r43_at.mono _ _ _|exact LeO.refl _|exact LeO.none _|refine LeO.ite ?_ ?_|refine LeO.bind ?_ (fun _ => ?_))
theorem r43_Set.calls (k : Nat) (an : Nat → Prop) (A0 : Option Addr) (c0 : Nat) (l0 : List (S36)) (ah : ByteArray) (ab : Nat → Prop) (ao : Option Addr) (ap : Nat) (aj : List Int) (ac : Nat → Prop) (aq : Option Addr) (ar : Nat) (ak : List ByteArray) (r1 : List (S36)) (r2 : Int) (w : World) (dd : Kd.V k36 36 w w.heap.size (fun k_ => an k_) (.slice A0 l0.length c0) l0) (b1 : Kd.V (Kd.int .i64) 3 w w.heap.size (fun k_ => ab k_) (.slice ao aj.length ap) aj) (b2 : Kd.V Kd.string 9 w w.heap.size (fun k_ => ac k_) (.slice aq ak.length ar) ak) (h : r43_Set.f k l0 ah aj ak = some (r1, r2)) :
  Calls Tryz.prog 24 #[.slice A0 l0.length c0,.agg #[.string ah,.slice ao aj.length ap,.slice aq ak.length ar]] w fun e w' => ∃ cW : Value,e = .returned (.tuple #[cW,.int .i64 r2]) ∧ Kd.N k36 36 w' w.heap.size (fun k_ => ((an k_ ∨ ab k_ ∨ ac k_) ∨ w.heap.size ≤ k_)) cW r1 ∧ Below w.heap.size w w' := by
 have de := Tryz.underlying36
 have au := aK (show Kd.V k36 36 w w.heap.size (fun k_ => ((an k_ ∨ ab k_ ∨ ac k_) ∨ w.heap.size ≤ k_)) (.slice A0 l0.length c0) l0 from Kd.V_mono dd (fun k_ hk => .inl (.inl hk)))
 have ae := aK (show Kd.V (Kd.int .i64) 3 w w.heap.size (fun k_ => ((an k_ ∨ ab k_ ∨ ac k_) ∨ w.heap.size ≤ k_)) (.slice ao aj.length ap) aj from Kd.V_mono b1 (fun k_ hk => .inl (.inr (.inl hk))))
 have af := aK (show Kd.V Kd.string 9 w w.heap.size (fun k_ => ((an k_ ∨ ab k_ ∨ ac k_) ∨ w.heap.size ≤ k_)) (.slice aq ak.length ar) ak from Kd.V_mono b2 (fun k_ hk => .inl (.inr (.inr hk))))
 have HB := aK (Below.refl w.heap.size w)
 have H : ((some (([] : List (S36)) : List (S36))).bind fun aN => (if aN.length + l0.length < 2199023255552 then ((some (aN ++ l0 : List (S36))).bind fun al => ((r43_at.f k l0 ah).bind fun ag => (if ag < 0 then (if al.length < 2199023255552 then ((some (al ++ [(⟨ah,aj,ak⟩ : S36)] : List (S36))).bind fun aC => ((r43_Right.f k aC).bind fun aD => (if aD = 0 then (some (aC,0)) else (some (([] : List (S36)),aD))))) else (none)) else (if 0 ≤ ag then (if ag < (al.length : Int) then ((some (al.set (ag : Int).toNat (⟨ah,aj,ak⟩ : S36) : List (S36))).bind fun ay => ((r43_Right.f k ay).bind fun aE => (if aE = 0 then (some (ay,0)) else (some (([] : List (S36)),aE))))) else (none)) else (none))))) else (none))) = some (r1,r2) := h
 clear h
 obtain ⟨aN,aW⟩ : ∃ y_ : List (S36),y_ = (([] : List (S36))) := ⟨_,rfl⟩
 replace H : (if aN.length + l0.length < 2199023255552 then ((some (aN ++ l0 : List (S36))).bind fun al => ((r43_at.f k l0 ah).bind fun ag => (if ag < 0 then (if al.length < 2199023255552 then ((some (al ++ [(⟨ah,aj,ak⟩ : S36)] : List (S36))).bind fun aC => ((r43_Right.f k aC).bind fun aD => (if aD = 0 then (some (aC,0)) else (some (([] : List (S36)),aD))))) else (none)) else (if 0 ≤ ag then (if ag < (al.length : Int) then ((some (al.set (ag : Int).toNat (⟨ah,aj,ak⟩ : S36) : List (S36))).bind fun ay => ((r43_Right.f k ay).bind fun aE => (if aE = 0 then (some (ay,0)) else (some (([] : List (S36)),aE))))) else (none)) else (none))))) else (none)) = some (r1,r2) := by first|(rw [aW];with_reducible exact H)|(have a6 := (Option.bind_some _ _).symm.trans H;rw [aW];with_reducible exact a6)|(have a6 := (Option.bind_some _ _).symm.trans H;with_reducible exact a6)|with_reducible exact H|(rw [aW];exact H)|exact H
 have aM := aK aW
 clear aW
 by_cases c3 : aN.length + l0.length < 2199023255552
 ·rw [if_pos c3] at H
  have bn := aK c3
  clear c3
  obtain ⟨al,aX⟩ : ∃ y_ : List (S36),y_ = (aN ++ l0) := ⟨_,rfl⟩
  replace H : ((r43_at.f k l0 ah).bind fun ag => (if ag < 0 then (if al.length < 2199023255552 then ((some (al ++ [(⟨ah,aj,ak⟩ : S36)] : List (S36))).bind fun aC => ((r43_Right.f k aC).bind fun aD => (if aD = 0 then (some (aC,0)) else (some (([] : List (S36)),aD))))) else (none)) else (if 0 ≤ ag then (if ag < (al.length : Int) then ((some (al.set (ag : Int).toNat (⟨ah,aj,ak⟩ : S36) : List (S36))).bind fun ay => ((r43_Right.f k ay).bind fun aE => (if aE = 0 then (some (ay,0)) else (some (([] : List (S36)),aE))))) else (none)) else (none)))) = some (r1,r2) := by first|(rw [aX];with_reducible exact H)|(have a6 := (Option.bind_some _ _).symm.trans H;rw [aX];with_reducible exact a6)|(have a6 := (Option.bind_some _ _).symm.trans H;with_reducible exact a6)|with_reducible exact H|(rw [aX];exact H)|exact H
  have bc := aK aX
  clear aX
  replace H := Option.bind_eq_some_iff.mp H
  obtain ⟨ag,cX,H⟩ := H
  have A4 := aK cX
  clear cX
  by_cases c5 : ag < 0
  ·rw [if_pos c5] at H
   have ch := decide_eq_true c5
   clear c5
   obtain ⟨c6,H⟩ := iS H
   have b3 := aK c6
   clear c6
   obtain ⟨aC,aY⟩ : ∃ y_ : List (S36),y_ = (al ++ [(⟨ah,aj,ak⟩ : S36)]) := ⟨_,rfl⟩
   replace H : ((r43_Right.f k aC).bind fun aD => (if aD = 0 then (some (aC,0)) else (some (([] : List (S36)),aD)))) = some (r1,r2) := by first|(rw [aY];with_reducible exact H)|(have a6 := (Option.bind_some _ _).symm.trans H;rw [aY];with_reducible exact a6)|(have a6 := (Option.bind_some _ _).symm.trans H;with_reducible exact a6)|with_reducible exact H|(rw [aY];exact H)|exact H
   have bo := aK aY
   clear aY
   replace H := Option.bind_eq_some_iff.mp H
   obtain ⟨aD,cY,H⟩ := H
   have A7 := aK cY
   clear cY
   by_cases c8 : aD = 0
   ·rw [if_pos c8] at H
    have ci := beq_iff_eq.mpr c8
    have cj := bne_eq_false_iff_eq.mpr c8
    clear c8
    simp only [Option.some.injEq,Prod.mk.injEq] at H
    obtain ⟨rfl,rfl⟩ := H
    go_enter Tryz.func24,Tryz.ntmps24
    go_wp2_with (first|((with_reducible refine gate_dst (N := 3) rfl ?_);refine box_event ?hg (N := 3) ?hd (cs := #[.string ah,.slice ao aj.length ap,.slice aq ak.length ar]) (t := 36) ?hr ?_;(case hd => rfl);(case hg => rfl);(case hr => first|(go_simp;done)|(go_simp;rfl));intro aa hg w9 hbox hb;replace au := aK (Kd.V_below (Kd.V_elderB (vM au.out) aa (Nat.le_of_eq hg.symm)) hb);replace ae := aK (Kd.V_below (Kd.V_elderB (vM ae.out) aa (Nat.le_of_eq hg.symm)) hb);replace af := aK (Kd.V_below (Kd.V_elderB (vM af.out) aa (Nat.le_of_eq hg.symm)) hb);have ad := aK (hbox);have aQ := aK ((by rw [hg];exact (below_size (bM HB.out)) : w.heap.size ≤ aa));have bf := Ge.mk aQ.out;have aT := aK ((by rw [hg];exact (below_size (bM HB.out)) : w.heap.size ≤ aa));have bg := Ge.mk aT.out;replace HB := aK (below_step (bM HB.out) hb);clear hb hbox hg)|((with_reducible refine gate_dst (N := 9) rfl ?_);refine Kd.N_lit k36 _ 36 ?hg (N' := 9) ?hd (xs := ([] : List (S36))) (inner := []) (ok := (fun k_ => ((an k_ ∨ ab k_ ∨ ac k_) ∨ w.heap.size ≤ k_) ∧ k_ ≠ aa)) (okp := (fun k_ => ((an k_ ∨ ab k_ ∨ ac k_) ∨ w.heap.size ≤ k_) ∧ k_ ≠ aa)) ?hr ?hp (fun _ hk => hk) ((show ∀ k_,w9.heap.size ≤ k_ → (fun k_ => ((an k_ ∨ ab k_ ∨ ac k_) ∨ w.heap.size ≤ k_) ∧ k_ ≠ aa) k_ from fun k_ hk => ⟨(.inr (Nat.le_trans (below_size (bG HB.out)) hk)),Kd.freshB (g := aa) (o := .cells #[.string ah,.slice ao aj.length ap,.slice aq ak.length ar] 36 (0,0)) (kM ad.out) k_ hk⟩) _ (Nat.le_refl _)) (Below.refl _ _) (Nat.le_refl _) (by simp) ?_;(case hd => rfl);(case hg => rfl);(case hr => first|(go_simp;done)|(go_simp;rfl));(case hp => exact (Reps.none _ _));intro aG dk aZ hb hg_ hnew_;clear hg_ hnew_;(first|rw [← aM.out] at aZ|(simp only [Int.reduceToNat] at aZ;rw [← aM.out] at aZ));replace au := aK (Kd.V_elder' (vM au.out) (Kd.N_base aZ) hb);replace ae := aK (Kd.V_elder' (vM ae.out) (Kd.N_base aZ) hb);replace af := aK (Kd.V_elder' (vM af.out) (Kd.N_base aZ) hb);have az := aK (Kd.N_lower aZ (below_size (bG HB.out)));replace ad := aK (blk_below (kM ad.out) hb);replace HB := aK (below_step (bG HB.out) hb);clear hb aZ)|((with_reducible refine gate_builtin (b := .append) (xs := #[.tmp 9,.tmp 10]) rfl ?_);at_builtin;refine Kd.N_append_rows k36 (w0 := w) w.heap.size rfl (.tmp 9) (.tmp 10) 22 36 (.agg #[(.string ⟨#[]⟩),(.slice none 0 0),(.slice none 0 0)]) 64 rfl Tryz.underlying22 info36 rfl (by decide) (by omega) aG aN l0 _ _ _ (fun k_ => ((an k_ ∨ ab k_ ∨ ac k_) ∨ w.heap.size ≤ k_) ∧ k_ ≠ aa) (fun k_ => ((fun k_ => ((an k_ ∨ ab k_ ∨ ac k_) ∨ w.heap.size ≤ k_) ∧ k_ ≠ aa)) k_ ∧ some k_ ≠ (aG : Value).ownBlock) rfl rfl ?aO ?aR (fun _ hk => hk) ?aF ?aB ?aS ?aL ?_;(case aR => exact (by skip;exact Kd.V_F (Kd.V_mono (ok' := (fun k_ => ((fun k_ => ((an k_ ∨ ab k_ ∨ ac k_) ∨ w.heap.size ≤ k_) ∧ k_ ≠ aa)) k_ ∧ some k_ ≠ (aG : Value).ownBlock)) (au.out) (fun k_ hk => ⟨⟨hk.1.1,hk.1.2⟩,hk.2⟩))));(case aB => exact (bG HB.out));(case aF => exact (fun k_ hk => ⟨(.inr (Nat.le_trans (below_size (bG HB.out)) hk)),Kd.freshB (g := aa) (o := .cells #[.string ah,.slice ao aj.length ap,.slice aq ak.length ar] 36 (0,0)) (kM ad.out) k_ hk⟩));(case aO => exact (nM az.out));(case aS => exact (below_size (bG HB.out)));(case aL => have := bn.out;omega);intro av dl ho hb hg hat;rw [← bc.out] at ho;replace au := aK (Kd.V_afterv (ok := (fun k_ => ((an k_ ∨ ab k_ ∨ ac k_) ∨ w.heap.size ≤ k_) ∧ k_ ≠ aa)) (vM au.out) hg hat);replace ae := aK (Kd.V_afterv (ok := (fun k_ => ((an k_ ∨ ab k_ ∨ ac k_) ∨ w.heap.size ≤ k_) ∧ k_ ≠ aa)) (vM ae.out) hg hat);replace af := aK (Kd.V_afterv (ok := (fun k_ => ((an k_ ∨ ab k_ ∨ ac k_) ∨ w.heap.size ≤ k_) ∧ k_ ≠ aa)) (vM af.out) hg hat);replace ad := aK (blk_grown (g := aa) (o := .cells #[.string ah,.slice ao aj.length ap,.slice aq ak.length ar] 36 (0,0)) (kM ad.out) hg (Kd.N_away az.out (fun _ hk => hk.2)));replace HB := aK (hb);have ai := aK (ho);clear ho hb hg hat;obtain ⟨_,_,_,_,_,_⟩ := bk3_ ad.out)|((with_reducible refine gate_callee (f := 36) rfl ?_);refine gL 15 Tryz.func36 #[.slice A0 l0.length c0,.string ah] ?_;(with_reducible refine (r43_at.calls k _ _ l0 ah ag _ ?aw ?ax A4.out).mono ?_);(case aw => exact cM (Kd.V_reads' au.out).2.2);(case ax => exact (Kd.V_reads' au.out).2.1);rintro e w' ⟨rfl,⟨nd,rfl⟩⟩;refine ⟨_,rfl,?_⟩)|((with_reducible refine gate_builtin (b := .append) (xs := #[.tmp 18,.tmp 20]) rfl ?_);at_builtin;refine Kd.N_append k36 (w0 := w) w.heap.size rfl (.tmp 18) (.tmp 20) 22 36 (.agg #[(.string ⟨#[]⟩),(.slice none 0 0),(.slice none 0 0)]) 64 rfl Tryz.underlying22 info36 rfl (by decide) (by omega) av al (⟨ah,aj,ak⟩ : S36) [.string ah,.slice ao aj.length ap,.slice aq ak.length ar] (fun k_ => ((an k_ ∨ ab k_ ∨ ac k_) ∨ w.heap.size ≤ k_) ∧ k_ ≠ aa) (fun k_ => ((fun k_ => ((an k_ ∨ ab k_ ∨ ac k_) ∨ w.heap.size ≤ k_) ∧ k_ ≠ aa)) k_ ∧ some k_ ≠ (av : Value).ownBlock) rfl rfl ?aP (fun _ hk => hk) ?aF ?aO ?aB ?aS ?aL ?_;(case aP => exact (k36_mkF _ _ (⟨ah,aj,ak⟩ : S36) (Kd.V_reads' (Kd.V_mono (ok' := (fun k_ => ((fun k_ => ((an k_ ∨ ab k_ ∨ ac k_) ∨ w.heap.size ≤ k_) ∧ k_ ≠ aa)) k_ ∧ some k_ ≠ (av : Value).ownBlock)) (ae.out) (fun k_ hk => ⟨⟨hk.1.1,hk.1.2⟩,hk.2⟩))).2.1 (Kd.V_F (Kd.V_mono (ok' := (fun k_ => ((fun k_ => ((an k_ ∨ ab k_ ∨ ac k_) ∨ w.heap.size ≤ k_) ∧ k_ ≠ aa)) k_ ∧ some k_ ≠ (av : Value).ownBlock)) (ae.out) (fun k_ hk => ⟨⟨hk.1.1,hk.1.2⟩,hk.2⟩))) (Kd.V_reads' (Kd.V_mono (ok' := (fun k_ => ((fun k_ => ((an k_ ∨ ab k_ ∨ ac k_) ∨ w.heap.size ≤ k_) ∧ k_ ≠ aa)) k_ ∧ some k_ ≠ (av : Value).ownBlock)) (af.out) (fun k_ hk => ⟨⟨hk.1.1,hk.1.2⟩,hk.2⟩))).2.1 (Kd.V_F (Kd.V_mono (ok' := (fun k_ => ((fun k_ => ((an k_ ∨ ab k_ ∨ ac k_) ∨ w.heap.size ≤ k_) ∧ k_ ≠ aa)) k_ ∧ some k_ ≠ (av : Value).ownBlock)) (af.out) (fun k_ hk => ⟨⟨hk.1.1,hk.1.2⟩,hk.2⟩)))));(case aB => exact (bG HB.out));(case aF => exact (fun k_ hk => ⟨(.inr (Nat.le_trans (below_size (bG HB.out)) hk)),Kd.freshB (g := aa) (o := .cells #[.string ah,.slice ao aj.length ap,.slice aq ak.length ar] 36 (0,0)) (kM ad.out) k_ hk⟩));(case aO => exact (nM ai.out));(case aS => exact (below_size (bG HB.out)));(case aL => have := b3.out;omega);intro ck dm ho hb hg hat;rw [← bo.out] at ho;replace au := aK (Kd.V_afterv (ok := (fun k_ => ((an k_ ∨ ab k_ ∨ ac k_) ∨ w.heap.size ≤ k_) ∧ k_ ≠ aa)) (vM au.out) hg hat);replace ae := aK (Kd.V_afterv (ok := (fun k_ => ((an k_ ∨ ab k_ ∨ ac k_) ∨ w.heap.size ≤ k_) ∧ k_ ≠ aa)) (vM ae.out) hg hat);replace af := aK (Kd.V_afterv (ok := (fun k_ => ((an k_ ∨ ab k_ ∨ ac k_) ∨ w.heap.size ≤ k_) ∧ k_ ≠ aa)) (vM af.out) hg hat);replace ad := aK (blk_grown (g := aa) (o := .cells #[.string ah,.slice ao aj.length ap,.slice aq ak.length ar] 36 (0,0)) (kM ad.out) hg (Kd.N_away ai.out (fun _ hk => hk.2)));replace HB := aK (hb);have aA := aK (ho);clear ho hb hg hat;obtain ⟨cl,cm,cn⟩ := Kd.N_slice aA.out;subst cn)|((with_reducible refine gate_callee (f := 12) rfl ?_);refine gL 27 Tryz.func12 #[.slice cl aC.length cm] ?_;(with_reducible refine (r43_Right.calls k _ _ aC aD _ ?aw ?ax A7.out).mono ?_);(case aw => exact cM (Kd.N_reads' aA.out).2.2);(case ax => exact (Kd.N_reads' aA.out).2.1);rintro e dn ⟨rfl,hb⟩;refine ⟨_,rfl,?_⟩;replace au := aK (Kd.V_below (vM au.out) hb);replace ae := aK (Kd.V_below (vM ae.out) hb);replace af := aK (Kd.V_below (vM af.out) hb);replace aA := aK (Kd.N_below (nM aA.out) hb);replace ad := aK (blk_below (kM ad.out) hb);replace HB := aK (below_step (bG HB.out) hb);(try clear hb);(try clear hk)))
    go_ret2
    exact ⟨_,by first|rfl|(simp [errW_none,errW_some] <;> rfl)|(simp [*,errW_none,errW_some] <;> rfl),by (with_reducible repeat (first|apply Kd.N_alloc|apply Kd.N_drewN|apply Kd.N_drew));exact Kd.N_mono aA.out (fun _ hk => hk.1),bG HB.out⟩
   ·rw [if_neg c8] at H
    have ci := beq_eq_false_iff_ne.mpr c8
    have cj := bne_iff_ne.mpr c8
    simp only [Option.some.injEq,Prod.mk.injEq] at H
    obtain ⟨rfl,rfl⟩ := H
    go_enter Tryz.func24,Tryz.ntmps24
    go_wp2_with (first|((with_reducible refine gate_dst (N := 3) rfl ?_);refine box_event ?hg (N := 3) ?hd (cs := #[.string ah,.slice ao aj.length ap,.slice aq ak.length ar]) (t := 36) ?hr ?_;(case hd => rfl);(case hg => rfl);(case hr => first|(go_simp;done)|(go_simp;rfl));intro aa hg df hbox hb;replace au := aK (Kd.V_below (Kd.V_elderB (vM au.out) aa (Nat.le_of_eq hg.symm)) hb);replace ae := aK (Kd.V_below (Kd.V_elderB (vM ae.out) aa (Nat.le_of_eq hg.symm)) hb);replace af := aK (Kd.V_below (Kd.V_elderB (vM af.out) aa (Nat.le_of_eq hg.symm)) hb);have ad := aK (hbox);have aQ := aK ((by rw [hg];exact (below_size (bM HB.out)) : w.heap.size ≤ aa));have bf := Ge.mk aQ.out;have aT := aK ((by rw [hg];exact (below_size (bM HB.out)) : w.heap.size ≤ aa));have bg := Ge.mk aT.out;replace HB := aK (below_step (bM HB.out) hb);clear hb hbox hg)|((with_reducible refine gate_dst (N := 9) rfl ?_);refine Kd.N_lit k36 _ 36 ?hg (N' := 9) ?hd (xs := ([] : List (S36))) (inner := []) (ok := (fun k_ => ((an k_ ∨ ab k_ ∨ ac k_) ∨ w.heap.size ≤ k_) ∧ k_ ≠ aa)) (okp := (fun k_ => ((an k_ ∨ ab k_ ∨ ac k_) ∨ w.heap.size ≤ k_) ∧ k_ ≠ aa)) ?hr ?hp (fun _ hk => hk) ((show ∀ k_,df.heap.size ≤ k_ → (fun k_ => ((an k_ ∨ ab k_ ∨ ac k_) ∨ w.heap.size ≤ k_) ∧ k_ ≠ aa) k_ from fun k_ hk => ⟨(.inr (Nat.le_trans (below_size (bG HB.out)) hk)),Kd.freshB (g := aa) (o := .cells #[.string ah,.slice ao aj.length ap,.slice aq ak.length ar] 36 (0,0)) (kM ad.out) k_ hk⟩) _ (Nat.le_refl _)) (Below.refl _ _) (Nat.le_refl _) (by simp) ?_;(case hd => rfl);(case hg => rfl);(case hr => first|(go_simp;done)|(go_simp;rfl));(case hp => exact (Reps.none _ _));intro aG dp a0 hb hg_ hnew_;clear hg_ hnew_;(first|rw [← aM.out] at a0|(simp only [Int.reduceToNat] at a0;rw [← aM.out] at a0));replace au := aK (Kd.V_elder' (vM au.out) (Kd.N_base a0) hb);replace ae := aK (Kd.V_elder' (vM ae.out) (Kd.N_base a0) hb);replace af := aK (Kd.V_elder' (vM af.out) (Kd.N_base a0) hb);have az := aK (Kd.N_lower a0 (below_size (bG HB.out)));replace ad := aK (blk_below (kM ad.out) hb);replace HB := aK (below_step (bG HB.out) hb);clear hb a0)|((with_reducible refine gate_builtin (b := .append) (xs := #[.tmp 9,.tmp 10]) rfl ?_);at_builtin;refine Kd.N_append_rows k36 (w0 := w) w.heap.size rfl (.tmp 9) (.tmp 10) 22 36 (.agg #[(.string ⟨#[]⟩),(.slice none 0 0),(.slice none 0 0)]) 64 rfl Tryz.underlying22 info36 rfl (by decide) (by omega) aG aN l0 _ _ _ (fun k_ => ((an k_ ∨ ab k_ ∨ ac k_) ∨ w.heap.size ≤ k_) ∧ k_ ≠ aa) (fun k_ => ((fun k_ => ((an k_ ∨ ab k_ ∨ ac k_) ∨ w.heap.size ≤ k_) ∧ k_ ≠ aa)) k_ ∧ some k_ ≠ (aG : Value).ownBlock) rfl rfl ?aO ?aR (fun _ hk => hk) ?aF ?aB ?aS ?aL ?_;(case aR => exact (by skip;exact Kd.V_F (Kd.V_mono (ok' := (fun k_ => ((fun k_ => ((an k_ ∨ ab k_ ∨ ac k_) ∨ w.heap.size ≤ k_) ∧ k_ ≠ aa)) k_ ∧ some k_ ≠ (aG : Value).ownBlock)) (au.out) (fun k_ hk => ⟨⟨hk.1.1,hk.1.2⟩,hk.2⟩))));(case aB => exact (bG HB.out));(case aF => exact (fun k_ hk => ⟨(.inr (Nat.le_trans (below_size (bG HB.out)) hk)),Kd.freshB (g := aa) (o := .cells #[.string ah,.slice ao aj.length ap,.slice aq ak.length ar] 36 (0,0)) (kM ad.out) k_ hk⟩));(case aO => exact (nM az.out));(case aS => exact (below_size (bG HB.out)));(case aL => have := bn.out;omega);intro av dq ho hb hg hat;rw [← bc.out] at ho;replace au := aK (Kd.V_afterv (ok := (fun k_ => ((an k_ ∨ ab k_ ∨ ac k_) ∨ w.heap.size ≤ k_) ∧ k_ ≠ aa)) (vM au.out) hg hat);replace ae := aK (Kd.V_afterv (ok := (fun k_ => ((an k_ ∨ ab k_ ∨ ac k_) ∨ w.heap.size ≤ k_) ∧ k_ ≠ aa)) (vM ae.out) hg hat);replace af := aK (Kd.V_afterv (ok := (fun k_ => ((an k_ ∨ ab k_ ∨ ac k_) ∨ w.heap.size ≤ k_) ∧ k_ ≠ aa)) (vM af.out) hg hat);replace ad := aK (blk_grown (g := aa) (o := .cells #[.string ah,.slice ao aj.length ap,.slice aq ak.length ar] 36 (0,0)) (kM ad.out) hg (Kd.N_away az.out (fun _ hk => hk.2)));replace HB := aK (hb);have ai := aK (ho);clear ho hb hg hat;obtain ⟨_,_,_,_,_,_⟩ := bk3_ ad.out)|((with_reducible refine gate_callee (f := 36) rfl ?_);refine gL 15 Tryz.func36 #[.slice A0 l0.length c0,.string ah] ?_;(with_reducible refine (r43_at.calls k _ _ l0 ah ag _ ?aw ?ax A4.out).mono ?_);(case aw => exact cM (Kd.V_reads' au.out).2.2);(case ax => exact (Kd.V_reads' au.out).2.1);rintro e w' ⟨rfl,⟨nd,rfl⟩⟩;refine ⟨_,rfl,?_⟩)|((with_reducible refine gate_builtin (b := .append) (xs := #[.tmp 18,.tmp 20]) rfl ?_);at_builtin;refine Kd.N_append k36 (w0 := w) w.heap.size rfl (.tmp 18) (.tmp 20) 22 36 (.agg #[(.string ⟨#[]⟩),(.slice none 0 0),(.slice none 0 0)]) 64 rfl Tryz.underlying22 info36 rfl (by decide) (by omega) av al (⟨ah,aj,ak⟩ : S36) [.string ah,.slice ao aj.length ap,.slice aq ak.length ar] (fun k_ => ((an k_ ∨ ab k_ ∨ ac k_) ∨ w.heap.size ≤ k_) ∧ k_ ≠ aa) (fun k_ => ((fun k_ => ((an k_ ∨ ab k_ ∨ ac k_) ∨ w.heap.size ≤ k_) ∧ k_ ≠ aa)) k_ ∧ some k_ ≠ (av : Value).ownBlock) rfl rfl ?aP (fun _ hk => hk) ?aF ?aO ?aB ?aS ?aL ?_;(case aP => exact (k36_mkF _ _ (⟨ah,aj,ak⟩ : S36) (Kd.V_reads' (Kd.V_mono (ok' := (fun k_ => ((fun k_ => ((an k_ ∨ ab k_ ∨ ac k_) ∨ w.heap.size ≤ k_) ∧ k_ ≠ aa)) k_ ∧ some k_ ≠ (av : Value).ownBlock)) (ae.out) (fun k_ hk => ⟨⟨hk.1.1,hk.1.2⟩,hk.2⟩))).2.1 (Kd.V_F (Kd.V_mono (ok' := (fun k_ => ((fun k_ => ((an k_ ∨ ab k_ ∨ ac k_) ∨ w.heap.size ≤ k_) ∧ k_ ≠ aa)) k_ ∧ some k_ ≠ (av : Value).ownBlock)) (ae.out) (fun k_ hk => ⟨⟨hk.1.1,hk.1.2⟩,hk.2⟩))) (Kd.V_reads' (Kd.V_mono (ok' := (fun k_ => ((fun k_ => ((an k_ ∨ ab k_ ∨ ac k_) ∨ w.heap.size ≤ k_) ∧ k_ ≠ aa)) k_ ∧ some k_ ≠ (av : Value).ownBlock)) (af.out) (fun k_ hk => ⟨⟨hk.1.1,hk.1.2⟩,hk.2⟩))).2.1 (Kd.V_F (Kd.V_mono (ok' := (fun k_ => ((fun k_ => ((an k_ ∨ ab k_ ∨ ac k_) ∨ w.heap.size ≤ k_) ∧ k_ ≠ aa)) k_ ∧ some k_ ≠ (av : Value).ownBlock)) (af.out) (fun k_ hk => ⟨⟨hk.1.1,hk.1.2⟩,hk.2⟩)))));(case aB => exact (bG HB.out));(case aF => exact (fun k_ hk => ⟨(.inr (Nat.le_trans (below_size (bG HB.out)) hk)),Kd.freshB (g := aa) (o := .cells #[.string ah,.slice ao aj.length ap,.slice aq ak.length ar] 36 (0,0)) (kM ad.out) k_ hk⟩));(case aO => exact (nM ai.out));(case aS => exact (below_size (bG HB.out)));(case aL => have := b3.out;omega);intro ck dr ho hb hg hat;rw [← bo.out] at ho;replace au := aK (Kd.V_afterv (ok := (fun k_ => ((an k_ ∨ ab k_ ∨ ac k_) ∨ w.heap.size ≤ k_) ∧ k_ ≠ aa)) (vM au.out) hg hat);replace ae := aK (Kd.V_afterv (ok := (fun k_ => ((an k_ ∨ ab k_ ∨ ac k_) ∨ w.heap.size ≤ k_) ∧ k_ ≠ aa)) (vM ae.out) hg hat);replace af := aK (Kd.V_afterv (ok := (fun k_ => ((an k_ ∨ ab k_ ∨ ac k_) ∨ w.heap.size ≤ k_) ∧ k_ ≠ aa)) (vM af.out) hg hat);replace ad := aK (blk_grown (g := aa) (o := .cells #[.string ah,.slice ao aj.length ap,.slice aq ak.length ar] 36 (0,0)) (kM ad.out) hg (Kd.N_away ai.out (fun _ hk => hk.2)));replace HB := aK (hb);have aA := aK (ho);clear ho hb hg hat;obtain ⟨co,cp,cq⟩ := Kd.N_slice aA.out;subst cq)|((with_reducible refine gate_callee (f := 12) rfl ?_);refine gL 27 Tryz.func12 #[.slice co aC.length cp] ?_;(with_reducible refine (r43_Right.calls k _ _ aC aD _ ?aw ?ax A7.out).mono ?_);(case aw => exact cM (Kd.N_reads' aA.out).2.2);(case ax => exact (Kd.N_reads' aA.out).2.1);rintro e ds ⟨rfl,hb⟩;refine ⟨_,rfl,?_⟩;replace au := aK (Kd.V_below (vM au.out) hb);replace ae := aK (Kd.V_below (vM ae.out) hb);replace af := aK (Kd.V_below (vM af.out) hb);replace ad := aK (blk_below (kM ad.out) hb);replace HB := aK (below_step (bG HB.out) hb);(try clear hb);(try clear hk)))
    go_ret2
    exact ⟨_,by first|rfl|(simp [errW_none,errW_some] <;> rfl)|(simp [*,errW_none,errW_some] <;> rfl),by first|exact Kd.S_nil _ _ _ _ _|exact Kd.N_nil _ _ _ _ _|exact Kd.V_nil _ _ _ _ _|exact Kd.Q_nil _ _ _ _ _|exact Kd.R_nil _ _ _ _ _,bG HB.out⟩
  ·rw [if_neg c5] at H
   have ch := decide_eq_false c5
   clear c5
   obtain ⟨cZ,H⟩ := iS H
   have c1 := decide_eq_true cZ
   clear cZ
   obtain ⟨da,H⟩ := iS H
   have db := decide_eq_true da
   clear da
   obtain ⟨ay,a1⟩ : ∃ y_ : List (S36),y_ = (al.set (ag : Int).toNat (⟨ah,aj,ak⟩ : S36)) := ⟨_,rfl⟩
   replace H : ((r43_Right.f k ay).bind fun aE => (if aE = 0 then (some (ay,0)) else (some (([] : List (S36)),aE)))) = some (r1,r2) := by first|(rw [a1];with_reducible exact H)|(have a6 := (Option.bind_some _ _).symm.trans H;rw [a1];with_reducible exact a6)|(have a6 := (Option.bind_some _ _).symm.trans H;with_reducible exact a6)|with_reducible exact H|(rw [a1];exact H)|exact H
   have bp := aK a1
   clear a1
   replace H := Option.bind_eq_some_iff.mp H
   obtain ⟨aE,b4,H⟩ := H
   have dc := aK b4
   clear b4
   by_cases bs : aE = 0
   ·rw [if_pos bs] at H
    have b5 := beq_iff_eq.mpr bs
    have b6 := bne_eq_false_iff_eq.mpr bs
    clear bs
    simp only [Option.some.injEq,Prod.mk.injEq] at H
    obtain ⟨rfl,rfl⟩ := H
    go_enter Tryz.func24,Tryz.ntmps24
    go_wp2_with (first|((with_reducible refine gate_dst (N := 3) rfl ?_);refine box_event ?hg (N := 3) ?hd (cs := #[.string ah,.slice ao aj.length ap,.slice aq ak.length ar]) (t := 36) ?hr ?_;(case hd => rfl);(case hg => rfl);(case hr => first|(go_simp;done)|(go_simp;rfl));intro aa hg dg hbox hb;replace au := aK (Kd.V_below (Kd.V_elderB (vM au.out) aa (Nat.le_of_eq hg.symm)) hb);replace ae := aK (Kd.V_below (Kd.V_elderB (vM ae.out) aa (Nat.le_of_eq hg.symm)) hb);replace af := aK (Kd.V_below (Kd.V_elderB (vM af.out) aa (Nat.le_of_eq hg.symm)) hb);have ad := aK (hbox);have aQ := aK ((by rw [hg];exact (below_size (bM HB.out)) : w.heap.size ≤ aa));have bf := Ge.mk aQ.out;have aT := aK ((by rw [hg];exact (below_size (bM HB.out)) : w.heap.size ≤ aa));have bg := Ge.mk aT.out;replace HB := aK (below_step (bM HB.out) hb);clear hb hbox hg)|((with_reducible refine gate_dst (N := 9) rfl ?_);refine Kd.N_lit k36 _ 36 ?hg (N' := 9) ?hd (xs := ([] : List (S36))) (inner := []) (ok := (fun k_ => ((an k_ ∨ ab k_ ∨ ac k_) ∨ w.heap.size ≤ k_) ∧ k_ ≠ aa)) (okp := (fun k_ => ((an k_ ∨ ab k_ ∨ ac k_) ∨ w.heap.size ≤ k_) ∧ k_ ≠ aa)) ?hr ?hp (fun _ hk => hk) ((show ∀ k_,dg.heap.size ≤ k_ → (fun k_ => ((an k_ ∨ ab k_ ∨ ac k_) ∨ w.heap.size ≤ k_) ∧ k_ ≠ aa) k_ from fun k_ hk => ⟨(.inr (Nat.le_trans (below_size (bG HB.out)) hk)),Kd.freshB (g := aa) (o := .cells #[.string ah,.slice ao aj.length ap,.slice aq ak.length ar] 36 (0,0)) (kM ad.out) k_ hk⟩) _ (Nat.le_refl _)) (Below.refl _ _) (Nat.le_refl _) (by simp) ?_;(case hd => rfl);(case hg => rfl);(case hr => first|(go_simp;done)|(go_simp;rfl));(case hp => exact (Reps.none _ _));intro aG dt a2 hb hg_ hnew_;clear hg_ hnew_;(first|rw [← aM.out] at a2|(simp only [Int.reduceToNat] at a2;rw [← aM.out] at a2));replace au := aK (Kd.V_elder' (vM au.out) (Kd.N_base a2) hb);replace ae := aK (Kd.V_elder' (vM ae.out) (Kd.N_base a2) hb);replace af := aK (Kd.V_elder' (vM af.out) (Kd.N_base a2) hb);have az := aK (Kd.N_lower a2 (below_size (bG HB.out)));replace ad := aK (blk_below (kM ad.out) hb);replace HB := aK (below_step (bG HB.out) hb);clear hb a2)|((with_reducible refine gate_builtin (b := .append) (xs := #[.tmp 9,.tmp 10]) rfl ?_);at_builtin;refine Kd.N_append_rows k36 (w0 := w) w.heap.size rfl (.tmp 9) (.tmp 10) 22 36 (.agg #[(.string ⟨#[]⟩),(.slice none 0 0),(.slice none 0 0)]) 64 rfl Tryz.underlying22 info36 rfl (by decide) (by omega) aG aN l0 _ _ _ (fun k_ => ((an k_ ∨ ab k_ ∨ ac k_) ∨ w.heap.size ≤ k_) ∧ k_ ≠ aa) (fun k_ => ((fun k_ => ((an k_ ∨ ab k_ ∨ ac k_) ∨ w.heap.size ≤ k_) ∧ k_ ≠ aa)) k_ ∧ some k_ ≠ (aG : Value).ownBlock) rfl rfl ?aO ?aR (fun _ hk => hk) ?aF ?aB ?aS ?aL ?_;(case aR => exact (by skip;exact Kd.V_F (Kd.V_mono (ok' := (fun k_ => ((fun k_ => ((an k_ ∨ ab k_ ∨ ac k_) ∨ w.heap.size ≤ k_) ∧ k_ ≠ aa)) k_ ∧ some k_ ≠ (aG : Value).ownBlock)) (au.out) (fun k_ hk => ⟨⟨hk.1.1,hk.1.2⟩,hk.2⟩))));(case aB => exact (bG HB.out));(case aF => exact (fun k_ hk => ⟨(.inr (Nat.le_trans (below_size (bG HB.out)) hk)),Kd.freshB (g := aa) (o := .cells #[.string ah,.slice ao aj.length ap,.slice aq ak.length ar] 36 (0,0)) (kM ad.out) k_ hk⟩));(case aO => exact (nM az.out));(case aS => exact (below_size (bG HB.out)));(case aL => have := bn.out;omega);intro av aU ho hb hg hat;rw [← bc.out] at ho;replace au := aK (Kd.V_afterv (ok := (fun k_ => ((an k_ ∨ ab k_ ∨ ac k_) ∨ w.heap.size ≤ k_) ∧ k_ ≠ aa)) (vM au.out) hg hat);replace ae := aK (Kd.V_afterv (ok := (fun k_ => ((an k_ ∨ ab k_ ∨ ac k_) ∨ w.heap.size ≤ k_) ∧ k_ ≠ aa)) (vM ae.out) hg hat);replace af := aK (Kd.V_afterv (ok := (fun k_ => ((an k_ ∨ ab k_ ∨ ac k_) ∨ w.heap.size ≤ k_) ∧ k_ ≠ aa)) (vM af.out) hg hat);replace ad := aK (blk_grown (g := aa) (o := .cells #[.string ah,.slice ao aj.length ap,.slice aq ak.length ar] 36 (0,0)) (kM ad.out) hg (Kd.N_away az.out (fun _ hk => hk.2)));replace HB := aK (hb);have ai := aK (ho);clear ho hb hg hat;obtain ⟨_,_,_,_,_,_⟩ := bk3_ ad.out)|((with_reducible refine gate_callee (f := 36) rfl ?_);refine gL 15 Tryz.func36 #[.slice A0 l0.length c0,.string ah] ?_;(with_reducible refine (r43_at.calls k _ _ l0 ah ag _ ?aw ?ax A4.out).mono ?_);(case aw => exact cM (Kd.V_reads' au.out).2.2);(case ax => exact (Kd.V_reads' au.out).2.1);rintro e w' ⟨rfl,⟨nd,rfl⟩⟩;refine ⟨_,rfl,?_⟩;(try (rw [drewN_self aU];generalize hq_ : World.drewN aU _ = aU;have b7 : Aside0 (Kd.V k36 36 aU w.heap.size (fun k_ => ((an k_ ∨ ab k_ ∨ ac k_) ∨ w.heap.size ≤ k_) ∧ some k_ ≠ (av : Value).ownBlock ∧ k_ ≠ aa) (.slice A0 l0.length c0) l0) := ⟨by rw [← hq_];exact (by (with_reducible repeat (first|apply Kd.V_alloc|apply Kd.V_drewN|apply Kd.V_drew));exact Kd.V_mono au.out (fun _ hk => ⟨hk.1.1,⟨hk.2,hk.1.2⟩⟩))⟩;have b8 : Aside0 (Kd.V (Kd.int .i64) 3 aU w.heap.size (fun k_ => ((an k_ ∨ ab k_ ∨ ac k_) ∨ w.heap.size ≤ k_) ∧ some k_ ≠ (av : Value).ownBlock ∧ k_ ≠ aa) (.slice ao aj.length ap) aj) := ⟨by rw [← hq_];exact (by (with_reducible repeat (first|apply Kd.V_alloc|apply Kd.V_drewN|apply Kd.V_drew));exact Kd.V_mono ae.out (fun _ hk => ⟨hk.1.1,⟨hk.2,hk.1.2⟩⟩))⟩;have b9 : Aside0 (Kd.V Kd.string 9 aU w.heap.size (fun k_ => ((an k_ ∨ ab k_ ∨ ac k_) ∨ w.heap.size ≤ k_) ∧ some k_ ≠ (av : Value).ownBlock ∧ k_ ≠ aa) (.slice aq ak.length ar) ak) := ⟨by rw [← hq_];exact (by (with_reducible repeat (first|apply Kd.V_alloc|apply Kd.V_drewN|apply Kd.V_drew));exact Kd.V_mono af.out (fun _ hk => ⟨hk.1.1,⟨hk.2,hk.1.2⟩⟩))⟩;have ca : Aside0 (Kd.N k36 36 aU w.heap.size (fun k_ => ((an k_ ∨ ab k_ ∨ ac k_) ∨ w.heap.size ≤ k_) ∧ k_ ≠ aa) av al) := ⟨by rw [← hq_];exact (nM ai.out)⟩;have cb : Aside0 (aU.heap[aa]? = some (.cells #[.string ah,.slice ao aj.length ap,.slice aq ak.length ar] 36 (0,0))) := ⟨by rw [← hq_];exact (kM ad.out)⟩;have cc : Aside0 (Below w.heap.size w aU) := ⟨by rw [← hq_];exact (bG HB.out)⟩;clear au ae af ai ad HB hq_;have au := b7;have ae := b8;have af := b9;have ai := ca;have ad := cb;have HB := cc;clear b7 b8 b9 ca cb cc));(try (obtain ⟨cr,ct,cu,cv,cw,cx⟩ := bk3_ ad.out));have bu : 0 ≤ (ag : Int) := dA;have bv : (ag : Int) < ((al.length : Int) : Int) := dA;obtain ⟨am,aJ,bh,bi,bx,cy,bj⟩ := Kd.N_form ai.out (by omega);(first|cases bh|(injection bh with ea_ en_ ec_;(first|subst ea_|(injection ea_ with ea_;subst ea_));subst ec_;clear en_));have a7 := aK bi;have cz := aK bj;clear bi bx bj;obtain ⟨cA,bk,bm,aH,aI⟩ := Kd.N_elem ai.out z36 (ag : Int) bu bv;obtain ⟨a8,a9,ba,bb,rfl,bz,bB,bC,bD⟩ := k36_openF bm;have bE : aU.cell? ⟨am,(ag : Int).toNat * 3,none⟩ = some (.string ((rd_T36 al ag).f0)) := aH 0 _ rfl;have bF : aU.cell? ⟨am,(ag : Int).toNat * 3 + 1,none⟩ = some (.slice a8 ((rd_T36 al ag).f1).length a9) := aH 1 _ rfl;have bH : aU.cell? ⟨am,(ag : Int).toNat * 3 + 2,none⟩ = some (.slice ba ((rd_T36 al ag).f2).length bb) := aH 2 _ rfl;have bI : aU.frozen? ⟨am,(ag : Int).toNat * 3,none⟩ = false := aI 0;have bJ : aU.frozen? ⟨am,(ag : Int).toNat * 3 + 1,none⟩ = false := aI 1;have bK : aU.frozen? ⟨am,(ag : Int).toNat * 3 + 2,none⟩ = false := aI 2;clear bk aH aI bm;replace bu := eq_true bu;replace bv := eq_true bv;have cd := aK (show Kd.N k36 36 aU w.heap.size (fun k_ => ((an k_ ∨ ab k_ ∨ ac k_) ∨ w.heap.size ≤ k_) ∧ k_ ≠ aa) (.slice (some ⟨am,0,none⟩) al.length aJ) al from (nM ai.out));obtain ⟨dh,bq,ce,a3,bd⟩ := Kd.N_elem cd.out z36 (ag : Int) (dA) (by have h_ : (ag : Int) < ((al.length : Int) : Int) := dA;first|exact h_|(have e_ := (Kd.N_reads' ai.out).1;omega)|simpa using h_);obtain ⟨cB,cC,cD,cE,rfl,cF,cG,cH,cI⟩ := k36_openF ce;have bL := Kd.N_seg cd.out (ag : Int) (dA) (by have h_ : (ag : Int) < ((al.length : Int) : Int) := dA;first|exact h_|(have e_ := (Kd.N_reads' ai.out).1;omega)|simpa using h_) (seg := [.string ah,.slice ao aj.length ap,.slice aq ak.length ar]) (j := 0) bq a3 (show 3 ≤ 3 from by decide) (x' := (⟨ah,aj,ak⟩ : S36)) (k36_mkF _ _ (⟨ah,aj,ak⟩ : S36) (Kd.V_reads' (Kd.V_mono (ok' := (fun k_ => ((fun k_ => ((an k_ ∨ ab k_ ∨ ac k_) ∨ w.heap.size ≤ k_) ∧ k_ ≠ aa)) k_ ∧ k_ ≠ am)) (ae.out) (fun k_ hk => by first|exact ⟨⟨hk.1.1,hk.1.2⟩,fun e_ => (hk.2) (by rw [e_];rfl)⟩|exact ⟨⟨hk.1,hk.2.2⟩,fun e_ => (hk.2.1) (by rw [e_];rfl)⟩))).2.1 (Kd.V_F (Kd.V_mono (ok' := (fun k_ => ((fun k_ => ((an k_ ∨ ab k_ ∨ ac k_) ∨ w.heap.size ≤ k_) ∧ k_ ≠ aa)) k_ ∧ k_ ≠ am)) (ae.out) (fun k_ hk => by first|exact ⟨⟨hk.1.1,hk.1.2⟩,fun e_ => (hk.2) (by rw [e_];rfl)⟩|exact ⟨⟨hk.1,hk.2.2⟩,fun e_ => (hk.2.1) (by rw [e_];rfl)⟩))) (Kd.V_reads' (Kd.V_mono (ok' := (fun k_ => ((fun k_ => ((an k_ ∨ ab k_ ∨ ac k_) ∨ w.heap.size ≤ k_) ∧ k_ ≠ aa)) k_ ∧ k_ ≠ am)) (af.out) (fun k_ hk => by first|exact ⟨⟨hk.1.1,hk.1.2⟩,fun e_ => (hk.2) (by rw [e_];rfl)⟩|exact ⟨⟨hk.1,hk.2.2⟩,fun e_ => (hk.2.1) (by rw [e_];rfl)⟩))).2.1 (Kd.V_F (Kd.V_mono (ok' := (fun k_ => ((fun k_ => ((an k_ ∨ ab k_ ∨ ac k_) ∨ w.heap.size ≤ k_) ∧ k_ ≠ aa)) k_ ∧ k_ ≠ am)) (af.out) (fun k_ hk => by first|exact ⟨⟨hk.1.1,hk.1.2⟩,fun e_ => (hk.2) (by rw [e_];rfl)⟩|exact ⟨⟨hk.1,hk.2.2⟩,fun e_ => (hk.2.1) (by rw [e_];rfl)⟩)))) (fun _ hk => hk);have bN := a3 0 _ rfl;(try simp only [show (k36).sz = 3 from rfl,Nat.mul_one,Nat.add_zero] at bN);have bO := bd 0;(try simp only [show (k36).sz = 3 from rfl,Nat.mul_one,Nat.add_zero] at bO);have bP := a3 1 _ rfl;(try simp only [show (k36).sz = 3 from rfl,Nat.mul_one,Nat.add_zero] at bP);have bQ := bd 1;(try simp only [show (k36).sz = 3 from rfl,Nat.mul_one,Nat.add_zero] at bQ);have bR := a3 2 _ rfl;(try simp only [show (k36).sz = 3 from rfl,Nat.mul_one,Nat.add_zero] at bR);have bS := bd 2;(try simp only [show (k36).sz = 3 from rfl,Nat.mul_one,Nat.add_zero] at bS);clear bq a3 bd ce)|((with_reducible refine gate_store (t := 36) (p := 25) rfl ?_);refine store_event (t := 36) (p := 25) (v := ?cJ) (w1 := (((aU.setCell ⟨am,(ag : Int).toNat * 3,none⟩ (.string ah)).setCell ⟨am,(ag : Int).toNat * 3 + 1,none⟩ (.slice ao aj.length ap)).setCell ⟨am,(ag : Int).toNat * 3 + 2,none⟩ (.slice aq ak.length ar))) ?hg ?ho ?hn ?hr ?_;(case ho => rfl);(case hg => rfl);(case hn => rfl);(case hr => first|(go_simp;done)|(go_simp;rfl));intro cK hw;have hg : aU.grownBy cK (some am) := (by rw [hw];exact bL.2);have hp_ : Kd.N k36 36 cK w.heap.size (fun k_ => ((an k_ ∨ ab k_ ∨ ac k_) ∨ w.heap.size ≤ k_) ∧ k_ ≠ aa) (.slice (some ⟨am,0,none⟩) al.length aJ) ay := (by rw [hw,bp.out];exact bL.1);clear bL;replace au := aK (Kd.V_afterv (v := (.slice (some ⟨am,0,none⟩) al.length aJ)) (v1 := (.slice (some ⟨am,0,none⟩) al.length aJ)) (ok := (fun k_ => ((an k_ ∨ ab k_ ∨ ac k_) ∨ w.heap.size ≤ k_) ∧ k_ ≠ aa)) (by (with_reducible repeat (first|apply Kd.V_alloc|apply Kd.V_drewN|apply Kd.V_drew));exact Kd.V_mono au.out (fun k_ hk => by first|exact hk|exact ⟨⟨hk.1,hk.2.2⟩,hk.2.1⟩)) hg (.inl rfl));replace ae := aK (Kd.V_afterv (v := (.slice (some ⟨am,0,none⟩) al.length aJ)) (v1 := (.slice (some ⟨am,0,none⟩) al.length aJ)) (ok := (fun k_ => ((an k_ ∨ ab k_ ∨ ac k_) ∨ w.heap.size ≤ k_) ∧ k_ ≠ aa)) (by (with_reducible repeat (first|apply Kd.V_alloc|apply Kd.V_drewN|apply Kd.V_drew));exact Kd.V_mono ae.out (fun k_ hk => by first|exact hk|exact ⟨⟨hk.1,hk.2.2⟩,hk.2.1⟩)) hg (.inl rfl));replace af := aK (Kd.V_afterv (v := (.slice (some ⟨am,0,none⟩) al.length aJ)) (v1 := (.slice (some ⟨am,0,none⟩) al.length aJ)) (ok := (fun k_ => ((an k_ ∨ ab k_ ∨ ac k_) ∨ w.heap.size ≤ k_) ∧ k_ ≠ aa)) (by (with_reducible repeat (first|apply Kd.V_alloc|apply Kd.V_drewN|apply Kd.V_drew));exact Kd.V_mono af.out (fun k_ hk => by first|exact hk|exact ⟨⟨hk.1,hk.2.2⟩,hk.2.1⟩)) hg (.inl rfl));replace ad := aK (blk_grown (g := aa) (o := .cells #[.string ah,.slice ao aj.length ap,.slice aq ak.length ar] 36 (0,0)) (kM ad.out) hg (Kd.N_away ai.out (fun _ hk => hk.2)));replace ai := aK (hp_);replace HB := aK ((by rw [hw];exact below_set (below_set (below_set (HB.out) a7.out) a7.out) a7.out : Below w.heap.size w cK));clear hg hw hp_)|(go_at_call 12;refine calls_of_args (args' := #[.slice (some ⟨am,0,none⟩) ay.length aJ]) (by first|with_reducible rfl|(rw [show ay.length = al.length from (Kd.N_reads' ai.out).1.symm] <;> rfl)|(simp only [List.length_nil];done)|(simp only [List.length_nil];with_reducible rfl)) ?_;(with_reducible refine (r43_Right.calls k _ _ ay aE _ ?aw ?ax dc.out).mono ?_);(case aw => exact cM (Kd.N_reads' ai.out).2.2);(case ax => rw [show ay.length = al.length from (Kd.N_reads' ai.out).1.symm];exact (Kd.N_reads' ai.out).2.1);rintro e du ⟨rfl,hb⟩;replace au := aK (Kd.V_below (vM au.out) hb);replace ae := aK (Kd.V_below (vM ae.out) hb);replace af := aK (Kd.V_below (vM af.out) hb);replace ai := aK (Kd.N_below (nM ai.out) hb);replace ad := aK (blk_below (kM ad.out) hb);replace HB := aK (below_step (bG HB.out) hb);(try clear hb);(try clear hk)))
    go_ret2
    exact ⟨_,by first|rfl|(simp [errW_none,errW_some] <;> rfl)|(simp [*,errW_none,errW_some] <;> rfl),by (with_reducible repeat (first|apply Kd.N_alloc|apply Kd.N_drewN|apply Kd.N_drew));exact Kd.N_mono ai.out (fun _ hk => hk.1),bG HB.out⟩
   ·rw [if_neg bs] at H
    have b5 := beq_eq_false_iff_ne.mpr bs
    have b6 := bne_iff_ne.mpr bs
    simp only [Option.some.injEq,Prod.mk.injEq] at H
    obtain ⟨rfl,rfl⟩ := H
    go_enter Tryz.func24,Tryz.ntmps24
    go_wp2_with (first|((with_reducible refine gate_dst (N := 3) rfl ?_);refine box_event ?hg (N := 3) ?hd (cs := #[.string ah,.slice ao aj.length ap,.slice aq ak.length ar]) (t := 36) ?hr ?_;(case hd => rfl);(case hg => rfl);(case hr => first|(go_simp;done)|(go_simp;rfl));intro aa hg di hbox hb;replace au := aK (Kd.V_below (Kd.V_elderB (vM au.out) aa (Nat.le_of_eq hg.symm)) hb);replace ae := aK (Kd.V_below (Kd.V_elderB (vM ae.out) aa (Nat.le_of_eq hg.symm)) hb);replace af := aK (Kd.V_below (Kd.V_elderB (vM af.out) aa (Nat.le_of_eq hg.symm)) hb);have ad := aK (hbox);have aQ := aK ((by rw [hg];exact (below_size (bM HB.out)) : w.heap.size ≤ aa));have bf := Ge.mk aQ.out;have aT := aK ((by rw [hg];exact (below_size (bM HB.out)) : w.heap.size ≤ aa));have bg := Ge.mk aT.out;replace HB := aK (below_step (bM HB.out) hb);clear hb hbox hg)|((with_reducible refine gate_dst (N := 9) rfl ?_);refine Kd.N_lit k36 _ 36 ?hg (N' := 9) ?hd (xs := ([] : List (S36))) (inner := []) (ok := (fun k_ => ((an k_ ∨ ab k_ ∨ ac k_) ∨ w.heap.size ≤ k_) ∧ k_ ≠ aa)) (okp := (fun k_ => ((an k_ ∨ ab k_ ∨ ac k_) ∨ w.heap.size ≤ k_) ∧ k_ ≠ aa)) ?hr ?hp (fun _ hk => hk) ((show ∀ k_,di.heap.size ≤ k_ → (fun k_ => ((an k_ ∨ ab k_ ∨ ac k_) ∨ w.heap.size ≤ k_) ∧ k_ ≠ aa) k_ from fun k_ hk => ⟨(.inr (Nat.le_trans (below_size (bG HB.out)) hk)),Kd.freshB (g := aa) (o := .cells #[.string ah,.slice ao aj.length ap,.slice aq ak.length ar] 36 (0,0)) (kM ad.out) k_ hk⟩) _ (Nat.le_refl _)) (Below.refl _ _) (Nat.le_refl _) (by simp) ?_;(case hd => rfl);(case hg => rfl);(case hr => first|(go_simp;done)|(go_simp;rfl));(case hp => exact (Reps.none _ _));intro aG dv a4 hb hg_ hnew_;clear hg_ hnew_;(first|rw [← aM.out] at a4|(simp only [Int.reduceToNat] at a4;rw [← aM.out] at a4));replace au := aK (Kd.V_elder' (vM au.out) (Kd.N_base a4) hb);replace ae := aK (Kd.V_elder' (vM ae.out) (Kd.N_base a4) hb);replace af := aK (Kd.V_elder' (vM af.out) (Kd.N_base a4) hb);have az := aK (Kd.N_lower a4 (below_size (bG HB.out)));replace ad := aK (blk_below (kM ad.out) hb);replace HB := aK (below_step (bG HB.out) hb);clear hb a4)|((with_reducible refine gate_builtin (b := .append) (xs := #[.tmp 9,.tmp 10]) rfl ?_);at_builtin;refine Kd.N_append_rows k36 (w0 := w) w.heap.size rfl (.tmp 9) (.tmp 10) 22 36 (.agg #[(.string ⟨#[]⟩),(.slice none 0 0),(.slice none 0 0)]) 64 rfl Tryz.underlying22 info36 rfl (by decide) (by omega) aG aN l0 _ _ _ (fun k_ => ((an k_ ∨ ab k_ ∨ ac k_) ∨ w.heap.size ≤ k_) ∧ k_ ≠ aa) (fun k_ => ((fun k_ => ((an k_ ∨ ab k_ ∨ ac k_) ∨ w.heap.size ≤ k_) ∧ k_ ≠ aa)) k_ ∧ some k_ ≠ (aG : Value).ownBlock) rfl rfl ?aO ?aR (fun _ hk => hk) ?aF ?aB ?aS ?aL ?_;(case aR => exact (by skip;exact Kd.V_F (Kd.V_mono (ok' := (fun k_ => ((fun k_ => ((an k_ ∨ ab k_ ∨ ac k_) ∨ w.heap.size ≤ k_) ∧ k_ ≠ aa)) k_ ∧ some k_ ≠ (aG : Value).ownBlock)) (au.out) (fun k_ hk => ⟨⟨hk.1.1,hk.1.2⟩,hk.2⟩))));(case aB => exact (bG HB.out));(case aF => exact (fun k_ hk => ⟨(.inr (Nat.le_trans (below_size (bG HB.out)) hk)),Kd.freshB (g := aa) (o := .cells #[.string ah,.slice ao aj.length ap,.slice aq ak.length ar] 36 (0,0)) (kM ad.out) k_ hk⟩));(case aO => exact (nM az.out));(case aS => exact (below_size (bG HB.out)));(case aL => have := bn.out;omega);intro av aV ho hb hg hat;rw [← bc.out] at ho;replace au := aK (Kd.V_afterv (ok := (fun k_ => ((an k_ ∨ ab k_ ∨ ac k_) ∨ w.heap.size ≤ k_) ∧ k_ ≠ aa)) (vM au.out) hg hat);replace ae := aK (Kd.V_afterv (ok := (fun k_ => ((an k_ ∨ ab k_ ∨ ac k_) ∨ w.heap.size ≤ k_) ∧ k_ ≠ aa)) (vM ae.out) hg hat);replace af := aK (Kd.V_afterv (ok := (fun k_ => ((an k_ ∨ ab k_ ∨ ac k_) ∨ w.heap.size ≤ k_) ∧ k_ ≠ aa)) (vM af.out) hg hat);replace ad := aK (blk_grown (g := aa) (o := .cells #[.string ah,.slice ao aj.length ap,.slice aq ak.length ar] 36 (0,0)) (kM ad.out) hg (Kd.N_away az.out (fun _ hk => hk.2)));replace HB := aK (hb);have ai := aK (ho);clear ho hb hg hat;obtain ⟨_,_,_,_,_,_⟩ := bk3_ ad.out)|((with_reducible refine gate_callee (f := 36) rfl ?_);refine gL 15 Tryz.func36 #[.slice A0 l0.length c0,.string ah] ?_;(with_reducible refine (r43_at.calls k _ _ l0 ah ag _ ?aw ?ax A4.out).mono ?_);(case aw => exact cM (Kd.V_reads' au.out).2.2);(case ax => exact (Kd.V_reads' au.out).2.1);rintro e w' ⟨rfl,⟨nd,rfl⟩⟩;refine ⟨_,rfl,?_⟩;(try (rw [drewN_self aV];generalize hq_ : World.drewN aV _ = aV;have b7 : Aside0 (Kd.V k36 36 aV w.heap.size (fun k_ => ((an k_ ∨ ab k_ ∨ ac k_) ∨ w.heap.size ≤ k_) ∧ some k_ ≠ (av : Value).ownBlock ∧ k_ ≠ aa) (.slice A0 l0.length c0) l0) := ⟨by rw [← hq_];exact (by (with_reducible repeat (first|apply Kd.V_alloc|apply Kd.V_drewN|apply Kd.V_drew));exact Kd.V_mono au.out (fun _ hk => ⟨hk.1.1,⟨hk.2,hk.1.2⟩⟩))⟩;have b8 : Aside0 (Kd.V (Kd.int .i64) 3 aV w.heap.size (fun k_ => ((an k_ ∨ ab k_ ∨ ac k_) ∨ w.heap.size ≤ k_) ∧ some k_ ≠ (av : Value).ownBlock ∧ k_ ≠ aa) (.slice ao aj.length ap) aj) := ⟨by rw [← hq_];exact (by (with_reducible repeat (first|apply Kd.V_alloc|apply Kd.V_drewN|apply Kd.V_drew));exact Kd.V_mono ae.out (fun _ hk => ⟨hk.1.1,⟨hk.2,hk.1.2⟩⟩))⟩;have b9 : Aside0 (Kd.V Kd.string 9 aV w.heap.size (fun k_ => ((an k_ ∨ ab k_ ∨ ac k_) ∨ w.heap.size ≤ k_) ∧ some k_ ≠ (av : Value).ownBlock ∧ k_ ≠ aa) (.slice aq ak.length ar) ak) := ⟨by rw [← hq_];exact (by (with_reducible repeat (first|apply Kd.V_alloc|apply Kd.V_drewN|apply Kd.V_drew));exact Kd.V_mono af.out (fun _ hk => ⟨hk.1.1,⟨hk.2,hk.1.2⟩⟩))⟩;have ca : Aside0 (Kd.N k36 36 aV w.heap.size (fun k_ => ((an k_ ∨ ab k_ ∨ ac k_) ∨ w.heap.size ≤ k_) ∧ k_ ≠ aa) av al) := ⟨by rw [← hq_];exact (nM ai.out)⟩;have cb : Aside0 (aV.heap[aa]? = some (.cells #[.string ah,.slice ao aj.length ap,.slice aq ak.length ar] 36 (0,0))) := ⟨by rw [← hq_];exact (kM ad.out)⟩;have cc : Aside0 (Below w.heap.size w aV) := ⟨by rw [← hq_];exact (bG HB.out)⟩;clear au ae af ai ad HB hq_;have au := b7;have ae := b8;have af := b9;have ai := ca;have ad := cb;have HB := cc;clear b7 b8 b9 ca cb cc));(try (obtain ⟨cr,ct,cu,cv,cw,cx⟩ := bk3_ ad.out));have bu : 0 ≤ (ag : Int) := dA;have bv : (ag : Int) < ((al.length : Int) : Int) := dA;obtain ⟨am,aJ,bh,bi,bx,cy,bj⟩ := Kd.N_form ai.out (by omega);(first|cases bh|(injection bh with ea_ en_ ec_;(first|subst ea_|(injection ea_ with ea_;subst ea_));subst ec_;clear en_));have a7 := aK bi;have cz := aK bj;clear bi bx bj;obtain ⟨cA,bk,bm,aH,aI⟩ := Kd.N_elem ai.out z36 (ag : Int) bu bv;obtain ⟨a8,a9,ba,bb,rfl,bz,bB,bC,bD⟩ := k36_openF bm;have bE : aV.cell? ⟨am,(ag : Int).toNat * 3,none⟩ = some (.string ((rd_T36 al ag).f0)) := aH 0 _ rfl;have bF : aV.cell? ⟨am,(ag : Int).toNat * 3 + 1,none⟩ = some (.slice a8 ((rd_T36 al ag).f1).length a9) := aH 1 _ rfl;have bH : aV.cell? ⟨am,(ag : Int).toNat * 3 + 2,none⟩ = some (.slice ba ((rd_T36 al ag).f2).length bb) := aH 2 _ rfl;have bI : aV.frozen? ⟨am,(ag : Int).toNat * 3,none⟩ = false := aI 0;have bJ : aV.frozen? ⟨am,(ag : Int).toNat * 3 + 1,none⟩ = false := aI 1;have bK : aV.frozen? ⟨am,(ag : Int).toNat * 3 + 2,none⟩ = false := aI 2;clear bk aH aI bm;replace bu := eq_true bu;replace bv := eq_true bv;have cf := aK (show Kd.N k36 36 aV w.heap.size (fun k_ => ((an k_ ∨ ab k_ ∨ ac k_) ∨ w.heap.size ≤ k_) ∧ k_ ≠ aa) (.slice (some ⟨am,0,none⟩) al.length aJ) al from (nM ai.out));obtain ⟨dj,br,cg,a5,be⟩ := Kd.N_elem cf.out z36 (ag : Int) (dA) (by have h_ : (ag : Int) < ((al.length : Int) : Int) := dA;first|exact h_|(have e_ := (Kd.N_reads' ai.out).1;omega)|simpa using h_);obtain ⟨cL,cN,cO,cP,rfl,cQ,cR,cS,cT⟩ := k36_openF cg;have bT := Kd.N_seg cf.out (ag : Int) (dA) (by have h_ : (ag : Int) < ((al.length : Int) : Int) := dA;first|exact h_|(have e_ := (Kd.N_reads' ai.out).1;omega)|simpa using h_) (seg := [.string ah,.slice ao aj.length ap,.slice aq ak.length ar]) (j := 0) br a5 (show 3 ≤ 3 from by decide) (x' := (⟨ah,aj,ak⟩ : S36)) (k36_mkF _ _ (⟨ah,aj,ak⟩ : S36) (Kd.V_reads' (Kd.V_mono (ok' := (fun k_ => ((fun k_ => ((an k_ ∨ ab k_ ∨ ac k_) ∨ w.heap.size ≤ k_) ∧ k_ ≠ aa)) k_ ∧ k_ ≠ am)) (ae.out) (fun k_ hk => by first|exact ⟨⟨hk.1.1,hk.1.2⟩,fun e_ => (hk.2) (by rw [e_];rfl)⟩|exact ⟨⟨hk.1,hk.2.2⟩,fun e_ => (hk.2.1) (by rw [e_];rfl)⟩))).2.1 (Kd.V_F (Kd.V_mono (ok' := (fun k_ => ((fun k_ => ((an k_ ∨ ab k_ ∨ ac k_) ∨ w.heap.size ≤ k_) ∧ k_ ≠ aa)) k_ ∧ k_ ≠ am)) (ae.out) (fun k_ hk => by first|exact ⟨⟨hk.1.1,hk.1.2⟩,fun e_ => (hk.2) (by rw [e_];rfl)⟩|exact ⟨⟨hk.1,hk.2.2⟩,fun e_ => (hk.2.1) (by rw [e_];rfl)⟩))) (Kd.V_reads' (Kd.V_mono (ok' := (fun k_ => ((fun k_ => ((an k_ ∨ ab k_ ∨ ac k_) ∨ w.heap.size ≤ k_) ∧ k_ ≠ aa)) k_ ∧ k_ ≠ am)) (af.out) (fun k_ hk => by first|exact ⟨⟨hk.1.1,hk.1.2⟩,fun e_ => (hk.2) (by rw [e_];rfl)⟩|exact ⟨⟨hk.1,hk.2.2⟩,fun e_ => (hk.2.1) (by rw [e_];rfl)⟩))).2.1 (Kd.V_F (Kd.V_mono (ok' := (fun k_ => ((fun k_ => ((an k_ ∨ ab k_ ∨ ac k_) ∨ w.heap.size ≤ k_) ∧ k_ ≠ aa)) k_ ∧ k_ ≠ am)) (af.out) (fun k_ hk => by first|exact ⟨⟨hk.1.1,hk.1.2⟩,fun e_ => (hk.2) (by rw [e_];rfl)⟩|exact ⟨⟨hk.1,hk.2.2⟩,fun e_ => (hk.2.1) (by rw [e_];rfl)⟩)))) (fun _ hk => hk);have bU := a5 0 _ rfl;(try simp only [show (k36).sz = 3 from rfl,Nat.mul_one,Nat.add_zero] at bU);have bV := be 0;(try simp only [show (k36).sz = 3 from rfl,Nat.mul_one,Nat.add_zero] at bV);have bW := a5 1 _ rfl;(try simp only [show (k36).sz = 3 from rfl,Nat.mul_one,Nat.add_zero] at bW);have bX := be 1;(try simp only [show (k36).sz = 3 from rfl,Nat.mul_one,Nat.add_zero] at bX);have bY := a5 2 _ rfl;(try simp only [show (k36).sz = 3 from rfl,Nat.mul_one,Nat.add_zero] at bY);have bZ := be 2;(try simp only [show (k36).sz = 3 from rfl,Nat.mul_one,Nat.add_zero] at bZ);clear br a5 be cg)|((with_reducible refine gate_store (t := 36) (p := 25) rfl ?_);refine store_event (t := 36) (p := 25) (v := ?cU) (w1 := (((aV.setCell ⟨am,(ag : Int).toNat * 3,none⟩ (.string ah)).setCell ⟨am,(ag : Int).toNat * 3 + 1,none⟩ (.slice ao aj.length ap)).setCell ⟨am,(ag : Int).toNat * 3 + 2,none⟩ (.slice aq ak.length ar))) ?hg ?ho ?hn ?hr ?_;(case ho => rfl);(case hg => rfl);(case hn => rfl);(case hr => first|(go_simp;done)|(go_simp;rfl));intro cV hw;have hg : aV.grownBy cV (some am) := (by rw [hw];exact bT.2);have hp_ : Kd.N k36 36 cV w.heap.size (fun k_ => ((an k_ ∨ ab k_ ∨ ac k_) ∨ w.heap.size ≤ k_) ∧ k_ ≠ aa) (.slice (some ⟨am,0,none⟩) al.length aJ) ay := (by rw [hw,bp.out];exact bT.1);clear bT;replace ai := aK (hp_);replace HB := aK ((by rw [hw];exact below_set (below_set (below_set (HB.out) a7.out) a7.out) a7.out : Below w.heap.size w cV));clear hg hw hp_)|(go_at_call 12;refine calls_of_args (args' := #[.slice (some ⟨am,0,none⟩) ay.length aJ]) (by first|with_reducible rfl|(rw [show ay.length = al.length from (Kd.N_reads' ai.out).1.symm] <;> rfl)|(simp only [List.length_nil];done)|(simp only [List.length_nil];with_reducible rfl)) ?_;(with_reducible refine (r43_Right.calls k _ _ ay aE _ ?aw ?ax dc.out).mono ?_);(case aw => exact cM (Kd.N_reads' ai.out).2.2);(case ax => rw [show ay.length = al.length from (Kd.N_reads' ai.out).1.symm];exact (Kd.N_reads' ai.out).2.1);rintro e dw ⟨rfl,hb⟩;replace HB := aK (below_step (bG HB.out) hb);(try clear hb);(try clear hk)))
    go_ret2
    exact ⟨_,by first|rfl|(simp [errW_none,errW_some] <;> rfl)|(simp [*,errW_none,errW_some] <;> rfl),by first|exact Kd.S_nil _ _ _ _ _|exact Kd.N_nil _ _ _ _ _|exact Kd.V_nil _ _ _ _ _|exact Kd.Q_nil _ _ _ _ _|exact Kd.R_nil _ _ _ _ _,bG HB.out⟩
 ·rw [if_neg c3] at H
  exact absurd H (by simp)

/-! ### l43_GroupSets: function 5 -/
mutual
def l43_GroupSets.j0 : Nat → List (S36) → ByteArray → Bool → ByteArray → List Int → List ByteArray → Option (Bool)
|0,_,_,_,_,_,_ => none
|k + 1,x0,x2,ag,aa,ab,ac => if ag = true then (some true) else ((group_Set.f k x0 aa ab ac).bind fun ad => ((r43_Set.f k x0 aa ab ac).bind fun ae => (if ad.2 = ae.2 then ((r43_Same.f k ad.1 ae.1).bind fun af => (l43_GroupSets.j1 k x0 x2 (!af))) else (l43_GroupSets.j1 k x0 x2 true))))
def l43_GroupSets.j1 : Nat → List (S36) → ByteArray → Bool → Option (Bool)
|0,_,_,_ => none
|k + 1,x0,x2,ae => if ae = true then (some false) else ((r43_Right.f k x0).bind fun ac => (if ac = 0 then ((group_Drop.f k x0 x2).bind fun aa => ((r43_Drop.f k x0 x2).bind fun ab => (if aa.2 = ab.2 then ((r43_Same.f k aa.1 ab.1).bind fun ad => (some ad)) else (some false)))) else (some true)))
end
def l43_GroupSets.f (k : Nat) (l0 : List (S36)) (aa : ByteArray) (ab : List Int) (ac : List ByteArray) (a2 : ByteArray) : Option (Bool) := (l43_alive.f k).bind fun ad => (if ad = true then ((l43_few.f k l0).bind fun ae => (if ae = true then ((l43_few.f k (([(⟨aa, ab, ac⟩ : S36)] : List (S36)))).bind fun af => (if af = true then (l43_GroupSets.j0 k l0 a2 (decide ((a2.size : Int) > 100)) aa ab ac) else (l43_GroupSets.j0 k l0 a2 true aa ab ac))) else (l43_GroupSets.j0 k l0 a2 true aa ab ac))) else (some false))
theorem l43_GroupSets.mono_l : ∀ k, (∀ y0 y1 y2 y3 y4 y5, LeO (l43_GroupSets.j0 k y0 y1 y2 y3 y4 y5) (l43_GroupSets.j0 (k + 1) y0 y1 y2 y3 y4 y5)) ∧ (∀ y0 y1 y2, LeO (l43_GroupSets.j1 k y0 y1 y2) (l43_GroupSets.j1 (k + 1) y0 y1 y2))
|0 => ⟨fun _ _ _ _ _ _ r h => by simp [l43_GroupSets.j0] at h,fun _ _ _ r h => by simp [l43_GroupSets.j1] at h⟩
|k + 1 => by
  obtain ⟨ih0,ih1⟩ := l43_GroupSets.mono_l k
  refine ⟨?_,?_⟩
  ·intro y0 y1 y2 y3 y4 y5
   unfold l43_GroupSets.j0
   repeat' (with_reducible first|exact ih1 _ _ _|exact r43_Same.mono _ _ _|exact r43_Set.mono _ _ _ _ _|exact group_Set.mono _ _ _ _ _|exact LeO.refl _|exact LeO.none _|refine LeO.ite ?_ ?_|refine LeO.bind ?_ (fun _ => ?_))
  ·intro y0 y1 y2
   unfold l43_GroupSets.j1
   repeat' (with_reducible first|exact r43_Drop.mono _ _ _|exact r43_Right.mono _ _|exact r43_Same.mono _ _ _|exact group_Drop.mono _ _ _|exact LeO.refl _|exact LeO.none _|refine LeO.ite ?_ ?_|refine LeO.bind ?_ (fun _ => ?_))
theorem l43_GroupSets.mono : ∀ a0 a1 a2 a3 a4 k, LeO (l43_GroupSets.f k a0 a1 a2 a3 a4) (l43_GroupSets.f (k + 1) a0 a1 a2 a3 a4) := by
 intro a0 a1 a2 a3 a4 k
 obtain ⟨ih0,ih1⟩ := l43_GroupSets.mono_l k
 unfold l43_GroupSets.f
 repeat' (with_reducible first|exact ih0 _ _ _ _ _ _|exact ih1 _ _ _|exact l43_alive.mono _|exact l43_few.mono _ _|exact r43_Drop.mono _ _ _|exact r43_Right.mono _ _|exact r43_Same.mono _ _ _|exact r43_Set.mono _ _ _ _ _|exact group_Drop.mono _ _ _|exact group_Set.mono _ _ _ _ _|exact LeO.refl _|exact LeO.none _|refine LeO.ite ?_ ?_|refine LeO.bind ?_ (fun _ => ?_))
theorem l43_GroupSets.calls (k : Nat) (au : Nat → Prop) (A0 : Option Addr) (c0 : Nat) (l0 : List (S36)) (al : ByteArray) (ab : Nat → Prop) (ao : Option Addr) (ap : Nat) (ah : List Int) (ac : Nat → Prop) (aq : Option Addr) (ar : Nat) (ai : List ByteArray) (a2 : ByteArray) (r : Bool) (w : World) (b7 : Kd.V k36 36 w w.heap.size (fun k_ => au k_) (.slice A0 l0.length c0) l0) (bo : Kd.V (Kd.int .i64) 3 w w.heap.size (fun k_ => ab k_) (.slice ao ah.length ap) ah) (bp : Kd.V Kd.string 9 w w.heap.size (fun k_ => ac k_) (.slice aq ai.length ar) ai) (h : l43_GroupSets.f k l0 al ah ai a2 = some r) :
  Calls Tryz.prog 5 #[.slice A0 l0.length c0,.agg #[.string al,.slice ao ah.length ap,.slice aq ai.length ar],.string a2] w fun e w' => e = .returned (.bool r) ∧ Below w.heap.size w w' := by
 have b8 := Tryz.underlying36
 have aB := aK (show Kd.V k36 36 w w.heap.size (fun k_ => ((au k_ ∨ ab k_ ∨ ac k_) ∨ w.heap.size ≤ k_)) (.slice A0 l0.length c0) l0 from Kd.V_mono b7 (fun k_ hk => .inl (.inl hk)))
 have am := aK (show Kd.V (Kd.int .i64) 3 w w.heap.size (fun k_ => ((au k_ ∨ ab k_ ∨ ac k_) ∨ w.heap.size ≤ k_)) (.slice ao ah.length ap) ah from Kd.V_mono bo (fun k_ hk => .inl (.inr (.inl hk))))
 have an := aK (show Kd.V Kd.string 9 w w.heap.size (fun k_ => ((au k_ ∨ ab k_ ∨ ac k_) ∨ w.heap.size ≤ k_)) (.slice aq ai.length ar) ai from Kd.V_mono bp (fun k_ hk => .inl (.inr (.inr hk))))
 have HB := aK (Below.refl w.heap.size w)
 unfold l43_GroupSets.f at h
 have H := h
 clear h
 replace H := Option.bind_eq_some_iff.mp H
 obtain ⟨bO,bK,H⟩ := H
 have A4 := aK bK
 clear bK
 by_cases c5 : bO = true
 ·subst c5
  rw [if_pos rfl] at H
  have bP := aK H
  clear H
  go_enter Tryz.func5,Tryz.ntmps5
  go_upto_region 3 with (first|((with_reducible refine gate_dst (N := 4) rfl ?_);(try (refine gate_guard (by rfl) ?_;dsimp only));refine box_event ?hg (N := 4) ?hd (cs := #[.string al,.slice ao ah.length ap,.slice aq ai.length ar]) (t := 36) ?hr ?_;(case hd => rfl);(case hg => rfl);(case hr => first|(go_simp;done)|(go_simp;rfl));intro aa hg w7 hbox hb;replace aB := aK (Kd.V_below (Kd.V_elderB (vM aB.out) aa (Nat.le_of_eq hg.symm)) hb);replace am := aK (Kd.V_below (Kd.V_elderB (vM am.out) aa (Nat.le_of_eq hg.symm)) hb);replace an := aK (Kd.V_below (Kd.V_elderB (vM an.out) aa (Nat.le_of_eq hg.symm)) hb);have ad := aK (hbox);have aJ := aK ((by rw [hg];exact (below_size (bM HB.out)) : w.heap.size ≤ aa));have bq := Ge.mk aJ.out;have aL := aK ((by rw [hg];exact (below_size (bM HB.out)) : w.heap.size ≤ aa));have br := Ge.mk aL.out;replace HB := aK (below_step (bM HB.out) hb);clear hb hbox hg)|((with_reducible refine gate_callee (f := 9) rfl ?_);refine gL 11 Tryz.func9 #[] ?_;(with_reducible refine (l43_alive.calls k  true _ A4.out).mono ?_);rintro e w8 ⟨rfl,hb⟩;refine ⟨_,rfl,?_⟩;replace aB := aK (Kd.V_below (vM aB.out) hb);replace am := aK (Kd.V_below (vM am.out) hb);replace an := aK (Kd.V_below (vM an.out) hb);replace ad := aK (blk_below (kM ad.out) hb);replace HB := aK (below_step (bG HB.out) hb);(try clear hb);(try clear hk)))
  (try simp only [Act.put,z1_,z2_,z3_])
  go_cut [26] (fun b9 wc => ∃ (kq : Nat) (aG : Bool),b9 = .bool aG ∧ Aside0 (l43_GroupSets.j0 kq l0 a2 aG al ah ai = some r) ∧ Aside0 (kq ≤ k) ∧ Aside0 (Kd.V k36 36 wc w.heap.size (fun k_ => ((au k_ ∨ ab k_ ∨ ac k_) ∨ w.heap.size ≤ k_) ∧ k_ ≠ aa) (.slice A0 l0.length c0) l0) ∧ Aside0 (Kd.V (Kd.int .i64) 3 wc w.heap.size (fun k_ => ((au k_ ∨ ab k_ ∨ ac k_) ∨ w.heap.size ≤ k_) ∧ k_ ≠ aa) (.slice ao ah.length ap) ah) ∧ Aside0 (Kd.V Kd.string 9 wc w.heap.size (fun k_ => ((au k_ ∨ ab k_ ∨ ac k_) ∨ w.heap.size ≤ k_) ∧ k_ ≠ aa) (.slice aq ai.length ar) ai) ∧ Aside0 (wc.heap[aa]? = some (.cells #[.string al,(.slice ao ah.length ap),(.slice aq ai.length ar)] 36 (0,0))) ∧ Aside0 (Below w.heap.size w wc))
  case first =>
   have H := bP.out
   clear bP
   replace H := Option.bind_eq_some_iff.mp H
   obtain ⟨bQ,b2,H⟩ := H
   have A9 := aK b2
   clear b2
   by_cases c10 : bQ = true
   ·subst c10
    rw [if_pos rfl] at H
    obtain ⟨bf,aC⟩ : ∃ y_ : List (S36),y_ = (([(⟨al,ah,ai⟩ : S36)] : List (S36))) := ⟨_,rfl⟩
    replace H : ((l43_few.f k bf).bind fun bg => (if bg = true then (l43_GroupSets.j0 k l0 a2 (decide ((a2.size : Int) > 100)) al ah ai) else (l43_GroupSets.j0 k l0 a2 true al ah ai))) = some r := by first|(rw [aC];with_reducible exact H)|(have bR := (Option.bind_some _ _).symm.trans H;rw [aC];with_reducible exact bR)|(have bR := (Option.bind_some _ _).symm.trans H;with_reducible exact bR)|with_reducible exact H|(rw [aC];exact H)|exact H
    have aH := aK aC
    clear aC
    replace H := Option.bind_eq_some_iff.mp H
    obtain ⟨bg,bs,H⟩ := H
    have b3 := aK bs
    clear bs
    by_cases bL : bg = true
    ·subst bL
     rw [if_pos rfl] at H
     have H' := aK H
     clear H
     go_wp2_with (first|((with_reducible refine gate_callee (f := 10) rfl ?_);refine gL 14 Tryz.func10 #[.slice A0 l0.length c0] ?_;(with_reducible refine (l43_few.calls k _ _ l0 true _ ?ae ?aj A9.out).mono ?_);(case ae => exact cM (Kd.V_reads' aB.out).2.2);(case aj => exact (Kd.V_reads' aB.out).2.1);rintro e w' ⟨rfl,⟨nd,rfl⟩⟩;refine ⟨_,rfl,?_⟩;obtain ⟨_,_,_,_,_,_⟩ := bk3_ ad.out)|((with_reducible refine gate_dst (N := 18) rfl ?_);(try (refine gate_guard (by rfl) ?_;dsimp only));refine Kd.N_lit k36 _ 36 ?hg (N' := 18) ?hd (xs := ([(⟨al,ah,ai⟩ : S36)] : List (S36))) (inner := [.string al,.slice ao ah.length ap,.slice aq ai.length ar]) (ok := (fun k_ => ((au k_ ∨ ab k_ ∨ ac k_) ∨ w.heap.size ≤ k_) ∧ k_ ≠ aa)) (okp := (fun k_ => ((au k_ ∨ ab k_ ∨ ac k_) ∨ w.heap.size ≤ k_) ∧ k_ ≠ aa)) ?hr ?hp (fun _ hk => hk) ((show ∀ k_,w8.heap.size ≤ k_ → (fun k_ => ((au k_ ∨ ab k_ ∨ ac k_) ∨ w.heap.size ≤ k_) ∧ k_ ≠ aa) k_ from fun k_ hk => ⟨(.inr (Nat.le_trans (below_size (bG HB.out)) hk)),Kd.freshB (g := aa) (o := .cells #[.string al,.slice ao ah.length ap,.slice aq ai.length ar] 36 (0,0)) (kM ad.out) k_ hk⟩) _ (Nat.le_refl _)) (Below.refl _ _) (Nat.le_refl _) (by simp) ?_;(case hd => rfl);(case hg => rfl);(case hr => first|(go_simp;done)|(go_simp;rfl));(case hp => exact (Reps.c3 (show Kd.FK k36 _ _ (⟨al,ah,ai⟩ : S36) [.string al,.slice ao ah.length ap,.slice aq ai.length ar] from (k36_mkF _ _ (⟨al,ah,ai⟩ : S36) (Kd.V_reads' (Kd.V_mono (ok' := (fun k_ => ((au k_ ∨ ab k_ ∨ ac k_) ∨ w.heap.size ≤ k_) ∧ k_ ≠ aa)) (am.out) (fun k_ hk => ⟨hk.1,hk.2⟩))).2.1 (Kd.V_F (Kd.V_mono (ok' := (fun k_ => ((au k_ ∨ ab k_ ∨ ac k_) ∨ w.heap.size ≤ k_) ∧ k_ ≠ aa)) (am.out) (fun k_ hk => ⟨hk.1,hk.2⟩))) (Kd.V_reads' (Kd.V_mono (ok' := (fun k_ => ((au k_ ∨ ab k_ ∨ ac k_) ∨ w.heap.size ≤ k_) ∧ k_ ≠ aa)) (an.out) (fun k_ hk => ⟨hk.1,hk.2⟩))).2.1 (Kd.V_F (Kd.V_mono (ok' := (fun k_ => ((au k_ ∨ ab k_ ∨ ac k_) ∨ w.heap.size ≤ k_) ∧ k_ ≠ aa)) (an.out) (fun k_ hk => ⟨hk.1,hk.2⟩))))) (Reps.none _ _)));intro bS ct aD hb hg_ hnew_;clear hg_ hnew_;(first|rw [← aH.out] at aD|(simp only [Int.reduceToNat] at aD;rw [← aH.out] at aD));replace aB := aK (Kd.V_elder' (vM aB.out) (Kd.N_base aD) hb);replace am := aK (Kd.V_elder' (vM am.out) (Kd.N_base aD) hb);replace an := aK (Kd.V_elder' (vM an.out) (Kd.N_base aD) hb);have aw := aK (Kd.N_lower aD (below_size (bG HB.out)));replace ad := aK (blk_below (kM ad.out) hb);replace HB := aK (below_step (bG HB.out) hb);clear hb aD;obtain ⟨ca,cb,bT⟩ := Kd.N_slice aw.out;subst bT)|(go_at_call 10;(with_reducible refine (l43_few.calls k _ _ bf true _ ?ae ?aj b3.out).mono ?_);(case ae => exact cM (Kd.N_reads' aw.out).2.2);(case aj => exact (Kd.N_reads' aw.out).2.1);rintro e w' ⟨rfl,⟨nd,rfl⟩⟩))
     go_meet
     case rel => exact ⟨_,(decide ((a2.size : Int) > 100)),(by first|rfl|(simp;done)|(simp [*];done)),H',⟨by first|omega|exact Nat.le_refl _⟩,⟨by (with_reducible repeat (first|apply Kd.V_alloc|apply Kd.V_drewN|apply Kd.V_drew));exact Kd.V_mono aB.out (fun _ hk => ⟨hk.1.1,hk.1.2⟩)⟩,⟨by (with_reducible repeat (first|apply Kd.V_alloc|apply Kd.V_drewN|apply Kd.V_drew));exact Kd.V_mono am.out (fun _ hk => ⟨hk.1.1,hk.1.2⟩)⟩,⟨by (with_reducible repeat (first|apply Kd.V_alloc|apply Kd.V_drewN|apply Kd.V_drew));exact Kd.V_mono an.out (fun _ hk => ⟨hk.1.1,hk.1.2⟩)⟩,⟨kM ad.out⟩,⟨bG HB.out⟩⟩
    ·replace bL := Bool.eq_false_iff.mpr bL
     subst bL
     rw [if_neg (show ¬ (false = true) by decide)] at H
     have H' := aK H
     clear H
     go_wp2_with (first|((with_reducible refine gate_callee (f := 10) rfl ?_);refine gL 14 Tryz.func10 #[.slice A0 l0.length c0] ?_;(with_reducible refine (l43_few.calls k _ _ l0 true _ ?ae ?aj A9.out).mono ?_);(case ae => exact cM (Kd.V_reads' aB.out).2.2);(case aj => exact (Kd.V_reads' aB.out).2.1);rintro e w' ⟨rfl,⟨nd,rfl⟩⟩;refine ⟨_,rfl,?_⟩;obtain ⟨_,_,_,_,_,_⟩ := bk3_ ad.out)|((with_reducible refine gate_dst (N := 18) rfl ?_);(try (refine gate_guard (by rfl) ?_;dsimp only));refine Kd.N_lit k36 _ 36 ?hg (N' := 18) ?hd (xs := ([(⟨al,ah,ai⟩ : S36)] : List (S36))) (inner := [.string al,.slice ao ah.length ap,.slice aq ai.length ar]) (ok := (fun k_ => ((au k_ ∨ ab k_ ∨ ac k_) ∨ w.heap.size ≤ k_) ∧ k_ ≠ aa)) (okp := (fun k_ => ((au k_ ∨ ab k_ ∨ ac k_) ∨ w.heap.size ≤ k_) ∧ k_ ≠ aa)) ?hr ?hp (fun _ hk => hk) ((show ∀ k_,w8.heap.size ≤ k_ → (fun k_ => ((au k_ ∨ ab k_ ∨ ac k_) ∨ w.heap.size ≤ k_) ∧ k_ ≠ aa) k_ from fun k_ hk => ⟨(.inr (Nat.le_trans (below_size (bG HB.out)) hk)),Kd.freshB (g := aa) (o := .cells #[.string al,.slice ao ah.length ap,.slice aq ai.length ar] 36 (0,0)) (kM ad.out) k_ hk⟩) _ (Nat.le_refl _)) (Below.refl _ _) (Nat.le_refl _) (by simp) ?_;(case hd => rfl);(case hg => rfl);(case hr => first|(go_simp;done)|(go_simp;rfl));(case hp => exact (Reps.c3 (show Kd.FK k36 _ _ (⟨al,ah,ai⟩ : S36) [.string al,.slice ao ah.length ap,.slice aq ai.length ar] from (k36_mkF _ _ (⟨al,ah,ai⟩ : S36) (Kd.V_reads' (Kd.V_mono (ok' := (fun k_ => ((au k_ ∨ ab k_ ∨ ac k_) ∨ w.heap.size ≤ k_) ∧ k_ ≠ aa)) (am.out) (fun k_ hk => ⟨hk.1,hk.2⟩))).2.1 (Kd.V_F (Kd.V_mono (ok' := (fun k_ => ((au k_ ∨ ab k_ ∨ ac k_) ∨ w.heap.size ≤ k_) ∧ k_ ≠ aa)) (am.out) (fun k_ hk => ⟨hk.1,hk.2⟩))) (Kd.V_reads' (Kd.V_mono (ok' := (fun k_ => ((au k_ ∨ ab k_ ∨ ac k_) ∨ w.heap.size ≤ k_) ∧ k_ ≠ aa)) (an.out) (fun k_ hk => ⟨hk.1,hk.2⟩))).2.1 (Kd.V_F (Kd.V_mono (ok' := (fun k_ => ((au k_ ∨ ab k_ ∨ ac k_) ∨ w.heap.size ≤ k_) ∧ k_ ≠ aa)) (an.out) (fun k_ hk => ⟨hk.1,hk.2⟩))))) (Reps.none _ _)));intro bS cu aE hb hg_ hnew_;clear hg_ hnew_;(first|rw [← aH.out] at aE|(simp only [Int.reduceToNat] at aE;rw [← aH.out] at aE));replace aB := aK (Kd.V_elder' (vM aB.out) (Kd.N_base aE) hb);replace am := aK (Kd.V_elder' (vM am.out) (Kd.N_base aE) hb);replace an := aK (Kd.V_elder' (vM an.out) (Kd.N_base aE) hb);have aw := aK (Kd.N_lower aE (below_size (bG HB.out)));replace ad := aK (blk_below (kM ad.out) hb);replace HB := aK (below_step (bG HB.out) hb);clear hb aE;obtain ⟨cc,cd,bU⟩ := Kd.N_slice aw.out;subst bU)|(go_at_call 10;(with_reducible refine (l43_few.calls k _ _ bf false _ ?ae ?aj b3.out).mono ?_);(case ae => exact cM (Kd.N_reads' aw.out).2.2);(case aj => exact (Kd.N_reads' aw.out).2.1);rintro e w' ⟨rfl,⟨nd,rfl⟩⟩))
     go_meet
     case rel => exact ⟨_,(true),(by first|rfl|(simp;done)|(simp [*];done)),H',⟨by first|omega|exact Nat.le_refl _⟩,⟨by (with_reducible repeat (first|apply Kd.V_alloc|apply Kd.V_drewN|apply Kd.V_drew));exact Kd.V_mono aB.out (fun _ hk => ⟨hk.1.1,hk.1.2⟩)⟩,⟨by (with_reducible repeat (first|apply Kd.V_alloc|apply Kd.V_drewN|apply Kd.V_drew));exact Kd.V_mono am.out (fun _ hk => ⟨hk.1.1,hk.1.2⟩)⟩,⟨by (with_reducible repeat (first|apply Kd.V_alloc|apply Kd.V_drewN|apply Kd.V_drew));exact Kd.V_mono an.out (fun _ hk => ⟨hk.1.1,hk.1.2⟩)⟩,⟨kM ad.out⟩,⟨bG HB.out⟩⟩
   ·replace c10 := Bool.eq_false_iff.mpr c10
    subst c10
    rw [if_neg (show ¬ (false = true) by decide)] at H
    have H' := aK H
    clear H
    go_wp2_with (first|((with_reducible refine gate_callee (f := 10) rfl ?_);refine gL 14 Tryz.func10 #[.slice A0 l0.length c0] ?_;(with_reducible refine (l43_few.calls k _ _ l0 false _ ?ae ?aj A9.out).mono ?_);(case ae => exact cM (Kd.V_reads' aB.out).2.2);(case aj => exact (Kd.V_reads' aB.out).2.1);rintro e w' ⟨rfl,⟨nd,rfl⟩⟩;refine ⟨_,rfl,?_⟩))
    go_meet
    case rel => exact ⟨_,(true),(by first|rfl|(simp;done)|(simp [*];done)),H',⟨by first|omega|exact Nat.le_refl _⟩,⟨vM aB.out⟩,⟨vM am.out⟩,⟨vM an.out⟩,⟨kM ad.out⟩,⟨bG HB.out⟩⟩
  case rest =>
   clear bP
   try clear p2
   try clear c5
   obtain ⟨kq,aG,rfl,HA,b4,ak,af,ag,ad,HB⟩ := hcut
   cases kq with
  |zero => exact absurd HA.out (by simp [l43_GroupSets.j0])
  |succ kj5 =>
    have H := HA.out
    clear HA
    simp only [l43_GroupSets.j0] at H
    by_cases bu : aG = true
    ·subst bu
     rw [if_pos rfl] at H
     obtain rfl := Option.some.inj H
     go_wp2
     go_ret
     exact ⟨by first|rfl|(simp [errW_none,errW_some] <;> rfl)|(simp [*,errW_none,errW_some] <;> rfl),bG HB.out⟩
    ·replace bu := Bool.eq_false_iff.mpr bu
     subst bu
     rw [if_neg (show ¬ (false = true) by decide)] at H
     replace H := Option.bind_eq_some_iff.mp H
     obtain ⟨⟨aT,aU⟩,bv,H⟩ := H
     replace H : ((r43_Set.f kj5 l0 al ah ai).bind fun bd => (if aU = bd.2 then ((r43_Same.f kj5 aT bd.1).bind fun aI => (l43_GroupSets.j1 kj5 l0 a2 (!aI))) else (l43_GroupSets.j1 kj5 l0 a2 true))) = some r := H
     have ce := aK bv
     clear bv
     replace H := Option.bind_eq_some_iff.mp H
     obtain ⟨⟨bh,bi⟩,bx,H⟩ := H
     replace H : (if aU = bi then ((r43_Same.f kj5 aT bh).bind fun aI => (l43_GroupSets.j1 kj5 l0 a2 (!aI))) else (l43_GroupSets.j1 kj5 l0 a2 true)) = some r := H
     have cf := aK bx
     clear bx
     have bj := aK H
     clear H
     obtain ⟨aV,aW,aX,aY,aZ,a0⟩ := bk3_ ad.out
     go_upto_region 7 with (first|((with_reducible refine gate_callee (f := 23) rfl ?_);refine gL 30 Tryz.func23 #[.slice A0 l0.length c0,.agg #[.string al,.slice ao ah.length ap,.slice aq ai.length ar]] ?_;(with_reducible refine (group_Set.calls kj5 (fun k_ => (((au k_ ∨ ab k_ ∨ ac k_) ∨ w.heap.size ≤ k_) ∧ k_ ≠ aa)) _ _ l0 al (fun k_ => (((au k_ ∨ ab k_ ∨ ac k_) ∨ w.heap.size ≤ k_) ∧ k_ ≠ aa)) _ _ ah (fun k_ => (((au k_ ∨ ab k_ ∨ ac k_) ∨ w.heap.size ≤ k_) ∧ k_ ≠ aa)) _ _ ai aT aU _ ?ae ?aj ?ax ce.out).mono ?_);(case ae => exact ak.out);(case aj => exact af.out);(case ax => exact ag.out);rintro e cv ⟨a1,rfl,av,hb⟩;refine ⟨_,rfl,?_⟩;replace ak := aK (Kd.V_elder' (vM ak.out) (Kd.N_base av) hb);replace af := aK (Kd.V_elder' (vM af.out) (Kd.N_base av) hb);replace ag := aK (Kd.V_elder' (vM ag.out) (Kd.N_base av) hb);have ay := aK (Kd.N_lower (Kd.N_mono (ok' := fun k_ => ((au k_ ∨ ab k_ ∨ ac k_) ∨ w.heap.size ≤ k_) ∧ k_ ≠ aa) av (fun k_ hk_ => ⟨Or.elim hk_ (fun hs_ => Or.elim hs_ (fun hs_ => hs_.1) (fun hs_ => Or.elim hs_ (fun hs_ => hs_.1) (fun hs_ => hs_.1))) (fun hn_ => (.inr (Nat.le_trans (below_size (bG HB.out)) hn_))),Or.elim hk_ (fun hs_ => Or.elim hs_ (fun hs_ => hs_.2) (fun hs_ => Or.elim hs_ (fun hs_ => hs_.2) (fun hs_ => hs_.2))) (fun hn_ => (Kd.freshB (g := aa) (o := .cells #[.string al,.slice ao ah.length ap,.slice aq ai.length ar] 36 (0,0)) (kM ad.out) k_ hn_))⟩)) (below_size (bG HB.out)));replace ad := aK (blk_below (kM ad.out) hb);replace HB := aK (below_step (bG HB.out) hb);(try clear hb);(try clear hk);(try clear av);obtain ⟨a3,a4,a5,a6,a7,a8⟩ := bk3_ ad.out)|((with_reducible refine gate_callee (f := 24) rfl ?_);refine gL 36 Tryz.func24 #[.slice A0 l0.length c0,.agg #[.string al,.slice ao ah.length ap,.slice aq ai.length ar]] ?_;(with_reducible refine (r43_Set.calls kj5 (fun k_ => ((((au k_ ∨ ab k_ ∨ ac k_) ∨ w.heap.size ≤ k_) ∧ k_ ≠ aa) ∧ some k_ ≠ (a1 : Value).ownBlock)) _ _ l0 al (fun k_ => ((((au k_ ∨ ab k_ ∨ ac k_) ∨ w.heap.size ≤ k_) ∧ k_ ≠ aa) ∧ some k_ ≠ (a1 : Value).ownBlock)) _ _ ah (fun k_ => ((((au k_ ∨ ab k_ ∨ ac k_) ∨ w.heap.size ≤ k_) ∧ k_ ≠ aa) ∧ some k_ ≠ (a1 : Value).ownBlock)) _ _ ai bh bi _ ?ae ?aj ?ax cf.out).mono ?_);(case ae => exact ak.out);(case aj => exact af.out);(case ax => exact ag.out);rintro e cw ⟨cg,rfl,av,hb⟩;refine ⟨_,rfl,?_⟩;replace ak := aK (Kd.V_elder' (vM ak.out) (Kd.N_base av) hb);replace af := aK (Kd.V_elder' (vM af.out) (Kd.N_base av) hb);replace ag := aK (Kd.V_elder' (vM ag.out) (Kd.N_base av) hb);have aM := aK (Kd.N_lower (Kd.N_mono (ok' := fun k_ => ((au k_ ∨ ab k_ ∨ ac k_) ∨ w.heap.size ≤ k_) ∧ some k_ ≠ (a1 : Value).ownBlock ∧ k_ ≠ aa) av (fun k_ hk_ => ⟨Or.elim hk_ (fun hs_ => Or.elim hs_ (fun hs_ => hs_.1.1) (fun hs_ => Or.elim hs_ (fun hs_ => hs_.1.1) (fun hs_ => hs_.1.1))) (fun hn_ => (.inr (Nat.le_trans (below_size (bG HB.out)) hn_))),Or.elim hk_ (fun hs_ => Or.elim hs_ (fun hs_ => hs_.2) (fun hs_ => Or.elim hs_ (fun hs_ => hs_.2) (fun hs_ => hs_.2))) (fun hn_ => (Kd.fresh' (Kd.N_lt (nM ay.out)) k_ hn_)),Or.elim hk_ (fun hs_ => Or.elim hs_ (fun hs_ => hs_.1.2) (fun hs_ => Or.elim hs_ (fun hs_ => hs_.1.2) (fun hs_ => hs_.1.2))) (fun hn_ => (Kd.freshB (g := aa) (o := .cells #[.string al,.slice ao ah.length ap,.slice aq ai.length ar] 36 (0,0)) (kM ad.out) k_ hn_))⟩)) (below_size (bG HB.out)));replace ay := aK (Kd.N_elder' (nM ay.out) (Kd.N_base av) hb);replace ad := aK (blk_below (kM ad.out) hb);replace HB := aK (below_step (bG HB.out) hb);(try clear hb);(try clear hk);(try clear av)))
     (try simp only [Act.put,z1_,z2_,z3_])
     go_cut [47] (fun ch wc => ∃ (kq : Nat) (aA : Bool),ch = .bool aA ∧ Aside0 (l43_GroupSets.j1 kq l0 a2 aA = some r) ∧ Aside0 (kq ≤ kj5) ∧ Aside0 (Kd.V k36 36 wc w.heap.size (fun k_ => ((au k_ ∨ ab k_ ∨ ac k_) ∨ w.heap.size ≤ k_) ∧ k_ ≠ aa) (.slice A0 l0.length c0) l0) ∧ Aside0 (Kd.V (Kd.int .i64) 3 wc w.heap.size (fun k_ => ((au k_ ∨ ab k_ ∨ ac k_) ∨ w.heap.size ≤ k_) ∧ k_ ≠ aa) (.slice ao ah.length ap) ah) ∧ Aside0 (Kd.V Kd.string 9 wc w.heap.size (fun k_ => ((au k_ ∨ ab k_ ∨ ac k_) ∨ w.heap.size ≤ k_) ∧ k_ ≠ aa) (.slice aq ai.length ar) ai) ∧ Aside0 (wc.heap[aa]? = some (.cells #[.string al,(.slice ao ah.length ap),(.slice aq ai.length ar)] 36 (0,0))) ∧ Aside0 (Below w.heap.size w wc))
     case first =>
      have H := bj.out
      clear bj
      by_cases bk : aU = bi
      ·rw [if_pos bk] at H
       have aF := beq_iff_eq.mpr bk
       have aN := bne_eq_false_iff_eq.mpr bk
       clear bk
       (first|rw [aF]|(simp only [i64_w,i32_w];rw [aF])|rw [aN]|skip)
       replace H := Option.bind_eq_some_iff.mp H
       obtain ⟨aI,bz,H⟩ := H
       have ci := aK bz
       clear bz
       have H' := aK H
       clear H
       obtain ⟨cj,ck,bV⟩ := Kd.N_slice ay.out
       subst bV
       obtain ⟨cl,cm,bW⟩ := Kd.N_slice aM.out
       subst bW
       go_wp2_with (first|(go_at_call 25;(with_reducible refine (r43_Same.calls kj5 _ _ aT _ _ bh aI _ ?ae ?aj ?ax ?aO ci.out).mono ?_);(case ae => exact cM (Kd.N_reads' ay.out).2.2);(case aj => exact (Kd.N_reads' ay.out).2.1);(case ax => exact cM (Kd.N_reads' aM.out).2.2);(case aO => exact (Kd.N_reads' aM.out).2.1);rintro e cx ⟨rfl,hb⟩;replace ak := aK (Kd.V_below (vM ak.out) hb);replace af := aK (Kd.V_below (vM af.out) hb);replace ag := aK (Kd.V_below (vM ag.out) hb);replace ad := aK (blk_below (kM ad.out) hb);replace HB := aK (below_step (bG HB.out) hb);(try clear hb);(try clear hk)))
       go_meet
       case rel => exact ⟨_,(!aI),(by first|rfl|(simp;done)|(simp [*];done)),H',⟨by have := b4.out;first|omega|exact Nat.le_refl _⟩,⟨by (with_reducible repeat (first|apply Kd.V_alloc|apply Kd.V_drewN|apply Kd.V_drew));exact Kd.V_mono ak.out (fun _ hk => ⟨hk.1.1.1,hk.1.1.2⟩)⟩,⟨by (with_reducible repeat (first|apply Kd.V_alloc|apply Kd.V_drewN|apply Kd.V_drew));exact Kd.V_mono af.out (fun _ hk => ⟨hk.1.1.1,hk.1.1.2⟩)⟩,⟨by (with_reducible repeat (first|apply Kd.V_alloc|apply Kd.V_drewN|apply Kd.V_drew));exact Kd.V_mono ag.out (fun _ hk => ⟨hk.1.1.1,hk.1.1.2⟩)⟩,⟨kM ad.out⟩,⟨bG HB.out⟩⟩
      ·rw [if_neg bk] at H
       have aF := beq_eq_false_iff_ne.mpr bk
       have aN := bne_iff_ne.mpr bk
       (first|rw [aF]|(simp only [i64_w,i32_w];rw [aF])|rw [aN]|skip)
       have H' := aK H
       clear H
       go_wp2
       go_meet
       case rel => exact ⟨_,(true),(by first|rfl|(simp;done)|(simp [*];done)),H',⟨by have := b4.out;first|omega|exact Nat.le_refl _⟩,⟨by (with_reducible repeat (first|apply Kd.V_alloc|apply Kd.V_drewN|apply Kd.V_drew));exact Kd.V_mono ak.out (fun _ hk => ⟨hk.1.1.1,hk.1.1.2⟩)⟩,⟨by (with_reducible repeat (first|apply Kd.V_alloc|apply Kd.V_drewN|apply Kd.V_drew));exact Kd.V_mono af.out (fun _ hk => ⟨hk.1.1.1,hk.1.1.2⟩)⟩,⟨by (with_reducible repeat (first|apply Kd.V_alloc|apply Kd.V_drewN|apply Kd.V_drew));exact Kd.V_mono ag.out (fun _ hk => ⟨hk.1.1.1,hk.1.1.2⟩)⟩,⟨kM ad.out⟩,⟨bG HB.out⟩⟩
     case rest =>
      clear bj
      try clear p2
      try clear bu
      try clear aV
      try clear aW
      try clear aX
      try clear a3
      try clear a4
      try clear a5
      try clear aY
      try clear aZ
      try clear a0
      try clear a6
      try clear a7
      try clear a8
      try clear p2
      obtain ⟨kq,aA,rfl,HA,cn,ak,af,ag,ad,HB⟩ := hcut
      cases kq with
     |zero => exact absurd HA.out (by simp [l43_GroupSets.j1])
     |succ kj23 =>
       have H := HA.out
       clear HA
       simp only [l43_GroupSets.j1] at H
       by_cases bN : aA = true
       ·subst bN
        rw [if_pos rfl] at H
        obtain rfl := Option.some.inj H
        go_wp2
        go_ret
        exact ⟨by first|rfl|(simp [errW_none,errW_some] <;> rfl)|(simp [*,errW_none,errW_some] <;> rfl),bG HB.out⟩
       ·replace bN := Bool.eq_false_iff.mpr bN
        subst bN
        rw [if_neg (show ¬ (false = true) by decide)] at H
        replace H := Option.bind_eq_some_iff.mp H
        obtain ⟨a9,bB,H⟩ := H
        have bX := aK bB
        clear bB
        by_cases bm : a9 = 0
        ·rw [if_pos bm] at H
         have bC := beq_iff_eq.mpr bm
         have bD := bne_eq_false_iff_eq.mpr bm
         clear bm
         replace H := Option.bind_eq_some_iff.mp H
         obtain ⟨⟨aP,aQ⟩,bE,H⟩ := H
         replace H : ((r43_Drop.f kj23 l0 a2).bind fun be => (if aQ = be.2 then ((r43_Same.f kj23 aP be.1).bind fun aR => (some aR)) else (some false))) = some r := H
         have b5 := aK bE
         clear bE
         replace H := Option.bind_eq_some_iff.mp H
         obtain ⟨⟨ba,bb⟩,bF,H⟩ := H
         replace H : (if aQ = bb then ((r43_Same.f kj23 aP ba).bind fun aR => (some aR)) else (some false)) = some r := H
         have b6 := aK bF
         clear bF
         by_cases bn : aQ = bb
         ·rw [if_pos bn] at H
          have bH := beq_iff_eq.mpr bn
          have bI := bne_eq_false_iff_eq.mpr bn
          clear bn
          replace H := Option.bind_eq_some_iff.mp H
          obtain ⟨aR,bJ,H⟩ := H
          have bK := aK bJ
          clear bJ
          obtain rfl := Option.some.inj H
          go_wp2_with (first|((with_reducible refine gate_callee (f := 12) rfl ?_);refine gL 49 Tryz.func12 #[.slice A0 l0.length c0] ?_;(with_reducible refine (r43_Right.calls kj23 _ _ l0 a9 _ ?ae ?aj bX.out).mono ?_);(case ae => exact cM (Kd.V_reads' ak.out).2.2);(case aj => exact (Kd.V_reads' ak.out).2.1);rintro e cy ⟨rfl,hb⟩;refine ⟨_,rfl,?_⟩;replace ak := aK (Kd.V_below (vM ak.out) hb);replace ad := aK (blk_below (kM ad.out) hb);replace HB := aK (below_step (bG HB.out) hb);(try clear hb);(try clear hk))|((with_reducible refine gate_callee (f := 26) rfl ?_);refine gL 54 Tryz.func26 #[.slice A0 l0.length c0,.string a2] ?_;(with_reducible refine (group_Drop.calls kj23 (fun k_ => (((au k_ ∨ ab k_ ∨ ac k_) ∨ w.heap.size ≤ k_) ∧ k_ ≠ aa)) _ _ l0 a2 aP aQ _ ?ae b5.out).mono ?_);(case ae => exact ak.out);rintro e cz ⟨bc,rfl,av,hb⟩;refine ⟨_,rfl,?_⟩;replace ak := aK (Kd.V_elder' (vM ak.out) (Kd.N_base av) hb);have az := aK (Kd.N_lower (Kd.N_mono (ok' := fun k_ => ((au k_ ∨ ab k_ ∨ ac k_) ∨ w.heap.size ≤ k_) ∧ k_ ≠ aa) av (fun k_ hk_ => ⟨Or.elim hk_ (fun hs_ => hs_.1) (fun hn_ => (.inr (Nat.le_trans (below_size (bG HB.out)) hn_))),Or.elim hk_ (fun hs_ => hs_.2) (fun hn_ => (Kd.freshB (g := aa) (o := .cells #[.string al,.slice ao ah.length ap,.slice aq ai.length ar] 36 (0,0)) (kM ad.out) k_ hn_))⟩)) (below_size (bG HB.out)));replace ad := aK (blk_below (kM ad.out) hb);replace HB := aK (below_step (bG HB.out) hb);(try clear hb);(try clear hk);(try clear av))|((with_reducible refine gate_callee (f := 27) rfl ?_);refine gL 60 Tryz.func27 #[.slice A0 l0.length c0,.string a2] ?_;(with_reducible refine (r43_Drop.calls kj23 (fun k_ => ((((au k_ ∨ ab k_ ∨ ac k_) ∨ w.heap.size ≤ k_) ∧ k_ ≠ aa) ∧ some k_ ≠ (bc : Value).ownBlock)) _ _ l0 a2 ba bb _ ?ae b6.out).mono ?_);(case ae => exact ak.out);rintro e cA ⟨bY,rfl,av,hb⟩;refine ⟨_,rfl,?_⟩;replace ak := aK (Kd.V_elder' (vM ak.out) (Kd.N_base av) hb);have aS := aK (Kd.N_lower (Kd.N_mono (ok' := fun k_ => ((au k_ ∨ ab k_ ∨ ac k_) ∨ w.heap.size ≤ k_) ∧ some k_ ≠ (bc : Value).ownBlock ∧ k_ ≠ aa) av (fun k_ hk_ => ⟨Or.elim hk_ (fun hs_ => hs_.1.1) (fun hn_ => (.inr (Nat.le_trans (below_size (bG HB.out)) hn_))),Or.elim hk_ (fun hs_ => hs_.2) (fun hn_ => (Kd.fresh' (Kd.N_lt (nM az.out)) k_ hn_)),Or.elim hk_ (fun hs_ => hs_.1.2) (fun hn_ => (Kd.freshB (g := aa) (o := .cells #[.string al,.slice ao ah.length ap,.slice aq ai.length ar] 36 (0,0)) (kM ad.out) k_ hn_))⟩)) (below_size (bG HB.out)));replace az := aK (Kd.N_elder' (nM az.out) (Kd.N_base av) hb);replace HB := aK (below_step (bG HB.out) hb);(try clear hb);(try clear hk);(try clear av);obtain ⟨co,cp,bZ⟩ := Kd.N_slice az.out;subst bZ;obtain ⟨cq,cr,b1⟩ := Kd.N_slice aS.out;subst b1)|(go_at_call 25;(with_reducible refine (r43_Same.calls kj23 _ _ aP _ _ ba aR _ ?ae ?aj ?ax ?aO bK.out).mono ?_);(case ae => exact cM (Kd.N_reads' az.out).2.2);(case aj => exact (Kd.N_reads' az.out).2.1);(case ax => exact cM (Kd.N_reads' aS.out).2.2);(case aO => exact (Kd.N_reads' aS.out).2.1);rintro e cB ⟨rfl,hb⟩;replace ak := aK (Kd.V_below (vM ak.out) hb);replace HB := aK (below_step (bG HB.out) hb);(try clear hb);(try clear hk)))
          go_ret
          exact ⟨by first|rfl|(simp [errW_none,errW_some] <;> rfl)|(simp [*,errW_none,errW_some] <;> rfl),bG HB.out⟩
         ·rw [if_neg bn] at H
          have bH := beq_eq_false_iff_ne.mpr bn
          have bI := bne_iff_ne.mpr bn
          obtain rfl := Option.some.inj H
          go_wp2_with (first|((with_reducible refine gate_callee (f := 12) rfl ?_);refine gL 49 Tryz.func12 #[.slice A0 l0.length c0] ?_;(with_reducible refine (r43_Right.calls kj23 _ _ l0 a9 _ ?ae ?aj bX.out).mono ?_);(case ae => exact cM (Kd.V_reads' ak.out).2.2);(case aj => exact (Kd.V_reads' ak.out).2.1);rintro e cC ⟨rfl,hb⟩;refine ⟨_,rfl,?_⟩;replace ak := aK (Kd.V_below (vM ak.out) hb);replace HB := aK (below_step (bG HB.out) hb);(try clear hb);(try clear hk))|((with_reducible refine gate_callee (f := 26) rfl ?_);refine gL 54 Tryz.func26 #[.slice A0 l0.length c0,.string a2] ?_;(with_reducible refine (group_Drop.calls kj23 (fun k_ => (((au k_ ∨ ab k_ ∨ ac k_) ∨ w.heap.size ≤ k_) ∧ k_ ≠ aa)) _ _ l0 a2 aP aQ _ ?ae b5.out).mono ?_);(case ae => exact ak.out);rintro e cD ⟨bc,rfl,av,hb⟩;refine ⟨_,rfl,?_⟩;replace ak := aK (Kd.V_elder' (vM ak.out) (Kd.N_base av) hb);replace HB := aK (below_step (bG HB.out) hb);(try clear hb);(try clear hk);(try clear av))|((with_reducible refine gate_callee (f := 27) rfl ?_);refine gL 60 Tryz.func27 #[.slice A0 l0.length c0,.string a2] ?_;(with_reducible refine (r43_Drop.calls kj23 (fun k_ => ((((au k_ ∨ ab k_ ∨ ac k_) ∨ w.heap.size ≤ k_) ∧ k_ ≠ aa) ∧ some k_ ≠ (bc : Value).ownBlock)) _ _ l0 a2 ba bb _ ?ae b6.out).mono ?_);(case ae => exact ak.out);rintro e cE ⟨bY,rfl,av,hb⟩;refine ⟨_,rfl,?_⟩;replace ak := aK (Kd.V_elder' (vM ak.out) (Kd.N_base av) hb);replace HB := aK (below_step (bG HB.out) hb);(try clear hb);(try clear hk);(try clear av)))
          go_ret
          exact ⟨by first|rfl|(simp [errW_none,errW_some] <;> rfl)|(simp [*,errW_none,errW_some] <;> rfl),bG HB.out⟩
        ·rw [if_neg bm] at H
         have bC := beq_eq_false_iff_ne.mpr bm
         have bD := bne_iff_ne.mpr bm
         obtain rfl := Option.some.inj H
         go_wp2_with (first|((with_reducible refine gate_callee (f := 12) rfl ?_);refine gL 49 Tryz.func12 #[.slice A0 l0.length c0] ?_;(with_reducible refine (r43_Right.calls kj23 _ _ l0 a9 _ ?ae ?aj bX.out).mono ?_);(case ae => exact cM (Kd.V_reads' ak.out).2.2);(case aj => exact (Kd.V_reads' ak.out).2.1);rintro e cF ⟨rfl,hb⟩;refine ⟨_,rfl,?_⟩;replace HB := aK (below_step (bG HB.out) hb);(try clear hb);(try clear hk)))
         go_ret
         exact ⟨by first|rfl|(simp [errW_none,errW_some] <;> rfl)|(simp [*,errW_none,errW_some] <;> rfl),bG HB.out⟩
 ·replace c5 := Bool.eq_false_iff.mpr c5
  subst c5
  rw [if_neg (show ¬ (false = true) by decide)] at H
  obtain rfl := Option.some.inj H
  go_enter Tryz.func5,Tryz.ntmps5
  go_wp2_with (first|((with_reducible refine gate_dst (N := 4) rfl ?_);(try (refine gate_guard (by rfl) ?_;dsimp only));refine box_event ?hg (N := 4) ?hd (cs := #[.string al,.slice ao ah.length ap,.slice aq ai.length ar]) (t := 36) ?hr ?_;(case hd => rfl);(case hg => rfl);(case hr => first|(go_simp;done)|(go_simp;rfl));intro aa hg cG hbox hb;have aJ := aK ((by rw [hg];exact (below_size (bM HB.out)) : w.heap.size ≤ aa));have bq := Ge.mk aJ.out;have aL := aK ((by rw [hg];exact (below_size (bM HB.out)) : w.heap.size ≤ aa));have br := Ge.mk aL.out;replace HB := aK (below_step (bM HB.out) hb);clear hb hbox hg)|((with_reducible refine gate_callee (f := 9) rfl ?_);refine gL 11 Tryz.func9 #[] ?_;(with_reducible refine (l43_alive.calls k  false _ A4.out).mono ?_);rintro e cH ⟨rfl,hb⟩;refine ⟨_,rfl,?_⟩;replace HB := aK (below_step (bG HB.out) hb);(try clear hb);(try clear hk)))
  go_ret
  exact ⟨by first|rfl|(simp [errW_none,errW_some] <;> rfl)|(simp [*,errW_none,errW_some] <;> rfl),bG HB.out⟩

/-! ### l43_GroupChecks: function 3 -/
def l43_GroupChecks.f (k : Nat) (l0 : List (S36)) : Option (Bool) := (l43_alive.f k).bind fun aa => (if aa = true then ((l43_few.f k l0).bind fun ab => (if ab = true then ((group_Right.f k l0).bind fun ac => ((r43_Right.f k l0).bind fun ad => (some (ac == ad)))) else (some true))) else (some false))
theorem l43_GroupChecks.mono : ∀ a0 k, LeO (l43_GroupChecks.f k a0) (l43_GroupChecks.f (k + 1) a0) := by
 intro a0 k
 unfold l43_GroupChecks.f
 repeat' (with_reducible first|exact l43_alive.mono _|exact l43_few.mono _ _|exact r43_Right.mono _ _|exact group_Right.mono _ _|exact LeO.refl _|exact LeO.none _|refine LeO.ite ?_ ?_|refine LeO.bind ?_ (fun _ => ?_))
theorem l43_GroupChecks.calls (k : Nat) (A0 : Option Addr) (c0 : Nat) (l0 : List (S36)) (r : Bool) (w : World) (ai : Kd.C k36 w A0 l0.length l0) (aj : l0.length ≤ c0) (h : l43_GroupChecks.f k l0 = some r) :
  Calls Tryz.prog 3 #[.slice A0 l0.length c0] w fun e w' => e = .returned (.bool r) ∧ Below w.heap.size w w' := by
 have ac := aK ai
 have ad := aK aj
 clear ai aj
 have HB := aK (Below.refl w.heap.size w)
 unfold l43_GroupChecks.f at h
 have H := h
 clear h
 replace H := Option.bind_eq_some_iff.mp H
 obtain ⟨ae,ak,H⟩ := H
 have A2 := aK ak
 clear ak
 by_cases c3 : ae = true
 ·subst c3
  rw [if_pos rfl] at H
  replace H := Option.bind_eq_some_iff.mp H
  obtain ⟨af,al,H⟩ := H
  have A4 := aK al
  clear al
  by_cases c5 : af = true
  ·subst c5
   rw [if_pos rfl] at H
   replace H := Option.bind_eq_some_iff.mp H
   obtain ⟨ag,am,H⟩ := H
   have A6 := aK am
   clear am
   replace H := Option.bind_eq_some_iff.mp H
   obtain ⟨ah,an,H⟩ := H
   have A7 := aK an
   clear an
   obtain rfl := Option.some.inj H
   go_enter Tryz.func3,Tryz.ntmps3
   go_wp2_with (first|((with_reducible refine gate_callee (f := 9) rfl ?_);refine gL 3 Tryz.func9 #[] ?_;(with_reducible refine (l43_alive.calls k  true _ A2.out).mono ?_);rintro e w8 ⟨rfl,hb⟩;refine ⟨_,rfl,?_⟩;replace HB := aK (below_step (bM HB.out) hb);(try clear hb))|((with_reducible refine gate_callee (f := 10) rfl ?_);refine gL 6 Tryz.func10 #[.slice A0 l0.length c0] ?_;(with_reducible refine (l43_few.calls k _ _ l0 true _ ?aa ?ab A4.out).mono ?_);(case aa => exact cM (Kd.C_below ac.out HB.out));(case ab => exact ad.out);rintro e w' ⟨rfl,⟨nd,rfl⟩⟩;refine ⟨_,rfl,?_⟩)|((with_reducible refine gate_callee (f := 11) rfl ?_);refine gL 9 Tryz.func11 #[.slice A0 l0.length c0] ?_;(with_reducible refine (group_Right.calls k _ _ l0 ag _ ?aa ?ab A6.out).mono ?_);(case aa => exact Kd.C_below ac.out (bM HB.out));(case ab => exact ad.out);rintro e w9 ⟨rfl,hb⟩;refine ⟨_,rfl,?_⟩;replace HB := aK (below_step (bM HB.out) hb);(try clear hb))|((with_reducible refine gate_callee (f := 12) rfl ?_);refine gL 11 Tryz.func12 #[.slice A0 l0.length c0] ?_;(with_reducible refine (r43_Right.calls k _ _ l0 ah _ ?aa ?ab A7.out).mono ?_);(case aa => exact cM (Kd.C_below ac.out HB.out));(case ab => exact ad.out);rintro e ao ⟨rfl,hb⟩;refine ⟨_,rfl,?_⟩;replace HB := aK (below_step (bM HB.out) hb);(try clear hb)))
   go_ret
   exact ⟨by first|rfl|(simp [errW_none,errW_some] <;> rfl)|(simp [*,errW_none,errW_some] <;> rfl),bM HB.out⟩
  ·replace c5 := Bool.eq_false_iff.mpr c5
   subst c5
   rw [if_neg (show ¬ (false = true) by decide)] at H
   obtain rfl := Option.some.inj H
   go_enter Tryz.func3,Tryz.ntmps3
   go_wp2_with (first|((with_reducible refine gate_callee (f := 9) rfl ?_);refine gL 3 Tryz.func9 #[] ?_;(with_reducible refine (l43_alive.calls k  true _ A2.out).mono ?_);rintro e ap ⟨rfl,hb⟩;refine ⟨_,rfl,?_⟩;replace HB := aK (below_step (bM HB.out) hb);(try clear hb))|((with_reducible refine gate_callee (f := 10) rfl ?_);refine gL 6 Tryz.func10 #[.slice A0 l0.length c0] ?_;(with_reducible refine (l43_few.calls k _ _ l0 false _ ?aa ?ab A4.out).mono ?_);(case aa => exact cM (Kd.C_below ac.out HB.out));(case ab => exact ad.out);rintro e w' ⟨rfl,⟨nd,rfl⟩⟩;refine ⟨_,rfl,?_⟩))
   go_ret
   exact ⟨by first|rfl|(simp [errW_none,errW_some] <;> rfl)|(simp [*,errW_none,errW_some] <;> rfl),bM HB.out⟩
 ·replace c3 := Bool.eq_false_iff.mpr c3
  subst c3
  rw [if_neg (show ¬ (false = true) by decide)] at H
  obtain rfl := Option.some.inj H
  go_enter Tryz.func3,Tryz.ntmps3
  go_wp2_with (first|((with_reducible refine gate_callee (f := 9) rfl ?_);refine gL 3 Tryz.func9 #[] ?_;(with_reducible refine (l43_alive.calls k  false _ A2.out).mono ?_);rintro e aq ⟨rfl,hb⟩;refine ⟨_,rfl,?_⟩;replace HB := aK (below_step (bM HB.out) hb);(try clear hb)))
  go_ret
  exact ⟨by first|rfl|(simp [errW_none,errW_some] <;> rfl)|(simp [*,errW_none,errW_some] <;> rfl),bM HB.out⟩
end Go.Proofs.YtobdkgoapcbipaaGreatDoor.J
