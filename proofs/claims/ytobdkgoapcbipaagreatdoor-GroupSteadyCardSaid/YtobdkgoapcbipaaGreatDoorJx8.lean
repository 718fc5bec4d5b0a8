import Derived.Test.YtobdkgoapcbipaaGreatDoorJx0
import Derived.Test.YtobdkgoapcbipaaGreatDoorJx6
import Derived.Test.YtobdkgoapcbipaaGreatDoorJx7
namespace Go.Proofs.YtobdkgoapcbipaaGreatDoor.J
open Go.RowKit Go.Proofs.YtobdkgoapcbipaaGreatDoorW.PrintWords Go.Proofs.YtobdkgoapcbipaaGreatDoorW.PrintLast Go.Proofs.YtobdkgoapcbipaaGreatDoorW.PrintMore
set_option maxHeartbeats 4000000
set_option maxRecDepth 100000
attribute [local go_sem] max2_int min2_int max_two min_two max_three min_three max_four min_four
set_option linter.unusedVariables false
set_option linter.unusedSimpArgs false

/-! ### group_Set: function 23 -/
def group_Set.f (k : Nat) (l0 : List (S36)) (ac : ByteArray) (ad : List Int) (ae : List ByteArray) : Option ((List (S36)) × Int) := (api_Group_49.f l0).bind fun aa => ((group_idx.f k aa ac).bind fun ab => (if ab < 0 then (if aa.length < 2199023255552 then ((some (aa ++ [(⟨ac, ad, ae⟩ : S36)] : List (S36))).bind fun af => ((group_Right.f k af).bind fun ag => (if ag = 0 then (some (af, 0)) else (some (([] : List (S36)), ag))))) else (none)) else (if 0 ≤ ab then (if ab < (aa.length : Int) then ((some (aa.set (ab : Int).toNat (⟨ac, ad, ae⟩ : S36) : List (S36))).bind fun ah => ((group_Right.f k ah).bind fun ai => (if ai = 0 then (some (ah, 0)) else (some (([] : List (S36)), ai))))) else (none)) else (none))))
theorem group_Set.mono : ∀ a0 a1 a2 a3 k, LeO (group_Set.f k a0 a1 a2 a3) (group_Set.f (k + 1) a0 a1 a2 a3) := by
 intro a0 a1 a2 a3 k
 unfold group_Set.f
 repeat' (with_reducible first|exact group_idx.mono _ _ _|exact group_Right.mono _ _|exact LeO.refl _|exact LeO.none _|refine LeO.ite ?_ ?_|refine LeO.bind ?_ (fun _ => ?_))
theorem group_Set.calls (k : Nat) (ap : Nat → Prop) (A0 : Option Addr) (c0 : Nat) (l0 : List (S36)) (ak : ByteArray) (ad : Nat → Prop) (aq : Option Addr) (ar : Nat) (al : List Int) (ae : Nat → Prop) (au : Option Addr) (av : Nat) (am : List ByteArray) (r1 : List (S36)) (r2 : Int) (w : World) (cT : Kd.V k36 36 w w.heap.size (fun k_ => ap k_) (.slice A0 l0.length c0) l0) (bU : Kd.V (Kd.int .i64) 3 w w.heap.size (fun k_ => ad k_) (.slice aq al.length ar) al) (bV : Kd.V Kd.string 9 w w.heap.size (fun k_ => ae k_) (.slice au am.length av) am) (h : group_Set.f k l0 ak al am = some (r1, r2)) :
  Calls Tryz.prog 23 #[.slice A0 l0.length c0,.agg #[.string ak,.slice aq al.length ar,.slice au am.length av]] w fun e w' => ∃ cN : Value,e = .returned (.tuple #[cN,.int .i64 r2]) ∧ Kd.N k36 36 w' w.heap.size (fun k_ => ((ap k_ ∨ ad k_ ∨ ae k_) ∨ w.heap.size ≤ k_)) cN r1 ∧ Below w.heap.size w w' := by
 have cU := Tryz.underlying36
 have aw := aK (show Kd.V k36 36 w w.heap.size (fun k_ => ((ap k_ ∨ ad k_ ∨ ae k_) ∨ w.heap.size ≤ k_)) (.slice A0 l0.length c0) l0 from Kd.V_mono cT (fun k_ hk => .inl (.inl hk)))
 have af := aK (show Kd.V (Kd.int .i64) 3 w w.heap.size (fun k_ => ((ap k_ ∨ ad k_ ∨ ae k_) ∨ w.heap.size ≤ k_)) (.slice aq al.length ar) al from Kd.V_mono bU (fun k_ hk => .inl (.inr (.inl hk))))
 have ag := aK (show Kd.V Kd.string 9 w w.heap.size (fun k_ => ((ap k_ ∨ ad k_ ∨ ae k_) ∨ w.heap.size ≤ k_)) (.slice au am.length av) am from Kd.V_mono bV (fun k_ hk => .inl (.inr (.inr hk))))
 have HB := aK (Below.refl w.heap.size w)
 have H : ((api_Group_49.f l0).bind fun ah => ((group_idx.f k ah ak).bind fun ai => (if ai < 0 then (if ah.length < 2199023255552 then ((some (ah ++ [(⟨ak,al,am⟩ : S36)] : List (S36))).bind fun aI => ((group_Right.f k aI).bind fun aJ => (if aJ = 0 then (some (aI,0)) else (some (([] : List (S36)),aJ))))) else (none)) else (if 0 ≤ ai then (if ai < (ah.length : Int) then ((some (ah.set (ai : Int).toNat (⟨ak,al,am⟩ : S36) : List (S36))).bind fun ay => ((group_Right.f k ay).bind fun aM => (if aM = 0 then (some (ay,0)) else (some (([] : List (S36)),aM))))) else (none)) else (none))))) = some (r1,r2) := h
 clear h
 replace H := Option.bind_eq_some_iff.mp H
 obtain ⟨ah,bW,H⟩ := H
 have A3 := aK bW
 clear bW
 replace H := Option.bind_eq_some_iff.mp H
 obtain ⟨ai,cO,H⟩ := H
 have A4 := aK cO
 clear cO
 by_cases c5 : ai < 0
 ·rw [if_pos c5] at H
  have b7 := decide_eq_true c5
  clear c5
  obtain ⟨c6,H⟩ := iS H
  have bX := aK c6
  clear c6
  obtain ⟨aI,aN⟩ : ∃ y_ : List (S36),y_ = (ah ++ [(⟨ak,al,am⟩ : S36)]) := ⟨_,rfl⟩
  replace H : ((group_Right.f k aI).bind fun aJ => (if aJ = 0 then (some (aI,0)) else (some (([] : List (S36)),aJ)))) = some (r1,r2) := by first|(rw [aN];with_reducible exact H)|(have bj := (Option.bind_some _ _).symm.trans H;rw [aN];with_reducible exact bj)|(have bj := (Option.bind_some _ _).symm.trans H;with_reducible exact bj)|with_reducible exact H|(rw [aN];exact H)|exact H
  have bf := aK aN
  clear aN
  replace H := Option.bind_eq_some_iff.mp H
  obtain ⟨aJ,cP,H⟩ := H
  have A7 := aK cP
  clear cP
  by_cases c8 : aJ = 0
  ·rw [if_pos c8] at H
   have b8 := beq_iff_eq.mpr c8
   have b9 := bne_eq_false_iff_eq.mpr c8
   clear c8
   simp only [Option.some.injEq,Prod.mk.injEq] at H
   obtain ⟨rfl,rfl⟩ := H
   go_enter Tryz.func23,Tryz.ntmps23
   go_wp2_with (first|((with_reducible refine gate_dst (N := 3) rfl ?_);refine box_event ?hg (N := 3) ?hd (cs := #[.string ak,.slice aq al.length ar,.slice au am.length av]) (t := 36) ?hr ?_;(case hd => rfl);(case hg => rfl);(case hr => first|(go_simp;done)|(go_simp;rfl));intro aa hg w9 hbox hb;replace aw := aK (Kd.V_below (Kd.V_elderB (vM aw.out) aa (Nat.le_of_eq hg.symm)) hb);replace af := aK (Kd.V_below (Kd.V_elderB (vM af.out) aa (Nat.le_of_eq hg.symm)) hb);replace ag := aK (Kd.V_below (Kd.V_elderB (vM ag.out) aa (Nat.le_of_eq hg.symm)) hb);have ac := aK (hbox);have aC := aK ((by rw [hg];exact (below_size (bM HB.out)) : w.heap.size ≤ aa));have a5 := Ge.mk aC.out;have aD := aK ((by rw [hg];exact (below_size (bM HB.out)) : w.heap.size ≤ aa));have a6 := Ge.mk aD.out;replace HB := aK (below_step (bM HB.out) hb);clear hb hbox hg)|((with_reducible refine gate_callee (f := 49) rfl ?_);refine gL 10 Tryz.func49 #[.slice A0 l0.length c0] ?_;(with_reducible refine (api_Group_49.calls (fun k_ => (((ap k_ ∨ ad k_ ∨ ae k_) ∨ w.heap.size ≤ k_) ∧ k_ ≠ aa)) _ _ l0 ah _ ?an A3.out).mono ?_);(case an => exact aw.out);rintro e cX ⟨bk,rfl,aG,hb⟩;refine ⟨_,rfl,?_⟩;replace aw := aK (Kd.V_elder' (vM aw.out) (Kd.N_base aG) hb);replace af := aK (Kd.V_elder' (vM af.out) (Kd.N_base aG) hb);replace ag := aK (Kd.V_elder' (vM ag.out) (Kd.N_base aG) hb);have ab := aK (Kd.N_lower (Kd.N_mono (ok' := fun k_ => ((ap k_ ∨ ad k_ ∨ ae k_) ∨ w.heap.size ≤ k_) ∧ k_ ≠ aa) aG (fun k_ hk_ => ⟨Or.elim hk_ (fun hs_ => hs_.1) (fun hn_ => (.inr (Nat.le_trans (below_size (bG HB.out)) hn_))),Or.elim hk_ (fun hs_ => hs_.2) (fun hn_ => (Kd.freshB (g := aa) (o := .cells #[.string ak,.slice aq al.length ar,.slice au am.length av] 36 (0,0)) (kM ac.out) k_ hn_))⟩)) (below_size (bG HB.out)));replace ac := aK (blk_below (kM ac.out) hb);replace HB := aK (below_step (bG HB.out) hb);(try clear hb);(try clear hk);(try clear aG);obtain ⟨_,_,_,_,_,_⟩ := bk3_ ac.out;obtain ⟨aU,aV,ca⟩ := Kd.N_slice ab.out;subst ca)|((with_reducible refine gate_callee (f := 50) rfl ?_);refine gL 13 Tryz.func50 #[.slice aU ah.length aV,.func (.func 51) #[] #[.pointer (some ⟨aa,0,none⟩)]] ?_;(with_reducible refine (group_idx.callz k _ _ ah ak ai _ _ ?an ?ao ?aE A4.out).mono ?_);(case an => exact cM (Kd.N_reads' ab.out).2.2);(case ao => exact (Kd.N_reads' ab.out).2.1);(case aE => exact (blk_cell (kM ac.out) 0).trans rfl);rintro e cY ⟨rfl,hb⟩;refine ⟨_,rfl,?_⟩;replace aw := aK (Kd.V_below (vM aw.out) hb);replace af := aK (Kd.V_below (vM af.out) hb);replace ag := aK (Kd.V_below (vM ag.out) hb);replace ab := aK (Kd.N_below (nM ab.out) hb);replace ac := aK (blk_below (kM ac.out) hb);replace HB := aK (below_step (bG HB.out) hb);(try clear hb);(try clear hk);obtain ⟨_,_,_,_,_,_⟩ := bk3_ ac.out)|((with_reducible refine gate_builtin (b := .append) (xs := #[.tmp 16,.tmp 18]) rfl ?_);at_builtin;refine Kd.N_append k36 (w0 := w) w.heap.size rfl (.tmp 16) (.tmp 18) 22 36 (.agg #[(.string ⟨#[]⟩),(.slice none 0 0),(.slice none 0 0)]) 64 rfl Tryz.underlying22 info36 rfl (by decide) (by omega) (.slice aU ah.length aV) ah (⟨ak,al,am⟩ : S36) [.string ak,.slice aq al.length ar,.slice au am.length av] (fun k_ => ((ap k_ ∨ ad k_ ∨ ae k_) ∨ w.heap.size ≤ k_) ∧ k_ ≠ aa) (fun k_ => ((fun k_ => ((ap k_ ∨ ad k_ ∨ ae k_) ∨ w.heap.size ≤ k_) ∧ k_ ≠ aa)) k_ ∧ some k_ ≠ (.slice aU ah.length aV : Value).ownBlock) rfl rfl ?aP (fun _ hk => hk) ?aF ?aO ?aB ?aS ?aL ?_;(case aP => exact (k36_mkF _ _ (⟨ak,al,am⟩ : S36) (Kd.V_reads' (Kd.V_mono (ok' := (fun k_ => ((fun k_ => ((ap k_ ∨ ad k_ ∨ ae k_) ∨ w.heap.size ≤ k_) ∧ k_ ≠ aa)) k_ ∧ some k_ ≠ (.slice aU ah.length aV : Value).ownBlock)) (af.out) (fun k_ hk => ⟨⟨hk.1.1,hk.1.2⟩,hk.2⟩))).2.1 (Kd.V_F (Kd.V_mono (ok' := (fun k_ => ((fun k_ => ((ap k_ ∨ ad k_ ∨ ae k_) ∨ w.heap.size ≤ k_) ∧ k_ ≠ aa)) k_ ∧ some k_ ≠ (.slice aU ah.length aV : Value).ownBlock)) (af.out) (fun k_ hk => ⟨⟨hk.1.1,hk.1.2⟩,hk.2⟩))) (Kd.V_reads' (Kd.V_mono (ok' := (fun k_ => ((fun k_ => ((ap k_ ∨ ad k_ ∨ ae k_) ∨ w.heap.size ≤ k_) ∧ k_ ≠ aa)) k_ ∧ some k_ ≠ (.slice aU ah.length aV : Value).ownBlock)) (ag.out) (fun k_ hk => ⟨⟨hk.1.1,hk.1.2⟩,hk.2⟩))).2.1 (Kd.V_F (Kd.V_mono (ok' := (fun k_ => ((fun k_ => ((ap k_ ∨ ad k_ ∨ ae k_) ∨ w.heap.size ≤ k_) ∧ k_ ≠ aa)) k_ ∧ some k_ ≠ (.slice aU ah.length aV : Value).ownBlock)) (ag.out) (fun k_ hk => ⟨⟨hk.1.1,hk.1.2⟩,hk.2⟩)))));(case aB => exact (bG HB.out));(case aF => exact (fun k_ hk => ⟨(.inr (Nat.le_trans (below_size (bG HB.out)) hk)),Kd.freshB (g := aa) (o := .cells #[.string ak,.slice aq al.length ar,.slice au am.length av] 36 (0,0)) (kM ac.out) k_ hk⟩));(case aO => exact (nM ab.out));(case aS => exact (below_size (bG HB.out)));(case aL => have := bX.out;omega);intro cb cZ ho hb hg hat;rw [← bf.out] at ho;replace aw := aK (Kd.V_afterv (ok := (fun k_ => ((ap k_ ∨ ad k_ ∨ ae k_) ∨ w.heap.size ≤ k_) ∧ k_ ≠ aa)) (vM aw.out) hg hat);replace af := aK (Kd.V_afterv (ok := (fun k_ => ((ap k_ ∨ ad k_ ∨ ae k_) ∨ w.heap.size ≤ k_) ∧ k_ ≠ aa)) (vM af.out) hg hat);replace ag := aK (Kd.V_afterv (ok := (fun k_ => ((ap k_ ∨ ad k_ ∨ ae k_) ∨ w.heap.size ≤ k_) ∧ k_ ≠ aa)) (vM ag.out) hg hat);replace ac := aK (blk_grown (g := aa) (o := .cells #[.string ak,.slice aq al.length ar,.slice au am.length av] 36 (0,0)) (kM ac.out) hg (Kd.N_away ab.out (fun _ hk => hk.2)));replace HB := aK (hb);have ax := aK (ho);clear ho hb hg hat;obtain ⟨cc,cd,ce⟩ := Kd.N_slice ax.out;subst ce)|((with_reducible refine gate_callee (f := 11) rfl ?_);refine gL 25 Tryz.func11 #[.slice cc aI.length cd] ?_;(with_reducible refine (group_Right.calls k _ _ aI aJ _ ?an ?ao A7.out).mono ?_);(case an => exact cM (Kd.N_reads' ax.out).2.2);(case ao => exact (Kd.N_reads' ax.out).2.1);rintro e c1 ⟨rfl,hb⟩;refine ⟨_,rfl,?_⟩;replace aw := aK (Kd.V_below (vM aw.out) hb);replace af := aK (Kd.V_below (vM af.out) hb);replace ag := aK (Kd.V_below (vM ag.out) hb);replace ax := aK (Kd.N_below (nM ax.out) hb);replace ac := aK (blk_below (kM ac.out) hb);replace HB := aK (below_step (bG HB.out) hb);(try clear hb);(try clear hk)))
   go_ret2
   exact ⟨_,by first|rfl|(simp [errW_none,errW_some] <;> rfl)|(simp [*,errW_none,errW_some] <;> rfl),by (with_reducible repeat (first|apply Kd.N_alloc|apply Kd.N_drewN|apply Kd.N_drew));exact Kd.N_mono ax.out (fun _ hk => hk.1),bG HB.out⟩
  ·rw [if_neg c8] at H
   have b8 := beq_eq_false_iff_ne.mpr c8
   have b9 := bne_iff_ne.mpr c8
   simp only [Option.some.injEq,Prod.mk.injEq] at H
   obtain ⟨rfl,rfl⟩ := H
   go_enter Tryz.func23,Tryz.ntmps23
   go_wp2_with (first|((with_reducible refine gate_dst (N := 3) rfl ?_);refine box_event ?hg (N := 3) ?hd (cs := #[.string ak,.slice aq al.length ar,.slice au am.length av]) (t := 36) ?hr ?_;(case hd => rfl);(case hg => rfl);(case hr => first|(go_simp;done)|(go_simp;rfl));intro aa hg da hbox hb;replace aw := aK (Kd.V_below (Kd.V_elderB (vM aw.out) aa (Nat.le_of_eq hg.symm)) hb);replace af := aK (Kd.V_below (Kd.V_elderB (vM af.out) aa (Nat.le_of_eq hg.symm)) hb);replace ag := aK (Kd.V_below (Kd.V_elderB (vM ag.out) aa (Nat.le_of_eq hg.symm)) hb);have ac := aK (hbox);have aC := aK ((by rw [hg];exact (below_size (bM HB.out)) : w.heap.size ≤ aa));have a5 := Ge.mk aC.out;have aD := aK ((by rw [hg];exact (below_size (bM HB.out)) : w.heap.size ≤ aa));have a6 := Ge.mk aD.out;replace HB := aK (below_step (bM HB.out) hb);clear hb hbox hg)|((with_reducible refine gate_callee (f := 49) rfl ?_);refine gL 10 Tryz.func49 #[.slice A0 l0.length c0] ?_;(with_reducible refine (api_Group_49.calls (fun k_ => (((ap k_ ∨ ad k_ ∨ ae k_) ∨ w.heap.size ≤ k_) ∧ k_ ≠ aa)) _ _ l0 ah _ ?an A3.out).mono ?_);(case an => exact aw.out);rintro e db ⟨bk,rfl,aG,hb⟩;refine ⟨_,rfl,?_⟩;replace aw := aK (Kd.V_elder' (vM aw.out) (Kd.N_base aG) hb);replace af := aK (Kd.V_elder' (vM af.out) (Kd.N_base aG) hb);replace ag := aK (Kd.V_elder' (vM ag.out) (Kd.N_base aG) hb);have ab := aK (Kd.N_lower (Kd.N_mono (ok' := fun k_ => ((ap k_ ∨ ad k_ ∨ ae k_) ∨ w.heap.size ≤ k_) ∧ k_ ≠ aa) aG (fun k_ hk_ => ⟨Or.elim hk_ (fun hs_ => hs_.1) (fun hn_ => (.inr (Nat.le_trans (below_size (bG HB.out)) hn_))),Or.elim hk_ (fun hs_ => hs_.2) (fun hn_ => (Kd.freshB (g := aa) (o := .cells #[.string ak,.slice aq al.length ar,.slice au am.length av] 36 (0,0)) (kM ac.out) k_ hn_))⟩)) (below_size (bG HB.out)));replace ac := aK (blk_below (kM ac.out) hb);replace HB := aK (below_step (bG HB.out) hb);(try clear hb);(try clear hk);(try clear aG);obtain ⟨_,_,_,_,_,_⟩ := bk3_ ac.out;obtain ⟨aW,aX,cf⟩ := Kd.N_slice ab.out;subst cf)|((with_reducible refine gate_callee (f := 50) rfl ?_);refine gL 13 Tryz.func50 #[.slice aW ah.length aX,.func (.func 51) #[] #[.pointer (some ⟨aa,0,none⟩)]] ?_;(with_reducible refine (group_idx.callz k _ _ ah ak ai _ _ ?an ?ao ?aE A4.out).mono ?_);(case an => exact cM (Kd.N_reads' ab.out).2.2);(case ao => exact (Kd.N_reads' ab.out).2.1);(case aE => exact (blk_cell (kM ac.out) 0).trans rfl);rintro e dc ⟨rfl,hb⟩;refine ⟨_,rfl,?_⟩;replace aw := aK (Kd.V_below (vM aw.out) hb);replace af := aK (Kd.V_below (vM af.out) hb);replace ag := aK (Kd.V_below (vM ag.out) hb);replace ab := aK (Kd.N_below (nM ab.out) hb);replace ac := aK (blk_below (kM ac.out) hb);replace HB := aK (below_step (bG HB.out) hb);(try clear hb);(try clear hk);obtain ⟨_,_,_,_,_,_⟩ := bk3_ ac.out)|((with_reducible refine gate_builtin (b := .append) (xs := #[.tmp 16,.tmp 18]) rfl ?_);at_builtin;refine Kd.N_append k36 (w0 := w) w.heap.size rfl (.tmp 16) (.tmp 18) 22 36 (.agg #[(.string ⟨#[]⟩),(.slice none 0 0),(.slice none 0 0)]) 64 rfl Tryz.underlying22 info36 rfl (by decide) (by omega) (.slice aW ah.length aX) ah (⟨ak,al,am⟩ : S36) [.string ak,.slice aq al.length ar,.slice au am.length av] (fun k_ => ((ap k_ ∨ ad k_ ∨ ae k_) ∨ w.heap.size ≤ k_) ∧ k_ ≠ aa) (fun k_ => ((fun k_ => ((ap k_ ∨ ad k_ ∨ ae k_) ∨ w.heap.size ≤ k_) ∧ k_ ≠ aa)) k_ ∧ some k_ ≠ (.slice aW ah.length aX : Value).ownBlock) rfl rfl ?aP (fun _ hk => hk) ?aF ?aO ?aB ?aS ?aL ?_;(case aP => exact (k36_mkF _ _ (⟨ak,al,am⟩ : S36) (Kd.V_reads' (Kd.V_mono (ok' := (fun k_ => ((fun k_ => ((ap k_ ∨ ad k_ ∨ ae k_) ∨ w.heap.size ≤ k_) ∧ k_ ≠ aa)) k_ ∧ some k_ ≠ (.slice aW ah.length aX : Value).ownBlock)) (af.out) (fun k_ hk => ⟨⟨hk.1.1,hk.1.2⟩,hk.2⟩))).2.1 (Kd.V_F (Kd.V_mono (ok' := (fun k_ => ((fun k_ => ((ap k_ ∨ ad k_ ∨ ae k_) ∨ w.heap.size ≤ k_) ∧ k_ ≠ aa)) k_ ∧ some k_ ≠ (.slice aW ah.length aX : Value).ownBlock)) (af.out) (fun k_ hk => ⟨⟨hk.1.1,hk.1.2⟩,hk.2⟩))) (Kd.V_reads' (Kd.V_mono (ok' := (fun k_ => ((fun k_ => ((ap k_ ∨ ad k_ ∨ ae k_) ∨ w.heap.size ≤ k_) ∧ k_ ≠ aa)) k_ ∧ some k_ ≠ (.slice aW ah.length aX : Value).ownBlock)) (ag.out) (fun k_ hk => ⟨⟨hk.1.1,hk.1.2⟩,hk.2⟩))).2.1 (Kd.V_F (Kd.V_mono (ok' := (fun k_ => ((fun k_ => ((ap k_ ∨ ad k_ ∨ ae k_) ∨ w.heap.size ≤ k_) ∧ k_ ≠ aa)) k_ ∧ some k_ ≠ (.slice aW ah.length aX : Value).ownBlock)) (ag.out) (fun k_ hk => ⟨⟨hk.1.1,hk.1.2⟩,hk.2⟩)))));(case aB => exact (bG HB.out));(case aF => exact (fun k_ hk => ⟨(.inr (Nat.le_trans (below_size (bG HB.out)) hk)),Kd.freshB (g := aa) (o := .cells #[.string ak,.slice aq al.length ar,.slice au am.length av] 36 (0,0)) (kM ac.out) k_ hk⟩));(case aO => exact (nM ab.out));(case aS => exact (below_size (bG HB.out)));(case aL => have := bX.out;omega);intro cb dd ho hb hg hat;rw [← bf.out] at ho;replace aw := aK (Kd.V_afterv (ok := (fun k_ => ((ap k_ ∨ ad k_ ∨ ae k_) ∨ w.heap.size ≤ k_) ∧ k_ ≠ aa)) (vM aw.out) hg hat);replace af := aK (Kd.V_afterv (ok := (fun k_ => ((ap k_ ∨ ad k_ ∨ ae k_) ∨ w.heap.size ≤ k_) ∧ k_ ≠ aa)) (vM af.out) hg hat);replace ag := aK (Kd.V_afterv (ok := (fun k_ => ((ap k_ ∨ ad k_ ∨ ae k_) ∨ w.heap.size ≤ k_) ∧ k_ ≠ aa)) (vM ag.out) hg hat);replace ac := aK (blk_grown (g := aa) (o := .cells #[.string ak,.slice aq al.length ar,.slice au am.length av] 36 (0,0)) (kM ac.out) hg (Kd.N_away ab.out (fun _ hk => hk.2)));replace HB := aK (hb);have ax := aK (ho);clear ho hb hg hat;obtain ⟨cg,ch,ci⟩ := Kd.N_slice ax.out;subst ci)|((with_reducible refine gate_callee (f := 11) rfl ?_);refine gL 25 Tryz.func11 #[.slice cg aI.length ch] ?_;(with_reducible refine (group_Right.calls k _ _ aI aJ _ ?an ?ao A7.out).mono ?_);(case an => exact cM (Kd.N_reads' ax.out).2.2);(case ao => exact (Kd.N_reads' ax.out).2.1);rintro e de ⟨rfl,hb⟩;refine ⟨_,rfl,?_⟩;replace aw := aK (Kd.V_below (vM aw.out) hb);replace af := aK (Kd.V_below (vM af.out) hb);replace ag := aK (Kd.V_below (vM ag.out) hb);replace ac := aK (blk_below (kM ac.out) hb);replace HB := aK (below_step (bG HB.out) hb);(try clear hb);(try clear hk)))
   go_ret2
   exact ⟨_,by first|rfl|(simp [errW_none,errW_some] <;> rfl)|(simp [*,errW_none,errW_some] <;> rfl),by first|exact Kd.S_nil _ _ _ _ _|exact Kd.N_nil _ _ _ _ _|exact Kd.V_nil _ _ _ _ _|exact Kd.Q_nil _ _ _ _ _|exact Kd.R_nil _ _ _ _ _,bG HB.out⟩
 ·rw [if_neg c5] at H
  have b7 := decide_eq_false c5
  clear c5
  by_cases b6 : 0 ≤ ai
  ·rw [if_pos b6] at H
   have cQ := decide_eq_true b6
   clear b6
   obtain ⟨cR,H⟩ := iS H
   have cS := decide_eq_true cR
   clear cR
   obtain ⟨ay,aQ⟩ : ∃ y_ : List (S36),y_ = (ah.set (ai : Int).toNat (⟨ak,al,am⟩ : S36)) := ⟨_,rfl⟩
   replace H : ((group_Right.f k ay).bind fun aM => (if aM = 0 then (some (ay,0)) else (some (([] : List (S36)),aM)))) = some (r1,r2) := by first|(rw [aQ];with_reducible exact H)|(have bj := (Option.bind_some _ _).symm.trans H;rw [aQ];with_reducible exact bj)|(have bj := (Option.bind_some _ _).symm.trans H;with_reducible exact bj)|with_reducible exact H|(rw [aQ];exact H)|exact H
   have bg := aK aQ
   clear aQ
   replace H := Option.bind_eq_some_iff.mp H
   obtain ⟨aM,bY,H⟩ := H
   have bW := aK bY
   clear bY
   by_cases bm : aM = 0
   ·rw [if_pos bm] at H
    have bZ := beq_iff_eq.mpr bm
    have b1 := bne_eq_false_iff_eq.mpr bm
    clear bm
    simp only [Option.some.injEq,Prod.mk.injEq] at H
    obtain ⟨rfl,rfl⟩ := H
    go_enter Tryz.func23,Tryz.ntmps23
    go_wp2_with (first|((with_reducible refine gate_dst (N := 3) rfl ?_);refine box_event ?hg (N := 3) ?hd (cs := #[.string ak,.slice aq al.length ar,.slice au am.length av]) (t := 36) ?hr ?_;(case hd => rfl);(case hg => rfl);(case hr => first|(go_simp;done)|(go_simp;rfl));intro aa hg df hbox hb;replace aw := aK (Kd.V_below (Kd.V_elderB (vM aw.out) aa (Nat.le_of_eq hg.symm)) hb);replace af := aK (Kd.V_below (Kd.V_elderB (vM af.out) aa (Nat.le_of_eq hg.symm)) hb);replace ag := aK (Kd.V_below (Kd.V_elderB (vM ag.out) aa (Nat.le_of_eq hg.symm)) hb);have ac := aK (hbox);have aC := aK ((by rw [hg];exact (below_size (bM HB.out)) : w.heap.size ≤ aa));have a5 := Ge.mk aC.out;have aD := aK ((by rw [hg];exact (below_size (bM HB.out)) : w.heap.size ≤ aa));have a6 := Ge.mk aD.out;replace HB := aK (below_step (bM HB.out) hb);clear hb hbox hg)|((with_reducible refine gate_callee (f := 49) rfl ?_);refine gL 10 Tryz.func49 #[.slice A0 l0.length c0] ?_;(with_reducible refine (api_Group_49.calls (fun k_ => (((ap k_ ∨ ad k_ ∨ ae k_) ∨ w.heap.size ≤ k_) ∧ k_ ≠ aa)) _ _ l0 ah _ ?an A3.out).mono ?_);(case an => exact aw.out);rintro e dg ⟨bk,rfl,aG,hb⟩;refine ⟨_,rfl,?_⟩;replace aw := aK (Kd.V_elder' (vM aw.out) (Kd.N_base aG) hb);replace af := aK (Kd.V_elder' (vM af.out) (Kd.N_base aG) hb);replace ag := aK (Kd.V_elder' (vM ag.out) (Kd.N_base aG) hb);have ab := aK (Kd.N_lower (Kd.N_mono (ok' := fun k_ => ((ap k_ ∨ ad k_ ∨ ae k_) ∨ w.heap.size ≤ k_) ∧ k_ ≠ aa) aG (fun k_ hk_ => ⟨Or.elim hk_ (fun hs_ => hs_.1) (fun hn_ => (.inr (Nat.le_trans (below_size (bG HB.out)) hn_))),Or.elim hk_ (fun hs_ => hs_.2) (fun hn_ => (Kd.freshB (g := aa) (o := .cells #[.string ak,.slice aq al.length ar,.slice au am.length av] 36 (0,0)) (kM ac.out) k_ hn_))⟩)) (below_size (bG HB.out)));replace ac := aK (blk_below (kM ac.out) hb);replace HB := aK (below_step (bG HB.out) hb);(try clear hb);(try clear hk);(try clear aG);obtain ⟨_,_,_,_,_,_⟩ := bk3_ ac.out;obtain ⟨cj,aH,ck⟩ := Kd.N_slice ab.out;subst ck)|((with_reducible refine gate_callee (f := 50) rfl ?_);refine gL 13 Tryz.func50 #[.slice cj ah.length aH,.func (.func 51) #[] #[.pointer (some ⟨aa,0,none⟩)]] ?_;(with_reducible refine (group_idx.callz k _ _ ah ak ai _ _ ?an ?ao ?aE A4.out).mono ?_);(case an => exact cM (Kd.N_reads' ab.out).2.2);(case ao => exact (Kd.N_reads' ab.out).2.1);(case aE => exact (blk_cell (kM ac.out) 0).trans rfl);rintro e bc ⟨rfl,hb⟩;refine ⟨_,rfl,?_⟩;replace aw := aK (Kd.V_below (vM aw.out) hb);replace af := aK (Kd.V_below (vM af.out) hb);replace ag := aK (Kd.V_below (vM ag.out) hb);replace ab := aK (Kd.N_below (nM ab.out) hb);replace ac := aK (blk_below (kM ac.out) hb);replace HB := aK (below_step (bG HB.out) hb);(try clear hb);(try clear hk);obtain ⟨_,_,_,_,_,_⟩ := bk3_ ac.out;have bn : 0 ≤ (ai : Int) := dA;have bo : (ai : Int) < ((ah.length : Int) : Int) := dA;obtain ⟨aj,cl,a7,a8,bp,cm,a9⟩ := Kd.N_form ab.out (by omega);(first|cases a7|(injection a7 with ea_ en_ ec_;(first|subst ea_|(injection ea_ with ea_;subst ea_));subst ec_;clear en_));have aY := aK a8;have cn := aK a9;clear a8 bp a9;obtain ⟨co,ba,bb,az,aA⟩ := Kd.N_elem ab.out z36 (ai : Int) bn bo;obtain ⟨aZ,a0,a1,a2,rfl,bq,br,bs,bu⟩ := k36_openF bb;have bv : bc.cell? ⟨aj,(ai : Int).toNat * 3,none⟩ = some (.string ((rd_T36 ah ai).f0)) := az 0 _ rfl;have bx : bc.cell? ⟨aj,(ai : Int).toNat * 3 + 1,none⟩ = some (.slice aZ ((rd_T36 ah ai).f1).length a0) := az 1 _ rfl;have bz : bc.cell? ⟨aj,(ai : Int).toNat * 3 + 2,none⟩ = some (.slice a1 ((rd_T36 ah ai).f2).length a2) := az 2 _ rfl;have bB : bc.frozen? ⟨aj,(ai : Int).toNat * 3,none⟩ = false := aA 0;have bC : bc.frozen? ⟨aj,(ai : Int).toNat * 3 + 1,none⟩ = false := aA 1;have bD : bc.frozen? ⟨aj,(ai : Int).toNat * 3 + 2,none⟩ = false := aA 2;clear ba az aA bb;replace bn := eq_true bn;replace bo := eq_true bo;have b2 := aK (show Kd.N k36 36 bc w.heap.size (fun k_ => ((ap k_ ∨ ad k_ ∨ ae k_) ∨ w.heap.size ≤ k_) ∧ k_ ≠ aa) (.slice (some ⟨aj,0,none⟩) ah.length aH) ah from (nM ab.out));obtain ⟨cV,bh,b3,aR,a3⟩ := Kd.N_elem b2.out z36 (ai : Int) (dA) (by have h_ : (ai : Int) < ((ah.length : Int) : Int) := dA;first|exact h_|(have e_ := (Kd.N_reads' ab.out).1;omega)|simpa using h_);obtain ⟨cp,cq,cr,ct,rfl,cu,cv,cw,cx⟩ := k36_openF b3;have bE := Kd.N_seg b2.out (ai : Int) (dA) (by have h_ : (ai : Int) < ((ah.length : Int) : Int) := dA;first|exact h_|(have e_ := (Kd.N_reads' ab.out).1;omega)|simpa using h_) (seg := [.string ak,.slice aq al.length ar,.slice au am.length av]) (j := 0) bh aR (show 3 ≤ 3 from by decide) (x' := (⟨ak,al,am⟩ : S36)) (k36_mkF _ _ (⟨ak,al,am⟩ : S36) (Kd.V_reads' (Kd.V_mono (ok' := (fun k_ => ((fun k_ => ((ap k_ ∨ ad k_ ∨ ae k_) ∨ w.heap.size ≤ k_) ∧ k_ ≠ aa)) k_ ∧ k_ ≠ aj)) (af.out) (fun k_ hk => ⟨⟨hk.1.1,hk.1.2⟩,fun e_ => (hk.2) (by rw [e_];rfl)⟩))).2.1 (Kd.V_F (Kd.V_mono (ok' := (fun k_ => ((fun k_ => ((ap k_ ∨ ad k_ ∨ ae k_) ∨ w.heap.size ≤ k_) ∧ k_ ≠ aa)) k_ ∧ k_ ≠ aj)) (af.out) (fun k_ hk => ⟨⟨hk.1.1,hk.1.2⟩,fun e_ => (hk.2) (by rw [e_];rfl)⟩))) (Kd.V_reads' (Kd.V_mono (ok' := (fun k_ => ((fun k_ => ((ap k_ ∨ ad k_ ∨ ae k_) ∨ w.heap.size ≤ k_) ∧ k_ ≠ aa)) k_ ∧ k_ ≠ aj)) (ag.out) (fun k_ hk => ⟨⟨hk.1.1,hk.1.2⟩,fun e_ => (hk.2) (by rw [e_];rfl)⟩))).2.1 (Kd.V_F (Kd.V_mono (ok' := (fun k_ => ((fun k_ => ((ap k_ ∨ ad k_ ∨ ae k_) ∨ w.heap.size ≤ k_) ∧ k_ ≠ aa)) k_ ∧ k_ ≠ aj)) (ag.out) (fun k_ hk => ⟨⟨hk.1.1,hk.1.2⟩,fun e_ => (hk.2) (by rw [e_];rfl)⟩)))) (fun _ hk => hk);have bF := aR 0 _ rfl;(try simp only [show (k36).sz = 3 from rfl,Nat.mul_one,Nat.add_zero] at bF);have bH := a3 0;(try simp only [show (k36).sz = 3 from rfl,Nat.mul_one,Nat.add_zero] at bH);have bI := aR 1 _ rfl;(try simp only [show (k36).sz = 3 from rfl,Nat.mul_one,Nat.add_zero] at bI);have bJ := a3 1;(try simp only [show (k36).sz = 3 from rfl,Nat.mul_one,Nat.add_zero] at bJ);have bK := aR 2 _ rfl;(try simp only [show (k36).sz = 3 from rfl,Nat.mul_one,Nat.add_zero] at bK);have bL := a3 2;(try simp only [show (k36).sz = 3 from rfl,Nat.mul_one,Nat.add_zero] at bL);clear bh aR a3 b3)|((with_reducible refine gate_store (t := 36) (p := 23) rfl ?_);refine store_event (t := 36) (p := 23) (v := ?cy) (w1 := (((bc.setCell ⟨aj,(ai : Int).toNat * 3,none⟩ (.string ak)).setCell ⟨aj,(ai : Int).toNat * 3 + 1,none⟩ (.slice aq al.length ar)).setCell ⟨aj,(ai : Int).toNat * 3 + 2,none⟩ (.slice au am.length av))) ?hg ?ho ?hn ?hr ?_;(case ho => rfl);(case hg => rfl);(case hn => rfl);(case hr => first|(go_simp;done)|(go_simp;rfl));intro cz hw;have hg : bc.grownBy cz (some aj) := (by rw [hw];exact bE.2);have hp_ : Kd.N k36 36 cz w.heap.size (fun k_ => ((ap k_ ∨ ad k_ ∨ ae k_) ∨ w.heap.size ≤ k_) ∧ k_ ≠ aa) (.slice (some ⟨aj,0,none⟩) ah.length aH) ay := (by rw [hw,bg.out];exact bE.1);clear bE;replace aw := aK (Kd.V_afterv (v := (.slice (some ⟨aj,0,none⟩) ah.length aH)) (v1 := (.slice (some ⟨aj,0,none⟩) ah.length aH)) (ok := (fun k_ => ((ap k_ ∨ ad k_ ∨ ae k_) ∨ w.heap.size ≤ k_) ∧ k_ ≠ aa)) (vM aw.out) hg (.inl rfl));replace af := aK (Kd.V_afterv (v := (.slice (some ⟨aj,0,none⟩) ah.length aH)) (v1 := (.slice (some ⟨aj,0,none⟩) ah.length aH)) (ok := (fun k_ => ((ap k_ ∨ ad k_ ∨ ae k_) ∨ w.heap.size ≤ k_) ∧ k_ ≠ aa)) (vM af.out) hg (.inl rfl));replace ag := aK (Kd.V_afterv (v := (.slice (some ⟨aj,0,none⟩) ah.length aH)) (v1 := (.slice (some ⟨aj,0,none⟩) ah.length aH)) (ok := (fun k_ => ((ap k_ ∨ ad k_ ∨ ae k_) ∨ w.heap.size ≤ k_) ∧ k_ ≠ aa)) (vM ag.out) hg (.inl rfl));replace ac := aK (blk_grown (g := aa) (o := .cells #[.string ak,.slice aq al.length ar,.slice au am.length av] 36 (0,0)) (kM ac.out) hg (Kd.N_away ab.out (fun _ hk => hk.2)));replace ab := aK (hp_);replace HB := aK ((by rw [hw];exact below_set (below_set (below_set (HB.out) aY.out) aY.out) aY.out : Below w.heap.size w cz));clear hg hw hp_)|(go_at_call 11;refine calls_of_args (args' := #[.slice (some ⟨aj,0,none⟩) ay.length aH]) (by first|with_reducible rfl|(rw [show ay.length = ah.length from (Kd.N_reads' ab.out).1.symm] <;> rfl)|(simp only [List.length_nil];done)|(simp only [List.length_nil];with_reducible rfl)) ?_;(with_reducible refine (group_Right.calls k _ _ ay aM _ ?an ?ao bW.out).mono ?_);(case an => exact cM (Kd.N_reads' ab.out).2.2);(case ao => rw [show ay.length = ah.length from (Kd.N_reads' ab.out).1.symm];exact (Kd.N_reads' ab.out).2.1);rintro e dh ⟨rfl,hb⟩;replace aw := aK (Kd.V_below (vM aw.out) hb);replace af := aK (Kd.V_below (vM af.out) hb);replace ag := aK (Kd.V_below (vM ag.out) hb);replace ab := aK (Kd.N_below (nM ab.out) hb);replace ac := aK (blk_below (kM ac.out) hb);replace HB := aK (below_step (bG HB.out) hb);(try clear hb);(try clear hk)))
    go_ret2
    exact ⟨_,by first|rfl|(simp [errW_none,errW_some] <;> rfl)|(simp [*,errW_none,errW_some] <;> rfl),by (with_reducible repeat (first|apply Kd.N_alloc|apply Kd.N_drewN|apply Kd.N_drew));exact Kd.N_mono ab.out (fun _ hk => hk.1),bG HB.out⟩
   ·rw [if_neg bm] at H
    have bZ := beq_eq_false_iff_ne.mpr bm
    have b1 := bne_iff_ne.mpr bm
    simp only [Option.some.injEq,Prod.mk.injEq] at H
    obtain ⟨rfl,rfl⟩ := H
    go_enter Tryz.func23,Tryz.ntmps23
    go_wp2_with (first|((with_reducible refine gate_dst (N := 3) rfl ?_);refine box_event ?hg (N := 3) ?hd (cs := #[.string ak,.slice aq al.length ar,.slice au am.length av]) (t := 36) ?hr ?_;(case hd => rfl);(case hg => rfl);(case hr => first|(go_simp;done)|(go_simp;rfl));intro aa hg di hbox hb;replace aw := aK (Kd.V_below (Kd.V_elderB (vM aw.out) aa (Nat.le_of_eq hg.symm)) hb);replace af := aK (Kd.V_below (Kd.V_elderB (vM af.out) aa (Nat.le_of_eq hg.symm)) hb);replace ag := aK (Kd.V_below (Kd.V_elderB (vM ag.out) aa (Nat.le_of_eq hg.symm)) hb);have ac := aK (hbox);have aC := aK ((by rw [hg];exact (below_size (bM HB.out)) : w.heap.size ≤ aa));have a5 := Ge.mk aC.out;have aD := aK ((by rw [hg];exact (below_size (bM HB.out)) : w.heap.size ≤ aa));have a6 := Ge.mk aD.out;replace HB := aK (below_step (bM HB.out) hb);clear hb hbox hg)|((with_reducible refine gate_callee (f := 49) rfl ?_);refine gL 10 Tryz.func49 #[.slice A0 l0.length c0] ?_;(with_reducible refine (api_Group_49.calls (fun k_ => (((ap k_ ∨ ad k_ ∨ ae k_) ∨ w.heap.size ≤ k_) ∧ k_ ≠ aa)) _ _ l0 ah _ ?an A3.out).mono ?_);(case an => exact aw.out);rintro e dj ⟨bk,rfl,aG,hb⟩;refine ⟨_,rfl,?_⟩;replace af := aK (Kd.V_elder' (vM af.out) (Kd.N_base aG) hb);replace ag := aK (Kd.V_elder' (vM ag.out) (Kd.N_base aG) hb);have ab := aK (Kd.N_lower (Kd.N_mono (ok' := fun k_ => ((ap k_ ∨ ad k_ ∨ ae k_) ∨ w.heap.size ≤ k_) ∧ k_ ≠ aa) aG (fun k_ hk_ => ⟨Or.elim hk_ (fun hs_ => hs_.1) (fun hn_ => (.inr (Nat.le_trans (below_size (bG HB.out)) hn_))),Or.elim hk_ (fun hs_ => hs_.2) (fun hn_ => (Kd.freshB (g := aa) (o := .cells #[.string ak,.slice aq al.length ar,.slice au am.length av] 36 (0,0)) (kM ac.out) k_ hn_))⟩)) (below_size (bG HB.out)));replace ac := aK (blk_below (kM ac.out) hb);replace HB := aK (below_step (bG HB.out) hb);(try clear hb);(try clear hk);(try clear aG);obtain ⟨_,_,_,_,_,_⟩ := bk3_ ac.out;obtain ⟨cA,bd,cB⟩ := Kd.N_slice ab.out;subst cB)|((with_reducible refine gate_callee (f := 50) rfl ?_);refine gL 13 Tryz.func50 #[.slice cA ah.length bd,.func (.func 51) #[] #[.pointer (some ⟨aa,0,none⟩)]] ?_;(with_reducible refine (group_idx.callz k _ _ ah ak ai _ _ ?an ?ao ?aE A4.out).mono ?_);(case an => exact cM (Kd.N_reads' ab.out).2.2);(case ao => exact (Kd.N_reads' ab.out).2.1);(case aE => exact (blk_cell (kM ac.out) 0).trans rfl);rintro e be ⟨rfl,hb⟩;refine ⟨_,rfl,?_⟩;replace af := aK (Kd.V_below (vM af.out) hb);replace ag := aK (Kd.V_below (vM ag.out) hb);replace ab := aK (Kd.N_below (nM ab.out) hb);replace ac := aK (blk_below (kM ac.out) hb);replace HB := aK (below_step (bG HB.out) hb);(try clear hb);(try clear hk);obtain ⟨_,_,_,_,_,_⟩ := bk3_ ac.out;have bn : 0 ≤ (ai : Int) := dA;have bo : (ai : Int) < ((ah.length : Int) : Int) := dA;obtain ⟨aj,cl,a7,a8,bp,cm,a9⟩ := Kd.N_form ab.out (by omega);(first|cases a7|(injection a7 with ea_ en_ ec_;(first|subst ea_|(injection ea_ with ea_;subst ea_));subst ec_;clear en_));have aY := aK a8;have cn := aK a9;clear a8 bp a9;obtain ⟨co,ba,bb,az,aA⟩ := Kd.N_elem ab.out z36 (ai : Int) bn bo;obtain ⟨aZ,a0,a1,a2,rfl,bq,br,bs,bu⟩ := k36_openF bb;have bv : be.cell? ⟨aj,(ai : Int).toNat * 3,none⟩ = some (.string ((rd_T36 ah ai).f0)) := az 0 _ rfl;have bx : be.cell? ⟨aj,(ai : Int).toNat * 3 + 1,none⟩ = some (.slice aZ ((rd_T36 ah ai).f1).length a0) := az 1 _ rfl;have bz : be.cell? ⟨aj,(ai : Int).toNat * 3 + 2,none⟩ = some (.slice a1 ((rd_T36 ah ai).f2).length a2) := az 2 _ rfl;have bB : be.frozen? ⟨aj,(ai : Int).toNat * 3,none⟩ = false := aA 0;have bC : be.frozen? ⟨aj,(ai : Int).toNat * 3 + 1,none⟩ = false := aA 1;have bD : be.frozen? ⟨aj,(ai : Int).toNat * 3 + 2,none⟩ = false := aA 2;clear ba az aA bb;replace bn := eq_true bn;replace bo := eq_true bo;have b4 := aK (show Kd.N k36 36 be w.heap.size (fun k_ => ((ap k_ ∨ ad k_ ∨ ae k_) ∨ w.heap.size ≤ k_) ∧ k_ ≠ aa) (.slice (some ⟨aj,0,none⟩) ah.length bd) ah from (nM ab.out));obtain ⟨cW,bi,b5,aT,a4⟩ := Kd.N_elem b4.out z36 (ai : Int) (dA) (by have h_ : (ai : Int) < ((ah.length : Int) : Int) := dA;first|exact h_|(have e_ := (Kd.N_reads' ab.out).1;omega)|simpa using h_);obtain ⟨cC,cD,cE,cF,rfl,cG,cH,cI,cJ⟩ := k36_openF b5;have bN := Kd.N_seg b4.out (ai : Int) (dA) (by have h_ : (ai : Int) < ((ah.length : Int) : Int) := dA;first|exact h_|(have e_ := (Kd.N_reads' ab.out).1;omega)|simpa using h_) (seg := [.string ak,.slice aq al.length ar,.slice au am.length av]) (j := 0) bi aT (show 3 ≤ 3 from by decide) (x' := (⟨ak,al,am⟩ : S36)) (k36_mkF _ _ (⟨ak,al,am⟩ : S36) (Kd.V_reads' (Kd.V_mono (ok' := (fun k_ => ((fun k_ => ((ap k_ ∨ ad k_ ∨ ae k_) ∨ w.heap.size ≤ k_) ∧ k_ ≠ aa)) k_ ∧ k_ ≠ aj)) (af.out) (fun k_ hk => ⟨⟨hk.1.1,hk.1.2⟩,fun e_ => (hk.2) (by rw [e_];rfl)⟩))).2.1 (Kd.V_F (Kd.V_mono (ok' := (fun k_ => ((fun k_ => ((ap k_ ∨ ad k_ ∨ ae k_) ∨ w.heap.size ≤ k_) ∧ k_ ≠ aa)) k_ ∧ k_ ≠ aj)) (af.out) (fun k_ hk => ⟨⟨hk.1.1,hk.1.2⟩,fun e_ => (hk.2) (by rw [e_];rfl)⟩))) (Kd.V_reads' (Kd.V_mono (ok' := (fun k_ => ((fun k_ => ((ap k_ ∨ ad k_ ∨ ae k_) ∨ w.heap.size ≤ k_) ∧ k_ ≠ aa)) k_ ∧ k_ ≠ aj)) (ag.out) (fun k_ hk => ⟨⟨hk.1.1,hk.1.2⟩,fun e_ => (hk.2) (by rw [e_];rfl)⟩))).2.1 (Kd.V_F (Kd.V_mono (ok' := (fun k_ => ((fun k_ => ((ap k_ ∨ ad k_ ∨ ae k_) ∨ w.heap.size ≤ k_) ∧ k_ ≠ aa)) k_ ∧ k_ ≠ aj)) (ag.out) (fun k_ hk => ⟨⟨hk.1.1,hk.1.2⟩,fun e_ => (hk.2) (by rw [e_];rfl)⟩)))) (fun _ hk => hk);have bO := aT 0 _ rfl;(try simp only [show (k36).sz = 3 from rfl,Nat.mul_one,Nat.add_zero] at bO);have bP := a4 0;(try simp only [show (k36).sz = 3 from rfl,Nat.mul_one,Nat.add_zero] at bP);have bQ := aT 1 _ rfl;(try simp only [show (k36).sz = 3 from rfl,Nat.mul_one,Nat.add_zero] at bQ);have bR := a4 1;(try simp only [show (k36).sz = 3 from rfl,Nat.mul_one,Nat.add_zero] at bR);have bS := aT 2 _ rfl;(try simp only [show (k36).sz = 3 from rfl,Nat.mul_one,Nat.add_zero] at bS);have bT := a4 2;(try simp only [show (k36).sz = 3 from rfl,Nat.mul_one,Nat.add_zero] at bT);clear bi aT a4 b5)|((with_reducible refine gate_store (t := 36) (p := 23) rfl ?_);refine store_event (t := 36) (p := 23) (v := ?cK) (w1 := (((be.setCell ⟨aj,(ai : Int).toNat * 3,none⟩ (.string ak)).setCell ⟨aj,(ai : Int).toNat * 3 + 1,none⟩ (.slice aq al.length ar)).setCell ⟨aj,(ai : Int).toNat * 3 + 2,none⟩ (.slice au am.length av))) ?hg ?ho ?hn ?hr ?_;(case ho => rfl);(case hg => rfl);(case hn => rfl);(case hr => first|(go_simp;done)|(go_simp;rfl));intro cL hw;have hg : be.grownBy cL (some aj) := (by rw [hw];exact bN.2);have hp_ : Kd.N k36 36 cL w.heap.size (fun k_ => ((ap k_ ∨ ad k_ ∨ ae k_) ∨ w.heap.size ≤ k_) ∧ k_ ≠ aa) (.slice (some ⟨aj,0,none⟩) ah.length bd) ay := (by rw [hw,bg.out];exact bN.1);clear bN;replace ab := aK (hp_);replace HB := aK ((by rw [hw];exact below_set (below_set (below_set (HB.out) aY.out) aY.out) aY.out : Below w.heap.size w cL));clear hg hw hp_)|(go_at_call 11;refine calls_of_args (args' := #[.slice (some ⟨aj,0,none⟩) ay.length bd]) (by first|with_reducible rfl|(rw [show ay.length = ah.length from (Kd.N_reads' ab.out).1.symm] <;> rfl)|(simp only [List.length_nil];done)|(simp only [List.length_nil];with_reducible rfl)) ?_;(with_reducible refine (group_Right.calls k _ _ ay aM _ ?an ?ao bW.out).mono ?_);(case an => exact cM (Kd.N_reads' ab.out).2.2);(case ao => rw [show ay.length = ah.length from (Kd.N_reads' ab.out).1.symm];exact (Kd.N_reads' ab.out).2.1);rintro e dk ⟨rfl,hb⟩;replace HB := aK (below_step (bG HB.out) hb);(try clear hb);(try clear hk)))
    go_ret2
    exact ⟨_,by first|rfl|(simp [errW_none,errW_some] <;> rfl)|(simp [*,errW_none,errW_some] <;> rfl),by first|exact Kd.S_nil _ _ _ _ _|exact Kd.N_nil _ _ _ _ _|exact Kd.V_nil _ _ _ _ _|exact Kd.Q_nil _ _ _ _ _|exact Kd.R_nil _ _ _ _ _,bG HB.out⟩
  ·rw [if_neg b6] at H
   exact absurd H (by simp)

/-! ### r43_SameGroup: function 30 -/
mutual
def r43_SameGroup.j0 : Nat → Bool → ByteArray → List Int → List ByteArray → ByteArray → List Int → List ByteArray → Option (Bool)
|0,_,_,_,_,_,_,_ => none
|k + 1,ag,aa,ab,ac,ad,ae,af => if ag = true then (some false) else (r43_SameGroup.l0 k 0 aa ab ac ad ae af)
def r43_SameGroup.l0 : Nat → Int → ByteArray → List Int → List ByteArray → ByteArray → List Int → List ByteArray → Option (Bool)
|0,_,_,_,_,_,_,_ => none
|k + 1,x5,ac,ad,aa,ae,af,ab => if x5 < (aa.length : Int) then (if 0 ≤ x5 then (if x5 < (ab.length : Int) then (if (rdOf ByteArray.empty aa x5).toList = (rdOf ByteArray.empty ab x5).toList then (r43_SameGroup.l0 k (wrap64 (x5 + 1)) ac ad aa ae af ab) else (some false)) else (none)) else (none)) else (some true)
end
def r43_SameGroup.f (k : Nat) (aa : ByteArray) (ab : List Int) (ac : List ByteArray) (ad : ByteArray) (ae : List Int) (af : List ByteArray) : Option (Bool) := if aa.toList = ad.toList then ((r05_Same.f k ab ae).bind fun ag => (if ag = true then (r43_SameGroup.j0 k ((ac.length : Int) != (af.length : Int)) aa ab ac ad ae af) else (r43_SameGroup.j0 k true aa ab ac ad ae af))) else (r43_SameGroup.j0 k true aa ab ac ad ae af)
theorem r43_SameGroup.mono_l : ∀ k, (∀ y0 y1 y2 y3 y4 y5 y6, LeO (r43_SameGroup.j0 k y0 y1 y2 y3 y4 y5 y6) (r43_SameGroup.j0 (k + 1) y0 y1 y2 y3 y4 y5 y6)) ∧ (∀ y0 y1 y2 y3 y4 y5 y6, LeO (r43_SameGroup.l0 k y0 y1 y2 y3 y4 y5 y6) (r43_SameGroup.l0 (k + 1) y0 y1 y2 y3 y4 y5 y6))
|0 => ⟨fun _ _ _ _ _ _ _ r h => by simp [r43_SameGroup.j0] at h,fun _ _ _ _ _ _ _ r h => by simp [r43_SameGroup.l0] at h⟩
|k + 1 => by
  obtain ⟨ih0,ih1⟩ := r43_SameGroup.mono_l k
  refine ⟨?_,?_⟩
  ·intro y0 y1 y2 y3 y4 y5 y6
   unfold r43_SameGroup.j0
   repeat' (with_reducible first|exact ih1 _ _ _ _ _ _ _|exact LeO.refl _|exact LeO.none _|refine LeO.ite ?_ ?_|refine LeO.bind ?_ (fun _ => ?_))
  ·intro y0 y1 y2 y3 y4 y5 y6
   unfold r43_SameGroup.l0
   repeat' (with_reducible first|exact ih1 _ _ _ _ _ _ _|exact LeO.refl _|exact LeO.none _|refine LeO.ite ?_ ?_|refine LeO.bind ?_ (fun _ => ?_))
theorem r43_SameGroup.mono : ∀ a0 a1 a2 a3 a4 a5 k, LeO (r43_SameGroup.f k a0 a1 a2 a3 a4 a5) (r43_SameGroup.f (k + 1) a0 a1 a2 a3 a4 a5) := by
 intro a0 a1 a2 a3 a4 a5 k
 obtain ⟨ih0,ih1⟩ := r43_SameGroup.mono_l k
 unfold r43_SameGroup.f
 repeat' (with_reducible first|exact ih0 _ _ _ _ _ _ _|exact ih1 _ _ _ _ _ _ _|exact r05_Same.mono _ _ _|exact LeO.refl _|exact LeO.none _|refine LeO.ite ?_ ?_|refine LeO.bind ?_ (fun _ => ?_))
theorem r43_SameGroup.calls (k : Nat) (ar : ByteArray) (aD : Option Addr) (aE : Nat) (af : List Int) (aF : Option Addr) (aG : Nat) (ah : List ByteArray) (au : ByteArray) (aH : Option Addr) (aI : Nat) (ag : List Int) (aJ : Option Addr) (aL : Nat) (am : List ByteArray) (r : Bool) (w : World) (aS : Kd.C (Kd.int .i64) w aD af.length af) (aT : af.length ≤ aE) (aU : Kd.C Kd.string w aF ah.length ah) (aV : ah.length ≤ aG) (aW : Kd.C (Kd.int .i64) w aH ag.length ag) (aX : ag.length ≤ aI) (aY : Kd.C Kd.string w aJ am.length am) (aZ : am.length ≤ aL) (h : r43_SameGroup.f k ar af ah au ag am = some r) :
  Calls Tryz.prog 30 #[.agg #[.string ar,.slice aD af.length aE,.slice aF ah.length aG],.agg #[.string au,.slice aH ag.length aI,.slice aJ am.length aL]] w fun e w' => e = .returned (.bool r) ∧ Below w.heap.size w w' := by
 have bI := Tryz.underlying36
 have av := aK aS
 have aw := aK aT
 clear aS aT
 have a0 := aK aU
 have bj := aK aV
 clear aU aV
 have ax := aK aW
 have ay := aK aX
 clear aW aX
 have a1 := aK aY
 have bk := aK aZ
 clear aY aZ
 have HB := aK (Below.refl w.heap.size w)
 unfold r43_SameGroup.f at h
 have H := h
 clear h
 have bh := aK H
 clear H
 go_enter Tryz.func30,Tryz.ntmps30
 go_upto_region 1 with (first|((with_reducible refine gate_dst (N := 2) rfl ?_);(try (refine gate_guard (by rfl) ?_;dsimp only));refine box_event ?hg (N := 2) ?hd (cs := #[.string ar,.slice aD af.length aE,.slice aF ah.length aG]) (t := 36) ?hr ?_;(case hd => rfl);(case hg => rfl);(case hr => first|(go_simp;done)|(go_simp;rfl));intro an hg w4 hbox hb;have aa := aK (hbox);have az := aK ((by rw [hg];exact (below_size (bM HB.out)) : w.heap.size ≤ an));have a2 := Ge.mk az.out;have aA := aK ((by rw [hg];exact (below_size (bM HB.out)) : w.heap.size ≤ an));have a3 := Ge.mk aA.out;replace HB := aK (below_step (bM HB.out) hb);clear hb hbox hg)|((with_reducible refine gate_dst (N := 3) rfl ?_);(try (refine gate_guard (by rfl) ?_;dsimp only));refine box_event ?hg (N := 3) ?hd (cs := #[.string au,.slice aH ag.length aI,.slice aJ am.length aL]) (t := 36) ?hr ?_;(case hd => rfl);(case hg => rfl);(case hr => first|(go_simp;done)|(go_simp;rfl));intro ao hg w5 hbox hb;have ad := aK (hbox);have aB := aK ((by rw [hg];exact (below_size (bG HB.out)) : w.heap.size ≤ ao));have a4 := Ge.mk aB.out;have aC := aK ((by rw [hg];exact (below_size (bG HB.out)) : w.heap.size ≤ ao));have a5 := Ge.mk aC.out;replace HB := aK (below_step (bG HB.out) hb);have ab := aK (nbL aa.out hg);have ac := aK (nbR aa.out hg);replace aa := aK (blk_below (kM aa.out) hb);clear hb hbox hg))
 repeat (go_quiet (first|((with_reducible refine gate_dst (N := 2) rfl ?_);(try (refine gate_guard (by rfl) ?_;dsimp only));refine box_event ?hg (N := 2) ?hd (cs := #[.string ar,.slice aD af.length aE,.slice aF ah.length aG]) (t := 36) ?hr ?_;(case hd => rfl);(case hg => rfl);(case hr => first|(go_simp;done)|(go_simp;rfl));intro an hg w4 hbox hb;have aa := aK (hbox);have az := aK ((by rw [hg];exact (below_size (bM HB.out)) : w.heap.size ≤ an));have a2 := Ge.mk az.out;have aA := aK ((by rw [hg];exact (below_size (bM HB.out)) : w.heap.size ≤ an));have a3 := Ge.mk aA.out;replace HB := aK (below_step (bM HB.out) hb);clear hb hbox hg)|((with_reducible refine gate_dst (N := 3) rfl ?_);(try (refine gate_guard (by rfl) ?_;dsimp only));refine box_event ?hg (N := 3) ?hd (cs := #[.string au,.slice aH ag.length aI,.slice aJ am.length aL]) (t := 36) ?hr ?_;(case hd => rfl);(case hg => rfl);(case hr => first|(go_simp;done)|(go_simp;rfl));intro ao hg w5 hbox hb;have ad := aK (hbox);have aB := aK ((by rw [hg];exact (below_size (bG HB.out)) : w.heap.size ≤ ao));have a4 := Ge.mk aB.out;have aC := aK ((by rw [hg];exact (below_size (bG HB.out)) : w.heap.size ≤ ao));have a5 := Ge.mk aC.out;replace HB := aK (below_step (bG HB.out) hb);have ab := aK (nbL aa.out hg);have ac := aK (nbR aa.out hg);replace aa := aK (blk_below (kM aa.out) hb);clear hb hbox hg));go_upto_region 1 with (first|((with_reducible refine gate_dst (N := 2) rfl ?_);(try (refine gate_guard (by rfl) ?_;dsimp only));refine box_event ?hg (N := 2) ?hd (cs := #[.string ar,.slice aD af.length aE,.slice aF ah.length aG]) (t := 36) ?hr ?_;(case hd => rfl);(case hg => rfl);(case hr => first|(go_simp;done)|(go_simp;rfl));intro an hg w4 hbox hb;have aa := aK (hbox);have az := aK ((by rw [hg];exact (below_size (bM HB.out)) : w.heap.size ≤ an));have a2 := Ge.mk az.out;have aA := aK ((by rw [hg];exact (below_size (bM HB.out)) : w.heap.size ≤ an));have a3 := Ge.mk aA.out;replace HB := aK (below_step (bM HB.out) hb);clear hb hbox hg)|((with_reducible refine gate_dst (N := 3) rfl ?_);(try (refine gate_guard (by rfl) ?_;dsimp only));refine box_event ?hg (N := 3) ?hd (cs := #[.string au,.slice aH ag.length aI,.slice aJ am.length aL]) (t := 36) ?hr ?_;(case hd => rfl);(case hg => rfl);(case hr => first|(go_simp;done)|(go_simp;rfl));intro ao hg w5 hbox hb;have ad := aK (hbox);have aB := aK ((by rw [hg];exact (below_size (bG HB.out)) : w.heap.size ≤ ao));have a4 := Ge.mk aB.out;have aC := aK ((by rw [hg];exact (below_size (bG HB.out)) : w.heap.size ≤ ao));have a5 := Ge.mk aC.out;replace HB := aK (below_step (bG HB.out) hb);have ab := aK (nbL aa.out hg);have ac := aK (nbR aa.out hg);replace aa := aK (blk_below (kM aa.out) hb);clear hb hbox hg)))
 (try simp only [Act.put,z1_,z2_,z3_])
 go_cut [27] (fun bJ wc => ∃ (kq : Nat) (aQ : Bool),bJ = .bool aQ ∧ Aside0 (r43_SameGroup.j0 kq aQ ar af ah au ag am = some r) ∧ Aside0 (kq ≤ k) ∧ Aside0 (wc.heap[an]? = some (.cells #[.string ar,(.slice aD af.length aE),(.slice aF ah.length aG)] 36 (0,0))) ∧ Aside0 (wc.heap[ao]? = some (.cells #[.string au,(.slice aH ag.length aI),(.slice aJ am.length aL)] 36 (0,0))) ∧ Aside0 (Below w.heap.size w wc))
 case first =>
  have H := bh.out
  clear bh
  by_cases c6 : ar.toList = au.toList
  ·rw [if_pos c6] at H
   have aR := beq_iff_eq.mpr c6
   have a6 := bne_eq_false_iff_eq.mpr c6
   clear c6
   (first|rw [aR]|(simp only [i64_w,i32_w];rw [aR])|rw [a6]|skip)
   replace H := Option.bind_eq_some_iff.mp H
   obtain ⟨bi,bm,H⟩ := H
   have A7 := aK bm
   clear bm
   by_cases c8 : bi = true
   ·subst c8
    rw [if_pos rfl] at H
    have H' := aK H
    clear H
    have bK := ab.out
    have bL := ac.out
    obtain ⟨_,_,_,_,_,_⟩ := bk3_ aa.out
    obtain ⟨_,_,_,_,_,_⟩ := bk3_ ad.out
    go_wp2_with (first|(go_at_call 13;(with_reducible refine (r05_Same.calls k _ _ af _ _ ag true _ ?ai ?aj ?ak ?al A7.out).mono ?_);(case ai => exact cM (Kd.C_below av.out HB.out));(case aj => exact aw.out);(case ak => exact cM (Kd.C_below ax.out HB.out));(case al => exact ay.out);rintro e w' ⟨rfl,⟨nd,rfl⟩⟩;(try first|exact ⟨rfl,_,World.drewN_drewN _ _ _⟩|exact ⟨rfl,_,Eq.trans (World.drewN_drewN _ _ _) (congrArg (World.drewN _) (Nat.add_assoc _ _ _))⟩)))
    repeat (go_quiet (first|(go_at_call 13;(with_reducible refine (r05_Same.calls k _ _ af _ _ ag true _ ?ai ?aj ?ak ?al A7.out).mono ?_);(case ai => exact cM (Kd.C_below av.out HB.out));(case aj => exact aw.out);(case ak => exact cM (Kd.C_below ax.out HB.out));(case al => exact ay.out);rintro e w' ⟨rfl,⟨nd,rfl⟩⟩;(try first|exact ⟨rfl,_,World.drewN_drewN _ _ _⟩|exact ⟨rfl,_,Eq.trans (World.drewN_drewN _ _ _) (congrArg (World.drewN _) (Nat.add_assoc _ _ _))⟩)));try go_wp2_with (first|(go_at_call 13;(with_reducible refine (r05_Same.calls k _ _ af _ _ ag true _ ?ai ?aj ?ak ?al A7.out).mono ?_);(case ai => exact cM (Kd.C_below av.out HB.out));(case aj => exact aw.out);(case ak => exact cM (Kd.C_below ax.out HB.out));(case al => exact ay.out);rintro e w' ⟨rfl,⟨nd,rfl⟩⟩;(try first|exact ⟨rfl,_,World.drewN_drewN _ _ _⟩|exact ⟨rfl,_,Eq.trans (World.drewN_drewN _ _ _) (congrArg (World.drewN _) (Nat.add_assoc _ _ _))⟩))))
    go_meet
    case rel => exact ⟨_,(((ah.length : Int) != (am.length : Int))),(by first|rfl|(simp;done)|(simp [*];done)),H',⟨by first|omega|exact Nat.le_refl _⟩,⟨kM aa.out⟩,⟨kM ad.out⟩,⟨bG HB.out⟩⟩
   ·replace c8 := Bool.eq_false_iff.mpr c8
    subst c8
    rw [if_neg (show ¬ (false = true) by decide)] at H
    have H' := aK H
    clear H
    have bn := ab.out
    have bo := ac.out
    obtain ⟨_,_,_,_,_,_⟩ := bk3_ aa.out
    obtain ⟨_,_,_,_,_,_⟩ := bk3_ ad.out
    go_wp2_with (first|(go_at_call 13;(with_reducible refine (r05_Same.calls k _ _ af _ _ ag false _ ?ai ?aj ?ak ?al A7.out).mono ?_);(case ai => exact cM (Kd.C_below av.out HB.out));(case aj => exact aw.out);(case ak => exact cM (Kd.C_below ax.out HB.out));(case al => exact ay.out);rintro e w' ⟨rfl,⟨nd,rfl⟩⟩;(try first|exact ⟨rfl,_,World.drewN_drewN _ _ _⟩|exact ⟨rfl,_,Eq.trans (World.drewN_drewN _ _ _) (congrArg (World.drewN _) (Nat.add_assoc _ _ _))⟩)))
    repeat (go_quiet (first|(go_at_call 13;(with_reducible refine (r05_Same.calls k _ _ af _ _ ag false _ ?ai ?aj ?ak ?al A7.out).mono ?_);(case ai => exact cM (Kd.C_below av.out HB.out));(case aj => exact aw.out);(case ak => exact cM (Kd.C_below ax.out HB.out));(case al => exact ay.out);rintro e w' ⟨rfl,⟨nd,rfl⟩⟩;(try first|exact ⟨rfl,_,World.drewN_drewN _ _ _⟩|exact ⟨rfl,_,Eq.trans (World.drewN_drewN _ _ _) (congrArg (World.drewN _) (Nat.add_assoc _ _ _))⟩)));try go_wp2_with (first|(go_at_call 13;(with_reducible refine (r05_Same.calls k _ _ af _ _ ag false _ ?ai ?aj ?ak ?al A7.out).mono ?_);(case ai => exact cM (Kd.C_below av.out HB.out));(case aj => exact aw.out);(case ak => exact cM (Kd.C_below ax.out HB.out));(case al => exact ay.out);rintro e w' ⟨rfl,⟨nd,rfl⟩⟩;(try first|exact ⟨rfl,_,World.drewN_drewN _ _ _⟩|exact ⟨rfl,_,Eq.trans (World.drewN_drewN _ _ _) (congrArg (World.drewN _) (Nat.add_assoc _ _ _))⟩))))
    go_meet
    case rel => exact ⟨_,(true),(by first|rfl|(simp;done)|(simp [*];done)),H',⟨by first|omega|exact Nat.le_refl _⟩,⟨kM aa.out⟩,⟨kM ad.out⟩,⟨bG HB.out⟩⟩
  ·rw [if_neg c6] at H
   have aR := beq_eq_false_iff_ne.mpr c6
   have a6 := bne_iff_ne.mpr c6
   (first|rw [aR]|(simp only [i64_w,i32_w];rw [aR])|rw [a6]|skip)
   have H' := aK H
   clear H
   have bp := ab.out
   have bq := ac.out
   obtain ⟨_,_,_,_,_,_⟩ := bk3_ aa.out
   obtain ⟨_,_,_,_,_,_⟩ := bk3_ ad.out
   go_wp2
   repeat (go_quiet (fail);try go_wp2)
   go_meet
   case rel => exact ⟨_,(true),(by first|rfl|(simp;done)|(simp [*];done)),H',⟨by first|omega|exact Nat.le_refl _⟩,⟨kM aa.out⟩,⟨kM ad.out⟩,⟨bG HB.out⟩⟩
 case rest =>
  clear bh
  try clear p2
  obtain ⟨kq,aQ,rfl,HA,br,aa,ad,HB⟩ := hcut
  cases kq with
 |zero => exact absurd HA.out (by simp [r43_SameGroup.j0])
 |succ kj2 =>
   have H := HA.out
   clear HA
   simp only [r43_SameGroup.j0] at H
   by_cases bb : aQ = true
   ·subst bb
    rw [if_pos rfl] at H
    obtain rfl := Option.some.inj H
    go_wp2
    repeat (go_quiet (fail);try go_wp2)
    go_ret
    exact ⟨by first|rfl|(simp [errW_none,errW_some] <;> rfl)|(simp [*,errW_none,errW_some] <;> rfl),bG HB.out⟩
   ·replace bb := Bool.eq_false_iff.mpr bb
    subst bb
    rw [if_neg (show ¬ (false = true) by decide)] at H
    have H' := aK H
    clear H
    go_wp2
    repeat (go_quiet (fail);try go_wp2)
    go_loopg [5] kj2 (fun kq v5 w' => ∃ (ae : Int),v5 = .int .i64 ae ∧ Aside0 (r43_SameGroup.l0 kq ae ar af ah au ag am = some r) ∧ Aside0 (kq ≤ kj2) ∧ Aside0 (w'.heap[an]? = some (.cells #[.string ar,(.slice aD af.length aE),(.slice aF ah.length aG)] 36 (0,0))) ∧ Aside0 (w'.heap[ao]? = some (.cells #[.string au,(.slice aH ag.length aI),(.slice aJ am.length aL)] 36 (0,0))) ∧ Aside0 (Below w.heap.size w w'))
    case atStart => exact ⟨(0),(by first|rfl|(simp;done)|(simp [*];done)),H',⟨Nat.le_refl _⟩,⟨kM aa.out⟩,⟨kM ad.out⟩,⟨bG HB.out⟩⟩
    case round =>
     clear H'
     try clear p2
     try clear bb
     try clear p2
     obtain ⟨ae,rfl,HA,bs,aa,ad,HB⟩ := hrel
     cases gk with
    |zero => exact absurd HA.out (by simp [r43_SameGroup.l0])
    |succ k2 =>
      have H := HA.out
      clear HA
      simp only [r43_SameGroup.l0] at H
      by_cases ba : ae < (ah.length : Int)
      ·rw [if_pos ba] at H
       have bc := decide_eq_true ba
       clear ba
       obtain ⟨bu,H⟩ := iS H
       have bv := decide_eq_true bu
       clear bu
       obtain ⟨bx,H⟩ := iS H
       have bz := decide_eq_true bx
       clear bx
       by_cases a7 : (rdOf ByteArray.empty ah ae).toList = (rdOf ByteArray.empty am ae).toList
       ·rw [if_pos a7] at H
        have bd := beq_iff_eq.mpr a7
        have be := bne_eq_false_iff_eq.mpr a7
        clear a7
        have H' := aK H
        clear H
        have bB := ab.out
        have bC := ac.out
        obtain ⟨_,_,_,_,_,_⟩ := bk3_ aa.out
        have aM : 0 ≤ (ae : Int) := dA
        have aN : ae < (ah.length : Int) := dA
        obtain ⟨bf,a8,ap⟩ := Kd.at_string a0.out ae aM aN
        cases a8
        replace ap := xM HB ap
        replace aM := eq_true aM
        replace aN := eq_true aN
        obtain ⟨_,_,_,_,_,_⟩ := bk3_ ad.out
        have aO : 0 ≤ (ae : Int) := dA
        have aP : ae < (am.length : Int) := dA
        obtain ⟨bg,a9,aq⟩ := Kd.at_string a1.out ae aO aP
        cases a9
        replace aq := xM HB aq
        replace aO := eq_true aO
        replace aP := eq_true aP
        go_wp2
        repeat (go_quiet (fail);try go_wp2)
        go_roundg k2
        case measure => have := br.out;have := bs.out;omega
        case rel => exact ⟨(wrap64 (ae + 1)),(by first|rfl|(simp;done)|(simp [*];done)),H',⟨by have := br.out;have := bs.out;omega⟩,⟨kM aa.out⟩,⟨kM ad.out⟩,⟨bG HB.out⟩⟩
       ·rw [if_neg a7] at H
        have bd := beq_eq_false_iff_ne.mpr a7
        have be := bne_iff_ne.mpr a7
        obtain rfl := Option.some.inj H
        have bD := ab.out
        have bE := ac.out
        obtain ⟨_,_,_,_,_,_⟩ := bk3_ aa.out
        have aM : 0 ≤ (ae : Int) := dA
        have aN : ae < (ah.length : Int) := dA
        obtain ⟨bf,a8,ap⟩ := Kd.at_string a0.out ae aM aN
        cases a8
        replace ap := xM HB ap
        replace aM := eq_true aM
        replace aN := eq_true aN
        obtain ⟨_,_,_,_,_,_⟩ := bk3_ ad.out
        have aO : 0 ≤ (ae : Int) := dA
        have aP : ae < (am.length : Int) := dA
        obtain ⟨bg,a9,aq⟩ := Kd.at_string a1.out ae aO aP
        cases a9
        replace aq := xM HB aq
        replace aO := eq_true aO
        replace aP := eq_true aP
        go_wp2
        repeat (go_quiet (fail);try go_wp2)
        go_ret
        exact ⟨by first|rfl|(simp [errW_none,errW_some] <;> rfl)|(simp [*,errW_none,errW_some] <;> rfl),bG HB.out⟩
      ·rw [if_neg ba] at H
       have bc := decide_eq_false ba
       clear ba
       obtain rfl := Option.some.inj H
       have bF := ab.out
       have bH := ac.out
       obtain ⟨_,_,_,_,_,_⟩ := bk3_ aa.out
       go_wp2
       repeat (go_quiet (fail);try go_wp2)
       go_ret
       exact ⟨by first|rfl|(simp [errW_none,errW_some] <;> rfl)|(simp [*,errW_none,errW_some] <;> rfl),bG HB.out⟩
end Go.Proofs.YtobdkgoapcbipaaGreatDoor.J
