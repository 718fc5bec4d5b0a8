import Derived.Test.YtobdkgoapcbipaaGreatDoorJx0
import Derived.Test.YtobdkgoapcbipaaGreatDoorJx7
import Derived.Test.YtobdkgoapcbipaaGreatDoorJx11
import Derived.Test.YtobdkgoapcbipaaGreatDoorJx12
import Derived.Test.YtobdkgoapcbipaaGreatDoorJx16
import Derived.Test.YtobdkgoapcbipaaGreatDoorJx18
namespace Go.Proofs.YtobdkgoapcbipaaGreatDoor.J
open Go.RowKit Go.Proofs.YtobdkgoapcbipaaGreatDoorW.PrintWords Go.Proofs.YtobdkgoapcbipaaGreatDoorW.PrintLast Go.Proofs.YtobdkgoapcbipaaGreatDoorW.PrintMore
attribute [local go_sem] max2_int min2_int max_two min_two max_three min_three max_four min_four
set_option linter.unusedVariables false
set_option linter.unusedSimpArgs false

/-! ### l43_GroupClosed: function 6 -/
mutual
def l43_GroupClosed.j0 : Nat → List (S36) → Int → Bool → Option (Bool)
|0,_,_,_ => none
|k + 1,x0,x1,ab => if ab = true then (some true) else ((group_Of.f k x0 x1).bind fun aa => (l43_GroupClosed.l0 k x0 x1 aa 0 0))
def l43_GroupClosed.l0 : Nat → List (S36) → Int → List ByteArray → Int → Int → Option (Bool)
|0,_,_,_,_,_ => none
|k + 1,x0,x1,x5,x6,x7 => if x7 < (x0.length : Int) then (if 0 ≤ x7 then (l43_GroupClosed.l1 k x0 x1 x5 x6 x7 ((rd_T36 x0 x7).f1) 0) else (none)) else (some (x6 == (x5.length : Int)))
def l43_GroupClosed.l1 : Nat → List (S36) → Int → List ByteArray → Int → Int → List Int → Int → Option (Bool)
|0,_,_,_,_,_,_,_ => none
|k + 1,x0,x1,x5,x6,x7,x8,x9 => if 0 ≤ x7 then (if x7 < (x0.length : Int) then (if x9 < (((rd_T36 x0 x7).f2).length : Int) then (if 0 ≤ x9 then ((group_Users.f k x0 (rdOf ByteArray.empty ((rd_T36 x0 x7).f2) x9)).bind fun ab => ((r05_Or.f k x8 ab).bind fun ac => (l43_GroupClosed.l1 k x0 x1 x5 x6 x7 ac (wrap64 (x9 + 1))))) else (none)) else ((group_Users.f k x0 ((rd_T36 x0 x7).f0)).bind fun aa => ((r05_Or.f k x8 ([] : List Int)).bind fun ad => ((r05_Same.f k aa ad).bind fun ae => (if ae = true then ((group_In.f k x0 ((rd_T36 x0 x7).f0) x1).bind fun af => ((r05_In.f k aa x1).bind fun ag => (l43_GroupClosed.j3 k x0 x1 x5 x6 x7 aa (af != ag)))) else (l43_GroupClosed.j3 k x0 x1 x5 x6 x7 aa true)))))) else (none)) else (none)
def l43_GroupClosed.j3 : Nat → List (S36) → Int → List ByteArray → Int → Int → List Int → Bool → Option (Bool)
|0,_,_,_,_,_,_,_ => none
|k + 1,x0,x1,x5,x6,x7,aa,ab => if ab = true then (some false) else (l43_GroupClosed.l2 k x0 x1 x5 x6 x7 aa false 0)
def l43_GroupClosed.l2 : Nat → List (S36) → Int → List ByteArray → Int → Int → List Int → Bool → Int → Option (Bool)
|0,_,_,_,_,_,_,_,_ => none
|k + 1,x0,x1,x5,x6,x7,ab,ac,aa => if aa < (x5.length : Int) then (if ac = true then (l43_GroupClosed.l2 k x0 x1 x5 x6 x7 ab true (wrap64 (aa + 1))) else (if 0 ≤ aa then (if 0 ≤ x7 then (if x7 < (x0.length : Int) then (l43_GroupClosed.l2 k x0 x1 x5 x6 x7 ab ((rdOf ByteArray.empty x5 aa).toList == ((rd_T36 x0 x7).f0).toList) (wrap64 (aa + 1))) else (none)) else (none)) else (none))) else ((r05_In.f k ab x1).bind fun ad => (if (ac != ad) = true then (some false) else (if ac = true then (l43_GroupClosed.l0 k x0 x1 x5 (wrap64 (x6 + 1)) (wrap64 (x7 + 1))) else (l43_GroupClosed.l0 k x0 x1 x5 x6 (wrap64 (x7 + 1))))))
end
def l43_GroupClosed.f (k : Nat) (l0 : List (S36)) (a1 : Int) : Option (Bool) := (l43_alive.f k).bind fun aa => (if aa = true then ((l43_few.f k l0).bind fun ab => (if ab = true then ((r43_Right.f k l0).bind fun ac => (l43_GroupClosed.j0 k l0 a1 (ac != 0))) else (l43_GroupClosed.j0 k l0 a1 true))) else (some false))
theorem l43_GroupClosed.mono_l : ∀ k, (∀ y0 y1 y2, LeO (l43_GroupClosed.j0 k y0 y1 y2) (l43_GroupClosed.j0 (k + 1) y0 y1 y2)) ∧ (∀ y0 y1 y2 y3 y4, LeO (l43_GroupClosed.l0 k y0 y1 y2 y3 y4) (l43_GroupClosed.l0 (k + 1) y0 y1 y2 y3 y4)) ∧ (∀ y0 y1 y2 y3 y4 y5 y6, LeO (l43_GroupClosed.l1 k y0 y1 y2 y3 y4 y5 y6) (l43_GroupClosed.l1 (k + 1) y0 y1 y2 y3 y4 y5 y6)) ∧ (∀ y0 y1 y2 y3 y4 y5 y6, LeO (l43_GroupClosed.j3 k y0 y1 y2 y3 y4 y5 y6) (l43_GroupClosed.j3 (k + 1) y0 y1 y2 y3 y4 y5 y6)) ∧ (∀ y0 y1 y2 y3 y4 y5 y6 y7, LeO (l43_GroupClosed.l2 k y0 y1 y2 y3 y4 y5 y6 y7) (l43_GroupClosed.l2 (k + 1) y0 y1 y2 y3 y4 y5 y6 y7))
|0 => ⟨fun _ _ _ r h => by simp [l43_GroupClosed.j0] at h,fun _ _ _ _ _ r h => by simp [l43_GroupClosed.l0] at h,fun _ _ _ _ _ _ _ r h => by simp [l43_GroupClosed.l1] at h,fun _ _ _ _ _ _ _ r h => by simp [l43_GroupClosed.j3] at h,fun _ _ _ _ _ _ _ _ r h => by simp [l43_GroupClosed.l2] at h⟩
|k + 1 => by
  obtain ⟨ih0,ih1,ih2,ih3,ih4⟩ := l43_GroupClosed.mono_l k
  refine ⟨?_,?_,?_,?_,?_⟩
  ·intro y0 y1 y2
   unfold l43_GroupClosed.j0
   repeat' (with_reducible first|exact ih1 _ _ _ _ _|exact group_Of.mono _ _ _|exact LeO.refl _|exact LeO.none _|refine LeO.ite ?_ ?_|refine LeO.bind ?_ (fun _ => ?_))
  ·intro y0 y1 y2 y3 y4
   unfold l43_GroupClosed.l0
   repeat' (with_reducible first|exact ih2 _ _ _ _ _ _ _|exact LeO.refl _|exact LeO.none _|refine LeO.ite ?_ ?_|refine LeO.bind ?_ (fun _ => ?_))
  ·intro y0 y1 y2 y3 y4 y5 y6
   unfold l43_GroupClosed.l1
   repeat' (with_reducible first|exact ih2 _ _ _ _ _ _ _|exact ih3 _ _ _ _ _ _ _|exact r05_In.mono _ _ _|exact r05_Or.mono _ _ _|exact r05_Same.mono _ _ _|exact group_In.mono _ _ _ _|exact group_Users.mono _ _ _|exact LeO.refl _|exact LeO.none _|refine LeO.ite ?_ ?_|refine LeO.bind ?_ (fun _ => ?_))
  ·intro y0 y1 y2 y3 y4 y5 y6
   unfold l43_GroupClosed.j3
   repeat' (with_reducible first|exact ih4 _ _ _ _ _ _ _ _|exact LeO.refl _|exact LeO.none _|refine LeO.ite ?_ ?_|refine LeO.bind ?_ (fun _ => ?_))
  ·intro y0 y1 y2 y3 y4 y5 y6 y7
   unfold l43_GroupClosed.l2
   repeat' (with_reducible first|exact ih1 _ _ _ _ _|exact ih4 _ _ _ _ _ _ _ _|exact r05_In.mono _ _ _|exact LeO.refl _|exact LeO.none _|refine LeO.ite ?_ ?_|refine LeO.bind ?_ (fun _ => ?_))
theorem l43_GroupClosed.mono : ∀ a0 a1 k, LeO (l43_GroupClosed.f k a0 a1) (l43_GroupClosed.f (k + 1) a0 a1) := by
 intro a0 a1 k
 obtain ⟨ih0,ih1,ih2,ih3,ih4⟩ := l43_GroupClosed.mono_l k
 unfold l43_GroupClosed.f
 repeat' (with_reducible first|exact ih0 _ _ _|exact ih1 _ _ _ _ _|exact ih2 _ _ _ _ _ _ _|exact ih3 _ _ _ _ _ _ _|exact ih4 _ _ _ _ _ _ _ _|exact l43_alive.mono _|exact l43_few.mono _ _|exact r05_In.mono _ _ _|exact r05_Or.mono _ _ _|exact r05_Same.mono _ _ _|exact r43_Right.mono _ _|exact group_In.mono _ _ _ _|exact group_Of.mono _ _ _|exact group_Users.mono _ _ _|exact LeO.refl _|exact LeO.none _|refine LeO.ite ?_ ?_|refine LeO.bind ?_ (fun _ => ?_))
set_option maxHeartbeats 4000000 in
set_option maxRecDepth 100000 in
theorem l43_GroupClosed.calls (k : Nat) (dz : Nat → Prop) (A0 : Option Addr) (c0 : Nat) (l0 : List (S36)) (a1 : Int) (r : Bool) (w : World) (gw : Kd.V k36 36 w w.heap.size (fun k_ => dz k_) (.slice A0 l0.length c0) l0) (h : l43_GroupClosed.f k l0 a1 = some r) :
  Calls Tryz.prog 6 #[.slice A0 l0.length c0,.int .i64 a1] w fun e w' => e = .returned (.bool r) ∧ Below w.heap.size w w' := by
 have a5 := aK (show Kd.V k36 36 w w.heap.size (fun k_ => (dz k_ ∨ w.heap.size ≤ k_)) (.slice A0 l0.length c0) l0 from Kd.V_mono gw (fun k_ hk => .inl hk))
 have HB := aK (Below.refl w.heap.size w)
 unfold l43_GroupClosed.f at h
 have H := h
 clear h
 replace H := Option.bind_eq_some_iff.mp H
 obtain ⟨fg,dg,H⟩ := H
 have A3 := aK dg
 clear dg
 by_cases c4 : fg = true
 ·subst c4
  rw [if_pos rfl] at H
  have fh := aK H
  clear H
  go_enter Tryz.func6,Tryz.ntmps6
  go_upto_region 3 with (first|(go_at_call 9;(with_reducible refine (l43_alive.calls k  true _ A3.out).mono ?_);rintro e w6 ⟨rfl,hb⟩;replace a5 := aK (Kd.V_below (vM a5.out) hb);replace HB := aK (below_step (bM HB.out) hb);(try clear hb);(try clear hk)))
  repeat (go_quiet (first|(go_at_call 9;(with_reducible refine (l43_alive.calls k  true _ A3.out).mono ?_);rintro e w6 ⟨rfl,hb⟩;replace a5 := aK (Kd.V_below (vM a5.out) hb);replace HB := aK (below_step (bM HB.out) hb);(try clear hb);(try clear hk)));go_upto_region 3 with (first|(go_at_call 9;(with_reducible refine (l43_alive.calls k  true _ A3.out).mono ?_);rintro e w6 ⟨rfl,hb⟩;replace a5 := aK (Kd.V_below (vM a5.out) hb);replace HB := aK (below_step (bM HB.out) hb);(try clear hb);(try clear hk))))
  (try simp only [Act.put,z1_,z2_,z3_])
  go_cut [22] (fun gx wc => ∃ (kq : Nat) (cf : Bool),gx = .bool cf ∧ Aside0 (l43_GroupClosed.j0 kq l0 a1 cf = some r) ∧ Aside0 (kq ≤ k) ∧ Aside0 (Kd.V k36 36 wc w.heap.size (fun k_ => (dz k_ ∨ w.heap.size ≤ k_)) (.slice A0 l0.length c0) l0) ∧ Aside0 (Below w.heap.size w wc))
  case first =>
   have H := fh.out
   clear fh
   replace H := Option.bind_eq_some_iff.mp H
   obtain ⟨fi,fY,H⟩ := H
   have A7 := aK fY
   clear fY
   by_cases c8 : fi = true
   ·subst c8
    rw [if_pos rfl] at H
    replace H := Option.bind_eq_some_iff.mp H
    obtain ⟨dh,fZ,H⟩ := H
    have A9 := aK fZ
    clear fZ
    have H' := aK H
    clear H
    go_wp2_with (first|(go_at_call 10;(with_reducible refine (l43_few.calls k _ _ l0 true _ ?aa ?ab A7.out).mono ?_);(case aa => exact cM (Kd.V_reads' a5.out).2.2);(case ab => exact (Kd.V_reads' a5.out).2.1);rintro e w' ⟨rfl,⟨nd,rfl⟩⟩;(try first|exact ⟨rfl,_,World.drewN_drewN _ _ _⟩|exact ⟨rfl,_,Eq.trans (World.drewN_drewN _ _ _) (congrArg (World.drewN _) (Nat.add_assoc _ _ _))⟩))|(go_at_call 12;(with_reducible refine (r43_Right.calls k _ _ l0 dh _ ?aa ?ab A9.out).mono ?_);(case aa => exact cM (Kd.V_reads' a5.out).2.2);(case ab => exact (Kd.V_reads' a5.out).2.1);rintro e f3 ⟨rfl,hb⟩;replace a5 := aK (Kd.V_below (vM a5.out) hb);replace HB := aK (below_step (bM HB.out) hb);(try clear hb);(try clear hk)))
    repeat (go_quiet (first|(go_at_call 10;(with_reducible refine (l43_few.calls k _ _ l0 true _ ?aa ?ab A7.out).mono ?_);(case aa => exact cM (Kd.V_reads' a5.out).2.2);(case ab => exact (Kd.V_reads' a5.out).2.1);rintro e w' ⟨rfl,⟨nd,rfl⟩⟩;(try first|exact ⟨rfl,_,World.drewN_drewN _ _ _⟩|exact ⟨rfl,_,Eq.trans (World.drewN_drewN _ _ _) (congrArg (World.drewN _) (Nat.add_assoc _ _ _))⟩))|(go_at_call 12;(with_reducible refine (r43_Right.calls k _ _ l0 dh _ ?aa ?ab A9.out).mono ?_);(case aa => exact cM (Kd.V_reads' a5.out).2.2);(case ab => exact (Kd.V_reads' a5.out).2.1);rintro e f3 ⟨rfl,hb⟩;replace a5 := aK (Kd.V_below (vM a5.out) hb);replace HB := aK (below_step (bM HB.out) hb);(try clear hb);(try clear hk)));try go_wp2_with (first|(go_at_call 10;(with_reducible refine (l43_few.calls k _ _ l0 true _ ?aa ?ab A7.out).mono ?_);(case aa => exact cM (Kd.V_reads' a5.out).2.2);(case ab => exact (Kd.V_reads' a5.out).2.1);rintro e w' ⟨rfl,⟨nd,rfl⟩⟩;(try first|exact ⟨rfl,_,World.drewN_drewN _ _ _⟩|exact ⟨rfl,_,Eq.trans (World.drewN_drewN _ _ _) (congrArg (World.drewN _) (Nat.add_assoc _ _ _))⟩))|(go_at_call 12;(with_reducible refine (r43_Right.calls k _ _ l0 dh _ ?aa ?ab A9.out).mono ?_);(case aa => exact cM (Kd.V_reads' a5.out).2.2);(case ab => exact (Kd.V_reads' a5.out).2.1);rintro e f3 ⟨rfl,hb⟩;replace a5 := aK (Kd.V_below (vM a5.out) hb);replace HB := aK (below_step (bM HB.out) hb);(try clear hb);(try clear hk))))
    go_meet
    case rel => exact ⟨_,((dh != 0)),(by first|rfl|(simp;done)|(simp [*];done)),H',⟨by first|omega|exact Nat.le_refl _⟩,⟨vM a5.out⟩,⟨bM HB.out⟩⟩
   ·replace c8 := Bool.eq_false_iff.mpr c8
    subst c8
    rw [if_neg (show ¬ (false = true) by decide)] at H
    have H' := aK H
    clear H
    go_wp2_with (first|(go_at_call 10;(with_reducible refine (l43_few.calls k _ _ l0 false _ ?aa ?ab A7.out).mono ?_);(case aa => exact cM (Kd.V_reads' a5.out).2.2);(case ab => exact (Kd.V_reads' a5.out).2.1);rintro e w' ⟨rfl,⟨nd,rfl⟩⟩;(try first|exact ⟨rfl,_,World.drewN_drewN _ _ _⟩|exact ⟨rfl,_,Eq.trans (World.drewN_drewN _ _ _) (congrArg (World.drewN _) (Nat.add_assoc _ _ _))⟩)))
    repeat (go_quiet (first|(go_at_call 10;(with_reducible refine (l43_few.calls k _ _ l0 false _ ?aa ?ab A7.out).mono ?_);(case aa => exact cM (Kd.V_reads' a5.out).2.2);(case ab => exact (Kd.V_reads' a5.out).2.1);rintro e w' ⟨rfl,⟨nd,rfl⟩⟩;(try first|exact ⟨rfl,_,World.drewN_drewN _ _ _⟩|exact ⟨rfl,_,Eq.trans (World.drewN_drewN _ _ _) (congrArg (World.drewN _) (Nat.add_assoc _ _ _))⟩)));try go_wp2_with (first|(go_at_call 10;(with_reducible refine (l43_few.calls k _ _ l0 false _ ?aa ?ab A7.out).mono ?_);(case aa => exact cM (Kd.V_reads' a5.out).2.2);(case ab => exact (Kd.V_reads' a5.out).2.1);rintro e w' ⟨rfl,⟨nd,rfl⟩⟩;(try first|exact ⟨rfl,_,World.drewN_drewN _ _ _⟩|exact ⟨rfl,_,Eq.trans (World.drewN_drewN _ _ _) (congrArg (World.drewN _) (Nat.add_assoc _ _ _))⟩))))
    go_meet
    case rel => exact ⟨_,(true),(by first|rfl|(simp;done)|(simp [*];done)),H',⟨by first|omega|exact Nat.le_refl _⟩,⟨vM a5.out⟩,⟨bM HB.out⟩⟩
  case rest =>
   clear fh
   try clear p2
   try clear c4
   obtain ⟨kq,cf,rfl,HA,cL,ag,HB⟩ := hcut
   cases kq with
  |zero => exact absurd HA.out (by simp [l43_GroupClosed.j0])
  |succ kj4 =>
    have H := HA.out
    clear HA
    simp only [l43_GroupClosed.j0] at H
    by_cases d1 : cf = true
    ·subst d1
     rw [if_pos rfl] at H
     obtain rfl := Option.some.inj H
     go_wp2
     repeat (go_quiet (fail);try go_wp2)
     go_ret
     exact ⟨by first|rfl|(simp [errW_none,errW_some] <;> rfl)|(simp [*,errW_none,errW_some] <;> rfl),bM HB.out⟩
    ·replace d1 := Bool.eq_false_iff.mpr d1
     subst d1
     rw [if_neg (show ¬ (false = true) by decide)] at H
     replace H := Option.bind_eq_some_iff.mp H
     obtain ⟨a8,d2,H⟩ := H
     have fj := aK d2
     clear d2
     have H' := aK H
     clear H
     go_wp2_with (first|(go_at_call 17;(with_reducible refine (group_Of.calls kj4 _ _ l0 a1 a8 _ ?aa ?ab fj.out).mono ?_);(case aa => exact cM (Kd.V_reads' ag.out).2.2);(case ab => exact (Kd.V_reads' ag.out).2.1);rintro e f4 ⟨bv,rfl,an,hb⟩;replace ag := aK (Kd.V_elder' (vM ag.out) (Kd.R_base an) hb);have cP := aK (Kd.R_lower (Kd.R_newM (M := fun k_ => (w.heap.size ≤ k_)) an (below_size (bM HB.out)) (fun k_ h_ => h_)) (below_size (bM HB.out)));replace HB := aK (below_step (bM HB.out) hb);(try clear hb);(try clear hk);(try clear an)))
     repeat (go_quiet (first|(go_at_call 17;(with_reducible refine (group_Of.calls kj4 _ _ l0 a1 a8 _ ?aa ?ab fj.out).mono ?_);(case aa => exact cM (Kd.V_reads' ag.out).2.2);(case ab => exact (Kd.V_reads' ag.out).2.1);rintro e f4 ⟨bv,rfl,an,hb⟩;replace ag := aK (Kd.V_elder' (vM ag.out) (Kd.R_base an) hb);have cP := aK (Kd.R_lower (Kd.R_newM (M := fun k_ => (w.heap.size ≤ k_)) an (below_size (bM HB.out)) (fun k_ h_ => h_)) (below_size (bM HB.out)));replace HB := aK (below_step (bM HB.out) hb);(try clear hb);(try clear hk);(try clear an)));try go_wp2_with (first|(go_at_call 17;(with_reducible refine (group_Of.calls kj4 _ _ l0 a1 a8 _ ?aa ?ab fj.out).mono ?_);(case aa => exact cM (Kd.V_reads' ag.out).2.2);(case ab => exact (Kd.V_reads' ag.out).2.1);rintro e f4 ⟨bv,rfl,an,hb⟩;replace ag := aK (Kd.V_elder' (vM ag.out) (Kd.R_base an) hb);have cP := aK (Kd.R_lower (Kd.R_newM (M := fun k_ => (w.heap.size ≤ k_)) an (below_size (bM HB.out)) (fun k_ h_ => h_)) (below_size (bM HB.out)));replace HB := aK (below_step (bM HB.out) hb);(try clear hb);(try clear hk);(try clear an))))
     go_loopg [6,7] kj4 (fun kq v6 v7 w' => ∃ (b2 : Int) (ah : Int),v6 = .int .i64 b2 ∧ v7 = .int .i64 ah ∧ Aside0 (l43_GroupClosed.l0 kq l0 a1 a8 b2 ah = some r) ∧ Aside0 (kq ≤ kj4) ∧ Aside0 (Kd.V k36 36 w' w.heap.size (fun k_ => (dz k_ ∨ w.heap.size ≤ k_) ∧ some k_ ≠ (bv : Value).ownBlock) (.slice A0 l0.length c0) l0) ∧ Aside0 (Kd.R Kd.string 9 w' w.heap.size (fun k_ => (w.heap.size ≤ k_)) bv a8) ∧ Aside0 (Below w.heap.size w w'))
     case atStart => exact ⟨(0),(0),(by first|rfl|(simp;done)|(simp [*];done)),(by first|rfl|(simp;done)|(simp [*];done)),H',⟨Nat.le_refl _⟩,⟨vM ag.out⟩,⟨by refine rO ?_;exact Kd.R_mono cP.out (fun _ hk => hk.1)⟩,⟨bM HB.out⟩⟩
     case round =>
      clear H'
      try clear p2
      try clear d1
      try clear p2
      obtain ⟨b2,ah,rfl,rfl,HA,cN,ag,am,HB⟩ := hrel
      cases gk with
     |zero => exact absurd HA.out (by simp [l43_GroupClosed.l0])
     |succ k2 =>
       have H := HA.out
       clear HA
       simp only [l43_GroupClosed.l0] at H
       by_cases dF : ah < (l0.length : Int)
       ·rw [if_pos dF] at H
        have dB := decide_eq_true dF
        clear dF
        obtain ⟨fk,H⟩ := iS H
        have d3 := decide_eq_true fk
        clear fk
        have H' := aK H
        clear H
        have b5 : 0 ≤ (ah : Int) := dA
        have b6 : ah < (l0.length : Int) := dA
        obtain ⟨aW,b7,fl,b8,fm,fn,bH,be,bf,cg,ch,ci,cj⟩ := at_T36 (Kd.V_reads' ag.out).2.2 ah b5 b6
        cases fn
        obtain ⟨f5,dG,dH,b9⟩ := Kd.V_get ag.out z36 ah b5 (by first|exact b6|exact dA|(have e_ := (Kd.V_reads' ag.out).1;omega))
        obtain ⟨eD,eE,eF,eG,rfl,bI,bJ,bK,bL⟩ := k36_openF dH
        have bg := b9 1 _ rfl
        rw [add_field _ _ 1 (by omega)] at bg
        replace bg := Option.some.inj (bg.symm.trans be)
        injection bg with hva_ hvn_ hvc_
        rw [hva_] at bJ
        rw [hvc_] at bI
        have di := aK (show Kd.V (Kd.int .i64) 3 _ w.heap.size _ _ ((rd_T36 l0 ah).f1) from Kd.V_mk bI bJ)
        clear hva_ hvn_ hvc_ bJ bI
        have bh := b9 2 _ rfl
        rw [add_field _ _ 2 (by omega)] at bh
        replace bh := Option.some.inj (bh.symm.trans bf)
        injection bh with hva_ hvn_ hvc_
        rw [hva_] at bL
        rw [hvc_] at bK
        have eH := aK (show Kd.V Kd.string 9 _ w.heap.size _ _ ((rd_T36 l0 ah).f2) from Kd.V_mk bK bL)
        clear hva_ hvn_ hvc_ bL bK
        clear b9 dG
        have ac := aK ch
        have eI := aK cg
        clear ch cg
        have ad := aK cj
        have eJ := aK ci
        clear cj ci
        replace b5 := eq_true b5
        replace b6 := eq_true b6
        go_wp2
        repeat (go_quiet (fail);try go_wp2)
        go_loopg [8,9] k2 (fun kq v8 v9 w' => ∃ (aV : List Int) (bx : Int),v9 = .int .i64 bx ∧ Aside0 (l43_GroupClosed.l1 kq l0 a1 a8 b2 ah aV bx = some r) ∧ Aside0 (kq ≤ k2) ∧ Aside0 (Kd.V k36 36 w' w.heap.size (fun k_ => (dz k_ ∨ w.heap.size ≤ k_) ∧ some k_ ≠ (bv : Value).ownBlock) (.slice (some aW) l0.length c0) l0) ∧ Aside0 (Kd.R Kd.string 9 w' w.heap.size (fun k_ => (w.heap.size ≤ k_)) bv a8) ∧ Aside0 (Kd.V (Kd.int .i64) 3 w' w.heap.size (fun k_ => (dz k_ ∨ w.heap.size ≤ k_) ∧ some k_ ≠ (bv : Value).ownBlock) v8 aV) ∧ Aside0 (Kd.C (Kd.int .i64) w' b7 ((rd_T36 l0 ah).f1).length ((rd_T36 l0 ah).f1)) ∧ Aside0 (Kd.C Kd.string w' b8 ((rd_T36 l0 ah).f2).length ((rd_T36 l0 ah).f2)) ∧ Aside0 (Below w.heap.size w w'))
        case atStart => exact ⟨((rd_T36 l0 ah).f1),(0),(by first|rfl|(simp;done)|(simp [*];done)),H',⟨Nat.le_refl _⟩,⟨vM ag.out⟩,⟨rM am.out⟩,⟨vM di.out⟩,⟨by repeat (first|(with_reducible exact ac.out)|(with_reducible refine Kd.C_alloc ?_ _)|(with_reducible refine Kd.C_drewN ?_ _)|(with_reducible refine Kd.C_drew ?_)|exact ac.out)⟩,⟨by repeat (first|(with_reducible exact ad.out)|(with_reducible refine Kd.C_alloc ?_ _)|(with_reducible refine Kd.C_drewN ?_ _)|(with_reducible refine Kd.C_drew ?_)|exact ad.out)⟩,⟨bM HB.out⟩⟩
        case round =>
         clear H'
         try clear p2
         try clear p5
         try clear q5
         try clear hx5
         try clear dF
         try clear dB
         try clear fk
         try clear d3
         try clear bH
         try clear be
         try clear bf
         try clear p2
         try clear b5
         try clear b6
         obtain ⟨aV,bx,rfl,HA,cO,ag,am,al,ac,ad,HB⟩ := hrel
         cases gk with
        |zero => exact absurd HA.out (by simp [l43_GroupClosed.l1])
        |succ k3 =>
          have H := HA.out
          clear HA
          simp only [l43_GroupClosed.l1] at H
          obtain ⟨fo,H⟩ := iS H
          have d4 := decide_eq_true fo
          clear fo
          obtain ⟨fp,H⟩ := iS H
          have d5 := decide_eq_true fp
          clear fp
          by_cases dI : bx < (((rd_T36 l0 ah).f2).length : Int)
          ·rw [if_pos dI] at H
           have dC := decide_eq_true dI
           clear dI
           obtain ⟨f6,H⟩ := iS H
           have f7 := decide_eq_true f6
           clear f6
           replace H := Option.bind_eq_some_iff.mp H
           obtain ⟨cF,d6,H⟩ := H
           have fq := aK d6
           clear d6
           replace H := Option.bind_eq_some_iff.mp H
           obtain ⟨dj,d7,H⟩ := H
           have fr := aK d7
           clear d7
           have H' := aK H
           clear H
           have bz : 0 ≤ (ah : Int) := dA
           have bB : ah < (l0.length : Int) := dA
           obtain ⟨cQ,bC,dJ,bD,dK,dL,bN,aN,aO,a9,ba,bb,bc⟩ := at_T36 (Kd.V_reads' ag.out).2.2 ah bz bB
           obtain rfl : aW = cQ := (by injection dL)
           obtain ⟨d8,ca,cb,a7⟩ := Kd.V_get ag.out z36 ah bz (by first|exact bB|exact dA|(have e_ := (Kd.V_reads' ag.out).1;omega))
           obtain ⟨dk,dl,dm,dn,rfl,aP,aQ,aR,aS⟩ := k36_openF cb
           have aE := a7 1 _ rfl
           rw [add_field _ _ 1 (by omega)] at aE
           replace aE := Option.some.inj (aE.symm.trans aN)
           injection aE with hva_ hvn_ hvc_
           rw [hva_] at aQ
           rw [hvc_] at aP
           have aw := aK (show Kd.V (Kd.int .i64) 3 _ w.heap.size _ _ ((rd_T36 l0 ah).f1) from Kd.V_mk aP aQ)
           clear hva_ hvn_ hvc_ aQ aP
           have aF := a7 2 _ rfl
           rw [add_field _ _ 2 (by omega)] at aF
           replace aF := Option.some.inj (aF.symm.trans aO)
           injection aF with hva_ hvn_ hvc_
           rw [hva_] at aS
           rw [hvc_] at aR
           have ax := aK (show Kd.V Kd.string 9 _ w.heap.size _ _ ((rd_T36 l0 ah).f2) from Kd.V_mk aR aS)
           clear hva_ hvn_ hvc_ aS aR
           clear a7 ca
           have ae := aK ba
           have dp := aK a9
           clear ba a9
           have af := aK bc
           have dq := aK bb
           clear bc bb
           replace bz := eq_true bz
           replace bB := eq_true bB
           have cG : 0 ≤ (ah : Int) := dA
           have cH : ah < (l0.length : Int) := dA
           obtain ⟨d9,fs,ft,fu,fv,fw,ck,bi,bj,cl,cm,cn,co⟩ := at_T36 (Kd.V_reads' ag.out).2.2 ah cG cH
           obtain rfl : aW = d9 := (by injection fw)
           obtain ⟨f8,dM,dN,cc⟩ := Kd.V_get ag.out z36 ah cG (by first|exact cH|exact dA|(have e_ := (Kd.V_reads' ag.out).1;omega))
           obtain ⟨eK,eL,eM,eN,rfl,bO,bP,bQ,bR⟩ := k36_openF dN
           have bk := cc 1 _ rfl
           rw [add_field _ _ 1 (by omega)] at bk
           replace bk := Option.some.inj (bk.symm.trans bi)
           injection bk with hva_ hvn_ hvc_
           rw [hva_] at bP
           rw [hvc_] at bO
           have eO := aK (show Kd.V (Kd.int .i64) 3 _ w.heap.size _ _ ((rd_T36 l0 ah).f1) from Kd.V_mk bO bP)
           clear hva_ hvn_ hvc_ bP bO
           have bm := cc 2 _ rfl
           rw [add_field _ _ 2 (by omega)] at bm
           replace bm := Option.some.inj (bm.symm.trans bj)
           injection bm with hva_ hvn_ hvc_
           rw [hva_] at bR
           rw [hvc_] at bQ
           have eP := aK (show Kd.V Kd.string 9 _ w.heap.size _ _ ((rd_T36 l0 ah).f2) from Kd.V_mk bQ bR)
           clear hva_ hvn_ hvc_ bR bQ
           clear cc dM
           have eQ := aK cm
           have eR := aK cl
           clear cm cl
           have dr := aK co
           have eS := aK cn
           clear co cn
           replace cG := eq_true cG
           replace cH := eq_true cH
           have ea_ := Option.some.inj (aN.symm.trans bi)
           injection ea_ with ea_ en_ ec_
           subst ea_
           subst ec_
           clear en_
           have ea_ := Option.some.inj (aO.symm.trans bj)
           injection ea_ with ea_ en_ ec_
           subst ea_
           subst ec_
           clear en_
           have cR : 0 ≤ (bx : Int) := dA
           have cS : bx < (((rd_T36 l0 ah).f2).length : Int) := dA
           obtain ⟨f9,fx,cp⟩ := Kd.at_string dr.out bx cR cS
           cases fx
           replace cR := eq_true cR
           replace cS := eq_true cS
           go_wp2_with (first|(go_at_call 14;(with_reducible refine (group_Users.calls k3 _ _ l0 (rdOf ByteArray.empty ((rd_T36 l0 ah).f2) bx) cF _ ?aa ?ab fq.out).mono ?_);(case aa => exact cM (Kd.V_reads' ag.out).2.2);(case ab => exact (Kd.V_reads' ag.out).2.1);rintro e ga ⟨ea,rfl,an,hb⟩;replace ag := aK (Kd.V_elder' (vM ag.out) (Kd.R_base an) hb);replace am := aK (Kd.R_below (rM am.out) hb);replace al := aK (Kd.V_elder' (vM al.out) (Kd.R_base an) hb);replace aw := aK (Kd.V_elder' (vM aw.out) (Kd.R_base an) hb);replace ax := aK (Kd.V_elder' (vM ax.out) (Kd.R_base an) hb);have aC := aK (Kd.R_lower (Kd.R_newM (M := fun k_ => (w.heap.size ≤ k_)) an (below_size (bM HB.out)) (fun k_ h_ => h_)) (below_size (bM HB.out)));replace ac := aK (Kd.C_below (cM ac.out) hb);replace ad := aK (Kd.C_below (cM ad.out) hb);replace ae := aK (Kd.C_below (cM ae.out) hb);replace af := aK (Kd.C_below (cM af.out) hb);replace HB := aK (below_step (bM HB.out) hb);(try clear hb);(try clear hk);(try clear an);obtain ⟨eb,ec,cT⟩ := Kd.V_slice al.out;subst cT;obtain ⟨ed,ee,cU⟩ := Kd.R_slice aC.out;subst cU)|(go_at_call 28;(with_reducible refine (r05_Or.calls k3 _ _ aV _ _ cF dj _ ?aa ?ab ?ao ?ap fr.out).mono ?_);(case aa => exact cM (Kd.V_reads' al.out).2.2);(case ab => exact (Kd.V_reads' al.out).2.1);(case ao => exact cM (Kd.R_reads' aC.out).2.2);(case ap => exact (Kd.R_reads' aC.out).2.1);rintro e gb ⟨ef,rfl,an,hb⟩;replace ag := aK (Kd.V_elder' (vM ag.out) (Kd.R_base an) hb);replace am := aK (Kd.R_below (rM am.out) hb);replace al := aK (Kd.V_elder' (vM al.out) (Kd.R_base an) hb);replace aw := aK (Kd.V_elder' (vM aw.out) (Kd.R_base an) hb);replace ax := aK (Kd.V_elder' (vM ax.out) (Kd.R_base an) hb);have cV := aK (Kd.R_lower (Kd.R_new' (Kd.R_newM (M := fun k_ => (w.heap.size ≤ k_)) an (below_size (bM HB.out)) (fun k_ h_ => h_)) (Kd.R_lt (rM aC.out))) (below_size (bM HB.out)));replace aC := aK (Kd.R_elder' (rM aC.out) (Kd.R_base an) hb);replace ac := aK (Kd.C_below (cM ac.out) hb);replace ad := aK (Kd.C_below (cM ad.out) hb);replace ae := aK (Kd.C_below (cM ae.out) hb);replace af := aK (Kd.C_below (cM af.out) hb);replace HB := aK (below_step (bM HB.out) hb);(try clear hb);(try clear hk);(try clear an)))
           repeat (go_quiet (first|(go_at_call 14;(with_reducible refine (group_Users.calls k3 _ _ l0 (rdOf ByteArray.empty ((rd_T36 l0 ah).f2) bx) cF _ ?aa ?ab fq.out).mono ?_);(case aa => exact cM (Kd.V_reads' ag.out).2.2);(case ab => exact (Kd.V_reads' ag.out).2.1);rintro e ga ⟨ea,rfl,an,hb⟩;replace ag := aK (Kd.V_elder' (vM ag.out) (Kd.R_base an) hb);replace am := aK (Kd.R_below (rM am.out) hb);replace al := aK (Kd.V_elder' (vM al.out) (Kd.R_base an) hb);replace aw := aK (Kd.V_elder' (vM aw.out) (Kd.R_base an) hb);replace ax := aK (Kd.V_elder' (vM ax.out) (Kd.R_base an) hb);have aC := aK (Kd.R_lower (Kd.R_newM (M := fun k_ => (w.heap.size ≤ k_)) an (below_size (bM HB.out)) (fun k_ h_ => h_)) (below_size (bM HB.out)));replace ac := aK (Kd.C_below (cM ac.out) hb);replace ad := aK (Kd.C_below (cM ad.out) hb);replace ae := aK (Kd.C_below (cM ae.out) hb);replace af := aK (Kd.C_below (cM af.out) hb);replace HB := aK (below_step (bM HB.out) hb);(try clear hb);(try clear hk);(try clear an);obtain ⟨eb,ec,cT⟩ := Kd.V_slice al.out;subst cT;obtain ⟨ed,ee,cU⟩ := Kd.R_slice aC.out;subst cU)|(go_at_call 28;(with_reducible refine (r05_Or.calls k3 _ _ aV _ _ cF dj _ ?aa ?ab ?ao ?ap fr.out).mono ?_);(case aa => exact cM (Kd.V_reads' al.out).2.2);(case ab => exact (Kd.V_reads' al.out).2.1);(case ao => exact cM (Kd.R_reads' aC.out).2.2);(case ap => exact (Kd.R_reads' aC.out).2.1);rintro e gb ⟨ef,rfl,an,hb⟩;replace ag := aK (Kd.V_elder' (vM ag.out) (Kd.R_base an) hb);replace am := aK (Kd.R_below (rM am.out) hb);replace al := aK (Kd.V_elder' (vM al.out) (Kd.R_base an) hb);replace aw := aK (Kd.V_elder' (vM aw.out) (Kd.R_base an) hb);replace ax := aK (Kd.V_elder' (vM ax.out) (Kd.R_base an) hb);have cV := aK (Kd.R_lower (Kd.R_new' (Kd.R_newM (M := fun k_ => (w.heap.size ≤ k_)) an (below_size (bM HB.out)) (fun k_ h_ => h_)) (Kd.R_lt (rM aC.out))) (below_size (bM HB.out)));replace aC := aK (Kd.R_elder' (rM aC.out) (Kd.R_base an) hb);replace ac := aK (Kd.C_below (cM ac.out) hb);replace ad := aK (Kd.C_below (cM ad.out) hb);replace ae := aK (Kd.C_below (cM ae.out) hb);replace af := aK (Kd.C_below (cM af.out) hb);replace HB := aK (below_step (bM HB.out) hb);(try clear hb);(try clear hk);(try clear an)));try go_wp2_with (first|(go_at_call 14;(with_reducible refine (group_Users.calls k3 _ _ l0 (rdOf ByteArray.empty ((rd_T36 l0 ah).f2) bx) cF _ ?aa ?ab fq.out).mono ?_);(case aa => exact cM (Kd.V_reads' ag.out).2.2);(case ab => exact (Kd.V_reads' ag.out).2.1);rintro e ga ⟨ea,rfl,an,hb⟩;replace ag := aK (Kd.V_elder' (vM ag.out) (Kd.R_base an) hb);replace am := aK (Kd.R_below (rM am.out) hb);replace al := aK (Kd.V_elder' (vM al.out) (Kd.R_base an) hb);replace aw := aK (Kd.V_elder' (vM aw.out) (Kd.R_base an) hb);replace ax := aK (Kd.V_elder' (vM ax.out) (Kd.R_base an) hb);have aC := aK (Kd.R_lower (Kd.R_newM (M := fun k_ => (w.heap.size ≤ k_)) an (below_size (bM HB.out)) (fun k_ h_ => h_)) (below_size (bM HB.out)));replace ac := aK (Kd.C_below (cM ac.out) hb);replace ad := aK (Kd.C_below (cM ad.out) hb);replace ae := aK (Kd.C_below (cM ae.out) hb);replace af := aK (Kd.C_below (cM af.out) hb);replace HB := aK (below_step (bM HB.out) hb);(try clear hb);(try clear hk);(try clear an);obtain ⟨eb,ec,cT⟩ := Kd.V_slice al.out;subst cT;obtain ⟨ed,ee,cU⟩ := Kd.R_slice aC.out;subst cU)|(go_at_call 28;(with_reducible refine (r05_Or.calls k3 _ _ aV _ _ cF dj _ ?aa ?ab ?ao ?ap fr.out).mono ?_);(case aa => exact cM (Kd.V_reads' al.out).2.2);(case ab => exact (Kd.V_reads' al.out).2.1);(case ao => exact cM (Kd.R_reads' aC.out).2.2);(case ap => exact (Kd.R_reads' aC.out).2.1);rintro e gb ⟨ef,rfl,an,hb⟩;replace ag := aK (Kd.V_elder' (vM ag.out) (Kd.R_base an) hb);replace am := aK (Kd.R_below (rM am.out) hb);replace al := aK (Kd.V_elder' (vM al.out) (Kd.R_base an) hb);replace aw := aK (Kd.V_elder' (vM aw.out) (Kd.R_base an) hb);replace ax := aK (Kd.V_elder' (vM ax.out) (Kd.R_base an) hb);have cV := aK (Kd.R_lower (Kd.R_new' (Kd.R_newM (M := fun k_ => (w.heap.size ≤ k_)) an (below_size (bM HB.out)) (fun k_ h_ => h_)) (Kd.R_lt (rM aC.out))) (below_size (bM HB.out)));replace ac := aK (Kd.C_below (cM ac.out) hb);replace ad := aK (Kd.C_below (cM ad.out) hb);replace ae := aK (Kd.C_below (cM ae.out) hb);replace af := aK (Kd.C_below (cM af.out) hb);replace HB := aK (below_step (bM HB.out) hb);(try clear hb);(try clear hk);(try clear an))))
           go_roundg k3
           case measure => have := cL.out;have := cN.out;have := cO.out;omega
           case rel => exact ⟨(dj),(wrap64 (bx + 1)),(by first|rfl|(simp;done)|(simp [*];done)),H',⟨by have := cL.out;have := cN.out;have := cO.out;omega⟩,⟨by (with_reducible repeat (first|apply Kd.V_alloc|apply Kd.V_drewN|apply Kd.V_drew));exact Kd.V_mono ag.out (fun _ hk => ⟨hk.1.1.1,hk.1.1.2⟩)⟩,⟨rM am.out⟩,⟨Kd.V_mono (Kd.R_V (by (with_reducible repeat (first|apply Kd.R_alloc|apply Kd.R_drewN|apply Kd.R_drew));exact Kd.R_apart' cV.out (Kd.R_typed am.out) (by decide))) (fun k_ hk => by first|exact ⟨(.inr (hk.1)),hk.2⟩|exact ⟨(.inr (hk.1.1.1)),hk.2⟩|exact (.inr (hk)))⟩,⟨by repeat (first|(with_reducible exact ac.out)|(with_reducible refine Kd.C_alloc ?_ _)|(with_reducible refine Kd.C_drewN ?_ _)|(with_reducible refine Kd.C_drew ?_)|exact ac.out)⟩,⟨by repeat (first|(with_reducible exact ad.out)|(with_reducible refine Kd.C_alloc ?_ _)|(with_reducible refine Kd.C_drewN ?_ _)|(with_reducible refine Kd.C_drew ?_)|exact ad.out)⟩,⟨bM HB.out⟩⟩
          ·rw [if_neg dI] at H
           have dC := decide_eq_false dI
           clear dI
           replace H := Option.bind_eq_some_iff.mp H
           obtain ⟨aD,eg,H⟩ := H
           have fy := aK eg
           clear eg
           have dO := aK H
           clear H
           have bz : 0 ≤ (ah : Int) := dA
           have bB : ah < (l0.length : Int) := dA
           obtain ⟨cQ,bC,dJ,bD,dK,dL,bN,aN,aO,a9,ba,bb,bc⟩ := at_T36 (Kd.V_reads' ag.out).2.2 ah bz bB
           obtain rfl : aW = cQ := (by injection dL)
           obtain ⟨d8,ca,cb,a7⟩ := Kd.V_get ag.out z36 ah bz (by first|exact bB|exact dA|(have e_ := (Kd.V_reads' ag.out).1;omega))
           obtain ⟨dk,dl,dm,dn,rfl,aP,aQ,aR,aS⟩ := k36_openF cb
           have aE := a7 1 _ rfl
           rw [add_field _ _ 1 (by omega)] at aE
           replace aE := Option.some.inj (aE.symm.trans aN)
           injection aE with hva_ hvn_ hvc_
           rw [hva_] at aQ
           rw [hvc_] at aP
           have aw := aK (show Kd.V (Kd.int .i64) 3 _ w.heap.size _ _ ((rd_T36 l0 ah).f1) from Kd.V_mk aP aQ)
           clear hva_ hvn_ hvc_ aQ aP
           have aF := a7 2 _ rfl
           rw [add_field _ _ 2 (by omega)] at aF
           replace aF := Option.some.inj (aF.symm.trans aO)
           injection aF with hva_ hvn_ hvc_
           rw [hva_] at aS
           rw [hvc_] at aR
           have ax := aK (show Kd.V Kd.string 9 _ w.heap.size _ _ ((rd_T36 l0 ah).f2) from Kd.V_mk aR aS)
           clear hva_ hvn_ hvc_ aS aR
           clear a7 ca
           have ae := aK ba
           have dp := aK a9
           clear ba a9
           have af := aK bc
           have dq := aK bb
           clear bc bb
           replace bz := eq_true bz
           replace bB := eq_true bB
           have cI : 0 ≤ (ah : Int) := dA
           have cJ : ah < (l0.length : Int) := dA
           obtain ⟨eh,fz,fA,fB,fC,fD,cq,bn,bo,cr,cs,ct,cu⟩ := at_T36 (Kd.V_reads' ag.out).2.2 ah cI cJ
           obtain rfl : aW = eh := (by injection fD)
           obtain ⟨gc,dP,dQ,cd⟩ := Kd.V_get ag.out z36 ah cI (by first|exact cJ|exact dA|(have e_ := (Kd.V_reads' ag.out).1;omega))
           obtain ⟨eT,eU,eV,eW,rfl,bS,bT,bU,bV⟩ := k36_openF dQ
           have bp := cd 1 _ rfl
           rw [add_field _ _ 1 (by omega)] at bp
           replace bp := Option.some.inj (bp.symm.trans bn)
           injection bp with hva_ hvn_ hvc_
           rw [hva_] at bT
           rw [hvc_] at bS
           have eX := aK (show Kd.V (Kd.int .i64) 3 _ w.heap.size _ _ ((rd_T36 l0 ah).f1) from Kd.V_mk bS bT)
           clear hva_ hvn_ hvc_ bT bS
           have bq := cd 2 _ rfl
           rw [add_field _ _ 2 (by omega)] at bq
           replace bq := Option.some.inj (bq.symm.trans bo)
           injection bq with hva_ hvn_ hvc_
           rw [hva_] at bV
           rw [hvc_] at bU
           have eY := aK (show Kd.V Kd.string 9 _ w.heap.size _ _ ((rd_T36 l0 ah).f2) from Kd.V_mk bU bV)
           clear hva_ hvn_ hvc_ bV bU
           clear cd dP
           have ai := aK cs
           have eZ := aK cr
           clear cs cr
           have aj := aK cu
           have e0 := aK ct
           clear cu ct
           replace cI := eq_true cI
           replace cJ := eq_true cJ
           have ea_ := Option.some.inj (aN.symm.trans bn)
           injection ea_ with ea_ en_ ec_
           subst ea_
           subst ec_
           clear en_
           have ea_ := Option.some.inj (aO.symm.trans bo)
           injection ea_ with ea_ en_ ec_
           subst ea_
           subst ec_
           clear en_
           go_upto_region 16 with (first|(go_at_call 14;(with_reducible refine (group_Users.calls k3 _ _ l0 ((rd_T36 l0 ah).f0) aD _ ?aa ?ab fy.out).mono ?_);(case aa => exact cM (Kd.V_reads' ag.out).2.2);(case ab => exact (Kd.V_reads' ag.out).2.1);rintro e gf ⟨cK,rfl,an,hb⟩;replace ag := aK (Kd.V_elder' (vM ag.out) (Kd.R_base an) hb);replace am := aK (Kd.R_below (rM am.out) hb);replace al := aK (Kd.V_elder' (vM al.out) (Kd.R_base an) hb);have ak := aK (Kd.R_lower (Kd.R_newM (M := fun k_ => (w.heap.size ≤ k_)) an (below_size (bM HB.out)) (fun k_ h_ => h_)) (below_size (bM HB.out)));replace ac := aK (Kd.C_below (cM ac.out) hb);replace ad := aK (Kd.C_below (cM ad.out) hb);replace ae := aK (Kd.C_below (cM ae.out) hb);replace af := aK (Kd.C_below (cM af.out) hb);replace ai := aK (Kd.C_below (cM ai.out) hb);replace aj := aK (Kd.C_below (cM aj.out) hb);replace HB := aK (below_step (bM HB.out) hb);(try clear hb);(try clear hk);(try clear an)))
           repeat (go_quiet (first|(go_at_call 14;(with_reducible refine (group_Users.calls k3 _ _ l0 ((rd_T36 l0 ah).f0) aD _ ?aa ?ab fy.out).mono ?_);(case aa => exact cM (Kd.V_reads' ag.out).2.2);(case ab => exact (Kd.V_reads' ag.out).2.1);rintro e gf ⟨cK,rfl,an,hb⟩;replace ag := aK (Kd.V_elder' (vM ag.out) (Kd.R_base an) hb);replace am := aK (Kd.R_below (rM am.out) hb);replace al := aK (Kd.V_elder' (vM al.out) (Kd.R_base an) hb);have ak := aK (Kd.R_lower (Kd.R_newM (M := fun k_ => (w.heap.size ≤ k_)) an (below_size (bM HB.out)) (fun k_ h_ => h_)) (below_size (bM HB.out)));replace ac := aK (Kd.C_below (cM ac.out) hb);replace ad := aK (Kd.C_below (cM ad.out) hb);replace ae := aK (Kd.C_below (cM ae.out) hb);replace af := aK (Kd.C_below (cM af.out) hb);replace ai := aK (Kd.C_below (cM ai.out) hb);replace aj := aK (Kd.C_below (cM aj.out) hb);replace HB := aK (below_step (bM HB.out) hb);(try clear hb);(try clear hk);(try clear an)));go_upto_region 16 with (first|(go_at_call 14;(with_reducible refine (group_Users.calls k3 _ _ l0 ((rd_T36 l0 ah).f0) aD _ ?aa ?ab fy.out).mono ?_);(case aa => exact cM (Kd.V_reads' ag.out).2.2);(case ab => exact (Kd.V_reads' ag.out).2.1);rintro e gf ⟨cK,rfl,an,hb⟩;replace ag := aK (Kd.V_elder' (vM ag.out) (Kd.R_base an) hb);replace am := aK (Kd.R_below (rM am.out) hb);replace al := aK (Kd.V_elder' (vM al.out) (Kd.R_base an) hb);have ak := aK (Kd.R_lower (Kd.R_newM (M := fun k_ => (w.heap.size ≤ k_)) an (below_size (bM HB.out)) (fun k_ h_ => h_)) (below_size (bM HB.out)));replace ac := aK (Kd.C_below (cM ac.out) hb);replace ad := aK (Kd.C_below (cM ad.out) hb);replace ae := aK (Kd.C_below (cM ae.out) hb);replace af := aK (Kd.C_below (cM af.out) hb);replace ai := aK (Kd.C_below (cM ai.out) hb);replace aj := aK (Kd.C_below (cM aj.out) hb);replace HB := aK (below_step (bM HB.out) hb);(try clear hb);(try clear hk);(try clear an))))
           (try simp only [Act.put,z1_,z2_,z3_])
           go_cut [84] (fun gy wc => ∃ (kq : Nat) (bW : Bool),gy = .bool bW ∧ Aside0 (l43_GroupClosed.j3 kq l0 a1 a8 b2 ah aD bW = some r) ∧ Aside0 (kq ≤ k3) ∧ Aside0 (Kd.V k36 36 wc w.heap.size (fun k_ => (dz k_ ∨ w.heap.size ≤ k_) ∧ some k_ ≠ (bv : Value).ownBlock ∧ some k_ ≠ (cK : Value).ownBlock) (.slice (some aW) l0.length c0) l0) ∧ Aside0 (Kd.R Kd.string 9 wc w.heap.size (fun k_ => (w.heap.size ≤ k_)) bv a8) ∧ Aside0 (Kd.R (Kd.int .i64) 3 wc w.heap.size (fun k_ => (w.heap.size ≤ k_)) cK aD) ∧ Aside0 (Kd.C (Kd.int .i64) wc b7 ((rd_T36 l0 ah).f1).length ((rd_T36 l0 ah).f1)) ∧ Aside0 (Kd.C Kd.string wc b8 ((rd_T36 l0 ah).f2).length ((rd_T36 l0 ah).f2)) ∧ Aside0 (Kd.C (Kd.int .i64) wc bC ((rd_T36 l0 ah).f1).length ((rd_T36 l0 ah).f1)) ∧ Aside0 (Kd.C Kd.string wc bD ((rd_T36 l0 ah).f2).length ((rd_T36 l0 ah).f2)) ∧ Aside0 (Kd.C (Kd.int .i64) wc bC ((rd_T36 l0 ah).f1).length ((rd_T36 l0 ah).f1)) ∧ Aside0 (Kd.C Kd.string wc bD ((rd_T36 l0 ah).f2).length ((rd_T36 l0 ah).f2)) ∧ Aside0 (Below w.heap.size w wc))
           case first =>
            have H := dO.out
            clear dO
            replace H := Option.bind_eq_some_iff.mp H
            obtain ⟨bd,ei,H⟩ := H
            have dZ := aK ei
            clear ei
            replace H := Option.bind_eq_some_iff.mp H
            obtain ⟨fE,ej,H⟩ := H
            have dg := aK ej
            clear ej
            by_cases e1 : fE = true
            ·subst e1
             rw [if_pos rfl] at H
             replace H := Option.bind_eq_some_iff.mp H
             obtain ⟨ds,ek,H⟩ := H
             have fF := aK ek
             clear ek
             replace H := Option.bind_eq_some_iff.mp H
             obtain ⟨dt,el,H⟩ := H
             have fG := aK el
             clear el
             have H' := aK H
             clear H
             obtain ⟨dR,dS,fH⟩ := Kd.V_slice al.out
             subst fH
             go_wp2_with (first|(go_at_call 28;refine calls_of_args (args' := #[.slice dR aV.length dS,.slice none ([] : List Int).length 0]) (by first|with_reducible rfl|(simp only [List.length_nil];done)|(simp only [List.length_nil];with_reducible rfl)) ?_;(with_reducible refine (r05_Or.calls k3 _ _ aV _ _ ([] : List Int) bd _ ?aa ?ab ?ao ?ap dZ.out).mono ?_);(case aa => exact cM (Kd.V_reads' al.out).2.2);(case ab => exact (Kd.V_reads' al.out).2.1);(case ao => exact Kd.C_nil _ _);(case ap => exact Nat.le_refl _);rintro e gg ⟨cW,rfl,an,hb⟩;replace ag := aK (Kd.V_elder' (vM ag.out) (Kd.R_base an) hb);replace am := aK (Kd.R_below (rM am.out) hb);replace al := aK (Kd.V_elder' (vM al.out) (Kd.R_base an) hb);have aq := aK (Kd.R_lower (Kd.R_new' (Kd.R_newM (M := fun k_ => (w.heap.size ≤ k_)) an (below_size (bM HB.out)) (fun k_ h_ => h_)) (Kd.R_lt (rM ak.out))) (below_size (bM HB.out)));replace ak := aK (Kd.R_elder' (rM ak.out) (Kd.R_base an) hb);replace ac := aK (Kd.C_below (cM ac.out) hb);replace ad := aK (Kd.C_below (cM ad.out) hb);replace ae := aK (Kd.C_below (cM ae.out) hb);replace af := aK (Kd.C_below (cM af.out) hb);replace ai := aK (Kd.C_below (cM ai.out) hb);replace aj := aK (Kd.C_below (cM aj.out) hb);replace HB := aK (below_step (bM HB.out) hb);(try clear hb);(try clear hk);(try clear an);obtain ⟨em,en,cX⟩ := Kd.R_slice ak.out;subst cX;obtain ⟨ep,er,cY⟩ := Kd.R_slice aq.out;subst cY)|(go_at_call 13;(with_reducible refine (r05_Same.calls k3 _ _ aD _ _ bd true _ ?aa ?ab ?ao ?ap dg.out).mono ?_);(case aa => exact cM (Kd.R_reads' ak.out).2.2);(case ab => exact (Kd.R_reads' ak.out).2.1);(case ao => exact cM (Kd.R_reads' aq.out).2.2);(case ap => exact (Kd.R_reads' aq.out).2.1);rintro e w' ⟨rfl,⟨nd,rfl⟩⟩;(try first|exact ⟨rfl,_,World.drewN_drewN _ _ _⟩|exact ⟨rfl,_,Eq.trans (World.drewN_drewN _ _ _) (congrArg (World.drewN _) (Nat.add_assoc _ _ _))⟩);have a3 : 0 ≤ (ah : Int) := dA;have a4 : ah < (l0.length : Int) := dA;obtain ⟨b3,cZ,c1,da,db,dc,br,aT,aU,aH,aI,aJ,aL⟩ := at_T36 (Kd.V_reads' ag.out).2.2 ah a3 a4;obtain rfl : aW = b3 := (by injection dc);obtain ⟨dD,bE,bF,aG⟩ := Kd.V_get ag.out z36 ah a3 (by first|exact a4|exact dA|(have e_ := (Kd.V_reads' ag.out).1;omega));obtain ⟨cv,cw,cx,cy,rfl,ay,az,aA,aB⟩ := k36_openF bF;have au := aG 1 _ rfl;rw [add_field _ _ 1 (by omega)] at au;replace au := Option.some.inj (au.symm.trans aT);injection au with hva_ hvn_ hvc_;rw [hva_] at az;rw [hvc_] at ay;have aY := aK (show Kd.V (Kd.int .i64) 3 _ w.heap.size _ _ ((rd_T36 l0 ah).f1) from Kd.V_mk ay az);clear hva_ hvn_ hvc_ az ay;have av := aG 2 _ rfl;rw [add_field _ _ 2 (by omega)] at av;replace av := Option.some.inj (av.symm.trans aU);injection av with hva_ hvn_ hvc_;rw [hva_] at aB;rw [hvc_] at aA;have aZ := aK (show Kd.V Kd.string 9 _ w.heap.size _ _ ((rd_T36 l0 ah).f2) from Kd.V_mk aA aB);clear hva_ hvn_ hvc_ aB aA;clear aG bE;have a0 := aK aI;have cz := aK aH;clear aI aH;have a2 := aK aL;have cA := aK aJ;clear aL aJ;replace a3 := eq_true a3;replace a4 := eq_true a4)|(go_at_call 19;(with_reducible refine (group_In.calls k3 _ _ l0 ((rd_T36 l0 ah).f0) a1 ds _ ?aa ?ab fF.out).mono ?_);(case aa => exact cM (Kd.V_reads' ag.out).2.2);(case ab => exact (Kd.V_reads' ag.out).2.1);rintro e gh ⟨rfl,hb⟩;replace ag := aK (Kd.V_below (vM ag.out) hb);replace am := aK (Kd.R_below (rM am.out) hb);replace al := aK (Kd.V_below (vM al.out) hb);replace ak := aK (Kd.R_below (rM ak.out) hb);replace aq := aK (Kd.R_below (rM aq.out) hb);replace aY := aK (Kd.V_below (vM aY.out) hb);replace aZ := aK (Kd.V_below (vM aZ.out) hb);replace ac := aK (Kd.C_below (cM ac.out) hb);replace ad := aK (Kd.C_below (cM ad.out) hb);replace ae := aK (Kd.C_below (cM ae.out) hb);replace af := aK (Kd.C_below (cM af.out) hb);replace ai := aK (Kd.C_below (cM ai.out) hb);replace aj := aK (Kd.C_below (cM aj.out) hb);replace a0 := aK (Kd.C_below (cM a0.out) hb);replace a2 := aK (Kd.C_below (cM a2.out) hb);replace HB := aK (below_step (bM HB.out) hb);(try clear hb);(try clear hk))|(go_at_call 29;(with_reducible refine (r05_In.calls k3 _ _ aD a1 dt _ ?aa ?ab fG.out).mono ?_);(case aa => exact cM (Kd.R_reads' ak.out).2.2);(case ab => exact (Kd.R_reads' ak.out).2.1);rintro e w' ⟨rfl,⟨nd,rfl⟩⟩;(try first|exact ⟨rfl,_,World.drewN_drewN _ _ _⟩|exact ⟨rfl,_,Eq.trans (World.drewN_drewN _ _ _) (congrArg (World.drewN _) (Nat.add_assoc _ _ _))⟩)))
             repeat (go_quiet (first|(go_at_call 28;refine calls_of_args (args' := #[.slice dR aV.length dS,.slice none ([] : List Int).length 0]) (by first|with_reducible rfl|(simp only [List.length_nil];done)|(simp only [List.length_nil];with_reducible rfl)) ?_;(with_reducible refine (r05_Or.calls k3 _ _ aV _ _ ([] : List Int) bd _ ?aa ?ab ?ao ?ap dZ.out).mono ?_);(case aa => exact cM (Kd.V_reads' al.out).2.2);(case ab => exact (Kd.V_reads' al.out).2.1);(case ao => exact Kd.C_nil _ _);(case ap => exact Nat.le_refl _);rintro e gg ⟨cW,rfl,an,hb⟩;replace ag := aK (Kd.V_elder' (vM ag.out) (Kd.R_base an) hb);replace am := aK (Kd.R_below (rM am.out) hb);replace al := aK (Kd.V_elder' (vM al.out) (Kd.R_base an) hb);have aq := aK (Kd.R_lower (Kd.R_new' (Kd.R_newM (M := fun k_ => (w.heap.size ≤ k_)) an (below_size (bM HB.out)) (fun k_ h_ => h_)) (Kd.R_lt (rM ak.out))) (below_size (bM HB.out)));replace ak := aK (Kd.R_elder' (rM ak.out) (Kd.R_base an) hb);replace ac := aK (Kd.C_below (cM ac.out) hb);replace ad := aK (Kd.C_below (cM ad.out) hb);replace ae := aK (Kd.C_below (cM ae.out) hb);replace af := aK (Kd.C_below (cM af.out) hb);replace ai := aK (Kd.C_below (cM ai.out) hb);replace aj := aK (Kd.C_below (cM aj.out) hb);replace HB := aK (below_step (bM HB.out) hb);(try clear hb);(try clear hk);(try clear an);obtain ⟨em,en,cX⟩ := Kd.R_slice ak.out;subst cX;obtain ⟨ep,er,cY⟩ := Kd.R_slice aq.out;subst cY)|(go_at_call 13;(with_reducible refine (r05_Same.calls k3 _ _ aD _ _ bd true _ ?aa ?ab ?ao ?ap dg.out).mono ?_);(case aa => exact cM (Kd.R_reads' ak.out).2.2);(case ab => exact (Kd.R_reads' ak.out).2.1);(case ao => exact cM (Kd.R_reads' aq.out).2.2);(case ap => exact (Kd.R_reads' aq.out).2.1);rintro e w' ⟨rfl,⟨nd,rfl⟩⟩;(try first|exact ⟨rfl,_,World.drewN_drewN _ _ _⟩|exact ⟨rfl,_,Eq.trans (World.drewN_drewN _ _ _) (congrArg (World.drewN _) (Nat.add_assoc _ _ _))⟩);have a3 : 0 ≤ (ah : Int) := dA;have a4 : ah < (l0.length : Int) := dA;obtain ⟨b3,cZ,c1,da,db,dc,br,aT,aU,aH,aI,aJ,aL⟩ := at_T36 (Kd.V_reads' ag.out).2.2 ah a3 a4;obtain rfl : aW = b3 := (by injection dc);obtain ⟨dD,bE,bF,aG⟩ := Kd.V_get ag.out z36 ah a3 (by first|exact a4|exact dA|(have e_ := (Kd.V_reads' ag.out).1;omega));obtain ⟨cv,cw,cx,cy,rfl,ay,az,aA,aB⟩ := k36_openF bF;have au := aG 1 _ rfl;rw [add_field _ _ 1 (by omega)] at au;replace au := Option.some.inj (au.symm.trans aT);injection au with hva_ hvn_ hvc_;rw [hva_] at az;rw [hvc_] at ay;have aY := aK (show Kd.V (Kd.int .i64) 3 _ w.heap.size _ _ ((rd_T36 l0 ah).f1) from Kd.V_mk ay az);clear hva_ hvn_ hvc_ az ay;have av := aG 2 _ rfl;rw [add_field _ _ 2 (by omega)] at av;replace av := Option.some.inj (av.symm.trans aU);injection av with hva_ hvn_ hvc_;rw [hva_] at aB;rw [hvc_] at aA;have aZ := aK (show Kd.V Kd.string 9 _ w.heap.size _ _ ((rd_T36 l0 ah).f2) from Kd.V_mk aA aB);clear hva_ hvn_ hvc_ aB aA;clear aG bE;have a0 := aK aI;have cz := aK aH;clear aI aH;have a2 := aK aL;have cA := aK aJ;clear aL aJ;replace a3 := eq_true a3;replace a4 := eq_true a4)|(go_at_call 19;(with_reducible refine (group_In.calls k3 _ _ l0 ((rd_T36 l0 ah).f0) a1 ds _ ?aa ?ab fF.out).mono ?_);(case aa => exact cM (Kd.V_reads' ag.out).2.2);(case ab => exact (Kd.V_reads' ag.out).2.1);rintro e gh ⟨rfl,hb⟩;replace ag := aK (Kd.V_below (vM ag.out) hb);replace am := aK (Kd.R_below (rM am.out) hb);replace al := aK (Kd.V_below (vM al.out) hb);replace ak := aK (Kd.R_below (rM ak.out) hb);replace aq := aK (Kd.R_below (rM aq.out) hb);replace aY := aK (Kd.V_below (vM aY.out) hb);replace aZ := aK (Kd.V_below (vM aZ.out) hb);replace ac := aK (Kd.C_below (cM ac.out) hb);replace ad := aK (Kd.C_below (cM ad.out) hb);replace ae := aK (Kd.C_below (cM ae.out) hb);replace af := aK (Kd.C_below (cM af.out) hb);replace ai := aK (Kd.C_below (cM ai.out) hb);replace aj := aK (Kd.C_below (cM aj.out) hb);replace a0 := aK (Kd.C_below (cM a0.out) hb);replace a2 := aK (Kd.C_below (cM a2.out) hb);replace HB := aK (below_step (bM HB.out) hb);(try clear hb);(try clear hk))|(go_at_call 29;(with_reducible refine (r05_In.calls k3 _ _ aD a1 dt _ ?aa ?ab fG.out).mono ?_);(case aa => exact cM (Kd.R_reads' ak.out).2.2);(case ab => exact (Kd.R_reads' ak.out).2.1);rintro e w' ⟨rfl,⟨nd,rfl⟩⟩;(try first|exact ⟨rfl,_,World.drewN_drewN _ _ _⟩|exact ⟨rfl,_,Eq.trans (World.drewN_drewN _ _ _) (congrArg (World.drewN _) (Nat.add_assoc _ _ _))⟩)));try go_wp2_with (first|(go_at_call 28;refine calls_of_args (args' := #[.slice dR aV.length dS,.slice none ([] : List Int).length 0]) (by first|with_reducible rfl|(simp only [List.length_nil];done)|(simp only [List.length_nil];with_reducible rfl)) ?_;(with_reducible refine (r05_Or.calls k3 _ _ aV _ _ ([] : List Int) bd _ ?aa ?ab ?ao ?ap dZ.out).mono ?_);(case aa => exact cM (Kd.V_reads' al.out).2.2);(case ab => exact (Kd.V_reads' al.out).2.1);(case ao => exact Kd.C_nil _ _);(case ap => exact Nat.le_refl _);rintro e gg ⟨cW,rfl,an,hb⟩;replace ag := aK (Kd.V_elder' (vM ag.out) (Kd.R_base an) hb);replace am := aK (Kd.R_below (rM am.out) hb);replace al := aK (Kd.V_elder' (vM al.out) (Kd.R_base an) hb);have aq := aK (Kd.R_lower (Kd.R_new' (Kd.R_newM (M := fun k_ => (w.heap.size ≤ k_)) an (below_size (bM HB.out)) (fun k_ h_ => h_)) (Kd.R_lt (rM ak.out))) (below_size (bM HB.out)));replace ak := aK (Kd.R_elder' (rM ak.out) (Kd.R_base an) hb);replace ac := aK (Kd.C_below (cM ac.out) hb);replace ad := aK (Kd.C_below (cM ad.out) hb);replace ae := aK (Kd.C_below (cM ae.out) hb);replace af := aK (Kd.C_below (cM af.out) hb);replace ai := aK (Kd.C_below (cM ai.out) hb);replace aj := aK (Kd.C_below (cM aj.out) hb);replace HB := aK (below_step (bM HB.out) hb);(try clear hb);(try clear hk);(try clear an);obtain ⟨em,en,cX⟩ := Kd.R_slice ak.out;subst cX;obtain ⟨ep,er,cY⟩ := Kd.R_slice aq.out;subst cY)|(go_at_call 13;(with_reducible refine (r05_Same.calls k3 _ _ aD _ _ bd true _ ?aa ?ab ?ao ?ap dg.out).mono ?_);(case aa => exact cM (Kd.R_reads' ak.out).2.2);(case ab => exact (Kd.R_reads' ak.out).2.1);(case ao => exact cM (Kd.R_reads' aq.out).2.2);(case ap => exact (Kd.R_reads' aq.out).2.1);rintro e w' ⟨rfl,⟨nd,rfl⟩⟩;(try first|exact ⟨rfl,_,World.drewN_drewN _ _ _⟩|exact ⟨rfl,_,Eq.trans (World.drewN_drewN _ _ _) (congrArg (World.drewN _) (Nat.add_assoc _ _ _))⟩);have a3 : 0 ≤ (ah : Int) := dA;have a4 : ah < (l0.length : Int) := dA;obtain ⟨b3,cZ,c1,da,db,dc,br,aT,aU,aH,aI,aJ,aL⟩ := at_T36 (Kd.V_reads' ag.out).2.2 ah a3 a4;obtain rfl : aW = b3 := (by injection dc);obtain ⟨dD,bE,bF,aG⟩ := Kd.V_get ag.out z36 ah a3 (by first|exact a4|exact dA|(have e_ := (Kd.V_reads' ag.out).1;omega));obtain ⟨cv,cw,cx,cy,rfl,ay,az,aA,aB⟩ := k36_openF bF;have au := aG 1 _ rfl;rw [add_field _ _ 1 (by omega)] at au;replace au := Option.some.inj (au.symm.trans aT);injection au with hva_ hvn_ hvc_;rw [hva_] at az;rw [hvc_] at ay;have aY := aK (show Kd.V (Kd.int .i64) 3 _ w.heap.size _ _ ((rd_T36 l0 ah).f1) from Kd.V_mk ay az);clear hva_ hvn_ hvc_ az ay;have av := aG 2 _ rfl;rw [add_field _ _ 2 (by omega)] at av;replace av := Option.some.inj (av.symm.trans aU);injection av with hva_ hvn_ hvc_;rw [hva_] at aB;rw [hvc_] at aA;have aZ := aK (show Kd.V Kd.string 9 _ w.heap.size _ _ ((rd_T36 l0 ah).f2) from Kd.V_mk aA aB);clear hva_ hvn_ hvc_ aB aA;clear aG bE;have a0 := aK aI;have cz := aK aH;clear aI aH;have a2 := aK aL;have cA := aK aJ;clear aL aJ;replace a3 := eq_true a3;replace a4 := eq_true a4)|(go_at_call 19;(with_reducible refine (group_In.calls k3 _ _ l0 ((rd_T36 l0 ah).f0) a1 ds _ ?aa ?ab fF.out).mono ?_);(case aa => exact cM (Kd.V_reads' ag.out).2.2);(case ab => exact (Kd.V_reads' ag.out).2.1);rintro e gh ⟨rfl,hb⟩;replace ag := aK (Kd.V_below (vM ag.out) hb);replace am := aK (Kd.R_below (rM am.out) hb);replace al := aK (Kd.V_below (vM al.out) hb);replace ak := aK (Kd.R_below (rM ak.out) hb);replace aq := aK (Kd.R_below (rM aq.out) hb);replace ac := aK (Kd.C_below (cM ac.out) hb);replace ad := aK (Kd.C_below (cM ad.out) hb);replace ae := aK (Kd.C_below (cM ae.out) hb);replace af := aK (Kd.C_below (cM af.out) hb);replace ai := aK (Kd.C_below (cM ai.out) hb);replace aj := aK (Kd.C_below (cM aj.out) hb);replace HB := aK (below_step (bM HB.out) hb);(try clear hb);(try clear hk))|(go_at_call 29;(with_reducible refine (r05_In.calls k3 _ _ aD a1 dt _ ?aa ?ab fG.out).mono ?_);(case aa => exact cM (Kd.R_reads' ak.out).2.2);(case ab => exact (Kd.R_reads' ak.out).2.1);rintro e w' ⟨rfl,⟨nd,rfl⟩⟩;(try first|exact ⟨rfl,_,World.drewN_drewN _ _ _⟩|exact ⟨rfl,_,Eq.trans (World.drewN_drewN _ _ _) (congrArg (World.drewN _) (Nat.add_assoc _ _ _))⟩))))
             go_meet
             case rel => exact ⟨_,((ds != dt)),(by first|rfl|(simp;done)|(simp [*];done)),H',⟨by have := cL.out;have := cN.out;have := cO.out;first|omega|exact Nat.le_refl _⟩,⟨by (with_reducible repeat (first|apply Kd.V_alloc|apply Kd.V_drewN|apply Kd.V_drew));exact Kd.V_mono ag.out (fun _ hk => ⟨hk.1.1.1,⟨hk.1.1.2,hk.1.2⟩⟩)⟩,⟨rM am.out⟩,⟨by refine rO ?_;exact Kd.R_mono ak.out (fun _ hk => hk.1.1)⟩,⟨by repeat (first|(with_reducible exact ac.out)|(with_reducible refine Kd.C_alloc ?_ _)|(with_reducible refine Kd.C_drewN ?_ _)|(with_reducible refine Kd.C_drew ?_)|exact ac.out)⟩,⟨by repeat (first|(with_reducible exact ad.out)|(with_reducible refine Kd.C_alloc ?_ _)|(with_reducible refine Kd.C_drewN ?_ _)|(with_reducible refine Kd.C_drew ?_)|exact ad.out)⟩,⟨by repeat (first|(with_reducible exact ae.out)|(with_reducible refine Kd.C_alloc ?_ _)|(with_reducible refine Kd.C_drewN ?_ _)|(with_reducible refine Kd.C_drew ?_)|exact ae.out)⟩,⟨by repeat (first|(with_reducible exact af.out)|(with_reducible refine Kd.C_alloc ?_ _)|(with_reducible refine Kd.C_drewN ?_ _)|(with_reducible refine Kd.C_drew ?_)|exact af.out)⟩,⟨by repeat (first|(with_reducible exact ai.out)|(with_reducible refine Kd.C_alloc ?_ _)|(with_reducible refine Kd.C_drewN ?_ _)|(with_reducible refine Kd.C_drew ?_)|exact ai.out)⟩,⟨by repeat (first|(with_reducible exact aj.out)|(with_reducible refine Kd.C_alloc ?_ _)|(with_reducible refine Kd.C_drewN ?_ _)|(with_reducible refine Kd.C_drew ?_)|exact aj.out)⟩,⟨bM HB.out⟩⟩
            ·replace e1 := Bool.eq_false_iff.mpr e1
             subst e1
             rw [if_neg (show ¬ (false = true) by decide)] at H
             have H' := aK H
             clear H
             obtain ⟨dT,dU,fI⟩ := Kd.V_slice al.out
             subst fI
             go_wp2_with (first|(go_at_call 28;refine calls_of_args (args' := #[.slice dT aV.length dU,.slice none ([] : List Int).length 0]) (by first|with_reducible rfl|(simp only [List.length_nil];done)|(simp only [List.length_nil];with_reducible rfl)) ?_;(with_reducible refine (r05_Or.calls k3 _ _ aV _ _ ([] : List Int) bd _ ?aa ?ab ?ao ?ap dZ.out).mono ?_);(case aa => exact cM (Kd.V_reads' al.out).2.2);(case ab => exact (Kd.V_reads' al.out).2.1);(case ao => exact Kd.C_nil _ _);(case ap => exact Nat.le_refl _);rintro e gi ⟨cW,rfl,an,hb⟩;replace ag := aK (Kd.V_elder' (vM ag.out) (Kd.R_base an) hb);replace am := aK (Kd.R_below (rM am.out) hb);replace al := aK (Kd.V_elder' (vM al.out) (Kd.R_base an) hb);have aq := aK (Kd.R_lower (Kd.R_new' (Kd.R_newM (M := fun k_ => (w.heap.size ≤ k_)) an (below_size (bM HB.out)) (fun k_ h_ => h_)) (Kd.R_lt (rM ak.out))) (below_size (bM HB.out)));replace ak := aK (Kd.R_elder' (rM ak.out) (Kd.R_base an) hb);replace ac := aK (Kd.C_below (cM ac.out) hb);replace ad := aK (Kd.C_below (cM ad.out) hb);replace ae := aK (Kd.C_below (cM ae.out) hb);replace af := aK (Kd.C_below (cM af.out) hb);replace ai := aK (Kd.C_below (cM ai.out) hb);replace aj := aK (Kd.C_below (cM aj.out) hb);replace HB := aK (below_step (bM HB.out) hb);(try clear hb);(try clear hk);(try clear an);obtain ⟨es,et,dd⟩ := Kd.R_slice ak.out;subst dd;obtain ⟨eu,ev,de⟩ := Kd.R_slice aq.out;subst de)|(go_at_call 13;(with_reducible refine (r05_Same.calls k3 _ _ aD _ _ bd false _ ?aa ?ab ?ao ?ap dg.out).mono ?_);(case aa => exact cM (Kd.R_reads' ak.out).2.2);(case ab => exact (Kd.R_reads' ak.out).2.1);(case ao => exact cM (Kd.R_reads' aq.out).2.2);(case ap => exact (Kd.R_reads' aq.out).2.1);rintro e w' ⟨rfl,⟨nd,rfl⟩⟩;(try first|exact ⟨rfl,_,World.drewN_drewN _ _ _⟩|exact ⟨rfl,_,Eq.trans (World.drewN_drewN _ _ _) (congrArg (World.drewN _) (Nat.add_assoc _ _ _))⟩)))
             repeat (go_quiet (first|(go_at_call 28;refine calls_of_args (args' := #[.slice dT aV.length dU,.slice none ([] : List Int).length 0]) (by first|with_reducible rfl|(simp only [List.length_nil];done)|(simp only [List.length_nil];with_reducible rfl)) ?_;(with_reducible refine (r05_Or.calls k3 _ _ aV _ _ ([] : List Int) bd _ ?aa ?ab ?ao ?ap dZ.out).mono ?_);(case aa => exact cM (Kd.V_reads' al.out).2.2);(case ab => exact (Kd.V_reads' al.out).2.1);(case ao => exact Kd.C_nil _ _);(case ap => exact Nat.le_refl _);rintro e gi ⟨cW,rfl,an,hb⟩;replace ag := aK (Kd.V_elder' (vM ag.out) (Kd.R_base an) hb);replace am := aK (Kd.R_below (rM am.out) hb);replace al := aK (Kd.V_elder' (vM al.out) (Kd.R_base an) hb);have aq := aK (Kd.R_lower (Kd.R_new' (Kd.R_newM (M := fun k_ => (w.heap.size ≤ k_)) an (below_size (bM HB.out)) (fun k_ h_ => h_)) (Kd.R_lt (rM ak.out))) (below_size (bM HB.out)));replace ak := aK (Kd.R_elder' (rM ak.out) (Kd.R_base an) hb);replace ac := aK (Kd.C_below (cM ac.out) hb);replace ad := aK (Kd.C_below (cM ad.out) hb);replace ae := aK (Kd.C_below (cM ae.out) hb);replace af := aK (Kd.C_below (cM af.out) hb);replace ai := aK (Kd.C_below (cM ai.out) hb);replace aj := aK (Kd.C_below (cM aj.out) hb);replace HB := aK (below_step (bM HB.out) hb);(try clear hb);(try clear hk);(try clear an);obtain ⟨es,et,dd⟩ := Kd.R_slice ak.out;subst dd;obtain ⟨eu,ev,de⟩ := Kd.R_slice aq.out;subst de)|(go_at_call 13;(with_reducible refine (r05_Same.calls k3 _ _ aD _ _ bd false _ ?aa ?ab ?ao ?ap dg.out).mono ?_);(case aa => exact cM (Kd.R_reads' ak.out).2.2);(case ab => exact (Kd.R_reads' ak.out).2.1);(case ao => exact cM (Kd.R_reads' aq.out).2.2);(case ap => exact (Kd.R_reads' aq.out).2.1);rintro e w' ⟨rfl,⟨nd,rfl⟩⟩;(try first|exact ⟨rfl,_,World.drewN_drewN _ _ _⟩|exact ⟨rfl,_,Eq.trans (World.drewN_drewN _ _ _) (congrArg (World.drewN _) (Nat.add_assoc _ _ _))⟩)));try go_wp2_with (first|(go_at_call 28;refine calls_of_args (args' := #[.slice dT aV.length dU,.slice none ([] : List Int).length 0]) (by first|with_reducible rfl|(simp only [List.length_nil];done)|(simp only [List.length_nil];with_reducible rfl)) ?_;(with_reducible refine (r05_Or.calls k3 _ _ aV _ _ ([] : List Int) bd _ ?aa ?ab ?ao ?ap dZ.out).mono ?_);(case aa => exact cM (Kd.V_reads' al.out).2.2);(case ab => exact (Kd.V_reads' al.out).2.1);(case ao => exact Kd.C_nil _ _);(case ap => exact Nat.le_refl _);rintro e gi ⟨cW,rfl,an,hb⟩;replace ag := aK (Kd.V_elder' (vM ag.out) (Kd.R_base an) hb);replace am := aK (Kd.R_below (rM am.out) hb);have aq := aK (Kd.R_lower (Kd.R_new' (Kd.R_newM (M := fun k_ => (w.heap.size ≤ k_)) an (below_size (bM HB.out)) (fun k_ h_ => h_)) (Kd.R_lt (rM ak.out))) (below_size (bM HB.out)));replace ak := aK (Kd.R_elder' (rM ak.out) (Kd.R_base an) hb);replace ac := aK (Kd.C_below (cM ac.out) hb);replace ad := aK (Kd.C_below (cM ad.out) hb);replace ae := aK (Kd.C_below (cM ae.out) hb);replace af := aK (Kd.C_below (cM af.out) hb);replace ai := aK (Kd.C_below (cM ai.out) hb);replace aj := aK (Kd.C_below (cM aj.out) hb);replace HB := aK (below_step (bM HB.out) hb);(try clear hb);(try clear hk);(try clear an);obtain ⟨es,et,dd⟩ := Kd.R_slice ak.out;subst dd;obtain ⟨eu,ev,de⟩ := Kd.R_slice aq.out;subst de)|(go_at_call 13;(with_reducible refine (r05_Same.calls k3 _ _ aD _ _ bd false _ ?aa ?ab ?ao ?ap dg.out).mono ?_);(case aa => exact cM (Kd.R_reads' ak.out).2.2);(case ab => exact (Kd.R_reads' ak.out).2.1);(case ao => exact cM (Kd.R_reads' aq.out).2.2);(case ap => exact (Kd.R_reads' aq.out).2.1);rintro e w' ⟨rfl,⟨nd,rfl⟩⟩;(try first|exact ⟨rfl,_,World.drewN_drewN _ _ _⟩|exact ⟨rfl,_,Eq.trans (World.drewN_drewN _ _ _) (congrArg (World.drewN _) (Nat.add_assoc _ _ _))⟩))))
             go_meet
             case rel => exact ⟨_,(true),(by first|rfl|(simp;done)|(simp [*];done)),H',⟨by have := cL.out;have := cN.out;have := cO.out;first|omega|exact Nat.le_refl _⟩,⟨by (with_reducible repeat (first|apply Kd.V_alloc|apply Kd.V_drewN|apply Kd.V_drew));exact Kd.V_mono ag.out (fun _ hk => ⟨hk.1.1.1,⟨hk.1.1.2,hk.1.2⟩⟩)⟩,⟨rM am.out⟩,⟨by refine rO ?_;exact Kd.R_mono ak.out (fun _ hk => hk.1.1)⟩,⟨by repeat (first|(with_reducible exact ac.out)|(with_reducible refine Kd.C_alloc ?_ _)|(with_reducible refine Kd.C_drewN ?_ _)|(with_reducible refine Kd.C_drew ?_)|exact ac.out)⟩,⟨by repeat (first|(with_reducible exact ad.out)|(with_reducible refine Kd.C_alloc ?_ _)|(with_reducible refine Kd.C_drewN ?_ _)|(with_reducible refine Kd.C_drew ?_)|exact ad.out)⟩,⟨by repeat (first|(with_reducible exact ae.out)|(with_reducible refine Kd.C_alloc ?_ _)|(with_reducible refine Kd.C_drewN ?_ _)|(with_reducible refine Kd.C_drew ?_)|exact ae.out)⟩,⟨by repeat (first|(with_reducible exact af.out)|(with_reducible refine Kd.C_alloc ?_ _)|(with_reducible refine Kd.C_drewN ?_ _)|(with_reducible refine Kd.C_drew ?_)|exact af.out)⟩,⟨by repeat (first|(with_reducible exact ai.out)|(with_reducible refine Kd.C_alloc ?_ _)|(with_reducible refine Kd.C_drewN ?_ _)|(with_reducible refine Kd.C_drew ?_)|exact ai.out)⟩,⟨by repeat (first|(with_reducible exact aj.out)|(with_reducible refine Kd.C_alloc ?_ _)|(with_reducible refine Kd.C_drewN ?_ _)|(with_reducible refine Kd.C_drew ?_)|exact aj.out)⟩,⟨bM HB.out⟩⟩
           case rest =>
            clear dO
            try clear p2
            try clear p5
            try clear q5
            try clear hx5
            try clear p6
            try clear fo
            try clear d4
            try clear fp
            try clear d5
            try clear dI
            try clear dC
            try clear bH
            try clear be
            try clear bf
            try clear bN
            try clear aN
            try clear aO
            try clear ck
            try clear bi
            try clear bj
            try clear cp
            try clear cq
            try clear bn
            try clear bo
            try clear br
            try clear aT
            try clear aU
            try clear p2
            try clear p5
            try clear b5
            try clear bz
            try clear cG
            try clear cR
            try clear cI
            try clear a3
            try clear q5
            try clear b6
            try clear bB
            try clear cH
            try clear cS
            try clear cJ
            try clear a4
            obtain ⟨kq,bW,rfl,HA,b4,ag,am,ar,ac,ad,ae,af,ai,aj,HB⟩ := hcut
            cases kq with
           |zero => exact absurd HA.out (by simp [l43_GroupClosed.j3])
           |succ kj26 =>
             have H := HA.out
             clear HA
             simp only [l43_GroupClosed.j3] at H
             by_cases ew : bW = true
             ·subst ew
              rw [if_pos rfl] at H
              obtain rfl := Option.some.inj H
              go_wp2
              repeat (go_quiet (fail);try go_wp2)
              go_ret
              exact ⟨by first|rfl|(simp [errW_none,errW_some] <;> rfl)|(simp [*,errW_none,errW_some] <;> rfl),bM HB.out⟩
             ·replace ew := Bool.eq_false_iff.mpr ew
              subst ew
              rw [if_neg (show ¬ (false = true) by decide)] at H
              have H' := aK H
              clear H
              go_wp2
              repeat (go_quiet (fail);try go_wp2)
              go_loopg [11,12] kj26 (fun kq gz gA w' => ∃ (aM : Bool) (a6 : Int),gz = .bool aM ∧ gA = .int .i64 a6 ∧ Aside0 (l43_GroupClosed.l2 kq l0 a1 a8 b2 ah aD aM a6 = some r) ∧ Aside0 (kq ≤ kj26) ∧ Aside0 (Kd.V k36 36 w' w.heap.size (fun k_ => (dz k_ ∨ w.heap.size ≤ k_) ∧ some k_ ≠ (bv : Value).ownBlock ∧ some k_ ≠ (cK : Value).ownBlock) (.slice (some aW) l0.length c0) l0) ∧ Aside0 (Kd.R Kd.string 9 w' w.heap.size (fun k_ => (w.heap.size ≤ k_)) bv a8) ∧ Aside0 (Kd.R (Kd.int .i64) 3 w' w.heap.size (fun k_ => (w.heap.size ≤ k_)) cK aD) ∧ Aside0 (Kd.C (Kd.int .i64) w' b7 ((rd_T36 l0 ah).f1).length ((rd_T36 l0 ah).f1)) ∧ Aside0 (Kd.C Kd.string w' b8 ((rd_T36 l0 ah).f2).length ((rd_T36 l0 ah).f2)) ∧ Aside0 (Kd.C (Kd.int .i64) w' bC ((rd_T36 l0 ah).f1).length ((rd_T36 l0 ah).f1)) ∧ Aside0 (Kd.C Kd.string w' bD ((rd_T36 l0 ah).f2).length ((rd_T36 l0 ah).f2)) ∧ Aside0 (Kd.C (Kd.int .i64) w' bC ((rd_T36 l0 ah).f1).length ((rd_T36 l0 ah).f1)) ∧ Aside0 (Kd.C Kd.string w' bD ((rd_T36 l0 ah).f2).length ((rd_T36 l0 ah).f2)) ∧ Aside0 (Below w.heap.size w w'))
              case atStart => exact ⟨(false),(0),(by first|rfl|(simp;done)|(simp [*];done)),(by first|rfl|(simp;done)|(simp [*];done)),H',⟨Nat.le_refl _⟩,⟨vM ag.out⟩,⟨rM am.out⟩,⟨rM ar.out⟩,⟨by repeat (first|(with_reducible exact ac.out)|(with_reducible refine Kd.C_alloc ?_ _)|(with_reducible refine Kd.C_drewN ?_ _)|(with_reducible refine Kd.C_drew ?_)|exact ac.out)⟩,⟨by repeat (first|(with_reducible exact ad.out)|(with_reducible refine Kd.C_alloc ?_ _)|(with_reducible refine Kd.C_drewN ?_ _)|(with_reducible refine Kd.C_drew ?_)|exact ad.out)⟩,⟨by repeat (first|(with_reducible exact ae.out)|(with_reducible refine Kd.C_alloc ?_ _)|(with_reducible refine Kd.C_drewN ?_ _)|(with_reducible refine Kd.C_drew ?_)|exact ae.out)⟩,⟨by repeat (first|(with_reducible exact af.out)|(with_reducible refine Kd.C_alloc ?_ _)|(with_reducible refine Kd.C_drewN ?_ _)|(with_reducible refine Kd.C_drew ?_)|exact af.out)⟩,⟨by repeat (first|(with_reducible exact ai.out)|(with_reducible refine Kd.C_alloc ?_ _)|(with_reducible refine Kd.C_drewN ?_ _)|(with_reducible refine Kd.C_drew ?_)|exact ai.out)⟩,⟨by repeat (first|(with_reducible exact aj.out)|(with_reducible refine Kd.C_alloc ?_ _)|(with_reducible refine Kd.C_drewN ?_ _)|(with_reducible refine Kd.C_drew ?_)|exact aj.out)⟩,⟨bM HB.out⟩⟩
              case round =>
               clear H'
               try clear p2
               try clear p5
               try clear q5
               try clear hx5
               try clear p6
               try clear ew
               try clear bH
               try clear be
               try clear bf
               try clear bN
               try clear aN
               try clear aO
               try clear ck
               try clear bi
               try clear bj
               try clear cp
               try clear cq
               try clear bn
               try clear bo
               try clear br
               try clear aT
               try clear aU
               try clear p2
               try clear p5
               try clear b5
               try clear bz
               try clear cG
               try clear cR
               try clear cI
               try clear a3
               try clear p6
               try clear q5
               try clear b6
               try clear bB
               try clear cH
               try clear cS
               try clear cJ
               try clear a4
               obtain ⟨aM,a6,rfl,rfl,HA,dE,ag,am,ar,ac,ad,ae,af,ai,aj,HB⟩ := hrel
               cases gk with
              |zero => exact absurd HA.out (by simp [l43_GroupClosed.l2])
              |succ k5 =>
                have H := HA.out
                clear HA
                simp only [l43_GroupClosed.l2] at H
                by_cases d0 : a6 < (a8.length : Int)
                ·rw [if_pos d0] at H
                 have ex := decide_eq_true d0
                 clear d0
                 by_cases e2 : aM = true
                 ·subst e2
                  rw [if_pos rfl] at H
                  have H' := aK H
                  clear H
                  obtain ⟨gB,gC,fJ⟩ := Kd.R_slice am.out
                  subst fJ
                  go_wp2
                  repeat (go_quiet (fail);try go_wp2)
                  go_roundg k5
                  case measure => have := cL.out;have := cN.out;have := cO.out;have := b4.out;have := dE.out;omega
                  case rel => exact ⟨(true),(wrap64 (a6 + 1)),(by first|rfl|(simp;done)|(simp [*];done)),(by first|rfl|(simp;done)|(simp [*];done)),H',⟨by have := cL.out;have := cN.out;have := cO.out;have := b4.out;have := dE.out;omega⟩,⟨vM ag.out⟩,⟨rM am.out⟩,⟨rM ar.out⟩,⟨by repeat (first|(with_reducible exact ac.out)|(with_reducible refine Kd.C_alloc ?_ _)|(with_reducible refine Kd.C_drewN ?_ _)|(with_reducible refine Kd.C_drew ?_)|exact ac.out)⟩,⟨by repeat (first|(with_reducible exact ad.out)|(with_reducible refine Kd.C_alloc ?_ _)|(with_reducible refine Kd.C_drewN ?_ _)|(with_reducible refine Kd.C_drew ?_)|exact ad.out)⟩,⟨by repeat (first|(with_reducible exact ae.out)|(with_reducible refine Kd.C_alloc ?_ _)|(with_reducible refine Kd.C_drewN ?_ _)|(with_reducible refine Kd.C_drew ?_)|exact ae.out)⟩,⟨by repeat (first|(with_reducible exact af.out)|(with_reducible refine Kd.C_alloc ?_ _)|(with_reducible refine Kd.C_drewN ?_ _)|(with_reducible refine Kd.C_drew ?_)|exact af.out)⟩,⟨by repeat (first|(with_reducible exact ai.out)|(with_reducible refine Kd.C_alloc ?_ _)|(with_reducible refine Kd.C_drewN ?_ _)|(with_reducible refine Kd.C_drew ?_)|exact ai.out)⟩,⟨by repeat (first|(with_reducible exact aj.out)|(with_reducible refine Kd.C_alloc ?_ _)|(with_reducible refine Kd.C_drewN ?_ _)|(with_reducible refine Kd.C_drew ?_)|exact aj.out)⟩,⟨bM HB.out⟩⟩
                 ·replace e2 := Bool.eq_false_iff.mpr e2
                  subst e2
                  rw [if_neg (show ¬ (false = true) by decide)] at H
                  obtain ⟨gj,H⟩ := iS H
                  have gl := decide_eq_true gj
                  clear gj
                  obtain ⟨gm,H⟩ := iS H
                  have gn := decide_eq_true gm
                  clear gm
                  obtain ⟨gp,H⟩ := iS H
                  have gq := decide_eq_true gp
                  clear gp
                  have H' := aK H
                  clear H
                  obtain ⟨gD,gE,fK⟩ := Kd.R_slice am.out
                  subst fK
                  have dV : 0 ≤ (a6 : Int) := dA
                  have dW : a6 < (a8.length : Int) := dA
                  obtain ⟨gr,fL,e3⟩ := Kd.at_string (Kd.R_reads' am.out).2.2 a6 dV dW
                  cases fL
                  replace dV := eq_true dV
                  replace dW := eq_true dW
                  have du : 0 ≤ (ah : Int) := dA
                  have dv : ah < (l0.length : Int) := dA
                  obtain ⟨ey,fM,fN,fO,fP,fQ,e4,dw,dx,cB,cC,cD,cE⟩ := at_T36 (Kd.V_reads' ag.out).2.2 ah du dv
                  obtain rfl : aW = ey := (by injection fQ)
                  obtain ⟨gs,dX,dY,ce⟩ := Kd.V_get ag.out z36 ah du (by first|exact dv|exact dA|(have e_ := (Kd.V_reads' ag.out).1;omega))
                  obtain ⟨e5,e6,e7,e8,rfl,bX,bY,bZ,b1⟩ := k36_openF dY
                  have bs := ce 1 _ rfl
                  rw [add_field _ _ 1 (by omega)] at bs
                  replace bs := Option.some.inj (bs.symm.trans dw)
                  injection bs with hva_ hvn_ hvc_
                  rw [hva_] at bY
                  rw [hvc_] at bX
                  have e9 := aK (show Kd.V (Kd.int .i64) 3 _ w.heap.size _ _ ((rd_T36 l0 ah).f1) from Kd.V_mk bX bY)
                  clear hva_ hvn_ hvc_ bY bX
                  have bu := ce 2 _ rfl
                  rw [add_field _ _ 2 (by omega)] at bu
                  replace bu := Option.some.inj (bu.symm.trans dx)
                  injection bu with hva_ hvn_ hvc_
                  rw [hva_] at b1
                  rw [hvc_] at bZ
                  have fa := aK (show Kd.V Kd.string 9 _ w.heap.size _ _ ((rd_T36 l0 ah).f2) from Kd.V_mk bZ b1)
                  clear hva_ hvn_ hvc_ b1 bZ
                  clear ce dX
                  have fb := aK cC
                  have fc := aK cB
                  clear cC cB
                  have fd := aK cE
                  have fe := aK cD
                  clear cE cD
                  replace du := eq_true du
                  replace dv := eq_true dv
                  go_wp2
                  repeat (go_quiet (fail);try go_wp2)
                  go_roundg k5
                  case measure => have := cL.out;have := cN.out;have := cO.out;have := b4.out;have := dE.out;omega
                  case rel => exact ⟨(((rdOf ByteArray.empty a8 a6).toList == ((rd_T36 l0 ah).f0).toList)),(wrap64 (a6 + 1)),(by first|rfl|(simp;done)|(simp [*];done)),(by first|rfl|(simp;done)|(simp [*];done)),H',⟨by have := cL.out;have := cN.out;have := cO.out;have := b4.out;have := dE.out;omega⟩,⟨vM ag.out⟩,⟨rM am.out⟩,⟨rM ar.out⟩,⟨by repeat (first|(with_reducible exact ac.out)|(with_reducible refine Kd.C_alloc ?_ _)|(with_reducible refine Kd.C_drewN ?_ _)|(with_reducible refine Kd.C_drew ?_)|exact ac.out)⟩,⟨by repeat (first|(with_reducible exact ad.out)|(with_reducible refine Kd.C_alloc ?_ _)|(with_reducible refine Kd.C_drewN ?_ _)|(with_reducible refine Kd.C_drew ?_)|exact ad.out)⟩,⟨by repeat (first|(with_reducible exact ae.out)|(with_reducible refine Kd.C_alloc ?_ _)|(with_reducible refine Kd.C_drewN ?_ _)|(with_reducible refine Kd.C_drew ?_)|exact ae.out)⟩,⟨by repeat (first|(with_reducible exact af.out)|(with_reducible refine Kd.C_alloc ?_ _)|(with_reducible refine Kd.C_drewN ?_ _)|(with_reducible refine Kd.C_drew ?_)|exact af.out)⟩,⟨by repeat (first|(with_reducible exact ai.out)|(with_reducible refine Kd.C_alloc ?_ _)|(with_reducible refine Kd.C_drewN ?_ _)|(with_reducible refine Kd.C_drew ?_)|exact ai.out)⟩,⟨by repeat (first|(with_reducible exact aj.out)|(with_reducible refine Kd.C_alloc ?_ _)|(with_reducible refine Kd.C_drewN ?_ _)|(with_reducible refine Kd.C_drew ?_)|exact aj.out)⟩,⟨bM HB.out⟩⟩
                ·rw [if_neg d0] at H
                 have ex := decide_eq_false d0
                 clear d0
                 replace H := Option.bind_eq_some_iff.mp H
                 obtain ⟨aX,ez,H⟩ := H
                 have dy := aK ez
                 clear ez
                 by_cases df : (aM != aX) = true
                 ·rw [if_pos df] at H
                  have eA : (aM != aX) = true := df
                  (try (have eB : decide (aM = aX) = false := by simpa using df))
                  (try (have eC : (aM == aX) = false := by simpa using df))
                  (try (have gu : ¬ (aM = aX) := by simpa using df))
                  clear df
                  obtain rfl := Option.some.inj H
                  obtain ⟨gF,gG,fR⟩ := Kd.R_slice am.out
                  subst fR
                  obtain ⟨gH,gI,fS⟩ := Kd.R_slice ar.out
                  subst fS
                  go_wp2_with (first|(go_at_call 29;(with_reducible refine (r05_In.calls k5 _ _ aD a1 aX _ ?aa ?ab dy.out).mono ?_);(case aa => exact cM (Kd.R_reads' ar.out).2.2);(case ab => exact (Kd.R_reads' ar.out).2.1);rintro e w' ⟨rfl,⟨nd,rfl⟩⟩;(try first|exact ⟨rfl,_,World.drewN_drewN _ _ _⟩|exact ⟨rfl,_,Eq.trans (World.drewN_drewN _ _ _) (congrArg (World.drewN _) (Nat.add_assoc _ _ _))⟩)))
                  repeat (go_quiet (first|(go_at_call 29;(with_reducible refine (r05_In.calls k5 _ _ aD a1 aX _ ?aa ?ab dy.out).mono ?_);(case aa => exact cM (Kd.R_reads' ar.out).2.2);(case ab => exact (Kd.R_reads' ar.out).2.1);rintro e w' ⟨rfl,⟨nd,rfl⟩⟩;(try first|exact ⟨rfl,_,World.drewN_drewN _ _ _⟩|exact ⟨rfl,_,Eq.trans (World.drewN_drewN _ _ _) (congrArg (World.drewN _) (Nat.add_assoc _ _ _))⟩)));try go_wp2_with (first|(go_at_call 29;(with_reducible refine (r05_In.calls k5 _ _ aD a1 aX _ ?aa ?ab dy.out).mono ?_);(case aa => exact cM (Kd.R_reads' ar.out).2.2);(case ab => exact (Kd.R_reads' ar.out).2.1);rintro e w' ⟨rfl,⟨nd,rfl⟩⟩;(try first|exact ⟨rfl,_,World.drewN_drewN _ _ _⟩|exact ⟨rfl,_,Eq.trans (World.drewN_drewN _ _ _) (congrArg (World.drewN _) (Nat.add_assoc _ _ _))⟩))))
                  go_ret
                  exact ⟨by first|rfl|(simp [errW_none,errW_some] <;> rfl)|(simp [*,errW_none,errW_some] <;> rfl),bM HB.out⟩
                 ·rw [if_neg df] at H
                  have eA : (aM != aX) = false := by simpa using df
                  (try (have eB : decide (aM = aX) = true := by simpa using df))
                  (try (have eC : (aM == aX) = true := by simpa using df))
                  clear df
                  by_cases ff : aM = true
                  ·subst ff
                   rw [if_pos rfl] at H
                   have H' := aK H
                   clear H
                   obtain ⟨gJ,gK,fT⟩ := Kd.R_slice am.out
                   subst fT
                   obtain ⟨gM,gN,fU⟩ := Kd.R_slice ar.out
                   subst fU
                   go_wp2_with (first|(go_at_call 29;(with_reducible refine (r05_In.calls k5 _ _ aD a1 aX _ ?aa ?ab dy.out).mono ?_);(case aa => exact cM (Kd.R_reads' ar.out).2.2);(case ab => exact (Kd.R_reads' ar.out).2.1);rintro e w' ⟨rfl,⟨nd,rfl⟩⟩;(try first|exact ⟨rfl,_,World.drewN_drewN _ _ _⟩|exact ⟨rfl,_,Eq.trans (World.drewN_drewN _ _ _) (congrArg (World.drewN _) (Nat.add_assoc _ _ _))⟩)))
                   repeat (go_quiet (first|(go_at_call 29;(with_reducible refine (r05_In.calls k5 _ _ aD a1 aX _ ?aa ?ab dy.out).mono ?_);(case aa => exact cM (Kd.R_reads' ar.out).2.2);(case ab => exact (Kd.R_reads' ar.out).2.1);rintro e w' ⟨rfl,⟨nd,rfl⟩⟩;(try first|exact ⟨rfl,_,World.drewN_drewN _ _ _⟩|exact ⟨rfl,_,Eq.trans (World.drewN_drewN _ _ _) (congrArg (World.drewN _) (Nat.add_assoc _ _ _))⟩)));try go_wp2_with (first|(go_at_call 29;(with_reducible refine (r05_In.calls k5 _ _ aD a1 aX _ ?aa ?ab dy.out).mono ?_);(case aa => exact cM (Kd.R_reads' ar.out).2.2);(case ab => exact (Kd.R_reads' ar.out).2.1);rintro e w' ⟨rfl,⟨nd,rfl⟩⟩;(try first|exact ⟨rfl,_,World.drewN_drewN _ _ _⟩|exact ⟨rfl,_,Eq.trans (World.drewN_drewN _ _ _) (congrArg (World.drewN _) (Nat.add_assoc _ _ _))⟩))))
                   go_roundg k5
                   case measure => have := cL.out;have := cN.out;have := cO.out;have := b4.out;have := dE.out;omega
                   case rel => exact ⟨(wrap64 (b2 + 1)),(wrap64 (ah + 1)),(by first|rfl|(simp;done)|(simp [*];done)),(by first|rfl|(simp;done)|(simp [*];done)),H',⟨by have := cL.out;have := cN.out;have := cO.out;have := b4.out;have := dE.out;omega⟩,⟨by (with_reducible repeat (first|apply Kd.V_alloc|apply Kd.V_drewN|apply Kd.V_drew));exact Kd.V_mono ag.out (fun _ hk => ⟨hk.1,hk.2.1⟩)⟩,⟨rM am.out⟩,⟨bM HB.out⟩⟩
                  ·replace ff := Bool.eq_false_iff.mpr ff
                   subst ff
                   rw [if_neg (show ¬ (false = true) by decide)] at H
                   have H' := aK H
                   clear H
                   obtain ⟨gO,gP,fV⟩ := Kd.R_slice am.out
                   subst fV
                   obtain ⟨gQ,gR,fW⟩ := Kd.R_slice ar.out
                   subst fW
                   go_wp2_with (first|(go_at_call 29;(with_reducible refine (r05_In.calls k5 _ _ aD a1 aX _ ?aa ?ab dy.out).mono ?_);(case aa => exact cM (Kd.R_reads' ar.out).2.2);(case ab => exact (Kd.R_reads' ar.out).2.1);rintro e w' ⟨rfl,⟨nd,rfl⟩⟩;(try first|exact ⟨rfl,_,World.drewN_drewN _ _ _⟩|exact ⟨rfl,_,Eq.trans (World.drewN_drewN _ _ _) (congrArg (World.drewN _) (Nat.add_assoc _ _ _))⟩)))
                   repeat (go_quiet (first|(go_at_call 29;(with_reducible refine (r05_In.calls k5 _ _ aD a1 aX _ ?aa ?ab dy.out).mono ?_);(case aa => exact cM (Kd.R_reads' ar.out).2.2);(case ab => exact (Kd.R_reads' ar.out).2.1);rintro e w' ⟨rfl,⟨nd,rfl⟩⟩;(try first|exact ⟨rfl,_,World.drewN_drewN _ _ _⟩|exact ⟨rfl,_,Eq.trans (World.drewN_drewN _ _ _) (congrArg (World.drewN _) (Nat.add_assoc _ _ _))⟩)));try go_wp2_with (first|(go_at_call 29;(with_reducible refine (r05_In.calls k5 _ _ aD a1 aX _ ?aa ?ab dy.out).mono ?_);(case aa => exact cM (Kd.R_reads' ar.out).2.2);(case ab => exact (Kd.R_reads' ar.out).2.1);rintro e w' ⟨rfl,⟨nd,rfl⟩⟩;(try first|exact ⟨rfl,_,World.drewN_drewN _ _ _⟩|exact ⟨rfl,_,Eq.trans (World.drewN_drewN _ _ _) (congrArg (World.drewN _) (Nat.add_assoc _ _ _))⟩))))
                   go_roundg k5
                   case measure => have := cL.out;have := cN.out;have := cO.out;have := b4.out;have := dE.out;omega
                   case rel => exact ⟨(b2),(wrap64 (ah + 1)),(by first|rfl|(simp;done)|(simp [*];done)),(by first|rfl|(simp;done)|(simp [*];done)),H',⟨by have := cL.out;have := cN.out;have := cO.out;have := b4.out;have := dE.out;omega⟩,⟨by (with_reducible repeat (first|apply Kd.V_alloc|apply Kd.V_drewN|apply Kd.V_drew));exact Kd.V_mono ag.out (fun _ hk => ⟨hk.1,hk.2.1⟩)⟩,⟨rM am.out⟩,⟨bM HB.out⟩⟩
       ·rw [if_neg dF] at H
        have dB := decide_eq_false dF
        clear dF
        obtain rfl := Option.some.inj H
        obtain ⟨gS,gT,fX⟩ := Kd.R_slice am.out
        subst fX
        go_wp2
        repeat (go_quiet (fail);try go_wp2)
        go_ret
        exact ⟨by first|rfl|(simp [errW_none,errW_some] <;> rfl)|(simp [*,errW_none,errW_some] <;> rfl),bM HB.out⟩
 ·replace c4 := Bool.eq_false_iff.mpr c4
  subst c4
  rw [if_neg (show ¬ (false = true) by decide)] at H
  obtain rfl := Option.some.inj H
  go_enter Tryz.func6,Tryz.ntmps6
  go_wp2_with (first|(go_at_call 9;(with_reducible refine (l43_alive.calls k  false _ A3.out).mono ?_);rintro e gv ⟨rfl,hb⟩;replace HB := aK (below_step (bM HB.out) hb);(try clear hb);(try clear hk)))
  repeat (go_quiet (first|(go_at_call 9;(with_reducible refine (l43_alive.calls k  false _ A3.out).mono ?_);rintro e gv ⟨rfl,hb⟩;replace HB := aK (below_step (bM HB.out) hb);(try clear hb);(try clear hk)));try go_wp2_with (first|(go_at_call 9;(with_reducible refine (l43_alive.calls k  false _ A3.out).mono ?_);rintro e gv ⟨rfl,hb⟩;replace HB := aK (below_step (bM HB.out) hb);(try clear hb);(try clear hk))))
  go_ret
  exact ⟨by first|rfl|(simp [errW_none,errW_some] <;> rfl)|(simp [*,errW_none,errW_some] <;> rfl),bM HB.out⟩
end Go.Proofs.YtobdkgoapcbipaaGreatDoor.J
