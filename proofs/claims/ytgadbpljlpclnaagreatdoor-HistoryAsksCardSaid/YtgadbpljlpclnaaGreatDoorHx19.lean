import Derived.Test.YtgadbpljlpclnaaGreatDoorHx0
import Derived.Test.YtgadbpljlpclnaaGreatDoorHx1
import Derived.Test.YtgadbpljlpclnaaGreatDoorHx6
import Derived.Test.YtgadbpljlpclnaaGreatDoorHx13
import Derived.Test.YtgadbpljlpclnaaGreatDoorHx15
import Derived.Test.YtgadbpljlpclnaaGreatDoorHx16
import Derived.Test.YtgadbpljlpclnaaGreatDoorHx18
namespace Go.Proofs.YtgadbpljlpclnaaGreatDoor.H
open Go.RowKit Go.Proofs.YtgadbpljlpclnaaGreatDoorW.PrintWords Go.Proofs.YtgadbpljlpclnaaGreatDoorW.PrintLast Go.Proofs.YtgadbpljlpclnaaGreatDoorW.PrintMore
set_option maxHeartbeats 4000000
set_option maxRecDepth 100000
attribute [local go_sem] max2_int min2_int max_two min_two max_three min_three max_four min_four
set_option linter.unusedVariables false
set_option linter.unusedSimpArgs false

attribute [local go_sem high] eqA53
/-! ### r26_SameCommit: function 16 -/
mutual
def r26_SameCommit.j0 : Nat → Bool → Int → List Int → List (S53) → Int → Int → Int → List Int → List (S53) → Int → Int → Option (Bool)
|0,_,_,_,_,_,_,_,_,_,_,_ => none
|k + 1,ak,aa,ab,ac,ad,ae,af,ag,ah,ai,aj => if ak = true then (some false) else (r26_SameCommit.l0 k 0 aa ab ac ad ae af ag ah ai aj)
def r26_SameCommit.l0 : Nat → Int → Int → List Int → List (S53) → Int → Int → Int → List Int → List (S53) → Int → Int → Option (Bool)
|0,_,_,_,_,_,_,_,_,_,_,_ => none
|k + 1,x5,ac,ad,aa,ae,af,ag,ah,ab,ai,aj => if x5 < (aa.length : Int) then (if 0 ≤ x5 then (if x5 < (ab.length : Int) then (if (!((((rd_T53 aa x5).f0).toList) == (((rd_T53 ab x5).f0).toList)) || (!(((rd_T53 aa x5).f1) == ((rd_T53 ab x5).f1)))) = true then (some false) else (r26_SameCommit.l0 k (wrap64 (x5 + 1)) ac ad aa ae af ag ah ab ai aj)) else (none)) else (none)) else (some true)
end
def r26_SameCommit.f (k : Nat) (aa : Int) (ab : List Int) (ac : List (S53)) (ad : Int) (ae : Int) (af : Int) (ag : List Int) (ah : List (S53)) (ai : Int) (aj : Int) : Option (Bool) := if aa = af then (if ad = ai then (if ae = aj then ((r05_Same.f k ab ag).bind fun ak => (if ak = true then (r26_SameCommit.j0 k ((ac.length : Int) != (ah.length : Int)) aa ab ac ad ae af ag ah ai aj) else (r26_SameCommit.j0 k true aa ab ac ad ae af ag ah ai aj))) else (r26_SameCommit.j0 k true aa ab ac ad ae af ag ah ai aj)) else (r26_SameCommit.j0 k true aa ab ac ad ae af ag ah ai aj)) else (r26_SameCommit.j0 k true aa ab ac ad ae af ag ah ai aj)
theorem r26_SameCommit.mono_l : ∀ k, (∀ y0 y1 y2 y3 y4 y5 y6 y7 y8 y9 y10, LeO (r26_SameCommit.j0 k y0 y1 y2 y3 y4 y5 y6 y7 y8 y9 y10) (r26_SameCommit.j0 (k + 1) y0 y1 y2 y3 y4 y5 y6 y7 y8 y9 y10)) ∧ (∀ y0 y1 y2 y3 y4 y5 y6 y7 y8 y9 y10, LeO (r26_SameCommit.l0 k y0 y1 y2 y3 y4 y5 y6 y7 y8 y9 y10) (r26_SameCommit.l0 (k + 1) y0 y1 y2 y3 y4 y5 y6 y7 y8 y9 y10))
|0 => ⟨fun _ _ _ _ _ _ _ _ _ _ _ r h => by simp [r26_SameCommit.j0] at h,fun _ _ _ _ _ _ _ _ _ _ _ r h => by simp [r26_SameCommit.l0] at h⟩
|k + 1 => by
  obtain ⟨ih0,ih1⟩ := r26_SameCommit.mono_l k
  refine ⟨?_,?_⟩
  ·intro y0 y1 y2 y3 y4 y5 y6 y7 y8 y9 y10
   unfold r26_SameCommit.j0
   repeat' (with_reducible first|exact ih1 _ _ _ _ _ _ _ _ _ _ _|exact LeO.refl _|exact LeO.none _|refine LeO.ite ?_ ?_|refine LeO.bind ?_ (fun _ => ?_))
  ·intro y0 y1 y2 y3 y4 y5 y6 y7 y8 y9 y10
   unfold r26_SameCommit.l0
   repeat' (with_reducible first|exact ih1 _ _ _ _ _ _ _ _ _ _ _|exact LeO.refl _|exact LeO.none _|refine LeO.ite ?_ ?_|refine LeO.bind ?_ (fun _ => ?_))
theorem r26_SameCommit.mono : ∀ a0 a1 a2 a3 a4 a5 a6 a7 a8 a9 k, LeO (r26_SameCommit.f k a0 a1 a2 a3 a4 a5 a6 a7 a8 a9) (r26_SameCommit.f (k + 1) a0 a1 a2 a3 a4 a5 a6 a7 a8 a9) := by
 intro a0 a1 a2 a3 a4 a5 a6 a7 a8 a9 k
 obtain ⟨ih0,ih1⟩ := r26_SameCommit.mono_l k
 unfold r26_SameCommit.f
 repeat' (with_reducible first|exact ih0 _ _ _ _ _ _ _ _ _ _ _|exact ih1 _ _ _ _ _ _ _ _ _ _ _|exact r05_Same.mono _ _ _|exact LeO.refl _|exact LeO.none _|refine LeO.ite ?_ ?_|refine LeO.bind ?_ (fun _ => ?_))
theorem r26_SameCommit.calls (k : Nat) (av : Int) (aJ : Option Addr) (aL : Nat) (ah : List Int) (aM : Option Addr) (aN : Nat) (af : List (S53)) (aw : Int) (ax : Int) (ay : Int) (aO : Option Addr) (aP : Nat) (ai : List Int) (aQ : Option Addr) (aR : Nat) (ag : List (S53)) (az : Int) (aA : Int) (r : Bool) (w : World) (aY : Kd.C (Kd.int .i64) w aJ ah.length ah) (aZ : ah.length ≤ aL) (a0 : Kd.C k53 w aM af.length af) (a1 : af.length ≤ aN) (a2 : Kd.C (Kd.int .i64) w aO ai.length ai) (a3 : ai.length ≤ aP) (a4 : Kd.C k53 w aQ ag.length ag) (a5 : ag.length ≤ aR) (h : r26_SameCommit.f k av ah af aw ax ay ai ag az aA = some r) :
  Calls Tryz.prog 16 #[.agg #[.int .i64 av,.slice aJ ah.length aL,.slice aM af.length aN,.int .i64 aw,.int .i64 ax],.agg #[.int .i64 ay,.slice aO ai.length aP,.slice aQ ag.length aR,.int .i64 az,.int .i64 aA]] w fun e w' => e = .returned (.bool r) ∧ Below w.heap.size w w' := by
 have bY := Tryz.underlying28
 have bZ := Tryz.underlying53
 have aB := aK aY
 have aC := aK aZ
 clear aY aZ
 have a6 := aK a0
 have bu := aK a1
 clear a0 a1
 have aD := aK a2
 have aE := aK a3
 clear a2 a3
 have a7 := aK a4
 have bv := aK a5
 clear a4 a5
 have HB := aK (Below.refl w.heap.size w)
 unfold r26_SameCommit.f at h
 have H := h
 clear h
 have bn := aK H
 clear H
 go_enter Tryz.func16,Tryz.ntmps16
 go_upto_region 1 with (first|((with_reducible refine gate_dst (N := 2) rfl ?_);(try (refine gate_guard (by rfl) ?_;dsimp only));refine box_event ?hg (N := 2) ?hd (cs := #[.int .i64 av,.slice aJ ah.length aL,.slice aM af.length aN,.int .i64 aw,.int .i64 ax]) (t := 28) ?hr ?_;(case hd => rfl);(case hg => rfl);(case hr => first|(go_simp;done)|(go_simp;rfl));intro an hg w4 hbox hb;have aa := aK (hbox);have aF := aK ((by rw [hg];exact (below_size (bM HB.out)) : w.heap.size ≤ an));have a8 := Ge.mk aF.out;have aG := aK ((by rw [hg];exact (below_size (bM HB.out)) : w.heap.size ≤ an));have a9 := Ge.mk aG.out;replace HB := aK (below_step (bM HB.out) hb);clear hb hbox hg)|((with_reducible refine gate_dst (N := 3) rfl ?_);(try (refine gate_guard (by rfl) ?_;dsimp only));refine box_event ?hg (N := 3) ?hd (cs := #[.int .i64 ay,.slice aO ai.length aP,.slice aQ ag.length aR,.int .i64 az,.int .i64 aA]) (t := 28) ?hr ?_;(case hd => rfl);(case hg => rfl);(case hr => first|(go_simp;done)|(go_simp;rfl));intro ao hg w5 hbox hb;have ae := aK (hbox);have aH := aK ((by rw [hg];exact (below_size (bG HB.out)) : w.heap.size ≤ ao));have ba := Ge.mk aH.out;have aI := aK ((by rw [hg];exact (below_size (bG HB.out)) : w.heap.size ≤ ao));have bb := Ge.mk aI.out;replace HB := aK (below_step (bG HB.out) hb);have ab := aK (nbL aa.out hg);have ac := aK (nbR aa.out hg);replace aa := aK (blk_below (kM aa.out) hb);clear hb hbox hg))
 repeat (go_quiet (first|((with_reducible refine gate_dst (N := 2) rfl ?_);(try (refine gate_guard (by rfl) ?_;dsimp only));refine box_event ?hg (N := 2) ?hd (cs := #[.int .i64 av,.slice aJ ah.length aL,.slice aM af.length aN,.int .i64 aw,.int .i64 ax]) (t := 28) ?hr ?_;(case hd => rfl);(case hg => rfl);(case hr => first|(go_simp;done)|(go_simp;rfl));intro an hg w4 hbox hb;have aa := aK (hbox);have aF := aK ((by rw [hg];exact (below_size (bM HB.out)) : w.heap.size ≤ an));have a8 := Ge.mk aF.out;have aG := aK ((by rw [hg];exact (below_size (bM HB.out)) : w.heap.size ≤ an));have a9 := Ge.mk aG.out;replace HB := aK (below_step (bM HB.out) hb);clear hb hbox hg)|((with_reducible refine gate_dst (N := 3) rfl ?_);(try (refine gate_guard (by rfl) ?_;dsimp only));refine box_event ?hg (N := 3) ?hd (cs := #[.int .i64 ay,.slice aO ai.length aP,.slice aQ ag.length aR,.int .i64 az,.int .i64 aA]) (t := 28) ?hr ?_;(case hd => rfl);(case hg => rfl);(case hr => first|(go_simp;done)|(go_simp;rfl));intro ao hg w5 hbox hb;have ae := aK (hbox);have aH := aK ((by rw [hg];exact (below_size (bG HB.out)) : w.heap.size ≤ ao));have ba := Ge.mk aH.out;have aI := aK ((by rw [hg];exact (below_size (bG HB.out)) : w.heap.size ≤ ao));have bb := Ge.mk aI.out;replace HB := aK (below_step (bG HB.out) hb);have ab := aK (nbL aa.out hg);have ac := aK (nbR aa.out hg);replace aa := aK (blk_below (kM aa.out) hb);clear hb hbox hg));go_upto_region 1 with (first|((with_reducible refine gate_dst (N := 2) rfl ?_);(try (refine gate_guard (by rfl) ?_;dsimp only));refine box_event ?hg (N := 2) ?hd (cs := #[.int .i64 av,.slice aJ ah.length aL,.slice aM af.length aN,.int .i64 aw,.int .i64 ax]) (t := 28) ?hr ?_;(case hd => rfl);(case hg => rfl);(case hr => first|(go_simp;done)|(go_simp;rfl));intro an hg w4 hbox hb;have aa := aK (hbox);have aF := aK ((by rw [hg];exact (below_size (bM HB.out)) : w.heap.size ≤ an));have a8 := Ge.mk aF.out;have aG := aK ((by rw [hg];exact (below_size (bM HB.out)) : w.heap.size ≤ an));have a9 := Ge.mk aG.out;replace HB := aK (below_step (bM HB.out) hb);clear hb hbox hg)|((with_reducible refine gate_dst (N := 3) rfl ?_);(try (refine gate_guard (by rfl) ?_;dsimp only));refine box_event ?hg (N := 3) ?hd (cs := #[.int .i64 ay,.slice aO ai.length aP,.slice aQ ag.length aR,.int .i64 az,.int .i64 aA]) (t := 28) ?hr ?_;(case hd => rfl);(case hg => rfl);(case hr => first|(go_simp;done)|(go_simp;rfl));intro ao hg w5 hbox hb;have ae := aK (hbox);have aH := aK ((by rw [hg];exact (below_size (bG HB.out)) : w.heap.size ≤ ao));have ba := Ge.mk aH.out;have aI := aK ((by rw [hg];exact (below_size (bG HB.out)) : w.heap.size ≤ ao));have bb := Ge.mk aI.out;replace HB := aK (below_step (bG HB.out) hb);have ab := aK (nbL aa.out hg);have ac := aK (nbR aa.out hg);replace aa := aK (blk_below (kM aa.out) hb);clear hb hbox hg)))
 (try simp only [Act.put,z1_,z2_,z3_])
 go_cut [41] (fun b1 wc => ∃ (kq : Nat) (aW : Bool),b1 = .bool aW ∧ Aside0 (r26_SameCommit.j0 kq aW av ah af aw ax ay ai ag az aA = some r) ∧ Aside0 (kq ≤ k) ∧ Aside0 (wc.heap[an]? = some (.cells #[.int .i64 av,(.slice aJ ah.length aL),(.slice aM af.length aN),.int .i64 aw,.int .i64 ax] 28 (0,0))) ∧ Aside0 (wc.heap[ao]? = some (.cells #[.int .i64 ay,(.slice aO ai.length aP),(.slice aQ ag.length aR),.int .i64 az,.int .i64 aA] 28 (0,0))) ∧ Aside0 (Below w.heap.size w wc))
 case first =>
  have H := bn.out
  clear bn
  by_cases c6 : av = ay
  ·rw [if_pos c6] at H
   have aX := beq_iff_eq.mpr c6
   have bc := bne_eq_false_iff_eq.mpr c6
   clear c6
   (first|rw [aX]|(simp only [i64_w,i32_w];rw [aX])|rw [bc]|skip)
   by_cases c7 : aw = az
   ·rw [if_pos c7] at H
    have bo := beq_iff_eq.mpr c7
    have bp := bne_eq_false_iff_eq.mpr c7
    clear c7
    by_cases c8 : ax = aA
    ·rw [if_pos c8] at H
     have bq := beq_iff_eq.mpr c8
     have br := bne_eq_false_iff_eq.mpr c8
     clear c8
     replace H := Option.bind_eq_some_iff.mp H
     obtain ⟨bs,bx,H⟩ := H
     have A9 := aK bx
     clear bx
     by_cases c10 : bs = true
     ·subst c10
      rw [if_pos rfl] at H
      have H' := aK H
      clear H
      have bz := ab.out
      have bB := ac.out
      obtain ⟨_,_,_,_,_,_,_,_,_,_⟩ := bk5_ aa.out
      obtain ⟨_,_,_,_,_,_,_,_,_,_⟩ := bk5_ ae.out
      go_wp2_with (first|(go_at_call 21;(with_reducible refine (r05_Same.calls k _ _ ah _ _ ai true _ ?aj ?ak ?al ?am A9.out).mono ?_);(case aj => exact cM (Kd.C_below aB.out HB.out));(case ak => exact aC.out);(case al => exact cM (Kd.C_below aD.out HB.out));(case am => exact aE.out);rintro e w' ⟨rfl,⟨nd,rfl⟩⟩;(try first|exact ⟨rfl,_,World.drewN_drewN _ _ _⟩|exact ⟨rfl,_,Eq.trans (World.drewN_drewN _ _ _) (congrArg (World.drewN _) (Nat.add_assoc _ _ _))⟩)))
      repeat (go_quiet (first|(go_at_call 21;(with_reducible refine (r05_Same.calls k _ _ ah _ _ ai true _ ?aj ?ak ?al ?am A9.out).mono ?_);(case aj => exact cM (Kd.C_below aB.out HB.out));(case ak => exact aC.out);(case al => exact cM (Kd.C_below aD.out HB.out));(case am => exact aE.out);rintro e w' ⟨rfl,⟨nd,rfl⟩⟩;(try first|exact ⟨rfl,_,World.drewN_drewN _ _ _⟩|exact ⟨rfl,_,Eq.trans (World.drewN_drewN _ _ _) (congrArg (World.drewN _) (Nat.add_assoc _ _ _))⟩)));try go_wp2_with (first|(go_at_call 21;(with_reducible refine (r05_Same.calls k _ _ ah _ _ ai true _ ?aj ?ak ?al ?am A9.out).mono ?_);(case aj => exact cM (Kd.C_below aB.out HB.out));(case ak => exact aC.out);(case al => exact cM (Kd.C_below aD.out HB.out));(case am => exact aE.out);rintro e w' ⟨rfl,⟨nd,rfl⟩⟩;(try first|exact ⟨rfl,_,World.drewN_drewN _ _ _⟩|exact ⟨rfl,_,Eq.trans (World.drewN_drewN _ _ _) (congrArg (World.drewN _) (Nat.add_assoc _ _ _))⟩))))
      go_meet
      case rel => exact ⟨_,(((af.length : Int) != (ag.length : Int))),(by first|rfl|(simp;done)|(simp [*];done)),H',⟨by first|omega|exact Nat.le_refl _⟩,⟨kM aa.out⟩,⟨kM ae.out⟩,⟨bG HB.out⟩⟩
     ·replace c10 := Bool.eq_false_iff.mpr c10
      subst c10
      rw [if_neg (show ¬ (false = true) by decide)] at H
      have H' := aK H
      clear H
      have bC := ab.out
      have bD := ac.out
      obtain ⟨_,_,_,_,_,_,_,_,_,_⟩ := bk5_ aa.out
      obtain ⟨_,_,_,_,_,_,_,_,_,_⟩ := bk5_ ae.out
      go_wp2_with (first|(go_at_call 21;(with_reducible refine (r05_Same.calls k _ _ ah _ _ ai false _ ?aj ?ak ?al ?am A9.out).mono ?_);(case aj => exact cM (Kd.C_below aB.out HB.out));(case ak => exact aC.out);(case al => exact cM (Kd.C_below aD.out HB.out));(case am => exact aE.out);rintro e w' ⟨rfl,⟨nd,rfl⟩⟩;(try first|exact ⟨rfl,_,World.drewN_drewN _ _ _⟩|exact ⟨rfl,_,Eq.trans (World.drewN_drewN _ _ _) (congrArg (World.drewN _) (Nat.add_assoc _ _ _))⟩)))
      repeat (go_quiet (first|(go_at_call 21;(with_reducible refine (r05_Same.calls k _ _ ah _ _ ai false _ ?aj ?ak ?al ?am A9.out).mono ?_);(case aj => exact cM (Kd.C_below aB.out HB.out));(case ak => exact aC.out);(case al => exact cM (Kd.C_below aD.out HB.out));(case am => exact aE.out);rintro e w' ⟨rfl,⟨nd,rfl⟩⟩;(try first|exact ⟨rfl,_,World.drewN_drewN _ _ _⟩|exact ⟨rfl,_,Eq.trans (World.drewN_drewN _ _ _) (congrArg (World.drewN _) (Nat.add_assoc _ _ _))⟩)));try go_wp2_with (first|(go_at_call 21;(with_reducible refine (r05_Same.calls k _ _ ah _ _ ai false _ ?aj ?ak ?al ?am A9.out).mono ?_);(case aj => exact cM (Kd.C_below aB.out HB.out));(case ak => exact aC.out);(case al => exact cM (Kd.C_below aD.out HB.out));(case am => exact aE.out);rintro e w' ⟨rfl,⟨nd,rfl⟩⟩;(try first|exact ⟨rfl,_,World.drewN_drewN _ _ _⟩|exact ⟨rfl,_,Eq.trans (World.drewN_drewN _ _ _) (congrArg (World.drewN _) (Nat.add_assoc _ _ _))⟩))))
      go_meet
      case rel => exact ⟨_,(true),(by first|rfl|(simp;done)|(simp [*];done)),H',⟨by first|omega|exact Nat.le_refl _⟩,⟨kM aa.out⟩,⟨kM ae.out⟩,⟨bG HB.out⟩⟩
    ·rw [if_neg c8] at H
     have bq := beq_eq_false_iff_ne.mpr c8
     have br := bne_iff_ne.mpr c8
     have H' := aK H
     clear H
     have bE := ab.out
     have bF := ac.out
     obtain ⟨_,_,_,_,_,_,_,_,_,_⟩ := bk5_ aa.out
     obtain ⟨_,_,_,_,_,_,_,_,_,_⟩ := bk5_ ae.out
     go_wp2
     repeat (go_quiet (fail);try go_wp2)
     go_meet
     case rel => exact ⟨_,(true),(by first|rfl|(simp;done)|(simp [*];done)),H',⟨by first|omega|exact Nat.le_refl _⟩,⟨kM aa.out⟩,⟨kM ae.out⟩,⟨bG HB.out⟩⟩
   ·rw [if_neg c7] at H
    have bo := beq_eq_false_iff_ne.mpr c7
    have bp := bne_iff_ne.mpr c7
    have H' := aK H
    clear H
    have bH := ab.out
    have bI := ac.out
    obtain ⟨_,_,_,_,_,_,_,_,_,_⟩ := bk5_ aa.out
    obtain ⟨_,_,_,_,_,_,_,_,_,_⟩ := bk5_ ae.out
    go_wp2
    repeat (go_quiet (fail);try go_wp2)
    go_meet
    case rel => exact ⟨_,(true),(by first|rfl|(simp;done)|(simp [*];done)),H',⟨by first|omega|exact Nat.le_refl _⟩,⟨kM aa.out⟩,⟨kM ae.out⟩,⟨bG HB.out⟩⟩
  ·rw [if_neg c6] at H
   have aX := beq_eq_false_iff_ne.mpr c6
   have bc := bne_iff_ne.mpr c6
   (first|rw [aX]|(simp only [i64_w,i32_w];rw [aX])|rw [bc]|skip)
   have H' := aK H
   clear H
   have bJ := ab.out
   have bK := ac.out
   obtain ⟨_,_,_,_,_,_,_,_,_,_⟩ := bk5_ aa.out
   obtain ⟨_,_,_,_,_,_,_,_,_,_⟩ := bk5_ ae.out
   go_wp2
   repeat (go_quiet (fail);try go_wp2)
   go_meet
   case rel => exact ⟨_,(true),(by first|rfl|(simp;done)|(simp [*];done)),H',⟨by first|omega|exact Nat.le_refl _⟩,⟨kM aa.out⟩,⟨kM ae.out⟩,⟨bG HB.out⟩⟩
 case rest =>
  clear bn
  try clear p2
  obtain ⟨kq,aW,rfl,HA,bL,aa,ae,HB⟩ := hcut
  cases kq with
 |zero => exact absurd HA.out (by simp [r26_SameCommit.j0])
 |succ kj2 =>
   have H := HA.out
   clear HA
   simp only [r26_SameCommit.j0] at H
   by_cases bh : aW = true
   ·subst bh
    rw [if_pos rfl] at H
    obtain rfl := Option.some.inj H
    go_wp2
    repeat (go_quiet (fail);try go_wp2)
    go_ret
    exact ⟨by first|rfl|(simp [errW_none,errW_some] <;> rfl)|(simp [*,errW_none,errW_some] <;> rfl),bG HB.out⟩
   ·replace bh := Bool.eq_false_iff.mpr bh
    subst bh
    rw [if_neg (show ¬ (false = true) by decide)] at H
    have H' := aK H
    clear H
    go_wp2
    repeat (go_quiet (fail);try go_wp2)
    go_loopg [5] kj2 (fun kq v5 w' => ∃ (ad : Int),v5 = .int .i64 ad ∧ Aside0 (r26_SameCommit.l0 kq ad av ah af aw ax ay ai ag az aA = some r) ∧ Aside0 (kq ≤ kj2) ∧ Aside0 (w'.heap[an]? = some (.cells #[.int .i64 av,(.slice aJ ah.length aL),(.slice aM af.length aN),.int .i64 aw,.int .i64 ax] 28 (0,0))) ∧ Aside0 (w'.heap[ao]? = some (.cells #[.int .i64 ay,(.slice aO ai.length aP),(.slice aQ ag.length aR),.int .i64 az,.int .i64 aA] 28 (0,0))) ∧ Aside0 (Below w.heap.size w w'))
    case atStart => exact ⟨(0),(by first|rfl|(simp;done)|(simp [*];done)),H',⟨Nat.le_refl _⟩,⟨kM aa.out⟩,⟨kM ae.out⟩,⟨bG HB.out⟩⟩
    case round =>
     clear H'
     try clear p2
     try clear bh
     try clear p2
     obtain ⟨ad,rfl,HA,bN,aa,ae,HB⟩ := hrel
     cases gk with
    |zero => exact absurd HA.out (by simp [r26_SameCommit.l0])
    |succ k2 =>
      have H := HA.out
      clear HA
      simp only [r26_SameCommit.l0] at H
      by_cases bf : ad < (af.length : Int)
      ·rw [if_pos bf] at H
       have bi := decide_eq_true bf
       clear bf
       obtain ⟨bO,H⟩ := iS H
       have bP := decide_eq_true bO
       clear bO
       obtain ⟨bQ,H⟩ := iS H
       have bR := decide_eq_true bQ
       clear bQ
       by_cases bg : (!((((rd_T53 af ad).f0).toList) == (((rd_T53 ag ad).f0).toList)) || (!(((rd_T53 af ad).f1) == ((rd_T53 ag ad).f1)))) = true
       ·rw [if_pos bg] at H
        have bj : (!((((rd_T53 af ad).f0).toList) == (((rd_T53 ag ad).f0).toList)) || (!(((rd_T53 af ad).f1) == ((rd_T53 ag ad).f1)))) = true := bg
        clear bg
        obtain rfl := Option.some.inj H
        have bS := ab.out
        have bT := ac.out
        obtain ⟨_,_,_,_,_,_,_,_,_,_⟩ := bk5_ aa.out
        have aS : 0 ≤ (ad : Int) := dA
        have aT : ad < (af.length : Int) := dA
        obtain ⟨bk,bd,ap,aq⟩ := at_T53 a6.out ad aS aT
        cases bd
        replace ap := xM HB ap
        replace aq := xM HB aq
        replace aS := eq_true aS
        replace aT := eq_true aT
        obtain ⟨_,_,_,_,_,_,_,_,_,_⟩ := bk5_ ae.out
        have aU : 0 ≤ (ad : Int) := dA
        have aV : ad < (ag.length : Int) := dA
        obtain ⟨bm,be,ar,au⟩ := at_T53 a7.out ad aU aV
        cases be
        replace ar := xM HB ar
        replace au := xM HB au
        replace aU := eq_true aU
        replace aV := eq_true aV
        go_wp2
        repeat (go_quiet (fail);try go_wp2)
        go_ret
        exact ⟨by first|rfl|(simp [errW_none,errW_some] <;> rfl)|(simp [*,errW_none,errW_some] <;> rfl),bG HB.out⟩
       ·rw [if_neg bg] at H
        have bj : (!((((rd_T53 af ad).f0).toList) == (((rd_T53 ag ad).f0).toList)) || (!(((rd_T53 af ad).f1) == ((rd_T53 ag ad).f1)))) = false := by simpa using bg
        clear bg
        have H' := aK H
        clear H
        have bU := ab.out
        have bV := ac.out
        obtain ⟨_,_,_,_,_,_,_,_,_,_⟩ := bk5_ aa.out
        have aS : 0 ≤ (ad : Int) := dA
        have aT : ad < (af.length : Int) := dA
        obtain ⟨bk,bd,ap,aq⟩ := at_T53 a6.out ad aS aT
        cases bd
        replace ap := xM HB ap
        replace aq := xM HB aq
        replace aS := eq_true aS
        replace aT := eq_true aT
        obtain ⟨_,_,_,_,_,_,_,_,_,_⟩ := bk5_ ae.out
        have aU : 0 ≤ (ad : Int) := dA
        have aV : ad < (ag.length : Int) := dA
        obtain ⟨bm,be,ar,au⟩ := at_T53 a7.out ad aU aV
        cases be
        replace ar := xM HB ar
        replace au := xM HB au
        replace aU := eq_true aU
        replace aV := eq_true aV
        go_wp2
        repeat (go_quiet (fail);try go_wp2)
        go_roundg k2
        case measure => have := bL.out;have := bN.out;omega
        case rel => exact ⟨(wrap64 (ad + 1)),(by first|rfl|(simp;done)|(simp [*];done)),H',⟨by have := bL.out;have := bN.out;omega⟩,⟨kM aa.out⟩,⟨kM ae.out⟩,⟨bG HB.out⟩⟩
      ·rw [if_neg bf] at H
       have bi := decide_eq_false bf
       clear bf
       obtain rfl := Option.some.inj H
       have bW := ab.out
       have bX := ac.out
       obtain ⟨_,_,_,_,_,_,_,_,_,_⟩ := bk5_ aa.out
       go_wp2
       repeat (go_quiet (fail);try go_wp2)
       go_ret
       exact ⟨by first|rfl|(simp [errW_none,errW_some] <;> rfl)|(simp [*,errW_none,errW_some] <;> rfl),bG HB.out⟩

/-! ### l26_HistoryChecks: function 3 -/
def l26_HistoryChecks.f (k : Nat) (l0 : List (S28)) (a1 : Int) : Option (Bool) := (l26_alive.f k).bind fun ac => (if ac = true then ((l26_few.f k l0).bind fun ad => (if ad = true then ((history_Get.f k l0 a1).bind fun aa => ((r26_Get.f k l0 a1).bind fun ab => ((history_Right.f k l0).bind fun ae => ((r26_Right.f k l0).bind fun af => (if ae = af then (if (aa.2.2.2.2.2 == ab.2.2.2.2.2) = true then ((r26_SameCommit.f k aa.1 aa.2.1 aa.2.2.1 aa.2.2.2.1 aa.2.2.2.2.1 ab.1 ab.2.1 ab.2.2.1 ab.2.2.2.1 ab.2.2.2.2.1).bind fun ag => (some ag)) else (some false)) else (some false)))))) else (some true))) else (some false))
theorem l26_HistoryChecks.mono : ∀ a0 a1 k, LeO (l26_HistoryChecks.f k a0 a1) (l26_HistoryChecks.f (k + 1) a0 a1) := by
 intro a0 a1 k
 unfold l26_HistoryChecks.f
 repeat' (with_reducible first|exact l26_alive.mono _|exact l26_few.mono _ _|exact r26_Get.mono _ _ _|exact r26_Right.mono _ _|exact r26_SameCommit.mono _ _ _ _ _ _ _ _ _ _ _|exact history_Get.mono _ _ _|exact history_Right.mono _ _|exact LeO.refl _|exact LeO.none _|refine LeO.ite ?_ ?_|refine LeO.bind ?_ (fun _ => ?_))
theorem l26_HistoryChecks.calls (k : Nat) (A0 : Option Addr) (c0 : Nat) (l0 : List (S28)) (a1 : Int) (r : Bool) (w : World) (b5 : Kd.C k28 w A0 l0.length l0) (b6 : l0.length ≤ c0) (h : l26_HistoryChecks.f k l0 a1 = some r) :
  Calls Tryz.prog 3 #[.slice A0 l0.length c0,.int .i64 a1] w fun e w' => e = .returned (.bool r) ∧ Below w.heap.size w w' := by
 have cj := Tryz.underlying28
 have a2 := aK b5
 have a3 := aK b6
 clear b5 b6
 have HB := aK (Below.refl w.heap.size w)
 unfold l26_HistoryChecks.f at h
 have H := h
 clear h
 replace H := Option.bind_eq_some_iff.mp H
 obtain ⟨bL,b7,H⟩ := H
 have A3 := aK b7
 clear b7
 by_cases c4 : bL = true
 ·subst c4
  rw [if_pos rfl] at H
  replace H := Option.bind_eq_some_iff.mp H
  obtain ⟨bN,b8,H⟩ := H
  have A5 := aK b8
  clear b8
  by_cases c6 : bN = true
  ·subst c6
   rw [if_pos rfl] at H
   replace H := Option.bind_eq_some_iff.mp H
   obtain ⟨⟨ai,ah,aj,an,ao,az⟩,b9,H⟩ := H
   replace H : ((r26_Get.f k l0 a1).bind fun aM => ((history_Right.f k l0).bind fun aP => ((r26_Right.f k l0).bind fun aQ => (if aP = aQ then (if (az == aM.2.2.2.2.2) = true then ((r26_SameCommit.f k ai ah aj an ao aM.1 aM.2.1 aM.2.2.1 aM.2.2.2.1 aM.2.2.2.2.1).bind fun a8 => (some a8)) else (some false)) else (some false))))) = some r := H
   have A7 := aK b9
   clear b9
   replace H := Option.bind_eq_some_iff.mp H
   obtain ⟨⟨aq,ar,av,aw,ay,aA⟩,ca,H⟩ := H
   replace H : ((history_Right.f k l0).bind fun aP => ((r26_Right.f k l0).bind fun aQ => (if aP = aQ then (if (az == aA) = true then ((r26_SameCommit.f k ai ah aj an ao aq ar av aw ay).bind fun a8 => (some a8)) else (some false)) else (some false)))) = some r := H
   have A8 := aK ca
   clear ca
   replace H := Option.bind_eq_some_iff.mp H
   obtain ⟨aP,cb,H⟩ := H
   have A9 := aK cb
   clear cb
   replace H := Option.bind_eq_some_iff.mp H
   obtain ⟨aQ,bi,H⟩ := H
   have bO := aK bi
   clear bi
   by_cases bh : aP = aQ
   ·rw [if_pos bh] at H
    have bj := beq_iff_eq.mpr bh
    have bk := bne_eq_false_iff_eq.mpr bh
    clear bh
    by_cases a9 : (az == aA) = true
    ·rw [if_pos a9] at H
     have bm : (az == aA) = true := a9
     (try (have bn : decide (az = aA) = true := by simpa using a9))
     (try (have bo : (az == aA) = true := by simpa using a9))
     clear a9
     replace H := Option.bind_eq_some_iff.mp H
     obtain ⟨a8,bp,H⟩ := H
     have ck := aK bp
     clear bp
     obtain rfl := Option.some.inj H
     go_enter Tryz.func3,Tryz.ntmps3
     go_wp2_with (first|((with_reducible refine gate_callee (f := 10) rfl ?_);refine gL 9 Tryz.func10 #[] ?_;(with_reducible refine (l26_alive.calls k  true _ A3.out).mono ?_);rintro e bE ⟨rfl,hb⟩;refine ⟨_,rfl,?_⟩;replace HB := aK (below_step (bM HB.out) hb);(try clear hb);(try clear hk))|((with_reducible refine gate_callee (f := 11) rfl ?_);refine gL 12 Tryz.func11 #[.slice A0 l0.length c0] ?_;(with_reducible refine (l26_few.calls k _ _ l0 true _ ?ag ?am A5.out).mono ?_);(case ag => exact cM (Kd.C_below a2.out HB.out));(case am => exact a3.out);rintro e w' ⟨rfl,⟨nd,rfl⟩⟩;refine ⟨_,rfl,?_⟩;(try (rw [drewN_self bE];generalize hq_ : World.drewN bE _ = bE;have aR : Aside0 (Below w.heap.size w bE) := ⟨by rw [← hq_];exact (bM HB.out)⟩;clear HB hq_;have HB := aR;clear aR)))|((with_reducible refine gate_callee (f := 12) rfl ?_);refine gL 17 Tryz.func12 #[.slice A0 l0.length c0,.int .i64 a1] ?_;(with_reducible refine (history_Get.calls k (fun k_ => k_ < w.heap.size) _ _ l0 a1 ai ah aj an ao az _ ?ag A7.out).mono ?_);(case ag => exact Kd.V_mk a3.out (Kd.F_below (Kd.C_F k28_heap a2.out) (bM HB.out)));rintro e ct ⟨bq,br,rfl,aS,aT,hb⟩;refine ⟨_,rfl,?_⟩;have ad := aK (Kd.V_lower (Kd.V_mono (ok' := fun k_ => True) aS (fun k_ hk_ => trivial)) (below_size (bM HB.out)));have ae := aK (Kd.V_lower (Kd.V_mono (ok' := fun k_ => True) aT (fun k_ hk_ => trivial)) (below_size (bM HB.out)));replace HB := aK (below_step (bM HB.out) hb);(try clear hb);(try clear hk);(try clear aS);(try clear aT))|((with_reducible refine gate_dst (N := 5) rfl ?_);refine box_event ?hg (N := 5) ?hd (cs := #[.int .i64 0,.slice none 0 0,.slice none 0 0,.int .i64 0,.int .i64 0]) (t := 28) ?hr ?_;(case hd => rfl);(case hg => rfl);(case hr => first|(go_simp;done)|(go_simp;rfl));intro aa hg cl hbox hb;replace ad := aK (Kd.V_below (Kd.V_elderB (vM ad.out) aa (Nat.le_of_eq hg.symm)) hb);replace ae := aK (Kd.V_below (Kd.V_elderB (vM ae.out) aa (Nat.le_of_eq hg.symm)) hb);have ac := aK (hbox);have ax := aK ((by rw [hg];exact (below_size (bM HB.out)) : w.heap.size ≤ aa));have ba := Ge.mk ax.out;have aU := aK ((by rw [hg];exact (below_size (bM HB.out)) : w.heap.size ≤ aa));have bb := Ge.mk aU.out;replace HB := aK (below_step (bM HB.out) hb);clear hb hbox hg;obtain ⟨_,_,_,_,_,_,_,_,_,_⟩ := bk5_ ac.out;obtain ⟨aB,aC,bP⟩ := Kd.V_slice ad.out;subst bP;obtain ⟨aF,aG,bQ⟩ := Kd.V_slice ae.out;subst bQ)|((with_reducible refine gate_store (t := 28) (p := 5) rfl ?_);refine store_event (t := 28) (p := 5) (v := ?bR) (w1 := (((((cl.setCell ⟨aa,0,none⟩ (.int .i64 ai)).setCell ⟨aa,1,none⟩ (.slice aB ah.length aC)).setCell ⟨aa,2,none⟩ (.slice aF aj.length aG)).setCell ⟨aa,3,none⟩ (.int .i64 an)).setCell ⟨aa,4,none⟩ (.int .i64 ao))) ?hg ?ho ?hn ?hr ?_;(case ho => rfl);(case hg => rfl);(case hn => rfl);(case hr => first|(go_simp;done)|(go_simp;rfl));intro bF hw;have aR : Aside0 (Kd.V (Kd.int .i64) 3 bF w.heap.size (fun k_ => k_ ≠ aa) (.slice aB ah.length aC) ah) := ⟨(by rw [hw];exact (by (with_reducible repeat (first|apply Kd.V_alloc|apply Kd.V_drewN|apply Kd.V_drew));exact Kd.V_mono (Kd.V_far (p := ⟨aa,4,none⟩) (Kd.V_far (p := ⟨aa,3,none⟩) (Kd.V_far (p := ⟨aa,2,none⟩) (Kd.V_far (p := ⟨aa,1,none⟩) (Kd.V_far (p := ⟨aa,0,none⟩) (Kd.V_mono ad.out (fun k_ hk => (⟨hk,hk.2⟩ : _ ∧ k_ ≠ aa))) (fun _ hk => hk.2) (.int .i64 ai)) (fun _ hk => hk.2) (.slice aB ah.length aC)) (fun _ hk => hk.2) (.slice aF aj.length aG)) (fun _ hk => hk.2) (.int .i64 an)) (fun _ hk => hk.2) (.int .i64 ao)) (fun _ hk => hk.1.2)))⟩;have bc : Aside0 (Kd.V k53 53 bF w.heap.size (fun k_ => k_ ≠ aa) (.slice aF aj.length aG) aj) := ⟨(by rw [hw];exact (by (with_reducible repeat (first|apply Kd.V_alloc|apply Kd.V_drewN|apply Kd.V_drew));exact Kd.V_mono (Kd.V_far (p := ⟨aa,4,none⟩) (Kd.V_far (p := ⟨aa,3,none⟩) (Kd.V_far (p := ⟨aa,2,none⟩) (Kd.V_far (p := ⟨aa,1,none⟩) (Kd.V_far (p := ⟨aa,0,none⟩) (Kd.V_mono ae.out (fun k_ hk => (⟨hk,hk.2⟩ : _ ∧ k_ ≠ aa))) (fun _ hk => hk.2) (.int .i64 ai)) (fun _ hk => hk.2) (.slice aB ah.length aC)) (fun _ hk => hk.2) (.slice aF aj.length aG)) (fun _ hk => hk.2) (.int .i64 an)) (fun _ hk => hk.2) (.int .i64 ao)) (fun _ hk => hk.1.2)))⟩;have bd : Aside0 (bF.heap[aa]? = some (.cells #[.int .i64 ai,.slice aB ah.length aC,.slice aF aj.length aG,.int .i64 an,.int .i64 ao] 28 (0,0))) := ⟨(by rw [hw];exact (by refine kO ?_;refine blk_put (cs := #[.int .i64 ai,.slice aB ah.length aC,.slice aF aj.length aG,.int .i64 an,.int .i64 0]) ?_ 4 _ rfl;refine kO ?_;refine blk_put (cs := #[.int .i64 ai,.slice aB ah.length aC,.slice aF aj.length aG,.int .i64 0,.int .i64 0]) ?_ 3 _ rfl;refine kO ?_;refine blk_put (cs := #[.int .i64 ai,.slice aB ah.length aC,.slice none 0 0,.int .i64 0,.int .i64 0]) ?_ 2 _ rfl;refine kO ?_;refine blk_put (cs := #[.int .i64 ai,.slice none 0 0,.slice none 0 0,.int .i64 0,.int .i64 0]) ?_ 1 _ rfl;refine kO ?_;refine blk_put (cs := #[.int .i64 0,.slice none 0 0,.slice none 0 0,.int .i64 0,.int .i64 0]) ?_ 0 _ rfl;refine kO ?_;exact ac.out))⟩;have be : Aside0 (Below w.heap.size w bF) := ⟨(by rw [hw];exact (bG HB.out))⟩;clear hw;clear ad;clear ae;clear ac;clear HB;have ad := aR;have ae := bc;have ac := bd;have HB := be;clear aR bc bd be)|((with_reducible refine gate_callee (f := 13) rfl ?_);refine gL 23 Tryz.func13 #[.slice A0 l0.length c0,.int .i64 a1] ?_;(with_reducible refine (r26_Get.calls k (fun k_ => k_ < w.heap.size) _ _ l0 a1 aq ar av aw ay aA _ ?ag A8.out).mono ?_);(case ag => exact Kd.V_mk a3.out (Kd.F_below (Kd.C_F k28_heap a2.out) (bG HB.out)));rintro e cu ⟨bs,bu,rfl,aS,aT,hb⟩;refine ⟨_,rfl,?_⟩;replace ad := aK (Kd.V_below (vM ad.out) hb);replace ae := aK (Kd.V_below (vM ae.out) hb);have ak := aK (Kd.V_lower (Kd.V_mono (ok' := fun k_ => k_ ≠ aa) aS (fun k_ hk_ => Or.elim hk_ (fun hs_ => fun e_ => Nat.not_le.2 hs_ (by rw [e_];exact ax.out)) (fun hn_ => (Kd.freshB (g := aa) (o := .cells #[.int .i64 ai,.slice aB ah.length aC,.slice aF aj.length aG,.int .i64 an,.int .i64 ao] 28 (0,0)) (kM ac.out) k_ hn_)))) (below_size (bG HB.out)));have al := aK (Kd.V_lower (Kd.V_mono (ok' := fun k_ => k_ ≠ aa) aT (fun k_ hk_ => Or.elim hk_ (fun hs_ => fun e_ => Nat.not_le.2 hs_ (by rw [e_];exact ax.out)) (fun hn_ => (Kd.freshB (g := aa) (o := .cells #[.int .i64 ai,.slice aB ah.length aC,.slice aF aj.length aG,.int .i64 an,.int .i64 ao] 28 (0,0)) (kM ac.out) k_ hn_)))) (below_size (bG HB.out)));replace ac := aK (blk_below (kM ac.out) hb);replace HB := aK (below_step (bG HB.out) hb);(try clear hb);(try clear hk);(try clear aS);(try clear aT))|((with_reducible refine gate_dst (N := 7) rfl ?_);refine box_event ?hg (N := 7) ?hd (cs := #[.int .i64 0,.slice none 0 0,.slice none 0 0,.int .i64 0,.int .i64 0]) (t := 28) ?hr ?_;(case hd => rfl);(case hg => rfl);(case hr => first|(go_simp;done)|(go_simp;rfl));intro ab hg cv hbox hb;replace ad := aK (Kd.V_below (Kd.V_elderB (vM ad.out) ab (Nat.le_of_eq hg.symm)) hb);replace ae := aK (Kd.V_below (Kd.V_elderB (vM ae.out) ab (Nat.le_of_eq hg.symm)) hb);replace ak := aK (Kd.V_below (Kd.V_elderB (vM ak.out) ab (Nat.le_of_eq hg.symm)) hb);replace al := aK (Kd.V_below (Kd.V_elderB (vM al.out) ab (Nat.le_of_eq hg.symm)) hb);have ap := aK (hbox);have aV := aK ((by rw [hg];exact (below_size (bG HB.out)) : w.heap.size ≤ ab));have bf := Ge.mk aV.out;have aW := aK ((by rw [hg];exact (below_size (bG HB.out)) : w.heap.size ≤ ab));have bg := Ge.mk aW.out;replace HB := aK (below_step (bG HB.out) hb);have af := aK (nbL ac.out hg);have au := aK (nbR ac.out hg);replace ac := aK (blk_below (kM ac.out) hb);clear hb hbox hg;have cc := au.out;have cd := af.out;obtain ⟨_,_,_,_,_,_,_,_,_,_⟩ := bk5_ ap.out;obtain ⟨aX,aY,bS⟩ := Kd.V_slice ak.out;subst bS;obtain ⟨a4,a5,bT⟩ := Kd.V_slice al.out;subst bT)|((with_reducible refine gate_callee (f := 14) rfl ?_);refine gL 27 Tryz.func14 #[.slice A0 l0.length c0] ?_;(with_reducible refine (history_Right.calls k _ _ l0 aP _ ?ag ?am A9.out).mono ?_);(case ag => exact Kd.C_below a2.out (bG HB.out));(case am => exact a3.out);rintro e cw ⟨rfl,hb⟩;refine ⟨_,rfl,?_⟩;replace ad := aK (Kd.V_below (by (with_reducible repeat (first|apply Kd.V_alloc|apply Kd.V_drewN|apply Kd.V_drew));exact (Kd.V_mono (Kd.V_far (p := ⟨ab,4,none⟩) (Kd.V_far (p := ⟨ab,3,none⟩) (Kd.V_far (p := ⟨ab,2,none⟩) (Kd.V_far (p := ⟨ab,1,none⟩) (Kd.V_far (p := ⟨ab,0,none⟩) (Kd.V_mono ad.out (fun k_ hk => (⟨hk,hk.2⟩ : _ ∧ k_ ≠ ab))) (fun _ hk => hk.2) (.int .i64 aq)) (fun _ hk => hk.2) (.slice aX ar.length aY)) (fun _ hk => hk.2) (.slice a4 av.length a5)) (fun _ hk => hk.2) (.int .i64 aw)) (fun _ hk => hk.2) (.int .i64 ay)) (fun _ h_ => h_.1))) hb);replace ae := aK (Kd.V_below (by (with_reducible repeat (first|apply Kd.V_alloc|apply Kd.V_drewN|apply Kd.V_drew));exact (Kd.V_mono (Kd.V_far (p := ⟨ab,4,none⟩) (Kd.V_far (p := ⟨ab,3,none⟩) (Kd.V_far (p := ⟨ab,2,none⟩) (Kd.V_far (p := ⟨ab,1,none⟩) (Kd.V_far (p := ⟨ab,0,none⟩) (Kd.V_mono ae.out (fun k_ hk => (⟨hk,hk.2⟩ : _ ∧ k_ ≠ ab))) (fun _ hk => hk.2) (.int .i64 aq)) (fun _ hk => hk.2) (.slice aX ar.length aY)) (fun _ hk => hk.2) (.slice a4 av.length a5)) (fun _ hk => hk.2) (.int .i64 aw)) (fun _ hk => hk.2) (.int .i64 ay)) (fun _ h_ => h_.1))) hb);replace ak := aK (Kd.V_below (by (with_reducible repeat (first|apply Kd.V_alloc|apply Kd.V_drewN|apply Kd.V_drew));exact (Kd.V_mono (Kd.V_far (p := ⟨ab,4,none⟩) (Kd.V_far (p := ⟨ab,3,none⟩) (Kd.V_far (p := ⟨ab,2,none⟩) (Kd.V_far (p := ⟨ab,1,none⟩) (Kd.V_far (p := ⟨ab,0,none⟩) (Kd.V_mono ak.out (fun k_ hk => (⟨hk,hk.2⟩ : _ ∧ k_ ≠ ab))) (fun _ hk => hk.2) (.int .i64 aq)) (fun _ hk => hk.2) (.slice aX ar.length aY)) (fun _ hk => hk.2) (.slice a4 av.length a5)) (fun _ hk => hk.2) (.int .i64 aw)) (fun _ hk => hk.2) (.int .i64 ay)) (fun _ h_ => h_.1))) hb);replace al := aK (Kd.V_below (by (with_reducible repeat (first|apply Kd.V_alloc|apply Kd.V_drewN|apply Kd.V_drew));exact (Kd.V_mono (Kd.V_far (p := ⟨ab,4,none⟩) (Kd.V_far (p := ⟨ab,3,none⟩) (Kd.V_far (p := ⟨ab,2,none⟩) (Kd.V_far (p := ⟨ab,1,none⟩) (Kd.V_far (p := ⟨ab,0,none⟩) (Kd.V_mono al.out (fun k_ hk => (⟨hk,hk.2⟩ : _ ∧ k_ ≠ ab))) (fun _ hk => hk.2) (.int .i64 aq)) (fun _ hk => hk.2) (.slice aX ar.length aY)) (fun _ hk => hk.2) (.slice a4 av.length a5)) (fun _ hk => hk.2) (.int .i64 aw)) (fun _ hk => hk.2) (.int .i64 ay)) (fun _ h_ => h_.1))) hb);replace ac := aK (blk_below (g := aa) (o := .cells #[.int .i64 ai,.slice aB ah.length aC,.slice aF aj.length aG,.int .i64 an,.int .i64 ao] 28 (0,0)) (by refine kO ?_;refine blk_far ?_ af.out _;refine kO ?_;refine blk_far ?_ af.out _;refine kO ?_;refine blk_far ?_ af.out _;refine kO ?_;refine blk_far ?_ af.out _;refine kO ?_;refine blk_far ?_ af.out _;refine kO ?_;exact ac.out) hb);replace ap := aK (blk_below (g := ab) (o := .cells #[.int .i64 aq,.slice aX ar.length aY,.slice a4 av.length a5,.int .i64 aw,.int .i64 ay] 28 (0,0)) (by refine kO ?_;refine blk_put (cs := #[.int .i64 aq,.slice aX ar.length aY,.slice a4 av.length a5,.int .i64 aw,.int .i64 0]) ?_ 4 _ rfl;refine kO ?_;refine blk_put (cs := #[.int .i64 aq,.slice aX ar.length aY,.slice a4 av.length a5,.int .i64 0,.int .i64 0]) ?_ 3 _ rfl;refine kO ?_;refine blk_put (cs := #[.int .i64 aq,.slice aX ar.length aY,.slice none 0 0,.int .i64 0,.int .i64 0]) ?_ 2 _ rfl;refine kO ?_;refine blk_put (cs := #[.int .i64 aq,.slice none 0 0,.slice none 0 0,.int .i64 0,.int .i64 0]) ?_ 1 _ rfl;refine kO ?_;refine blk_put (cs := #[.int .i64 0,.slice none 0 0,.slice none 0 0,.int .i64 0,.int .i64 0]) ?_ 0 _ rfl;refine kO ?_;exact ap.out) hb);replace HB := aK (below_step (bG HB.out) hb);(try clear hb);(try clear hk))|((with_reducible refine gate_callee (f := 15) rfl ?_);refine gL 29 Tryz.func15 #[.slice A0 l0.length c0] ?_;(with_reducible refine (r26_Right.calls k _ _ l0 aQ _ ?ag ?am bO.out).mono ?_);(case ag => exact cM (Kd.C_below a2.out HB.out));(case am => exact a3.out);rintro e cx ⟨rfl,hb⟩;refine ⟨_,rfl,?_⟩;replace ad := aK (Kd.V_below (vM ad.out) hb);replace ae := aK (Kd.V_below (vM ae.out) hb);replace ak := aK (Kd.V_below (vM ak.out) hb);replace al := aK (Kd.V_below (vM al.out) hb);replace ac := aK (blk_below (kM ac.out) hb);replace ap := aK (blk_below (kM ap.out) hb);replace HB := aK (below_step (bG HB.out) hb);(try clear hb);(try clear hk);obtain ⟨_,_,_,_,_,_,_,_,_,_⟩ := bk5_ ac.out;obtain ⟨_,_,_,_,_,_,_,_,_,_⟩ := bk5_ ap.out)|(go_at_call 16;(with_reducible refine (r26_SameCommit.calls k ai _ _ ah _ _ aj an ao aq _ _ ar _ _ av aw ay a8 _ ?ag ?am ?bv ?bx ?bz ?bB ?bC ?bD ck.out).mono ?_);(case ag => exact cM (Kd.V_reads' ad.out).2.2);(case am => exact (Kd.V_reads' ad.out).2.1);(case bv => exact cM (Kd.V_reads' ae.out).2.2);(case bx => exact (Kd.V_reads' ae.out).2.1);(case bz => exact cM (Kd.V_reads' ak.out).2.2);(case bB => exact (Kd.V_reads' ak.out).2.1);(case bC => exact cM (Kd.V_reads' al.out).2.2);(case bD => exact (Kd.V_reads' al.out).2.1);rintro e cy ⟨rfl,hb⟩;replace ad := aK (Kd.V_below (vM ad.out) hb);replace ae := aK (Kd.V_below (vM ae.out) hb);replace ak := aK (Kd.V_below (vM ak.out) hb);replace al := aK (Kd.V_below (vM al.out) hb);replace ac := aK (blk_below (kM ac.out) hb);replace ap := aK (blk_below (kM ap.out) hb);replace HB := aK (below_step (bG HB.out) hb);(try clear hb);(try clear hk)))
     go_ret
     exact ⟨by first|rfl|(simp [errW_none,errW_some] <;> rfl)|(simp [*,errW_none,errW_some] <;> rfl),bG HB.out⟩
    ·rw [if_neg a9] at H
     have bm : (az == aA) = false := by simpa using a9
     (try (have bn : decide (az = aA) = false := by simpa using a9))
     (try (have bo : (az == aA) = false := by simpa using a9))
     (try (have ce : ¬ (az = aA) := by simpa using a9))
     clear a9
     obtain rfl := Option.some.inj H
     go_enter Tryz.func3,Tryz.ntmps3
     go_wp2_with (first|((with_reducible refine gate_callee (f := 10) rfl ?_);refine gL 9 Tryz.func10 #[] ?_;(with_reducible refine (l26_alive.calls k  true _ A3.out).mono ?_);rintro e bH ⟨rfl,hb⟩;refine ⟨_,rfl,?_⟩;replace HB := aK (below_step (bM HB.out) hb);(try clear hb);(try clear hk))|((with_reducible refine gate_callee (f := 11) rfl ?_);refine gL 12 Tryz.func11 #[.slice A0 l0.length c0] ?_;(with_reducible refine (l26_few.calls k _ _ l0 true _ ?ag ?am A5.out).mono ?_);(case ag => exact cM (Kd.C_below a2.out HB.out));(case am => exact a3.out);rintro e w' ⟨rfl,⟨nd,rfl⟩⟩;refine ⟨_,rfl,?_⟩;(try (rw [drewN_self bH];generalize hq_ : World.drewN bH _ = bH;have aR : Aside0 (Below w.heap.size w bH) := ⟨by rw [← hq_];exact (bM HB.out)⟩;clear HB hq_;have HB := aR;clear aR)))|((with_reducible refine gate_callee (f := 12) rfl ?_);refine gL 17 Tryz.func12 #[.slice A0 l0.length c0,.int .i64 a1] ?_;(with_reducible refine (history_Get.calls k (fun k_ => k_ < w.heap.size) _ _ l0 a1 ai ah aj an ao az _ ?ag A7.out).mono ?_);(case ag => exact Kd.V_mk a3.out (Kd.F_below (Kd.C_F k28_heap a2.out) (bM HB.out)));rintro e cz ⟨bq,br,rfl,aS,aT,hb⟩;refine ⟨_,rfl,?_⟩;have ad := aK (Kd.V_lower (Kd.V_mono (ok' := fun k_ => True) aS (fun k_ hk_ => trivial)) (below_size (bM HB.out)));have ae := aK (Kd.V_lower (Kd.V_mono (ok' := fun k_ => True) aT (fun k_ hk_ => trivial)) (below_size (bM HB.out)));replace HB := aK (below_step (bM HB.out) hb);(try clear hb);(try clear hk);(try clear aS);(try clear aT))|((with_reducible refine gate_dst (N := 5) rfl ?_);refine box_event ?hg (N := 5) ?hd (cs := #[.int .i64 0,.slice none 0 0,.slice none 0 0,.int .i64 0,.int .i64 0]) (t := 28) ?hr ?_;(case hd => rfl);(case hg => rfl);(case hr => first|(go_simp;done)|(go_simp;rfl));intro aa hg cm hbox hb;replace ad := aK (Kd.V_below (Kd.V_elderB (vM ad.out) aa (Nat.le_of_eq hg.symm)) hb);replace ae := aK (Kd.V_below (Kd.V_elderB (vM ae.out) aa (Nat.le_of_eq hg.symm)) hb);have ac := aK (hbox);have ax := aK ((by rw [hg];exact (below_size (bM HB.out)) : w.heap.size ≤ aa));have ba := Ge.mk ax.out;have aU := aK ((by rw [hg];exact (below_size (bM HB.out)) : w.heap.size ≤ aa));have bb := Ge.mk aU.out;replace HB := aK (below_step (bM HB.out) hb);clear hb hbox hg;obtain ⟨_,_,_,_,_,_,_,_,_,_⟩ := bk5_ ac.out;obtain ⟨aD,aE,bU⟩ := Kd.V_slice ad.out;subst bU;obtain ⟨aH,aI,bV⟩ := Kd.V_slice ae.out;subst bV)|((with_reducible refine gate_store (t := 28) (p := 5) rfl ?_);refine store_event (t := 28) (p := 5) (v := ?bW) (w1 := (((((cm.setCell ⟨aa,0,none⟩ (.int .i64 ai)).setCell ⟨aa,1,none⟩ (.slice aD ah.length aE)).setCell ⟨aa,2,none⟩ (.slice aH aj.length aI)).setCell ⟨aa,3,none⟩ (.int .i64 an)).setCell ⟨aa,4,none⟩ (.int .i64 ao))) ?hg ?ho ?hn ?hr ?_;(case ho => rfl);(case hg => rfl);(case hn => rfl);(case hr => first|(go_simp;done)|(go_simp;rfl));intro bI hw;have aR : Aside0 (Kd.V (Kd.int .i64) 3 bI w.heap.size (fun k_ => k_ ≠ aa) (.slice aD ah.length aE) ah) := ⟨(by rw [hw];exact (by (with_reducible repeat (first|apply Kd.V_alloc|apply Kd.V_drewN|apply Kd.V_drew));exact Kd.V_mono (Kd.V_far (p := ⟨aa,4,none⟩) (Kd.V_far (p := ⟨aa,3,none⟩) (Kd.V_far (p := ⟨aa,2,none⟩) (Kd.V_far (p := ⟨aa,1,none⟩) (Kd.V_far (p := ⟨aa,0,none⟩) (Kd.V_mono ad.out (fun k_ hk => (⟨hk,hk.2⟩ : _ ∧ k_ ≠ aa))) (fun _ hk => hk.2) (.int .i64 ai)) (fun _ hk => hk.2) (.slice aD ah.length aE)) (fun _ hk => hk.2) (.slice aH aj.length aI)) (fun _ hk => hk.2) (.int .i64 an)) (fun _ hk => hk.2) (.int .i64 ao)) (fun _ hk => hk.1.2)))⟩;have bc : Aside0 (Kd.V k53 53 bI w.heap.size (fun k_ => k_ ≠ aa) (.slice aH aj.length aI) aj) := ⟨(by rw [hw];exact (by (with_reducible repeat (first|apply Kd.V_alloc|apply Kd.V_drewN|apply Kd.V_drew));exact Kd.V_mono (Kd.V_far (p := ⟨aa,4,none⟩) (Kd.V_far (p := ⟨aa,3,none⟩) (Kd.V_far (p := ⟨aa,2,none⟩) (Kd.V_far (p := ⟨aa,1,none⟩) (Kd.V_far (p := ⟨aa,0,none⟩) (Kd.V_mono ae.out (fun k_ hk => (⟨hk,hk.2⟩ : _ ∧ k_ ≠ aa))) (fun _ hk => hk.2) (.int .i64 ai)) (fun _ hk => hk.2) (.slice aD ah.length aE)) (fun _ hk => hk.2) (.slice aH aj.length aI)) (fun _ hk => hk.2) (.int .i64 an)) (fun _ hk => hk.2) (.int .i64 ao)) (fun _ hk => hk.1.2)))⟩;have bd : Aside0 (bI.heap[aa]? = some (.cells #[.int .i64 ai,.slice aD ah.length aE,.slice aH aj.length aI,.int .i64 an,.int .i64 ao] 28 (0,0))) := ⟨(by rw [hw];exact (by refine kO ?_;refine blk_put (cs := #[.int .i64 ai,.slice aD ah.length aE,.slice aH aj.length aI,.int .i64 an,.int .i64 0]) ?_ 4 _ rfl;refine kO ?_;refine blk_put (cs := #[.int .i64 ai,.slice aD ah.length aE,.slice aH aj.length aI,.int .i64 0,.int .i64 0]) ?_ 3 _ rfl;refine kO ?_;refine blk_put (cs := #[.int .i64 ai,.slice aD ah.length aE,.slice none 0 0,.int .i64 0,.int .i64 0]) ?_ 2 _ rfl;refine kO ?_;refine blk_put (cs := #[.int .i64 ai,.slice none 0 0,.slice none 0 0,.int .i64 0,.int .i64 0]) ?_ 1 _ rfl;refine kO ?_;refine blk_put (cs := #[.int .i64 0,.slice none 0 0,.slice none 0 0,.int .i64 0,.int .i64 0]) ?_ 0 _ rfl;refine kO ?_;exact ac.out))⟩;have be : Aside0 (Below w.heap.size w bI) := ⟨(by rw [hw];exact (bG HB.out))⟩;clear hw;clear ad;clear ae;clear ac;clear HB;have ad := aR;have ae := bc;have ac := bd;have HB := be;clear aR bc bd be)|((with_reducible refine gate_callee (f := 13) rfl ?_);refine gL 23 Tryz.func13 #[.slice A0 l0.length c0,.int .i64 a1] ?_;(with_reducible refine (r26_Get.calls k (fun k_ => k_ < w.heap.size) _ _ l0 a1 aq ar av aw ay aA _ ?ag A8.out).mono ?_);(case ag => exact Kd.V_mk a3.out (Kd.F_below (Kd.C_F k28_heap a2.out) (bG HB.out)));rintro e cA ⟨bs,bu,rfl,aS,aT,hb⟩;refine ⟨_,rfl,?_⟩;replace ad := aK (Kd.V_below (vM ad.out) hb);replace ae := aK (Kd.V_below (vM ae.out) hb);have ak := aK (Kd.V_lower (Kd.V_mono (ok' := fun k_ => k_ ≠ aa) aS (fun k_ hk_ => Or.elim hk_ (fun hs_ => fun e_ => Nat.not_le.2 hs_ (by rw [e_];exact ax.out)) (fun hn_ => (Kd.freshB (g := aa) (o := .cells #[.int .i64 ai,.slice aD ah.length aE,.slice aH aj.length aI,.int .i64 an,.int .i64 ao] 28 (0,0)) (kM ac.out) k_ hn_)))) (below_size (bG HB.out)));have al := aK (Kd.V_lower (Kd.V_mono (ok' := fun k_ => k_ ≠ aa) aT (fun k_ hk_ => Or.elim hk_ (fun hs_ => fun e_ => Nat.not_le.2 hs_ (by rw [e_];exact ax.out)) (fun hn_ => (Kd.freshB (g := aa) (o := .cells #[.int .i64 ai,.slice aD ah.length aE,.slice aH aj.length aI,.int .i64 an,.int .i64 ao] 28 (0,0)) (kM ac.out) k_ hn_)))) (below_size (bG HB.out)));replace ac := aK (blk_below (kM ac.out) hb);replace HB := aK (below_step (bG HB.out) hb);(try clear hb);(try clear hk);(try clear aS);(try clear aT))|((with_reducible refine gate_dst (N := 7) rfl ?_);refine box_event ?hg (N := 7) ?hd (cs := #[.int .i64 0,.slice none 0 0,.slice none 0 0,.int .i64 0,.int .i64 0]) (t := 28) ?hr ?_;(case hd => rfl);(case hg => rfl);(case hr => first|(go_simp;done)|(go_simp;rfl));intro ab hg cB hbox hb;replace ad := aK (Kd.V_below (Kd.V_elderB (vM ad.out) ab (Nat.le_of_eq hg.symm)) hb);replace ae := aK (Kd.V_below (Kd.V_elderB (vM ae.out) ab (Nat.le_of_eq hg.symm)) hb);replace ak := aK (Kd.V_below (Kd.V_elderB (vM ak.out) ab (Nat.le_of_eq hg.symm)) hb);replace al := aK (Kd.V_below (Kd.V_elderB (vM al.out) ab (Nat.le_of_eq hg.symm)) hb);have ap := aK (hbox);have aV := aK ((by rw [hg];exact (below_size (bG HB.out)) : w.heap.size ≤ ab));have bf := Ge.mk aV.out;have aW := aK ((by rw [hg];exact (below_size (bG HB.out)) : w.heap.size ≤ ab));have bg := Ge.mk aW.out;replace HB := aK (below_step (bG HB.out) hb);have af := aK (nbL ac.out hg);have au := aK (nbR ac.out hg);replace ac := aK (blk_below (kM ac.out) hb);clear hb hbox hg;have cf := au.out;have cg := af.out;obtain ⟨_,_,_,_,_,_,_,_,_,_⟩ := bk5_ ap.out;obtain ⟨aZ,a0,bX⟩ := Kd.V_slice ak.out;subst bX;obtain ⟨a6,a7,bY⟩ := Kd.V_slice al.out;subst bY)|((with_reducible refine gate_callee (f := 14) rfl ?_);refine gL 27 Tryz.func14 #[.slice A0 l0.length c0] ?_;(with_reducible refine (history_Right.calls k _ _ l0 aP _ ?ag ?am A9.out).mono ?_);(case ag => exact Kd.C_below a2.out (bG HB.out));(case am => exact a3.out);rintro e cC ⟨rfl,hb⟩;refine ⟨_,rfl,?_⟩;replace ad := aK (Kd.V_below (by (with_reducible repeat (first|apply Kd.V_alloc|apply Kd.V_drewN|apply Kd.V_drew));exact (Kd.V_mono (Kd.V_far (p := ⟨ab,4,none⟩) (Kd.V_far (p := ⟨ab,3,none⟩) (Kd.V_far (p := ⟨ab,2,none⟩) (Kd.V_far (p := ⟨ab,1,none⟩) (Kd.V_far (p := ⟨ab,0,none⟩) (Kd.V_mono ad.out (fun k_ hk => (⟨hk,hk.2⟩ : _ ∧ k_ ≠ ab))) (fun _ hk => hk.2) (.int .i64 aq)) (fun _ hk => hk.2) (.slice aZ ar.length a0)) (fun _ hk => hk.2) (.slice a6 av.length a7)) (fun _ hk => hk.2) (.int .i64 aw)) (fun _ hk => hk.2) (.int .i64 ay)) (fun _ h_ => h_.1))) hb);replace ae := aK (Kd.V_below (by (with_reducible repeat (first|apply Kd.V_alloc|apply Kd.V_drewN|apply Kd.V_drew));exact (Kd.V_mono (Kd.V_far (p := ⟨ab,4,none⟩) (Kd.V_far (p := ⟨ab,3,none⟩) (Kd.V_far (p := ⟨ab,2,none⟩) (Kd.V_far (p := ⟨ab,1,none⟩) (Kd.V_far (p := ⟨ab,0,none⟩) (Kd.V_mono ae.out (fun k_ hk => (⟨hk,hk.2⟩ : _ ∧ k_ ≠ ab))) (fun _ hk => hk.2) (.int .i64 aq)) (fun _ hk => hk.2) (.slice aZ ar.length a0)) (fun _ hk => hk.2) (.slice a6 av.length a7)) (fun _ hk => hk.2) (.int .i64 aw)) (fun _ hk => hk.2) (.int .i64 ay)) (fun _ h_ => h_.1))) hb);replace ak := aK (Kd.V_below (by (with_reducible repeat (first|apply Kd.V_alloc|apply Kd.V_drewN|apply Kd.V_drew));exact (Kd.V_mono (Kd.V_far (p := ⟨ab,4,none⟩) (Kd.V_far (p := ⟨ab,3,none⟩) (Kd.V_far (p := ⟨ab,2,none⟩) (Kd.V_far (p := ⟨ab,1,none⟩) (Kd.V_far (p := ⟨ab,0,none⟩) (Kd.V_mono ak.out (fun k_ hk => (⟨hk,hk.2⟩ : _ ∧ k_ ≠ ab))) (fun _ hk => hk.2) (.int .i64 aq)) (fun _ hk => hk.2) (.slice aZ ar.length a0)) (fun _ hk => hk.2) (.slice a6 av.length a7)) (fun _ hk => hk.2) (.int .i64 aw)) (fun _ hk => hk.2) (.int .i64 ay)) (fun _ h_ => h_.1))) hb);replace al := aK (Kd.V_below (by (with_reducible repeat (first|apply Kd.V_alloc|apply Kd.V_drewN|apply Kd.V_drew));exact (Kd.V_mono (Kd.V_far (p := ⟨ab,4,none⟩) (Kd.V_far (p := ⟨ab,3,none⟩) (Kd.V_far (p := ⟨ab,2,none⟩) (Kd.V_far (p := ⟨ab,1,none⟩) (Kd.V_far (p := ⟨ab,0,none⟩) (Kd.V_mono al.out (fun k_ hk => (⟨hk,hk.2⟩ : _ ∧ k_ ≠ ab))) (fun _ hk => hk.2) (.int .i64 aq)) (fun _ hk => hk.2) (.slice aZ ar.length a0)) (fun _ hk => hk.2) (.slice a6 av.length a7)) (fun _ hk => hk.2) (.int .i64 aw)) (fun _ hk => hk.2) (.int .i64 ay)) (fun _ h_ => h_.1))) hb);replace ac := aK (blk_below (g := aa) (o := .cells #[.int .i64 ai,.slice aD ah.length aE,.slice aH aj.length aI,.int .i64 an,.int .i64 ao] 28 (0,0)) (by refine kO ?_;refine blk_far ?_ af.out _;refine kO ?_;refine blk_far ?_ af.out _;refine kO ?_;refine blk_far ?_ af.out _;refine kO ?_;refine blk_far ?_ af.out _;refine kO ?_;refine blk_far ?_ af.out _;refine kO ?_;exact ac.out) hb);replace ap := aK (blk_below (g := ab) (o := .cells #[.int .i64 aq,.slice aZ ar.length a0,.slice a6 av.length a7,.int .i64 aw,.int .i64 ay] 28 (0,0)) (by refine kO ?_;refine blk_put (cs := #[.int .i64 aq,.slice aZ ar.length a0,.slice a6 av.length a7,.int .i64 aw,.int .i64 0]) ?_ 4 _ rfl;refine kO ?_;refine blk_put (cs := #[.int .i64 aq,.slice aZ ar.length a0,.slice a6 av.length a7,.int .i64 0,.int .i64 0]) ?_ 3 _ rfl;refine kO ?_;refine blk_put (cs := #[.int .i64 aq,.slice aZ ar.length a0,.slice none 0 0,.int .i64 0,.int .i64 0]) ?_ 2 _ rfl;refine kO ?_;refine blk_put (cs := #[.int .i64 aq,.slice none 0 0,.slice none 0 0,.int .i64 0,.int .i64 0]) ?_ 1 _ rfl;refine kO ?_;refine blk_put (cs := #[.int .i64 0,.slice none 0 0,.slice none 0 0,.int .i64 0,.int .i64 0]) ?_ 0 _ rfl;refine kO ?_;exact ap.out) hb);replace HB := aK (below_step (bG HB.out) hb);(try clear hb);(try clear hk))|((with_reducible refine gate_callee (f := 15) rfl ?_);refine gL 29 Tryz.func15 #[.slice A0 l0.length c0] ?_;(with_reducible refine (r26_Right.calls k _ _ l0 aQ _ ?ag ?am bO.out).mono ?_);(case ag => exact cM (Kd.C_below a2.out HB.out));(case am => exact a3.out);rintro e cD ⟨rfl,hb⟩;refine ⟨_,rfl,?_⟩;replace ad := aK (Kd.V_below (vM ad.out) hb);replace ae := aK (Kd.V_below (vM ae.out) hb);replace ak := aK (Kd.V_below (vM ak.out) hb);replace al := aK (Kd.V_below (vM al.out) hb);replace ac := aK (blk_below (kM ac.out) hb);replace ap := aK (blk_below (kM ap.out) hb);replace HB := aK (below_step (bG HB.out) hb);(try clear hb);(try clear hk)))
     go_ret
     exact ⟨by first|rfl|(simp [errW_none,errW_some] <;> rfl)|(simp [*,errW_none,errW_some] <;> rfl),bG HB.out⟩
   ·rw [if_neg bh] at H
    have bj := beq_eq_false_iff_ne.mpr bh
    have bk := bne_iff_ne.mpr bh
    obtain rfl := Option.some.inj H
    go_enter Tryz.func3,Tryz.ntmps3
    go_wp2_with (first|((with_reducible refine gate_callee (f := 10) rfl ?_);refine gL 9 Tryz.func10 #[] ?_;(with_reducible refine (l26_alive.calls k  true _ A3.out).mono ?_);rintro e bJ ⟨rfl,hb⟩;refine ⟨_,rfl,?_⟩;replace HB := aK (below_step (bM HB.out) hb);(try clear hb);(try clear hk))|((with_reducible refine gate_callee (f := 11) rfl ?_);refine gL 12 Tryz.func11 #[.slice A0 l0.length c0] ?_;(with_reducible refine (l26_few.calls k _ _ l0 true _ ?ag ?am A5.out).mono ?_);(case ag => exact cM (Kd.C_below a2.out HB.out));(case am => exact a3.out);rintro e w' ⟨rfl,⟨nd,rfl⟩⟩;refine ⟨_,rfl,?_⟩;(try (rw [drewN_self bJ];generalize hq_ : World.drewN bJ _ = bJ;have aR : Aside0 (Below w.heap.size w bJ) := ⟨by rw [← hq_];exact (bM HB.out)⟩;clear HB hq_;have HB := aR;clear aR)))|((with_reducible refine gate_callee (f := 12) rfl ?_);refine gL 17 Tryz.func12 #[.slice A0 l0.length c0,.int .i64 a1] ?_;(with_reducible refine (history_Get.calls k (fun k_ => k_ < w.heap.size) _ _ l0 a1 ai ah aj an ao az _ ?ag A7.out).mono ?_);(case ag => exact Kd.V_mk a3.out (Kd.F_below (Kd.C_F k28_heap a2.out) (bM HB.out)));rintro e cE ⟨bq,br,rfl,aS,aT,hb⟩;refine ⟨_,rfl,?_⟩;have ad := aK (Kd.V_lower (Kd.V_mono (ok' := fun k_ => True) aS (fun k_ hk_ => trivial)) (below_size (bM HB.out)));have ae := aK (Kd.V_lower (Kd.V_mono (ok' := fun k_ => True) aT (fun k_ hk_ => trivial)) (below_size (bM HB.out)));replace HB := aK (below_step (bM HB.out) hb);(try clear hb);(try clear hk);(try clear aS);(try clear aT))|((with_reducible refine gate_dst (N := 5) rfl ?_);refine box_event ?hg (N := 5) ?hd (cs := #[.int .i64 0,.slice none 0 0,.slice none 0 0,.int .i64 0,.int .i64 0]) (t := 28) ?hr ?_;(case hd => rfl);(case hg => rfl);(case hr => first|(go_simp;done)|(go_simp;rfl));intro aa hg cn hbox hb;replace ad := aK (Kd.V_below (Kd.V_elderB (vM ad.out) aa (Nat.le_of_eq hg.symm)) hb);replace ae := aK (Kd.V_below (Kd.V_elderB (vM ae.out) aa (Nat.le_of_eq hg.symm)) hb);have ac := aK (hbox);have ax := aK ((by rw [hg];exact (below_size (bM HB.out)) : w.heap.size ≤ aa));have ba := Ge.mk ax.out;have aU := aK ((by rw [hg];exact (below_size (bM HB.out)) : w.heap.size ≤ aa));have bb := Ge.mk aU.out;replace HB := aK (below_step (bM HB.out) hb);clear hb hbox hg;obtain ⟨_,_,_,_,_,_,_,_,_,_⟩ := bk5_ ac.out;obtain ⟨aJ,aL,bZ⟩ := Kd.V_slice ad.out;subst bZ;obtain ⟨aN,aO,b1⟩ := Kd.V_slice ae.out;subst b1)|((with_reducible refine gate_store (t := 28) (p := 5) rfl ?_);refine store_event (t := 28) (p := 5) (v := ?b2) (w1 := (((((cn.setCell ⟨aa,0,none⟩ (.int .i64 ai)).setCell ⟨aa,1,none⟩ (.slice aJ ah.length aL)).setCell ⟨aa,2,none⟩ (.slice aN aj.length aO)).setCell ⟨aa,3,none⟩ (.int .i64 an)).setCell ⟨aa,4,none⟩ (.int .i64 ao))) ?hg ?ho ?hn ?hr ?_;(case ho => rfl);(case hg => rfl);(case hn => rfl);(case hr => first|(go_simp;done)|(go_simp;rfl));intro bK hw;have aR : Aside0 (Kd.V (Kd.int .i64) 3 bK w.heap.size (fun k_ => k_ ≠ aa) (.slice aJ ah.length aL) ah) := ⟨(by rw [hw];exact (by (with_reducible repeat (first|apply Kd.V_alloc|apply Kd.V_drewN|apply Kd.V_drew));exact Kd.V_mono (Kd.V_far (p := ⟨aa,4,none⟩) (Kd.V_far (p := ⟨aa,3,none⟩) (Kd.V_far (p := ⟨aa,2,none⟩) (Kd.V_far (p := ⟨aa,1,none⟩) (Kd.V_far (p := ⟨aa,0,none⟩) (Kd.V_mono ad.out (fun k_ hk => (⟨hk,hk.2⟩ : _ ∧ k_ ≠ aa))) (fun _ hk => hk.2) (.int .i64 ai)) (fun _ hk => hk.2) (.slice aJ ah.length aL)) (fun _ hk => hk.2) (.slice aN aj.length aO)) (fun _ hk => hk.2) (.int .i64 an)) (fun _ hk => hk.2) (.int .i64 ao)) (fun _ hk => hk.1.2)))⟩;have bc : Aside0 (Kd.V k53 53 bK w.heap.size (fun k_ => k_ ≠ aa) (.slice aN aj.length aO) aj) := ⟨(by rw [hw];exact (by (with_reducible repeat (first|apply Kd.V_alloc|apply Kd.V_drewN|apply Kd.V_drew));exact Kd.V_mono (Kd.V_far (p := ⟨aa,4,none⟩) (Kd.V_far (p := ⟨aa,3,none⟩) (Kd.V_far (p := ⟨aa,2,none⟩) (Kd.V_far (p := ⟨aa,1,none⟩) (Kd.V_far (p := ⟨aa,0,none⟩) (Kd.V_mono ae.out (fun k_ hk => (⟨hk,hk.2⟩ : _ ∧ k_ ≠ aa))) (fun _ hk => hk.2) (.int .i64 ai)) (fun _ hk => hk.2) (.slice aJ ah.length aL)) (fun _ hk => hk.2) (.slice aN aj.length aO)) (fun _ hk => hk.2) (.int .i64 an)) (fun _ hk => hk.2) (.int .i64 ao)) (fun _ hk => hk.1.2)))⟩;have bd : Aside0 (bK.heap[aa]? = some (.cells #[.int .i64 ai,.slice aJ ah.length aL,.slice aN aj.length aO,.int .i64 an,.int .i64 ao] 28 (0,0))) := ⟨(by rw [hw];exact (by refine kO ?_;refine blk_put (cs := #[.int .i64 ai,.slice aJ ah.length aL,.slice aN aj.length aO,.int .i64 an,.int .i64 0]) ?_ 4 _ rfl;refine kO ?_;refine blk_put (cs := #[.int .i64 ai,.slice aJ ah.length aL,.slice aN aj.length aO,.int .i64 0,.int .i64 0]) ?_ 3 _ rfl;refine kO ?_;refine blk_put (cs := #[.int .i64 ai,.slice aJ ah.length aL,.slice none 0 0,.int .i64 0,.int .i64 0]) ?_ 2 _ rfl;refine kO ?_;refine blk_put (cs := #[.int .i64 ai,.slice none 0 0,.slice none 0 0,.int .i64 0,.int .i64 0]) ?_ 1 _ rfl;refine kO ?_;refine blk_put (cs := #[.int .i64 0,.slice none 0 0,.slice none 0 0,.int .i64 0,.int .i64 0]) ?_ 0 _ rfl;refine kO ?_;exact ac.out))⟩;have be : Aside0 (Below w.heap.size w bK) := ⟨(by rw [hw];exact (bG HB.out))⟩;clear hw;clear ad;clear ae;clear ac;clear HB;have ad := aR;have ae := bc;have ac := bd;have HB := be;clear aR bc bd be)|((with_reducible refine gate_callee (f := 13) rfl ?_);refine gL 23 Tryz.func13 #[.slice A0 l0.length c0,.int .i64 a1] ?_;(with_reducible refine (r26_Get.calls k (fun k_ => k_ < w.heap.size) _ _ l0 a1 aq ar av aw ay aA _ ?ag A8.out).mono ?_);(case ag => exact Kd.V_mk a3.out (Kd.F_below (Kd.C_F k28_heap a2.out) (bG HB.out)));rintro e cF ⟨bs,bu,rfl,aS,aT,hb⟩;refine ⟨_,rfl,?_⟩;have ak := aK (Kd.V_lower (Kd.V_mono (ok' := fun k_ => k_ ≠ aa) aS (fun k_ hk_ => Or.elim hk_ (fun hs_ => fun e_ => Nat.not_le.2 hs_ (by rw [e_];exact ax.out)) (fun hn_ => (Kd.freshB (g := aa) (o := .cells #[.int .i64 ai,.slice aJ ah.length aL,.slice aN aj.length aO,.int .i64 an,.int .i64 ao] 28 (0,0)) (kM ac.out) k_ hn_)))) (below_size (bG HB.out)));have al := aK (Kd.V_lower (Kd.V_mono (ok' := fun k_ => k_ ≠ aa) aT (fun k_ hk_ => Or.elim hk_ (fun hs_ => fun e_ => Nat.not_le.2 hs_ (by rw [e_];exact ax.out)) (fun hn_ => (Kd.freshB (g := aa) (o := .cells #[.int .i64 ai,.slice aJ ah.length aL,.slice aN aj.length aO,.int .i64 an,.int .i64 ao] 28 (0,0)) (kM ac.out) k_ hn_)))) (below_size (bG HB.out)));replace ac := aK (blk_below (kM ac.out) hb);replace HB := aK (below_step (bG HB.out) hb);(try clear hb);(try clear hk);(try clear aS);(try clear aT))|((with_reducible refine gate_dst (N := 7) rfl ?_);refine box_event ?hg (N := 7) ?hd (cs := #[.int .i64 0,.slice none 0 0,.slice none 0 0,.int .i64 0,.int .i64 0]) (t := 28) ?hr ?_;(case hd => rfl);(case hg => rfl);(case hr => first|(go_simp;done)|(go_simp;rfl));intro ab hg cG hbox hb;replace ak := aK (Kd.V_below (Kd.V_elderB (vM ak.out) ab (Nat.le_of_eq hg.symm)) hb);replace al := aK (Kd.V_below (Kd.V_elderB (vM al.out) ab (Nat.le_of_eq hg.symm)) hb);have ap := aK (hbox);have aV := aK ((by rw [hg];exact (below_size (bG HB.out)) : w.heap.size ≤ ab));have bf := Ge.mk aV.out;have aW := aK ((by rw [hg];exact (below_size (bG HB.out)) : w.heap.size ≤ ab));have bg := Ge.mk aW.out;replace HB := aK (below_step (bG HB.out) hb);have af := aK (nbL ac.out hg);have au := aK (nbR ac.out hg);clear hb hbox hg;have ch := au.out;have ci := af.out;obtain ⟨_,_,_,_,_,_,_,_,_,_⟩ := bk5_ ap.out;obtain ⟨co,cp,b3⟩ := Kd.V_slice ak.out;subst b3;obtain ⟨cq,cr,b4⟩ := Kd.V_slice al.out;subst b4)|((with_reducible refine gate_callee (f := 14) rfl ?_);refine gL 27 Tryz.func14 #[.slice A0 l0.length c0] ?_;(with_reducible refine (history_Right.calls k _ _ l0 aP _ ?ag ?am A9.out).mono ?_);(case ag => exact Kd.C_below a2.out (bG HB.out));(case am => exact a3.out);rintro e cH ⟨rfl,hb⟩;refine ⟨_,rfl,?_⟩;replace HB := aK (below_step (bG HB.out) hb);(try clear hb);(try clear hk))|((with_reducible refine gate_callee (f := 15) rfl ?_);refine gL 29 Tryz.func15 #[.slice A0 l0.length c0] ?_;(with_reducible refine (r26_Right.calls k _ _ l0 aQ _ ?ag ?am bO.out).mono ?_);(case ag => exact cM (Kd.C_below a2.out HB.out));(case am => exact a3.out);rintro e cI ⟨rfl,hb⟩;refine ⟨_,rfl,?_⟩;replace HB := aK (below_step (bG HB.out) hb);(try clear hb);(try clear hk)))
    go_ret
    exact ⟨by first|rfl|(simp [errW_none,errW_some] <;> rfl)|(simp [*,errW_none,errW_some] <;> rfl),bG HB.out⟩
  ·replace c6 := Bool.eq_false_iff.mpr c6
   subst c6
   rw [if_neg (show ¬ (false = true) by decide)] at H
   obtain rfl := Option.some.inj H
   go_enter Tryz.func3,Tryz.ntmps3
   go_wp2_with (first|((with_reducible refine gate_callee (f := 10) rfl ?_);refine gL 9 Tryz.func10 #[] ?_;(with_reducible refine (l26_alive.calls k  true _ A3.out).mono ?_);rintro e cJ ⟨rfl,hb⟩;refine ⟨_,rfl,?_⟩;replace HB := aK (below_step (bM HB.out) hb);(try clear hb);(try clear hk))|((with_reducible refine gate_callee (f := 11) rfl ?_);refine gL 12 Tryz.func11 #[.slice A0 l0.length c0] ?_;(with_reducible refine (l26_few.calls k _ _ l0 false _ ?ag ?am A5.out).mono ?_);(case ag => exact cM (Kd.C_below a2.out HB.out));(case am => exact a3.out);rintro e w' ⟨rfl,⟨nd,rfl⟩⟩;refine ⟨_,rfl,?_⟩))
   go_ret
   exact ⟨by first|rfl|(simp [errW_none,errW_some] <;> rfl)|(simp [*,errW_none,errW_some] <;> rfl),bM HB.out⟩
 ·replace c4 := Bool.eq_false_iff.mpr c4
  subst c4
  rw [if_neg (show ¬ (false = true) by decide)] at H
  obtain rfl := Option.some.inj H
  go_enter Tryz.func3,Tryz.ntmps3
  go_wp2_with (first|((with_reducible refine gate_callee (f := 10) rfl ?_);refine gL 9 Tryz.func10 #[] ?_;(with_reducible refine (l26_alive.calls k  false _ A3.out).mono ?_);rintro e cK ⟨rfl,hb⟩;refine ⟨_,rfl,?_⟩;replace HB := aK (below_step (bM HB.out) hb);(try clear hb);(try clear hk)))
  go_ret
  exact ⟨by first|rfl|(simp [errW_none,errW_some] <;> rfl)|(simp [*,errW_none,errW_some] <;> rfl),bM HB.out⟩
end Go.Proofs.YtgadbpljlpclnaaGreatDoor.H
