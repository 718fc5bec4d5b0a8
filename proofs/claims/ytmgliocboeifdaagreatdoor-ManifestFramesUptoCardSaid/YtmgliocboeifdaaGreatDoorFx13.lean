import Derived.Test.YtmgliocboeifdaaGreatDoorFx0
import Derived.Test.YtmgliocboeifdaaGreatDoorFx11
import Derived.Test.YtmgliocboeifdaaGreatDoorFx12
namespace Go.Proofs.YtmgliocboeifdaaGreatDoor.F
open Go.RowKit Go.Proofs.YtmgliocboeifdaaGreatDoorW.PrintWords Go.Proofs.YtmgliocboeifdaaGreatDoorW.PrintLast Go.Proofs.YtmgliocboeifdaaGreatDoorW.PrintMore
attribute [local go_sem] max2_int min2_int max_two min_two max_three min_three max_four min_four
set_option linter.unusedVariables false
set_option linter.unusedSimpArgs false
mutual
def r33_Same.j0 : Nat → Bool → Int → Int → Int → List Int → List Int → List ByteArray → Int → Int → Int → List Int → List Int → List ByteArray → Option (Bool)
|0,_,_,_,_,_,_,_,_,_,_,_,_,_ => none
|k + 1,am,aa,ab,ac,ad,ae,af,ag,ah,ai,aj,ak,al => if am = true then (some false) else (r33_Same.l0 k 0 aa ab ac ad ae af ag ah ai aj ak al)
def r33_Same.l0 : Nat → Int → Int → Int → Int → List Int → List Int → List ByteArray → Int → Int → Int → List Int → List Int → List ByteArray → Option (Bool)
|0,_,_,_,_,_,_,_,_,_,_,_,_,_ => none
|k + 1,x5,ac,ad,ae,af,ag,aa,ah,ai,aj,ak,al,ab => if x5 < (aa.length : Int) then (if 0 ≤ x5 then (if x5 < (ab.length : Int) then (if (rdOf ByteArray.empty aa x5).toList = (rdOf ByteArray.empty ab x5).toList then (r33_Same.l0 k (wrap64 (x5 + 1)) ac ad ae af ag aa ah ai aj ak al ab) else (some false)) else (none)) else (none)) else (some true)
end
def r33_Same.f (k : Nat) (aa : Int) (ab : Int) (ac : Int) (ad : List Int) (ae : List Int) (af : List ByteArray) (ag : Int) (ah : Int) (ai : Int) (aj : List Int) (ak : List Int) (al : List ByteArray) : Option (Bool) := if aa = ag then (if ab = ah then (if ac = ai then ((r33_SameInts.f k ad aj).bind fun am => (if am = true then ((r33_SameInts.f k ae ak).bind fun an => (if an = true then (r33_Same.j0 k ((af.length : Int) != (al.length : Int)) aa ab ac ad ae af ag ah ai aj ak al) else (r33_Same.j0 k true aa ab ac ad ae af ag ah ai aj ak al))) else (r33_Same.j0 k true aa ab ac ad ae af ag ah ai aj ak al))) else (r33_Same.j0 k true aa ab ac ad ae af ag ah ai aj ak al)) else (r33_Same.j0 k true aa ab ac ad ae af ag ah ai aj ak al)) else (r33_Same.j0 k true aa ab ac ad ae af ag ah ai aj ak al)
theorem r33_Same.mono_l : ∀ k, (∀ y0 y1 y2 y3 y4 y5 y6 y7 y8 y9 y10 y11 y12, LeO (r33_Same.j0 k y0 y1 y2 y3 y4 y5 y6 y7 y8 y9 y10 y11 y12) (r33_Same.j0 (k + 1) y0 y1 y2 y3 y4 y5 y6 y7 y8 y9 y10 y11 y12)) ∧ (∀ y0 y1 y2 y3 y4 y5 y6 y7 y8 y9 y10 y11 y12, LeO (r33_Same.l0 k y0 y1 y2 y3 y4 y5 y6 y7 y8 y9 y10 y11 y12) (r33_Same.l0 (k + 1) y0 y1 y2 y3 y4 y5 y6 y7 y8 y9 y10 y11 y12))
|0 => ⟨fun _ _ _ _ _ _ _ _ _ _ _ _ _ r h => by simp [r33_Same.j0] at h,fun _ _ _ _ _ _ _ _ _ _ _ _ _ r h => by simp [r33_Same.l0] at h⟩
|k + 1 => by
  obtain ⟨ih0,ih1⟩ := r33_Same.mono_l k
  refine ⟨?_,?_⟩
  ·intro y0 y1 y2 y3 y4 y5 y6 y7 y8 y9 y10 y11 y12
   unfold r33_Same.j0
   repeat' (with_reducible first|exact ih1 _ _ _ _ _ _ _ _ _ _ _ _ _|exact LeO.refl _|exact LeO.none _|refine LeO.ite ?_ ?_|refine LeO.bind ?_ (fun _ => ?_))
  ·intro y0 y1 y2 y3 y4 y5 y6 y7 y8 y9 y10 y11 y12
   unfold r33_Same.l0
   repeat' (with_reducible first|exact ih1 _ _ _ _ _ _ _ _ _ _ _ _ _|exact LeO.refl _|exact LeO.none _|refine LeO.ite ?_ ?_|refine LeO.bind ?_ (fun _ => ?_))
theorem r33_Same.mono : ∀ a0 a1 a2 a3 a4 a5 a6 a7 a8 a9 a10 a11 k, LeO (r33_Same.f k a0 a1 a2 a3 a4 a5 a6 a7 a8 a9 a10 a11) (r33_Same.f (k + 1) a0 a1 a2 a3 a4 a5 a6 a7 a8 a9 a10 a11) := by
 intro a0 a1 a2 a3 a4 a5 a6 a7 a8 a9 a10 a11 k
 obtain ⟨ih0,ih1⟩ := r33_Same.mono_l k
 unfold r33_Same.f
 repeat' (with_reducible first|exact ih0 _ _ _ _ _ _ _ _ _ _ _ _ _|exact ih1 _ _ _ _ _ _ _ _ _ _ _ _ _|exact r33_SameInts.mono _ _ _|exact LeO.refl _|exact LeO.none _|refine LeO.ite ?_ ?_|refine LeO.bind ?_ (fun _ => ?_))
set_option maxHeartbeats 4000000 in
set_option maxRecDepth 100000 in
theorem r33_Same.calls (k : Nat) (az : Int) (aA : Int) (aB : Int) (aO : Option Addr) (aP : Nat) (ai : List Int) (aQ : Option Addr) (aR : Nat) (al : List Int) (aS : Option Addr) (aT : Nat) (an : List ByteArray) (aC : Int) (aD : Int) (aE : Int) (aU : Option Addr) (aV : Nat) (aj : List Int) (aW : Option Addr) (aX : Nat) (am : List Int) (aY : Option Addr) (aZ : Nat) (ao : List ByteArray) (r : Bool) (w : World) (a6 : Kd.C (Kd.int .i64) w aO ai.length ai) (a7 : ai.length ≤ aP) (a8 : Kd.C (Kd.int .i64) w aQ al.length al) (a9 : al.length ≤ aR) (ba : Kd.C Kd.string w aS an.length an) (bb : an.length ≤ aT) (bc : Kd.C (Kd.int .i64) w aU aj.length aj) (bd : aj.length ≤ aV) (be : Kd.C (Kd.int .i64) w aW am.length am) (bf : am.length ≤ aX) (bg : Kd.C Kd.string w aY ao.length ao) (bh : ao.length ≤ aZ) (h : r33_Same.f k az aA aB ai al an aC aD aE aj am ao = some r) :
  Calls Tryz.prog 14 #[.agg #[.int .i64 az,.int .i64 aA,.int .i64 aB,.slice aO ai.length aP,.slice aQ al.length aR,.slice aS an.length aT],.agg #[.int .i64 aC,.int .i64 aD,.int .i64 aE,.slice aU aj.length aV,.slice aW am.length aX,.slice aY ao.length aZ]] w fun e w' => e = .returned (.bool r) ∧ Below w.heap.size w w' := by
 have cf := Tryz.underlying30
 have ar := aK a6
 have au := aK a7
 clear a6 a7
 have aF := aK a8
 have aG := aK a9
 clear a8 a9
 have bi := aK ba
 have bP := aK bb
 clear ba bb
 have av := aK bc
 have aw := aK bd
 clear bc bd
 have aH := aK be
 have aI := aK bf
 clear be bf
 have bj := aK bg
 have bQ := aK bh
 clear bg bh
 have HB := aK (Below.refl w.heap.size w)
 unfold r33_Same.f at h
 have H := h
 clear h
 have bH := aK H
 clear H
 go_enter Tryz.func14,Tryz.ntmps14
 go_upto_region 1 with (first|((with_reducible refine gate_dst (N := 2) rfl ?_);(try (refine gate_guard (by rfl) ?_;dsimp only));refine box_event ?hg (N := 2) ?hd (cs := #[.int .i64 az,.int .i64 aA,.int .i64 aB,.slice aO ai.length aP,.slice aQ al.length aR,.slice aS an.length aT]) (t := 30) ?hr ?_;(case hd => rfl);(case hg => rfl);(case hr => first|(go_simp;done)|(go_simp;rfl));intro ap hg w4 hbox hb;have aa := aK (hbox);have aJ := aK ((by rw [hg];exact (below_size (bM HB.out)) : w.heap.size ≤ ap));have bk := Ge.mk aJ.out;have aL := aK ((by rw [hg];exact (below_size (bM HB.out)) : w.heap.size ≤ ap));have bm := Ge.mk aL.out;replace HB := aK (below_step (bM HB.out) hb);clear hb hbox hg)|((with_reducible refine gate_dst (N := 3) rfl ?_);(try (refine gate_guard (by rfl) ?_;dsimp only));refine box_event ?hg (N := 3) ?hd (cs := #[.int .i64 aC,.int .i64 aD,.int .i64 aE,.slice aU aj.length aV,.slice aW am.length aX,.slice aY ao.length aZ]) (t := 30) ?hr ?_;(case hd => rfl);(case hg => rfl);(case hr => first|(go_simp;done)|(go_simp;rfl));intro aq hg w5 hbox hb;have ah := aK (hbox);have aM := aK ((by rw [hg];exact (below_size (bG HB.out)) : w.heap.size ≤ aq));have bn := Ge.mk aM.out;have aN := aK ((by rw [hg];exact (below_size (bG HB.out)) : w.heap.size ≤ aq));have bo := Ge.mk aN.out;replace HB := aK (below_step (bG HB.out) hb);have af := aK (nbL aa.out hg);have ag := aK (nbR aa.out hg);replace aa := aK (blk_below (kM aa.out) hb);clear hb hbox hg))
 repeat (go_quiet (first|((with_reducible refine gate_dst (N := 2) rfl ?_);(try (refine gate_guard (by rfl) ?_;dsimp only));refine box_event ?hg (N := 2) ?hd (cs := #[.int .i64 az,.int .i64 aA,.int .i64 aB,.slice aO ai.length aP,.slice aQ al.length aR,.slice aS an.length aT]) (t := 30) ?hr ?_;(case hd => rfl);(case hg => rfl);(case hr => first|(go_simp;done)|(go_simp;rfl));intro ap hg w4 hbox hb;have aa := aK (hbox);have aJ := aK ((by rw [hg];exact (below_size (bM HB.out)) : w.heap.size ≤ ap));have bk := Ge.mk aJ.out;have aL := aK ((by rw [hg];exact (below_size (bM HB.out)) : w.heap.size ≤ ap));have bm := Ge.mk aL.out;replace HB := aK (below_step (bM HB.out) hb);clear hb hbox hg)|((with_reducible refine gate_dst (N := 3) rfl ?_);(try (refine gate_guard (by rfl) ?_;dsimp only));refine box_event ?hg (N := 3) ?hd (cs := #[.int .i64 aC,.int .i64 aD,.int .i64 aE,.slice aU aj.length aV,.slice aW am.length aX,.slice aY ao.length aZ]) (t := 30) ?hr ?_;(case hd => rfl);(case hg => rfl);(case hr => first|(go_simp;done)|(go_simp;rfl));intro aq hg w5 hbox hb;have ah := aK (hbox);have aM := aK ((by rw [hg];exact (below_size (bG HB.out)) : w.heap.size ≤ aq));have bn := Ge.mk aM.out;have aN := aK ((by rw [hg];exact (below_size (bG HB.out)) : w.heap.size ≤ aq));have bo := Ge.mk aN.out;replace HB := aK (below_step (bG HB.out) hb);have af := aK (nbL aa.out hg);have ag := aK (nbR aa.out hg);replace aa := aK (blk_below (kM aa.out) hb);clear hb hbox hg));go_upto_region 1 with (first|((with_reducible refine gate_dst (N := 2) rfl ?_);(try (refine gate_guard (by rfl) ?_;dsimp only));refine box_event ?hg (N := 2) ?hd (cs := #[.int .i64 az,.int .i64 aA,.int .i64 aB,.slice aO ai.length aP,.slice aQ al.length aR,.slice aS an.length aT]) (t := 30) ?hr ?_;(case hd => rfl);(case hg => rfl);(case hr => first|(go_simp;done)|(go_simp;rfl));intro ap hg w4 hbox hb;have aa := aK (hbox);have aJ := aK ((by rw [hg];exact (below_size (bM HB.out)) : w.heap.size ≤ ap));have bk := Ge.mk aJ.out;have aL := aK ((by rw [hg];exact (below_size (bM HB.out)) : w.heap.size ≤ ap));have bm := Ge.mk aL.out;replace HB := aK (below_step (bM HB.out) hb);clear hb hbox hg)|((with_reducible refine gate_dst (N := 3) rfl ?_);(try (refine gate_guard (by rfl) ?_;dsimp only));refine box_event ?hg (N := 3) ?hd (cs := #[.int .i64 aC,.int .i64 aD,.int .i64 aE,.slice aU aj.length aV,.slice aW am.length aX,.slice aY ao.length aZ]) (t := 30) ?hr ?_;(case hd => rfl);(case hg => rfl);(case hr => first|(go_simp;done)|(go_simp;rfl));intro aq hg w5 hbox hb;have ah := aK (hbox);have aM := aK ((by rw [hg];exact (below_size (bG HB.out)) : w.heap.size ≤ aq));have bn := Ge.mk aM.out;have aN := aK ((by rw [hg];exact (below_size (bG HB.out)) : w.heap.size ≤ aq));have bo := Ge.mk aN.out;replace HB := aK (below_step (bG HB.out) hb);have af := aK (nbL aa.out hg);have ag := aK (nbR aa.out hg);replace aa := aK (blk_below (kM aa.out) hb);clear hb hbox hg)))
 (try simp only [Act.put,z1_,z2_,z3_])
 go_cut [49] (fun cg wc => ∃ (kq : Nat) (a4 : Bool),cg = .bool a4 ∧ Aside0 (r33_Same.j0 kq a4 az aA aB ai al an aC aD aE aj am ao = some r) ∧ Aside0 (kq ≤ k) ∧ Aside0 (wc.heap[ap]? = some (.cells #[.int .i64 az,.int .i64 aA,.int .i64 aB,(.slice aO ai.length aP),(.slice aQ al.length aR),(.slice aS an.length aT)] 30 (0,0))) ∧ Aside0 (wc.heap[aq]? = some (.cells #[.int .i64 aC,.int .i64 aD,.int .i64 aE,(.slice aU aj.length aV),(.slice aW am.length aX),(.slice aY ao.length aZ)] 30 (0,0))) ∧ Aside0 (Below w.heap.size w wc))
 case first =>
  have H := bH.out
  clear bH
  by_cases c6 : az = aC
  ·rw [if_pos c6] at H
   have a5 := beq_iff_eq.mpr c6
   have bp := bne_eq_false_iff_eq.mpr c6
   clear c6
   (first|rw [a5]|(simp only [i64_w,i32_w];rw [a5])|rw [bp]|skip)
   by_cases c7 : aA = aD
   ·rw [if_pos c7] at H
    have bI := beq_iff_eq.mpr c7
    have bJ := bne_eq_false_iff_eq.mpr c7
    clear c7
    by_cases c8 : aB = aE
    ·rw [if_pos c8] at H
     have bK := beq_iff_eq.mpr c8
     have bL := bne_eq_false_iff_eq.mpr c8
     clear c8
     replace H := Option.bind_eq_some_iff.mp H
     obtain ⟨bN,bR,H⟩ := H
     have A9 := aK bR
     clear bR
     by_cases c10 : bN = true
     ·subst c10
      rw [if_pos rfl] at H
      replace H := Option.bind_eq_some_iff.mp H
      obtain ⟨bO,bx,H⟩ := H
      have bu := aK bx
      clear bx
      by_cases bF : bO = true
      ·subst bF
       rw [if_pos rfl] at H
       have H' := aK H
       clear H
       have bS := af.out
       have bT := ag.out
       obtain ⟨_,_,_,_,_,_,_,_,_,_,_,_⟩ := bk6_ aa.out
       obtain ⟨_,_,_,_,_,_,_,_,_,_,_,_⟩ := bk6_ ah.out
       go_wp2_with (first|(go_at_call 21;(with_reducible refine (r33_SameInts.calls k _ _ ai _ _ aj true _ ?ab ?ac ?ad ?ae A9.out).mono ?_);(case ab => exact cM (Kd.C_below ar.out HB.out));(case ac => exact au.out);(case ad => exact cM (Kd.C_below av.out HB.out));(case ae => exact aw.out);rintro e w' ⟨rfl,⟨nd,rfl⟩⟩;(try first|exact ⟨rfl,_,World.drewN_drewN _ _ _⟩|exact ⟨rfl,_,Eq.trans (World.drewN_drewN _ _ _) (congrArg (World.drewN _) (Nat.add_assoc _ _ _))⟩))|(go_at_call 21;(with_reducible refine (r33_SameInts.calls k _ _ al _ _ am true _ ?ab ?ac ?ad ?ae bu.out).mono ?_);(case ab => exact Kd.C_below aF.out (bG HB.out));(case ac => exact aG.out);(case ad => exact Kd.C_below aH.out (bG HB.out));(case ae => exact aI.out);rintro e w' ⟨rfl,⟨nd,rfl⟩⟩;(try first|exact ⟨rfl,_,World.drewN_drewN _ _ _⟩|exact ⟨rfl,_,Eq.trans (World.drewN_drewN _ _ _) (congrArg (World.drewN _) (Nat.add_assoc _ _ _))⟩)))
       repeat (go_quiet (first|(go_at_call 21;(with_reducible refine (r33_SameInts.calls k _ _ ai _ _ aj true _ ?ab ?ac ?ad ?ae A9.out).mono ?_);(case ab => exact cM (Kd.C_below ar.out HB.out));(case ac => exact au.out);(case ad => exact cM (Kd.C_below av.out HB.out));(case ae => exact aw.out);rintro e w' ⟨rfl,⟨nd,rfl⟩⟩;(try first|exact ⟨rfl,_,World.drewN_drewN _ _ _⟩|exact ⟨rfl,_,Eq.trans (World.drewN_drewN _ _ _) (congrArg (World.drewN _) (Nat.add_assoc _ _ _))⟩))|(go_at_call 21;(with_reducible refine (r33_SameInts.calls k _ _ al _ _ am true _ ?ab ?ac ?ad ?ae bu.out).mono ?_);(case ab => exact Kd.C_below aF.out (bG HB.out));(case ac => exact aG.out);(case ad => exact Kd.C_below aH.out (bG HB.out));(case ae => exact aI.out);rintro e w' ⟨rfl,⟨nd,rfl⟩⟩;(try first|exact ⟨rfl,_,World.drewN_drewN _ _ _⟩|exact ⟨rfl,_,Eq.trans (World.drewN_drewN _ _ _) (congrArg (World.drewN _) (Nat.add_assoc _ _ _))⟩)));try go_wp2_with (first|(go_at_call 21;(with_reducible refine (r33_SameInts.calls k _ _ ai _ _ aj true _ ?ab ?ac ?ad ?ae A9.out).mono ?_);(case ab => exact cM (Kd.C_below ar.out HB.out));(case ac => exact au.out);(case ad => exact cM (Kd.C_below av.out HB.out));(case ae => exact aw.out);rintro e w' ⟨rfl,⟨nd,rfl⟩⟩;(try first|exact ⟨rfl,_,World.drewN_drewN _ _ _⟩|exact ⟨rfl,_,Eq.trans (World.drewN_drewN _ _ _) (congrArg (World.drewN _) (Nat.add_assoc _ _ _))⟩))|(go_at_call 21;(with_reducible refine (r33_SameInts.calls k _ _ al _ _ am true _ ?ab ?ac ?ad ?ae bu.out).mono ?_);(case ab => exact Kd.C_below aF.out (bG HB.out));(case ac => exact aG.out);(case ad => exact Kd.C_below aH.out (bG HB.out));(case ae => exact aI.out);rintro e w' ⟨rfl,⟨nd,rfl⟩⟩;(try first|exact ⟨rfl,_,World.drewN_drewN _ _ _⟩|exact ⟨rfl,_,Eq.trans (World.drewN_drewN _ _ _) (congrArg (World.drewN _) (Nat.add_assoc _ _ _))⟩))))
       go_meet
       case rel => exact ⟨_,(((an.length : Int) != (ao.length : Int))),(by first|rfl|(simp;done)|(simp [*];done)),H',⟨by first|omega|exact Nat.le_refl _⟩,⟨kM aa.out⟩,⟨kM ah.out⟩,⟨bG HB.out⟩⟩
      ·replace bF := Bool.eq_false_iff.mpr bF
       subst bF
       rw [if_neg (show ¬ (false = true) by decide)] at H
       have H' := aK H
       clear H
       have bU := af.out
       have bV := ag.out
       obtain ⟨_,_,_,_,_,_,_,_,_,_,_,_⟩ := bk6_ aa.out
       obtain ⟨_,_,_,_,_,_,_,_,_,_,_,_⟩ := bk6_ ah.out
       go_wp2_with (first|(go_at_call 21;(with_reducible refine (r33_SameInts.calls k _ _ ai _ _ aj true _ ?ab ?ac ?ad ?ae A9.out).mono ?_);(case ab => exact cM (Kd.C_below ar.out HB.out));(case ac => exact au.out);(case ad => exact cM (Kd.C_below av.out HB.out));(case ae => exact aw.out);rintro e w' ⟨rfl,⟨nd,rfl⟩⟩;(try first|exact ⟨rfl,_,World.drewN_drewN _ _ _⟩|exact ⟨rfl,_,Eq.trans (World.drewN_drewN _ _ _) (congrArg (World.drewN _) (Nat.add_assoc _ _ _))⟩))|(go_at_call 21;(with_reducible refine (r33_SameInts.calls k _ _ al _ _ am false _ ?ab ?ac ?ad ?ae bu.out).mono ?_);(case ab => exact Kd.C_below aF.out (bG HB.out));(case ac => exact aG.out);(case ad => exact Kd.C_below aH.out (bG HB.out));(case ae => exact aI.out);rintro e w' ⟨rfl,⟨nd,rfl⟩⟩;(try first|exact ⟨rfl,_,World.drewN_drewN _ _ _⟩|exact ⟨rfl,_,Eq.trans (World.drewN_drewN _ _ _) (congrArg (World.drewN _) (Nat.add_assoc _ _ _))⟩)))
       repeat (go_quiet (first|(go_at_call 21;(with_reducible refine (r33_SameInts.calls k _ _ ai _ _ aj true _ ?ab ?ac ?ad ?ae A9.out).mono ?_);(case ab => exact cM (Kd.C_below ar.out HB.out));(case ac => exact au.out);(case ad => exact cM (Kd.C_below av.out HB.out));(case ae => exact aw.out);rintro e w' ⟨rfl,⟨nd,rfl⟩⟩;(try first|exact ⟨rfl,_,World.drewN_drewN _ _ _⟩|exact ⟨rfl,_,Eq.trans (World.drewN_drewN _ _ _) (congrArg (World.drewN _) (Nat.add_assoc _ _ _))⟩))|(go_at_call 21;(with_reducible refine (r33_SameInts.calls k _ _ al _ _ am false _ ?ab ?ac ?ad ?ae bu.out).mono ?_);(case ab => exact Kd.C_below aF.out (bG HB.out));(case ac => exact aG.out);(case ad => exact Kd.C_below aH.out (bG HB.out));(case ae => exact aI.out);rintro e w' ⟨rfl,⟨nd,rfl⟩⟩;(try first|exact ⟨rfl,_,World.drewN_drewN _ _ _⟩|exact ⟨rfl,_,Eq.trans (World.drewN_drewN _ _ _) (congrArg (World.drewN _) (Nat.add_assoc _ _ _))⟩)));try go_wp2_with (first|(go_at_call 21;(with_reducible refine (r33_SameInts.calls k _ _ ai _ _ aj true _ ?ab ?ac ?ad ?ae A9.out).mono ?_);(case ab => exact cM (Kd.C_below ar.out HB.out));(case ac => exact au.out);(case ad => exact cM (Kd.C_below av.out HB.out));(case ae => exact aw.out);rintro e w' ⟨rfl,⟨nd,rfl⟩⟩;(try first|exact ⟨rfl,_,World.drewN_drewN _ _ _⟩|exact ⟨rfl,_,Eq.trans (World.drewN_drewN _ _ _) (congrArg (World.drewN _) (Nat.add_assoc _ _ _))⟩))|(go_at_call 21;(with_reducible refine (r33_SameInts.calls k _ _ al _ _ am false _ ?ab ?ac ?ad ?ae bu.out).mono ?_);(case ab => exact Kd.C_below aF.out (bG HB.out));(case ac => exact aG.out);(case ad => exact Kd.C_below aH.out (bG HB.out));(case ae => exact aI.out);rintro e w' ⟨rfl,⟨nd,rfl⟩⟩;(try first|exact ⟨rfl,_,World.drewN_drewN _ _ _⟩|exact ⟨rfl,_,Eq.trans (World.drewN_drewN _ _ _) (congrArg (World.drewN _) (Nat.add_assoc _ _ _))⟩))))
       go_meet
       case rel => exact ⟨_,(true),(by first|rfl|(simp;done)|(simp [*];done)),H',⟨by first|omega|exact Nat.le_refl _⟩,⟨kM aa.out⟩,⟨kM ah.out⟩,⟨bG HB.out⟩⟩
     ·replace c10 := Bool.eq_false_iff.mpr c10
      subst c10
      rw [if_neg (show ¬ (false = true) by decide)] at H
      have H' := aK H
      clear H
      have bW := af.out
      have bX := ag.out
      obtain ⟨_,_,_,_,_,_,_,_,_,_,_,_⟩ := bk6_ aa.out
      obtain ⟨_,_,_,_,_,_,_,_,_,_,_,_⟩ := bk6_ ah.out
      go_wp2_with (first|(go_at_call 21;(with_reducible refine (r33_SameInts.calls k _ _ ai _ _ aj false _ ?ab ?ac ?ad ?ae A9.out).mono ?_);(case ab => exact cM (Kd.C_below ar.out HB.out));(case ac => exact au.out);(case ad => exact cM (Kd.C_below av.out HB.out));(case ae => exact aw.out);rintro e w' ⟨rfl,⟨nd,rfl⟩⟩;(try first|exact ⟨rfl,_,World.drewN_drewN _ _ _⟩|exact ⟨rfl,_,Eq.trans (World.drewN_drewN _ _ _) (congrArg (World.drewN _) (Nat.add_assoc _ _ _))⟩)))
      repeat (go_quiet (first|(go_at_call 21;(with_reducible refine (r33_SameInts.calls k _ _ ai _ _ aj false _ ?ab ?ac ?ad ?ae A9.out).mono ?_);(case ab => exact cM (Kd.C_below ar.out HB.out));(case ac => exact au.out);(case ad => exact cM (Kd.C_below av.out HB.out));(case ae => exact aw.out);rintro e w' ⟨rfl,⟨nd,rfl⟩⟩;(try first|exact ⟨rfl,_,World.drewN_drewN _ _ _⟩|exact ⟨rfl,_,Eq.trans (World.drewN_drewN _ _ _) (congrArg (World.drewN _) (Nat.add_assoc _ _ _))⟩)));try go_wp2_with (first|(go_at_call 21;(with_reducible refine (r33_SameInts.calls k _ _ ai _ _ aj false _ ?ab ?ac ?ad ?ae A9.out).mono ?_);(case ab => exact cM (Kd.C_below ar.out HB.out));(case ac => exact au.out);(case ad => exact cM (Kd.C_below av.out HB.out));(case ae => exact aw.out);rintro e w' ⟨rfl,⟨nd,rfl⟩⟩;(try first|exact ⟨rfl,_,World.drewN_drewN _ _ _⟩|exact ⟨rfl,_,Eq.trans (World.drewN_drewN _ _ _) (congrArg (World.drewN _) (Nat.add_assoc _ _ _))⟩))))
      go_meet
      case rel => exact ⟨_,(true),(by first|rfl|(simp;done)|(simp [*];done)),H',⟨by first|omega|exact Nat.le_refl _⟩,⟨kM aa.out⟩,⟨kM ah.out⟩,⟨bG HB.out⟩⟩
    ·rw [if_neg c8] at H
     have bK := beq_eq_false_iff_ne.mpr c8
     have bL := bne_iff_ne.mpr c8
     have H' := aK H
     clear H
     have bY := af.out
     have bZ := ag.out
     obtain ⟨_,_,_,_,_,_,_,_,_,_,_,_⟩ := bk6_ aa.out
     obtain ⟨_,_,_,_,_,_,_,_,_,_,_,_⟩ := bk6_ ah.out
     go_wp2
     repeat (go_quiet (fail);try go_wp2)
     go_meet
     case rel => exact ⟨_,(true),(by first|rfl|(simp;done)|(simp [*];done)),H',⟨by first|omega|exact Nat.le_refl _⟩,⟨kM aa.out⟩,⟨kM ah.out⟩,⟨bG HB.out⟩⟩
   ·rw [if_neg c7] at H
    have bI := beq_eq_false_iff_ne.mpr c7
    have bJ := bne_iff_ne.mpr c7
    have H' := aK H
    clear H
    have b0 := af.out
    have b1 := ag.out
    obtain ⟨_,_,_,_,_,_,_,_,_,_,_,_⟩ := bk6_ aa.out
    obtain ⟨_,_,_,_,_,_,_,_,_,_,_,_⟩ := bk6_ ah.out
    go_wp2
    repeat (go_quiet (fail);try go_wp2)
    go_meet
    case rel => exact ⟨_,(true),(by first|rfl|(simp;done)|(simp [*];done)),H',⟨by first|omega|exact Nat.le_refl _⟩,⟨kM aa.out⟩,⟨kM ah.out⟩,⟨bG HB.out⟩⟩
  ·rw [if_neg c6] at H
   have a5 := beq_eq_false_iff_ne.mpr c6
   have bp := bne_iff_ne.mpr c6
   (first|rw [a5]|(simp only [i64_w,i32_w];rw [a5])|rw [bp]|skip)
   have H' := aK H
   clear H
   have b2 := af.out
   have b3 := ag.out
   obtain ⟨_,_,_,_,_,_,_,_,_,_,_,_⟩ := bk6_ aa.out
   obtain ⟨_,_,_,_,_,_,_,_,_,_,_,_⟩ := bk6_ ah.out
   go_wp2
   repeat (go_quiet (fail);try go_wp2)
   go_meet
   case rel => exact ⟨_,(true),(by first|rfl|(simp;done)|(simp [*];done)),H',⟨by first|omega|exact Nat.le_refl _⟩,⟨kM aa.out⟩,⟨kM ah.out⟩,⟨bG HB.out⟩⟩
 case rest =>
  clear bH
  try clear p2
  obtain ⟨kq,a4,rfl,HA,b4,aa,ah,HB⟩ := hcut
  cases kq with
 |zero => exact absurd HA.out (by simp [r33_Same.j0])
 |succ kj2 =>
   have H := HA.out
   clear HA
   simp only [r33_Same.j0] at H
   by_cases c31 : a4 = true
   ·subst c31
    rw [if_pos rfl] at H
    obtain rfl := Option.some.inj H
    go_wp2
    repeat (go_quiet (fail);try go_wp2)
    go_ret
    exact ⟨by first|rfl|(simp [errW_none,errW_some] <;> rfl)|(simp [*,errW_none,errW_some] <;> rfl),bG HB.out⟩
   ·replace c31 := Bool.eq_false_iff.mpr c31
    subst c31
    rw [if_neg (show ¬ (false = true) by decide)] at H
    have H' := aK H
    clear H
    go_wp2
    repeat (go_quiet (fail);try go_wp2)
    go_loopg [5] kj2 (fun kq v5 w' => ∃ (ak : Int),v5 = .int .i64 ak ∧ Aside0 (r33_Same.l0 kq ak az aA aB ai al an aC aD aE aj am ao = some r) ∧ Aside0 (kq ≤ kj2) ∧ Aside0 (w'.heap[ap]? = some (.cells #[.int .i64 az,.int .i64 aA,.int .i64 aB,(.slice aO ai.length aP),(.slice aQ al.length aR),(.slice aS an.length aT)] 30 (0,0))) ∧ Aside0 (w'.heap[aq]? = some (.cells #[.int .i64 aC,.int .i64 aD,.int .i64 aE,(.slice aU aj.length aV),(.slice aW am.length aX),(.slice aY ao.length aZ)] 30 (0,0))) ∧ Aside0 (Below w.heap.size w w'))
    case atStart => exact ⟨(0),(by first|rfl|(simp;done)|(simp [*];done)),H',⟨Nat.le_refl _⟩,⟨kM aa.out⟩,⟨kM ah.out⟩,⟨bG HB.out⟩⟩
    case round =>
     clear H'
     try clear p2
     try clear c31
     try clear p2
     obtain ⟨ak,rfl,HA,b5,aa,ah,HB⟩ := hrel
     cases gk with
    |zero => exact absurd HA.out (by simp [r33_Same.l0])
    |succ k2 =>
      have H := HA.out
      clear HA
      simp only [r33_Same.l0] at H
      by_cases bv : ak < (an.length : Int)
      ·rw [if_pos bv] at H
       have bz := decide_eq_true bv
       clear bv
       obtain ⟨b6,H⟩ := iS H
       have b7 := decide_eq_true b6
       clear b6
       obtain ⟨c34,H⟩ := iS H
       have b8 := decide_eq_true c34
       clear c34
       by_cases bq : (rdOf ByteArray.empty an ak).toList = (rdOf ByteArray.empty ao ak).toList
       ·rw [if_pos bq] at H
        have bB := beq_iff_eq.mpr bq
        have bC := bne_eq_false_iff_eq.mpr bq
        clear bq
        have H' := aK H
        clear H
        have b9 := af.out
        have ca := ag.out
        obtain ⟨_,_,_,_,_,_,_,_,_,_,_,_⟩ := bk6_ aa.out
        have a0 : 0 ≤ (ak : Int) := dA
        have a1 : ak < (an.length : Int) := dA
        obtain ⟨bD,br,ax⟩ := Kd.at_string bi.out ak a0 a1
        cases br
        replace ax := xM HB ax
        replace a0 := eq_true a0
        replace a1 := eq_true a1
        obtain ⟨_,_,_,_,_,_,_,_,_,_,_,_⟩ := bk6_ ah.out
        have a2 : 0 ≤ (ak : Int) := dA
        have a3 : ak < (ao.length : Int) := dA
        obtain ⟨bE,bs,ay⟩ := Kd.at_string bj.out ak a2 a3
        cases bs
        replace ay := xM HB ay
        replace a2 := eq_true a2
        replace a3 := eq_true a3
        go_wp2
        repeat (go_quiet (fail);try go_wp2)
        go_roundg k2
        case measure => have := b4.out;have := b5.out;omega
        case rel => exact ⟨(wrap64 (ak + 1)),(by first|rfl|(simp;done)|(simp [*];done)),H',⟨by have := b4.out;have := b5.out;omega⟩,⟨kM aa.out⟩,⟨kM ah.out⟩,⟨bG HB.out⟩⟩
       ·rw [if_neg bq] at H
        have bB := beq_eq_false_iff_ne.mpr bq
        have bC := bne_iff_ne.mpr bq
        obtain rfl := Option.some.inj H
        have cb := af.out
        have cc := ag.out
        obtain ⟨_,_,_,_,_,_,_,_,_,_,_,_⟩ := bk6_ aa.out
        have a0 : 0 ≤ (ak : Int) := dA
        have a1 : ak < (an.length : Int) := dA
        obtain ⟨bD,br,ax⟩ := Kd.at_string bi.out ak a0 a1
        cases br
        replace ax := xM HB ax
        replace a0 := eq_true a0
        replace a1 := eq_true a1
        obtain ⟨_,_,_,_,_,_,_,_,_,_,_,_⟩ := bk6_ ah.out
        have a2 : 0 ≤ (ak : Int) := dA
        have a3 : ak < (ao.length : Int) := dA
        obtain ⟨bE,bs,ay⟩ := Kd.at_string bj.out ak a2 a3
        cases bs
        replace ay := xM HB ay
        replace a2 := eq_true a2
        replace a3 := eq_true a3
        go_wp2
        repeat (go_quiet (fail);try go_wp2)
        go_ret
        exact ⟨by first|rfl|(simp [errW_none,errW_some] <;> rfl)|(simp [*,errW_none,errW_some] <;> rfl),bG HB.out⟩
      ·rw [if_neg bv] at H
       have bz := decide_eq_false bv
       clear bv
       obtain rfl := Option.some.inj H
       have cd := af.out
       have ce := ag.out
       obtain ⟨_,_,_,_,_,_,_,_,_,_,_,_⟩ := bk6_ aa.out
       go_wp2
       repeat (go_quiet (fail);try go_wp2)
       go_ret
       exact ⟨by first|rfl|(simp [errW_none,errW_some] <;> rfl)|(simp [*,errW_none,errW_some] <;> rfl),bG HB.out⟩
end Go.Proofs.YtmgliocboeifdaaGreatDoor.F
